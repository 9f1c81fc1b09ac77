/- What is proved: whatever the numbers, the law WolfRepaired answers true. Conditions: none beyond the statement's own. -/
import Derived.Test.YtjcgijifamcggaaGreatP22
import Derived.Test.YtjcgijifamcggaaGreatP00
import Derived.Test.YtjcgijifamcggaaGreatP25
import Derived.Test.YtjcgijifamcggaaGreatP21
import Derived.Test.YtjcgijifamcggaaGreatRows
import Derived.Test.YtjcgijifamcggaaGreatChecked
import Derived.Conc.HoldsTime
import Derived.ProofKit
import Derived.ClosedOfChecked
import Derived.Conc.LeavingOf
set_option linter.all false
set_option maxHeartbeats 6400000
set_option maxRecDepth 1000000
namespace Go.Proofs.YtjcgijifamcggaaGreat
open Go.RowKit Go.Sq
def rn (nn mm:Nat)(JS:1<=nn)(hnn:nn<=5)(hm0:1<=mm)(hmm:mm<=4)(hb B:Nat)(A:Option Addr)(cap:Nat)(l:List Int)(N:Nat)(w:World)(h:Hand w hb B A cap l N)(hN:N<=10000) :
  Calls AG 14 #[.pointer (some ⟨hb,0,none⟩),.int .i64 nn,.int .i64 mm] w λe w'=>∃c nA hA nc hc,e=.returned (Bp nA hA c nc hc)/\c.Ok/\Bi c=0/\(c.AK.length<=nn/\c.AH.length<=mm)/\F8 w' (λb=>w.heap.size<=b/\b<w'.heap.size) nA c.AK/\Ed w' (λb=>w.heap.size<=b/\b<w'.heap.size) hA c.AH/\Hand w' hb B A cap l (N+1000)/\KH hb w w':=by
 obtain⟨W0,hW0⟩:∃W0:World,W0=(w.alloc (.cells #[.slice none 0 0,.slice none 0 0] 27)).alloc (.cells #[.slice none 0 0,.slice none 0 0] 27):=⟨_,rfl⟩;have hg0:Gr w W0:=hW0▸((Gr.refl w).alloc _).alloc _;have HZ0:Hid (W0.heap.size=w.heap.size+2):=xl (by rw[hW0];simp);have HH:=xl (h.gr hg0);have hlt:=h.lt;have HW:=xl hW0;have Ds:=xl hg0;have HAM:=xl (dX hb B A cap l N 1 nn W0 (h.gr hg0) (by omega) (by omega) (by omega))
 have ahh:Hid (CO w hb B A cap l N (w.heap.size+2) (.slice none 0 0) [] W0):=xl ⟨h.gr hg0,by rw[hW0];exact ap _ _ (by simp),by rw[hW0,heap_alloc_old _ _ (by simp)];exact heap_alloc_new _ _,x9 _ _ _ _,⟨hg0.below.os,hg0.below.tape,hg0.below.output,hg0.drawn,hg0.size,λb hb' _=>hg0.below.block b hb'⟩,hlt,by rw[hW0];simp⟩;clear hW0 hg0 h;go_enter Sq.func14,Tryz.ntmps14;go_wp2_with fail;rw[<-HW.out];refine HAM.out.mono ?_
 rintro e w1 ⟨⟨n,rfl,Hu,Su⟩,hh,CZ⟩;have Uh:=xl (ahh.out.H8 hh CZ);clear hh CZ HAM;go_wp2;go_loopw [9] (λi wr=>∃k:Nat,k<=n/\i=.int .i64 k/\∃v ns,CO w hb B A cap l (N+1+4*k) (w.heap.size+2) v ns wr/\ns.length=k/\∀x∈ns,0<=x/\x<=12) (λi _=>n-(intOf i).toNat)
 case atStart=>exact⟨0,by omega,rfl,_,[],Uh.out,rfl,λx hx=>by simp at hx⟩
 case round =>
  obtain⟨k,hk,rfl,v,ns,GG,Y4,hns⟩:=hrel;have XJ:=xl hns;clear hns;by_cases hlk:k<n
  .obtain⟨c0,f0,l0⟩:=GG.drew.cell;obtain⟨c9,f9,l9⟩:=GG.cell;replace GG:=xl GG.drew;go_wp2;clear c9 f9 l9
   go_region_law (first
    |(refine oZ (by rfl) _ _ (by rfl) (by rfl) (w.heap.size+2) _ _ _ (by rfl) GG.out.own (.int .i64 z) rfl (by rfl) (by omega) GG.out.bs.2 ?_;intro v' w6 Vu MR hd6;clear c0 f0 l0;have hq6:=(C0 GG.out.own MR (w.heap.size+1) (by omega) (xm.1 GG.out.En).1).trans GG.out.En;have c6:=(cell_of_heap hq6 0).1;have f6:=(cell_of_heap hq6 0).2;have J7:w6.ownsRow (w.heap.size+2) 3 1 v' (ns++[z]).length ((ns++[z]).map (Value.int .i64)):=(by simpa using Vu);obtain⟨A6,k6,hv6,_⟩:=zY J7;subst hv6)
    |(refine dK (by rfl) ?_;go_simp;first
     |(go_at_call 7;refine(gY hb B A cap l _ _ _ GG.out.hand (by omega) (by omega)).mono ?_;rintro e w' ⟨⟨q,rfl,hq⟩,hh,CZ⟩;replace GG:=xl (GG.out.H8 hh CZ);clear c0 f0 l0 hh CZ;obtain⟨c0,f0,l0⟩:=GG.out.cell;dsimp only)
     |(go_at_call 38;refine(lZ hb B A _ cap 2 l [_,_] _ _ _ (GG.out.alloc _).hand (by omega) (by simp) (xd (GG.out.room _))).mono ?_;rintro e w' ⟨⟨z,rfl,hz⟩,hh,CZ⟩;have ahj:0<=z/\z<=12:=(by simp only[xC,xz,or_false] at hz;omega);replace GG:=xl ((GG.out.alloc _).H8 hh CZ);clear c0 f0 l0 hh CZ;have HZ:=xl ahj;obtain⟨c0,f0,l0⟩:=GG.out.cell;dsimp only)))
   all_goals
    have acu:=xl ((GG.out.push J7 MR hd6).more (M':=N+1+4*(k+1)) (by omega));have hl9:(ns++[z]).length=k+1:=by simp[Y4]
    rw[hl9] at acu;have ahl:Hid (∀x∈ns++[z],0<=x/\x<=12):=xl λx hx=>by
     rcases yD.1 hx with hx|hx
     .exact XJ.out x hx
     .simp only[xC,xz,or_false] at hx;subst hx;exact HZ.out
    clear J7 MR hd6 Vu GG c6 f6 hq6;go_wp2;go_roundw
    case rel=>exact⟨k+1,by omega,by go_num,_,_,acu.out,hl9,ahl.out⟩
    case measure=>simp[intOf];omega
  .have Ik:k=n:=by omega
   subst Ik;have OU:=xl (GG.cp.more (M':=N+30) (by omega));have acv:=xl (dX hb B A cap l (N+30) 1 mm wr OU.out.hand (by omega) (by omega) (by omega));clear GG;go_wp2_with fail;refine acv.out.mono ?_;rintro e w2 ⟨⟨m,rfl,N0,hm4⟩,hh,CZ⟩;have ahm:=xl (OU.out.H8 hh CZ);clear hh CZ acv OU;go_wp2;go_loopw [10] (λi wr=>∃j:Nat,j<=m/\i=.int .i64 j/\∃u hs xs,CP w hb B A cap l (N+31+20*(m-j)) (w.heap.size+2) v ns u hs xs wr/\hs.length=m-j/\∀h∈hs,Dv ns.length h=0) (λi _=>(intOf i).toNat)
   case atStart=>exact⟨m,by omega,rfl,_,[],[],ahm.out.more (by omega),by simp,λh hh=>by simp at hh⟩
   case round =>
    obtain⟨wq,rfl⟩:∃wq,wq=wr:=⟨_,rfl⟩;obtain⟨j,hj,rfl,u,hs,xs,Oj,hhl,WM⟩:=hrel;have HP:=xl Oj;have HHS:=xl WM;clear Oj WM;by_cases Tk:0<j
    .have HA1:=xl (dX hb B A cap l _ 1 6 wq HP.out.hand (by omega) (by omega) (by omega));go_wp2_with fail;refine HA1.out.mono ?_;rintro e v1 ⟨⟨a1,rfl,ha1,hb1⟩,hh,CZ⟩;have Hv:=xl (HP.out.H8 hh CZ);have HA2:=xl (dX hb B A cap l _ 1 40 v1 hh (by omega) (by omega) (by omega));clear hh CZ HA1;go_wp2_with fail;refine HA2.out.mono ?_;rintro e v2 ⟨⟨a2,rfl,ha2,hb2⟩,hh,CZ⟩;have JO:=xl (Hv.out.H8 hh CZ)
     have hhl2:=hh.lt;have HA3:=xl (lZ hb B A (some ⟨v2.heap.size,0,none⟩) cap 1 l [(a2:Int)] _ a1 (v2.alloc (.cells #[.int .i64 a2] 3)) (JO.out.alloc _).hand (by omega) (by simp) (xe (by simp;omega)));clear hh CZ HA2;go_wp2_with fail;refine HA3.out.mono ?_;rintro e v3 ⟨⟨a3,rfl,ha3⟩,hh,CZ⟩;have h340:1<=a3/\a3<=40:=by simp only[xC,xz,or_false] at ha3;omega
     have YQ:=xl ((JO.out.alloc _).H8 hh CZ);have HA4:=xl (dX hb B A cap l _ 1 5 v3 hh (by omega) (by omega) (by omega));clear hh CZ HA3;go_wp2_with fail;refine HA4.out.mono ?_;rintro e v4 ⟨⟨a4,rfl,ha4,hb4⟩,hh,CZ⟩;have HP4:=xl (YQ.out.H8 hh CZ);have HA5:=xl (dX hb B A cap l _ 0 3 v4 hh (by omega) (by omega) (by omega));clear hh CZ HA4;go_wp2_with fail;refine HA5.out.mono ?_;rintro e v5 ⟨⟨a5,rfl,ha5,XI⟩,hh,CZ⟩
     have HP5:=xl ((HP4.out.H8 hh CZ).more (M':=N+31+20*(m-j)+5) (by omega));have TV:=hh.lt;clear hh CZ HA5 HP Hv JO YQ HP4;obtain⟨vX,YV⟩:∃vX:World,vX=v5.alloc (.cells #[.int .i64 a3,.int .i64 a4,.int .i64 a5,.slice none 0 0] 58):=⟨_,rfl⟩;have HX0:Hid (vX.heap[v5.heap.size]?=some (.cells #[.int .i64 a3,.int .i64 a4,.int .i64 a5,.slice none 0 0] 58 (0,0))):=xl (by rw[YV];exact heap_alloc_new _ _)
     have HPX:=xl (YV▸HP5.out.alloc (.cells #[.int .i64 a3,.int .i64 a4,.int .i64 a5,.slice none 0 0] 58));have HZX:Hid (vX.heap.size=v5.heap.size+1):=xl (by rw[YV];simp);have HKX:Hid (KT (·=hb) v5 vX):=xl (YV▸KT.Cu ((Gr.refl v5).alloc _));have HVX:=xl YV;clear YV;go_wp2;rw[<-HVX.out];go_loopw [12] (λi wr=>∃t:Nat,t<=k/\i=.int .i64 t/\∃y p,KT (·=hb) v5 wr/\Hand wr hb B A cap l (N+31+20*(m-j)+5+t)/\wr.heap[v5.heap.size]?=some (.cells #[.int .i64 a3,.int .i64 a4,.int .i64 a5,y] 58 (0,0))/\wr.ownsRow (v5.heap.size+1) 3 1 y (Bd p t).length ((Bd p t).map (Value.int .i64))) (λi _=>k-(intOf i).toNat)
     case atStart=>exact⟨0,by omega,rfl,_,λ_=>false,HKX.out,HPX.out.hand,HX0.out,x9 _ _ _ _⟩
     case round =>
      obtain⟨t,ht,rfl,y,p,CZ,hh,SQ,hown⟩:=hrel;have HK:=xl CZ;have HO:=xl hown;have HXO:=xl SQ;have hzw:=CZ.size;have hXl:=(xm.1 SQ).1;by_cases htk:t<k
      .have HOD:=xl (qH hb B A cap l _ 1 6 wr hh (by omega) (by omega));clear hh CZ hown SQ;go_wp2_with fail;refine HOD.out.mono ?_;rintro e w8 ⟨⟨bo,rfl⟩,hh,CZ⟩;have aho:v5.heap.size≠hb:=by omega
       have HK8:=xl (HK.out.trans CZ);have LY:=l6 HO.out (show hb<v5.heap.size+1 by omega) CZ;have hx8:=(CZ.block _ hXl aho).trans HXO.out;have Xt:=xl hx8;have c8:=(cell_of_heap hx8 3).1;have f8:=(cell_of_heap hx8 3).2;have ahq:=(xm.1 hx8).1;have HH8:=xl hh;have HO8:=xl LY;obtain⟨p2,JI⟩:∃p2:Nat->Bool,p2=λq=>if q=t then bo else p q:=⟨_,rfl⟩
       have HP:=xl (fo p2 t);have HPT:Hid (p2 t=bo):=xl (by rw[JI];simp);have YM:=xl (gZ (p:=p2) (q:=p) (k:=t) λi hi=>by rw[JI];exact if_neg (by omega));clear JI;have JY:=dT p t;have hz8:=HK8.out.size;have hZX:=HZX.out;clear CZ hh HOD hx8;obtain⟨yA,yc,hyv,_⟩:=zY LY;subst hyv;cases bo with
       |true =>
        clear hZX;go_wp2_with (at_builtin;refine ip rfl _ _ rfl (v5.heap.size+1) _ _ _ rfl (LY.alloc _) ⟨w8.heap.size,0,none⟩ 1 (.int .i64 t) rfl ?c1 rfl ?c2 ?c3 ?_)
        case c1=>first|(rw[Addr.add_lit,xu _ _ _ _ (by simp)];rfl)|(rw[xu _ _ _ _ (by simp)];rfl)
        case c2=>omega
        case c3=>simp;omega
        intro v' w9 hown' hgrow hd;have Jv:w9.ownsRow (v5.heap.size+1) 3 1 v' (Bd p2 (t+1)).length ((Bd p2 (t+1)).map (Value.int .i64)):=by
         rw[HP.out,YM.out,if_pos HPT.out];simpa using hown'
        obtain⟨A9,c9,hv9,_⟩:=zY Jv;subst hv9;have hx9:=(C0 HO8.out hgrow v5.heap.size (by omega) ahq).trans Xt.out;have d9:=(cell_of_heap hx9 3).1;have g9:=(cell_of_heap hx9 3).2;have hl9:(Bd p t).length+1=(Bd p2 (t+1)).length:=by rw[HP.out,YM.out,if_pos HPT.out];simp
        have HK9:=xl ((eM HK8.out HO8.out (by omega) hgrow hd).set (p:=⟨v5.heap.size,3,none⟩) (xp _) (.slice A9 (Bd p2 (t+1)).length c9));have HH9:=xl (((dm HH8.out HO8.out (by omega) hgrow).set (p:=⟨v5.heap.size,3,none⟩) TV (.slice A9 (Bd p2 (t+1)).length c9)).more (M:=N+31+20*(m-j)+5+(t+1)) (by omega));have HX9:=xl (Bn (i:=3) (u:=.slice A9 (Bd p2 (t+1)).length c9) hx9);have HO9:=xl (ownsRow_setCell_below Jv (show(⟨v5.heap.size,3,none⟩:Addr).block<v5.heap.size+1 from Nat.lt_succ_self _) (.slice A9 (Bd p2 (t+1)).length c9))
        clear hown' hgrow hd Jv LY hx9;go_wp2;go_roundw
        case rel=>exact⟨t+1,by omega,by go_num,_,_,HK9.out,HH9.out,HX9.out,HO9.out⟩
        case measure=>simp[intOf];omega
       |false =>
        have HO9:Hid (w8.ownsRow (v5.heap.size+1) 3 1 (.slice yA (Bd p t).length yc) (Bd p2 (t+1)).length ((Bd p2 (t+1)).map (Value.int .i64))):=xl (by
         rw[HP.out,YM.out,if_neg (by rw[HPT.out];simp)];simpa using HO8.out)
        clear LY;go_wp2;go_roundw
        case rel=>exact⟨t+1,by omega,by go_num,_,_,HK8.out,HH8.out,Xt.out,HO9.out⟩
        case measure=>simp[intOf];omega
      .have aht:t=k:=by omega
       subst aht;have HH9:=xl hh;obtain⟨yA,yc,hyv,_⟩:=zY hown;subst hyv;have XL:=xl (HP5.out.H8 hh CZ);obtain⟨cu,fu,lu⟩:=XL.out.cell;have x0:=(cell_of_heap SQ 0).1;have x1:=(cell_of_heap SQ 1).1;have x2:=(cell_of_heap SQ 2).1;have x3:=(cell_of_heap SQ 3).1;have acx:=XL.out.Ct;have OA:=xl (B1 hown (show w.heap.size+2<=v5.heap.size+1 by have:=HP5.out.bs;omega));clear hh CZ hown SQ
       go_wp2_with (at_builtin;refine wR rfl _ _ rfl (w.heap.size+2) _ _ _ rfl (acx.alloc _) ⟨wr.heap.size,0,none⟩ 1 [.int .i64 a3,.int .i64 a4,.int .i64 a5,.slice yA (Bd p t).length yc] rfl rfl ?c1 ?c2 ?c3 ?c4 ?_)
       case c1 =>
        intro q z hq;rw[Addr.add_lit,xM,xu _ _ _ _ (by simp)]
        match q,hq with
        |0,hq=>exact hq
        |1,hq=>exact hq
        |2,hq=>exact hq
        |3,hq=>exact hq
        |q+4,hq=>simp at hq
       case c2=>intro z hz;simp at hz;rcases hz with rfl|rfl|rfl|rfl<;>rfl
       case c3=>omega
       case c4=>have:=XL.out.bs.2;simp;omega
       intro u' w9 hown' hgrow hd;obtain⟨gU,cU,rfl,_,_⟩:=hown'.form (by omega);have HPN:=xl (XL.out.push (x:=⟨a3,a4,a5,Bd p t⟩) OA.out (by rw[hhl];exact hown') hgrow hd);have hq9:=(C0 XL.out.Ct hgrow (w.heap.size+1) (by omega) (xm.1 XL.out.En).1).trans XL.out.En;have cq:=(cell_of_heap hq9 1).1;have fq:=(cell_of_heap hq9 1).2;have HHN:Hid (∀h∈hs++[(⟨a3,a4,a5,Bd p t⟩:BH)],Dv ns.length h=0):=xl λh hh=>by
        rcases yD.1 hh with hh|hh
        .exact HHS.out h hh
        .simp only[xC,xz,or_false] at hh;subst hh;unfold Dv;rw[if_pos (by simp[Ej];omega),Y4];exact hP p t
       clear hown' hgrow hd acx hq9;go_wp2;go_roundw
       case rel=>exact⟨j-1,by omega,by go_num,_,_,_,HPN.out.more (by omega),by simp[hhl];omega,HHN.out⟩
       case measure=>simp[intOf];omega
    .have ahv:j=0:=by omega
     subst ahv;obtain⟨nA,nc,hA,hc,rfl,rfl,hN1,YL⟩:=HP.out.Dt;have Kh:=xl hN1;have O6:=xl YL;have q0:=(cell_of_heap HP.out.En 0).1;have q1:=(cell_of_heap HP.out.En 1).1;have r0:=(cell_of_heap HP.out.FU 0).1;have r1:=(cell_of_heap HP.out.FU 1).1;have g0:=(cell_of_heap HP.out.FU 0).2;have g1:=(cell_of_heap HP.out.FU 1).2
     have SV:Hid (Bi ⟨ns,hs⟩=0):=xl (by
      unfold Bi;have e1:BV (ns.length:Int) 1 5=0:=cG.2 (by omega);have e2:BV (hs.length:Int) 1 4=0:=cG.2 (by omega);rw[if_neg (by simp[e1]),if_neg,if_neg (by simp[e2])]
      .exact aQ.2 fun x hx => by
        obtain⟨h,hh,rfl⟩:=xU.1 hx;exact HHS.out h hh
      .have : (ns.all fun x => Ej x 0 12) = true := yu.2 fun x hx => by
        have:=XJ.out x hx;simp[Ej];omega
       rw[this];simp)
     have hhm:hs.length=m:=by omega
     have HKF:Hid (KT (·=hb) w ((wq.setCell ⟨w.heap.size,0,none⟩ (.slice nA k nc)).setCell ⟨w.heap.size,1,none⟩ (.slice hA m hc))):=xl ((HP.out.kt.set (p:=⟨w.heap.size,0,none⟩) (xp _) _).set (p:=⟨w.heap.size,1,none⟩) (xp _) _);have HHF:Hid (Hand ((wq.setCell ⟨w.heap.size,0,none⟩ (.slice nA k nc)).setCell ⟨w.heap.size,1,none⟩ (.slice hA m hc)) hb B A cap l (N+1000)):=xl (((HP.out.hand.set (p:=⟨w.heap.size,0,none⟩) hlt _).set (p:=⟨w.heap.size,1,none⟩) hlt _).more (by omega))
     have HRF:Hid (F8 ((wq.setCell ⟨w.heap.size,0,none⟩ (.slice nA k nc)).setCell ⟨w.heap.size,1,none⟩ (.slice hA m hc)) (λb=>w.heap.size<=b/\b<((wq.setCell ⟨w.heap.size,0,none⟩ (.slice nA k nc)).setCell ⟨w.heap.size,1,none⟩ (.slice hA m hc)).heap.size) nA ns):=xl (eO hN1 (λb hb'=>⟨by omega,by have:=hb'.2;simpa [World.setCell] using this⟩) λb o hb'=>(xN (xE _ _ _ _ (by show b≠w.heap.size;omega))).trans (xN (xE _ _ _ _ (by show b≠w.heap.size;omega))))
     have HRG:Hid (Ed ((wq.setCell ⟨w.heap.size,0,none⟩ (.slice nA k nc)).setCell ⟨w.heap.size,1,none⟩ (.slice hA m hc)) (λb=>w.heap.size<=b/\b<((wq.setCell ⟨w.heap.size,0,none⟩ (.slice nA k nc)).setCell ⟨w.heap.size,1,none⟩ (.slice hA m hc)).heap.size) hA hs):=xl (fT YL (λb hb'=>⟨by omega,by have:=hb'.2;simpa [World.setCell] using this⟩) λb o hb'=>(xN (xE _ _ _ _ (by show b≠w.heap.size;omega))).trans (xN (xE _ _ _ _ (by show b≠w.heap.size;omega))))
     clear hN1 YL;go_wp2;have s1:=xJ (wq.setCell ⟨w.heap.size,0,none⟩ (.slice nA k nc)) ⟨w.heap.size,1,none⟩ (.slice hA m hc) ((xB wq ⟨w.heap.size,0,none⟩ ⟨w.heap.size,1,none⟩ (.slice nA k nc) (by simp)).trans r1);have s0:=(xB (wq.setCell ⟨w.heap.size,0,none⟩ (.slice nA k nc)) ⟨w.heap.size,1,none⟩ ⟨w.heap.size,0,none⟩ (.slice hA m hc) (by simp)).trans (xJ wq ⟨w.heap.size,0,none⟩ (.slice nA k nc) r0)
     refine bodyPost_ret (v:=.agg #[.slice nA k nc,.slice hA m hc]) (by simp[results,Tryz.results14,go_sem,s0,s1]) rfl ⟨⟨ns,hs⟩,nA,hA,nc,hc,by rw[<-Y4,<-hhm];rfl,AW.Ok.of SV.out,SV.out,⟨by show ns.length<=nn;omega,by show hs.length<=mm;omega⟩,HRF.out,HRG.out,HHF.out,HKF.out⟩
def uS (hb B:Nat)(A:Option Addr)(cap:Nat)(l:List Int)(N:Nat)(w:World)(h:Hand w hb B A cap l N)(hN:N<=10000) :
  Calls AG 5 #[.pointer (some ⟨hb,0,none⟩)] w λe w'=>∃c nA hA nc hc,e=.returned (Bp nA hA c nc hc)/\c.Ok/\Bi c=0/\(c.AK.length<=3/\c.AH.length<=3)/\F8 w' (λb=>w.heap.size<=b/\b<w'.heap.size) nA c.AK/\Ed w' (λb=>w.heap.size<=b/\b<w'.heap.size) hA c.AH/\Hand w' hb B A cap l (N+1000)/\KH hb w w':=by
 obtain⟨W0,hW0⟩:∃W0:World,W0=w.alloc (.cells #[.slice none 0 0,.slice none 0 0] 27):=⟨_,rfl⟩;have hg0:Gr w W0:=hW0▸(Gr.refl w).alloc _;have hz0:W0.heap.size=w.heap.size+1:=by rw[hW0];simp
 have HC:Hid (Calls AG 14 #[.pointer (some ⟨hb,0,none⟩),.int .i64 3,.int .i64 3] W0 _):=xl (rn 3 3 (by omega) (by omega) (by omega) (by omega) hb B A cap l N W0 (h.gr hg0) hN);have hb0:W0.heap[w.heap.size]?=some (.cells #[.slice none 0 0,.slice none 0 0] 27 (0,0)):=by rw[hW0];exact heap_alloc_new _ _
 have HB0:=xl hb0;have Ds:=xl hg0;have HW:=xl hW0;have hlt:=h.lt;clear h hW0 hg0 hb0;go_enter Sq.func5,Tryz.ntmps5;go_wp2_with fail;rw[<-HW.out];refine HC.out.mono ?_;rintro e w1 ⟨c,nA,hA,nc,hc,rfl,h1,h2,h3,h4,h5,h6,h7⟩;have hb1:=(h7.block w.heap.size (by omega) (by omega)).trans HB0.out;have r0:=(cell_of_heap hb1 0).1;have r1:=(cell_of_heap hb1 1).1;have g0:=(cell_of_heap hb1 0).2;have g1:=(cell_of_heap hb1 1).2
 have hz1:=h7.size;have sz:∀u v,((w1.setCell ⟨w.heap.size,0,none⟩ u).setCell ⟨w.heap.size,1,none⟩ v).heap.size=w1.heap.size:=λu v=>by simp[World.setCell]
 have ko:∀u v b o,W0.heap.size<=b/\b<w1.heap.size->((w1.setCell ⟨w.heap.size,0,none⟩ u).setCell ⟨w.heap.size,1,none⟩ v).cell? ⟨b,o,none⟩=w1.cell? ⟨b,o,none⟩:=λu v b o hb=>(xN (xE _ _ _ _ (by show b≠w.heap.size;omega))).trans (xN (xE _ _ _ _ (by show b≠w.heap.size;omega)));have HKF:Hid (∀u v,KT (·=hb) w ((w1.setCell ⟨w.heap.size,0,none⟩ u).setCell ⟨w.heap.size,1,none⟩ v)):=xl λu v=>((((KT.Cu Ds.out).trans h7).set (p:=⟨w.heap.size,0,none⟩) (xp _) _).set (p:=⟨w.heap.size,1,none⟩) (xp _) _)
 have HHF:Hid (∀u v,Hand ((w1.setCell ⟨w.heap.size,0,none⟩ u).setCell ⟨w.heap.size,1,none⟩ v) hb B A cap l (N+1000)):=xl λu v=>((h6.set (p:=⟨w.heap.size,0,none⟩) hlt _).set (p:=⟨w.heap.size,1,none⟩) hlt _);have HRF:Hid (∀u v,F8 ((w1.setCell ⟨w.heap.size,0,none⟩ u).setCell ⟨w.heap.size,1,none⟩ v) (λb=>w.heap.size<=b/\b<((w1.setCell ⟨w.heap.size,0,none⟩ u).setCell ⟨w.heap.size,1,none⟩ v).heap.size) nA c.AK):=xl λu v=>eO h4 (λb hb'=>⟨by omega,by rw[sz];exact hb'.2⟩) (ko u v)
 have HRG:Hid (∀u v,Ed ((w1.setCell ⟨w.heap.size,0,none⟩ u).setCell ⟨w.heap.size,1,none⟩ v) (λb=>w.heap.size<=b/\b<((w1.setCell ⟨w.heap.size,0,none⟩ u).setCell ⟨w.heap.size,1,none⟩ v).heap.size) hA c.AH):=xl λu v=>fT h5 (λb hb'=>⟨by omega,by rw[sz];exact hb'.2⟩) (ko u v);have HO:=xl (And.intro h1 (And.intro h2 h3));clear h1 h2 h3 h4 h5 h6 h7 HC ko sz;unfold Bp;go_wp2;have s1:=xJ (w1.setCell ⟨w.heap.size,0,none⟩ (.slice nA c.AK.length nc)) ⟨w.heap.size,1,none⟩ (.slice hA c.AH.length hc) ((xB w1 ⟨w.heap.size,0,none⟩ ⟨w.heap.size,1,none⟩ (.slice nA c.AK.length nc) (by simp)).trans r1)
 have s0:=(xB (w1.setCell ⟨w.heap.size,0,none⟩ (.slice nA c.AK.length nc)) ⟨w.heap.size,1,none⟩ ⟨w.heap.size,0,none⟩ (.slice hA c.AH.length hc) (by simp)).trans (xJ w1 ⟨w.heap.size,0,none⟩ (.slice nA c.AK.length nc) r0);refine bodyPost_ret (v:=.agg #[.slice nA c.AK.length nc,.slice hA c.AH.length hc]) (by simp[results,Tryz.results5,go_sem,s0,s1]) rfl ⟨c,nA,hA,nc,hc,rfl,HO.out.1,HO.out.2.1,HO.out.2.2,HRF.out _ _,HRG.out _ _,HHF.out _ _,HKF.out _ _⟩
open Go.Bl (Da bZ bK bu)
open Go.Bl (Da bZ bK bu)
open Go.Bl (Da aX bZ aC bK eK bu)
def pn (A:Option Addr)(cap:Nat)(l:List Int)(w:World)(h:RI w w.heap.size A l)(tmps:Array Value)(ht:tmps=#[Value.slice A l.length cap]++Array.replicate 144 undef) :
  aX AG fX aq (λa _=>tq a) ⟨tmps,[]⟩ w:=by
 have HNH:=xl (qI A cap l w h);clear h;rw[kI.1];subst ht;simp only[yj,yk,yx,ym,yI,yF];refine aC λK hK=>?_;have ez:bR 0=Cx (Ca 0 aq):=rfl;simp only[Ca,aq,Tryz.f3,Option.getD_some,Es,Cx] at ez;rw[ez];clear ez;go_wp2;refine aC λK hK=>?_;have ez:bR 1=Cx (Ca 1 aq):=rfl;simp only[Ca,aq,Tryz.f3,Option.getD_some,Es,Cx] at ez;rw[ez];clear ez;go_wp2_with fail;refine HNH.out.mono ?_;rintro e w1 ⟨rfl,Oe,hg1⟩
 have GG:=xl (uS _ _ A cap l 0 w1 Oe (by omega));have S6:=Oe.lt;clear Oe hg1 HNH;go_wp2;refine aC λK hK=>?_;have ez:bR 2=Cx (Ca 2 aq):=rfl;simp only[Ca,aq,Tryz.f3,Option.getD_some,Es,Cx] at ez;rw[ez];clear ez;go_wp2_with fail;refine GG.out.mono ?_;rintro e w2 ⟨c,nA,hA,nc,hc,rfl,DV,Ij,JH,I8,Vv,hh2,acy⟩;have EZ:=xl DV;have WY:=xl Ij;obtain⟨W2,hW2⟩:∃W2:World,W2=w2.alloc (.cells #[.slice nA c.AK.length nc,.slice hA c.AH.length hc] 27):=⟨_,rfl⟩
 have hz2:=acy.size;have HN2:=xl I8;have KF:=xl Vv;have Sy:Hid (W2.heap.size=w2.heap.size+1):=xl (by rw[hW2];simp)
 have HCB:Hid (W2.cell? ⟨w2.heap.size,0,none⟩=some (.slice nA c.AK.length nc)/\W2.cell? ⟨w2.heap.size,1,none⟩=some (.slice hA c.AH.length hc)):=xl (by
  rw[hW2,xu _ _ _ _ rfl,xu _ _ _ _ rfl];exact⟨rfl,rfl⟩)
 have XM:Gr w2 W2:=hW2▸(Gr.refl w2).alloc _;have ahA:=xl XM;obtain⟨hb3,hb4⟩:=JH;have Oz:=xl (oW _ _ A nA hA cap nc hc l 1000 c.AK.length c.AH.length W2 ((hh2.gr XM).more (by omega)) (by omega) (by omega) (by omega));have Mp:=xl hW2;unfold Bp;clear GG I8 Vv hh2 acy DV Ij hW2 XM;go_wp2;rw[<-Mp.out];obtain⟨hcb0,acz⟩:=HCB.out;refine aC λK hK=>?_;have ez:bR 3=Cx (Ca 3 aq):=rfl
 simp only[Ca,aq,Tryz.f3,Option.getD_some,Es,Cx] at ez;rw[ez];clear ez;have hbl:w2.heap.size<W2.heap.size:=by have:=Sy.out;omega
 go_wp2_with fail;refine Oz.out.mono ?_;rintro e w4 ⟨v,ls,xs,rfl,Hx,SS,hall,TD,Sr⟩;have GL:GN c nA hA v w2.heap.size nc hc w1.heap.size ls xs w4:=by
  have hsz:=Sr.size;have hz:=Sy.out;have hk:∀b o,w1.heap.size<=b/\b<w2.heap.size->w4.cell? ⟨b,o,none⟩=w2.cell? ⟨b,o,none⟩:=λb o hb=>(xN (a:=⟨b,o,none⟩) (Sr.block b (by omega) (by omega))).trans (ahA.out.cell (p:=⟨b,o,none⟩) hb.2)
  exact⟨⟨hz2,by omega⟩,(xN (Sr.block w2.heap.size hbl (by omega))).trans hcb0,(xN (Sr.block w2.heap.size hbl (by omega))).trans acz,eO HN2.out (λb hb=>⟨hb.1,by omega⟩) hk,fT KF.out (λb hb=>⟨hb.1,by omega⟩) hk,⟨B1 Hx.row (by omega),λi x hi=>by
   obtain⟨u,h1,h2⟩:=Hx.cells i x hi
   exact⟨u,h1,B1 h2 (by omega)⟩⟩⟩
 have HMK:=xl GL;have YD:=xl SS;have T7:=xl hall;have YR:=xl (kD WY.out SS hall);obtain⟨gA,gc,hv,_⟩:=Hx.Ky;subst hv;have HH4:=xl TD;have XI:=GL.bd.2;have h50:=GL.c0;have h51:=GL.c1;have Hu:=EZ.out.n1;have N0:=EZ.out.h1;clear Oz Hx hall TD Sr GL hcb0 acz hbl SS;go_wp2;refine aC λK hK=>?_;have ez:bR 4=Cx (Ca 4 aq):=rfl;simp only[Ca,aq,Tryz.f3,Option.getD_some,Es,Cx] at ez
 rw[ez];clear ez;have YW:Hid (GN c nA hA (.slice gA ls.length gc) w2.heap.size nc hc w1.heap.size ls xs w4.drew):=xl (HMK.out.keep (xp _) λ_ _ _=>rfl);have HHQ:=xl ((HH4.out.more (M:=2000) (by have:=Nat.mul_le_mul hb3 hb4;omega)).gr (Gr.refl _).drew);have hwr1:IntKind.i64.wrap ((c.AH.length:Int)-1)=(c.AH.length:Int)-1:=by simp[IntKind.wrap,IntKind.bits,IntKind.signed];omega
 have hwr2:IntKind.i64.wrap ((c.AK.length:Int)-1)=(c.AK.length:Int)-1:=by simp[IntKind.wrap,IntKind.bits,IntKind.signed];omega
 have hlw:w.heap.size<w1.heap.size:=S6;go_region_law (refine dK (by rfl) ?_;go_simp;go_at_call 7;refine(gY _ _ A cap l _ _ _ HHQ.out (by omega) (by omega)).mono ?_;rintro e w' ⟨⟨q,rfl,hq⟩,hh,CZ⟩;replace HHQ:=xl hh;replace YW:=xl (YW.out.H8 hlw CZ);clear h50 h51 XI hh CZ;have XI:=YW.out.bd.2;have h50:=YW.out.c0;have h51:=YW.out.c1;dsimp only)
 all_goals
  rename_i _ k Oa;go_wp2;have hk:k<c.AH.length:=by omega
  have hd:q<c.AK.length:=by omega
  obtain⟨Ij,TB,ahB,LZ⟩:Bi c=0/\c.AK.length<=3/\c.AH.length<=3/\Made c nA hA gA w2.heap.size nc hc ls w':=⟨WY.out,hb3,hb4,YW.out.made⟩;have Fq:=qP Ij hk (q:Int);have ero:=uJ Ij hk (d:=(q:Int)) ⟨by omega,by omega⟩;have I3:(Ej (k:Int) 0 (c.AH.length-1)&&Ej (q:Int) 0 (c.AK.length-1))=true:=by
   unfold Ej;simp;omega
  have hrp:=lV nA hA gA nc hc gc c ls k q w' w'.heap.size (xp _) LZ.AK LZ.Ct LZ.Ox (by omega) (by omega) (λh hh=>xI (EZ.out.off h hh).1 (by omega)) (by rw[YD.out];omega) (λx hx=>by
   obtain⟨p,rfl⟩:=T7.out x hx;exact xI (dT _ _) (by omega)) (λk' _ e _ _=>by
   obtain rfl:k=k':=by omega
   rw[ero]
   exact AW.Ok.of Fq)
  unfold Bp at hrp;have HRP:=xl hrp;clear hrp;refine aC λK hK=>?_;have ez:bR 5=Cx (Ca 5 aq):=rfl;simp only[Ca,aq,Tryz.f3,Option.getD_some,Es,Cx] at ez;rw[ez];clear ez;go_wp2_with fail;refine HRP.out.mono ?_;rintro e w5 ⟨G8,YX⟩;rw[if_neg (by rw[YR.out];simp),if_neg (by rw[I3];simp),zo,ero] at YX;obtain⟨v8,v9,v10,rfl,acA⟩:∃v8 v9 v10,e=.returned (.tuple #[v8,v9,v10])/\IC c.AK.length (AP ls) (Bz (Go.Sq.FO c k q) (Bo c.AH.length) c.AK.length Cv 0) w5 v8 v9 v10:=by
   unfold IC;cases hp:Cq (AP ls) (Bz (Go.Sq.FO c k q) (Bo c.AH.length) c.AK.length Cv 0) with
   |none=>rw[hp] at YX;exact⟨_,_,_,YX,rfl,rfl,rfl⟩
   |some p =>
    rw[hp] at YX;obtain⟨A,k,e,h⟩:=YX;exact⟨_,_,_,e,A,k,rfl,rfl,rfl,h⟩
  have OC:=xl acA;have XN:=LZ.gr G8;have hoc:=q8 nA hA nc hc c k q w5 w5.heap.size (xp _) XN.AK XN.Ct EZ.out hk;unfold Bp at hoc;have YS:=xl hoc;have HM5:=xl XN;replace XI:=XN.lt;replace h50:=XN.c0;replace h51:=XN.c1;have MJ:=xl Fq;clear YX acA HRP hoc XN LZ G8 Fq ero I3;go_wp2;refine aC λK hK=>?_;have ez:bR 6=Cx (Ca 6 aq):=rfl;simp only[Ca,aq,Tryz.f3,Option.getD_some,Es,Cx] at ez
  rw[ez];clear ez;go_wp2_with fail;refine YS.out.mono ?_;rintro e w6 ⟨KU,hA',LV,hc',rfl,Xr,hn6,hh6⟩;have HAL:=xl (wT KU hA' LV hc' (Go.Sq.FO c k q) w6 w6.heap.size (xp _) hn6 hh6 MJ.out TB);have HM6:=xl (HM5.out.gr Xr);replace OC:=xl (OC.out.gr Xr);unfold Bp at HAL;clear YS hn6 hh6 Xr XI h50 h51;go_wp2_with fail;refine HAL.out.mono ?_;rintro e w7 ⟨v,ys,rfl,Xs,G9⟩;have hm7:=HM6.out.gr Xs
  replace OC:=xl (OC.out.gr Xs);have eh:(Go.Sq.FO c k q).AH.length=c.AH.length:=by simp[Go.Sq.FO]
  have en:(Go.Sq.FO c k q).AK.length=c.AK.length:=rfl;rw[pi (by rw[eh];omega),eh,en] at G9;have hwf:=pm (AW.Ok.of MJ.out) TB;rw[eh,en] at hwf;have HR:=xl hwf;have Vr:=xl G9;generalize Bz (Go.Sq.FO c k q) (Bo c.AH.length) c.AK.length Cv 0=R at OC G9 Vr hwf HR;obtain⟨LA,Lc,rfl⟩:=G9.any;rw[ye] at Vr;have HM7:=xl hm7;clear HAL Xs G9 hwf hm7 HM6 HM5;go_wp2;refine wW (K:=λa w=>aX AG fX _ _ a w) 145 rfl λu hu=>?_
  have Mc:=HM7.out.Ox;rw[<-rg YR.out YD.out] at Mc;refine sZ (N:=c.AK.length) (m:=c.AH.length) (g:=AP ls) (R:=R) (cb:=w2.heap.size) (hA:=hA) (gA:=gA) (LA:=LA) (hc:=hc) (gc:=gc) (Lc:=Lc) ⟨hu 4,HM7.out.c1,HM7.out.lt,(hu 5).trans (by rw[<-YD.out];rfl),Mc,hu 11,Vr.out,TB,ahB,λi=>dJ YR.out i,λi hi=>uR (by rw[YD.out];exact hi),HR.out.1,HR.out.2⟩ (hu 12) ?_;rw[hu 8,hu 9,hu 10];exact OC.out
open Go.Bl Go.Co Go.Conc Go.ConcN
def nI {a:Act}{i:Nat}{v x:Value}{d:Nat}(h:a.tmps.getD i undef=x)(hne:d≠i):(a.put (some d) v).tmps.getD i undef=x:=by
 rw[<-h];show(a.tmps.setIfInBounds d v).getD i undef=a.tmps.getD i undef;simp[yq,yK,hne]
def Bg {a:Act}{v:Value}{d:Nat}(h:d<a.tmps.size):(a.put (some d) v).tmps.getD d undef=v:=by
 show(a.tmps.setIfInBounds d v).getD d undef=v;simp[Array.getD,h]
def fY {a:Act}{v:Value}{d:Nat}:(a.put (some d) v).tmps.size=a.tmps.size:=Array.size_setIfInBounds
def mn {ops:Array Oper}{a:Act}{j d:Nat}{b:Bool}(ho:(ops[j]?).bind (·.dst)=some d)(hd:d<a.tmps.size)(h:a.tmps.getD d undef=.bool b):yielded ops a.tmps j=some b:=by
 unfold yielded;rw[ho];have:a.tmps[d]?=some (.bool b):=by
  rw[yq,xD hd] at h;rw[xD hd];exact congrArg some h
 simp[this]
noncomputable def Ss:LawIn 3 C4 15 [16,17] [.code dL] where
 fn:=Tryz.f3
 o:=C4.getD 15 default
 d:=77
 t:=2
 n:=145
 N:=sV
 hf:=Tryz.func3
 ho:=by kernel_rfl
 Xy:=by kernel_rfl
 hop:=⟨#[],by kernel_rfl⟩
 plain:=by kernel_rfl
 hres:=by kernel_rfl
 looked:=by decide
 hn:=Tryz.ntmps3
 want a h:=by
  obtain⟨h1,h2,h4⟩:=h;have hg:(C4.getD 15 default).guard=some (14,true):=by kernel_rfl
  unfold Region.wanted;rw[hg];dsimp only;rw[mn (d:=76) (by kernel_rfl) (by rw[h1];decide) h4];rfl
 OO a h:=h.2.1
 pure a h:=by
  obtain⟨h1,h2,h4⟩:=h;have g1:(C4.getD 16 default).guard=none:=by kernel_rfl
  have g2:(C4.getD 17 default).guard=none:=by kernel_rfl
  have o1:(C4.getD 16 default).op=.pick (.tmp 76) (.tmp 77) (.const (.bool false)):=by kernel_rfl
  have o2:(C4.getD 17 default).op=.assign (.tmp 78):=by kernel_rfl
  have d1:(C4.getD 16 default).dst=some 78:=by kernel_rfl
  have d2:(C4.getD 17 default).dst=some 2:=by kernel_rfl
  have s1:(a.put (some 77) (.bool true)).tmps.size=145:=by rw[fY];exact h1
  refine⟨((a.put (some 77) (.bool true)).put (some 78) (.bool true)).put (some 2) (.bool true),.cons (o:=C4.getD 16 default) (v:=.bool true) (by kernel_rfl) (be g1) (by kernel_rfl) (λw=>?_) (.cons (o:=C4.getD 17 default) (v:=.bool true) (by kernel_rfl) (be g2) (by kernel_rfl) (λw=>?_) ?_),h2,Bg (by rw[fY,s1];decide)⟩
  .unfold execOp;rw[o1];have e1:(a.put (some 77) (.bool true)).eval (.tmp 76)=.bool true:=nI h4 (by decide);have e2:(a.put (some 77) (.bool true)).eval (.tmp 77)=.bool true:=Bg (by rw[h1];decide);simp[e1,e2,asBool]
  .unfold execOp;rw[o2,d1];have e1:((a.put (some 77) (.bool true)).put (some 78) (.bool true)).eval (.tmp 78)=.bool true:=Bg (by rw[s1];decide);simp[e1]
  .rw[d1,d2];exact .nil _
noncomputable def wV:LawIn 3 Dn 16 [17,18] [] where
 fn:=Tryz.f3
 o:=Dn.getD 16 default
 d:=143
 t:=2
 n:=145
 N:=sW
 hf:=Tryz.func3
 ho:=by kernel_rfl
 Xy:=by kernel_rfl
 hop:=⟨#[],by kernel_rfl⟩
 plain:=by kernel_rfl
 hres:=by kernel_rfl
 looked:=by decide
 hn:=Tryz.ntmps3
 want a h:=by
  obtain⟨h1,h2,h4⟩:=h;have hg:(Dn.getD 16 default).guard=some (15,true):=by kernel_rfl
  unfold Region.wanted;rw[hg];dsimp only;rw[mn (d:=142) (by kernel_rfl) (by rw[h1];decide) h4];rfl
 OO a h:=h.2.1
 pure a h:=by
  obtain⟨h1,h2,h4⟩:=h;have g1:(Dn.getD 17 default).guard=none:=by kernel_rfl
  have g2:(Dn.getD 18 default).guard=none:=by kernel_rfl
  have o1:(Dn.getD 17 default).op=.pick (.tmp 142) (.tmp 143) (.const (.bool false)):=by kernel_rfl
  have o2:(Dn.getD 18 default).op=.assign (.tmp 144):=by kernel_rfl
  have d1:(Dn.getD 17 default).dst=some 144:=by kernel_rfl
  have d2:(Dn.getD 18 default).dst=some 2:=by kernel_rfl
  have s1:(a.put (some 143) (.bool true)).tmps.size=145:=by rw[fY];exact h1
  refine⟨((a.put (some 143) (.bool true)).put (some 144) (.bool true)).put (some 2) (.bool true),.cons (o:=Dn.getD 17 default) (v:=.bool true) (by kernel_rfl) (be g1) (by kernel_rfl) (λw=>?_) (.cons (o:=Dn.getD 18 default) (v:=.bool true) (by kernel_rfl) (be g2) (by kernel_rfl) (λw=>?_) ?_),h2,Bg (by rw[fY,s1];decide)⟩
  .unfold execOp;rw[o1];have e1:(a.put (some 143) (.bool true)).eval (.tmp 142)=.bool true:=nI h4 (by decide);have e2:(a.put (some 143) (.bool true)).eval (.tmp 143)=.bool true:=Bg (by rw[h1];decide);simp[e1,e2,asBool]
  .unfold execOp;rw[o2,d1];have e1:((a.put (some 143) (.bool true)).put (some 144) (.bool true)).eval (.tmp 144)=.bool true:=Bg (by rw[s1];decide);simp[e1]
  .rw[d1,d2];exact .nil _
def rp:codeOk AG Fw false true aq=true:=by kernel_rfl
def Nz (A:Option Addr)(b:Nat):Bool:=match A with|some a=>b==a.block|none=>false
def NA (A:Option Addr)(n:Nat)(_ i:Nat):Bool:=match A with|some a=>decide (a.off<=i)&&decide (i<a.off+n)|none=>false
def mo (b o n:Nat):(⟨b,o,none⟩:Addr).add n=⟨b,o+n,none⟩:=by
 unfold Addr.add;split
 .rename_i h
  first
   |(have h0:n=0:=h;subst h0;rfl)
   |(simp at h)
   |(simp at h;subst h;rfl)
 .rfl
def OD {A:Option Addr}{len cap:Nat}{zs:List Int}{W:World}(hz:len<=zs.length)(hA:∀a,A=some a->a.spot=none/\∃C t f,W.heap[a.block]?=some (.cells C t f))(hnil:A=none->len=0)
  (hcell:∀a i,A=some a->i<zs.length->W.cell? (a.add i)=some (.int .i64 (zs.getD i 0))) :
  ∃M last o w' t',runNT Tryz.prog (M+1) (solo (Go.Conc.G (Frame.enter Tryz.prog 3 #[.slice A len cap] .normal) []) W) #[]=(.ended o w',t')/\runN Tryz.prog M (solo (Go.Conc.G (Frame.enter Tryz.prog 3 #[.slice A len cap] .normal) []) W)=.next last/\step Tryz.prog last=.ended o w' /\
   Go.Conc.Good Tryz.prog (λv w'=>v=.bool true/\(w'.os=W.os/\w'.output=W.output)/\W.heap.size<=w'.heap.size/\∀B,B<W.heap.size->w'.heap[B]?=W.heap[B]?) last o w' t':=by
 refine lY (K:=Nz A) (k:=NA A zs.length) Ss wV kH (C:=aq) (by kernel_rfl) (by decide) (by decide) (by decide) rp (λS b hb=>?_) (λS=>?_) λτ d=>?_
 .cases A with
  |none=>cases hb
  |some a =>
   have e:b=a.block:=by simpa [Nz] using hb
   subst e;obtain⟨hs,C,t,f,h1⟩:=hA a rfl;refine⟨C,t,f,h1,λi v hk hv=>?_⟩;simp only[NA,xG,decide_eq_true_eq] at hk;have:=hcell a (i-a.off) rfl (by omega);obtain⟨b,o,s⟩:=a;dsimp only at hs h1 hk;subst hs;rw[mo] at this;simp only[zm,xP,if_false,World.cell?,h1] at this;rw[show o+(i-o)=i by omega,hv] at this;cases this;exact .int _ _
 .cases A with
  |none=>exact .one (.Ei _ _)
  |some a =>
   obtain⟨b,o,s⟩:=a;exact .one (.slice _ _ _ _ ⟨by simp[Nz],rfl⟩)
 .have hlen:(zs.take len).length=len:=by simp[Nat.min_eq_left hz]
  have:=pn A cap (zs.take len) (on (aV (Nz A) (NA A zs.length) W) τ d) (λhne=>?_) _ rfl
  .rw[hlen] at this;have e1:Ss.n=145:=rfl;have e2:Ss.n-(#[Value.slice A len cap]:Array Value).size=144:=rfl;rw[e2];exact this
  .cases A with
   |none =>
    have:=hnil rfl;subst this;exact absurd rfl hne
   |some a =>
    obtain⟨hs,C,t,f,h1⟩:=hA a rfl;obtain⟨b,o,s⟩:=a;dsimp only at hs h1;subst hs;refine⟨b,o,rfl,?_,λi x hx=>?_⟩
    .show b<(aV _ _ W).heap.size;rw[mK];exact(xm.1 h1).1
    .have hi : i < len := by
      have:=(xS.1 hx).1;omega
     have Sx:i<zs.length:=by omega
     show(aV _ _ W).cell? ⟨b,o+i,none⟩=_;rw[mL (λ_=>by simp[NA];omega)];have:=hcell ⟨b,o,none⟩ i rfl Sx;rw[mo] at this;rw[this];rw[zx,if_pos hi,xq Sx] at hx;cases hx;simp[List.getD_eq_getElem?_getD,xq Sx]
def XO:laidOutB Tryz.checked.prog=true/\mapsRowed Tryz.checked.prog=true/\Tryz.checked.prog.plainKeys=true:=Go.ClosedOfChecked.closed_of_checked Tryz.checked (by kernel_rfl) (by kernel_rfl) (by kernel_rfl)
def s5:joinedFacts Tryz.pinned.checked.prog 3 Tryz.f3 Rows.wolfRepairedSpec Rows.wolfRepairedRow=true:=by
 show joinedFacts Tryz.checked.prog 3 Tryz.f3 Rows.wolfRepairedSpec Rows.wolfRepairedRow=true;obtain⟨h1,h2,h3⟩:=XO;unfold joinedFacts;rw[h1,h2,h3]
 kernel_rfl
def uT:Tryz.pinned.checked.prog.funcNamed Rows.wolfRepairedRow.func=some 3:=by kernel_rfl
open Go.ChangeShapes Go.WideShapes Go.ChangeAt
def Tryz.own:ownKnob Tryz.prog.godebug=none:=by kernel_rfl
def Tryz.laidOut:laidOutB Tryz.prog=true:=by kernel_rfl
def Tryz.XP:Tryz.prog.cellsOf 3=1:=by kernel_rfl
def OE {P:Program}{w:World}{r:Reach}{base:Nat}{t e:TypeId}{a:Addr}{len cap:Nat}(ht:P.underlying t=some (.slice e))(h:Value.okWide P w r base t (.slice (some a) len cap)):a.spot=none/\∃C ty f,w.heap[a.block]?=some (.cells C ty f):=by
 unfold Value.okWide at h;rw[ht] at h;dsimp only at h;unfold Cell.okWide at h;rw[ht] at h;dsimp only at h;unfold Cell.ok at h;rw[ht] at h;dsimp only at h;obtain⟨_,_,_,hs,row,cells,JV,_⟩:=h;refine⟨hs,?_⟩;unfold World.shape? at JV;cases ho:w.heap[a.block]? with
 |none=>rw[ho] at JV;cases JV
 |some o =>
  rw[ho] at JV;cases o with
  |cells C ty f=>exact⟨C,ty,f,rfl⟩
  |_=>cases JV
def gd (os:Os)(started:os.Started)(H:Type)(enc:TypeId×Value->H)(F:Stop.Interp) :
  ReturnsInLeavingWide { calm:=true } Tryz.checked os 3 .any (Rows.wolfRepairedSpec.pre6 enc Tryz.prog Tryz.f3 [] false) ((OpenSpec.ofChange Rows.wolfRepairedSpec).postWith enc Tryz.prog Tryz.f3 F (outsideKept [.timePasses]) false true false):=by
 refine returnsInLeavingWide_of_change_time (C:=Tryz.checked) Tryz.own started Tryz.func3
  (ChangeSpec.witness6c (enc:=enc) (C:=Tryz.checked) ⟨#[],#[.slice none 0 0],[]⟩ 8 (by kernel_rfl) (by kernel_rfl) (by kernel_rfl) (by kernel_rfl)) ?_
 intro W base args ds gs before Vw hW _ _ _;have hval:∀(j:Nat) t v,Tryz.f3.params[j]?=some t->args[j]?=some v->Value.okWide Tryz.prog W .any base t v:=Vw;have hW':=hW;obtain⟨p,q,hA0,hV,rfl,_,_⟩:=hW;have hA:DataW.TrodAll enc Tryz.prog W 0 (λ_=>true) true Tryz.f3.params.toList args.toList ds p:=hA0;rw[Tryz.params3] at hA hval;obtain⟨v0,d0,rfl,rfl,h0⟩:=trodAll_one hA;obtain⟨rfl,rfl⟩:=trodVars_none hV
 have hv0:=hval 0 _ v0 rfl rfl;obtain⟨a0,len,cap,rfl⟩:=okWide_slice Tryz.underlying22 hv0;have h0k:=h0;obtain⟨fuel,hf⟩:=h0;clear hA0 Vw;simp only[zv] at hW';have hlt:∀x∈p,x.block<W.heap.size:=λx hx=>by simpa using hW'.lt x hx
 have close : ∀ (zs : List Int), len <= zs.length -> (a0 = none -> len = 0) -> (∀ a i, a0 = some a -> i < zs.length -> W.cell? (a.add i) = some (.int .i64 (zs.getD i 0))) ->
   ∃M last o w' t',runNT Tryz.checked.prog (M+1) (solo (G (Frame.enter Tryz.checked.prog 3 #[.slice a0 len cap] .normal) []) W) #[]=(.ended o w',t') /\
    runN Tryz.checked.prog M (solo (G (Frame.enter Tryz.checked.prog 3 #[.slice a0 len cap] .normal) []) W)=.next last/\step Tryz.checked.prog last=.ended o w' /\
    Conc.Good Tryz.checked.prog (λv W'=>Rows.wolfRepairedSpec.post enc Tryz.checked.prog Tryz.f3 false true false false W #[.slice a0 len cap] v { W' with os:=W.os }/\Go.ConcM.OsLater W.os W'.os) last o w' t':=by
  intro zs hz hnil hel;obtain⟨M,last,o,w',t',h1,h2,h3,h4⟩:=OD (cap:=cap) hz (λa e=>by subst e;exact OE Tryz.underlying22 hv0) hnil hel;refine⟨M,last,o,w',t',h1,h2,h3,h4.mono λv hF=>?_⟩;obtain⟨rfl,⟨e1,e2⟩,e3,e4⟩:=hF;refine⟨?_,by rw[e1];exact Go.ConcM.OsLater.refl _⟩;have acB:Below W.heap.size W { w' with os:=W.os,tape:=W.tape }:=⟨rfl,rfl,e2,e3,λk hk=>e4 k hk⟩;have IH:=acB.frame (λx=>x∈p/\(x∈([]:List MemPlace)\/x∈p\/x∈([]:List MemPlace)))
  have ahI:=Below.trod Tryz.laidOut (by kernel_rfl) (of_decide_eq_true (by kernel_rfl)) h0k acB hlt;refine⟨_,_,_,[],p,[],hW',?_,?_,rfl,IH,λh=>by cases h⟩
  .exact trodAll_mk1 (shut_bool (by first|exact Tryz.underlying1|kernel_rfl) true)
  .have h2:DataW.Trod enc Tryz.prog { w' with os:=W.os } 0 (λb=>decide (b<W.heap.size)) true 22 (.slice a0 len cap) d0 p:=ahI.of_heap (by rfl);exact trodAll_mk1 h2
 rcases open_ints Tryz.underlying22 Tryz.underlying3 Tryz.XP hf with⟨hcs,hx⟩|⟨a,len',cap',zs,hcs,_,hl,hm,hz,hx,hcell,hwz⟩
 .simp[Value.cells] at hcs;obtain⟨rfl,rfl,rfl⟩:=hcs;exact close [] (by simp) (λ_=>rfl) (λa i e=>by cases e)
 .simp[Value.cells] at hcs;obtain⟨rfl,rfl,rfl⟩:=hcs;simp only[if_true] at hz;exact close zs (by omega) (λe=>by cases e) (λa' i e hi=>by cases e;exact hcell i hi)
theorem wolfRepaired_holds:Rows.WolfRepairedSaid :=
 OpenClaim.holds_of_wide_leaving_time 3 Tryz.f3 rfl rfl rfl rfl rfl rfl rfl ⟨rfl,rfl,rfl,rfl,rfl⟩ rfl rfl rfl rfl rfl uT Tryz.func3 s5
  (of_decide_eq_true (by kernel_rfl)) (by unfold Func.isWrapper;first|(rw[if_pos (by decide +kernel)];kernel_rfl)|(rw[if_neg (by decide +kernel)];exact⟨rfl,rfl⟩))
  (λos started H enc _ F=>gd os started H enc F)
end Go.Proofs.YtjcgijifamcggaaGreat
