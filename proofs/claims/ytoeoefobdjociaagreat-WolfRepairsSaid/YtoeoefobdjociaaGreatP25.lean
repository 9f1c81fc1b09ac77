/- Parts of the proof. -/
import Derived.Test.YtoeoefobdjociaaGreatP24
set_option linter.all false
set_option maxHeartbeats 6400000
set_option maxRecDepth 1000000
open Go.Value renaming slice->Z,int->ak,pointer->bn
open Option renaming none->Y,some->bc
open Go.Proofs.Tryz renaming prog->J,func89->dr
open Go renaming World->U,Value->br,Goroutine->cf,FuncId->cw,Addr->cL,wpOps_cons->df,Exit->dy
open Bool renaming true->E,false->bb
open Go.IntKind renaming i64->bh
open Go.World renaming alloc_heap_new->bk,setCell->dn
open Go.Obj renaming cells->bq
open Go.Code renaming region->bw
open Go.Conc renaming G->ck
open Go.Frame renaming enter->cr
namespace Go.Sq
open Go.Proofs
open Go.RowKit
def tt (nn mm:Nat)(bW:1<=nn)(hnn:nn<=5)(bX:1<=mm)(hmm:mm<=4)(hb B:Nat)(A:Option cL)(cap:Nat)(l:List Int)(N:Nat)(w:U)(h:Hand w hb B A cap l N)(hN:N<=10000) :
  Calls DU 8 #[.pointer (bc ⟨hb,0,Y⟩),ak bh nn,ak bh mm] w λe w'=>∃c nA hA nc hc,e=.returned (Ef nA hA c nc hc)/\c.Ok/\Eg c=0/\(c.DW.length<=nn/\c.DV.length<=mm)/\IH w' (λb=>w.heap.size<=b/\b<w'.heap.size) nA c.DW/\Gl w' (λb=>w.heap.size<=b/\b<w'.heap.size) hA c.DV/\Hand w' hb B A cap l (N+1000)/\KH hb w w':=by
 obtain⟨W0,zM⟩:∃W0:U,W0=(w.alloc (bq #[.slice Y 0 0,.slice Y 0 0] 25)).alloc (bq #[.slice Y 0 0,.slice Y 0 0] 25):=⟨_,rfl⟩;have zL:Gr w W0:=zM▸((Gr.refl w).alloc _).alloc _;have bY:Hid (W0.heap.size=w.heap.size+2):=Ay (by rw[zM];simp);have HH:=Ay (h.gr zL);have zY:=h.lt;have HW:=Ay zM;have bZ:=Ay zL;have HAM:=Ay (eO hb B A cap l N 1 nn W0 (h.gr zL) (by omega) (by omega) (by omega))
 have bI:Hid (CO w hb B A cap l N (w.heap.size+2) (.slice Y 0 0) [] W0):=Ay ⟨h.gr zL,by rw[zM];exact aM _ _ (by simp),by rw[zM,ae _ _ (by simp)];exact heap_alloc_new _ _,Bw _ _ _ _,⟨zL.below.os,zL.below.tape,zL.below.output,zL.drawn,zL.size,λb hb' _=>zL.below.block b hb'⟩,zY,by rw[zM];simp⟩;clear zM zL h;go_enter Sq.func8,Tryz.ntmps8;go_wp2_with fail;rw[<-HW.out];refine HAM.out.mono ?_;rintro e w1 ⟨⟨n,rfl,c5,cA⟩,hh,a6⟩
 have bJ:=Ay (bI.out.Kw hh a6);clear hh a6 HAM;go_wp2;go_loopw [9] (λi wr=>∃k:Nat,k<=n/\i=ak bh k/\∃v ns,CO w hb B A cap l (N+1+4*k) (w.heap.size+2) v ns wr/\ns.length=k/\∀x∈ns,0<=x/\x<=12) (λi _=>n-(Proofs.intOf i).toNat)
 case atStart=>exact⟨0,by omega,rfl,_,[],bJ.out,rfl,λx hx=>by simp at hx⟩
 case round =>
  obtain⟨k,hk,rfl,v,ns,a7,aN,hns⟩:=hrel;have bA:=Ay hns;clear hns;by_cases hlk:k<n
  .obtain⟨c0,f0,l0⟩:=a7.drew.cell;obtain⟨c9,f9,l9⟩:=a7.cell;replace a7:=Ay a7.drew;go_wp2;clear c9 f9 l9
   go_region_law (first
    |(refine qz (by rfl) _ _ (by rfl) (by rfl) (w.heap.size+2) _ _ _ (by rfl) a7.out.own (ak bh z) rfl (by rfl) (by omega) a7.out.bs.2 ?_;intro v' w6 aJ aB hd6;clear c0 f0 l0;have aO:=(FN a7.out.own aB (w.heap.size+1) (by omega) (Az.1 a7.out.GR).1).trans a7.out.GR;have c6:=(D5 aO 0).1;have f6:=(D5 aO 0).2;have aF:w6.ownsRow (w.heap.size+2) 3 1 v' (ns++[z]).length ((ns++[z]).map (ak bh)):=(by simpa using aJ);obtain⟨A6,k6,hv6,_⟩:=Dn aF;subst hv6)
    |(refine sH (by rfl) ?_;go_simp;first
     |(go_at_call 10;refine(fm hb B A cap l _ _ _ a7.out.hand (by omega) (by omega)).mono ?_;rintro e w' ⟨⟨q,rfl,hq⟩,hh,a6⟩;replace a7:=Ay (a7.out.Kw hh a6);clear c0 f0 l0 hh a6;obtain⟨c0,f0,l0⟩:=a7.out.cell;dsimp only)
     |(go_at_call 26;refine(mO hb B A _ cap 2 l [_,_] _ _ _ (a7.out.alloc _).hand (by omega) (by simp) (Am (a7.out.room _))).mono ?_;rintro e w' ⟨⟨z,rfl,hz⟩,hh,a6⟩;have bK:0<=z/\z<=12:=(by simp only[AJ,AG,or_false] at hz;omega);replace a7:=Ay ((a7.out.alloc _).Kw hh a6);clear c0 f0 l0 hh a6;have HZ:=Ay bK;obtain⟨c0,f0,l0⟩:=a7.out.cell;dsimp only)))
   all_goals
    have aP:=Ay ((a7.out.push aF aB hd6).more (M':=N+1+4*(k+1)) (by omega));have aQ:(ns++[z]).length=k+1:=by simp[aN]
    rw[aQ] at aP;have bL:Hid (∀x∈ns++[z],0<=x/\x<=12):=Ay λx hx=>by
     obtain hx|hx:=Bp.1 hx
     .exact bA.out x hx
     .simp only[AJ,AG,or_false] at hx;subst hx;exact HZ.out
    clear aF aB hd6 aJ a7 c6 f6 aO;go_wp2;go_roundw
    case rel=>exact⟨k+1,by omega,by go_num,_,_,aP.out,aQ,bL.out⟩
    case measure=>simp[Proofs.intOf];omega
  .have bS:k=n:=by omega
   subst bS;have aR:=Ay (a7.cp.more (M':=N+30) (by omega));have aS:=Ay (eO hb B A cap l (N+30) 1 mm wr aR.out.hand (by omega) (by omega) (by omega));clear a7;go_wp2_with fail;refine aS.out.mono ?_;rintro e w2 ⟨⟨m,rfl,cB,hm4⟩,hh,a6⟩;have bM:=Ay (aR.out.Kw hh a6);clear hh a6 aS aR;go_wp2;go_loopw [10] (λi wr=>∃j:Nat,j<=m/\i=ak bh j/\∃u hs xs,CP w hb B A cap l (N+31+20*(m-j)) (w.heap.size+2) v ns u hs xs wr/\hs.length=m-j/\∀h∈hs,Fq ns.length h=0) (λi _=>(Proofs.intOf i).toNat)
   case atStart=>exact⟨m,by omega,rfl,_,[],[],bM.out.more (by omega),by simp,λh hh=>by simp at hh⟩
   case round =>
    obtain⟨wq,rfl⟩:∃wq,wq=wr:=⟨_,rfl⟩;obtain⟨j,hj,rfl,u,hs,xs,bB,hhl,bC⟩:=hrel;have HP:=Ay bB;have bD:=Ay bC;clear bB bC;by_cases cC:0<j
    .have HA1:=Ay (eO hb B A cap l _ 1 6 wq HP.out.hand (by omega) (by omega) (by omega));go_wp2_with fail;refine HA1.out.mono ?_;rintro e v1 ⟨⟨a1,rfl,ha1,hb1⟩,hh,a6⟩;have bE:=Ay (HP.out.Kw hh a6);have HA2:=Ay (eO hb B A cap l _ 1 40 v1 hh (by omega) (by omega) (by omega));clear hh a6 HA1;go_wp2_with fail;refine HA2.out.mono ?_;rintro e v2 ⟨⟨a2,rfl,ha2,zq⟩,hh,a6⟩;have aT:=Ay (bE.out.Kw hh a6)
     have hhl2:=hh.lt;have HA3:=Ay (mO hb B A (bc ⟨v2.heap.size,0,Y⟩) cap 1 l [(a2:Int)] _ a1 (v2.alloc (bq #[ak bh a2] 3)) (aT.out.alloc _).hand (by omega) (by simp) (An (by simp;omega)));clear hh a6 HA2;go_wp2_with fail;refine HA3.out.mono ?_;rintro e v3 ⟨⟨a3,rfl,ha3⟩,hh,a6⟩;have h340:1<=a3/\a3<=40:=by simp only[AJ,AG,or_false] at ha3;omega
     have bF:=Ay ((aT.out.alloc _).Kw hh a6);have HA4:=Ay (eO hb B A cap l _ 1 5 v3 hh (by omega) (by omega) (by omega));clear hh a6 HA3;go_wp2_with fail;refine HA4.out.mono ?_;rintro e v4 ⟨⟨a4,rfl,cD,hb4⟩,hh,a6⟩;have HP4:=Ay (bF.out.Kw hh a6);have HA5:=Ay (eO hb B A cap l _ 0 3 v4 hh (by omega) (by omega) (by omega));clear hh a6 HA4;go_wp2_with fail;refine HA5.out.mono ?_;rintro e v5 ⟨⟨a5,rfl,ha5,hb5⟩,hh,a6⟩
     have aU:=Ay ((HP4.out.Kw hh a6).more (M':=N+31+20*(m-j)+5) (by omega));have bN:=hh.lt;clear hh a6 HA5 HP bE aT bF HP4;obtain⟨vX,aD⟩:∃vX:U,vX=v5.alloc (bq #[ak bh a3,ak bh a4,ak bh a5,.slice Y 0 0] 49):=⟨_,rfl⟩;have HX0:Hid (vX.heap[v5.heap.size]?=bc (bq #[ak bh a3,ak bh a4,ak bh a5,.slice Y 0 0] 49 (0,0))):=Ay (by rw[aD];exact heap_alloc_new _ _)
     have HPX:=Ay (aD▸aU.out.alloc (bq #[ak bh a3,ak bh a4,ak bh a5,.slice Y 0 0] 49));have HZX:Hid (vX.heap.size=v5.heap.size+1):=Ay (by rw[aD];simp);have HKX:Hid (KT (·=hb) v5 vX):=Ay (aD▸KT.E4 ((Gr.refl v5).alloc _));have HVX:=Ay aD;clear aD;go_wp2;rw[<-HVX.out];go_loopw [12] (λi wr=>∃t:Nat,t<=k/\i=ak bh t/\∃y p,KT (·=hb) v5 wr/\Hand wr hb B A cap l (N+31+20*(m-j)+5+t)/\wr.heap[v5.heap.size]?=bc (bq #[ak bh a3,ak bh a4,ak bh a5,y] 49 (0,0))/\wr.ownsRow (v5.heap.size+1) 3 1 y (Eo p t).length ((Eo p t).map (ak bh))) (λi _=>k-(Proofs.intOf i).toNat)
     case atStart=>exact⟨0,by omega,rfl,_,λ_=>false,HKX.out,HPX.out.hand,HX0.out,Bw _ _ _ _⟩
     case round =>
      obtain⟨t,ht,rfl,y,p,a6,hh,aA,zm⟩:=hrel;have HK:=Ay a6;have HO:=Ay zm;have HXO:=Ay aA;have hzw:=a6.size;have hXl:=(Az.1 aA).1;by_cases htk:t<k
      .have HOD:=Ay (mP hb B A cap l _ 1 6 wr hh (by omega) (by omega));clear hh a6 zm aA;go_wp2_with fail;refine HOD.out.mono ?_;rintro e w8 ⟨⟨bo,rfl⟩,hh,a6⟩;have bO:v5.heap.size≠hb:=by omega
       have aV:=Ay (HK.out.trans a6);have a8:=mQ HO.out (show hb<v5.heap.size+1 by omega) a6;have aH:=(a6.block _ hXl bO).trans HXO.out;have bG:=Ay aH;have c8:=(D5 aH 3).1;have f8:=(D5 aH 3).2;have bP:=(Az.1 aH).1;have HH8:=Ay hh;have aK:=Ay a8;obtain⟨p2,aW⟩:∃p2:Nat->Bool,p2=λq=>if q=t then bo else p q:=⟨_,rfl⟩
       have HP:=Ay (jc p2 t);have aX:Hid (p2 t=bo):=Ay (by rw[aW];simp);have aY:=Ay (iE (p:=p2) (q:=p) (k:=t) λi hi=>by rw[aW];exact AD (by omega));clear aW;have cE:=eJ p t;have hz8:=aV.out.size;have hZX:=HZX.out;clear a6 hh HOD aH;obtain⟨yA,yc,aZ,_⟩:=Dn a8;subst aZ;cases bo with
       |true =>
        clear hZX;go_wp2_with (at_builtin;refine iQ rfl _ _ rfl (v5.heap.size+1) _ _ _ rfl (a8.alloc _) ⟨w8.heap.size,0,Y⟩ 1 (ak bh t) rfl ?c1 rfl ?c2 ?c3 ?_)
        case c1=>first|(rw[Addr.add_lit,AE _ _ _ _ (by simp)];rfl)|(rw[AE _ _ _ _ (by simp)];rfl)
        case c2=>omega
        case c3=>simp;omega
        intro v' w9 hown' hgrow hd;have aG:w9.ownsRow (v5.heap.size+1) 3 1 v' (Eo p2 (t+1)).length ((Eo p2 (t+1)).map (ak bh)):=by
         rw[HP.out,aY.out,AF aX.out];simpa using hown'
        obtain⟨A9,c9,hv9,_⟩:=Dn aG;subst hv9;have aL:=(FN aK.out hgrow v5.heap.size (by omega) bP).trans bG.out;have d9:=(D5 aL 3).1;have g9:=(D5 aL 3).2;have aQ:(Eo p t).length+1=(Eo p2 (t+1)).length:=by rw[HP.out,aY.out,AF aX.out];simp
        have bT:=Ay ((fo aV.out aK.out (by omega) hgrow hd).set (p:=⟨v5.heap.size,3,Y⟩) (AA _) (Z A9 (Eo p2 (t+1)).length c9));have HH9:=Ay (((dL HH8.out aK.out (by omega) hgrow).set (p:=⟨v5.heap.size,3,Y⟩) bN (Z A9 (Eo p2 (t+1)).length c9)).more (M:=N+31+20*(m-j)+5+(t+1)) (by omega));have HX9:=Ay (aI (i:=3) (u:=Z A9 (Eo p2 (t+1)).length c9) aL)
        have b5:=Ay (ownsRow_setCell_below aG (show(⟨v5.heap.size,3,Y⟩:cL).block<v5.heap.size+1 from Nat.lt_succ_self _) (Z A9 (Eo p2 (t+1)).length c9));clear hown' hgrow hd aG a8 aL;go_wp2;go_roundw
        case rel=>exact⟨t+1,by omega,by go_num,_,_,bT.out,HH9.out,HX9.out,b5.out⟩
        case measure=>simp[Proofs.intOf];omega
       |false =>
        have b5:Hid (w8.ownsRow (v5.heap.size+1) 3 1 (Z yA (Eo p t).length yc) (Eo p2 (t+1)).length ((Eo p2 (t+1)).map (ak bh))):=Ay (by
         rw[HP.out,aY.out,AD (by rw[aX.out];simp)];simpa using aK.out)
        clear a8;go_wp2;go_roundw
        case rel=>exact⟨t+1,by omega,by go_num,_,_,aV.out,HH8.out,bG.out,b5.out⟩
        case measure=>simp[Proofs.intOf];omega
      .have bQ:t=k:=by omega
       subst bQ;have HH9:=Ay hh;obtain⟨yA,yc,aZ,_⟩:=Dn zm;subst aZ;have aC:=Ay (aU.out.Kw hh a6);obtain⟨cu,fu,lu⟩:=aC.out.cell;have x0:=(D5 aA 0).1;have x1:=(D5 aA 1).1;have x2:=(D5 aA 2).1;have x3:=(D5 aA 3).1;have b6:=aC.out.Fx;have bU:=Ay (Fe zm (show w.heap.size+2<=v5.heap.size+1 by have:=aU.out.bs;omega));clear hh a6 zm aA
       go_wp2_with (at_builtin;refine zi rfl _ _ rfl (w.heap.size+2) _ _ _ rfl (b6.alloc _) ⟨wr.heap.size,0,Y⟩ 1 [ak bh a3,ak bh a4,ak bh a5,Z yA (Eo p t).length yc] rfl rfl ?c1 ?c2 ?c3 ?c4 ?_)
       case c1 =>
        intro q z hq;rw[Addr.add_lit,AO,AE _ _ _ _ (by simp)]
        match q,hq with
        |0,hq=>exact hq
        |1,hq=>exact hq
        |2,hq=>exact hq
        |3,hq=>exact hq
        |q+4,hq=>simp at hq
       case c2=>intro z hz;simp at hz;rcases hz with rfl|rfl|rfl|rfl<;>rfl
       case c3=>omega
       case c4=>have:=aC.out.bs.2;simp;omega
       intro u' w9 hown' hgrow hd;obtain⟨gU,cU,rfl,_,_⟩:=hown'.form (by omega);have HPN:=Ay (aC.out.push (x:=⟨a3,a4,a5,Eo p t⟩) bU.out (by rw[hhl];exact hown') hgrow hd);have b7:=(FN aC.out.Fx hgrow (w.heap.size+1) (by omega) (Az.1 aC.out.GR).1).trans aC.out.GR;have cq:=(D5 b7 1).1;have fq:=(D5 b7 1).2;have HHN:Hid (∀h∈hs++[(⟨a3,a4,a5,Eo p t⟩:EG)],Fq ns.length h=0):=Ay λh hh=>by
        obtain hh|hh:=Bp.1 hh
        .exact bD.out h hh
        .simp only[AJ,AG,or_false] at hh;subst hh;unfold Fq;rw[AF (by simp[FC];omega),aN];exact ly p t
       clear hown' hgrow hd b6 b7;go_wp2;go_roundw
       case rel=>exact⟨j-1,by omega,by go_num,_,_,_,HPN.out.more (by omega),by simp[hhl];omega,HHN.out⟩
       case measure=>simp[Proofs.intOf];omega
    .have bR:j=0:=by omega
     subst bR;obtain⟨nA,nc,hA,hc,rfl,rfl,b8,b9⟩:=HP.out.F4;have cF:=Ay b8;have cG:=Ay b9;have q0:=(D5 HP.out.GR 0).1;have q1:=(D5 HP.out.GR 1).1;have r0:=(D5 HP.out.IB 0).1;have r1:=(D5 HP.out.IB 1).1;have g0:=(D5 HP.out.IB 0).2;have g1:=(D5 HP.out.IB 1).2
     have bH:Hid (Eg ⟨ns,hs⟩=0):=Ay (by
      unfold Eg;have e1:Ez (ns.length:Int) 1 5=0:=dK.2 (by omega);have e2:Ez (hs.length:Int) 1 4=0:=dK.2 (by omega);rw[AD (by simp[e1]),AD,AD (by simp[e2])]
      .exact bg.2 fun x hx => by
        obtain⟨h,hh,rfl⟩:=Bf.1 hx;exact bD.out h hh
      .have : (ns.all fun x => FC x 0 12) = true := Bz.2 fun x hx => by
        have:=bA.out x hx;simp[FC];omega
       rw[this];simp)
     have hhm:hs.length=m:=by omega
     have HKF:Hid (KT (·=hb) w ((wq.setCell ⟨w.heap.size,0,Y⟩ (Z nA k nc)).setCell ⟨w.heap.size,1,Y⟩ (Z hA m hc))):=Ay ((HP.out.kt.set (p:=⟨w.heap.size,0,Y⟩) (AA _) _).set (p:=⟨w.heap.size,1,Y⟩) (AA _) _);have HHF:Hid (Hand ((wq.setCell ⟨w.heap.size,0,Y⟩ (Z nA k nc)).setCell ⟨w.heap.size,1,Y⟩ (Z hA m hc)) hb B A cap l (N+1000)):=Ay (((HP.out.hand.set (p:=⟨w.heap.size,0,Y⟩) zY _).set (p:=⟨w.heap.size,1,Y⟩) zY _).more (by omega))
     have bV:Hid (IH ((wq.setCell ⟨w.heap.size,0,Y⟩ (Z nA k nc)).setCell ⟨w.heap.size,1,Y⟩ (Z hA m hc)) (λb=>w.heap.size<=b/\b<((wq.setCell ⟨w.heap.size,0,Y⟩ (Z nA k nc)).setCell ⟨w.heap.size,1,Y⟩ (Z hA m hc)).heap.size) nA ns):=Ay (fp b8 (λb hb'=>⟨by omega,by have:=hb'.2;simpa [dn] using this⟩) λb o hb'=>(AT (AR _ _ _ _ (by show b≠w.heap.size;omega))).trans (AT (AR _ _ _ _ (by show b≠w.heap.size;omega))))
     have HRG:Hid (Gl ((wq.setCell ⟨w.heap.size,0,Y⟩ (Z nA k nc)).setCell ⟨w.heap.size,1,Y⟩ (Z hA m hc)) (λb=>w.heap.size<=b/\b<((wq.setCell ⟨w.heap.size,0,Y⟩ (Z nA k nc)).setCell ⟨w.heap.size,1,Y⟩ (Z hA m hc)).heap.size) hA hs):=Ay (gG b9 (λb hb'=>⟨by omega,by have:=hb'.2;simpa [dn] using this⟩) λb o hb'=>(AT (AR _ _ _ _ (by show b≠w.heap.size;omega))).trans (AT (AR _ _ _ _ (by show b≠w.heap.size;omega))))
     clear b8 b9;go_wp2;have s1:=AQ (wq.setCell ⟨w.heap.size,0,Y⟩ (Z nA k nc)) ⟨w.heap.size,1,Y⟩ (Z hA m hc) ((AL wq ⟨w.heap.size,0,Y⟩ ⟨w.heap.size,1,Y⟩ (Z nA k nc) (by simp)).trans r1);have s0:=(AL (wq.setCell ⟨w.heap.size,0,Y⟩ (Z nA k nc)) ⟨w.heap.size,1,Y⟩ ⟨w.heap.size,0,Y⟩ (Z hA m hc) (by simp)).trans (AQ wq ⟨w.heap.size,0,Y⟩ (Z nA k nc) r0)
     refine bodyPost_ret (v:=.agg #[Z nA k nc,Z hA m hc]) (by simp[results,Tryz.results8,go_sem,s0,s1]) rfl ⟨⟨ns,hs⟩,nA,hA,nc,hc,by rw[<-aN,<-hhm];rfl,D9.Ok.of bH.out,bH.out,⟨by show ns.length<=nn;omega,by show hs.length<=mm;omega⟩,bV.out,HRG.out,HHF.out,HKF.out⟩
open Go.Eu
def HK (hb B:Nat)(A:Option cL)(cap:Nat)(l:List Int)(M:Nat)(w w':U):Prop:=KT (·=hb) w w'/\(Hand w hb B A cap l M->Hand w' hb B A cap l M)
def HK.E4 {hb B cap M:Nat}{A:Option cL}{l:List Int}{w w':U}(h:Gr w w'):HK hb B A cap l M w w':=⟨KT.E4 h,λk=>k.gr h⟩
instance {hb B cap M:Nat} {A:Option cL} {l:List Int}:Goes (HK hb B A cap l M):={ refl:=λw=>.E4 (.refl w),trans:=λa b=>⟨a.1.trans b.1,λh=>b.2 (a.2 h)⟩,drew:=λw=>.E4 (Gr.refl w).drew }
def Lk {hb B cap M:Nat}{A:Option cL}{l:List Int}{V:br->U->Prop}(h:F3 (KT (·=hb)) V):F3 (HK hb B A cap l M) V:=λv w w' hg=>h v w w' hg.1
def Qb (v:br)(_:U):Prop:=∃z:Int,v=ak bh z
def Mh {R:U->U->Prop}:F3 R Qb:=λ_ _ _ _ h=>h
def OU (lo:Nat)(z:Int)(v:br)(w:U):Prop:=∃y:Int,OQ lo #[ak bh z,ak bh y,ak bh z] 3 v w
def K3 {hb lo:Nat}(h:hb<lo)(z:Int):F3 (KT (·=hb)) (OU lo z):=λ_ _ _ hg ⟨y,h1⟩=>⟨y,iI h _ _ _ _ _ hg h1⟩
def vB {nA hA:Option cL}{nc hc:Nat}{c:D9}{W:U}{u:Nat->br}{Q:dy->Act->U->Prop}(h0:u 0=.agg #[Z nA c.DW.length nc,Z hA c.DV.length hc])
  (hK:∀W' u',Gr W W'->Fr (aH 0) u' u->JW W.heap.size (Z nA c.DW.length nc) (Z hA c.DV.length hc) (u' 5) W'->Q .normal ⟨T 180 u',[]⟩ W'):(bw 0 (aH 0) bb).wp DU Q ⟨T 180 u,[]⟩ W:=by
 refine aW (R:=Gr) 2<|Ea (J7 (JW W.heap.size (Z nA c.DW.length nc) (Z hA c.DV.length hc)) (ku _ _ _) ?_)<|Ea Q2<|Gc λu w hg hf hv=>?_
 .intro u w hg hf hl hd;refine aU (op:=.box 25 (.tmp 0)) (t:=0) rfl _ (w.alloc (bq #[(Z nA c.DW.length nc),(Z hA c.DV.length hc)] 25)) (λev he=>?_) ((Gr.refl w).alloc _) (tn hg.size _ _);have e0:=((he.t 0).trans ((hf.at_ 0).trans h0));clear hg hf hl hd he;go_simp
 .exact hK w u hg hf (hv.at_ 0 5)
def yP {nA hA:Option cL}{nc hc:Nat}{c:D9}{B lo:Nat}{W:U}{u:Nat->br}{Q:dy->Act->U->Prop}(h3:JW lo (Z nA c.DW.length nc) (Z hA c.DV.length hc) (u 5) W)(hB:B<=W.heap.size)(hh:EN W B hA c.DV)(a7:c.DW.length<=9223372036854775807)(zC:c.DV.length<=9223372036854775807)(a8:∀h∈c.DV,h.off.length<=9223372036854775807)(hs:GC c=bb)
  (hK:∀W' u',Gr W W'->Fr (aH 1) u' u->u' 37=.bool E->Q .normal ⟨T 180 u',[]⟩ W'):(bw 1 (aH 1) bb).wp DU Q ⟨T 180 u,[]⟩ W:=by
 have a6:=Ay (λV (hV:Gr W V)=>pj nA hA nc hc c V B (AH hB hV.size) (hh.keep λb o hb=>hV.cell (p:=⟨b,o,Y⟩) (AC hb hB)) a7 zC a8);unfold Ef at a6;rw[hs] at a6;obtain⟨b,q3,hb,c0,c1⟩:=h3;refine aW (R:=Gr) 8<|Ea (I6 (.agg #[Z nA c.DW.length nc,Z hA c.DV.length hc]) (G9 q3) rfl λw hg ev e=>by have d0:=(hg.cell (p:=⟨b,0,Y⟩) hb.2).trans c0;have d1:=(hg.cell (p:=⟨b,1,Y⟩) hb.2).trans c1;clear hg;go_simp)<|Ea (Lg Sq.func4 [0] a6.out)<|Ea (MH (El 1))<|Ea (GD 2)<|Ea P0<|Ea P0<|Ea P0<|Ea (RP (El 3))<|Gc λu w hg hf hv=>?_
 .exact hK w u hg hf (hv.at_ 7 37)
def tu {nA hA:Option cL}{nc hc:Nat}{c:D9}{B lo gc:Nat}{gA:Option cL}{ls:List (List Int)}{W:U}{u:Nat->br}{Q:dy->Act->U->Prop}(h3:JW lo (Z nA c.DW.length nc) (Z hA c.DV.length hc) (u 5) W)(hB:B<=W.heap.size)(hh:EN W B hA c.DV)(a7:c.DW.length<=9223372036854775807)(zC:c.DV.length<=9223372036854775807)(a8:∀h∈c.DV,h.off.length<=9223372036854775807)(hs:GC c=E)(h1:u 1=Z gA ls.length gc)(zL:ER W B gA ls)(zr:ls.length<=9223372036854775807)(aA:∀x∈ls,x.length<=9223372036854775807)
  (hK:∀W' u',Gr W W'->Fr (aH 1) u' u->u' 37=.bool (!JH ls)->Q .normal ⟨T 180 u',[]⟩ W'):(bw 1 (aH 1) bb).wp DU Q ⟨T 180 u,[]⟩ W:=by
 have a6:=Ay (λV (hV:Gr W V)=>pj nA hA nc hc c V B (AH hB hV.size) (hh.keep λb o hb=>hV.cell (p:=⟨b,o,Y⟩) (AC hb hB)) a7 zC a8);unfold Ef at a6;rw[hs] at a6;have H30:=Ay (λV (hV:Gr W V)=>zh gA gc ls V B (zL.gr hB hV) zr aA);obtain⟨b,q3,hb,c0,c1⟩:=h3;refine aW (R:=Gr) 8<|Ea (I6 (.agg #[Z nA c.DW.length nc,Z hA c.DV.length hc]) (G9 q3) rfl λw hg ev e=>by have d0:=(hg.cell (p:=⟨b,0,Y⟩) hb.2).trans c0;have d1:=(hg.cell (p:=⟨b,1,Y⟩) hb.2).trans c1;clear hg;go_simp)<|Ea (Lg Sq.func4 [0] a6.out)<|Ea (MH (El 1))<|Ea (GD 2)<|Ea (Es h1)<|Ea (Jw Sq.func5 [4] (λv _=>v=.bool (JH ls)) (EU _) λw hg=>(H30.out w hg).mono λe w' h=>⟨_,h.1,h.2▸Gr.refl w,rfl⟩)<|Ea (MH (El 5))<|Ea (MJ (El 3) (El 6))<|Gc λu w hg hf hv=>?_
 .exact hK w u hg hf (hv.at_ 7 37)
def Ae {A:Option cL}{cap:Nat}{l:List Int}{B:Nat}{W:U}{u:Nat->br}{Q:dy->Act->U->Prop}(h2:u 4=Z A l.length cap)(hr:RI W B A l)(hB:B<=W.heap.size)
  (hK:∀W' u',Gr W W'->Fr (aH 3) u' u->OP W.heap.size A cap l (u' 11) W'->Q .normal ⟨T 180 u',[]⟩ W'):(bw 3 (aH 3) bb).wp DU Q ⟨T 180 u,[]⟩ W:=by
 refine aW (R:=Gr) 3<|Ea (Es h2)<|Ea (Jw Sq.func7 [0] (OP W.heap.size A cap l) (NN _ _ _ _) λw hg=>(sE A cap l w ((hr.gr hB hg).more (AH hB hg.size))).mono λe w' h=>⟨_,h.1,h.2.2,_,_,rfl,hg.size,h.2.1⟩)<|Ea (GD 1)<|Gc λu w hg hf hv=>?_
 .exact hK w u hg hf (hv.at_ 2 11)
def Af {hb B cap:Nat}{A:Option cL}{l:List Int}{W:U}{u:Nat->br}{Q:dy->Act->U->Prop}(h7:u 11=.pointer (bc ⟨hb,0,Y⟩))(hh:Hand W hb B A cap l 0)
  (hK:∀W' u' (c:D9) (nA hA:Option cL) (nc hc:Nat),KT (·=hb) W W'->Hand W' hb B A cap l 1000->(∀t,t≠41->t≠42->t≠12->u' t=u t)->c.Ok->JW W.heap.size (Z nA c.DW.length nc) (Z hA c.DV.length hc) (u' 12) W' ->
   IH W' (λb=>W.heap.size<=b/\b<W'.heap.size) nA c.DW->Gl W' (λb=>W.heap.size<=b/\b<W'.heap.size) hA c.DV->Q .normal ⟨T 180 u',[]⟩ W'):(bw 4 (aH 4) bb).wp DU Q ⟨T 180 u,[]⟩ W:=by
 refine wp_region ?_;rw[show List.range (aH 4).size=[0,1,2,3] from by kernel_rfl,df];refine xg (d:=bc 41) rfl ?_;rw[df];refine xh (d:=bc 42) rfl Sq.func8 #[.pointer (bc ⟨hb,0,Y⟩),ak bh 4,ak bh 3] (λev he=>?_) ((tt 4 3 (by omega) (by omega) (by omega) (by omega) hb B A cap l 0 W hh (by omega)).mono ?_)
 .have e1:=(he.t 41).trans ((aV ..).trans h7);simp[e1,he.2.1]
 rintro e w2 ⟨c,nA,hA,nc,hc,rfl,a8,aA,_,hn,hs,a6,zo⟩;refine⟨_,rfl,?_⟩;rw[df];refine ft (d:=bc 12) (op:=.alloc 25) (t:=0) rfl (.pointer (bc ⟨w2.heap.size,0,Y⟩)) (w2.alloc (bq #[.slice Y 0 0,.slice Y 0 0] 25)) (λev he=>?_) ?_
 .clear he hh hn hs a6 zo hK;go_simp
 have zq:(w2.alloc (bq #[.slice Y 0 0,.slice Y 0 0] 25)).heap[w2.heap.size]?=bc (bq #[.slice Y 0 0,.slice Y 0 0] 25 (0,0)):=bk _ _;rw[df];refine eP (d:=Y) (op:=.store 25 (.tmp 12) (.tmp 42)) (t:=0) rfl (((w2.alloc (bq #[.slice Y 0 0,.slice Y 0 0] 25)).setCell ⟨w2.heap.size,0,Y⟩ (Z nA c.DW.length nc)).setCell ⟨w2.heap.size,1,Y⟩ (Z hA c.DV.length hc)) (λev he=>?_) ?_
 .have e1:=(he.t 12).trans (aV ..);have e2:=(he.t 42).trans ((Fh (by decide)).trans (aV ..));obtain⟨⟨q1,q2,q3,q4⟩,q5⟩:=I2 zq;unfold Ef at e2;clear he hh hn hs a6 zo hK zq;go_simp
 have g2:Gr w2 (((w2.alloc (bq #[.slice Y 0 0,.slice Y 0 0] 25)).setCell ⟨w2.heap.size,0,Y⟩ (Z nA c.DW.length nc)).setCell ⟨w2.heap.size,1,Y⟩ (Z hA c.DV.length hc)):=sP ((Gr.refl w2).alloc _) (AA _);have hz:=zo.size;have a7:∀b,W.heap.size<=b/\b<w2.heap.size->W.heap.size<=b/\b<(((w2.alloc (bq #[.slice Y 0 0,.slice Y 0 0] 25)).setCell ⟨w2.heap.size,0,Y⟩ (Z nA c.DW.length nc)).setCell ⟨w2.heap.size,1,Y⟩ (Z hA c.DV.length hc)).heap.size:=λb hb=>⟨hb.1,AC hb.2 g2.size⟩
 obtain⟨o0,o1⟩:=Nd (x:=Z nA c.DW.length nc) (y:=Z hA c.DV.length hc) zq;show Q .normal _ _;exact hK _ _ c nA hA nc hc (zo.trans (KT.E4 g2)) (a6.gr g2) (λt h1 h2 h3=>(Fh h3).trans ((Fh h2).trans (Fh h1))) a8 ⟨w2.heap.size,(show Ky (GH (GH u (bc 41) (u 11)) (bc 42) (Ef nA hA c nc hc)) 12 (.pointer (bc ⟨w2.heap.size,0,Y⟩)) 12=_ from aV ..),⟨hz,by rw[gK];simp⟩,o0,o1⟩ (fp hn a7 λb o hb=>g2.cell (p:=⟨b,o,Y⟩) hb.2) (gG hs a7 λb o hb=>g2.cell (p:=⟨b,o,Y⟩) hb.2)
def Ag {nA hA gA nA2 zk A:Option cL}{nc hc gc nc2 zt cap hb B b3 b8:Nat}{c c2:D9}{ls:List (List Int)}{l:List Int}{W:U}{u:Nat->br}{Q:dy->Act->U->Prop}(h1:u 1=Z gA ls.length gc)
  (h3:u 5=.pointer (bc ⟨b3,0,Y⟩)) (hb3:b3<W.heap.size/\¬b3=hb) (h30:W.cell? ⟨b3,0,Y⟩=bc (Z nA c.DW.length nc)) (a8:W.cell? ⟨b3,1,Y⟩=bc (Z hA c.DV.length hc)) (h7:u 11=.pointer (bc ⟨hb,0,Y⟩)) (hh:Hand W hb B A cap l 1000)
  (h8:u 12=.pointer (bc ⟨b8,0,Y⟩)) (a6:b8<W.heap.size/\¬b8=hb) (aA:W.cell? ⟨b8,0,Y⟩=bc (Z nA2 c2.DW.length nc2)) (aB:W.cell? ⟨b8,1,Y⟩=bc (Z zk c2.DV.length zt)) (aC:c2.Ok) (aD:RI W W.heap.size nA2 c2.DW) (hs2:EN W W.heap.size zk c2.DV)
  (hK:∀W' u',KT (·=hb) W W'->Hand W' hb B A cap l 2000->Fr (aH 5) u' u->OQ W.heap.size #[Z nA c.DW.length nc,Z hA c.DV.length hc,Z nA2 c2.DW.length nc2,Z zk c2.DV.length zt,Z nA2 c2.DW.length nc2,Z zk c2.DV.length zt] 25 (u' 13) W'->P9 W.heap.size c2.DW.length c2.DV.length (Z gA ls.length gc) (u' 14) W'->Q .normal ⟨T 180 u',[]⟩ W'):(bw 5 (aH 5) E).wp DU Q ⟨T 180 u,[]⟩ W:=by
 have zY:=hh.lt;have H8:∀w,HK hb B A cap l 2000 W w->∀ev:Operand->br,ev (.tmp 12)=.pointer (bc ⟨b8,0,Y⟩)->(execOp ev (Ia (.load 25 (.tmp 12)) 25)).run DU w=.ok (.value (.agg #[Z nA2 c2.DW.length nc2,Z zk c2.DV.length zt])) w:=λw hg ev e=>by
  have c0:=(hg.1.cell (p:=⟨b8,0,Y⟩) a6.1 a6.2).trans aA;have c1:=(hg.1.cell (p:=⟨b8,1,Y⟩) a6.1 a6.2).trans aB;clear hg;go_simp
 refine RN (R:=HK hb B A cap l 2000) (λk w=>k=7->Gr W w) 12 (λ_ _=>(Gr.refl W).drew)<|F8 (I6 (.agg #[Z nA c.DW.length nc,Z hA c.DV.length hc]) (G9 h3) rfl λw hg ev e=>by have c0:=(hg.1.cell (p:=⟨b3,0,Y⟩) hb3.1 hb3.2).trans h30;have c1:=(hg.1.cell (p:=⟨b3,1,Y⟩) hb3.1 hb3.2).trans a8;clear hg;go_simp)<|F8 (I6 (.agg #[Z nA2 c2.DW.length nc2,Z zk c2.DV.length zt]) (G9 h8) rfl H8)<|F8 (I6 (.agg #[Z nA2 c2.DW.length nc2,Z zk c2.DV.length zt]) (G9 h8) rfl H8)<|F8 (J7 (OQ W.heap.size #[Z nA c.DW.length nc,Z hA c.DV.length hc,Z nA2 c2.DW.length nc2,Z zk c2.DV.length zt,Z nA2 c2.DW.length nc2,Z zk c2.DV.length zt] 25) (Lk (iI zY _ _)) ?_)<|F8 (Es h1)<|F8 (Es h7)<|F8 (I6 (.agg #[Z nA2 c2.DW.length nc2,Z zk c2.DV.length zt]) (G9 h8) rfl H8)<|F8 (Pg Sq.func9 [5,6] (OT W.heap.size c2.DW.length c2.DV.length) (Lk (Mg zY)) λw hg hj=>(ox hb B A nA2 zk cap nc2 zt l 1000 c2 w (hh.gr (hj rfl)) (by omega) aC (aD.OB (hj rfl)) (hs2.on (hj rfl))).mono ?_)<|F8 (Es h1)<|F8 (J7 (P9 W.heap.size c2.DW.length c2.DV.length (Z gA ls.length gc)) (Lk (tq zY _)) ?_)<|F8 (GD 3)<|F8 (GD 9)<|MG λu w hg hf hv=>?_
 .intro u w hg hf hl hd;have hz:=hg.1.size;refine aU (op:=.buildSlice 33 3 #[(0,.tmp 43),(1,.tmp 44),(2,.tmp 45)]) (t:=33) rfl _ (w.alloc (bq #[Z nA c.DW.length nc,Z hA c.DV.length hc,Z nA2 c2.DW.length nc2,Z zk c2.DV.length zt,Z nA2 c2.DW.length nc2,Z zk c2.DV.length zt] 25)) (λev he=>?_) ⟨.E4 ((Gr.refl w).alloc _),λk _ _ h e=>(h e).alloc _⟩ ⟨_,rfl,hz,bk _ _⟩
  have e1:=((he.t 43).trans (hd.at_ 0 43));have e2:=((he.t 44).trans (hd.at_ 1 44));have e3:=((he.t 45).trans (hd.at_ 2 45));clear hg hf hl hd he;go_simp
 .have hz:=hg.1.size;rintro e w2 ⟨v,a7,xs,rfl,h1,h2,h3,h5,h4⟩;exact⟨v,rfl,⟨⟨h4,λ_=>h5⟩,λk h1 _ _ e=>AI e h1⟩,a7,⟨xs,et h1 (by omega)⟩,h2,h3⟩
 .intro u w hg hf hl hd;have hz:=hg.1.size;obtain⟨a7,⟨xs,h1⟩,h2⟩:=(hd.at_ 7 50);obtain⟨aF,aG,e42,_⟩:=h1.J4;refine aU (op:=.buildSlice 35 3 #[(0,.tmp 47),(1,.tmp 50),(2,.tmp 51)]) (t:=35) rfl _ (w.alloc (bq #[Z gA ls.length gc,Z aF a7.length aG,Z gA ls.length gc] 26)) (λev he=>?_) ⟨.E4 ((Gr.refl w).alloc _),λk _ _ h e=>(h e).alloc _⟩ ⟨_,⟨_,rfl,hz,bk _ _⟩,a7,⟨xs,by rw[<-e42];exact h1.keep λb hb=>((Gr.refl w).alloc _).below.block b hb⟩,h2⟩
  have e1:=((he.t 47).trans (hd.at_ 4 47));have e2:=(he.t 50).trans e42;have e3:=((he.t 51).trans (hd.at_ 8 51));clear hg hf hl hd he h1;go_simp
 .have er:List.range' 12 ((aH 5).size-12)=[]:=by kernel_rfl
  rw[er];exact hK w u hg.1 (hg.2 (hh.more (by omega))) hf (hv.at_ 10 13) (hv.at_ 11 14)
def Ah {nA2 zk A:Option cL}{nc2 zt cap hb B b8:Nat}{c2:D9}{herder night:Int}{l:List Int}{W:U}{u:Nat->br}{Q:dy->Act->U->Prop}(h2:u 2=ak bh herder)(h3:u 3=ak bh night)(h7:u 11=.pointer (bc ⟨hb,0,Y⟩))(hh:Hand W hb B A cap l 2000)
  (h8:u 12=.pointer (bc ⟨b8,0,Y⟩)) (a6:b8<W.heap.size/\¬b8=hb) (a7:W.cell? ⟨b8,0,Y⟩=bc (Z nA2 c2.DW.length nc2)) (a8:W.cell? ⟨b8,1,Y⟩=bc (Z zk c2.DV.length zt)) (aA:c2.DW.length<=5) (hm4:c2.DV.length<=4)
  (hK:∀W' u',KT (·=hb) W W'->Fr (aH 6) u' u->OU W.heap.size herder (u' 15) W'->OU W.heap.size night (u' 16) W'->Q .normal ⟨T 180 u',[]⟩ W'):(bw 6 (aH 6) E).wp DU Q ⟨T 180 u,[]⟩ W:=by
 have zY:=hh.lt;refine RN (R:=KT (·=hb)) (λk w=>(k=6->Hand w hb B A cap l 2000)/\(k=15->Hand w hb B A cap l 2001)) 20 (λk=>⟨λ_=>hh.gr (Gr.refl W).drew,λ_=>(hh.more (by omega)).gr (Gr.refl W).drew⟩)<|F8 (Es h2)<|F8 (Es h7)<|F8 (JJ 1 (G9 h8))<|F8 (Gp (El 2) λw hg=>(hg.cell (p:=⟨b8,1,Y⟩) a6.1 a6.2).trans a8)<|F8 (P4 (El 3))<|F8 (P3 ((c2.DV.length:Int)-1) (El 4))<|F8 (Pg Sq.func10 [1,5] Qb Mh λw _ hj=>(fm hb B A cap l 2000 ((c2.DV.length:Int)-1) w (hj.1 rfl) (by omega) (by omega)).mono λe w2 ⟨⟨z,e1,_⟩,hH,hk⟩=>⟨_,e1,⟨hk,λk h1 h2 hC=>⟨λe=>AI e h1,λ_=>hH⟩⟩,z,rfl⟩)<|F8 (Es h2)<|F8 (J7 (OU W.heap.size herder) (K3 zY _) ?_)<|F8 (Es h3)<|F8 (Es h7)<|F8 (JJ 0 (G9 h8))<|F8 (Gp (El 11) λw hg=>(hg.cell (p:=⟨b8,0,Y⟩) a6.1 a6.2).trans a7)<|F8 (P4 (El 12))<|F8 (P3 ((c2.DW.length:Int)-1) (El 13))<|F8 (Pg Sq.func10 [10,14] Qb Mh λw _ hj=>(fm hb B A cap l 2001 ((c2.DW.length:Int)-1) w (hj.2 rfl) (by omega) (by omega)).mono λe w2 ⟨⟨z,e1,_⟩,hH,hk⟩=>⟨_,e1,⟨hk,λk h1 h2 hC=>⟨λe=>AI (by subst e;exact C2.1 (by kernel_rfl)) h2,λe=>AI e h1⟩⟩,z,rfl⟩)<|F8 (Es h3)<|F8 (J7 (OU W.heap.size night) (K3 zY _) ?_)<|F8 (GD 8)<|F8 (GD 17)<|MG λu w hg hf hv=>?_
 .intro u w hg hf hl hd;have hz:=hg.size;obtain⟨y,e2⟩:=(hd.at_ 6 59);refine aU (op:=.buildSlice 22 3 #[(0,.tmp 53),(1,.tmp 59),(2,.tmp 60)]) (t:=22) rfl _ (w.alloc (bq #[ak bh herder,ak bh y,ak bh herder] 3)) (λev he=>?_) ⟨KT.E4 ((Gr.refl w).alloc _),λk _ _ h=>⟨λe=>(h.1 e).gr ((Gr.refl w).alloc _),λe=>(h.2 e).gr ((Gr.refl w).alloc _)⟩⟩ ⟨y,_,rfl,hz,bk _ _⟩;have e1:=((he.t 53).trans (hd.at_ 0 53))
  have e4:=(he.t 59).trans e2;have e3:=((he.t 60).trans (hd.at_ 7 60));clear hg hf hl hd he;go_simp
 .intro u w hg hf hl hd;have hz:=hg.size;obtain⟨y,e2⟩:=(hd.at_ 15 68);refine aU (op:=.buildSlice 22 3 #[(0,.tmp 62),(1,.tmp 68),(2,.tmp 69)]) (t:=22) rfl _ (w.alloc (bq #[ak bh night,ak bh y,ak bh night] 3)) (λev he=>?_) ⟨KT.E4 ((Gr.refl w).alloc _),λk _ _ h=>⟨λe=>(h.1 e).gr ((Gr.refl w).alloc _),λe=>(h.2 e).gr ((Gr.refl w).alloc _)⟩⟩ ⟨y,_,rfl,hz,bk _ _⟩;have e1:=((he.t 62).trans (hd.at_ 9 62))
  have e4:=(he.t 68).trans e2;have e3:=((he.t 69).trans (hd.at_ 16 69));clear hg hf hl hd he;go_simp
 .have er:List.range' 20 ((aH 6).size-20)=[]:=by kernel_rfl
  rw[er];exact hK w u hg hf (hv.at_ 18 15) (hv.at_ 19 16)
noncomputable def lV:Code:=Jv 2 eK
noncomputable def Jz:Array Oper:=Q6 (L6 (Pz (q4 1)))
noncomputable def JX:Array Oper:=Q6 (L6 (Jv 7 eK))
def nl:eK=.seq (.region 0 (aH 0) bb) (.seq (.seq (.region 1 (aH 1) bb) (.cond (.tmp 37) (.seq (.region 2 Jz bb) .ret) .skip)) lV):=by kernel_rfl
def ve:lV=.seq (.region 3 (aH 3) bb) (.seq (.region 4 (aH 4) bb) (.seq (.region 5 (aH 5) E) (.seq (.region 6 (aH 6) E) (.seq (q4 6) (.seq (.region 17 JX bb) .ret))))):=by kernel_rfl
def N4 (a:Act):Prop:=a.tmps.size=180/\a.defers=[]
def n4 {u:Nat->br}:N4 ⟨T 180 u,[]⟩:=⟨Jj,rfl⟩
section
variable {nA hA gA A:Option cL} {nc hc gc cap:Nat} {c:D9} {ls:List (List Int)} {herder night:Int} {l:List Int} {w:U} {u:Nat->br}
def yQ (h0:u 0=.agg #[Z nA c.DW.length nc,Z hA c.DV.length hc])(h1:u 1=Z gA ls.length gc)(hh:EN w w.heap.size hA c.DV)(hg:ER w w.heap.size gA ls)(a8:c.DW.length<=9223372036854775807)(zC:c.DV.length<=9223372036854775807)(aA:∀h∈c.DV,h.off.length<=9223372036854775807)
  (zr:ls.length<=9223372036854775807) (aB:∀x∈ls,x.length<=9223372036854775807) (hs:(GC c&&JH ls)=bb):aZ DU [.inRegion Jz [0,1],.code .ret,.code lV] eK (λa _=>N4 a) ⟨T 180 u,[]⟩ w:=by
 rw[nl];refine aS λK hK=>?_;refine vB h0 λW1 u1 g1 f1 h3=>hK _ _ ?_;refine fQ (tgt:=[.inRegion Jz [0,1],.code .ret]) ?_;refine aS λK hK=>?_;cases a7:GC c with
 |false =>
  refine yP (B:=w.heap.size) h3 g1.size (hh.keep λb o hb=>g1.cell hb) a8 zC aA a7 λW2 u2 g2 f2 a6=>hK _ _ ?_;refine fl (v:=E) ((dM (by decide)).trans a6) ?_;exact nk (more:=[]) (by kernel_rfl) n4
 |true =>
  rw[a7,Cg] at hs;refine tu (B:=w.heap.size) h3 g1.size (hh.keep λb o hb=>g1.cell hb) a8 zC aA a7 ((f1.at_ 1).trans h1) (hg.keep λb o hb=>g1.cell hb) zr aB λW2 u2 g2 f2 a6=>hK _ _ ?_;rw[hs] at a6;refine fl (v:=E) ((dM (by decide)).trans a6) ?_;exact nk (more:=[]) (by kernel_rfl) n4
def yR (h0:u 0=.agg #[Z nA c.DW.length nc,Z hA c.DV.length hc])(h1:u 1=Z gA ls.length gc)(h2:u 2=ak bh herder)(h3:u 3=ak bh night)(h4:u 4=Z A l.length cap)(hn:RI w w.heap.size nA c.DW)(hh:EN w w.heap.size hA c.DV)(hg:ER w w.heap.size gA ls)(hr:RI w w.heap.size A l)
  (hs:(GC c&&JH ls)=E):aZ DU [.inRegion JX [0,1],.code .ret] eK (λa _=>N4 a) ⟨T 180 u,[]⟩ w:=by
 obtain⟨aK,aL⟩:GC c=E/\JH ls=true:=by simpa using hs
 obtain⟨s1,s2,s3⟩:=NC aK;obtain⟨s4,s5⟩:=Pb aL;rw[nl];refine aS λK hK=>?_;refine vB h0 λW1 u1 g1 f1 h5=>hK _ _ ?_;refine aS λK hK=>?_;refine wp_seq (tu (B:=w.heap.size) h5 g1.size (hh.keep λb o hb=>g1.cell hb) (by omega) (by omega) (λy hy=>AH (s3 y hy) (by omega)) aK ((f1.at_ 1).trans h1) (hg.keep λb o hb=>g1.cell hb) (by omega) (λy hy=>AH (s5 y hy) (by omega)) λW2 u2 g2 f2 aM=>?_);rw[aL] at aM
 show Code.wp _ _ _ _ _;refine wp_cond_false ((dM (by decide)).trans aM) (wp_skip (hK _ _ ?_));rw[ve];have a6:=g1.trans g2;refine aS λK hK=>?_;refine Ae (B:=w.heap.size) ((f2.at_ 4).trans ((f1.at_ 4).trans h4)) (hr.keep λb o hb=>a6.cell hb) a6.size λW3 u3 g3 f3 h7=>hK _ _ ?_;obtain⟨hb,B,e7,bH,aN⟩:=h7;have b7:JW w.heap.size (Z nA c.DW.length nc) (Z hA c.DV.length hc) (u3 5) W2:=by
  rw[f3.at_ 5,f2.at_ 5];exact ku _ _ _ _ _ _ g2 h5
 obtain⟨b3,e3,hb3,c30,c31⟩:=b7;have a7:¬b3=hb:=by omega
 have aO:=a6.trans g3;refine aS λK hK=>?_;refine Af e7 aN λW4 u4 c2 nA2 zk nc2 zt k4 b9 f4 aB h8 aP hs2=>hK _ _ ?_;obtain⟨b8,e8,aD,c80,c81⟩:=h8;have bI:=aN.lt;have hz3:=g3.size;have q5:=aB.n5;have q4:=aB.h4;refine aS λK hK=>?_;refine Ag (gc:=gc) (nc:=nc) (hc:=hc) (b3:=b3) (b8:=b8) (c:=c) (c2:=c2) (nA:=nA) (hA:=hA) (nA2:=nA2) (zk:=zk) (nc2:=nc2) (zt:=zt) (gA:=gA) (ls:=ls) ((f4 1 (by decide) (by decide) (by decide)).trans ((f3.at_ 1).trans ((f2.at_ 1).trans ((f1.at_ 1).trans h1)))) ((f4 5 (by decide) (by decide) (by decide)).trans e3) ⟨by have:=k4.size;omega,a7⟩
  ((k4.cell (p:=⟨b3,0,Y⟩) (show b3<W3.heap.size by omega) a7).trans ((g3.cell (p:=⟨b3,0,Y⟩) hb3.2).trans c30)) ((k4.cell (p:=⟨b3,1,Y⟩) (show b3<W3.heap.size by omega) a7).trans ((g3.cell (p:=⟨b3,1,Y⟩) hb3.2).trans c31)) ((f4 11 (by decide) (by decide) (by decide)).trans e7) b9 e8 ⟨aD.2,by omega⟩ c80 c81 aB (aP.ri λb hb'=>hb'.2) (hs2.hs λb hb'=>hb'.2) λW5 u5 k5 hh5 f5 h9 h10=>hK _ _ ?_
 obtain⟨cb,e9,lcb,hcb⟩:=h9;obtain⟨x,⟨rb,bA,lrb,aQ⟩,aC,⟨xs,aR⟩,zC,hch⟩:=h10;obtain⟨aF,aG,rfl,zI⟩:=aR.J4;have bJ:=k5.size;have aV:=(Az.1 hcb).1;have aW:=(Az.1 aQ).1;refine aS λK hK=>?_;refine Ah (b8:=b8) (c2:=c2) (nA2:=nA2) (zk:=zk) (nc2:=nc2) (zt:=zt) ((f5.at_ 2).trans ((f4 2 (by decide) (by decide) (by decide)).trans ((f3.at_ 2).trans ((f2.at_ 2).trans ((f1.at_ 2).trans h2))))) ((f5.at_ 3).trans ((f4 3 (by decide) (by decide) (by decide)).trans ((f3.at_ 3).trans ((f2.at_ 3).trans ((f1.at_ 3).trans h3))))) ((f5.at_ 11).trans ((f4 11 (by decide) (by decide) (by decide)).trans e7)) hh5 ((f5.at_ 12).trans e8) ⟨by omega,by omega⟩
  ((k5.cell (p:=⟨b8,0,Y⟩) aD.2 (show ¬b8=hb by omega)).trans c80) ((k5.cell (p:=⟨b8,1,Y⟩) aD.2 (show ¬b8=hb by omega)).trans c81) (by omega) (by omega) λW6 u6 k6 f6 bB bC=>hK _ _ ?_
 obtain⟨y1,bD,bE,lhb,hhb⟩:=bB;obtain⟨y2,dbk,bF,ldb,aT⟩:=bC;have hz6:=k6.size;have bK:=k4.size;have hz03:=aO.size;have aH:∀b o,b<w.heap.size->W6.cell? ⟨b,o,Y⟩=w.cell? ⟨b,o,Y⟩:=λb o bG=>(k6.cell (p:=⟨b,o,Y⟩) (show b<W5.heap.size by omega) (show ¬b=hb by have:=a6.size;omega)).trans ((k5.cell (p:=⟨b,o,Y⟩) (show b<W4.heap.size by omega) (show ¬b=hb by have:=a6.size;omega)).trans ((k4.cell (p:=⟨b,o,Y⟩) (show b<W3.heap.size by omega) (show ¬b=hb by have:=a6.size;omega)).trans (aO.cell (p:=⟨b,o,Y⟩) bG)))
 have hz:w.heap.size<=W6.heap.size:=by omega
 have zo:∀b o,W3.heap.size<=b/\b<W4.heap.size->W6.cell? ⟨b,o,Y⟩=W4.cell? ⟨b,o,Y⟩:=λb o hb'=>(k6.cell (p:=⟨b,o,Y⟩) (show b<W5.heap.size by omega) (show ¬b=hb by omega)).trans (k5.cell (p:=⟨b,o,Y⟩) hb'.2 (show ¬b=hb by omega));have hn6:RI W6 W6.heap.size nA2 c2.DW:=(aP.keep zo).ri λb hb'=>by omega
 have hs6:EN W6 W6.heap.size zk c2.DV:=(hs2.keep zo).hs λb hb'=>by omega
 have aU:ER W6 W6.heap.size gA ls:=(hg.keep aH).more hz;have aX:Ec W6 W4.heap.size (Z aF aC.length aG) aC xs:=aR.keep' λb h3 h4=>k6.block b h4 (by omega);obtain⟨aY,b5,e',b6⟩:=aX.J4;obtain⟨rfl,rfl⟩:aF=aY/\aG=b5:=by injection e' with a b c;exact⟨a,c⟩
 have aI:W6.heap[cb]?=_:=(k6.block cb aV (by omega)).trans hcb;have aJ:W6.heap[rb]?=_:=(k6.block rb aW (by omega)).trans aQ;have o5:∀y∈c2.DV,y.off.length<=20:=λy hy=>AH (aB.off y hy).1 (by omega);have a8:=(Az.1 aI).1;have aA:=(Az.1 aJ).1;have cc:=λi=>(D5 aI i).1;have rr:=λi=>(D5 aJ i).1;have pp:=λi=>(D5 hhb i).1;have dd:=λi=>(D5 aT i).1
 refine aS λK hK=>?_
 refine xJ (cb:=cb) (co:=0) (rb:=rb) (ro:=0) (cc:=3) (rc:=3) (hb:=bD) (db:=dbk) (sc:=3) (tc:=3) (F:=λk=>match k with
  |0=>⟨nA,hA,gA,nc,hc,gc,c,ls⟩
  |1=>⟨nA2,zk,aF,nc2,zt,aG,c2,aC⟩
  |_=>⟨nA2,zk,gA,nc2,zt,gc,c2,ls⟩) (H:=λk=>match k with
  |1=>y1
  |_=>herder) (D:=λk=>match k with
  |1=>y2
  |_=>night) ((f6.at_ 13).trans e9) ((f6.at_ 14).trans bA) bE bF (λk hk=>?_) (λk hk=>?_) ⟨(Az.1 hhb).1,(Az.1 aT).1⟩ λW7 u7 g7=>hK _ _ ?_
 .match k,hk with
  |0,_=>exact⟨cc 0,cc 1,rr 0,⟨a8,aA⟩,⟨(hn.keep aH).more hz,(hh.keep aH).more hz,aU⟩,⟨s1,s2,s3,s4,s5⟩⟩
  | 1, _ => exact ⟨cc 2, cc 3, rr 1, ⟨a8, aA⟩, ⟨hn6, hs6, b6⟩, ⟨by show c2.DW.length <= 20; omega, by show c2.DV.length <= 20; omega, o5, by show aC.length <= 20; omega, fun y hy => by
    obtain⟨p,rfl⟩:=hch y hy;have:=eJ p c2.DV.length
    omega⟩⟩
  |2,_=>exact⟨cc 4,cc 5,rr 2,⟨a8,aA⟩,⟨hn6,hs6,aU⟩,⟨by show c2.DW.length<=20;omega,by show c2.DV.length<=20;omega,o5,s4,s5⟩⟩
 .match k,hk with
  |0,_=>exact⟨pp 0,dd 0⟩
  |1,_=>exact⟨pp 1,dd 1⟩
  |2,_=>exact⟨pp 2,dd 2⟩
 .exact nk (more:=[]) (by kernel_rfl) n4
end
end Go.Sq
namespace Go.Co
open Go.Eu Go.Conc Go.ConcN
section
variable {SB:cw->Bool} {H H':Hid} {β:Em}
def Ip.less (h:∀b,H b=bb->H' b=bb){f F:Fn}(r:Ip (SP SB H) β f F):Ip (SP SB H') β f F:=by
 cases r with
 |func s=>exact .func s
 |yield l k=>exact .yield l (h _ k)
def DZ.less (h:(∀b,H b=bb->H' b=bb)/\(H.bl=E->H'.bl=E)){v V:br}(r:DZ (SP SB H) β v V):DZ (SP SB H') β v V:=by
 induction r with
 |bool b=>exact .bool b
 |int k n=>exact .int k n
 |string s=>exact .string s
 |Hc=>exact .Hc
 |ptr o s hb=>exact .ptr o s hb
 |GL l c=>exact .GL l c
 |slice o s l c hb=>exact .slice o s l c hb
 |func hf h1 _ h2 _ i1 i2=>exact .func (Ip.less h.1 hf) h1 i1 h2 i2
 |nilFunc=>exact .nilFunc
 |GX=>exact .GX
 |Gq=>exact .Gq
 |nilIface=>exact .nilIface
 |iface t _ ih=>exact .iface t ih
 |agg h1 _ i1=>exact .agg h1 i1
 |tuple h1 _ i1=>exact .tuple h1 i1
 |blank h1 h2=>exact .blank (h1.imp (λh=>h) h.2) h2
 |ET h1=>exact .ET (h1.imp (λh=>h) h.2)
 |Fb h1=>exact .Fb (h1.imp (λh=>h) h.2)
def D8.less (h:(∀b,H b=bb->H' b=bb)/\(H.bl=E->H'.bl=E)){x X:Array br}(r:D8 (SP SB H) β x X):D8 (SP SB H') β x X:=⟨r.size,λi v V h1 h2=>DZ.less h (r.at_ i v V h1 h2)⟩
def FH.less (h:(∀b,H b=bb->H' b=bb)/\(H.bl=E->H'.bl=E)){d D:Deferred}(r:FH (SP SB H) β d D):FH (SP SB H') β d D:=by
 cases r with
 |fn f c a=>exact .fn (Ip.less h.1 f) (D8.less h c) (D8.less h a)
 |nil a=>exact .nil (D8.less h a)
 |collected r k=>exact .collected r (h.1 _ k)
 |ET a A h1 h2 h3=>exact .ET a A (D8.less h h1) h2 (h3.imp (λh=>h) λx=>⟨h.2 x.1,x.2⟩)
def E5.imp {α:Type}{R R':α->α->Prop}(h:∀a A,R a A->R' a A){l L:List α}(r:E5 R l L):E5 R' l L:=by
 induction r with
 |nil=>exact .nil
 |cons ha _ ih=>exact .cons (h _ _ ha) ih
def EW.less (h:(∀b,H b=bb->H' b=bb)/\(H.bl=E->H'.bl=E)){Ck:Code->Prop}{o O:Obj}(r:EW (SP SB H) Ck β o O):EW (SP SB H') Ck β o O:=by
 cases r with
 |cells a f=>exact .cells (D8.less h a) f
 |loop p a b x d k=>exact .loop p a b (D8.less h x) d (h.1 _ k)
 |number o s l hb=>exact .number o s l hb
 |taken=>exact .taken
 |defs l=>exact .defs (E5.imp (λ_ _=>FH.less h) l)
end
def Jg (p:Program)(b4:Nat)(Ψ:U->Prop)(g:cf)(w:U):Prop :=
 ∃c,g=EX (cr p 90 #[Jp b4] .deferred) [c,bad]/\c.fn=89/\c.mode=.returning/\c.defers=[]/\c.kind=.deferred/\Ψ w
def rJ {p:Program}{b4:Nat}{Ψ:U->Prop}{BB:cw->Bool}(Mj:BB 90=bb){g:cf}{w:U}(h:Jg p b4 Ψ g w):BB g.frame.fn=false:=by
 obtain⟨c,rfl,_⟩:=h;exact Mj
def yb {c:Frame}(h:c.mode=.returning):c≠bad:=λe=>by rw[e] at h;cases h
section
variable {P:ED} {SB BB:cw->Bool} {zZ:Bool} {Gn ty Wg:Nat} {Ψ2:U->Prop}
def mt {L:Lib.WgLink}(Wl:Lib.WgLib P.b L)(Mj:L.done=90)(a7:Barred P SB zZ L.done (Lib.doneFn L)){f92:Func}(hf:P.b.funcs[89]?=bc f92)(hr:f92.results=#[]){b4:Nat}{Ψ:U->Prop}{H:Hid}{Pk:Em}(hPk:Pk b4 Wg){o:Bool}
  (a8:o=E->∀(x:Lone) (W:U),x.H=H->Pk.le x.β->Gy P SB zZ Gn x W->Ψ x.w->Ψ2 W) :
  cQ P SB BB zZ Gn L.tWg Wg Ψ2 (Jg P.a b4 Ψ) H [cX P.b] Pk o:=by
 rintro x g W hH hT zX ⟨c,e,c1,c2,c3,c4,c5⟩ hg hw a6;refine⟨?_,λho=>a8 ho x W hH zX hw c5⟩;refine ya Wl a7 (x:=x) (c:=c) (cs:=[bad]) (wl:=b4) (by rw[e,Mj]) (yb c2) (zX _ _ hPk) hg hw a6 λC CS r1 r2=>?_;have m:=r1.mode;rw[c2] at m;have hm:C.mode=.returning:=by
  generalize C.mode=M at m;cases m;rfl
 have d:=r1.defers;rw[c3] at d;have hd:C.defers=[]:=by
  generalize C.defers=M at d;cases d;rfl
 rw[hT] at r2;have zW:CS=[cX P.b]:=by
  generalize aA:[bad]=BL at r2;cases r2 with
  |base=>rfl
  |cons h1 h2=>cases aA;exact AI rfl h2.ne
 refine⟨hm,2,?_⟩;rw[zW];exact rH (by rw[<-r1.fn,c1];exact hf) hr hm hd (by rw[<-r1.kind,c4])
end
end Go.Co
namespace Go.Sq
open Go.Proofs
open Go.RowKit Go.Eu Go.Co Go.Conc
section
variable {SB BB:cw->Bool} {H:Hid} {Gn Wg:Nat} {zN:Nat->Prop} {Ψ0 Ψ2:U->Prop} {Pr:Em} {T:List Frame} {Kb:Nat->Prop} {Ok:U->Prop} {b2 b3 b4:Nat} {x1:Int} {tp:Bool} {K:Nat->Prop} {a:Act} {r:Nat} {x:Lone} {X:cf} {W:U}
def p7 (x1:Int)(SB:cw->Bool)(H:Hid)(K:Nat->Prop):∀v∈[ak .u8 x1,.int .u8 0,.int .u8 0,.int .u8 0,.int .u8 0],E7 SB H K v:=λv hv=>by
 simp only[AJ,AG,or_false] at hv;rcases hv with rfl|rfl|rfl|rfl|rfl<;>exact DZ.int _ _
def Ns.Kt (ga:Ns SB BB H Gn Wg zN Ψ0 Pr T Kb Ok b2 b3 b4 x1 tp K a r x X W)(hO:fh Kb Ok):Head SB H Gn Kb Ok (λb=>K b\/b=r) (froze x.w r) :=
 ga.head.more hO ga.rK.1 ga.rK.2.1 ga.rK.2.2 ga.rb λv hv=>p7 x1 SB H _ v hv
def jR {H':Hid}(hk:K b2/\K b3/\K b4):D8 (SP SB H') (EK (λb=>K b\/b=r)) (bN b2 b3 b4 r) (bN b2 b3 b4 r):=Fc λv hv=>by
 simp only[AJ,AG,or_false] at hv;obtain rfl|rfl|rfl|rfl:=hv
 .exact E7.ptr (.inl hk.2.2) _ _
 .exact E7.ptr (.inl hk.1) _ _
 .exact E7.ptr (.inr rfl) _ _
 .exact E7.ptr (.inl hk.2.1) _ _
def ub (lib:∀H,Lib PP SB H E BB Gn){L:Lib.WgLink}(Wl:Lib.WgLib J L)(Mj:L.done=90)(hT:L.tWg=149)(a6:Go.Co.Barred PP SB E L.done (Lib.doneFn L))(hO:fh Kb Ok)(hkb:Kb b2/\Kb b3/\Kb b4)(a8:Pr b4 Wg)(aA:∀b B,Pr b B->Kb b)
  (ga:Ns SB BB H Gn Wg zN Ψ0 Pr T Kb Ok b2 b3 b4 x1 tp K a r x X W)
  (a7:BB 90=bb) (kid:EO J BB (Jg J b4 λ_=>True) 0 (ck (cr J 89 (bN b2 b3 b4 r) .deferred) [bad]) (froze x.w r)) :
  ∃(X' child:cf) (xk:Lone) (o:Bool) (Pk:Em) (Q:cf->U->Prop),stepG J E X W=.spawn X' child W #[] /\
   Split PP SB BB E Gn Wg zN x X' child W tp tp o ⟨ck ((base 53).at a (.inRegion o8 []::T8)) [bad],froze x.w r,H,cut (λb=>K b\/b=r) x.β,T⟩ xk Pk /\
   cQ PP SB BB E Gn 149 Wg Ψ2 Q xk.H xk.T Pk o/\(∀g w,Q g w->BB g.frame.fn=bb)/\EO J BB Q 0 xk.g xk.w:=by
 have hm:=ga.Kt hO;have hH:=ga.h;have ht:=ga.t;subst hH ht
 obtain⟨G',child,e1,e2⟩:=LJ (zN:=zN) (tp:=tp) (wl:=Pr) lib ga.op ga.gl ga.wl ga.tw ga.wg ga.I3 (λb B h=>ga.pr b B h) ga.cut (λb hb=>by
  cases e:x.H b with
  |true=>exact .inl rfl
  |false=>exact .inr (hm.base b hb e).1) (jR ⟨ga.head.sub _ hkb.1,ga.head.sub _ hkb.2.1,ga.head.sub _ hkb.2.2⟩) (λb B h=>.inl (ga.head.sub _ (aA b B h)))
 refine⟨G',child,_,bb,Pr,Jg J b4 λ_=>True,e1,e2,?_,λg w h=>rJ a7 h,kid⟩;have:=mt (P:=PP) (Gn:=Gn) (Ψ2:=Ψ2) (BB:=BB) Wl Mj a6 (f92:=Tryz.f89) dr rfl (Ψ:=λ_=>True) (H:=x.H) (Pk:=Pr) a8 (o:=bb) (λe=>by cases e);rw[hT] at this;exact this
def Hh (tl:Nat->Bool)(oK:Nat->Obj)(w:U):World:={ w with heap:=w.heap.mapIdx λb o=>if tl b then oK b else o }
def bQ (tl:Nat->Bool)(oK:Nat->Obj)(w:U):(Hh tl oK w).heap.size=w.heap.size:=by simp[Hh]
def bR (tl:Nat->Bool)(oK:Nat->Obj)(w:U)(b:Nat)(hb:b<w.heap.size):(Hh tl oK w).heap[b]?=if tl b then bc (oK b) else w.heap[b]?:=by
 simp only[Hh,C0,AK hb,BW];split<;>rfl
def ud (lib:∀H,Lib PP SB H E BB Gn){L:Lib.WgLink}(Wl:Lib.WgLib J L)(Mj:L.done=90)(hT:L.tWg=149)(a6:Go.Co.Barred PP SB E L.done (Lib.doneFn L))(hO:fh Kb Ok)(hkb:Kb b2/\Kb b3/\Kb b4)(aD:Pr b4 Wg)(aF:∀b B,Pr b B->Kb b)
  (ga:Ns SB BB H Gn Wg zN Ψ0 Pr T Kb Ok b2 b3 b4 x1 E K a r x X W) {tl:Nat->Bool} {oK:Nat->Obj} (aG:∀b B,Pr b B->tl b=E->zN B) (a7:∀b,tl b=E->∃B,Pr b B) (a8:∀b,tl b=E->H b=E) (aH:¬zN Wg)
  (aA:∀W,Ψ0 W->∀b B,Pr b B->tl b=E->∃O,W.heap[B]?=bc O/\∀(S:Fy) (Ck:Code->Prop) (β:Em),EW S Ck β (oK b) O) {Ψk:U->Prop}
  (aB:∀(x:Lone) (W:U),x.H=Dl H tl->Pr.le x.β->Gy PP SB E Gn x W->Ψk x.w->Ψ2 W)
  (aC:BB 90=bb) (kid:EO J BB (Jg J b4 Ψk) 0 (ck (cr J 89 (bN b2 b3 b4 r) .deferred) [bad]) (Hh tl oK (froze x.w r))) :
  ∃(X' child:cf) (xk:Lone) (o:Bool) (Pk:Em) (Q:cf->U->Prop),stepG J E X W=.spawn X' child W #[] /\
   Split PP SB BB E Gn Wg zN x X' child W E bb o ⟨ck ((base 53).at a (.inRegion o8 []::T8)) [bad],froze x.w r,H,cut (λb=>K b\/b=r) x.β,T⟩ xk Pk /\
   cQ PP SB BB E Gn 149 Wg Ψ2 Q xk.H xk.T Pk o/\(∀g w,Q g w->BB g.frame.fn=bb)/\EO J BB Q 0 xk.g xk.w:=by
 have hm:=ga.Kt hO;have hH:=ga.h;have ht:=ga.t;subst hH ht;have lt:∀b,(K b\/b=r)->b<(froze x.w r).heap.size:=hm.lt;have pr:∀b B,x.β b B->tl b=E->Pr b B:=λb B hb h=>by
  obtain⟨B',hB⟩:=a7 b h;rw[ga.wl.Fv.fn hb (ga.pr _ _ hB)];exact hB
 have aI:∀b o,(K b\/b=r)->x.H b=bb->(froze x.w r).heap[b]?=bc o->EW (SP SB (Dl x.H tl)) (CK J SB E) (EK λb=>K b\/b=r) o o:=λb o hb hh ho=>by
  obtain⟨_,o',h1,h2⟩:=hm.base b hb hh;rw[ho] at h1;cases h1;exact EW.less ⟨λb hb=>by simp[Dl,hb],λ_=>rfl⟩ h2
 have aJ:∀b B,(K b\/b=r)->tl b=E->x.β b B->∃o O,(Hh tl oK (froze x.w r)).heap[b]?=bc o/\W.heap[B]?=bc O/\EW (SP SB (Dl x.H tl)) (CK J SB E) (cut (λb=>K b\/b=r) x.β) o O:=λb B hb h hB=>by
  obtain⟨O,h1,h2⟩:=aA W (ga.G6 rfl) b B (pr b B hB h) h;exact⟨oK b,O,by rw[bR _ _ _ _ (lt b hb),AF h],h1,h2 _ _ _⟩
 obtain⟨G',child,e1,e2⟩:=LK (zN:=zN) (wl:=Pr) (wk:=Hh tl oK (froze x.w r)) (tl:=tl) lib ga.op ga.gl ga.wl ga.tw ga.wg ga.I3 (λb B h=>ga.pr b B h) ga.cut (λb hb=>by
  cases e:x.H b with
  |true=>exact .inl rfl
  |false=>exact .inr (hm.base b hb e).1) (λb B h=>.inl (ga.head.sub _ (aF b B h))) (jR ⟨ga.head.sub _ hkb.1,ga.head.sub _ hkb.2.1,ga.head.sub _ hkb.2.2⟩)
  (λb B hb h=>aG b B (pr b B hb h) h) a8 aH ⟨by rw[bQ];exact AA _,rfl⟩ (λb hb h=>by rw[bR _ _ _ _ (lt b hb),AD (by simp[h])]) aI aJ (λb hh=>by rw[bQ];exact hm.old b hh)
 refine⟨G',child,_,E,Pr,Jg J b4 Ψk,e1,e2,?_,λg w h=>rJ aC h,kid⟩;have:=mt (P:=PP) (Gn:=Gn) (Ψ2:=Ψ2) (BB:=BB) Wl Mj a6 (f92:=Tryz.f89) dr rfl (Ψ:=Ψk) (H:=Dl x.H tl) (Pk:=Pr) aD (o:=E) (λ_=>aB);rw[hT] at this;exact this
end
def sink (kx tl:Nat->Bool)(w:U):World:={ w with heap:=w.heap.mapIdx λb o=>if tl b then .coro Y else if kx b then(match o with|.cells c t _=>.cells c t (0,c.size)|o=>o) else o }
def ej (kx tl:Nat->Bool)(w:U):(sink kx tl w).heap.size=w.heap.size:=by simp[sink]
def kG {kx tl:Nat->Bool}{w:U}{b:Nat}(hb:b<w.heap.size)(h:tl b=E):(sink kx tl w).heap[b]?=bc (.coro Y):=by
 simp[sink,C0,AK hb,h]
def fV {kx tl:Nat->Bool}{w:U}{b:Nat}{c:Array br}{t:TypeId}{f:Nat×Nat}(hw:w.heap[b]?=bc (.cells c t f))(h:kx b=E)(h':tl b=bb):(sink kx tl w).heap[b]?=bc (.cells c t (0,c.size)):=by
 simp[sink,C0,hw,h,h']
abbrev JF (tl:Nat->Bool)(w:U):Hid:=⟨λb=>tl b||b==w.heap.size,bb,E⟩
abbrev Mk (kx tl:Nat->Bool)(w:U)(b:Nat):Prop:=kx b=E\/tl b=E\/b=w.heap.size\/b=w.heap.size+1\/b=w.heap.size+2
def Gz (kx tl:Nat->Bool)(w:U)(cb:Nat)(p1:br):World:=froze (froze ((((sink kx tl w).alloc (.coro Y)).alloc (bq #[.pointer (bc ⟨cb,0,Y⟩)] 69)).alloc (bq #[p1] 111)) (w.heap.size+1)) (w.heap.size+2)
inductive Oc:br->Prop
 |bool (b:Bool):Oc (.bool b)
 |int (k:IntKind) (n:Int):Oc (.int k n)
def Oc.rel {v V:br}(h:Oc v){S S':Fy}{β D6:Em}(r:DZ S β v V):DZ S' D6 v V:=by
 cases h with
 |bool b=>cases r;exact .bool b
 |int k n=>cases r;exact .int k n
def G7 (o:Obj):Prop:=∃(l:List br) (t:TypeId) (f:Nat×Nat),o=.cells l.toArray t f/\∀v∈l,Oc v
def G7.rel {o O:Obj}(h:G7 o){S S':Fy}{Ck Qy:Code->Prop}{β D6:Em}(r:EW S Ck β o O):EW S' Qy D6 o O:=by
 obtain⟨l,t,f,rfl,hl⟩:=h;cases r with
 |cells a z=>exact .cells ⟨a.size,λi v V h1 h2=>(hl v (B5 (by simpa using h1))).rel (a.at_ i v V h1 h2)⟩ z
def La (β:Em)(tl:Nat->Bool)(oK:Nat->Obj)(W:U):Prop:=∀b B,β b B->tl b=E->∃O,W.heap[B]?=bc O/\∀(S:Fy) (Ck:Code->Prop) (D6:Em),EW S Ck D6 (oK b) O
structure IU (SB EB BB:cw->Bool)(w:U)(kx tl:Nat->Bool)(Kc:Nat->Prop)(Ok:U->Prop)(cb sb n c:Nat)(f:Fn)(fx fc:Array br)(sets kind:Nat->Int)(FO:Nat->Bool)(oK oE:Nat->Obj):Prop where
 hB:BB 53=E
 Mj:BB 90=bb
 Ql:SB 53=E
 Qm:SB 89=E
 L0:Mt PQ EB EB BB 0
 b0:∀f,EB f=E->BB f=E
 Qn:EB 79=E
 todo:∀H K,E5 (F5 J SB H E E (EK K)) (.inRegion o8 []::T8) (.inRegion o8 []::T8)
 only:fh (Mk kx tl w) Ok
 ok:Ok (Gz kx tl w cb (.func f fx fc))
 Nt:∀w',Ok w'->w'.cell? ⟨w.heap.size+1,0,Y⟩=bc (.pointer (bc ⟨cb,0,Y⟩))
 hold:∀w',Ok w'->w'.cell? ⟨cb,2,Y⟩=bc (.slice (bc ⟨sb,0,Y⟩) n c)/\∃v,w'.cell? ⟨cb,0,Y⟩=bc v
 Kr:∀w' i,Ok w'->i<n->w'.cell? ⟨sb,i,Y⟩=bc (.int .u8 (sets i))
 F4:∀w' b,Ok w'->Kc b->kx b=E/\∃o,w'.heap[b]?=bc o/\EW (SP EB Dj) (CK DU EB bb) (EK Kc) o o
 cK:Kc cb
 ks:kx cb=E/\kx sb=E
 Qp:∀b,kx b=E->tl b=bb/\∃(l:List br) (t:TypeId) (g:Nat×Nat),w.heap[b]?=bc (.cells l.toArray t g)/\(∀i,g.1<=i->i<g.2->i<l.length)/\∀v∈l,∀H,E7 SB H (λb=>kx b=E\/tl b=E) v
 QQ:∀b,tl b=E->w.heap[b]?=bc (oK b)/\G7 (oK b)/\G7 (oE b)
 Iq:∀H,E7 SB H (λb=>kx b=E\/tl b=E) (.func f fx fc)
 wrap:∀i,i<n->IntKind.i64.wrap ((i:Int)+1)=((i+1:Nat):Int)
 Ks:∀w' i,Ok w'->i<n->∀τ d,Calls DU 79 #[.pointer (bc ⟨cb,0,Y⟩),.pointer (bc ⟨w'.heap.size,0,Y⟩),ak bh 0] (on (w'.alloc (first (sets i))) τ d) (λe w2=>∃v,e=.returned v/\((∃y1 y2,v=.agg #[ak bh (kind i),ak bh y1,ak bh y2])/\Ext (w'.alloc (first (sets i))) w2))
 tp0:FO 0=E
 QO:∀i,i<n->kind i≠0->FO (i+1)=FO i
 which:∀i,i<n->kind i=0->FO (i+1)=FO i\/(FO i=E/\FO (i+1)=bb)
 plain:∀i r w',i<n->kind i=0->FO (i+1)=FO i->Ok w'->¬Mk kx tl w r->w'.heap[r]?=bc (bq #[.int .u8 (sets i),.int .u8 0,.int .u8 0,.int .u8 0,.int .u8 0] 72 (0,5)) ->
  EO J BB (Jg J w.heap.size λ_=>True) 0 (ck (cr J 89 (bN (w.heap.size+1) (w.heap.size+2) w.heap.size r) .deferred) [bad]) w'
 owner:∀i r w',i<n->kind i=0->FO i=E->FO (i+1)=bb->Ok w'->¬Mk kx tl w r->w'.heap[r]?=bc (bq #[.int .u8 (sets i),.int .u8 0,.int .u8 0,.int .u8 0,.int .u8 0] 72 (0,5)) ->
  EO J BB (Jg J w.heap.size λw2=>∀b,tl b=E->w2.heap[b]?=bc (oE b)) 0 (ck (cr J 89 (bN (w.heap.size+1) (w.heap.size+2) w.heap.size r) .deferred) [bad]) (Hh tl oK w')
section
variable {SB EB BB:cw->Bool} {w:U} {kx tl:Nat->Bool} {Kc:Nat->Prop} {Ok:U->Prop} {cb sb n c:Nat} {f:Fn} {fx fc:Array br} {sets kind:Nat->Int} {FO:Nat->Bool} {oK oE:Nat->Obj}
def IU.lt (I:IU SB EB BB w kx tl Kc Ok cb sb n c f fx fc sets kind FO oK oE){b:Nat}(h:kx b=E\/tl b=E):b<w.heap.size:=by
 obtain h|h:=h
 .obtain⟨_,_,_,_,h1,_⟩:=I.Qp b h;exact(Az.1 h1).1
 .exact(Az.1 (I.QQ b h).1).1
def Rt (BB:cw->Bool)(tl:Nat->Bool)(w:U)(tp:Bool)(Mw:Bool)(H:Hid)(g:cf)(w':U):Prop:=Mw=tp/\H=JF tl w/\Ee J (Fa J BB) (Eu.Left J 53 λv _=>v=.tuple #[]) g w'
def wm {BB:cw->Bool}(hB:BB 53=E){a:Act}{w':U}(hd:a.defers=[]):Ee J (Fa J BB) (Eu.Left J 53 λv _=>v=.tuple #[]) (ck (((base 53).at a [.inRegion J0 [0]]).finish (.tuple #[])) [bad]) w' :=
 xZ hB Eu.Left.same hd (by simp) λa' ha'=>⟨w',.tuple #[],_,⟨rfl,rfl,rfl⟩,rfl,rfl,rfl,rfl,ha',rfl,Tryz.f53,Tryz.func53,results_none rfl _ _ _⟩
def IU.ctx (I:IU SB EB BB w kx tl Kc Ok cb sb n c f fx fc sets kind FO oK oE)(lib:∀H,Lib PP SB H E BB 0){L:Lib.WgLink}(Wl:Lib.WgLib J L)(Mj:L.done=90)(hT:L.tWg=149)(a6:Go.Co.Barred PP SB E L.done (Lib.doneFn L))
    {Wg:Nat} {β:Em} {Pr:Em} {T:List Frame} {zN:Nat->Prop} (aA:∀b B,Pr b B->tl b=E->zN B) (aB:∀b,tl b=E->∃B,Pr b B) (a8:∀b B,Pr b B->Mk kx tl w b) (hPw:Pr w.heap.size Wg) (aC:¬zN Wg) (a7:∀b B,tl b=E->(Pr b B↔β b B)) :
    Ctx SB EB BB (JF tl w) 0 Wg zN (La β tl oK) (La β tl oE) Pr T (Rt BB tl w (FO n)) (Mk kx tl w) Kc Ok (w.heap.size+1) (w.heap.size+2) w.heap.size cb sb n c (.func f fx fc) sets kind FO:=by
  have hkb:Mk kx tl w (w.heap.size+1)/\Mk kx tl w (w.heap.size+2)/\Mk kx tl w w.heap.size:=⟨.inr (.inr (.inr (.inl rfl))),.inr (.inr (.inr (.inr rfl))),.inr (.inr (.inl rfl))⟩
  refine { hB := I.hB, Ql := I.Ql, Qm := I.Qm, L0 := I.L0, b0 := I.b0, Qn := I.Qn, todo := fun K => I.todo _ K, EZ := rfl, bl := rfl, only := I.only, Nt := I.Nt, Kr := I.Kr, F4 := fun w' b h1 h2 => ?_, cK := I.cK,
           kb := ⟨hkb.1, hkb.2.1, hkb.2.2, .inl I.ks.1, .inl I.ks.2⟩, Iq := ((I.Iq _).mono fun b hb => hb.elim .inl fun h => .inr (.inl h)), wrap := I.wrap, Ks := I.Ks, QO := I.QO, fin := fun a w' hd _ => ⟨rfl, rfl, wm I.hB hd⟩,
           LL:=λtp H g w1 W1 hs h=>⟨h.1,h.2.1,h.2.2.same (λ_ _ _ _ x=>x) Eu.Left.same hs⟩,go:=λi hi hk K a r x X W ga=>?_ }
  · obtain⟨h3,h4⟩:=I.F4 w' b h1 h2
    exact⟨.inl h3,h4⟩
  · have hm:=ga.Kt I.only
    have zT:¬Mk kx tl w r:=λh=>ga.rK.1 (ga.head.sub _ h);obtain e|⟨e1,e2⟩:=I.which i hi hk
    · rw[e]
      exact ub lib Wl Mj hT a6 I.only hkb hPw a8 ga I.Mj (I.plain i r _ hi hk e hm.ok zT (dt ga.rb))
    · rw[e2]
      rw[e1] at ga ⊢;refine ud (tl:=tl) (oK:=oK) (Ψk:=λw2=>∀b,tl b=E->w2.heap[b]?=bc (oE b)) lib Wl Mj hT a6 I.only hkb hPw a8 ga aA aB (λb h=>by simp[h]) aC (λW hW b B hb h=>hW b B ((a7 b B h).1 hb) h) (λx W hH zX hw hk b B hb h=>?_) I.Mj (I.owner i r _ hi hk e1 e2 hm.ok zT (dt ga.rb));have hp:=zX b B ((a7 b B h).2 hb);obtain⟨o,O,h1,h2,h3⟩:=hw.FJ b B hp (by rw[hH];simp[Dl,h]);rw[hk b h] at h1;cases h1
      exact⟨O,h2,λS Ck D6=>(I.QQ b h).2.2.rel h3⟩
end
end Go.Sq
