/- Parts of the proof. -/
import Derived.Test.YteckikkkfpblhaaGreatP15
import Derived.Test.YteckikkkfpblhaaGreatP00
import Derived.Test.YteckikkkfpblhaaGreatP13
import Derived.Test.YteckikkkfpblhaaGreatP14
import Derived.Test.YteckikkkfpblhaaGreatP01
import Derived.Conc.WgGenDone
import Derived.Conc.WgGenWait
set_option linter.all false
set_option maxHeartbeats 3200000
set_option maxRecDepth 1000000
namespace Go.Sq
open Go.RowKit
def Ay (c:AD)(ls:List (List Int)):Int :=
 if AK c≠0 then AK c else if Bb ls.length c.Aq.length c.Aq.length≠0 then Bb ls.length c.Aq.length c.Aq.length else bE (ls.map λl=>B1 l c.Ap.length)
def Av (ls:List (List Int)):Bl:=λi=>Hw (ls[i]?.getD [])
def H6 {w:World}{b:Nat}{r:Bl}(h:∀i,i<5->w.cell? ⟨b,i,none⟩=some (.int .u8 (r i))) :
  w.cell? ⟨b,0,none⟩=some (.int .u8 (r 0))/\w.cell? ⟨b,1,none⟩=some (.int .u8 (r 1))/\w.cell? ⟨b,2,none⟩=some (.int .u8 (r 2))/\w.cell? ⟨b,3,none⟩=some (.int .u8 (r 3))/\w.cell? ⟨b,4,none⟩=some (.int .u8 (r 4)) :=
 ⟨h 0 (by omega),h 1 (by omega),h 2 (by omega),h 3 (by omega),h 4 (by omega)⟩
def Ez (w:World)(b:Nat)(v0 v1 v2 v3 v4:Value):World:=((((w.setCell ⟨b,0,none⟩ v0).setCell ⟨b,1,none⟩ v1).setCell ⟨b,2,none⟩ v2).setCell ⟨b,3,none⟩ v3).setCell ⟨b,4,none⟩ v4
def ee {w:World}{b:Nat}{r:Bl}(h:∀i,i<5->w.cell? ⟨b,i,none⟩=some (.int .u8 (r i)))(v0 v1 v2 v3 v4:Value) :
  (Ez w b v0 v1 v2 v3 v4).cell? ⟨b,0,none⟩=some v0/\(Ez w b v0 v1 v2 v3 v4).cell? ⟨b,1,none⟩=some v1/\(Ez w b v0 v1 v2 v3 v4).cell? ⟨b,2,none⟩=some v2/\(Ez w b v0 v1 v2 v3 v4).cell? ⟨b,3,none⟩=some v3/\(Ez w b v0 v1 v2 v3 v4).cell? ⟨b,4,none⟩=some v4:=by
 have ne:∀(W:World) (i j:Nat) (v:Value),i≠j->(W.setCell ⟨b,i,none⟩ v).cell? ⟨b,j,none⟩=W.cell? ⟨b,j,none⟩:=λW i j v hij=>xq _ _ _ _ (by simp[Ne.symm hij]);obtain⟨h0,h1,h2,h3,h4⟩:=H6 h;unfold Ez;refine⟨?_,?_,?_,?_,?_⟩
 .rw[ne _ _ _ _ (by decide),ne _ _ _ _ (by decide),ne _ _ _ _ (by decide),ne _ _ _ _ (by decide)];exact xE _ _ _ h0
 .rw[ne _ _ _ _ (by decide),ne _ _ _ _ (by decide),ne _ _ _ _ (by decide)];exact xE _ _ _ (by rw[ne _ _ _ _ (by decide)];exact h1)
 .rw[ne _ _ _ _ (by decide),ne _ _ _ _ (by decide)];exact xE _ _ _ (by rw[ne _ _ _ _ (by decide),ne _ _ _ _ (by decide)];exact h2)
 .rw[ne _ _ _ _ (by decide)];exact xE _ _ _ (by rw[ne _ _ _ _ (by decide),ne _ _ _ _ (by decide),ne _ _ _ _ (by decide)];exact h3)
 .exact xE _ _ _ (by rw[ne _ _ _ _ (by decide),ne _ _ _ _ (by decide),ne _ _ _ _ (by decide),ne _ _ _ _ (by decide)];exact h4)
def jH (w:World)(b:Nat)(v0 v1 v2 v3 v4:Value){k:Nat}(hk:k≠b):(Ez w b v0 v1 v2 v3 v4).heap[k]?=w.heap[k]?:=by
 unfold Ez;rw[xD _ _ _ _ (by exact hk),xD _ _ _ _ (by exact hk),xD _ _ _ _ (by exact hk),xD _ _ _ _ (by exact hk),xD _ _ _ _ (by exact hk)]
def fG {w0 w:World}{b:Nat}(h:Gr w0 w)(hb:w0.heap.size<=b)(v0 v1 v2 v3 v4:Value):Gr w0 (Ez w b v0 v1 v2 v3 v4):=((((h.setCell (p:=⟨b,0,none⟩) hb v0).setCell (p:=⟨b,1,none⟩) hb v1).setCell (p:=⟨b,2,none⟩) hb v2).setCell (p:=⟨b,3,none⟩) hb v3).setCell (p:=⟨b,4,none⟩) hb v4
def kJ (w:World)(b:Nat)(v0 v1 v2 v3 v4:Value):(Ez w b v0 v1 v2 v3 v4).heap.size=w.heap.size:=by simp[Ez,World.setCell]
end Go.Sq
namespace Go.Proofs.Ao
open Go.RowKit Go.Sq
def vC (nA hA:Option Addr)(nc hc:Nat)(c:AD)(ls:List (List Int))(B:Nat)(w:World)(e:Ending)(w':World):Prop :=
 Gr w w' ∧ if Ay c ls = 0 then ∃ cb g cap, e = .returned (.tuple #[.pointer (some ⟨cb, 0, none⟩), BI (Av ls), .int .i64 0]) ∧ w.heap.size <= cb ∧ cb < g ∧ CN w' (PT B cb g) cb c (Bc c.Ap.length) nA hA nc hc g cap
   else ∃(p:Value) (r:Bl),e=.returned (.tuple #[p,BI r,.int .i64 (Ay c ls)])
structure FW (nA hA:Option Addr)(nc hc:Nat)(c:AD)(K:Nat->Prop)(cb g cap:Nat)(w:World)(r:Bl)(wr:World):Prop where
 x5:∀i,i<5->wr.cell? ⟨w.heap.size+1,i,none⟩=some (.int .u8 ((λ_=>0:Bl) i:Nat))
 f5:∀i,i<5->wr.frozen? ⟨w.heap.size+1,i,none⟩=false
 x7:∀i,i<5->wr.cell? ⟨w.heap.size+2,i,none⟩=some (.int .u8 (r i:Nat))
 f7:∀i,i<5->wr.frozen? ⟨w.heap.size+2,i,none⟩=false
 c0:wr.cell? ⟨w.heap.size,0,none⟩=some (.slice nA c.Aq.length nc)
 c1:wr.cell? ⟨w.heap.size,1,none⟩=some (.slice hA c.Ap.length hc)
 K:CN wr K cb c (Bc c.Ap.length) nA hA nc hc g cap
 gr:Gr w wr
def FW.set {nA hA:Option Addr}{nc hc:Nat}{c:AD}{K:Nat->Prop}{cb g cap:Nat}{w wr:World}{r:Bl}(h:FW nA hA nc hc c K cb g cap w r wr)(hK:¬K (w.heap.size+2)){k x:Nat}(hk:k<5) :
  FW nA hA nc hc c K cb g cap w (upd r k x) (wr.setCell ⟨w.heap.size+2,k,none⟩ (.int .u8 (x:Int))):=by
 have ho:∀b o,b≠w.heap.size+2->(wr.setCell ⟨w.heap.size+2,k,none⟩ (.int .u8 (x:Int))).cell? ⟨b,o,none⟩=wr.cell? ⟨b,o,none⟩:=λb o hb=>xq _ _ _ _ (λe=>hb (congrArg Addr.block e).symm);refine⟨λi hi=>(ho _ _ (by omega)).trans (h.x5 i hi),λi hi=>(yg _ _ _ _).trans (h.f5 i hi),λi hi=>?_,λi hi=>(yg _ _ _ _).trans (h.f7 i hi),(ho _ _ (by omega)).trans h.c0,(ho _ _ (by omega)).trans h.c1,h.K.keep (by simp[World.setCell]) λb o hb=>ho b o λe=>hK (e▸hb),h.gr.setCell (by show _<=w.heap.size+2;omega) _⟩
 unfold upd;by_cases e:i=k
 .subst e;rw[if_pos rfl];exact xE _ _ _ (h.x7 i hi)
 .rw[if_neg e];exact(xq _ _ _ _ (by simp[e])).trans (h.x7 i hi)
def FW.fin {nA hA:Option Addr}{nc hc:Nat}{c:AD}{K:Nat->Prop}{cb g cap:Nat}{w wr:World}{r:Bl}(h:FW nA hA nc hc c K cb g cap w r wr)(hK:¬K (w.heap.size+1))(v0 v1 v2 v3 v4:Value) :
  CN (Ez wr (w.heap.size+1) v0 v1 v2 v3 v4) K cb c (Bc c.Ap.length) nA hA nc hc g cap/\Gr w (Ez wr (w.heap.size+1) v0 v1 v2 v3 v4) :=
 ⟨h.K.keep (by rw[kJ];exact xh _) λb o hb=>xH (jH _ _ _ _ _ _ _ λe=>hK (e▸hb)),fG h.gr (by omega) _ _ _ _ _⟩
def _root_.Go.Sq.CN.drew {w:World}{K:Nat->Prop}{cb:Nat}{c:AD}{sets:List Nat}{nA hA:Option Addr}{nc hc sb sc:Nat}(h:CN w K cb c sets nA hA nc hc sb sc):CN w.drew K cb c sets nA hA nc hc sb sc :=
 h.keep (xh _) λ_ _ _=>rfl
def Di (ls:List (List Int))(k:Nat):Bl:=λi=>if i<k then Hw (ls[i]?.getD []) else 0
def ss (ls:List (List Int))(k:Nat):upd (Di ls k) k (Hw (ls[k]?.getD []))=Di ls (k+1):=by
 funext i;unfold upd Di;by_cases e:i=k
 .subst e;rw[if_pos rfl,if_pos (by omega)]
 .rw[if_neg e];by_cases h:i<k
  .rw[if_pos h,if_pos (by omega)]
  .rw[if_neg h,if_neg (by omega)]
def su (ls:List (List Int)):Di ls ls.length=Av ls:=by
 funext i;unfold Di Av;by_cases h:i<ls.length
 .rw[if_pos h]
 .rw[if_neg h,List.getElem?_eq_none (by omega)];rfl
def eP (ls:List (List Int))(n:Int){i:Nat}(hi:i<ls.length):(ls.map λl=>B1 l n)[i]?.getD 0=B1 (ls[i]?.getD []) n:=by simp[hi]
def dF (nA hA gA:Option Addr)(nc hc gc:Nat)(c:AD)(ls:List (List Int))(w:World)(B:Nat)(hB:B<=w.heap.size)(hn:RI w B nA c.Aq)(hh:BG w B hA c.Ap)(hg:BD w B gA ls)
  (DG:c.Aq.length<=4611686018427387904) (hl2:c.Ap.length<=4611686018427387904) (BU:∀h∈c.Ap,h.off.length<=4611686018427387904) (EY:ls.length<=4611686018427387904) (hl4:∀x∈ls,x.length<=4611686018427387904) :
  Calls An 32 #[AH nA hA c nc hc,.slice gA ls.length gc] w (vC nA hA nc hc c ls B w):=by
 have HG:=xf hg;have ZW:=xf hl4;unfold AH;obtain⟨W0,hW0⟩:∃W0:World,W0=((w.alloc (.cells #[.slice nA c.Aq.length nc,.slice hA c.Ap.length hc] 25)).alloc (.cells #[.int .u8 0,.int .u8 0,.int .u8 0,.int .u8 0,.int .u8 0] 72)).alloc (.cells #[.int .u8 0,.int .u8 0,.int .u8 0,.int .u8 0,.int .u8 0] 72):=⟨_,rfl⟩;have hg0:Gr w W0:=hW0▸(((Gr.refl w).alloc _).alloc _).alloc _;have hz0:W0.heap.size=w.heap.size+3:=by rw[hW0];simp
 have HW:=xf hW0;have Kg:=xf (kh nA hA nc hc c W0 B (by omega) (hn.gr hB hg0) (hh.keep λb o hb=>hg0.cell (xl hb hB)) DG hl2 BU);have B4:=xf hg0;have hcm:W0.cell? ⟨w.heap.size,0,none⟩=some (.slice nA c.Aq.length nc)/\W0.cell? ⟨w.heap.size,1,none⟩=some (.slice hA c.Ap.length hc):=by
  rw[hW0];constructor
  all_goals rw[xI _ _ _ (by simp;omega),xI _ _ _ (by simp),xj _ _ _ _ rfl];rfl
 have NW:=xf hcm;have LS:∀i,i<5->W0.cell? ⟨w.heap.size+1,i,none⟩=some (.int .u8 ((λ_=>0:Bl) i:Nat))/\W0.cell? ⟨w.heap.size+2,i,none⟩=some (.int .u8 ((λ_=>0:Bl) i:Nat))/\W0.frozen? ⟨w.heap.size+1,i,none⟩=false/\W0.frozen? ⟨w.heap.size+2,i,none⟩=false:=λi hi=>by
  rw[hW0,xI _ _ _ (by simp),yF _ _ _ (by simp),xj _ _ _ _ (by simp),xj _ _ _ _ (by simp),xX _ _ _ _ (by simp),xX _ _ _ _ (by simp)]
  match i,hi with
  |0,_=>exact⟨rfl,rfl,rfl,rfl⟩
  |1,_=>exact⟨rfl,rfl,rfl,rfl⟩
  |2,_=>exact⟨rfl,rfl,rfl,rfl⟩
  |3,_=>exact⟨rfl,rfl,rfl,rfl⟩
  |4,_=>exact⟨rfl,rfl,rfl,rfl⟩
 have HZ5:=xf LS;clear hW0 hg0 hn hh hg hl4 BU hcm LS;go_enter Sq.func32,Tryz.ntmps32;unfold AH at Kg;go_wp2_with fail;rw[<-HW.out];refine Kg.out.mono ?_;rintro e w1 ⟨hg1,Iz⟩;have Ch:=xf hg1;by_cases hE:AK c=0
 .rw[if_pos hE] at Iz;obtain⟨cb,g,cap,rfl,hcb,Uu,hK,_⟩:=Iz;have HK:=xf hK;have HE:=xf hE;have DX:=xf (AD.Ok.of hE);have ZX:¬PT B cb g (w.heap.size+2)/\¬PT B cb g (w.heap.size+1):=by unfold PT;omega
  have ZY:=xf ZX;have MK:=DX.out.n5;have Sn:=DX.out.h4;have hfw:FW nA hA nc hc c (PT B cb g) cb g cap w (Di ls 0) w1:=by
   have h5:∀i,i<5->w1.cell? ⟨w.heap.size+1,i,none⟩=some (.int .u8 ((λ_=>0:Bl) i:Nat))/\w1.cell? ⟨w.heap.size+2,i,none⟩=some (.int .u8 ((λ_=>0:Bl) i:Nat))/\w1.frozen? ⟨w.heap.size+1,i,none⟩=false/\w1.frozen? ⟨w.heap.size+2,i,none⟩=false:=λi hi=>by
    obtain⟨a,b,c,d⟩:=HZ5.out i hi;exact⟨(Ch.out.cell (by show w.heap.size+1<_;omega)).trans a,(Ch.out.cell (by show w.heap.size+2<_;omega)).trans b,(Ch.out.frozen (by show w.heap.size+1<_;omega)).trans c,(Ch.out.frozen (by show w.heap.size+2<_;omega)).trans d⟩
   exact⟨λi hi=>(h5 i hi).1,λi hi=>(h5 i hi).2.2.1,λi hi=>by rw[(h5 i hi).2.1];simp[Di],λi hi=>(h5 i hi).2.2.2,(Ch.out.cell (by show w.heap.size<_;omega)).trans NW.out.1,(Ch.out.cell (by show w.heap.size<_;omega)).trans NW.out.2,hK,B4.out.trans hg1⟩
  clear hg1 hK Kg hE ZX;have OM:=xf hfw;have hc0:=hfw.c0;have hc1:=hfw.c1;clear hfw;by_cases hM:Bb ls.length c.Aq.length c.Aq.length=0
  .have hlen:c.Aq.length=ls.length:=by have:=dx.1 hM;omega
   have HM:=xf hM;have HF:=xf (show Ay c ls=bE (ls.map λl=>B1 l c.Ap.length) by unfold Ay;rw[if_neg (by simp[HE.out]),if_neg (by simp[hM])]);have Uv:Calls An 63 #[.int .i64 ls.length,.int .i64 c.Aq.length,.int .i64 c.Aq.length] w1 λe w'=>e=.returned (.int .i64 0)/\w1=w':=by rw[<-hM];exact gV _ _ _ _
   have FA:=xf Uv;have HLEN:=xf hlen;have Nh:ls.length<=5:=by omega
   clear hM Uv hlen;go_wp2_with (go_at_call 63;refine FA.out.mono ?_;rintro e w' ⟨rfl,rfl⟩);go_loopw [38] (λi wr=>∃k:Nat,k<=ls.length/\i=.int .i64 k/\FW nA hA nc hc c (PT B cb g) cb g cap w (Di ls k) wr/\∀j,j<k->B1 (ls[j]?.getD []) c.Ap.length=0) (λi _=>ls.length-(intOf i).toNat)
   case atStart=>exact⟨0,by omega,rfl,OM.out,λj hj=>absurd hj (by omega)⟩
   case round =>
    obtain⟨k,hk,rfl,hfw,hz⟩:=hrel;have NX:=xf hfw;have HZ:=xf hz;have hc0:=hfw.c0;have hc1:=hfw.c1;obtain⟨a0,a1,a2,a3,a4⟩:=H6 hfw.x5;obtain⟨b0,b1,b2,b3,b4⟩:=H6 hfw.x7;have c0:=hfw.f5 0 (by omega);have c1:=hfw.f5 1 (by omega);have c2:=hfw.f5 2 (by omega);have c3:=hfw.f5 3 (by omega);have c4:=hfw.f5 4 (by omega);have Te:=xf (ee hfw.x5);clear hfw hz;by_cases hlt:k<ls.length
    .obtain⟨b,o,A',c',rfl,hb,Hm,Ct⟩:=(HG.out.gr hB NX.out.gr).at_ hlt;have hx:=ZW.out _ (fU ls k hlt);have HA:=xf (eP ls c.Ap.length hlt);have HU:=xf (ss ls k);generalize ls[k]?.getD []=l at Hm Ct hx HA HU;have Tf:=xf (iP A' c' l c.Ap.length wr B Ct hx (by omega) (by omega));have Hf:=xf Ct;clear Ct;by_cases hE:B1 l c.Ap.length=0
     .rw[hE] at Tf;have Du:=Ge hE;have HOF:=xf (aes A' c' l wr B Hf.out hx λx hx=>by have:=Du.1 x hx;omega);have Ve:Hid (∀j,j<k+1->B1 (ls[j]?.getD []) c.Ap.length=0):=xf λj hj=>by
       rcases yh j k with h|h
       .exact HZ.out j h
       .have:j=k:=by omega
        subst this;have:=HA.out;rw[hE] at this;rw[<-eP ls _ hlt];exact this
      have HF3:Hid (FW nA hA nc hc c (PT B cb g) cb g cap w (Di ls (k+1)) (wr.setCell ⟨w.heap.size+2,k,none⟩ (.int .u8 (Hw l:Int)))):=xf (by rw[<-HU.out];exact NX.out.set ZY.out.1 (by omega));have hfz:=NX.out.f7 k (by omega);have JJ:=NX.out.x7 k (by omega);clear Du hE HU HA Hf HZ;generalize Hw l=x at HOF HF3;clear NX a0 a1 a2 a3 a4 b0 b1 b2 b3 b4 c0 c1 c2 c3 c4 Te;go_wp2_with (first|(go_at_call 64;refine Tf.out.mono ?_;rintro e w' ⟨rfl,rfl⟩)|(go_at_call 65;refine HOF.out.mono ?_;rintro e w' ⟨rfl,rfl⟩))
      go_roundw
      case rel=>exact⟨k+1,by omega,by go_num,HF3.out,Ve.out⟩
      case measure=>simp[intOf];omega
     .have FD := Lib.hid (show Ay c ls = B1 l c.Ap.length by
       rw[HF.out,aV (k:=k) (by simpa using hlt) (λi hi=>by rw[eP ls _ (by omega)];exact HZ.out i hi) (by rw[HA.out];exact hE),HA.out])
      have We:=xf hE;clear hE HU HA Hf HZ;generalize B1 l c.Ap.length=q at Tf FD We;have hqe:(q != 0)=true:=by simp[We.out]
      go_wp2_with (go_at_call 64;refine Tf.out.mono ?_;rintro e w' ⟨rfl,rfl⟩);have Uw:=xf (NX.out.fin ZY.out.2 (.int .u8 (Di ls k 0:Nat)) (.int .u8 (Di ls k 1:Nat)) (.int .u8 (Di ls k 2:Nat)) (.int .u8 (Di ls k 3:Nat)) (.int .u8 (Di ls k 4:Nat))).2;go_region
      all_goals
       go_wp2;obtain⟨s0,s1,s2,s3,s4⟩:=Te.out (.int .u8 (Di ls k 0:Nat)) (.int .u8 (Di ls k 1:Nat)) (.int .u8 (Di ls k 2:Nat)) (.int .u8 (Di ls k 3:Nat)) (.int .u8 (Di ls k 4:Nat));unfold Ez at s0 s1 s2 s3 s4;refine bodyPost_ret (v:=.tuple #[.pointer none,BI (Di ls k),.int .i64 q]) (by simp[results,Tryz.results32,go_sem,BI,s0,s1,s2,s3,s4]) rfl ⟨?_,?_⟩
       .first|exact Uw.out|exact Uw.out.drew
       .rw[if_neg (FD.out▸We.out),FD.out];exact⟨_,_,rfl⟩
    .have E4:k=ls.length:=by omega
     subst E4;clear hlt;rw[su] at NX b0 b1 b2 b3 b4;obtain⟨HFK,Uw⟩:Hid (CN (Ez wr (w.heap.size+1) (.int .u8 (Av ls 0:Nat)) (.int .u8 (Av ls 1:Nat)) (.int .u8 (Av ls 2:Nat)) (.int .u8 (Av ls 3:Nat)) (.int .u8 (Av ls 4:Nat))) (PT B cb g) cb c (Bc c.Ap.length) nA hA nc hc g cap)/\Hid (Gr w (Ez wr (w.heap.size+1) (.int .u8 (Av ls 0:Nat)) (.int .u8 (Av ls 1:Nat)) (.int .u8 (Av ls 2:Nat)) (.int .u8 (Av ls 3:Nat)) (.int .u8 (Av ls 4:Nat)))):=⟨xf (NX.out.fin ZY.out.2 _ _ _ _ _).1,xf (NX.out.fin ZY.out.2 _ _ _ _ _).2⟩
     have HZZ:=xf (show Ay c ls=0 by
      rw[HF.out];exact cV λi hi=>by
       have hi':i<ls.length:=by simpa using hi
       rw[eP ls _ hi'];exact HZ.out i hi')
     go_wp2;go_region
     all_goals
      go_wp2;obtain⟨s0,s1,s2,s3,s4⟩:=Te.out (.int .u8 (Av ls 0:Nat)) (.int .u8 (Av ls 1:Nat)) (.int .u8 (Av ls 2:Nat)) (.int .u8 (Av ls 3:Nat)) (.int .u8 (Av ls 4:Nat));unfold Ez at s0 s1 s2 s3 s4;refine bodyPost_ret (v:=.tuple #[.pointer (some ⟨cb,0,none⟩),BI (Av ls),.int .i64 0]) (by simp[results,Tryz.results32,go_sem,BI,s0,s1,s2,s3,s4]) rfl ⟨?_,?_⟩
      .first|exact Uw.out|exact Uw.out.drew
      .rw[if_pos HZZ.out];exact⟨cb,g,cap,rfl,by omega,Uu,by first|exact HFK.out|exact HFK.out.drew⟩
  .have FD:=xf (show Ay c ls=Bb ls.length c.Aq.length c.Aq.length by unfold Ay;rw[if_neg (by simp[HE.out]),if_pos hM]);have We:=xf hM;have FA:=xf (gV ls.length c.Aq.length c.Aq.length w1);clear hM;generalize Bb ls.length c.Aq.length c.Aq.length=q at FD We FA;have hqe:(q != 0)=true:=by simp[We.out]
   obtain⟨a0,a1,a2,a3,a4⟩:=H6 OM.out.x5;obtain⟨b0,b1,b2,b3,b4⟩:=H6 OM.out.x7;have c0:=OM.out.f5 0 (by omega);have c1:=OM.out.f5 1 (by omega);have c2:=OM.out.f5 2 (by omega);have c3:=OM.out.f5 3 (by omega);have c4:=OM.out.f5 4 (by omega);have Nf:=OM.out.c0;have SI:=OM.out.c1;have Te:=xf (ee OM.out.x5);have Uw:=xf (OM.out.fin ZY.out.2 (.int .u8 (Di ls 0 0:Nat)) (.int .u8 (Di ls 0 1:Nat)) (.int .u8 (Di ls 0 2:Nat)) (.int .u8 (Di ls 0 3:Nat)) (.int .u8 (Di ls 0 4:Nat))).2
   go_wp2_with (go_at_call 63;refine FA.out.mono ?_;rintro e w' ⟨rfl,rfl⟩);go_region
   all_goals
    go_wp2;obtain⟨s0,s1,s2,s3,s4⟩:=Te.out (.int .u8 (Di ls 0 0:Nat)) (.int .u8 (Di ls 0 1:Nat)) (.int .u8 (Di ls 0 2:Nat)) (.int .u8 (Di ls 0 3:Nat)) (.int .u8 (Di ls 0 4:Nat));unfold Ez at s0 s1 s2 s3 s4;refine bodyPost_ret (v:=.tuple #[.pointer none,BI (Di ls 0),.int .i64 q]) (by simp[results,Tryz.results32,go_sem,BI,s0,s1,s2,s3,s4]) rfl ⟨?_,?_⟩
    .first|exact Uw.out|exact Uw.out.drew
    .rw[if_neg (FD.out▸We.out),FD.out];exact⟨_,_,rfl⟩
 .rw[if_neg hE] at Iz;subst Iz;have HF:=xf (show Ay c ls=AK c by unfold Ay;rw[if_pos hE]);have h5:∀i,i<5->w1.cell? ⟨w.heap.size+1,i,none⟩=some (.int .u8 ((λ_=>0:Bl) i:Nat))/\w1.cell? ⟨w.heap.size+2,i,none⟩=some (.int .u8 ((λ_=>0:Bl) i:Nat))/\w1.frozen? ⟨w.heap.size+1,i,none⟩=false/\w1.frozen? ⟨w.heap.size+2,i,none⟩=false:=λi hi=>by
   obtain⟨a,b,c,d⟩:=HZ5.out i hi;exact⟨(Ch.out.cell (by show w.heap.size+1<_;omega)).trans a,(Ch.out.cell (by show w.heap.size+2<_;omega)).trans b,(Ch.out.frozen (by show w.heap.size+1<_;omega)).trans c,(Ch.out.frozen (by show w.heap.size+2<_;omega)).trans d⟩
  obtain⟨a0,b0,c0,d0⟩:=h5 0 (by omega);obtain⟨a1,b1,c1,d1⟩:=h5 1 (by omega);obtain⟨a2,b2,c2,d2⟩:=h5 2 (by omega);obtain⟨a3,b3,c3,d3⟩:=h5 3 (by omega);obtain⟨a4,b4,c4,d4⟩:=h5 4 (by omega);have Te:=xf (ee (w:=w1) (b:=w.heap.size+1) (r:=λ_=>0) (λi hi=>(h5 i hi).1) (.int .u8 0) (.int .u8 0) (.int .u8 0) (.int .u8 0) (.int .u8 0));have HE:=xf hE;clear h5 Kg hg1;obtain⟨k,hk⟩:∃k,k=AK c:=⟨_,rfl⟩;rw[<-hk] at hE ⊢
  have HK:=xf hk;clear hk;go_wp2;go_region
  all_goals
   go_wp2;obtain⟨s0,s1,s2,s3,s4⟩:=Te.out;unfold Ez at s0 s1 s2 s3 s4;refine bodyPost_ret (v:=.tuple #[.pointer none,.agg #[.int .u8 0,.int .u8 0,.int .u8 0,.int .u8 0,.int .u8 0],.int .i64 k]) (by simp[results,Tryz.results32,go_sem,s0,s1,s2,s3,s4]) rfl ⟨?_,?_⟩
   .first|exact(fG (B4.out.trans Ch.out) (by omega) _ _ _ _ _)|exact(fG (B4.out.trans Ch.out) (by omega) _ _ _ _ _).drew|exact(fG (B4.out.trans Ch.out).drew (by omega) _ _ _ _ _)
   .rw[HF.out,HK.out,if_neg HE.out];exact⟨_,λ_=>0,rfl⟩
end Go.Proofs.Ao
namespace Go.Sq
open Go.Proofs.Ao
def iB:AK (Bj [3,2,4])=0:=by decide +kernel
def sv:(DU (Av [[0,1],[1],[]]) (Bo (Hq (Bj [3,2,4]) 2 0) (Bc 3) 3 DC 0)).map (λp=>((List.range 3).map λi=>wl (p.1 i),p.2))=some (BH,3):=by decide +kernel
def li:AK (Bj [3,2,5])=0:=by decide +kernel
def jI:isSome (Bj [3,2,5])=false:=by decide +kernel
def pc:Cx (Bj [3,2,5]) 8=some [1,2]:=by decide +kernel
end Go.Sq
namespace Go.Proofs.Ao
open Go.RowKit Go.Sq
abbrev AL:AD:=Bj [3,2,4]
def Da (i:Nat):Nat:=(Bc 3)[i]?.getD 0
def Ce (x:Nat):Bl:=λj=>if j=0 then x else 0
def PX (i:Nat):Int:=(CY AL (Ce (Da i)) 0).1
def Fl:∀i,i<8->(PX i=0↔i=1\/i=4):=by decide +kernel
def pd:Bo AL (Bc 3) 2 (Ce (Da 4)) 1=[]:=by
 have:(Bo AL (Bc 3) 2 (Ce (Da 4)) 1).length=0:=by decide +kernel
 exact xU this
def pf:(Bo AL (Bc 3) 2 (Ce (Da 1)) 1).length=1:=by decide +kernel
def jb:∀x∈Bc 3,AL.has x:=λx hx=>lY 3 (by decide) x hx
def fY (i:Nat)(hi:i<8):∀j,AL.has (Ce (Da i) j):=by
 intro j;unfold Ce;split
 .refine jb _ ?_;have:∀i,i<8->Da i∈Bc 3:=by decide
  exact this i hi
 .show 0<2 ^ 3;decide
open Go.AW Go.Co Go.Conc
abbrev G6:=List (Nat×List Value×TypeId)
def hasB (o:G6)(b:Nat):Bool:=o.any λp=>p.1==b
def EH {o:G6}{b:Nat}(h:hasB o b=true):∃p∈o,p.1=b:=by
 obtain⟨p,h1,h2⟩:=List.any_eq_true.1 h;exact⟨p,h1,by simpa using h2⟩
def jJ {o:G6}{p:Nat×List Value×TypeId}(h:p∈o):hasB o p.1=true:=List.any_eq_true.2 ⟨p,h,by simp⟩
def be {o e:G6}{b:Nat}:hasB (o++e) b=(hasB o b||hasB e b):=List.any_append ..
def scl:List FuncId:=XC++[73,75,76,116,117,141,142,143]
def Ki (f:FuncId):Bool:=scl.contains f
def PY (f:FuncId):Bool:=Ki f&&!(f==73||f==75||f==76||f==141||f==143)
def nS:MW PY:=by
 refine⟨λf hf=>?_,by decide,by decide⟩;have:XC.all PY=true:=by decide
 exact lQ this f hf
def nT:∀f,Mq f=true->PY f=true:=λf hf=>by
 have:sll.all PY=true:=by decide
 exact j9 this f hf
def E5 (W:World)(o:G6):Prop:=∀p∈o,∃f,W.heap[p.1]?=some (.cells p.2.1.toArray p.2.2 f)
structure Cs (w:World)(co ex:G6)(tb cb sb cap:Nat)(nA hA:Option Addr)(nc F:Nat)(fc:List Value)(oK oE:Obj):Prop where
 obj:∀p∈co++ex,w.heap[p.1]?=some (.cells p.2.1.toArray p.2.2 (0,0))
 Gj:w.heap[tb]?=some oK
 Tg:Ee oK/\Ee oE
 nt:hasB (co++ex) tb=false
 ZZ:∀p∈co,∀v∈p.2.1,∀(SB:FuncId->Bool) (H:Hid),BM SB H (λb=>hasB co b=true) v
 vex:∀p∈ex,∀v∈p.2.1,∀(SB:FuncId->Bool) (H:Hid),SB 43=true->BM SB H (λb=>hasB (co++ex) b=true) v
 vfc:∀v∈fc,∀(SB:FuncId->Bool) (H:Hid),BM SB H (λb=>hasB (co++ex) b=true\/b=tb) v
 sF:H2 F=true/\Ki F=true
 cF:∀(x:Array Value) (w:World),(callFunc F x).run An w=.ok (.enter F x) w
 Ul:hasB co cb=true
 XR:hasB co sb=true
 CZ:∀W:World,E5 W co->CN W (λb=>hasB co b=true) cb AL (Bc 3) nA hA nc 3 sb cap
abbrev NY (co ex:G6):Nat->Bool:=hasB (co++ex)
abbrev Jv (tb:Nat):Nat->Bool:=λb=>b==tb
def Wh (kx tl:Nat->Bool)(w:World)(cb:Nat)(p1:Value)(w':World):Prop:=∀b,LR kx tl w b->w'.heap[b]?=(Dr kx tl w cb p1).heap[b]?
section
variable {w:World} {co ex:G6} {tb cb sb cap:Nat} {nA hA:Option Addr} {nc F:Nat} {fc:List Value} {oK oE:Obj}
def Cs.lt (S:Cs w co ex tb cb sb cap nA hA nc F fc oK oE){b:Nat}(h:NY co ex b=true\/Jv tb b=true):b<w.heap.size:=by
 rcases h with h|h
 .obtain⟨p,h1,rfl⟩:=EH h;exact(xg.1 (S.obj p h1)).1
 .have:b=tb:=by simpa using h
  subst this;exact(xg.1 S.Gj).1
def Cs.at_ (S:Cs w co ex tb cb sb cap nA hA nc F fc oK oE){p1:Value}{w':World}(h:Wh (NY co ex) (Jv tb) w cb p1 w') :
  (∀p∈co++ex,w'.heap[p.1]?=some (.cells p.2.1.toArray p.2.2 (0,p.2.1.toArray.size)))/\w'.heap[tb]?=some (.coro none)/\w'.heap[w.heap.size]?=some (.coro none) /\
   w'.heap[w.heap.size+1]?=some (.cells #[.pointer (some ⟨cb,0,none⟩)] 69 (0,1))/\w'.heap[w.heap.size+2]?=some (.cells #[p1] 90 (0,1)):=by
 refine⟨λp hp=>?_,?_,?_,?_,?_⟩
 .have hk:NY co ex p.1=true:=jJ hp;have hl:=S.lt (.inl hk);have ht:Jv tb p.1=false:=by
   cases hc:Jv tb p.1 with
   |false=>rfl
   |true =>
    have:p.1=tb:=by simpa using hc
    have h2:=S.nt;rw[<-this] at h2;rw[show hasB (co++ex) p.1=true from hk] at h2;cases h2
  rw[h _ (.inl hk),bj,if_neg (by omega),if_neg (by omega),if_neg (by omega),fD (S.obj p hp) hk ht]
 .have hl:=S.lt (b:=tb) (.inr (by simp));rw[h _ (.inr (.inl (by simp))),bj,if_neg (by omega),if_neg (by omega),if_neg (by omega),j7 hl (by simp)]
 .rw[h _ (.inr (.inr (.inl rfl))),bj,if_neg (by omega),if_neg (by omega),if_pos rfl]
 .rw[h _ (.inr (.inr (.inr (.inl rfl)))),bj,if_neg (by omega),if_pos rfl]
 .rw[h _ (.inr (.inr (.inr (.inr rfl)))),bj,if_pos rfl]
def cell_of {W:World}{b:Nat}{l:Array Value}{t:TypeId}{f:Nat×Nat}(h:W.heap[b]?=some (.cells l t f))(i:Nat):W.cell? ⟨b,i,none⟩=l[i]?:=by
 unfold World.cell?;simp only[h]
 rfl
def Cs.sees (S:Cs w co ex tb cb sb cap nA hA nc F fc oK oE){p1:Value}{w':World}(h:Wh (NY co ex) (Jv tb) w cb p1 w'):E5 w' (co++ex):=λp hp=>⟨_,(S.at_ h).1 p hp⟩
def E5.left {W:World}{o e:G6}(h:E5 W (o++e)):E5 W o:=λp hp=>h p (List.mem_append_left _ hp)
def wD:∀i:Nat,i<8->IntKind.i64.wrap ((i:Int)+1)=((i+1:Nat):Int):=by decide
def wE (i:Nat)(hi:i<8):(Bc 3)[i]?=some (Da i):=by
 have:∀i,i<8->(Bc 3)[i]?=some (Da i):=by decide
 exact this i hi
def ki (x:Nat)(j:Nat)(hj:j<5):(#[.int .u8 (x:Int),.int .u8 0,.int .u8 0,.int .u8 0,.int .u8 0]:Array Value)[j]?=some (.int .u8 (Ce x j:Nat)):=by
 match j,hj with
 |0,_=>rfl
 |1,_=>rfl
 |2,_=>rfl
 |3,_=>rfl
 |4,_=>rfl
def Cs.I3 (S:Cs w co ex tb cb sb cap nA hA nc F fc oK oE){p1:Value}{w':World}(h:Wh (NY co ex) (Jv tb) w cb p1 w')(i:Nat)(hi:i<8)(τ:Tape)(d:Nat) :
  Calls An 72 #[.pointer (some ⟨cb,0,none⟩),.pointer (some ⟨w'.heap.size,0,none⟩),.int .i64 0] (on (w'.alloc (first (Da i))) τ d) (λe w2=>∃v,e=.returned v/\((∃y1 y2,v=.agg #[.int .i64 (PX i),.int .i64 y1,.int .i64 y2])/\Ext (w'.alloc (first (Da i))) w2)):=by
 have hold:∀b,b<w'.heap.size->(on (w'.alloc (first (Da i))) τ d).heap[b]?=w'.heap[b]?:=λb hb=>heap_alloc_old w' _ hb;have hs:E5 (on (w'.alloc (first (Da i))) τ d) co:=λp hp=>by
  obtain⟨f,hf⟩:=(S.sees h).left p hp;exact⟨f,(hold _ (xg.1 hf).1).trans hf⟩
 have hr:DR (on (w'.alloc (first (Da i))) τ d) (on (w'.alloc (first (Da i))) τ d).heap.size w'.heap.size (Ce (Da i)):=by
  refine⟨by show _<(w'.alloc _).heap.size;rw[aI];omega,λj hj=>?_⟩;exact(cell_of (W:=w'.alloc (first (Da i))) (l:=#[.int .u8 (Da i:Int),.int .u8 0,.int .u8 0,.int .u8 0,.int .u8 0]) (t:=72) (f:=(0,0)) (fT w' (Da i)) j).trans (ki _ j hj)
 refine(nD cb w'.heap.size 0 AL (Ce (Da i)) _ (S.CZ _ hs).KF hr (AD.Ok.of iB) (by decide) (fY i hi)).mono ?_;rintro e w2 ⟨rfl,hg⟩;exact⟨_,rfl,⟨_,_,rfl⟩,hg.size,λb hb=>hg.below.block b hb,hg.below.os⟩
def kj {o:Obj}(h:Ee o){S:Cb}{Ck:Code->Prop}{β:AO}:Bw S Ck β o o:=by
 obtain⟨l,t,f,rfl,hl⟩:=h;refine .cells ⟨rfl,λi v V h1 h2=>?_⟩ λi h1 h2=>⟨h1,h2⟩;rw[h1] at h2;cases h2;cases hl v (yI (by simpa using h1)) with
 |bool b=>exact .bool b
 |int k n=>exact .int k n
def PZ (co ex:G6)(tb n r:Nat)(b:Nat):Prop:=hasB (co++ex) b=true\/b=tb\/b=n\/b=n+1\/b=n+2\/b=r
def mf (S:Cs w co ex tb cb sb cap nA hA nc F fc oK oE){p1:Value}{w' W:World}(h:Wh (NY co ex) (Jv tb) w cb p1 w')(Gu:∀(H:Hid),BM H2 H (λb=>hasB (co++ex) b=true\/b=tb) p1){x:Nat}{r:Nat}(hr:w'.heap[r]?=some (.cells #[.int .u8 (x:Int),.int .u8 0,.int .u8 0,.int .u8 0,.int .u8 0] 72 (0,5)))
  (hW:∀b,b≠tb->W.heap[b]?=w'.heap[b]?) {H:Hid} (hH:∀b,H b=false->b≠w.heap.size/\(b=tb->W.heap[tb]?=some oK)) :
  ∀b,PZ co ex tb w.heap.size r b->H b=false->∃o,W.heap[b]?=some o/\Bw (SP H2 H) (CK An H2 false) (Bn (PZ co ex tb w.heap.size r)) o o:=by
 obtain⟨a1,a2,a3,a4,a5⟩:=S.at_ h;have nt:∀b,hasB (co++ex) b=true->b≠tb:=λb hb e=>by
  have:=S.nt;rw[<-e,hb] at this;cases this
 have J9:tb<w.heap.size:=S.lt (.inr (by simp));intro b hb hHb;obtain⟨h1,h2⟩:=hH b hHb;by_cases XX:b=tb
 .subst XX;exact⟨oK,h2 rfl,kj S.Tg.1⟩
 rcases hb with hb|hb|hb|hb|hb|hb
 .obtain⟨p,hp,rfl⟩:=EH hb;refine⟨_,(hW _ XX).trans (a1 p hp),.cells (BQ λv hv=>?_) λi z1 z2=>⟨z1,z2⟩⟩;rcases ym.1 hp with hp|hp
  .exact(S.ZZ p hp v hv H2 H).mono λc hc=>.inl (by rw[be];simp[hc])
  .exact(S.vex p hp v hv H2 H (by decide)).mono λc hc=>.inl hc
 .exact absurd hb XX
 .exact absurd hb h1
 .subst hb;refine⟨_,(hW _ XX).trans a4,.cells (BQ (l:=[.pointer (some ⟨cb,0,none⟩)]) λv hv=>?_) λi z1 z2=>⟨z1,z2⟩⟩;simp only[xu,xm,or_false] at hv;subst hv;exact BM.ptr (.inl (by rw[be];simp[S.Ul])) _ _
 .subst hb;refine⟨_,(hW _ XX).trans a5,.cells (BQ (l:=[p1]) λv hv=>?_) λi z1 z2=>⟨z1,z2⟩⟩;simp only[xu,xm,or_false] at hv;subst hv;exact(Gu H).mono λc hc=>hc.elim .inl λh=>.inr (.inl h)
 .subst hb;refine⟨_,(hW _ XX).trans hr,.cells (BQ (l:=[.int .u8 (x:Int),.int .u8 0,.int .u8 0,.int .u8 0,.int .u8 0]) λv hv=>?_) λi z1 z2=>⟨z1,z2⟩⟩;simp only[xu,xm,or_false] at hv;rcases hv with rfl|rfl|rfl|rfl|rfl<;>exact Aw.int _ _
def tq (S:Cs w co ex tb cb sb cap nA hA nc F fc oK oE)(H:Hid):BM H2 H (λb=>hasB (co++ex) b=true\/b=tb) (.func (.func F) #[] fc.toArray):=BM.func S.sF.1 λv hv=>S.vfc v hv H2 H
def qF (S:Cs w co ex tb cb sb cap nA hA nc F fc oK oE){w':World}(h:Wh (NY co ex) (Jv tb) w cb (.func (.func F) #[] fc.toArray) w'){i:Nat}(hi:i<8)(hnone:Bo AL (Bc 3) 2 (Ce (Da i)) 1=[]){r:Nat}(J7:¬LR (NY co ex) (Jv tb) w r)
  (hr:w'.heap[r]?=some (.cells #[.int .u8 (Da i:Int),.int .u8 0,.int .u8 0,.int .u8 0,.int .u8 0] 72 (0,5))) :
  Br Tryz.prog PY (GH Tryz.prog w.heap.size λ_=>True) 0 (Go.Conc.G (Frame.enter Tryz.prog 74 (bM (w.heap.size+1) (w.heap.size+2) w.heap.size r) .deferred) [bad]) w':=by
 obtain⟨a1,a2,a3,a4,a5⟩:=S.at_ h;have l2:w.heap.size+2<w'.heap.size:=(xg.1 a5).1;have ltb:tb<w.heap.size:=S.lt (.inr (by simp));have hid:∀b,(⟨λb=>b==w.heap.size||b==tb,true,false⟩:Hid) b=true->b=w.heap.size\/b=tb:=λb hb=>by simpa using hb
 refine lX (H:=⟨λb=>b==w.heap.size||b==tb,true,false⟩) (T0:=λ_=>False) nS (hn:=rfl) (K0:=PZ co ex tb w.heap.size r) ⟨.inr (.inr (.inr (.inl rfl))),.inr (.inr (.inr (.inr (.inl rfl)))),.inr (.inr (.inl rfl)),.inr (.inr (.inr (.inr (.inr rfl))))⟩
  (λb _ hb=>⟨rfl,by rcases hid b hb with rfl|rfl;exact a3;exact a2⟩) (λb hb=>by rcases hid b hb with rfl|rfl<;>omega)
  (mf S h (tq S) hr (λ_ _=>rfl) λb hb=>?_) (λτ d=>?_) (λ_ _ _ _=>trivial)
 .have hb':(b==w.heap.size||b==tb)=false:=hb;simp only[yR,beq_eq_false_iff_ne] at hb';exact⟨hb'.1,λe=>absurd e hb'.2⟩
 .have := nF (T0 := fun _ => False) (K := fun b => hasB co b = true) (cb := cb) (c := AL) (sets := Bc 3) (b2 := w.heap.size + 1) (b3 := w.heap.size + 2) (b4 := w.heap.size) (rb := r) (F := F) (k := 2) (fc := fc.toArray) (r := Ce (Da i)) (w := on w' τ d)
   (AD.Ok.of iB) jb (by decide) (S.CZ (on w' τ d) (S.sees h).left) (λ_ hb=>hb.elim) (λ_ _ hb=>hb) (fY i hi) (λj hj=>by unfold Ce;rw[if_neg (by omega)]) rfl
   (cell_of (W:=on w' τ d) a4 0) (λj hj=>(cell_of (W:=on w' τ d) hr j).trans (ki _ j hj)) (cell_of (W:=on w' τ d) a5 0) ⟨l2,λhb=>hb⟩
   (λpre _=>pre=[]) (λ_ _ _ hp _=>hp) rfl S.cF (λpre ρ W C4 _ _=>by
    rw[hnone] at C4;have:=C4.length_le
    simp at this)
  refine Go.wp_mono this ?_;rintro e a' w2 ⟨he,h1,_,D,h2,h3,h4⟩;exact⟨he,h1,trivial,D,h2,h3,h4⟩
def qG (S:Cs w co ex tb cb sb cap nA hA nc F fc oK oE){w':World}(h:Wh (NY co ex) (Jv tb) w cb (.func (.func F) #[] fc.toArray) w'){i:Nat}(hi:i<8){Kj:Bl}(Gp:Bo AL (Bc 3) 2 (Ce (Da i)) 1=[Kj]){r:Nat}(J7:¬LR (NY co ex) (Jv tb) w r)
  (hr:w'.heap[r]?=some (.cells #[.int .u8 (Da i:Int),.int .u8 0,.int .u8 0,.int .u8 0,.int .u8 0] 72 (0,5)))
  (Xw:∀W:World,W.heap[tb]?=some oK->E5 W ex->Calls An F (#[BI Kj]++fc.toArray) W λe W'=>e=.returned (.tuple #[])/\KT (λb=>b=tb) W W'/\W'.heap[tb]?=some oE) :
  Br Tryz.prog PY (GH Tryz.prog w.heap.size λw2=>∀b,Jv tb b=true->w2.heap[b]?=some oE) 0 (Go.Conc.G (Frame.enter Tryz.prog 74 (bM (w.heap.size+1) (w.heap.size+2) w.heap.size r) .deferred) [bad]) (En (Jv tb) (λ_=>oK) w'):=by
 obtain⟨a1,a2,a3,a4,a5⟩:=S.at_ h;have l2:w.heap.size+2<w'.heap.size:=(xg.1 a5).1;have ltb:tb<w.heap.size:=S.lt (.inr (by simp));obtain⟨W0,hW0⟩:∃W0,W0=En (Jv tb) (λ_=>oK) w':=⟨_,rfl⟩;have g0:∀b,b<w'.heap.size->W0.heap[b]?=if Jv tb b then some oK else w'.heap[b]?:=λb hb=>by rw[hW0];exact bP _ _ _ _ hb
 have XY:∀b,b≠tb->W0.heap[b]?=w'.heap[b]?:=λb hb=>by
  by_cases hl:b<w'.heap.size
  .rw[g0 b hl,if_neg (by simpa using hb)]
  .rw[yM (show W0.heap.size<=b by rw[hW0,bO];omega),yM (by omega)]
 have gtb:W0.heap[tb]?=some oK:=by rw[g0 tb (by omega),if_pos (by simp)]
 have gsz:W0.heap.size=w'.heap.size:=by rw[hW0,bO]
 rw[<-hW0];have nt:∀b,hasB (co++ex) b=true->b≠tb:=λb hb e=>by
  have:=S.nt;rw[<-e,hb] at this;cases this
 have rne:r≠tb:=λe=>J7 (.inr (.inl (by simp[e])));have Ux:E5 W0 (co++ex):=λp hp=>⟨_,(XY _ (nt _ (jJ hp))).trans (a1 p hp)⟩;have Z0:∀b,PZ co ex tb w.heap.size r b->(⟨λb=>b==w.heap.size,true,false⟩:Hid) b=true->(⟨λb=>b==w.heap.size,true,false⟩:Hid).BA=true/\W0.heap[b]?=some (.coro none):=λb _ hb=>by
  have e:b=w.heap.size:=by simpa using hb
  refine⟨rfl,?_⟩;rw[e,XY _ (by omega)];exact a3
 have GF:∀b,(⟨λb=>b==w.heap.size,true,false⟩:Hid) b=true->b<W0.heap.size:=λb hb=>by
  have e:b=w.heap.size:=by simpa using hb
  omega
 refine lX (H:=⟨λb=>b==w.heap.size,true,false⟩) (T0:=λb=>b=tb) nS (hn:=rfl) (K0:=PZ co ex tb w.heap.size r) ⟨.inr (.inr (.inr (.inl rfl))),.inr (.inr (.inr (.inr (.inl rfl)))),.inr (.inr (.inl rfl)),.inr (.inr (.inr (.inr (.inr rfl))))⟩
  Z0 GF
  (mf S h (tq S) hr XY λb hb=>⟨by simpa using hb,λ_=>gtb⟩) (λτ d=>?_) (λW W' hW hk b hb=>?_)
 .have := nF (T0 := fun b => b = tb) (K := fun b => hasB co b = true) (cb := cb) (c := AL) (sets := Bc 3) (b2 := w.heap.size + 1) (b3 := w.heap.size + 2) (b4 := w.heap.size) (rb := r) (F := F) (k := 2) (fc := fc.toArray) (r := Ce (Da i)) (w := on W0 τ d)
   (AD.Ok.of iB) jb (by decide) (S.CZ (on W0 τ d) Ux.left) (λb hb=>by show b<W0.heap.size;omega) (λb hb=>nt b (by rw[be];simp[hb])) (fY i hi) (λj hj=>by unfold Ce;rw[if_neg (by omega)]) rfl
   (cell_of (W:=on W0 τ d) ((XY _ (by omega)).trans a4) 0) (λj hj=>(cell_of (W:=on W0 τ d) ((XY _ rne).trans hr) j).trans (ki _ j hj)) (cell_of (W:=on W0 τ d) ((XY _ (by omega)).trans a5) 0) ⟨by show _<W0.heap.size;omega,by omega⟩
   (λpre W=>W.heap[tb]?=some (if pre=[] then oK else oE)) (λpre W W' hp hk=>(hk tb rfl).trans hp) gtb S.cF (λpre ρ W C4 CB hI=>by
    rw[Gp] at C4;have hl:=C4.length_le;have hp:pre=[]:=by cases pre with
     |nil=>rfl
     |cons a l=>simp at hl
    subst hp;have CX:ρ=Kj:=by
     obtain⟨t,ht⟩:=C4;simp at ht;exact ht.1
    subst CX;have hex:E5 W ex:=λp hp=>by
     obtain⟨f,hf⟩:=Ux p (List.mem_append_right _ hp);have hl2:=(xg.1 hf).1
     exact⟨f,(CB.block p.1 hl2 (by
      rintro(e|e)
      .exact nt _ (jJ (List.mem_append_right co hp)) e
      .have e':W0.heap.size<=p.1:=e
       omega)).trans hf⟩
    refine(Xw W hI hex).mono ?_;rintro e W' ⟨h1,h2,h3⟩
    exact⟨h1,h2,h3⟩)
  refine Go.wp_mono this ?_;rintro e a' w2 ⟨he,h1,hI,D,h2,h3,h4⟩;rw[Gp] at hI
  exact⟨he,h1,λb hb=>by
   have e:b=tb:=by simpa using hb
   rw[e];exact hI,D,h2,h3,h4⟩
 .have e:b=tb:=by simpa using hb
  rw[e,hk tb rfl];exact hW tb (by simp)
end
def uf {p:Nat->Bool}(h:scl.all p=true):∀f,Ki f=true->p f=true:=λf hf=>(xY.1 h) f (by simpa [Ki] using hf)
def Ti (f:FuncId):Bool:=f==77||f==78||f==140||f==142
def Z1 (f:FuncId):Bool:=f==73||f==75||f==76||f==141||f==143
def vD:scl.all (λf=>GX Tryz.prog Ki true f||Ti f||Z1 f)=true:=by kernel_rfl
def tt {f:FuncId}(h:Ti f=true):KV PP f:=by
 unfold Ti at h;simp only[xO,beq_iff_eq] at h;rcases h with((rfl|rfl)|rfl)|rfl
 .exact⟨Tryz.f77,_,Tryz.func77,Tryz.func77,by kernel_rfl,by kernel_rfl,by kernel_rfl,by kernel_rfl,.add .i64,by kernel_rfl⟩
 .exact⟨Tryz.f78,_,Tryz.func78,Tryz.func78,by kernel_rfl,by kernel_rfl,by kernel_rfl,by kernel_rfl,.load .i64,by kernel_rfl⟩
 .exact⟨Tryz.f140,_,Tryz.func140,Tryz.func140,by kernel_rfl,by kernel_rfl,by kernel_rfl,by kernel_rfl,.Gx .i32 (by decide),by kernel_rfl⟩
 .exact⟨Tryz.f142,_,Tryz.func142,Tryz.func142,by kernel_rfl,by kernel_rfl,by kernel_rfl,by kernel_rfl,.add .i32,by kernel_rfl⟩
def wF {P:Ba}(f:FuncId)(hf:aM Ki f=true):Fy P f:=by
 unfold aM at hf;have h:Ki 75=true:=by decide
 rw[h,Bool.not_true,yJ,yJ] at hf;cases hf
def Uy (H:Hid):Lib PP Ki H true PY 0:=by
 refine iz (λf hf=>?_) (λf hf hb=>?_) (λf hf=>?_) wF ⟨yl Tryz.globals_size,Tryz.J3⟩
 .simp only[PY,xC,yw] at hf;have:=uf vD f hf.1;have Gh:Z1 f=false:=hf.2;simp only[Gh,zp,xO] at this;rcases this with h|h
  .exact .inl ⟨h,rfl⟩
  .exact .inr (tt h)
 .simp only[PY,hf,yN,yQ,xO,beq_iff_eq] at hb;rcases hb with(((rfl|rfl)|rfl)|rfl)|rfl
  .exact⟨_,_,Tryz.func73,Tryz.func73,rfl,by decide,by decide,rfl,rfl⟩
  .exact⟨_,_,Tryz.func75,Tryz.func75,rfl,by decide,by decide,rfl,rfl⟩
  .exact⟨_,_,Tryz.func76,Tryz.func76,rfl,by decide,by decide,rfl,rfl⟩
  .exact⟨_,_,Tryz.func141,Tryz.func141,rfl,by decide,by decide,rfl,rfl⟩
  .exact⟨_,_,Tryz.func143,Tryz.func143,rfl,by decide,by decide,rfl,rfl⟩
 .simp only[PY,xC] at hf;exact hf.1
section
variable {w:World} {co ex:G6} {tb cb sb cap:Nat} {nA hA:Option Addr} {nc F:Nat} {fc:List Value} {oK oE:Obj}
def wG:codeOk Tryz.prog Ki true true (.region 9 o9 false)=true:=by kernel_rfl
def vE:codeOk Tryz.prog Ki true true (.region 10 Ir false)=true:=by kernel_rfl
def wH:codeOk Tryz.prog Ki true true eL=true:=by kernel_rfl
def wI:o8.all (ct Tryz.prog Ki true true)=true:=by kernel_rfl
def Ni (S:Cs w co ex tb cb sb cap nA hA nc F fc oK oE){Kj:Bl}(Gp:Bo AL (Bc 3) 2 (Ce (Da 1)) 1=[Kj])
  (Xw:∀W:World,W.heap[tb]?=some oK->E5 W ex->Calls An F (#[BI Kj]++fc.toArray) W λe W'=>e=.returned (.tuple #[])/\KT (λb=>b=tb) W W'/\W'.heap[tb]?=some oE) :
  FO Ki Mq PY w (NY co ex) (Jv tb) (λb=>hasB co b=true) (Wh (NY co ex) (Jv tb) w cb (.func (.func F) #[] fc.toArray)) cb sb 8 cap (.func F) #[] fc.toArray (λi=>(Da i:Int)) PX (λi=>decide (i<=1)) (λ_=>oK) (λ_=>oE) where
 hB:=by decide
 LQ:=by decide
 XO:=by decide
 XP:=by decide
 L0:=vz nT
 b0:=nT
 XQ:=by decide
 todo:=λH K=>.cons (.inRegion wI) (.cons (.inBlock 1) (.cons (.code wG) (.cons (.inLoop wH) (.cons (.inBlock 0) (.cons (.code vE) .nil)))))
 only:=λw1 w2 h _ Du b hb=>(h b hb).trans (Du b hb)
 ok:=λb hb=>rfl
 NT:=λw' h=>cell_of (S.at_ h).2.2.2.1 0
 hold:=λw' h=>⟨(S.CZ w' (S.sees h).left).c2,_,(S.CZ w' (S.sees h).left).c0⟩
 I2:=λw' i h hi=>(S.CZ w' (S.sees h).left).sets i _ (wE i hi)
 CZ:=λw' b h hb=>by
  obtain⟨p,hp,rfl⟩:=EH hb;refine⟨by show hasB (co++ex) p.1=true;rw[be];simp[hb],_,(S.at_ h).1 p (List.mem_append_left _ hp),.cells (BQ λv hv=>S.ZZ p hp v hv Mq zD) λi z1 z2=>⟨z1,z2⟩⟩
 cK:=S.Ul
 ks:=⟨by show hasB (co++ex) cb=true;rw[be];simp[S.Ul],by show hasB (co++ex) sb=true;rw[be];simp[S.XR]⟩
 XS:=λb hb=>by
  have ht:Jv tb b=false:=by
   cases hc:Jv tb b with
   |false=>rfl
   |true =>
    have e:b=tb:=by simpa using hc
    have h2:=S.nt;rw[<-e] at h2;rw[show hasB (co++ex) b=true from hb] at h2;cases h2
  obtain⟨p,hp,rfl⟩:=EH hb;refine⟨ht,p.2.1,p.2.2,(0,0),S.obj p hp,λi h1 h2=>absurd h2 (yr _),λv hv H=>?_⟩;rcases ym.1 hp with hp|hp
  .exact(S.ZZ p hp v hv Ki H).mono λc hc=>.inl (by show hasB (co++ex) c=true;rw[be];simp[hc])
  .exact(S.vex p hp v hv Ki H (by decide)).mono λc hc=>.inl hc
 Zn:=λb hb=>by
  have e:b=tb:=by simpa using hb
  subst e;exact⟨S.Gj,S.Tg⟩
 Gu:=λH=>BM.func S.sF.2 λv hv=>(S.vfc v hv Ki H).mono λc hc=>hc.elim .inl λh=>.inr (by simp[h])
 wrap:=wD
 I3:=λw' i h hi τ d=>S.I3 h i hi τ d
 tp0:=rfl
 Zk:=λi hi hk=>by
  have h1:i≠1:=λe=>hk ((Fl i hi).2 (.inl e));show decide (i+1<=1)=decide (i<=1);by_cases h0:i=0
  .subst h0;rfl
  .rw[decide_eq_false (by omega),decide_eq_false (by omega)]
 which:=λi hi hk=>by
  rcases(Fl i hi).1 hk with rfl|rfl
  .exact .inr ⟨rfl,rfl⟩
  .exact .inl rfl
 plain:=λi r w' hi hk ht h J7 hr=>by
  rcases(Fl i hi).1 hk with rfl|rfl
  .cases ht
  .exact qF S h hi pd J7 hr
 owner:=λi r w' hi hk ht ht1 h J7 hr=>by
  rcases(Fl i hi).1 hk with rfl|rfl
  .exact qG S h hi Gp J7 hr Xw
  .cases ht
end
abbrev Lw:Go.Conc.Lib.WgLink:={ add:=73,done:=75,wait:=76,relMerge:=98,disable:=99,enable:=100,inBubble:=101,associate:=102,fatal:=103,uOr:=104,uAdd:=105,raceRead:=106,uLoad:=107,uStore:=108,disassociate:=109,semrelease:=110,acquire:=111,isAssociated:=112,uCas:=113,raceWrite:=114,semacquire:=115,orU64:=135,addU64:=136,loadU64:=137,storeU64:=138,casU64:=139,tWgP:=162,tUP:=164,tAssoc:=165,tWg:=133,tAU:=131,tU64:=60,tUint:=146,tU32:=95,tPU32:=169,tPAU:=195,tPU64:=197,tNoCopy:=94,tANoCopy:=84,tAlign64:=85 }
def Uz:Go.Conc.Lib.WgLib Tryz.prog Lw :=
 ⟨Tryz.func73,Tryz.func75,Tryz.func76,Tryz.func98,Tryz.func99,Tryz.func100,Tryz.func101,Tryz.func102,Tryz.func103,Tryz.func104,Tryz.func105,Tryz.func106,Tryz.func107,Tryz.func108,Tryz.func109,Tryz.func110,Tryz.func111,Tryz.func112,Tryz.func113,Tryz.func114,Tryz.func115,Tryz.func135,Tryz.func136,Tryz.func137,Tryz.func138,Tryz.func139,Tryz.underlying162,Tryz.runUnderlying162,Tryz.sizeOf162,Tryz.isAgg162,Tryz.zeroValue162,Tryz.underlying164,Tryz.runUnderlying164,Tryz.sizeOf164,Tryz.isAgg164,Tryz.zeroValue164,Tryz.underlying165,Tryz.runUnderlying165,Tryz.sizeOf165,Tryz.isAgg165,Tryz.zeroValue165,Tryz.underlying133,Tryz.runUnderlying133,Tryz.sizeOf133,Tryz.isAgg133,Tryz.zeroValue133,Tryz.underlying131,Tryz.runUnderlying131,Tryz.sizeOf131,Tryz.isAgg131,Tryz.zeroValue131,Tryz.underlying60,Tryz.runUnderlying60,Tryz.sizeOf60,Tryz.isAgg60,Tryz.zeroValue60,Tryz.underlying146,Tryz.runUnderlying146,Tryz.sizeOf146,Tryz.isAgg146,Tryz.zeroValue146,Tryz.underlying95,Tryz.runUnderlying95,Tryz.sizeOf95,Tryz.isAgg95,Tryz.zeroValue95,Tryz.underlying169,Tryz.runUnderlying169,Tryz.sizeOf169,Tryz.isAgg169,Tryz.zeroValue169,Tryz.underlying195,Tryz.runUnderlying195,Tryz.sizeOf195,Tryz.isAgg195,Tryz.zeroValue195,Tryz.underlying197,Tryz.runUnderlying197,Tryz.sizeOf197,Tryz.isAgg197,Tryz.zeroValue197,Tryz.underlying0,Tryz.runUnderlying0,Tryz.sizeOf0,Tryz.isAgg0,Tryz.zeroValue0,Tryz.underlying3,Tryz.runUnderlying3,Tryz.sizeOf3,Tryz.isAgg3,Tryz.zeroValue3,Tryz.underlying4,Tryz.runUnderlying4,Tryz.sizeOf4,Tryz.isAgg4,Tryz.zeroValue4,Tryz.underlying9,Tryz.runUnderlying9,Tryz.sizeOf9,Tryz.isAgg9,Tryz.zeroValue9,Tryz.underlying20,Tryz.runUnderlying20,Tryz.sizeOf20,Tryz.isAgg20,Tryz.zeroValue20,Tryz.underlying21,Tryz.runUnderlying21,Tryz.sizeOf21,Tryz.isAgg21,Tryz.zeroValue21,(by kernel_rfl),(by kernel_rfl)⟩
def Nj:Go.Co.Barred PP Ki true Lw.add (Go.Conc.Lib.addFn Lw):=⟨_,Tryz.func73,Tryz.func73,rfl,by kernel_rfl⟩
def Lm:Go.Co.Barred PP Ki true Lw.wait (Go.Conc.Lib.waitFn Lw):=⟨_,Tryz.func76,Tryz.func76,rfl,by kernel_rfl⟩
def Ln:Go.Co.Barred PP Ki true Lw.done (Go.Conc.Lib.doneFn Lw):=⟨_,Tryz.func75,Tryz.func75,rfl,by kernel_rfl⟩
def EI (bo:Nat):List Value:=[.int .i64 12,.int .i64 3,.int .i64 2,.slice none 0 0,.int .i64 6,.int .i64 2,.int .i64 2,.slice (some ⟨bo,0,none⟩) 1 1,.int .i64 6,.int .i64 1,.int .i64 1,.slice none 0 0]
def Lp (bn bh sb cap:Nat):List Value:=[.slice (some ⟨bn,0,none⟩) 3 3,.slice (some ⟨bh,0,none⟩) 3 3,.slice (some ⟨sb,0,none⟩) 8 cap]
def D9:List Value:=[.int .i64 3,.int .i64 2,.int .i64 4]
def Bd (bn bo bh cb sb cap:Nat)(cur:List Value)(t:TypeId):G6:=[(bn,D9,3),(bo,[.int .i64 0],3),(bh,EI bo,46),(cb,Lp bn bh sb cap,127),(sb,cur,t)]
section
variable {bn bo bh cb sb cap:Nat} {cur:List Value} {t:TypeId}
def Bz (b:Nat):hasB (Bd bn bo bh cb sb cap cur t) b=true↔b=bn\/b=bo\/b=bh\/b=cb\/b=sb:=by
 simp only[hasB,Bd,List.any_cons,List.any_nil,zp,xO,beq_iff_eq];constructor
 .rintro(h|h|h|h|h)<;>simp[h]
 .rintro(h|h|h|h|h)<;>simp[h]
def nU {W:World}(h:E5 W (Bd bn bo bh cb sb cap cur t))(aeI:∀(i x:Nat),(Bc 3)[i]?=some x->cur[i]?=some (Value.int .u8 (x:Int))) :
  CN W (λb=>hasB (Bd bn bo bh cb sb cap cur t) b=true) cb AL (Bc 3) (some ⟨bn,0,none⟩) (some ⟨bh,0,none⟩) 3 3 sb cap:=by
 obtain⟨f1,h1⟩:=h (bn,D9,3) (by simp[Bd]);obtain⟨f2,h2⟩:=h (bo,[.int .i64 0],3) (by simp[Bd]);obtain⟨f3,h3⟩:=h (bh,EI bo,46) (by simp[Bd]);obtain⟨f4,h4⟩:=h (cb,Lp bn bh sb cap,127) (by simp[Bd]);obtain⟨f5,h5⟩:=h (sb,cur,t) (by simp[Bd]);have hb:∀i:Nat,W.cell? ⟨bh,i,none⟩=(EI bo)[i]?:=λi=>(cell_of h3 i).trans (by simp);have hn:FC W (λb=>hasB (Bd bn bo bh cb sb cap cur t) b=true) (some ⟨bn,0,none⟩) [3,2,4]:=λ_=>by
  refine⟨bn,0,rfl,(Bz _).2 (by simp),λi x hx=>?_⟩;rw[cell_of h1]
  match i,hx with
  |0,hx=>simp at hx;subst hx;rfl
  |1,hx=>simp at hx;subst hx;rfl
  |2,hx=>simp at hx;subst hx;rfl
  |k+3,hx=>simp at hx
 have ho:FC W (λb=>hasB (Bd bn bo bh cb sb cap cur t) b=true) (some ⟨bo,0,none⟩) [0]:=λ_=>by
  refine⟨bo,0,rfl,(Bz _).2 (by simp),λi x hx=>?_⟩;rw[cell_of h2]
  match i,hx with
  |0,hx=>simp at hx;subst hx;rfl
  |k+1,hx=>simp at hx
 have hnil:FC W (λb=>hasB (Bd bn bo bh cb sb cap cur t) b=true) none []:=λh=>absurd rfl h;refine⟨λb Gw=>?_,(Bz _).2 (by simp),cell_of h4 0,cell_of h4 1,cell_of h4 2,(Bz _).2 (by simp),λi x hx=>(cell_of h5 i).trans (by simpa using aeI i x hx),hn,λ_=>⟨bh,0,rfl,(Bz _).2 (by simp),λi x hx=>?_⟩⟩
 .rcases(Bz _).1 Gw with rfl|rfl|rfl|rfl|rfl
  .exact(xg.1 h1).1
  .exact(xg.1 h2).1
  .exact(xg.1 h3).1
  .exact(xg.1 h4).1
  .exact(xg.1 h5).1
 .match i,hx with
  |0,hx=>simp[AL,Bj] at hx;subst hx;exact⟨hb _,hb _,hb _,none,0,hb _,hnil⟩
  |1,hx=>simp[AL,Bj] at hx;subst hx;exact⟨hb _,hb _,hb _,_,1,hb _,ho⟩
  |2,hx=>simp[AL,Bj] at hx;subst hx;exact⟨hb _,hb _,hb _,none,0,hb _,hnil⟩
  |k+3,hx=>simp[AL,Bj] at hx
def fZ (OL:∀u∈cur,gW u):∀p∈Bd bn bo bh cb sb cap cur t,∀v∈p.2.1,∀(SB:FuncId->Bool) (H:Hid),BM SB H (λb=>hasB (Bd bn bo bh cb sb cap cur t) b=true) v:=by
 intro p hp v hv SB H;have aeJ:BM SB H (λb=>hasB (Bd bn bo bh cb sb cap cur t) b=true) (.slice none 0 0):=Aw.DF 0 0;simp only[Bd,xu,xm,or_false] at hp;rcases hp with rfl|rfl|rfl|rfl|rfl
 .simp only[D9,xu,xm,or_false] at hv;rcases hv with rfl|rfl|rfl<;>exact Aw.int _ _
 .simp only[xu,xm,or_false] at hv;subst hv;exact Aw.int _ _
 .simp only[EI,xu,xm,or_false] at hv;rcases hv with rfl|rfl|rfl|rfl|rfl|rfl|rfl|rfl|rfl|rfl|rfl|rfl<;>first|exact Aw.int _ _|exact aeJ|exact BM.slice ((Bz _).2 (by simp)) _ _ _ _
 .simp only[Lp,xu,xm,or_false] at hv;rcases hv with rfl|rfl|rfl<;>exact BM.slice ((Bz _).2 (by simp)) _ _ _ _
 .obtain⟨x,rfl⟩:=OL v hv;exact Aw.int _ _
end
section
variable {bn bo bh cb sb cap:Nat} {cur:List Value} {t:TypeId} {w:World}
structure CV (w:World)(bn bo bh cb sb cap:Nat)(cur:List Value)(t:TypeId):Prop where
 obj:∀p∈Bd bn bo bh cb sb cap cur t,w.heap[p.1]?=some (.cells p.2.1.toArray p.2.2 (0,0))
 sets:∀(i x:Nat),(Bc 3)[i]?=some x->cur[i]?=some (Value.int .u8 (x:Int))
 flat:∀u∈cur,gW u
def CV.keep {w':World}(h:CV w bn bo bh cb sb cap cur t)(hk:∀b,hasB (Bd bn bo bh cb sb cap cur t) b=true->w'.heap[b]?=w.heap[b]?):CV w' bn bo bh cb sb cap cur t :=
 ⟨λp hp=>(hk _ (jJ hp)).trans (h.obj p hp),h.sets,h.flat⟩
def CV.lt (h:CV w bn bo bh cb sb cap cur t){b:Nat}(hb:hasB (Bd bn bo bh cb sb cap cur t) b=true):b<w.heap.size:=by
 obtain⟨p,hp,rfl⟩:=EH hb;exact(xg.1 (h.obj p hp)).1
abbrev GI (n:Int):Obj:=.cells #[.int .i64 n] 87 (0,0)
def Wi (n:Int):Ee (GI n):=⟨[.int .i64 n],87,(0,0),rfl,λv hv=>by
 simp only[xu,xm,or_false] at hv
 subst hv;exact .int _ _⟩
def NZ (h:CV w bn bo bh cb sb cap cur t){nb:Nat}(hn:w.heap[nb]?=some (GI 0))(Nk:hasB (Bd bn bo bh cb sb cap cur t) nb=false) :
  Cs w (Bd bn bo bh cb sb cap cur t) [] nb cb sb cap (some ⟨bn,0,none⟩) (some ⟨bh,0,none⟩) 3 40 [.pointer (some ⟨nb,0,none⟩)] (GI 0) (GI 1) where
 obj:=λp hp=>h.obj p (by simpa using hp)
 Gj:=hn
 Tg:=⟨Wi 0,Wi 1⟩
 nt:=by rw[List.append_nil];exact Nk
 ZZ:=fZ h.flat
 vex:=λp hp=>by cases hp
 vfc:=λv hv SB H=>by
  simp only[xu,xm,or_false] at hv;subst hv;exact BM.ptr (.inr rfl) _ _
 sF:=⟨by decide,by decide⟩
 cF:=λx w=>by
  have h1:¬Tryz.f40.name = "runtime.NumGoroutine":=by decide
  simp[callFunc,Sq.fn Tryz.func40 rfl,h1,Tryz.f40]
 Ul:=(Bz _).2 (by simp)
 XR:=(Bz _).2 (by simp)
 CZ:=λW hW=>nU hW h.sets
def P0 (nb:Nat){ex:G6}(ρ:Bl)(W:World)(h:W.heap[nb]?=some (GI 0))(_:E5 W ex) :
  Calls An 40 (#[BI ρ]++[Value.pointer (some ⟨nb,0,none⟩)].toArray) W λe W'=>e=.returned (.tuple #[])/\KT (λb=>b=nb) W W'/\W'.heap[nb]?=some (GI 1) :=
 rF nb 0 1 ρ W h (by decide)
abbrev Ds (b:Bool)(r:Bl):Obj:=.cells (FJ 0 r b) 101 (0,0)
def P3 (b:Bool)(r:Bl):Ee (Ds b r):=⟨(FJ 0 r b).toList,101,(0,0),by simp[FJ],λv hv=>by
 simp only[FJ,xu,xm,or_false] at hv
 rcases hv with rfl|rfl|rfl|rfl|rfl|rfl|rfl|rfl<;>first|exact .int _ _|exact .bool _⟩
def CE (xb qb cb:Nat):G6:=[(xb,[.func (.func 43) #[] #[.pointer (some ⟨qb,0,none⟩)]],93),(qb,[.pointer (some ⟨cb,0,none⟩)],69)]
def P4 (h:CV w bn bo bh cb sb cap cur t){kb xb qb:Nat}{ρ:Bl}(hk:w.heap[kb]?=some (Ds false λ_=>0))(hx:∀p∈CE xb qb cb,w.heap[p.1]?=some (.cells p.2.1.toArray p.2.2 (0,0)))
  (Nk:hasB (Bd bn bo bh cb sb cap cur t++CE xb qb cb) kb=false) :
  Cs w (Bd bn bo bh cb sb cap cur t) (CE xb qb cb) kb cb sb cap (some ⟨bn,0,none⟩) (some ⟨bh,0,none⟩) 3 46 [.pointer (some ⟨kb,0,none⟩),.pointer (some ⟨xb,0,none⟩)] (Ds false λ_=>0) (Ds true ρ) where
 obj:=λp hp=>(ym.1 hp).elim (h.obj p) (hx p)
 Gj:=hk
 Tg:=⟨P3 _ _,P3 _ _⟩
 nt:=Nk
 ZZ:=fZ h.flat
 vex:=λp hp v hv SB H h54=>by
  have hq:∀b,(b=xb\/b=qb)->hasB (Bd bn bo bh cb sb cap cur t++CE xb qb cb) b=true:=λb hb=>by
   rw[be];rcases hb with rfl|rfl<;>simp[hasB,CE]
  simp only[CE,xu,xm,or_false] at hp;rcases hp with rfl|rfl
  .simp only[xu,xm,or_false] at hv;subst hv;refine BM.func (l:=[.pointer (some ⟨qb,0,none⟩)]) h54 λv hv=>?_;simp only[xu,xm,or_false] at hv;subst hv;exact BM.ptr (hq _ (.inr rfl)) _ _
  .simp only[xu,xm,or_false] at hv;subst hv;exact BM.ptr (by rw[be,(Bz cb).2 (by simp),Bool.true_or]) _ _
 vfc:=λv hv SB H=>by
  simp only[xu,xm,or_false] at hv;rcases hv with rfl|rfl
  .exact BM.ptr (.inr rfl) _ _
  .exact BM.ptr (.inl (by rw[be];simp[hasB,CE])) _ _
 sF:=⟨by decide,by decide⟩
 cF:=λx w=>by
  have h1:¬Tryz.f46.name = "runtime.NumGoroutine":=by decide
  simp[callFunc,Sq.fn Tryz.func46 rfl,h1,Tryz.f46]
 Ul:=(Bz _).2 (by simp)
 XR:=(Bz _).2 (by simp)
 CZ:=λW hW=>nU hW h.sets
def Tj (kb xb qb cb:Nat)(ρ:Bl)(W:World)(h:W.heap[kb]?=some (Ds false λ_=>0))(hs:E5 W (CE xb qb cb)) :
  Calls An 46 (#[BI ρ]++[Value.pointer (some ⟨kb,0,none⟩),.pointer (some ⟨xb,0,none⟩)].toArray) W λe W'=>e=.returned (.tuple #[])/\KT (λb=>b=kb) W W'/\W'.heap[kb]?=some (Ds true ρ):=by
 obtain⟨f,hf⟩:=hs (xb,[.func (.func 43) #[] #[.pointer (some ⟨qb,0,none⟩)]],93) (by simp[CE]);exact tD kb xb ρ _ W (cell_of hf 0) (xg.1 hf).1 h
end
end Go.Proofs.Ao
