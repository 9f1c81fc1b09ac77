/- Parts of the proof. -/
import Derived.Test.YtjcgijifamcggaaGreatP15
import Derived.Test.YtjcgijifamcggaaGreatP00
import Derived.Test.YtjcgijifamcggaaGreatP13
import Derived.Test.YtjcgijifamcggaaGreatP14
import Derived.Test.YtjcgijifamcggaaGreatP01
import Derived.Conc.WgGenDone
import Derived.Conc.WgGenWait
set_option linter.all false
set_option maxHeartbeats 3200000
set_option maxRecDepth 1000000
namespace Go.Sq
open Go.RowKit
def Ba (c:AW)(ls:List (List Int)):Int :=
 if Bi c≠0 then Bi c else if BV ls.length c.AK.length c.AK.length≠0 then BV ls.length c.AK.length c.AK.length else bz (ls.map λl=>De l c.AH.length)
def AP (ls:List (List Int)):Bt:=λi=>G4 (ls[i]?.getD [])
def Il {w:World}{b:Nat}{r:Bt}(h:∀i,i<5->w.cell? ⟨b,i,none⟩=some (.int .u8 (r i))) :
  w.cell? ⟨b,0,none⟩=some (.int .u8 (r 0))/\w.cell? ⟨b,1,none⟩=some (.int .u8 (r 1))/\w.cell? ⟨b,2,none⟩=some (.int .u8 (r 2))/\w.cell? ⟨b,3,none⟩=some (.int .u8 (r 3))/\w.cell? ⟨b,4,none⟩=some (.int .u8 (r 4)) :=
 ⟨h 0 (by omega),h 1 (by omega),h 2 (by omega),h 3 (by omega),h 4 (by omega)⟩
def E0 (w:World)(b:Nat)(v0 v1 v2 v3 v4:Value):World:=((((w.setCell ⟨b,0,none⟩ v0).setCell ⟨b,1,none⟩ v1).setCell ⟨b,2,none⟩ v2).setCell ⟨b,3,none⟩ v3).setCell ⟨b,4,none⟩ v4
def dQ {w:World}{b:Nat}{r:Bt}(h:∀i,i<5->w.cell? ⟨b,i,none⟩=some (.int .u8 (r i)))(v0 v1 v2 v3 v4:Value) :
  (E0 w b v0 v1 v2 v3 v4).cell? ⟨b,0,none⟩=some v0/\(E0 w b v0 v1 v2 v3 v4).cell? ⟨b,1,none⟩=some v1/\(E0 w b v0 v1 v2 v3 v4).cell? ⟨b,2,none⟩=some v2/\(E0 w b v0 v1 v2 v3 v4).cell? ⟨b,3,none⟩=some v3/\(E0 w b v0 v1 v2 v3 v4).cell? ⟨b,4,none⟩=some v4:=by
 have ne:∀(W:World) (i j:Nat) (v:Value),i≠j->(W.setCell ⟨b,i,none⟩ v).cell? ⟨b,j,none⟩=W.cell? ⟨b,j,none⟩:=λW i j v hij=>xB _ _ _ _ (by simp[Ne.symm hij]);obtain⟨h0,h1,h2,h3,h4⟩:=Il h;unfold E0;refine⟨?_,?_,?_,?_,?_⟩
 .rw[ne _ _ _ _ (by decide),ne _ _ _ _ (by decide),ne _ _ _ _ (by decide),ne _ _ _ _ (by decide)];exact xJ _ _ _ h0
 .rw[ne _ _ _ _ (by decide),ne _ _ _ _ (by decide),ne _ _ _ _ (by decide)];exact xJ _ _ _ (by rw[ne _ _ _ _ (by decide)];exact h1)
 .rw[ne _ _ _ _ (by decide),ne _ _ _ _ (by decide)];exact xJ _ _ _ (by rw[ne _ _ _ _ (by decide),ne _ _ _ _ (by decide)];exact h2)
 .rw[ne _ _ _ _ (by decide)];exact xJ _ _ _ (by rw[ne _ _ _ _ (by decide),ne _ _ _ _ (by decide),ne _ _ _ _ (by decide)];exact h3)
 .exact xJ _ _ _ (by rw[ne _ _ _ _ (by decide),ne _ _ _ _ (by decide),ne _ _ _ _ (by decide),ne _ _ _ _ (by decide)];exact h4)
def jq (w:World)(b:Nat)(v0 v1 v2 v3 v4:Value){k:Nat}(hk:k≠b):(E0 w b v0 v1 v2 v3 v4).heap[k]?=w.heap[k]?:=by
 unfold E0;rw[xE _ _ _ _ (by exact hk),xE _ _ _ _ (by exact hk),xE _ _ _ _ (by exact hk),xE _ _ _ _ (by exact hk),xE _ _ _ _ (by exact hk)]
def fB {w0 w:World}{b:Nat}(h:Gr w0 w)(hb:w0.heap.size<=b)(v0 v1 v2 v3 v4:Value):Gr w0 (E0 w b v0 v1 v2 v3 v4):=((((h.setCell (p:=⟨b,0,none⟩) hb v0).setCell (p:=⟨b,1,none⟩) hb v1).setCell (p:=⟨b,2,none⟩) hb v2).setCell (p:=⟨b,3,none⟩) hb v3).setCell (p:=⟨b,4,none⟩) hb v4
def kw (w:World)(b:Nat)(v0 v1 v2 v3 v4:Value):(E0 w b v0 v1 v2 v3 v4).heap.size=w.heap.size:=by simp[E0,World.setCell]
end Go.Sq
namespace Go.Proofs.YtjcgijifamcggaaGreat
open Go.RowKit Go.Sq
def vI (nA hA:Option Addr)(nc hc:Nat)(c:AW)(ls:List (List Int))(B:Nat)(w:World)(e:Ending)(w':World):Prop :=
 Gr w w' ∧ if Ba c ls = 0 then ∃ cb g cap, e = .returned (.tuple #[.pointer (some ⟨cb, 0, none⟩), Cc (AP ls), .int .i64 0]) ∧ w.heap.size <= cb ∧ cb < g ∧ Dg w' (P4 B cb g) cb c (Bo c.AH.length) nA hA nc hc g cap
   else ∃(p:Value) (r:Bt),e=.returned (.tuple #[p,Cc r,.int .i64 (Ba c ls)])
structure FW (nA hA:Option Addr)(nc hc:Nat)(c:AW)(K:Nat->Prop)(cb g cap:Nat)(w:World)(r:Bt)(wr:World):Prop where
 x5:∀i,i<5->wr.cell? ⟨w.heap.size+1,i,none⟩=some (.int .u8 ((λ_=>0:Bt) i:Nat))
 f5:∀i,i<5->wr.frozen? ⟨w.heap.size+1,i,none⟩=false
 x7:∀i,i<5->wr.cell? ⟨w.heap.size+2,i,none⟩=some (.int .u8 (r i:Nat))
 f7:∀i,i<5->wr.frozen? ⟨w.heap.size+2,i,none⟩=false
 c0:wr.cell? ⟨w.heap.size,0,none⟩=some (.slice nA c.AK.length nc)
 c1:wr.cell? ⟨w.heap.size,1,none⟩=some (.slice hA c.AH.length hc)
 K:Dg wr K cb c (Bo c.AH.length) nA hA nc hc g cap
 gr:Gr w wr
def FW.set {nA hA:Option Addr}{nc hc:Nat}{c:AW}{K:Nat->Prop}{cb g cap:Nat}{w wr:World}{r:Bt}(h:FW nA hA nc hc c K cb g cap w r wr)(hK:¬K (w.heap.size+2)){k x:Nat}(hk:k<5) :
  FW nA hA nc hc c K cb g cap w (upd r k x) (wr.setCell ⟨w.heap.size+2,k,none⟩ (.int .u8 (x:Int))):=by
 have ho:∀b o,b≠w.heap.size+2->(wr.setCell ⟨w.heap.size+2,k,none⟩ (.int .u8 (x:Int))).cell? ⟨b,o,none⟩=wr.cell? ⟨b,o,none⟩:=λb o hb=>xB _ _ _ _ (λe=>hb (congrArg Addr.block e).symm);refine⟨λi hi=>(ho _ _ (by omega)).trans (h.x5 i hi),λi hi=>(yt _ _ _ _).trans (h.f5 i hi),λi hi=>?_,λi hi=>(yt _ _ _ _).trans (h.f7 i hi),(ho _ _ (by omega)).trans h.c0,(ho _ _ (by omega)).trans h.c1,h.K.keep (by simp[World.setCell]) λb o hb=>ho b o λe=>hK (e▸hb),h.gr.setCell (by show _<=w.heap.size+2;omega) _⟩
 unfold upd;by_cases e:i=k
 .subst e;rw[if_pos rfl];exact xJ _ _ _ (h.x7 i hi)
 .rw[if_neg e];exact(xB _ _ _ _ (by simp[e])).trans (h.x7 i hi)
def FW.fin {nA hA:Option Addr}{nc hc:Nat}{c:AW}{K:Nat->Prop}{cb g cap:Nat}{w wr:World}{r:Bt}(h:FW nA hA nc hc c K cb g cap w r wr)(hK:¬K (w.heap.size+1))(v0 v1 v2 v3 v4:Value) :
  Dg (E0 wr (w.heap.size+1) v0 v1 v2 v3 v4) K cb c (Bo c.AH.length) nA hA nc hc g cap/\Gr w (E0 wr (w.heap.size+1) v0 v1 v2 v3 v4) :=
 ⟨h.K.keep (by rw[kw];exact xp _) λb o hb=>xN (jq _ _ _ _ _ _ _ λe=>hK (e▸hb)),fB h.gr (by omega) _ _ _ _ _⟩
def _root_.Go.Sq.Dg.drew {w:World}{K:Nat->Prop}{cb:Nat}{c:AW}{sets:List Nat}{nA hA:Option Addr}{nc hc sb sc:Nat}(h:Dg w K cb c sets nA hA nc hc sb sc):Dg w.drew K cb c sets nA hA nc hc sb sc :=
 h.keep (xp _) λ_ _ _=>rfl
def DR (ls:List (List Int))(k:Nat):Bt:=λi=>if i<k then G4 (ls[i]?.getD []) else 0
def sg (ls:List (List Int))(k:Nat):upd (DR ls k) k (G4 (ls[k]?.getD []))=DR ls (k+1):=by
 funext i;unfold upd DR;by_cases e:i=k
 .subst e;rw[if_pos rfl,if_pos (by omega)]
 .rw[if_neg e];by_cases h:i<k
  .rw[if_pos h,if_pos (by omega)]
  .rw[if_neg h,if_neg (by omega)]
def si (ls:List (List Int)):DR ls ls.length=AP ls:=by
 funext i;unfold DR AP;by_cases h:i<ls.length
 .rw[if_pos h]
 .rw[if_neg h,yO (by omega)];rfl
def jr (ls:List (List Int))(n:Int){i:Nat}(hi:i<ls.length):(ls.map λl=>De l n)[i]?.getD 0=De (ls[i]?.getD []) n:=by simp[hi]
def iQ (nA hA gA:Option Addr)(nc hc gc:Nat)(c:AW)(ls:List (List Int))(w:World)(B:Nat)(hB:B<=w.heap.size)(hn:RI w B nA c.AK)(hh:Dr w B hA c.AH)(hg:CR w B gA ls)
  (IZ:c.AK.length<=4611686018427387904) (hl2:c.AH.length<=4611686018427387904) (C7:∀h∈c.AH,h.off.length<=4611686018427387904) (L8:ls.length<=4611686018427387904) (hl4:∀x∈ls,x.length<=4611686018427387904) :
  Calls AG 17 #[Bp nA hA c nc hc,.slice gA ls.length gc] w (vI nA hA nc hc c ls B w):=by
 have HG:=xl hg;have HL4:=xl hl4;unfold Bp;obtain⟨W0,hW0⟩:∃W0:World,W0=((w.alloc (.cells #[.slice nA c.AK.length nc,.slice hA c.AH.length hc] 27)).alloc (.cells #[.int .u8 0,.int .u8 0,.int .u8 0,.int .u8 0,.int .u8 0] 52)).alloc (.cells #[.int .u8 0,.int .u8 0,.int .u8 0,.int .u8 0,.int .u8 0] 52):=⟨_,rfl⟩;have hg0:Gr w W0:=hW0▸(((Gr.refl w).alloc _).alloc _).alloc _;have hz0:W0.heap.size=w.heap.size+3:=by rw[hW0];simp
 have HW:=xl hW0;have Kz:=xl (jS nA hA nc hc c W0 B (by omega) (hn.gr hB hg0) (hh.keep λb o hb=>hg0.cell (xx hb hB)) IZ hl2 C7);have Ds:=xl hg0;have hcm:W0.cell? ⟨w.heap.size,0,none⟩=some (.slice nA c.AK.length nc)/\W0.cell? ⟨w.heap.size,1,none⟩=some (.slice hA c.AH.length hc):=by
  rw[hW0];constructor
  all_goals rw[xO _ _ _ (by simp;omega),xO _ _ _ (by simp),xu _ _ _ _ rfl];rfl
 have N9:=xl hcm;have LC:∀i,i<5->W0.cell? ⟨w.heap.size+1,i,none⟩=some (.int .u8 ((λ_=>0:Bt) i:Nat))/\W0.cell? ⟨w.heap.size+2,i,none⟩=some (.int .u8 ((λ_=>0:Bt) i:Nat))/\W0.frozen? ⟨w.heap.size+1,i,none⟩=false/\W0.frozen? ⟨w.heap.size+2,i,none⟩=false:=λi hi=>by
  rw[hW0,xO _ _ _ (by simp),yS _ _ _ (by simp),xu _ _ _ _ (by simp),xu _ _ _ _ (by simp),yi _ _ _ _ (by simp),yi _ _ _ _ (by simp)]
  match i,hi with
  |0,_=>exact⟨rfl,rfl,rfl,rfl⟩
  |1,_=>exact⟨rfl,rfl,rfl,rfl⟩
  |2,_=>exact⟨rfl,rfl,rfl,rfl⟩
  |3,_=>exact⟨rfl,rfl,rfl,rfl⟩
  |4,_=>exact⟨rfl,rfl,rfl,rfl⟩
 have HZ5:=xl LC;clear hW0 hg0 hn hh hg hl4 C7 hcm LC;go_enter Sq.func17,Tryz.ntmps17;unfold Bp at Kz;go_wp2_with fail;rw[<-HW.out];refine Kz.out.mono ?_;rintro e w1 ⟨hg1,IP⟩;have Df:=xl hg1;by_cases hE:Bi c=0
 .rw[if_pos hE] at IP;obtain⟨cb,g,cap,rfl,hcb,SK,hK,_⟩:=IP;have HK:=xl hK;have HE:=xl hE;have EZ:=xl (AW.Ok.of hE);have aax:¬P4 B cb g (w.heap.size+2)/\¬P4 B cb g (w.heap.size+1):=by unfold P4;omega
  have HNK:=xl aax;have Su:=EZ.out.n5;have TD:=EZ.out.h4;have hfw:FW nA hA nc hc c (P4 B cb g) cb g cap w (DR ls 0) w1:=by
   have h5:∀i,i<5->w1.cell? ⟨w.heap.size+1,i,none⟩=some (.int .u8 ((λ_=>0:Bt) i:Nat))/\w1.cell? ⟨w.heap.size+2,i,none⟩=some (.int .u8 ((λ_=>0:Bt) i:Nat))/\w1.frozen? ⟨w.heap.size+1,i,none⟩=false/\w1.frozen? ⟨w.heap.size+2,i,none⟩=false:=λi hi=>by
    obtain⟨a,b,c,d⟩:=HZ5.out i hi;exact⟨(Df.out.cell (by show w.heap.size+1<_;omega)).trans a,(Df.out.cell (by show w.heap.size+2<_;omega)).trans b,(Df.out.frozen (by show w.heap.size+1<_;omega)).trans c,(Df.out.frozen (by show w.heap.size+2<_;omega)).trans d⟩
   exact⟨λi hi=>(h5 i hi).1,λi hi=>(h5 i hi).2.2.1,λi hi=>by rw[(h5 i hi).2.1];simp[DR],λi hi=>(h5 i hi).2.2.2,(Df.out.cell (by show w.heap.size<_;omega)).trans N9.out.1,(Df.out.cell (by show w.heap.size<_;omega)).trans N9.out.2,hK,Ds.out.trans hg1⟩
  clear hg1 hK Kz hE aax;have OT:=xl hfw;have hc0:=hfw.c0;have hc1:=hfw.c1;clear hfw;by_cases hM:BV ls.length c.AK.length c.AK.length=0
  .have hlen:c.AK.length=ls.length:=by have:=cG.1 hM;omega
   have HM:=xl hM;have HF:=xl (show Ba c ls=bz (ls.map λl=>De l c.AH.length) by unfold Ba;rw[if_neg (by simp[HE.out]),if_neg (by simp[hM])]);have UR:Calls AG 41 #[.int .i64 ls.length,.int .i64 c.AK.length,.int .i64 c.AK.length] w1 λe w'=>e=.returned (.int .i64 0)/\w1=w':=by rw[<-hM];exact gN _ _ _ _
   have F0:=xl UR;have HLEN:=xl hlen;have hl5:ls.length<=5:=by omega
   clear hM UR hlen;go_wp2_with (go_at_call 41;refine F0.out.mono ?_;rintro e w' ⟨rfl,rfl⟩);go_loopw [38] (λi wr=>∃k:Nat,k<=ls.length/\i=.int .i64 k/\FW nA hA nc hc c (P4 B cb g) cb g cap w (DR ls k) wr/\∀j,j<k->De (ls[j]?.getD []) c.AH.length=0) (λi _=>ls.length-(intOf i).toNat)
   case atStart=>exact⟨0,by omega,rfl,OT.out,λj hj=>absurd hj (by omega)⟩
   case round =>
    obtain⟨k,hk,rfl,hfw,hz⟩:=hrel;have Ob:=xl hfw;have HZ:=xl hz;have hc0:=hfw.c0;have hc1:=hfw.c1;obtain⟨a0,a1,a2,a3,a4⟩:=Il hfw.x5;obtain⟨b0,b1,b2,b3,b4⟩:=Il hfw.x7;have c0:=hfw.f5 0 (by omega);have c1:=hfw.f5 1 (by omega);have c2:=hfw.f5 2 (by omega);have c3:=hfw.f5 3 (by omega);have c4:=hfw.f5 4 (by omega);have TE:=xl (dQ hfw.x5);clear hfw hz;by_cases hlt:k<ls.length
    .obtain⟨b,o,A',c',rfl,hb,JY,Ea⟩:=(HG.out.gr hB Ob.out.gr).at_ hlt;have hx:=HL4.out _ (fO ls k hlt);have HA:=xl (jr ls c.AH.length hlt);have HU:=xl (sg ls k);generalize ls[k]?.getD []=l at JY Ea hx HA HU;have TF:=xl (iD A' c' l c.AH.length wr B Ea hx (by omega) (by omega));have IG:=xl Ea;clear Ea;by_cases hE:De l c.AH.length=0
     .rw[hE] at TF;have DV:=FM hE;have HOF:=xl (afn A' c' l wr B IG.out hx λx hx=>by have:=DV.1 x hx;omega);have Sy:Hid (∀j,j<k+1->De (ls[j]?.getD []) c.AH.length=0):=xl λj hj=>by
       rcases yf j k with h|h
       .exact HZ.out j h
       .have:j=k:=by omega
        subst this;have:=HA.out;rw[hE] at this;rw[<-jr ls _ hlt];exact this
      have HF3:Hid (FW nA hA nc hc c (P4 B cb g) cb g cap w (DR ls (k+1)) (wr.setCell ⟨w.heap.size+2,k,none⟩ (.int .u8 (G4 l:Int)))):=xl (by rw[<-HU.out];exact Ob.out.set HNK.out.1 (by omega));have hfz:=Ob.out.f7 k (by omega);have Ij:=Ob.out.x7 k (by omega);clear DV hE HU HA IG HZ;generalize G4 l=x at HOF HF3;clear Ob a0 a1 a2 a3 a4 b0 b1 b2 b3 b4 c0 c1 c2 c3 c4 TE;go_wp2_with (first|(go_at_call 42;refine TF.out.mono ?_;rintro e w' ⟨rfl,rfl⟩)|(go_at_call 43;refine HOF.out.mono ?_;rintro e w' ⟨rfl,rfl⟩))
      go_roundw
      case rel=>exact⟨k+1,by omega,by go_num,HF3.out,Sy.out⟩
      case measure=>simp[intOf];omega
     .have JD := Lib.hid (show Ba c ls = De l c.AH.length by
       rw[HF.out,cy (k:=k) (by simpa using hlt) (λi hi=>by rw[jr ls _ (by omega)];exact HZ.out i hi) (by rw[HA.out];exact hE),HA.out])
      have WH:=xl hE;clear hE HU HA IG HZ;generalize De l c.AH.length=q at TF JD WH;have hqe:(q != 0)=true:=by simp[WH.out]
      go_wp2_with (go_at_call 42;refine TF.out.mono ?_;rintro e w' ⟨rfl,rfl⟩);have UT:=xl (Ob.out.fin HNK.out.2 (.int .u8 (DR ls k 0:Nat)) (.int .u8 (DR ls k 1:Nat)) (.int .u8 (DR ls k 2:Nat)) (.int .u8 (DR ls k 3:Nat)) (.int .u8 (DR ls k 4:Nat))).2;go_region
      all_goals
       go_wp2;obtain⟨s0,s1,s2,s3,s4⟩:=TE.out (.int .u8 (DR ls k 0:Nat)) (.int .u8 (DR ls k 1:Nat)) (.int .u8 (DR ls k 2:Nat)) (.int .u8 (DR ls k 3:Nat)) (.int .u8 (DR ls k 4:Nat));unfold E0 at s0 s1 s2 s3 s4;refine bodyPost_ret (v:=.tuple #[.pointer none,Cc (DR ls k),.int .i64 q]) (by simp[results,Tryz.results17,go_sem,Cc,s0,s1,s2,s3,s4]) rfl ⟨?_,?_⟩
       .first|exact UT.out|exact UT.out.drew
       .rw[if_neg (JD.out▸WH.out),JD.out];exact⟨_,_,rfl⟩
    .have Ik:k=ls.length:=by omega
     subst Ik;clear hlt;rw[si] at Ob b0 b1 b2 b3 b4;obtain⟨HFK,UT⟩:Hid (Dg (E0 wr (w.heap.size+1) (.int .u8 (AP ls 0:Nat)) (.int .u8 (AP ls 1:Nat)) (.int .u8 (AP ls 2:Nat)) (.int .u8 (AP ls 3:Nat)) (.int .u8 (AP ls 4:Nat))) (P4 B cb g) cb c (Bo c.AH.length) nA hA nc hc g cap)/\Hid (Gr w (E0 wr (w.heap.size+1) (.int .u8 (AP ls 0:Nat)) (.int .u8 (AP ls 1:Nat)) (.int .u8 (AP ls 2:Nat)) (.int .u8 (AP ls 3:Nat)) (.int .u8 (AP ls 4:Nat)))):=⟨xl (Ob.out.fin HNK.out.2 _ _ _ _ _).1,xl (Ob.out.fin HNK.out.2 _ _ _ _ _).2⟩
     have HZZ:=xl (show Ba c ls=0 by
      rw[HF.out];exact fj λi hi=>by
       have hi':i<ls.length:=by simpa using hi
       rw[jr ls _ hi'];exact HZ.out i hi')
     go_wp2;go_region
     all_goals
      go_wp2;obtain⟨s0,s1,s2,s3,s4⟩:=TE.out (.int .u8 (AP ls 0:Nat)) (.int .u8 (AP ls 1:Nat)) (.int .u8 (AP ls 2:Nat)) (.int .u8 (AP ls 3:Nat)) (.int .u8 (AP ls 4:Nat));unfold E0 at s0 s1 s2 s3 s4;refine bodyPost_ret (v:=.tuple #[.pointer (some ⟨cb,0,none⟩),Cc (AP ls),.int .i64 0]) (by simp[results,Tryz.results17,go_sem,Cc,s0,s1,s2,s3,s4]) rfl ⟨?_,?_⟩
      .first|exact UT.out|exact UT.out.drew
      .rw[if_pos HZZ.out];exact⟨cb,g,cap,rfl,by omega,SK,by first|exact HFK.out|exact HFK.out.drew⟩
  .have JD:=xl (show Ba c ls=BV ls.length c.AK.length c.AK.length by unfold Ba;rw[if_neg (by simp[HE.out]),if_pos hM]);have WH:=xl hM;have F0:=xl (gN ls.length c.AK.length c.AK.length w1);clear hM;generalize BV ls.length c.AK.length c.AK.length=q at JD WH F0;have hqe:(q != 0)=true:=by simp[WH.out]
   obtain⟨a0,a1,a2,a3,a4⟩:=Il OT.out.x5;obtain⟨b0,b1,b2,b3,b4⟩:=Il OT.out.x7;have c0:=OT.out.f5 0 (by omega);have c1:=OT.out.f5 1 (by omega);have c2:=OT.out.f5 2 (by omega);have c3:=OT.out.f5 3 (by omega);have c4:=OT.out.f5 4 (by omega);have Oa:=OT.out.c0;have VE:=OT.out.c1;have TE:=xl (dQ OT.out.x5);have UT:=xl (OT.out.fin HNK.out.2 (.int .u8 (DR ls 0 0:Nat)) (.int .u8 (DR ls 0 1:Nat)) (.int .u8 (DR ls 0 2:Nat)) (.int .u8 (DR ls 0 3:Nat)) (.int .u8 (DR ls 0 4:Nat))).2
   go_wp2_with (go_at_call 41;refine F0.out.mono ?_;rintro e w' ⟨rfl,rfl⟩);go_region
   all_goals
    go_wp2;obtain⟨s0,s1,s2,s3,s4⟩:=TE.out (.int .u8 (DR ls 0 0:Nat)) (.int .u8 (DR ls 0 1:Nat)) (.int .u8 (DR ls 0 2:Nat)) (.int .u8 (DR ls 0 3:Nat)) (.int .u8 (DR ls 0 4:Nat));unfold E0 at s0 s1 s2 s3 s4;refine bodyPost_ret (v:=.tuple #[.pointer none,Cc (DR ls 0),.int .i64 q]) (by simp[results,Tryz.results17,go_sem,Cc,s0,s1,s2,s3,s4]) rfl ⟨?_,?_⟩
    .first|exact UT.out|exact UT.out.drew
    .rw[if_neg (JD.out▸WH.out),JD.out];exact⟨_,_,rfl⟩
 .rw[if_neg hE] at IP;subst IP;have HF:=xl (show Ba c ls=Bi c by unfold Ba;rw[if_pos hE]);have h5:∀i,i<5->w1.cell? ⟨w.heap.size+1,i,none⟩=some (.int .u8 ((λ_=>0:Bt) i:Nat))/\w1.cell? ⟨w.heap.size+2,i,none⟩=some (.int .u8 ((λ_=>0:Bt) i:Nat))/\w1.frozen? ⟨w.heap.size+1,i,none⟩=false/\w1.frozen? ⟨w.heap.size+2,i,none⟩=false:=λi hi=>by
   obtain⟨a,b,c,d⟩:=HZ5.out i hi;exact⟨(Df.out.cell (by show w.heap.size+1<_;omega)).trans a,(Df.out.cell (by show w.heap.size+2<_;omega)).trans b,(Df.out.frozen (by show w.heap.size+1<_;omega)).trans c,(Df.out.frozen (by show w.heap.size+2<_;omega)).trans d⟩
  obtain⟨a0,b0,c0,d0⟩:=h5 0 (by omega);obtain⟨a1,b1,c1,d1⟩:=h5 1 (by omega);obtain⟨a2,b2,c2,d2⟩:=h5 2 (by omega);obtain⟨a3,b3,c3,d3⟩:=h5 3 (by omega);obtain⟨a4,b4,c4,d4⟩:=h5 4 (by omega);have TE:=xl (dQ (w:=w1) (b:=w.heap.size+1) (r:=λ_=>0) (λi hi=>(h5 i hi).1) (.int .u8 0) (.int .u8 0) (.int .u8 0) (.int .u8 0) (.int .u8 0));have HE:=xl hE;clear h5 Kz hg1;obtain⟨k,hk⟩:∃k,k=Bi c:=⟨_,rfl⟩;rw[<-hk] at hE ⊢
  have HK:=xl hk;clear hk;go_wp2;go_region
  all_goals
   go_wp2;obtain⟨s0,s1,s2,s3,s4⟩:=TE.out;unfold E0 at s0 s1 s2 s3 s4;refine bodyPost_ret (v:=.tuple #[.pointer none,.agg #[.int .u8 0,.int .u8 0,.int .u8 0,.int .u8 0,.int .u8 0],.int .i64 k]) (by simp[results,Tryz.results17,go_sem,s0,s1,s2,s3,s4]) rfl ⟨?_,?_⟩
   .first|exact(fB (Ds.out.trans Df.out) (by omega) _ _ _ _ _)|exact(fB (Ds.out.trans Df.out) (by omega) _ _ _ _ _).drew|exact(fB (Ds.out.trans Df.out).drew (by omega) _ _ _ _ _)
   .rw[HF.out,HK.out,if_neg HE.out];exact⟨_,λ_=>0,rfl⟩
end Go.Proofs.YtjcgijifamcggaaGreat
namespace Go.Sq
open Go.Proofs.YtjcgijifamcggaaGreat
def iq:Bi (BI [3,2,4])=0:=by decide +kernel
def sj:(Cq (AP [[0,1],[1],[]]) (Bz (GY (BI [3,2,4]) 2 0) (Bo 3) 3 Cv 0)).map (λp=>((List.range 3).map λi=>wl (p.1 i),p.2))=some (B3,3):=by decide +kernel
def kP:Bi (BI [3,2,5])=0:=by decide +kernel
def js:isSome (BI [3,2,5])=false:=by decide +kernel
def oG:C3 (BI [3,2,5]) 8=some [1,2]:=by decide +kernel
end Go.Sq
namespace Go.Proofs.YtjcgijifamcggaaGreat
open Go.RowKit Go.Sq
abbrev A7:AW:=BI [3,2,4]
def DF (i:Nat):Nat:=(Bo 3)[i]?.getD 0
def CB (x:Nat):Bt:=λj=>if j=0 then x else 0
def P8 (i:Nat):Int:=(Bq A7 (CB (DF i)) 0).1
def FN:∀i,i<8->(P8 i=0↔i=1\/i=4):=by decide +kernel
def oH:Bz A7 (Bo 3) 2 (CB (DF 4)) 1=[]:=by
 have:(Bz A7 (Bo 3) 2 (CB (DF 4)) 1).length=0:=by decide +kernel
 exact xT this
def oI:(Bz A7 (Bo 3) 2 (CB (DF 1)) 1).length=1:=by decide +kernel
def iR:∀x∈Bo 3,A7.has x:=λx hx=>fN 3 (by decide) x hx
def fP (i:Nat)(hi:i<8):∀j,A7.has (CB (DF i) j):=by
 intro j;unfold CB;split
 .refine iR _ ?_;have:∀i,i<8->DF i∈Bo 3:=by decide
  exact this i hi
 .show 0<2 ^ 3;decide
open Go.Bl Go.Co Go.Conc
abbrev Hn:=List (Nat×List Value×TypeId)
def hasB (o:Hn)(b:Nat):Bool:=o.any λp=>p.1==b
def E7 {o:Hn}{b:Nat}(h:hasB o b=true):∃p∈o,p.1=b:=by
 obtain⟨p,h1,h2⟩:=List.any_eq_true.1 h;exact⟨p,h1,by simpa using h2⟩
def jt {o:Hn}{p:Nat×List Value×TypeId}(h:p∈o):hasB o p.1=true:=List.any_eq_true.2 ⟨p,h,by simp⟩
def aW {o e:Hn}{b:Nat}:hasB (o++e) b=(hasB o b||hasB e b):=List.any_append ..
def scl:List FuncId:=X5++[92,94,95,134,135,150,151,152]
def KA (f:FuncId):Bool:=scl.contains f
def P9 (f:FuncId):Bool:=KA f&&!(f==92||f==94||f==95||f==150||f==152)
def nl:M8 P9:=by
 refine⟨λf hf=>?_,by decide,by decide⟩;have:X5.all P9=true:=by decide
 exact lB this f hf
def nu:∀f,MG f=true->P9 f=true:=λf hf=>by
 have:sll.all P9=true:=by decide
 exact jQ this f hf
def Fy (W:World)(o:Hn):Prop:=∀p∈o,∃f,W.heap[p.1]?=some (.cells p.2.1.toArray p.2.2 f)
structure CU (w:World)(co ex:Hn)(tb cb sb cap:Nat)(nA hA:Option Addr)(nc F:Nat)(fc:List Value)(oK oE:Obj):Prop where
 obj:∀p∈co++ex,w.heap[p.1]?=some (.cells p.2.1.toArray p.2.2 (0,0))
 GA:w.heap[tb]?=some oK
 TG:EF oK/\EF oE
 nt:hasB (co++ex) tb=false
 vco:∀p∈co,∀v∈p.2.1,∀(SB:FuncId->Bool) (H:Hid),B6 SB H (λb=>hasB co b=true) v
 vex:∀p∈ex,∀v∈p.2.1,∀(SB:FuncId->Bool) (H:Hid),SB 62=true->B6 SB H (λb=>hasB (co++ex) b=true) v
 vfc:∀v∈fc,∀(SB:FuncId->Bool) (H:Hid),B6 SB H (λb=>hasB (co++ex) b=true\/b=tb) v
 sF:Ig F=true/\KA F=true
 cF:∀(x:Array Value) (w:World),(callFunc F x).run AG w=.ok (.enter F x) w
 UI:hasB co cb=true
 Yl:hasB co sb=true
 Dt:∀W:World,Fy W co->Dg W (λb=>hasB co b=true) cb A7 (Bo 3) nA hA nc 3 sb cap
abbrev Oc (co ex:Hn):Nat->Bool:=hasB (co++ex)
abbrev JM (tb:Nat):Nat->Bool:=λb=>b==tb
def WJ (kx tl:Nat->Bool)(w:World)(cb:Nat)(p1:Value)(w':World):Prop:=∀b,Me kx tl w b->w'.heap[b]?=(D7 kx tl w cb p1).heap[b]?
section
variable {w:World} {co ex:Hn} {tb cb sb cap:Nat} {nA hA:Option Addr} {nc F:Nat} {fc:List Value} {oK oE:Obj}
def CU.lt (S:CU w co ex tb cb sb cap nA hA nc F fc oK oE){b:Nat}(h:Oc co ex b=true\/JM tb b=true):b<w.heap.size:=by
 rcases h with h|h
 .obtain⟨p,h1,rfl⟩:=E7 h;exact(xm.1 (S.obj p h1)).1
 .have:b=tb:=by simpa using h
  subst this;exact(xm.1 S.GA).1
def CU.at_ (S:CU w co ex tb cb sb cap nA hA nc F fc oK oE){p1:Value}{w':World}(h:WJ (Oc co ex) (JM tb) w cb p1 w') :
  (∀p∈co++ex,w'.heap[p.1]?=some (.cells p.2.1.toArray p.2.2 (0,p.2.1.toArray.size)))/\w'.heap[tb]?=some (.coro none)/\w'.heap[w.heap.size]?=some (.coro none) /\
   w'.heap[w.heap.size+1]?=some (.cells #[.pointer (some ⟨cb,0,none⟩)] 49 (0,1))/\w'.heap[w.heap.size+2]?=some (.cells #[p1] 119 (0,1)):=by
 refine⟨λp hp=>?_,?_,?_,?_,?_⟩
 .have hk:Oc co ex p.1=true:=jt hp;have hl:=S.lt (.inl hk);have ht:JM tb p.1=false:=by
   cases hc:JM tb p.1 with
   |false=>rfl
   |true =>
    have:p.1=tb:=by simpa using hc
    have h2:=S.nt;rw[<-this] at h2;rw[show hasB (co++ex) p.1=true from hk] at h2;cases h2
  rw[h _ (.inl hk),bf,if_neg (by omega),if_neg (by omega),if_neg (by omega),fy (S.obj p hp) hk ht]
 .have hl:=S.lt (b:=tb) (.inr (by simp));rw[h _ (.inr (.inl (by simp))),bf,if_neg (by omega),if_neg (by omega),if_neg (by omega),jO hl (by simp)]
 .rw[h _ (.inr (.inr (.inl rfl))),bf,if_neg (by omega),if_neg (by omega),if_pos rfl]
 .rw[h _ (.inr (.inr (.inr (.inl rfl)))),bf,if_neg (by omega),if_pos rfl]
 .rw[h _ (.inr (.inr (.inr (.inr rfl)))),bf,if_pos rfl]
def cell_of {W:World}{b:Nat}{l:Array Value}{t:TypeId}{f:Nat×Nat}(h:W.heap[b]?=some (.cells l t f))(i:Nat):W.cell? ⟨b,i,none⟩=l[i]?:=by
 unfold World.cell?;simp only[h]
 rfl
def CU.sees (S:CU w co ex tb cb sb cap nA hA nc F fc oK oE){p1:Value}{w':World}(h:WJ (Oc co ex) (JM tb) w cb p1 w'):Fy w' (co++ex):=λp hp=>⟨_,(S.at_ h).1 p hp⟩
def Fy.left {W:World}{o e:Hn}(h:Fy W (o++e)):Fy W o:=λp hp=>h p (List.mem_append_left _ hp)
def wJ:∀i:Nat,i<8->IntKind.i64.wrap ((i:Int)+1)=((i+1:Nat):Int):=by decide
def wK (i:Nat)(hi:i<8):(Bo 3)[i]?=some (DF i):=by
 have:∀i,i<8->(Bo 3)[i]?=some (DF i):=by decide
 exact this i hi
def jU (x:Nat)(j:Nat)(hj:j<5):(#[.int .u8 (x:Int),.int .u8 0,.int .u8 0,.int .u8 0,.int .u8 0]:Array Value)[j]?=some (.int .u8 (CB x j:Nat)):=by
 match j,hj with
 |0,_=>rfl
 |1,_=>rfl
 |2,_=>rfl
 |3,_=>rfl
 |4,_=>rfl
def CU.Jl (S:CU w co ex tb cb sb cap nA hA nc F fc oK oE){p1:Value}{w':World}(h:WJ (Oc co ex) (JM tb) w cb p1 w')(i:Nat)(hi:i<8)(τ:Tape)(d:Nat) :
  Calls AG 53 #[.pointer (some ⟨cb,0,none⟩),.pointer (some ⟨w'.heap.size,0,none⟩),.int .i64 0] (on (w'.alloc (first (DF i))) τ d) (λe w2=>∃v,e=.returned v/\((∃y1 y2,v=.agg #[.int .i64 (P8 i),.int .i64 y1,.int .i64 y2])/\Ext (w'.alloc (first (DF i))) w2)):=by
 have hold:∀b,b<w'.heap.size->(on (w'.alloc (first (DF i))) τ d).heap[b]?=w'.heap[b]?:=λb hb=>heap_alloc_old w' _ hb;have hs:Fy (on (w'.alloc (first (DF i))) τ d) co:=λp hp=>by
  obtain⟨f,hf⟩:=(S.sees h).left p hp;exact⟨f,(hold _ (xm.1 hf).1).trans hf⟩
 have hr:Ec (on (w'.alloc (first (DF i))) τ d) (on (w'.alloc (first (DF i))) τ d).heap.size w'.heap.size (CB (DF i)):=by
  refine⟨by show _<(w'.alloc _).heap.size;rw[aE];omega,λj hj=>?_⟩;exact(cell_of (W:=w'.alloc (first (DF i))) (l:=#[.int .u8 (DF i:Int),.int .u8 0,.int .u8 0,.int .u8 0,.int .u8 0]) (t:=52) (f:=(0,0)) (fM w' (DF i)) j).trans (jU _ j hj)
 refine(jG cb w'.heap.size 0 A7 (CB (DF i)) _ (S.Dt _ hs).MW hr (AW.Ok.of iq) (by decide) (fP i hi)).mono ?_;rintro e w2 ⟨rfl,hg⟩;exact⟨_,rfl,⟨_,_,rfl⟩,hg.size,λb hb=>hg.below.block b hb,hg.below.os⟩
def jV {o:Obj}(h:EF o){S:CF}{Ck:Code->Prop}{β:Bc}:BS S Ck β o o:=by
 obtain⟨l,t,f,rfl,hl⟩:=h;refine .cells ⟨rfl,λi v V h1 h2=>?_⟩ λi h1 h2=>⟨h1,h2⟩;rw[h1] at h2;cases h2;cases hl v (yM (by simpa using h1)) with
 |bool b=>exact .bool b
 |int k n=>exact .int k n
def Qb (co ex:Hn)(tb n r:Nat)(b:Nat):Prop:=hasB (co++ex) b=true\/b=tb\/b=n\/b=n+1\/b=n+2\/b=r
def lO (S:CU w co ex tb cb sb cap nA hA nc F fc oK oE){p1:Value}{w' W:World}(h:WJ (Oc co ex) (JM tb) w cb p1 w')(FV:∀(H:Hid),B6 Ig H (λb=>hasB (co++ex) b=true\/b=tb) p1){x:Nat}{r:Nat}(hr:w'.heap[r]?=some (.cells #[.int .u8 (x:Int),.int .u8 0,.int .u8 0,.int .u8 0,.int .u8 0] 52 (0,5)))
  (hW:∀b,b≠tb->W.heap[b]?=w'.heap[b]?) {H:Hid} (hH:∀b,H b=false->b≠w.heap.size/\(b=tb->W.heap[tb]?=some oK)) :
  ∀b,Qb co ex tb w.heap.size r b->H b=false->∃o,W.heap[b]?=some o/\BS (SP Ig H) (CK AG Ig false) (BK (Qb co ex tb w.heap.size r)) o o:=by
 obtain⟨a1,a2,a3,a4,a5⟩:=S.at_ h;have nt:∀b,hasB (co++ex) b=true->b≠tb:=λb hb e=>by
  have:=S.nt;rw[<-e,hb] at this;cases this
 have Kt:tb<w.heap.size:=S.lt (.inr (by simp));intro b hb hHb;obtain⟨h1,h2⟩:=hH b hHb;by_cases Yt:b=tb
 .subst Yt;exact⟨oK,h2 rfl,jV S.TG.1⟩
 rcases hb with hb|hb|hb|hb|hb|hb
 .obtain⟨p,hp,rfl⟩:=E7 hb;refine⟨_,(hW _ Yt).trans (a1 p hp),.cells (B9 λv hv=>?_) λi z1 z2=>⟨z1,z2⟩⟩;rcases yD.1 hp with hp|hp
  .exact(S.vco p hp v hv Ig H).mono λc hc=>.inl (by rw[aW];simp[hc])
  .exact(S.vex p hp v hv Ig H (by decide)).mono λc hc=>.inl hc
 .exact absurd hb Yt
 .exact absurd hb h1
 .subst hb;refine⟨_,(hW _ Yt).trans a4,.cells (B9 (l:=[.pointer (some ⟨cb,0,none⟩)]) λv hv=>?_) λi z1 z2=>⟨z1,z2⟩⟩;simp only[xC,xz,or_false] at hv;subst hv;exact B6.ptr (.inl (by rw[aW];simp[S.UI])) _ _
 .subst hb;refine⟨_,(hW _ Yt).trans a5,.cells (B9 (l:=[p1]) λv hv=>?_) λi z1 z2=>⟨z1,z2⟩⟩;simp only[xC,xz,or_false] at hv;subst hv;exact(FV H).mono λc hc=>hc.elim .inl λh=>.inr (.inl h)
 .subst hb;refine⟨_,(hW _ Yt).trans hr,.cells (B9 (l:=[.int .u8 (x:Int),.int .u8 0,.int .u8 0,.int .u8 0,.int .u8 0]) λv hv=>?_) λi z1 z2=>⟨z1,z2⟩⟩;simp only[xC,xz,or_false] at hv;rcases hv with rfl|rfl|rfl|rfl|rfl<;>exact AO.int _ _
def te (S:CU w co ex tb cb sb cap nA hA nc F fc oK oE)(H:Hid):B6 Ig H (λb=>hasB (co++ex) b=true\/b=tb) (.func (.func F) #[] fc.toArray):=B6.func S.sF.1 λv hv=>S.vfc v hv Ig H
def qh (S:CU w co ex tb cb sb cap nA hA nc F fc oK oE){w':World}(h:WJ (Oc co ex) (JM tb) w cb (.func (.func F) #[] fc.toArray) w'){i:Nat}(hi:i<8)(hnone:Bz A7 (Bo 3) 2 (CB (DF i)) 1=[]){r:Nat}(Kr:¬Me (Oc co ex) (JM tb) w r)
  (hr:w'.heap[r]?=some (.cells #[.int .u8 (DF i:Int),.int .u8 0,.int .u8 0,.int .u8 0,.int .u8 0] 52 (0,5))) :
  BN Tryz.prog P9 (GX Tryz.prog w.heap.size λ_=>True) 0 (Go.Conc.G (Frame.enter Tryz.prog 93 (bF (w.heap.size+1) (w.heap.size+2) w.heap.size r) .deferred) [bad]) w':=by
 obtain⟨a1,a2,a3,a4,a5⟩:=S.at_ h;have l2:w.heap.size+2<w'.heap.size:=(xm.1 a5).1;have ltb:tb<w.heap.size:=S.lt (.inr (by simp));have hid:∀b,(⟨λb=>b==w.heap.size||b==tb,true,false⟩:Hid) b=true->b=w.heap.size\/b=tb:=λb hb=>by simpa using hb
 refine lI (H:=⟨λb=>b==w.heap.size||b==tb,true,false⟩) (T0:=λ_=>False) nl (hn:=rfl) (K0:=Qb co ex tb w.heap.size r) ⟨.inr (.inr (.inr (.inl rfl))),.inr (.inr (.inr (.inr (.inl rfl)))),.inr (.inr (.inl rfl)),.inr (.inr (.inr (.inr (.inr rfl))))⟩
  (λb _ hb=>⟨rfl,by rcases hid b hb with rfl|rfl;exact a3;exact a2⟩) (λb hb=>by rcases hid b hb with rfl|rfl<;>omega)
  (lO S h (te S) hr (λ_ _=>rfl) λb hb=>?_) (λτ d=>?_) (λ_ _ _ _=>trivial)
 .have hb':(b==w.heap.size||b==tb)=false:=hb;simp only[ze,beq_eq_false_iff_ne] at hb';exact⟨hb'.1,λe=>absurd e hb'.2⟩
 .have := mX (T0 := fun _ => False) (K := fun b => hasB co b = true) (cb := cb) (c := A7) (sets := Bo 3) (b2 := w.heap.size + 1) (b3 := w.heap.size + 2) (b4 := w.heap.size) (rb := r) (F := F) (k := 2) (fc := fc.toArray) (r := CB (DF i)) (w := on w' τ d)
   (AW.Ok.of iq) iR (by decide) (S.Dt (on w' τ d) (S.sees h).left) (λ_ hb=>hb.elim) (λ_ _ hb=>hb) (fP i hi) (λj hj=>by unfold CB;rw[if_neg (by omega)]) rfl
   (cell_of (W:=on w' τ d) a4 0) (λj hj=>(cell_of (W:=on w' τ d) hr j).trans (jU _ j hj)) (cell_of (W:=on w' τ d) a5 0) ⟨l2,λhb=>hb⟩
   (λpre _=>pre=[]) (λ_ _ _ hp _=>hp) rfl S.cF (λpre ρ W Dx _ _=>by
    rw[hnone] at Dx;have:=Dx.length_le
    simp at this)
  refine Go.wp_mono this ?_;rintro e a' w2 ⟨he,h1,_,D,h2,h3,h4⟩;exact⟨he,h1,trivial,D,h2,h3,h4⟩
def qi (S:CU w co ex tb cb sb cap nA hA nc F fc oK oE){w':World}(h:WJ (Oc co ex) (JM tb) w cb (.func (.func F) #[] fc.toArray) w'){i:Nat}(hi:i<8){KB:Bt}(GF:Bz A7 (Bo 3) 2 (CB (DF i)) 1=[KB]){r:Nat}(Kr:¬Me (Oc co ex) (JM tb) w r)
  (hr:w'.heap[r]?=some (.cells #[.int .u8 (DF i:Int),.int .u8 0,.int .u8 0,.int .u8 0,.int .u8 0] 52 (0,5)))
  (XZ:∀W:World,W.heap[tb]?=some oK->Fy W ex->Calls AG F (#[Cc KB]++fc.toArray) W λe W'=>e=.returned (.tuple #[])/\KT (λb=>b=tb) W W'/\W'.heap[tb]?=some oE) :
  BN Tryz.prog P9 (GX Tryz.prog w.heap.size λw2=>∀b,JM tb b=true->w2.heap[b]?=some oE) 0 (Go.Conc.G (Frame.enter Tryz.prog 93 (bF (w.heap.size+1) (w.heap.size+2) w.heap.size r) .deferred) [bad]) (EN (JM tb) (λ_=>oK) w'):=by
 obtain⟨a1,a2,a3,a4,a5⟩:=S.at_ h;have l2:w.heap.size+2<w'.heap.size:=(xm.1 a5).1;have ltb:tb<w.heap.size:=S.lt (.inr (by simp));obtain⟨W0,hW0⟩:∃W0,W0=EN (JM tb) (λ_=>oK) w':=⟨_,rfl⟩;have g0:∀b,b<w'.heap.size->W0.heap[b]?=if JM tb b then some oK else w'.heap[b]?:=λb hb=>by rw[hW0];exact bH _ _ _ _ hb
 have Yu:∀b,b≠tb->W0.heap[b]?=w'.heap[b]?:=λb hb=>by
  by_cases hl:b<w'.heap.size
  .rw[g0 b hl,if_neg (by simpa using hb)]
  .rw[yZ (show W0.heap.size<=b by rw[hW0,bG];omega),yZ (by omega)]
 have gtb:W0.heap[tb]?=some oK:=by rw[g0 tb (by omega),if_pos (by simp)]
 have gsz:W0.heap.size=w'.heap.size:=by rw[hW0,bG]
 rw[<-hW0];have nt:∀b,hasB (co++ex) b=true->b≠tb:=λb hb e=>by
  have:=S.nt;rw[<-e,hb] at this;cases this
 have rne:r≠tb:=λe=>Kr (.inr (.inl (by simp[e])));have UU:Fy W0 (co++ex):=λp hp=>⟨_,(Yu _ (nt _ (jt hp))).trans (a1 p hp)⟩;have aaB:∀b,Qb co ex tb w.heap.size r b->(⟨λb=>b==w.heap.size,true,false⟩:Hid) b=true->(⟨λb=>b==w.heap.size,true,false⟩:Hid).BX=true/\W0.heap[b]?=some (.coro none):=λb _ hb=>by
  have e:b=w.heap.size:=by simpa using hb
  refine⟨rfl,?_⟩;rw[e,Yu _ (by omega)];exact a3
 have GU:∀b,(⟨λb=>b==w.heap.size,true,false⟩:Hid) b=true->b<W0.heap.size:=λb hb=>by
  have e:b=w.heap.size:=by simpa using hb
  omega
 refine lI (H:=⟨λb=>b==w.heap.size,true,false⟩) (T0:=λb=>b=tb) nl (hn:=rfl) (K0:=Qb co ex tb w.heap.size r) ⟨.inr (.inr (.inr (.inl rfl))),.inr (.inr (.inr (.inr (.inl rfl)))),.inr (.inr (.inl rfl)),.inr (.inr (.inr (.inr (.inr rfl))))⟩
  aaB GU
  (lO S h (te S) hr Yu λb hb=>⟨by simpa using hb,λ_=>gtb⟩) (λτ d=>?_) (λW W' hW hk b hb=>?_)
 .have := mX (T0 := fun b => b = tb) (K := fun b => hasB co b = true) (cb := cb) (c := A7) (sets := Bo 3) (b2 := w.heap.size + 1) (b3 := w.heap.size + 2) (b4 := w.heap.size) (rb := r) (F := F) (k := 2) (fc := fc.toArray) (r := CB (DF i)) (w := on W0 τ d)
   (AW.Ok.of iq) iR (by decide) (S.Dt (on W0 τ d) UU.left) (λb hb=>by show b<W0.heap.size;omega) (λb hb=>nt b (by rw[aW];simp[hb])) (fP i hi) (λj hj=>by unfold CB;rw[if_neg (by omega)]) rfl
   (cell_of (W:=on W0 τ d) ((Yu _ (by omega)).trans a4) 0) (λj hj=>(cell_of (W:=on W0 τ d) ((Yu _ rne).trans hr) j).trans (jU _ j hj)) (cell_of (W:=on W0 τ d) ((Yu _ (by omega)).trans a5) 0) ⟨by show _<W0.heap.size;omega,by omega⟩
   (λpre W=>W.heap[tb]?=some (if pre=[] then oK else oE)) (λpre W W' hp hk=>(hk tb rfl).trans hp) gtb S.cF (λpre ρ W Dx CZ hI=>by
    rw[GF] at Dx;have hl:=Dx.length_le;have hp:pre=[]:=by cases pre with
     |nil=>rfl
     |cons a l=>simp at hl
    subst hp;have Dp:ρ=KB:=by
     obtain⟨t,ht⟩:=Dx;simp at ht;exact ht.1
    subst Dp;have hex:Fy W ex:=λp hp=>by
     obtain⟨f,hf⟩:=UU p (List.mem_append_right _ hp);have hl2:=(xm.1 hf).1
     exact⟨f,(CZ.block p.1 hl2 (by
      rintro(e|e)
      .exact nt _ (jt (List.mem_append_right co hp)) e
      .have e':W0.heap.size<=p.1:=e
       omega)).trans hf⟩
    refine(XZ W hI hex).mono ?_;rintro e W' ⟨h1,h2,h3⟩
    exact⟨h1,h2,h3⟩)
  refine Go.wp_mono this ?_;rintro e a' w2 ⟨he,h1,hI,D,h2,h3,h4⟩;rw[GF] at hI
  exact⟨he,h1,λb hb=>by
   have e:b=tb:=by simpa using hb
   rw[e];exact hI,D,h2,h3,h4⟩
 .have e:b=tb:=by simpa using hb
  rw[e,hk tb rfl];exact hW tb (by simp)
end
def ud {p:Nat->Bool}(h:scl.all p=true):∀f,KA f=true->p f=true:=λf hf=>(yu.1 h) f (by simpa [KA] using hf)
def TH (f:FuncId):Bool:=f==96||f==97||f==149||f==151
def FO (f:FuncId):Bool:=f==92||f==94||f==95||f==150||f==152
def vJ:scl.all (λf=>Hh Tryz.prog KA true f||TH f||FO f)=true:=by kernel_rfl
def tf {f:FuncId}(h:TH f=true):La PP f:=by
 unfold TH at h;simp only[xV,beq_iff_eq] at h;rcases h with((rfl|rfl)|rfl)|rfl
 .exact⟨Tryz.f96,_,Tryz.func96,Tryz.func96,by kernel_rfl,by kernel_rfl,by kernel_rfl,by kernel_rfl,.add .i64,by kernel_rfl⟩
 .exact⟨Tryz.f97,_,Tryz.func97,Tryz.func97,by kernel_rfl,by kernel_rfl,by kernel_rfl,by kernel_rfl,.load .i64,by kernel_rfl⟩
 .exact⟨Tryz.f149,_,Tryz.func149,Tryz.func149,by kernel_rfl,by kernel_rfl,by kernel_rfl,by kernel_rfl,.cas .i32 (by decide),by kernel_rfl⟩
 .exact⟨Tryz.f151,_,Tryz.func151,Tryz.func151,by kernel_rfl,by kernel_rfl,by kernel_rfl,by kernel_rfl,.add .i32,by kernel_rfl⟩
def wL {P:Bw}(f:FuncId)(hf:aI KA f=true):FY P f:=by
 unfold aI at hf;have h:KA 94=true:=by decide
 rw[h,Bool.not_true,yV,yV] at hf;cases hf
def UW (H:Hid):Lib PP KA H true P9 0:=by
 refine im (λf hf=>?_) (λf hf hb=>?_) (λf hf=>?_) wL ⟨yP Tryz.globals_size,Tryz.Kn⟩
 .simp only[P9,xG,yG] at hf;have:=ud vJ f hf.1;have Fq:FO f=false:=hf.2;simp only[Fq,zF,xV] at this;rcases this with h|h
  .exact .inl ⟨h,rfl⟩
  .exact .inr (tf h)
 .simp only[P9,hf,zG,zc,xV,beq_iff_eq] at hb;rcases hb with(((rfl|rfl)|rfl)|rfl)|rfl
  .exact⟨_,_,Tryz.func92,Tryz.func92,rfl,by decide,by decide,rfl,rfl⟩
  .exact⟨_,_,Tryz.func94,Tryz.func94,rfl,by decide,by decide,rfl,rfl⟩
  .exact⟨_,_,Tryz.func95,Tryz.func95,rfl,by decide,by decide,rfl,rfl⟩
  .exact⟨_,_,Tryz.func150,Tryz.func150,rfl,by decide,by decide,rfl,rfl⟩
  .exact⟨_,_,Tryz.func152,Tryz.func152,rfl,by decide,by decide,rfl,rfl⟩
 .simp only[P9,xG] at hf;exact hf.1
section
variable {w:World} {co ex:Hn} {tb cb sb cap:Nat} {nA hA:Option Addr} {nc F:Nat} {fc:List Value} {oK oE:Obj}
def wM:codeOk Tryz.prog KA true true (.region 9 o9 false)=true:=by kernel_rfl
def vK:codeOk Tryz.prog KA true true (.region 10 II false)=true:=by kernel_rfl
def wN:codeOk Tryz.prog KA true true eL=true:=by kernel_rfl
def wO:o8.all (bX Tryz.prog KA true true)=true:=by kernel_rfl
def Nn (S:CU w co ex tb cb sb cap nA hA nc F fc oK oE){KB:Bt}(GF:Bz A7 (Bo 3) 2 (CB (DF 1)) 1=[KB])
  (XZ:∀W:World,W.heap[tb]?=some oK->Fy W ex->Calls AG F (#[Cc KB]++fc.toArray) W λe W'=>e=.returned (.tuple #[])/\KT (λb=>b=tb) W W'/\W'.heap[tb]?=some oE) :
  Gd KA MG P9 w (Oc co ex) (JM tb) (λb=>hasB co b=true) (WJ (Oc co ex) (JM tb) w cb (.func (.func F) #[] fc.toArray)) cb sb 8 cap (.func F) #[] fc.toArray (λi=>(DF i:Int)) P8 (λi=>decide (i<=1)) (λ_=>oK) (λ_=>oE) where
 hB:=by decide
 Md:=by decide
 Yi:=by decide
 Yj:=by decide
 L0:=vE nu
 b0:=nu
 Yk:=by decide
 todo:=λH K=>.cons (.inRegion wO) (.cons (.inBlock 1) (.cons (.code wM) (.cons (.inLoop wN) (.cons (.inBlock 0) (.cons (.code vK) .nil)))))
 only:=λw1 w2 h _ DV b hb=>(h b hb).trans (DV b hb)
 ok:=λb hb=>rfl
 NY:=λw' h=>cell_of (S.at_ h).2.2.2.1 0
 hold:=λw' h=>⟨(S.Dt w' (S.sees h).left).c2,_,(S.Dt w' (S.sees h).left).c0⟩
 Jk:=λw' i h hi=>(S.Dt w' (S.sees h).left).sets i _ (wK i hi)
 Dt:=λw' b h hb=>by
  obtain⟨p,hp,rfl⟩:=E7 hb;refine⟨by show hasB (co++ex) p.1=true;rw[aW];simp[hb],_,(S.at_ h).1 p (List.mem_append_left _ hp),.cells (B9 λv hv=>S.vco p hp v hv MG zV) λi z1 z2=>⟨z1,z2⟩⟩
 cK:=S.UI
 ks:=⟨by show hasB (co++ex) cb=true;rw[aW];simp[S.UI],by show hasB (co++ex) sb=true;rw[aW];simp[S.Yl]⟩
 Ym:=λb hb=>by
  have ht:JM tb b=false:=by
   cases hc:JM tb b with
   |false=>rfl
   |true =>
    have e:b=tb:=by simpa using hc
    have h2:=S.nt;rw[<-e] at h2;rw[show hasB (co++ex) b=true from hb] at h2;cases h2
  obtain⟨p,hp,rfl⟩:=E7 hb;refine⟨ht,p.2.1,p.2.2,(0,0),S.obj p hp,λi h1 h2=>absurd h2 (zg _),λv hv H=>?_⟩;rcases yD.1 hp with hp|hp
  .exact(S.vco p hp v hv KA H).mono λc hc=>.inl (by show hasB (co++ex) c=true;rw[aW];simp[hc])
  .exact(S.vex p hp v hv KA H (by decide)).mono λc hc=>.inl hc
 ZZ:=λb hb=>by
  have e:b=tb:=by simpa using hb
  subst e;exact⟨S.GA,S.TG⟩
 FV:=λH=>B6.func S.sF.2 λv hv=>(S.vfc v hv KA H).mono λc hc=>hc.elim .inl λh=>.inr (by simp[h])
 wrap:=wJ
 Jl:=λw' i h hi τ d=>S.Jl h i hi τ d
 tp0:=rfl
 ZW:=λi hi hk=>by
  have h1:i≠1:=λe=>hk ((FN i hi).2 (.inl e));show decide (i+1<=1)=decide (i<=1);by_cases h0:i=0
  .subst h0;rfl
  .rw[decide_eq_false (by omega),decide_eq_false (by omega)]
 which:=λi hi hk=>by
  rcases(FN i hi).1 hk with rfl|rfl
  .exact .inr ⟨rfl,rfl⟩
  .exact .inl rfl
 plain:=λi r w' hi hk ht h Kr hr=>by
  rcases(FN i hi).1 hk with rfl|rfl
  .cases ht
  .exact qh S h hi oH Kr hr
 owner:=λi r w' hi hk ht ht1 h Kr hr=>by
  rcases(FN i hi).1 hk with rfl|rfl
  .exact qi S h hi GF Kr hr XZ
  .cases ht
end
abbrev Lw:Go.Conc.Lib.WgLink:={ add:=92,done:=94,wait:=95,relMerge:=116,disable:=117,enable:=118,inBubble:=119,associate:=120,fatal:=121,uOr:=122,uAdd:=123,raceRead:=124,uLoad:=125,uStore:=126,disassociate:=127,semrelease:=128,acquire:=129,isAssociated:=130,uCas:=131,raceWrite:=132,semacquire:=133,orU64:=144,addU64:=145,loadU64:=146,storeU64:=147,casU64:=148,tWgP:=181,tUP:=183,tAssoc:=184,tWg:=159,tAU:=157,tU64:=43,tUint:=91,tU32:=126,tPU32:=188,tPAU:=208,tPU64:=210,tNoCopy:=125,tANoCopy:=113,tAlign64:=114 }
def UX:Go.Conc.Lib.WgLib Tryz.prog Lw :=
 ⟨Tryz.func92,Tryz.func94,Tryz.func95,Tryz.func116,Tryz.func117,Tryz.func118,Tryz.func119,Tryz.func120,Tryz.func121,Tryz.func122,Tryz.func123,Tryz.func124,Tryz.func125,Tryz.func126,Tryz.func127,Tryz.func128,Tryz.func129,Tryz.func130,Tryz.func131,Tryz.func132,Tryz.func133,Tryz.func144,Tryz.func145,Tryz.func146,Tryz.func147,Tryz.func148,Tryz.underlying181,Tryz.runUnderlying181,Tryz.sizeOf181,Tryz.isAgg181,Tryz.zeroValue181,Tryz.underlying183,Tryz.runUnderlying183,Tryz.sizeOf183,Tryz.isAgg183,Tryz.zeroValue183,Tryz.underlying184,Tryz.runUnderlying184,Tryz.sizeOf184,Tryz.isAgg184,Tryz.zeroValue184,Tryz.underlying159,Tryz.runUnderlying159,Tryz.sizeOf159,Tryz.isAgg159,Tryz.zeroValue159,Tryz.underlying157,Tryz.runUnderlying157,Tryz.sizeOf157,Tryz.isAgg157,Tryz.zeroValue157,Tryz.underlying43,Tryz.runUnderlying43,Tryz.sizeOf43,Tryz.isAgg43,Tryz.zeroValue43,Tryz.underlying91,Tryz.runUnderlying91,Tryz.sizeOf91,Tryz.isAgg91,Tryz.zeroValue91,Tryz.underlying126,Tryz.runUnderlying126,Tryz.sizeOf126,Tryz.isAgg126,Tryz.zeroValue126,Tryz.underlying188,Tryz.runUnderlying188,Tryz.sizeOf188,Tryz.isAgg188,Tryz.zeroValue188,Tryz.underlying208,Tryz.runUnderlying208,Tryz.sizeOf208,Tryz.isAgg208,Tryz.zeroValue208,Tryz.underlying210,Tryz.runUnderlying210,Tryz.sizeOf210,Tryz.isAgg210,Tryz.zeroValue210,Tryz.underlying0,Tryz.runUnderlying0,Tryz.sizeOf0,Tryz.isAgg0,Tryz.zeroValue0,Tryz.underlying3,Tryz.runUnderlying3,Tryz.sizeOf3,Tryz.isAgg3,Tryz.zeroValue3,Tryz.underlying4,Tryz.runUnderlying4,Tryz.sizeOf4,Tryz.isAgg4,Tryz.zeroValue4,Tryz.underlying9,Tryz.runUnderlying9,Tryz.sizeOf9,Tryz.isAgg9,Tryz.zeroValue9,Tryz.underlying20,Tryz.runUnderlying20,Tryz.sizeOf20,Tryz.isAgg20,Tryz.zeroValue20,Tryz.underlying21,Tryz.runUnderlying21,Tryz.sizeOf21,Tryz.isAgg21,Tryz.zeroValue21,(by kernel_rfl),(by kernel_rfl)⟩
def Np:Go.Co.Barred PP KA true Lw.add (Go.Conc.Lib.addFn Lw):=⟨_,Tryz.func92,Tryz.func92,rfl,by kernel_rfl⟩
def LD:Go.Co.Barred PP KA true Lw.wait (Go.Conc.Lib.waitFn Lw):=⟨_,Tryz.func95,Tryz.func95,rfl,by kernel_rfl⟩
def LF:Go.Co.Barred PP KA true Lw.done (Go.Conc.Lib.doneFn Lw):=⟨_,Tryz.func94,Tryz.func94,rfl,by kernel_rfl⟩
def E8 (bo:Nat):List Value:=[.int .i64 12,.int .i64 3,.int .i64 2,.slice none 0 0,.int .i64 6,.int .i64 2,.int .i64 2,.slice (some ⟨bo,0,none⟩) 1 1,.int .i64 6,.int .i64 1,.int .i64 1,.slice none 0 0]
def LG (bn bh sb cap:Nat):List Value:=[.slice (some ⟨bn,0,none⟩) 3 3,.slice (some ⟨bh,0,none⟩) 3 3,.slice (some ⟨sb,0,none⟩) 8 cap]
def EB:List Value:=[.int .i64 3,.int .i64 2,.int .i64 4]
def BA (bn bo bh cb sb cap:Nat)(cur:List Value)(t:TypeId):Hn:=[(bn,EB,3),(bo,[.int .i64 0],3),(bh,E8 bo,58),(cb,LG bn bh sb cap,101),(sb,cur,t)]
section
variable {bn bo bh cb sb cap:Nat} {cur:List Value} {t:TypeId}
def BW (b:Nat):hasB (BA bn bo bh cb sb cap cur t) b=true↔b=bn\/b=bo\/b=bh\/b=cb\/b=sb:=by
 simp only[hasB,BA,List.any_cons,List.any_nil,zF,xV,beq_iff_eq];constructor
 .rintro(h|h|h|h|h)<;>simp[h]
 .rintro(h|h|h|h|h)<;>simp[h]
def nv {W:World}(h:Fy W (BA bn bo bh cb sb cap cur t))(afD:∀(i x:Nat),(Bo 3)[i]?=some x->cur[i]?=some (Value.int .u8 (x:Int))) :
  Dg W (λb=>hasB (BA bn bo bh cb sb cap cur t) b=true) cb A7 (Bo 3) (some ⟨bn,0,none⟩) (some ⟨bh,0,none⟩) 3 3 sb cap:=by
 obtain⟨f1,h1⟩:=h (bn,EB,3) (by simp[BA]);obtain⟨f2,h2⟩:=h (bo,[.int .i64 0],3) (by simp[BA]);obtain⟨f3,h3⟩:=h (bh,E8 bo,58) (by simp[BA]);obtain⟨f4,h4⟩:=h (cb,LG bn bh sb cap,101) (by simp[BA]);obtain⟨f5,h5⟩:=h (sb,cur,t) (by simp[BA]);have hb:∀i:Nat,W.cell? ⟨bh,i,none⟩=(E8 bo)[i]?:=λi=>(cell_of h3 i).trans (by simp);have hn:F8 W (λb=>hasB (BA bn bo bh cb sb cap cur t) b=true) (some ⟨bn,0,none⟩) [3,2,4]:=λ_=>by
  refine⟨bn,0,rfl,(BW _).2 (by simp),λi x hx=>?_⟩;rw[cell_of h1]
  match i,hx with
  |0,hx=>simp at hx;subst hx;rfl
  |1,hx=>simp at hx;subst hx;rfl
  |2,hx=>simp at hx;subst hx;rfl
  |k+3,hx=>simp at hx
 have ho:F8 W (λb=>hasB (BA bn bo bh cb sb cap cur t) b=true) (some ⟨bo,0,none⟩) [0]:=λ_=>by
  refine⟨bo,0,rfl,(BW _).2 (by simp),λi x hx=>?_⟩;rw[cell_of h2]
  match i,hx with
  |0,hx=>simp at hx;subst hx;rfl
  |k+1,hx=>simp at hx
 have hnil:F8 W (λb=>hasB (BA bn bo bh cb sb cap cur t) b=true) none []:=λh=>absurd rfl h;refine⟨λb F4=>?_,(BW _).2 (by simp),cell_of h4 0,cell_of h4 1,cell_of h4 2,(BW _).2 (by simp),λi x hx=>(cell_of h5 i).trans (by simpa using afD i x hx),hn,λ_=>⟨bh,0,rfl,(BW _).2 (by simp),λi x hx=>?_⟩⟩
 .rcases(BW _).1 F4 with rfl|rfl|rfl|rfl|rfl
  .exact(xm.1 h1).1
  .exact(xm.1 h2).1
  .exact(xm.1 h3).1
  .exact(xm.1 h4).1
  .exact(xm.1 h5).1
 .match i,hx with
  |0,hx=>simp[A7,BI] at hx;subst hx;exact⟨hb _,hb _,hb _,none,0,hb _,hnil⟩
  |1,hx=>simp[A7,BI] at hx;subst hx;exact⟨hb _,hb _,hb _,_,1,hb _,ho⟩
  |2,hx=>simp[A7,BI] at hx;subst hx;exact⟨hb _,hb _,hb _,none,0,hb _,hnil⟩
  |k+3,hx=>simp[A7,BI] at hx
def fQ (N8:∀u∈cur,gO u):∀p∈BA bn bo bh cb sb cap cur t,∀v∈p.2.1,∀(SB:FuncId->Bool) (H:Hid),B6 SB H (λb=>hasB (BA bn bo bh cb sb cap cur t) b=true) v:=by
 intro p hp v hv SB H;have afE:B6 SB H (λb=>hasB (BA bn bo bh cb sb cap cur t) b=true) (.slice none 0 0):=AO.Ei 0 0;simp only[BA,xC,xz,or_false] at hp;rcases hp with rfl|rfl|rfl|rfl|rfl
 .simp only[EB,xC,xz,or_false] at hv;rcases hv with rfl|rfl|rfl<;>exact AO.int _ _
 .simp only[xC,xz,or_false] at hv;subst hv;exact AO.int _ _
 .simp only[E8,xC,xz,or_false] at hv;rcases hv with rfl|rfl|rfl|rfl|rfl|rfl|rfl|rfl|rfl|rfl|rfl|rfl<;>first|exact AO.int _ _|exact afE|exact B6.slice ((BW _).2 (by simp)) _ _ _ _
 .simp only[LG,xC,xz,or_false] at hv;rcases hv with rfl|rfl|rfl<;>exact B6.slice ((BW _).2 (by simp)) _ _ _ _
 .obtain⟨x,rfl⟩:=N8 v hv;exact AO.int _ _
end
section
variable {bn bo bh cb sb cap:Nat} {cur:List Value} {t:TypeId} {w:World}
structure Dk (w:World)(bn bo bh cb sb cap:Nat)(cur:List Value)(t:TypeId):Prop where
 obj:∀p∈BA bn bo bh cb sb cap cur t,w.heap[p.1]?=some (.cells p.2.1.toArray p.2.2 (0,0))
 sets:∀(i x:Nat),(Bo 3)[i]?=some x->cur[i]?=some (Value.int .u8 (x:Int))
 flat:∀u∈cur,gO u
def Dk.keep {w':World}(h:Dk w bn bo bh cb sb cap cur t)(hk:∀b,hasB (BA bn bo bh cb sb cap cur t) b=true->w'.heap[b]?=w.heap[b]?):Dk w' bn bo bh cb sb cap cur t :=
 ⟨λp hp=>(hk _ (jt hp)).trans (h.obj p hp),h.sets,h.flat⟩
def Dk.lt (h:Dk w bn bo bh cb sb cap cur t){b:Nat}(hb:hasB (BA bn bo bh cb sb cap cur t) b=true):b<w.heap.size:=by
 obtain⟨p,hp,rfl⟩:=E7 hb;exact(xm.1 (h.obj p hp)).1
abbrev GZ (n:Int):Obj:=.cells #[.int .i64 n] 116 (0,0)
def WK (n:Int):EF (GZ n):=⟨[.int .i64 n],116,(0,0),rfl,λv hv=>by
 simp only[xC,xz,or_false] at hv
 subst hv;exact .int _ _⟩
def Od (h:Dk w bn bo bh cb sb cap cur t){nb:Nat}(hn:w.heap[nb]?=some (GZ 0))(Nq:hasB (BA bn bo bh cb sb cap cur t) nb=false) :
  CU w (BA bn bo bh cb sb cap cur t) [] nb cb sb cap (some ⟨bn,0,none⟩) (some ⟨bh,0,none⟩) 3 59 [.pointer (some ⟨nb,0,none⟩)] (GZ 0) (GZ 1) where
 obj:=λp hp=>h.obj p (by simpa using hp)
 GA:=hn
 TG:=⟨WK 0,WK 1⟩
 nt:=by rw[zv];exact Nq
 vco:=fQ h.flat
 vex:=λp hp=>by cases hp
 vfc:=λv hv SB H=>by
  simp only[xC,xz,or_false] at hv;subst hv;exact B6.ptr (.inr rfl) _ _
 sF:=⟨by decide,by decide⟩
 cF:=λx w=>by
  have h1:¬Tryz.f59.name = "runtime.NumGoroutine":=by decide
  simp[callFunc,Sq.fn Tryz.func59 rfl,h1,Tryz.f59]
 UI:=(BW _).2 (by simp)
 Yl:=(BW _).2 (by simp)
 Dt:=λW hW=>nv hW h.sets
def Qc (nb:Nat){ex:Hn}(ρ:Bt)(W:World)(h:W.heap[nb]?=some (GZ 0))(_:Fy W ex) :
  Calls AG 59 (#[Cc ρ]++[Value.pointer (some ⟨nb,0,none⟩)].toArray) W λe W'=>e=.returned (.tuple #[])/\KT (λb=>b=nb) W W'/\W'.heap[nb]?=some (GZ 1) :=
 rx nb 0 1 ρ W h (by decide)
abbrev D8 (b:Bool)(r:Bt):Obj:=.cells (F9 0 r b) 132 (0,0)
def Qd (b:Bool)(r:Bt):EF (D8 b r):=⟨(F9 0 r b).toList,132,(0,0),by simp[F9],λv hv=>by
 simp only[F9,xC,xz,or_false] at hv
 rcases hv with rfl|rfl|rfl|rfl|rfl|rfl|rfl|rfl<;>first|exact .int _ _|exact .bool _⟩
def C8 (xb qb cb:Nat):Hn:=[(xb,[.func (.func 62) #[] #[.pointer (some ⟨qb,0,none⟩)]],124),(qb,[.pointer (some ⟨cb,0,none⟩)],49)]
def Qe (h:Dk w bn bo bh cb sb cap cur t){kb xb qb:Nat}{ρ:Bt}(hk:w.heap[kb]?=some (D8 false λ_=>0))(hx:∀p∈C8 xb qb cb,w.heap[p.1]?=some (.cells p.2.1.toArray p.2.2 (0,0)))
  (Nq:hasB (BA bn bo bh cb sb cap cur t++C8 xb qb cb) kb=false) :
  CU w (BA bn bo bh cb sb cap cur t) (C8 xb qb cb) kb cb sb cap (some ⟨bn,0,none⟩) (some ⟨bh,0,none⟩) 3 67 [.pointer (some ⟨kb,0,none⟩),.pointer (some ⟨xb,0,none⟩)] (D8 false λ_=>0) (D8 true ρ) where
 obj:=λp hp=>(yD.1 hp).elim (h.obj p) (hx p)
 GA:=hk
 TG:=⟨Qd _ _,Qd _ _⟩
 nt:=Nq
 vco:=fQ h.flat
 vex:=λp hp v hv SB H h54=>by
  have hq:∀b,(b=xb\/b=qb)->hasB (BA bn bo bh cb sb cap cur t++C8 xb qb cb) b=true:=λb hb=>by
   rw[aW];rcases hb with rfl|rfl<;>simp[hasB,C8]
  simp only[C8,xC,xz,or_false] at hp;rcases hp with rfl|rfl
  .simp only[xC,xz,or_false] at hv;subst hv;refine B6.func (l:=[.pointer (some ⟨qb,0,none⟩)]) h54 λv hv=>?_;simp only[xC,xz,or_false] at hv;subst hv;exact B6.ptr (hq _ (.inr rfl)) _ _
  .simp only[xC,xz,or_false] at hv;subst hv;exact B6.ptr (by rw[aW,(BW cb).2 (by simp),Bool.true_or]) _ _
 vfc:=λv hv SB H=>by
  simp only[xC,xz,or_false] at hv;rcases hv with rfl|rfl
  .exact B6.ptr (.inr rfl) _ _
  .exact B6.ptr (.inl (by rw[aW];simp[hasB,C8])) _ _
 sF:=⟨by decide,by decide⟩
 cF:=λx w=>by
  have h1:¬Tryz.f67.name = "runtime.NumGoroutine":=by decide
  simp[callFunc,Sq.fn Tryz.func67 rfl,h1,Tryz.f67]
 UI:=(BW _).2 (by simp)
 Yl:=(BW _).2 (by simp)
 Dt:=λW hW=>nv hW h.sets
def TJ (kb xb qb cb:Nat)(ρ:Bt)(W:World)(h:W.heap[kb]?=some (D8 false λ_=>0))(hs:Fy W (C8 xb qb cb)) :
  Calls AG 67 (#[Cc ρ]++[Value.pointer (some ⟨kb,0,none⟩),.pointer (some ⟨xb,0,none⟩)].toArray) W λe W'=>e=.returned (.tuple #[])/\KT (λb=>b=kb) W W'/\W'.heap[kb]?=some (D8 true ρ):=by
 obtain⟨f,hf⟩:=hs (xb,[.func (.func 62) #[] #[.pointer (some ⟨qb,0,none⟩)]],124) (by simp[C8]);exact tB kb xb ρ _ W (cell_of hf 0) (xm.1 hf).1 h
end
end Go.Proofs.YtjcgijifamcggaaGreat
