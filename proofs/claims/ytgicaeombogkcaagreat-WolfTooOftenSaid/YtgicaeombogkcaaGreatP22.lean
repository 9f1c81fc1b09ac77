/- Parts of the proof. -/
import Derived.Test.YtgicaeombogkcaaGreatP17
import Derived.Test.YtgicaeombogkcaaGreatP21
import Derived.Test.YtgicaeombogkcaaGreatP16
import Derived.Test.YtgicaeombogkcaaGreatP18
import Derived.Test.YtgicaeombogkcaaGreatP01
import Derived.Shelf.Slices.Clone
set_option linter.all false
set_option maxHeartbeats 3200000
set_option maxRecDepth 1000000
namespace Go.Sq
def RsAt (w:World) (B:Nat) (A:Option Addr) (l:List (Int×Int)):Prop :=
 l≠[]->∃ b o,A=some ⟨b,o,none⟩∧b<B∧∀ (i:Nat) (x:Int×Int),l[i]?=some x->w.cell? ⟨b,o+i*2,none⟩=some (.int .i64 x.1)∧w.cell? ⟨b,o+i*2+1,none⟩=some (.int .i64 x.2)
theorem RsAt.keep {w w':World} {B:Nat} {A:Option Addr} {l:List (Int×Int)} (h:RsAt w B A l) (hk:∀ b o,b<B->w'.cell? ⟨b,o,none⟩=w.cell? ⟨b,o,none⟩):RsAt w' B A l:=fun hn=>by
 obtain ⟨b,o,e,hb,hc⟩:=h hn
 exact ⟨b,o,e,hb,fun i x hx=>⟨(hk _ _ hb).trans (hc i x hx).1,(hk _ _ hb).trans (hc i x hx).2⟩⟩
theorem RsAt.gr {w w':World} {B:Nat} {A:Option Addr} {l:List (Int×Int)} (h:RsAt w B A l) (hB:B<=w.heap.size) (hg:Gr w w'):RsAt w' B A l:=h.keep fun _ _ hb=>hg.cell (Nat.lt_of_lt_of_le hb hB)
theorem RsAt.at_ {w:World} {B:Nat} {A:Option Addr} {l:List (Int×Int)} (h:RsAt w B A l) {k:Nat} (hk:k<l.length):∃ b o,A=some ⟨b,o,none⟩∧b<B∧w.cell? ⟨b,o+k*2,none⟩=some (.int .i64 (l[k]?.getD (0,0)).1)∧w.cell? ⟨b,o+k*2+1,none⟩=some (.int .i64 (l[k]?.getD (0,0)).2):=by
 obtain ⟨b,o,e,hb,hc⟩:=h (fun e=>by rw [e] at hk;simp at hk)
 obtain ⟨h1,h2⟩:=hc k _ (List.getElem?_eq_getElem hk)
 exact ⟨b,o,e,hb,by rw [List.getElem?_eq_getElem hk];exact h1,by rw [List.getElem?_eq_getElem hk];exact h2⟩
end Go.Sq
namespace Go.Proofs.YtgicaeombogkcaaGreat
open Go.RowKit Go.Sq
theorem rq (a b q:Int) (pb:Nat) (w:World) (hp:pb<w.heap.size) (hc:w.cell? ⟨pb,0,none⟩=some (.int .i64 q)) :
  Calls Sq.prog 154 #[.agg #[.int .i64 a,.int .i64 b],.pointer (some ⟨pb,0,none⟩)] w fun e w'=>e=.returned (.bool (a==q))∧Gr w w':=by
 go_enter Sq.func154,Tryz.ntmps154
 go_wp2
 go_ret
 exact ⟨rfl,(Gr.refl w).alloc _⟩
theorem kW (A:Option Addr) (c pb:Nat) (q:Int) (l:List (Int×Int)) (w:World) (B:Nat) (hB:B<=w.heap.size) (h:RsAt w B A l) (hl:l.length<=4611686018427387904) (hp:pb<w.heap.size) (hc:w.cell? ⟨pb,0,none⟩=some (.int .i64 q)) :
  Calls Sq.prog 179 #[.slice A l.length c,.func (.func 154) #[] #[.pointer (some ⟨pb,0,none⟩)]] w fun e w'=>(∃ n:Int,e=.returned (.int .i64 n)∧(0<=n↔l.any (·.1==q)=true))∧Gr w w':=by
 have HR:=Lib.hid h
 clear h
 go_enter Sq.func179,Tryz.ntmps179
 go_wp2
 go_loopw [8] (fun i wr=>∃ k:Nat,k<=l.length∧i=.int .i64 k∧(l.take k).any (·.1==q)=false∧Gr w wr) (fun i _=>l.length - (intOf i).toNat)
 case atStart=>exact ⟨0,by omega,rfl,by simp,.refl _⟩
 case round =>
  obtain ⟨k,hk,rfl,ha,hg⟩:=hrel
  have HA:=Lib.hid ha
  have HG:=Lib.hid hg
  clear ha hg
  by_cases hlt:k<l.length
  ·obtain ⟨b,o,rfl,hb,h1,h2⟩:=(HR.out.gr hB HG.out).at_ hlt
   have HT:=Lib.hid (aU (0,0) l k hlt)
   have HM:Hid (l[k]?.getD (0,0)∈l):=Lib.hid (by rw [List.getElem?_eq_getElem hlt];exact List.getElem_mem hlt)
   generalize l[k]?.getD (0,0)=x at h1 h2 HT HM
   have hz:=HG.out.size
   have HC:=Lib.hid (rq x.1 x.2 q pb wr (by omega) ((HG.out.cell hp).trans hc))
   obtain ⟨v,hv⟩:∃ v,v=(x.1==q):=⟨_,rfl⟩
   rw [<- hv] at HC
   have HV:=Lib.hid hv
   clear hv
   cases v with
   | true =>
    go_wp2_with (go_at_call 154;refine HC.out.mono ?_;rintro e w2 ⟨rfl,hg2⟩;have HG2:=Lib.hid hg2;clear hg2)
    go_ret
    refine ⟨⟨k,rfl,⟨fun _=>List.any_eq_true.2 ⟨x,HM.out,HV.out.symm⟩,fun _=>by omega⟩⟩,HG.out.trans HG2.out⟩
   | false =>
    go_wp2_with (go_at_call 154;refine HC.out.mono ?_;rintro e w2 ⟨rfl,hg2⟩;have HG2:=Lib.hid hg2;clear hg2)
    go_roundw
    case rel=>exact ⟨k+1,by omega,by go_num,by rw [HT.out,List.any_append,HA.out];simp [<- HV.out],HG.out.trans HG2.out⟩
    case measure=>simp [intOf];omega
  ·have hkl:k=l.length:=by omega
   have HZ:=Lib.hid (show l.any (·.1==q)=false by have:=HA.out;rwa [hkl,List.take_of_length_le (by omega)] at this)
   clear hkl
   go_wp2
   go_ret
   exact ⟨⟨-1,rfl,by rw [HZ.out];simp⟩,HG.out⟩
theorem ox (A:Option Addr) (c pb:Nat) (q:Int) (l:List (Int×Int)) (w:World) (B:Nat) (hB:B<=w.heap.size) (h:RsAt w B A l) (hl:l.length<=4611686018427387904) (hp:pb<w.heap.size) (hc:w.cell? ⟨pb,0,none⟩=some (.int .i64 q)) :
  Calls Sq.prog 153 #[.slice A l.length c,.func (.func 154) #[] #[.pointer (some ⟨pb,0,none⟩)]] w fun e w'=>e=.returned (.bool (l.any (·.1==q)))∧Gr w w':=by
 have HC:=Lib.hid (kW A c pb q l w B hB h hl hp hc)
 clear h
 go_enter Sq.func153,Tryz.ntmps153
 go_wp2_with fail
 refine HC.out.mono ?_
 rintro e w2 ⟨⟨n,rfl,hn⟩,hg⟩
 have HG:=Lib.hid hg
 have HN:=Lib.hid (show decide (0<=n)=l.any (·.1==q) by
  cases hv:l.any (·.1==q) with
  | true=>simp [hn.2 hv]
  | false=>simp;have:=fun h=>hn.1 h;rw [hv] at this;exact Int.not_le.1 fun h=>by cases this h)
 clear hn hg
 go_wp2
 go_ret
 exact ⟨aA HN.out,HG.out⟩
open Go.RowKit Go.Sq
theorem jd {n:Nat} {rs:List (Int×Int)} (h:fL n rs=0):∀ k,k<rs.length->raidE n rs k=0:=by
 have key:∀ l:List Int,be l=0->∀ x∈l,x=0:=fun l h x hx=>by
  unfold be at h
  cases hf:l.find? (fun x=>x != 0) with
  | none=>simpa using List.find?_eq_none.1 hf x hx
  | some y =>
   rw [hf] at h
   have:=List.find?_some hf
   simp at this
   exact absurd h this
 intro k hk
 exact key _ h _ (List.mem_map.2 ⟨k,by simpa using hk,rfl⟩)
theorem pO {n:Nat} {rs:List (Int×Int)} {k:Nat} (h:raidE n rs k=0) :
  inR (rs[k]?.getD (0,0)).1 0 (n - 1)=true∧inR (rs[k]?.getD (0,0)).2 0 60=true∧(rs.take k).any (·.1==(rs[k]?.getD (0,0)).1)=false:=by
 unfold raidE at h
 cases h1:inR (rs[k]?.getD (0,0)).1 0 (n - 1) with
 | false=>rw [h1,if_pos rfl] at h;cases h
 | true =>
  cases h2:inR (rs[k]?.getD (0,0)).2 0 60 with
  | false=>rw [h1,h2,if_neg (by simp),if_pos rfl] at h;cases h
  | true =>
   cases h3:(rs.take k).any (·.1==(rs[k]?.getD (0,0)).1) with
   | true=>rw [h1,h2,h3,if_neg (by simp),if_neg (by simp),if_pos rfl] at h;cases h
   | false=>exact ⟨rfl,rfl,rfl⟩
theorem _root_.Go.Sq.RsAt.take {w:World} {B:Nat} {A:Option Addr} {l:List (Int×Int)} (h:RsAt w B A l) (k:Nat):RsAt w B A (l.take k):=fun hn=>by
 obtain ⟨b,o,e,hb,hc⟩:=h (fun e=>hn (by rw [e];simp))
 exact ⟨b,o,e,hb,fun i x hx=>hc i x (by
  rw [List.getElem?_take] at hx
  split at hx
  ·exact hx
  ·cases hx)⟩
theorem mJ {W:World} {cb:Nat} {c:Camp} {nA hA:Option Addr} {nc hc:Nat} (h:CampP W W.heap.size cb c nA hA nc hc):CampP W.drew W.drew.heap.size cb c nA hA nc hc:=(h.keep (w':=W.drew) fun _ _ _=>rfl:CampP W.drew W.heap.size cb c nA hA nc hc)
theorem ru {W:World} {A:Option Addr} {l:List Int} (h:RI W W.heap.size A l):RI W.drew W.drew.heap.size A l:=h
theorem pP (nA hA gA rA:Option Addr) (nc hc gc rc:Nat) (c:Camp) (ls:List (List Int)) (rs:List (Int×Int)) (w:World) (B:Nat) (hB:B<=w.heap.size) (hn:RI w B nA c.needs) (hh:HsAt w B hA c.herders) (hg:GrAt w B gA ls) (hr:RsAt w B rA rs)
  (hl1:c.needs.length<=4611686018427387904) (hl2:c.herders.length<=4611686018427387904) (hlo:∀ h∈c.herders,h.off.length<=4611686018427387904) (hl3:ls.length<=4611686018427387904) (hl4:∀ x∈ls,x.length<=4611686018427387904) (hl5:rs.length<=4611686018427387904) (hrc:rs.length<=rc)
  (hF:formedE c ls=0) (hR:fL c.needs.length rs=0) :
  Calls Sq.prog 117 #[campV nA hA c nc hc,.slice gA ls.length gc,.slice rA rs.length rc] w fun e w'=>Gr w w'∧∃ cb A k,e=.returned (.tuple #[.pointer (some ⟨cb,0,none⟩),rosV (rosOf ls),.slice A c.needs.length k,.int .i64 0]) ∧
   CampP w' w'.heap.size cb c nA hA nc hc∧RI w' w'.heap.size A (wolvesL c.needs.length rs rs.length):=by
 have HR:=Lib.hid hr
 have HRE:=Lib.hid (jd hR)
 unfold campV
 obtain ⟨W0,hW0⟩:∃ W0:World,W0=(w.alloc (.cells #[.slice nA c.needs.length nc,.slice hA c.herders.length hc] 25)).alloc (.cells #[.int .u8 0,.int .u8 0,.int .u8 0,.int .u8 0,.int .u8 0] 90):=⟨_,rfl⟩
 have hg0:Gr w W0:=hW0▸((Gr.refl w).alloc _).alloc _
 have hz0:W0.heap.size=w.heap.size+2:=by rw [hW0];simp
 have HW:=Lib.hid hW0
 have HFORM:=Lib.hid (eP nA hA gA nc hc gc c ls W0 B (by omega) (hn.gr hB hg0) (hh.keep fun b o hb=>hg0.cell (Nat.lt_of_lt_of_le hb hB)) (hg.gr hB hg0) hl1 hl2 hlo hl3 hl4)
 have HG0:=Lib.hid hg0
 have hcm:W0.cell? ⟨w.heap.size,0,none⟩=some (.slice nA c.needs.length nc)∧W0.cell? ⟨w.heap.size,1,none⟩=some (.slice hA c.herders.length hc):=by
  rw [hW0]
  constructor
  all_goals rw [World.cell?_alloc_past _ _ _ (by simp),World.cell?_alloc_at _ _ _ _ rfl];rfl
 have HCM:=Lib.hid hcm
 have hz5:∀ i,i<5->W0.cell? ⟨w.heap.size+1,i,none⟩=some (.int .u8 ((fun _=>0:Ros) i:Nat))∧W0.frozen? ⟨w.heap.size+1,i,none⟩=false:=fun i hi=>by
  rw [hW0,World.cell?_alloc_at _ _ _ _ (by simp),World.frozen?_alloc_at _ _ _ _ (by simp)]
  match i,hi with
  | 0,_=>exact ⟨rfl,rfl⟩
  | 1,_=>exact ⟨rfl,rfl⟩
  | 2,_=>exact ⟨rfl,rfl⟩
  | 3,_=>exact ⟨rfl,rfl⟩
  | 4,_=>exact ⟨rfl,rfl⟩
 have HZ5:=Lib.hid hz5
 have HFE:=Lib.hid hF
 clear hW0 hg0 hn hh hg hr hl4 hlo hcm hz5 hF hR
 go_enter Sq.func117,Tryz.ntmps117
 unfold campV at HFORM
 go_wp2_with fail
 rw [<- HW.out]
 refine HFORM.out.mono ?_
 rintro e w1 ⟨hg1,hform⟩
 rw [if_pos HFE.out] at hform
 obtain ⟨cb,g,cap,rfl,hcb,hcg,hK⟩:=hform
 have HOK:=Lib.hid (Camp.Ok.of (show checkE c=0 by
  have:=HFE.out
  unfold formedE at this
  split at this
  ·exact absurd this (by assumption)
  ·simpa using ‹¬ checkE c≠0›))
 have hn5:=HOK.out.n5
 have hn1:=HOK.out.n1
 obtain ⟨W1,hW1⟩:∃ W1:World,W1=w1.alloc (.cells #[.int .u8 (rosOf ls 0),.int .u8 (rosOf ls 1),.int .u8 (rosOf ls 2),.int .u8 (rosOf ls 3),.int .u8 (rosOf ls 4)] 91):=⟨_,rfl⟩
 have hg1':Gr w1 W1:=hW1▸(Gr.refl w1).alloc _
 have hz1:W1.heap.size=w1.heap.size+1:=by rw [hW1];simp
 have hzz:=hg1.size
 have hG1:Gr W0 W1:=hg1.trans hg1'
 have HG1:=Lib.hid hG1
 have HK:=Lib.hid hK
 have HG01:=Lib.hid hg1'
 have HRC:Hid (∀ i,i<5->W1.cell? ⟨w1.heap.size,i,none⟩=some (.int .u8 (rosOf ls i:Nat))):=Lib.hid fun i hi=>by
  rw [hW1,World.cell?_alloc_at _ _ _ _ (by simp)]
  match i,hi with
  | 0,_=>rfl
  | 1,_=>rfl
  | 2,_=>rfl
  | 3,_=>rfl
  | 4,_=>rfl
 have HZ1:Hid (∀ i,i<5->W1.cell? ⟨w.heap.size+1,i,none⟩=some (.int .u8 ((fun _=>0:Ros) i:Nat))∧W1.frozen? ⟨w.heap.size+1,i,none⟩=false):=Lib.hid fun i hi=>by
  obtain ⟨a,b⟩:=HZ5.out i hi
  exact ⟨(hG1.cell (by show w.heap.size+1<_;omega)).trans a,(hG1.frozen (by show w.heap.size+1<_;omega)).trans b⟩
 have HC1:Hid (W1.cell? ⟨w.heap.size,0,none⟩=some (.slice nA c.needs.length nc)∧W1.cell? ⟨w.heap.size,1,none⟩=some (.slice hA c.herders.length hc)):=Lib.hid
  ⟨(hG1.cell (by show w.heap.size<_;omega)).trans HCM.out.1,(hG1.cell (by show w.heap.size<_;omega)).trans HCM.out.2⟩
 have HW1:=Lib.hid hW1
 have hc0:w1.cell? ⟨w.heap.size,0,none⟩=some (.slice nA c.needs.length nc):=(hg1.cell (by show w.heap.size<_;omega)).trans HCM.out.1
 have hwl:w.heap.size<w1.heap.size:=by omega
 have hmk:=fun w=>en c.needs.length w (by omega)
 clear hg1 hK hg1' hG1 HFORM hW1
 unfold rosV
 go_wp2
 rw [<- HW1.out]
 clear hc0
 go_loopw [33] (fun i wr=>∃ k:Nat,k<=rs.length∧i=.int .i64 k∧Gr W1 wr∧W1.heap.size<wr.heap.size∧∀ j,j<c.needs.length->wr.cell? ⟨W1.heap.size,j,none⟩=some (.int .i64 (aY rs k j))∧wr.frozen? ⟨W1.heap.size,j,none⟩=false) (fun i _=>rs.length - (intOf i).toNat)
 case atStart =>
  refine ⟨0,by omega,rfl,(Gr.refl W1).alloc _,by simp,fun j hj=>⟨?_,?_⟩⟩
  ·rw [World.cell?_alloc_at _ _ _ _ (by simp),dc _ _ hj];rfl
  ·rw [World.frozen?_alloc_at _ _ _ _ (by simp)]
 case round =>
  obtain ⟨k,hk,rfl,hgr,hzr,hcs⟩:=hrel
  have HGR:=Lib.hid hgr
  have HCS:=Lib.hid hcs
  have hc0:=(hgr.cell (by show w.heap.size<_;omega)).trans HC1.out.1
  have hgz:=hgr.size
  clear hgr hcs
  by_cases hlt:k<rs.length
  ·have HRS:=Lib.hid (HR.out.gr hB (HG0.out.trans (HG1.out.trans HGR.out)))
   obtain ⟨b,o,rfl,hb,h1,h2⟩:=HRS.out.at_ hlt
   have hro:=pO (HRE.out k hlt)
   have HWA:Hid (∀ j:Nat,aY rs (k+1) j=if (rs[k]?.getD (0,0)).1=(j:Int) then (rs[k]?.getD (0,0)).2 else aY rs k j):=Lib.hid fun j=>rfl
   generalize rs[k]?.getD (0,0)=x at h1 h2 hro HWA
   obtain ⟨xn,xv⟩:=x
   obtain ⟨r1,r2,r3⟩:=hro
   dsimp only at h1 h2 r1 r2 r3 HWA
   have HB1:Hid (∀ W,Calls Sq.prog 65 #[.int .i64 xn,.int .i64 0,.int .i64 (c.needs.length - 1)] W fun e w'=>e=.returned (.bool true)∧W=w'):=Lib.hid fun W=>by rw [<- r1];exact bp _ _ _ W
   have HB2:Hid (∀ W,Calls Sq.prog 65 #[.int .i64 xv,.int .i64 0,.int .i64 60] W fun e w'=>e=.returned (.bool true)∧W=w'):=Lib.hid fun W=>by rw [<- r2];exact bp _ _ _ W
   obtain ⟨j,rfl⟩:∃ j:Nat,xn=j:=⟨xn.toNat,by simp [inR] at r1;omega⟩
   have hjn:j<c.needs.length:=by simp [inR] at r1;omega
   obtain ⟨W2,hW2⟩:∃ W2:World,W2=wr.alloc (.cells #[.int .i64 (j:Int),.int .i64 xv] 72):=⟨_,rfl⟩
   have hg2:Gr wr W2:=hW2▸(Gr.refl wr).alloc _
   have hz2:W2.heap.size=wr.heap.size+1:=by rw [hW2];simp
   have hbx:W2.cell? ⟨wr.heap.size,0,none⟩=some (.int .i64 j)∧W2.cell? ⟨wr.heap.size,1,none⟩=some (.int .i64 xv):=by
    rw [hW2,World.cell?_alloc_at _ _ _ _ rfl,World.cell?_alloc_at _ _ _ _ rfl];exact ⟨rfl,rfl⟩
   have hhas:=ox (some ⟨b,o,none⟩) rc wr.heap.size j (rs.take k) W2 B (by omega) ((HRS.out.take k).gr (by omega) hg2) (by simp;omega) (by omega) hbx.1
   have htl:(rs.take k).length=k:=by simp;omega
   rw [htl,r3] at hhas
   have HHAS:=Lib.hid hhas
   have HBX:=Lib.hid hbx
   have HG2:=Lib.hid hg2
   have HW2:=Lib.hid hW2
   have hwr:w.heap.size<wr.heap.size:=by omega
   have hkc:((k:Nat):Int)<=(rc:Int):=by omega
   clear hhas hbx hg2 hW2 r1 r2 r3 htl
   go_wp2_with fail
   refine (HB1.out _).mono ?_
   rintro e w' ⟨rfl,rfl⟩
   go_wp2_with fail
   refine (HB2.out _).mono ?_
   rintro e w' ⟨rfl,rfl⟩
   go_wp2_with fail
   rw [<- HW2.out]
   refine HHAS.out.mono ?_
   rintro e w3 ⟨rfl,hg3⟩
   have hg23:=HG2.out.trans hg3
   have HG3:=Lib.hid hg23
   have hz3:=hg3.size
   have d0:w3.cell? ⟨wr.heap.size,0,none⟩=some (.int .i64 j):=(hg3.cell (by show wr.heap.size<_;omega)).trans HBX.out.1
   have d1:w3.cell? ⟨wr.heap.size,1,none⟩=some (.int .i64 xv):=(hg3.cell (by show wr.heap.size<_;omega)).trans HBX.out.2
   have hcs3:∀ i,i<c.needs.length->w3.cell? ⟨W1.heap.size,i,none⟩=some (.int .i64 (aY rs k i))∧w3.frozen? ⟨W1.heap.size,i,none⟩=false:=fun i hi=>⟨(hg23.cell (by show W1.heap.size<_;omega)).trans (HCS.out i hi).1,(hg23.frozen (by show W1.heap.size<_;omega)).trans (HCS.out i hi).2⟩
   have HC3:=Lib.hid hcs3
   obtain ⟨e1,e2⟩:=hcs3 j hjn
   rw [hz1] at e1 e2
   have HSET:Hid (∀ i,i<c.needs.length->(w3.setCell ⟨w1.heap.size+1,j,none⟩ (.int .i64 xv)).cell? ⟨W1.heap.size,i,none⟩=some (.int .i64 (aY rs (k+1) i))∧(w3.setCell ⟨w1.heap.size+1,j,none⟩ (.int .i64 xv)).frozen? ⟨W1.heap.size,i,none⟩=false):=Lib.hid fun i hi=>by
    rw [World.frozen?_setCell,HWA.out]
    refine ⟨?_,(HC3.out i hi).2⟩
    rw [hz1]
    by_cases e:i=j
    ·subst e
     rw [World.cell?_setCell_same _ _ _ e1,if_pos rfl]
    ·rw [World.cell?_setCell_other _ _ _ _ (by simp [Ne.symm e]),if_neg (by omega)]
     have:=(HC3.out i hi).1
     rwa [hz1] at this
   have HGF:Hid (Gr W1 (w3.setCell ⟨w1.heap.size+1,j,none⟩ (.int .i64 xv))):=Lib.hid ((HGR.out.trans hg23).setCell (p:=⟨w1.heap.size+1,j,none⟩) (by show _<=w1.heap.size+1;omega) _)
   clear hg3 hg23 hcs3 hc0
   go_wp2
   go_roundw
   case rel=>exact ⟨k+1,by omega,by go_num,HGF.out,by simp [World.setCell];omega,HSET.out⟩
   case measure=>simp [intOf];omega
  ·have hkn:k=rs.length:=by omega
   subst hkn
   have hri:∀ W:World,wr.heap.size<=W.heap.size->(∀ o,W.cell? ⟨w1.heap.size+1,o,none⟩=wr.cell? ⟨w1.heap.size+1,o,none⟩)->RI W W.heap.size (some ⟨w1.heap.size+1,0,none⟩) (wolvesL c.needs.length rs rs.length):=fun W hW hk _=>⟨_,0,rfl,by omega,fun i x hx=>by
    have hi:i<c.needs.length:=by have:=(List.getElem?_eq_some_iff.1 hx).1;rwa [cV] at this
    rw [mH hi] at hx
    cases hx
    rw [Nat.zero_add,hk,<- hz1]
    exact (HCS.out i hi).1⟩
   have HRI:=Lib.hid hri
   have hck:∀ W:World,wr.heap.size<=W.heap.size->(∀ b o,b≠w.heap.size+1->W.cell? ⟨b,o,none⟩=wr.cell? ⟨b,o,none⟩)->CampP W W.heap.size cb c nA hA nc hc:=fun W hW hk =>
    (HK.out.keep (w':=W) (by omega) fun b o hb=>(hk b o fun e=>by rcases hb with h | h | h<;>omega).trans ((HG01.out.trans HGR.out).cell (p:=⟨b,o,none⟩) (HK.out.lt b hb))).campP
   have HCK:=Lib.hid hck
   have HPB:=Lib.hid (fun (b o:Nat) (hb:b≠w.heap.size+1)=>World.cell?_of_block (a:=⟨b,o,none⟩) (il wr (w.heap.size+1) (.int .u8 (rosOf ls 0:Nat)) (.int .u8 (rosOf ls 1:Nat)) (.int .u8 (rosOf ls 2:Nat)) (.int .u8 (rosOf ls 3:Nat)) (.int .u8 (rosOf ls 4:Nat)) hb))
   have HPZ:=Lib.hid (ja wr (w.heap.size+1) (.int .u8 (rosOf ls 0:Nat)) (.int .u8 (rosOf ls 1:Nat)) (.int .u8 (rosOf ls 2:Nat)) (.int .u8 (rosOf ls 3:Nat)) (.int .u8 (rosOf ls 4:Nat)))
   obtain ⟨a0,a1,a2,a3,a4⟩:=RosC5 (w:=wr) (b:=w1.heap.size) (r:=rosOf ls) fun i hi=>(HGR.out.cell (by show w1.heap.size<_;omega)).trans (HRC.out i hi)
   have hz5:∀ i,i<5->wr.cell? ⟨w.heap.size+1,i,none⟩=some (.int .u8 ((fun _=>0:Ros) i:Nat))∧wr.frozen? ⟨w.heap.size+1,i,none⟩=false:=fun i hi=>by
    obtain ⟨a,b⟩:=HZ1.out i hi
    exact ⟨(HGR.out.cell (by show w.heap.size+1<_;omega)).trans a,(HGR.out.frozen (by show w.heap.size+1<_;omega)).trans b⟩
   obtain ⟨b0,c0⟩:=hz5 0 (by omega)
   obtain ⟨b1,c1⟩:=hz5 1 (by omega)
   obtain ⟨b2,c2⟩:=hz5 2 (by omega)
   obtain ⟨b3,c3⟩:=hz5 3 (by omega)
   obtain ⟨b4,c4⟩:=hz5 4 (by omega)
   have HS5:=Lib.hid (dp (fun i hi=>(hz5 i hi).1) (.int .u8 (rosOf ls 0:Nat)) (.int .u8 (rosOf ls 1:Nat)) (.int .u8 (rosOf ls 2:Nat)) (.int .u8 (rosOf ls 3:Nat)) (.int .u8 (rosOf ls 4:Nat)))
   have HG5:=Lib.hid (ep (HG0.out.trans (HG1.out.trans HGR.out)) (b:=w.heap.size+1) (by omega) (.int .u8 (rosOf ls 0:Nat)) (.int .u8 (rosOf ls 1:Nat)) (.int .u8 (rosOf ls 2:Nat)) (.int .u8 (rosOf ls 3:Nat)) (.int .u8 (rosOf ls 4:Nat)))
   obtain ⟨Wf,hWf⟩:∃ Wf:World,Wf=put5 wr (w.heap.size+1) (.int .u8 (rosOf ls 0:Nat)) (.int .u8 (rosOf ls 1:Nat)) (.int .u8 (rosOf ls 2:Nat)) (.int .u8 (rosOf ls 3:Nat)) (.int .u8 (rosOf ls 4:Nat)):=⟨_,rfl⟩
   rw [<- hWf] at HPB HPZ HG5
   have HF1:=Lib.hid (mJ (HCK.out Wf (Nat.le_of_eq HPZ.out.symm) HPB.out))
   have HF2:=Lib.hid (ru (HRI.out Wf (Nat.le_of_eq HPZ.out.symm) fun o=>HPB.out _ o (by omega)))
   have HF0:=Lib.hid HG5.out.drew
   rw [hWf] at HF0 HF1 HF2
   unfold put5 at HF0 HF1 HF2
   clear hWf
   clear HG5 HPB HPZ HCK HRI hz5 hri hc0 hck
   go_wp2
   go_region
   all_goals
    go_wp2
    obtain ⟨s0,s1,s2,s3,s4⟩:=HS5.out
    unfold put5 at s0 s1 s2 s3 s4
    refine bodyPost_ret (v:=.tuple #[.pointer (some ⟨cb,0,none⟩),rosV (rosOf ls),.slice (some ⟨w1.heap.size+1,0,none⟩) c.needs.length c.needs.length,.int .i64 0]) (by simp [results,Tryz.results117,go_sem,rosV,s0,s1,s2,s3,s4]) rfl ⟨?_,cb,_,_,rfl,?_,?_⟩
    ·exact HF0.out
    ·exact HF1.out
    ·exact HF2.out
open Go.RowKit Go.Sq
theorem rv (A:Option Addr) (c:Nat) (l:List Int) (w:World) (B:Nat) (h:RI w B A l) (hB:B<=w.heap.size) (hl:l.length<=1048576) :
  Calls Sq.prog 68 #[.slice A l.length c] w fun e w'=>∃ v,e=.returned v∧w'.ownsRow w.heap.size 3 1 v l.length (l.map (Value.int .i64))∧Gr w w':=by
 obtain ⟨i0,hi,hz0,hz1,hz2⟩:=info_parts Sq.info3
 have HR:=Lib.hid h
 clear h
 have q22:∀ (w:World) (a:Option Addr) (n c n' c':Nat),(binOp .eql 22 (.slice a n c) (.slice none n' c')).run Sq.prog w=.ok (.bool a.isNone) w:=fun w a n c n' c'=>Lib.run_eql_slice_nil w _ _ a n c n' c' Sq.underlying22
 cases A with
 | none =>
  have hl0:l=[]:=by
   cases l with
   | nil=>rfl
   | cons x l=>obtain ⟨_,_,e,_⟩:=HR.out (by simp);cases e
  subst hl0
  go_enter Sq.func68,Tryz.ntmps68
  go_wp2
  go_ret
  exact ⟨_,rfl,World.ownsRow_nil _ _ _ _,.refl _⟩
 | some ad =>
  have hcell:∀ j u,(l.map (Value.int .i64))[j]?=some u->w.cell? (ad.add j)=some u∧(ad.add j).block<w.heap.size:=fun j u hj=>by
   rw [List.getElem?_map] at hj
   cases hx:l[j]? with
   | none=>rw [hx] at hj;cases hj
   | some x =>
    rw [hx] at hj
    obtain ⟨b,o,e,hb,hc⟩:=HR.out (fun e=>by rw [e] at hx;simp at hx)
    obtain rfl:ad=⟨b,o,none⟩:=by injection e
    have e2:(⟨b,o,none⟩:Addr).add j=⟨b,o+j,none⟩:=Addr.add_lit _ _ _
    rw [e2]
    exact ⟨by rw [hc j x hx];exact hj,by show b<_;omega⟩
  have HC:=Lib.hid hcell
  clear hcell
  go_enter Sq.func68,Tryz.ntmps68
  go_wp2_with (at_builtin;refine wpList_append_gr rfl _ _ 22 rfl w.heap.size 3 i0 (.int .i64 0) 1 8 Sq.underlying22 hi hz0 hz1 hz2 rfl (by decide) _ _ _ rfl (World.ownsRow_made w #[] 0 (Nat.le_refl _) (Nat.zero_le _) rfl) ad l.length c (l.map (Value.int .i64)) rfl ?qc1 ?qc2 ?qc3 ?qc4 ?qc5 ?qc6 ?_)
  case qc1=>simp
  case qc2=>intro j u hj;exact (World.cell?_of_block (Below.heap_alloc _ _ _ (HC.out j u hj).2)).trans (HC.out j u hj).1
  case qc3=>intro u hu;obtain ⟨x,_,rfl⟩:=List.mem_map.1 hu;rfl
  case qc4=>unfold maxLen;omega
  case qc5=>omega
  case qc6=>simp
  intro v' w1 hown hgrow hd
  have hG:=Lib.hid (((Gr.refl w).alloc _).grown hgrow hd (by intro k hk;simp [Value.ownBlock] at hk;omega))
  have hO:=Lib.hid hown
  clear hown hgrow hd
  go_wp2
  go_ret
  exact ⟨v',rfl,by simpa using hO.out,hG.out⟩
theorem Sq.info54:(Sq.prog.info? 54).map (fun i=>(i.zero,i.size,i.bytes))=some (some (.agg #[.int .i64 0,.int .i64 0,.int .i64 0,.slice none 0 0]),4,48):=by
 rw [Sq.tab];kernel_rfl
def et (w:World) (b o n:Nat):List Value:=(List.range (n*4)).map fun j=>(w.cell? ⟨b,o+j,none⟩).getD (.int .i64 0)
theorem je {w:World} {b o n j:Nat} (hj:j<n*4):(et w b o n)[j]?=some ((w.cell? ⟨b,o+j,none⟩).getD (.int .i64 0)):=by simp [et,hj]
theorem ir (w:World) (b o n:Nat):(et w b o n).length=n*4:=by simp [et]
theorem hcell {w:World} {B b o:Nat} {l:List Herder} (hc:∀ (i:Nat) (h:Herder),l[i]?=some h->HAt w B b (o+i*4) h) {j:Nat} (hj:j<l.length*4):∃ u,w.cell? ⟨b,o+j,none⟩=some u∧u.oneCell'=true:=by
 obtain ⟨h1,h2,h3,A,c,h4,_⟩:=hc (j / 4) _ (List.getElem?_eq_getElem (show j / 4<l.length by omega))
 have:j % 4=0∨j % 4=1∨j % 4=2∨j % 4=3:=by omega
 rcases this with e | e | e | e
 ·rw [show o+j=o+j / 4*4 by omega];exact ⟨_,h1,rfl⟩
 ·rw [show o+j=o+j / 4*4+1 by omega];exact ⟨_,h2,rfl⟩
 ·rw [show o+j=o+j / 4*4+2 by omega];exact ⟨_,h3,rfl⟩
 ·rw [show o+j=o+j / 4*4+3 by omega];exact ⟨_,h4,rfl⟩
theorem pQ (b o c:Nat) (l:List Herder) (w:World) (B:Nat) (hb:b<B) (hB:B<=w.heap.size) (hc:∀ (i:Nat) (h:Herder),l[i]?=some h->HAt w B b (o+i*4) h) (hn:0<l.length) (hl:l.length<=1048576) :
  Calls Sq.prog 66 #[.slice (some ⟨b,o,none⟩) l.length c] w fun e w'=>∃ g cap,e=.returned (.slice (some ⟨g,0,none⟩) l.length cap)∧Gr w w'∧w.heap.size<=g∧g<w'.heap.size∧(∀ i,w'.frozen? ⟨g,i,none⟩=false) ∧
   ∀ (i:Nat) (h:Herder),l[i]?=some h->HAt w' B g (i*4) h:=by
 obtain ⟨i0,hi,hz0,hz1,hz2⟩:=info_parts Sq.info54
 have HC:=Lib.hid hc
 clear hc
 have q22:∀ (w:World) (a:Option Addr) (n c n' c':Nat),(binOp .eql 23 (.slice a n c) (.slice none n' c')).run Sq.prog w=.ok (.bool a.isNone) w:=fun w a n c n' c'=>Lib.run_eql_slice_nil w _ _ a n c n' c' Sq.underlying23
 go_enter Sq.func66,Tryz.ntmps66
 go_wp2_with (at_builtin;refine wpList_append_gr rfl _ _ 23 rfl w.heap.size 54 i0 _ 4 48 Sq.underlying23 hi hz0 hz1 hz2 rfl (by decide) _ _ _ rfl (World.ownsRow_made w #[] 0 (Nat.le_refl _) (Nat.zero_le _) rfl) ⟨b,o,none⟩ l.length c (et w b o l.length) rfl ?qc1 ?qc2 ?qc3 ?qc4 ?qc5 ?qc6 ?_)
 case qc1=>exact ir _ _ _ _
 case qc2 =>
  intro j u hj
  have hlt:j<l.length*4:=by have:=(List.getElem?_eq_some_iff.1 hj).1;rwa [ir] at this
  rw [je hlt] at hj
  obtain ⟨v,hv,_⟩:=hcell HC.out hlt
  rw [hv] at hj
  rw [Addr.add_lit,World.cell?_of_block (Below.heap_alloc _ _ _ (show b<w.heap.size by omega)),hv]
  exact hj
 case qc3 =>
  intro u hu
  obtain ⟨j,hj,rfl⟩:=List.mem_map.1 hu
  obtain ⟨v,hv,h1⟩:=hcell HC.out (List.mem_range.1 hj)
  rw [hv];exact h1
 case qc4=>unfold maxLen;omega
 case qc5=>omega
 case qc6=>simp
 intro v' w1 hown hgrow hd
 have hG:=Lib.hid (((Gr.refl w).alloc _).grown hgrow hd (by intro k hk;simp [Value.ownBlock] at hk;omega))
 have hown:w1.ownsRow w.heap.size 54 4 v' l.length (et w b o l.length):=by simpa using hown
 obtain ⟨g,cap,rfl,_,_⟩:=hown.form hn
 have hO:=Lib.hid hown
 clear hgrow hd hown
 go_wp2
 go_ret
 refine ⟨g,cap,rfl,hG.out,(hO.out.lt g rfl).1,(hO.out.lt g rfl).2,fun i=>?_,fun i h hi=>?_⟩
 ·rcases hO.out.2 with ⟨h,_⟩ | ⟨g',c',cur,h,_,hb,_⟩
  ·cases h
  ·obtain ⟨rfl⟩:g=g':=by injection h with h1;injection h1 with h2;injection h2
   simp [World.frozen?,hb]
 ·have hil:i<l.length:=(List.getElem?_eq_some_iff.1 hi).1
  have key:∀ k u,k<4->w.cell? ⟨b,o+i*4+k,none⟩=some u->w1.cell? ⟨g,i*4+k,none⟩=some u:=fun k u hk hu=>by
   have hlt:i*4+k<l.length*4:=by omega
   have:=hO.out.cells (g:=g) rfl (i*4+k) u (by rw [je hlt,<- Nat.add_assoc,hu];rfl)
   rwa [Addr.add_lit,Nat.zero_add] at this
  obtain ⟨h1,h2,h3,A,c',h4,h5⟩:=HC.out i h hi
  exact ⟨key 0 _ (by omega) h1,key 1 _ (by omega) h2,key 2 _ (by omega) h3,A,c',key 3 _ (by omega) h4,h5.gr hB hG.out⟩
end Go.Proofs.YtgicaeombogkcaaGreat
namespace Go.Sq
def owCells (h:Herder) (A:Option Addr) (c:Nat):List Value:=[.int .i64 h.heads,.int .i64 h.dogs,.int .i64 h.most,.slice A h.off.length c,.int .i64 h.heads]
end Go.Sq
namespace Go.Proofs.YtgicaeombogkcaaGreat
open Go.RowKit Go.Sq
theorem Sq.info209:(Sq.prog.info? 209).map (fun i=>(i.zero,i.size,i.bytes))=some (some (.agg #[.int .i64 0,.int .i64 0,.int .i64 0,.slice none 0 0,.int .i64 0]),5,56):=by
 rw [Sq.tab];kernel_rfl
theorem sj {w:World} {ops:Array Oper} {rest:List Oper} {o:Oper} {a:Act} {Q:Exit->Act->World->Prop} (hgd:o.guard=none) (s x:Operand) (ho:o.op=.call { callee:=.builtin .append,args:=#[s,x],argTypes:=#[205,205] })
  (base:Nat) (v:Value) (n:Nat) (xs:List Value) (hs:a.eval s=v) (hown:w.ownsRow base 209 5 v n xs) (ad:Addr) (c:Nat) (news:List Value) (hx:a.eval x=.slice (some ad) 1 c) (h5:news.length=5) (hc:∀ (j:Nat) (u:Value),news[j]?=some u->w.cell? (ad.add j)=some u) (h1:∀ u∈news,u.oneCell'=true)
  (hn:n<=1048576) (hbase:base<=w.heap.size) (h:∀ v' w',w'.ownsRow base 209 5 v' (n+1) (xs++news)->w.grownBy w' v.ownBlock->w.drawn<=w'.drawn->wpList Sq.prog ops Q rest (a.put o.dst v') w'):wpList Sq.prog ops Q (o :: rest) a w:=by
 obtain ⟨i0,hi,hz0,hz1,hz2⟩:=info_parts Sq.info209
 exact wpList_append_gr hgd s x 205 ho base 209 i0 _ 5 56 ((Sq.underlying 205).trans Tryz.underlying205) hi hz0 hz1 hz2 rfl (by decide) v n xs hs hown ad 1 c news hx (by omega) hc h1 (by unfold maxLen;omega) (by omega) hbase h
theorem pR (cb:Nat) (nA hA:Option Addr) (nc hc:Nat) (c:Camp) (w:World) (B:Nat) (hB:B<=w.heap.size) (h:CampP w B cb c nA hA nc hc) (hl:c.herders.length<=1048576) :
  Calls Sq.prog 155 #[.pointer (some ⟨cb,0,none⟩)] w fun e w'=>∃ v xs,e=.returned v∧w'.ownsRow w.heap.size 209 5 v c.herders.length xs∧Gr w w'∧∀ i,i<c.herders.length->∃ A m,∀ j,j<5->xs[i*5+j]?=(owCells (c.h i) A m)[j]?:=by
 have hc1:=h.c1
 have hlt:=h.lt
 have HH:=Lib.hid h.herds
 clear h
 go_enter Sq.func155,Tryz.ntmps155
 go_wp2
 go_loopw [3,13] (fun v i wr=>∃ k:Nat,k<=c.herders.length∧i=.int .i64 k∧Gr w wr∧∃ xs,wr.ownsRow w.heap.size 209 5 v k xs∧∀ i,i<k->∃ A m,∀ j,j<5->xs[i*5+j]?=(owCells (c.h i) A m)[j]?) (fun _ i _=>c.herders.length - (intOf i).toNat)
 case atStart=>exact ⟨0,by omega,rfl,.refl _,[],World.ownsRow_nil _ _ _ _,fun i hi=>absurd hi (by omega)⟩
 case round =>
  obtain ⟨k,hk,rfl,hg,xs,hown,hxs⟩:=hrel
  have HG:=Lib.hid hg
  have HX:=Lib.hid hxs
  clear hg hxs
  by_cases hltk:k<c.herders.length
  ·obtain ⟨b,o,rfl,hb,h0,h1,h2,A_,m,h3,_⟩:=(HH.out.keep (w':=wr) fun b o hb=>HG.out.cell (Nat.lt_of_lt_of_le hb hB)).at_ hltk
   have hz:=HG.out.size
   go_wp2_with (at_builtin;refine sj rfl _ _ rfl w.heap.size _ _ _ rfl ((hown.alloc _).alloc _ |>.alloc _) ⟨wr.heap.size+1+1,0,none⟩ 1 (owCells (c.h k) A_ m) rfl rfl ?c1 ?c2 ?c3 ?c4 ?_)
   case c1 =>
    intro j u hj
    rw [Addr.add_lit,Nat.zero_add,World.cell?_alloc_at _ _ _ _ (by simp)]
    match j,hj with
    | 0,hj=>exact hj
    | 1,hj=>exact hj
    | 2,hj=>exact hj
    | 3,hj=>exact hj
    | 4,hj=>exact hj
    | j+5,hj=>simp [owCells] at hj
   case c2=>intro u hu;simp [owCells] at hu;rcases hu with rfl | rfl | rfl | rfl | rfl<;>rfl
   case c3=>omega
   case c4=>simp;omega
   intro v' w3 hown' hgrow hd
   have HG3:=Lib.hid ((((HG.out.alloc _).alloc _).alloc _).grown hgrow hd fun q hq=>(hown.lt q hq).1)
   have hlen:xs.length=k*5:=hown.1
   have HX3:Hid (∀ i,i<k+1->∃ A m',∀ j,j<5->(xs++owCells (c.h k) A_ m)[i*5+j]?=(owCells (c.h i) A m')[j]?):=Lib.hid fun i hi=>by
    rcases Nat.lt_or_ge i k with h | h
    ·obtain ⟨A',m',hh⟩:=HX.out i h
     exact ⟨A',m',fun j hj=>by rw [List.getElem?_append_left (by omega)];exact hh j hj⟩
    ·obtain rfl:i=k:=by omega
     exact ⟨A_,m,fun j hj=>by rw [List.getElem?_append_right (by omega),hlen];congr 1;omega⟩
   have HO3:=Lib.hid hown'
   clear hown' hgrow hd hown
   go_wp2
   go_roundw
   case rel=>exact ⟨k+1,by omega,by go_num,HG3.out,_,HO3.out,HX3.out⟩
   case measure=>simp [intOf];omega
  ·have hkl:k=c.herders.length:=by omega
   subst hkl
   have HO:=Lib.hid hown
   clear hown
   go_wp2
   go_ret
   exact ⟨_,xs,rfl,HO.out,HG.out,HX.out⟩
end Go.Proofs.YtgicaeombogkcaaGreat
namespace Go.Sq
open Go.RowKit
structure OwW (w:World) (g:Nat) (l:List Int):Prop where
 lt:g<w.heap.size
 left:∀ (i:Nat) (x:Int),l[i]?=some x->w.cell? ⟨g,i*5+4,none⟩=some (.int .i64 x)
 free:∀ o,w.frozen? ⟨g,o,none⟩=false
 rest:∀ (i:Nat) (x:Int),l[i]?=some x->∃ (n0 n1 n2:Int) (A:Option Addr) (m c:Nat),w.cell? ⟨g,i*5,none⟩=some (.int .i64 n0)∧w.cell? ⟨g,i*5+1,none⟩=some (.int .i64 n1)∧w.cell? ⟨g,i*5+2,none⟩=some (.int .i64 n2)∧w.cell? ⟨g,i*5+3,none⟩=some (.slice A m c)
theorem OwW.owAt {w:World} {g:Nat} {l:List Int} (h:OwW w g l):OwAt w w.heap.size (some ⟨g,0,none⟩) l:=fun _=>⟨g,0,rfl,h.lt,fun i x hx=>by
 simp only [Nat.zero_add]
 exact ⟨h.left i x hx,h.rest i x hx⟩⟩
theorem OwW.keep {w w':World} {g:Nat} {l:List Int} (h:OwW w g l) (hz:w.heap.size<=w'.heap.size) (hk:w'.heap[g]?=w.heap[g]?):OwW w' g l:=by
 have e:∀ o,w'.cell? ⟨g,o,none⟩=w.cell? ⟨g,o,none⟩:=fun o=>World.cell?_of_block hk
 refine ⟨Nat.lt_of_lt_of_le h.lt hz,fun i x hx=>(e _).trans (h.left i x hx),fun o=>(World.frozen?_of_block hk).trans (h.free o),fun i x hx=>?_⟩
 obtain ⟨n0,n1,n2,A,m,c,h0,h1,h2,h3⟩:=h.rest i x hx
 exact ⟨n0,n1,n2,A,m,c,(e _).trans h0,(e _).trans h1,(e _).trans h2,(e _).trans h3⟩
theorem OwW.set {w:World} {g:Nat} {l:List Int} (h:OwW w g l) {k:Nat} (hk:k<l.length) (y:Int):OwW (w.setCell ⟨g,k*5+4,none⟩ (.int .i64 y)) g (l.set k y):=by
 have hz:(w.setCell ⟨g,k*5+4,none⟩ (.int .i64 y)).heap.size=w.heap.size:=by simp [World.setCell]
 have old:∀ i x,(l.set k y)[i]?=some x->∃ x',l[i]?=some x':=fun i x hx=>by
  have:=(List.getElem?_eq_some_iff.1 hx).1
  rw [List.length_set] at this
  exact ⟨_,List.getElem?_eq_getElem this⟩
 refine ⟨by rw [hz];exact h.lt,fun i x hx=>?_,fun o=>(World.frozen?_setCell _ _ _ _).trans (h.free o),fun i x hx=>?_⟩
 ·by_cases e:i=k
  ·subst e
   rw [List.getElem?_set_self hk] at hx
   cases hx
   exact World.cell?_setCell_same _ _ _ (h.left i _ (List.getElem?_eq_getElem hk))
  ·rw [List.getElem?_set_ne (Ne.symm e)] at hx
   rw [World.cell?_setCell_other _ _ _ _ (by simp<;>omega)]
   exact h.left i x hx
 ·obtain ⟨x',hx'⟩:=old i x hx
  obtain ⟨n0,n1,n2,A,m,c,h0,h1,h2,h3⟩:=h.rest i x' hx'
  refine ⟨n0,n1,n2,A,m,c,?_,?_,?_,?_⟩
  all_goals rw [World.cell?_setCell_other _ _ _ _ (by simp<;>omega)]
  ·exact h0
  ·exact h1
  ·exact h2
  ·exact h3
def az:List (Int×Int)->List Value
 | []=>[]
 | p :: l=>.int .i64 p.1 :: .int .i64 p.2 :: az l
theorem ju (l m:List (Int×Int)):az (l++m)=az l++az m:=by
 induction l with
 | nil=>rfl
 | cons p l ih=>simp [az,ih]
theorem fN {l:List (Int×Int)} {i:Nat} (h:i<l.length):(az l)[i*2]?=some (.int .i64 (l[i]?.getD (0,0)).1)∧(az l)[i*2+1]?=some (.int .i64 (l[i]?.getD (0,0)).2):=by
 induction l generalizing i with
 | nil=>simp at h
 | cons p l ih =>
  cases i with
  | zero=>exact ⟨rfl,rfl⟩
  | succ i =>
   have:=ih (i:=i) (by simpa using h)
   rw [Nat.succ_mul]
   simpa [az] using this
end Go.Sq
namespace Go.Proofs.YtgicaeombogkcaaGreat
open Go.RowKit Go.Sq
theorem Sq.info176:(Sq.prog.info? 176).map (fun i=>(i.zero,i.size,i.bytes))=some (some (.agg #[.int .i64 0,.int .i64 0]),2,16):=by
 rw [Sq.tab];kernel_rfl
theorem sn {w:World} {ops:Array Oper} {rest:List Oper} {o:Oper} {a:Act} {Q:Exit->Act->World->Prop} (hgd:o.guard=none) (s x:Operand) (ho:o.op=.call { callee:=.builtin .append,args:=#[s,x],argTypes:=#[173,173] })
  (base:Nat) (v:Value) (n:Nat) (xs:List Value) (hs:a.eval s=v) (hown:w.ownsRow base 176 2 v n xs) (ad:Addr) (c:Nat) (u1 u2:Value) (hx:a.eval x=.slice (some ad) 1 c) (hc1:w.cell? (ad.add 0)=some u1) (hc2:w.cell? (ad.add 1)=some u2) (h1:u1.oneCell'=true) (h2:u2.oneCell'=true)
  (hn:n<=1048576) (hbase:base<=w.heap.size) (h:∀ v' w',w'.ownsRow base 176 2 v' (n+1) (xs++[u1,u2])->w.grownBy w' v.ownBlock->w.drawn<=w'.drawn->wpList Sq.prog ops Q rest (a.put o.dst v') w'):wpList Sq.prog ops Q (o :: rest) a w:=by
 obtain ⟨i0,hi,hz0,hz1,hz2⟩:=info_parts Sq.info176
 refine wpList_append_gr hgd s x 173 ho base 176 i0 _ 2 16 ((Sq.underlying 173).trans Tryz.underlying173) hi hz0 hz1 hz2 rfl (by decide) v n xs hs hown ad 1 c [u1,u2] hx rfl (fun j u hj=>?_) (fun u hu=>?_) (by unfold maxLen;omega) (by omega) hbase h
 ·match j,hj with
  | 0,hj=>cases hj;exact hc1
  | 1,hj=>cases hj;exact hc2
 ·simp only [List.mem_cons,List.not_mem_nil,or_false] at hu
  rcases hu with rfl | rfl
  ·exact h1
  ·exact h2
theorem pS (cb:Nat) (nA hA A:Option Addr) (nc hc wc:Nat) (c:Camp) (r:Ros) (ws:List Int) (w:World) (h:CampP w w.heap.size cb c nA hA nc hc) (hok:c.Ok) (hr:∀ i,c.has (r i)) (hws:∀ x∈ws,0<=x∧x<=60) (hw5:ws.length<=5) (hw:RI w w.heap.size A ws) :
  Calls Sq.prog 118 #[.pointer (some ⟨cb,0,none⟩),rosV r,.slice A ws.length wc] w fun e w'=>∃ v,e=.returned v∧w'.ownsRow (w.heap.size+1) 176 2 v (lossesL c r ws).length (az (lossesL c r ws))∧Gr w w':=by
 obtain ⟨W0,hW0⟩:∃ W0:World,W0=w.alloc (.cells #[.int .u8 (r 0),.int .u8 (r 1),.int .u8 (r 2),.int .u8 (r 3),.int .u8 (r 4)] 91):=⟨_,rfl⟩
 have hg0:Gr w W0:=hW0▸(Gr.refl w).alloc _
 have hz0:W0.heap.size=w.heap.size+1:=by rw [hW0];simp
 have hcp:CampP W0 W0.heap.size cb c nA hA nc hc:=h.on hg0
 have HOWN:=Lib.hid (pR cb nA hA nc hc c W0 W0.heap.size (Nat.le_refl _) hcp (by have:=hok.h4;omega))
 have HCP:=Lib.hid hcp
 have HRC:Hid (∀ i,i<5->W0.cell? ⟨w.heap.size,i,none⟩=some (.int .u8 (r i:Nat))):=Lib.hid fun i hi=>by
  rw [hW0,World.cell?_alloc_at _ _ _ _ (by simp)]
  match i,hi with
  | 0,_=>rfl
  | 1,_=>rfl
  | 2,_=>rfl
  | 3,_=>rfl
  | 4,_=>rfl
 have HRI:=Lib.hid (hw.gr (Nat.le_refl _) hg0)
 have HW:=Lib.hid hW0
 have HG0:=Lib.hid hg0
 have HOK:=Lib.hid hok
 have HR:=Lib.hid hr
 have HWS:=Lib.hid hws
 clear hW0 hg0 hcp h hok hr hws hw
 unfold rosV
 go_enter Sq.func118,Tryz.ntmps118
 go_wp2_with fail
 rw [<- HW.out]
 refine HOWN.out.mono ?_
 rintro e w1 ⟨v1,xs,rfl,hown,hg1,hxs⟩
 have h1:=HOK.out.h1
 obtain ⟨g,cap,rfl,hgl⟩:∃ g cap,v1=.slice (some ⟨g,0,none⟩) c.herders.length cap∧W0.heap.size<=g:=by
  rcases hown.2 with ⟨_,h0⟩ | ⟨g,cap,cur,rfl,h2,_⟩
  ·omega
  ·exact ⟨g,cap,rfl,h2⟩
 have hoW:OwW w1 g (lossAll c r ws 0).1:=by
  have hl0:(lossAll c r ws 0).1=c.herders.map (·.heads):=rfl
  have hcell:=hown.cells (g:=g) rfl
  have e5:∀ i x,(lossAll c r ws 0).1[i]?=some x->∃ A m,x=(c.h i).heads∧∀ j,j<5->∀ u,(owCells (c.h i) A m)[j]?=some u->w1.cell? ⟨g,i*5+j,none⟩=some u:=fun i x hx=>by
   rw [hl0] at hx
   have hil:i<c.herders.length:=by have:=(List.getElem?_eq_some_iff.1 hx).1;simpa using this
   obtain ⟨A',m,hh⟩:=hxs i hil
   refine ⟨A',m,?_,fun j hj u hu=>?_⟩
   ·rw [List.getElem?_map,List.getElem?_eq_getElem hil] at hx
    cases hx
    unfold Camp.h;rw [List.getElem?_eq_getElem hil];rfl
   ·have:=hcell (i*5+j) u ((hh j hj).trans hu)
    have e:(⟨g,0,none⟩:Addr).add (i*5+j)=⟨g,0+(i*5+j),none⟩:=by unfold Addr.add;split<;>simp_all
    rw [e,Nat.zero_add] at this
    exact this
  refine ⟨(hown.lt g rfl).2,fun i x hx=>?_,fun o=>?_,fun i x hx=>?_⟩
  ·obtain ⟨A',m,rfl,hc⟩:=e5 i x hx
   exact hc 4 (by omega) _ rfl
  ·rcases hown.2 with ⟨hb,_⟩ | ⟨g2,cap2,cur,e2,_,hb,_⟩
   ·cases hb
   ·have e3:g=g2:=by injection e2 with a;injection a with a;injection a
    subst e3
    unfold World.frozen?
    rw [hb]
    simp
  ·obtain ⟨A',m,rfl,hc⟩:=e5 i x hx
   exact ⟨_,_,_,_,_,_,hc 0 (by omega) _ rfl,hc 1 (by omega) _ rfl,hc 2 (by omega) _ rfl,hc 3 (by omega) _ rfl⟩
 have HOW:=Lib.hid hoW
 have HG1:=Lib.hid hg1
 have hg1s:=(hown.lt g rfl).2
 have hz1:=hg1.size
 clear hown hg1 hxs hoW HOWN
 go_wp2
 go_loopw [7,16] (fun v i wr=>∃ k:Nat,k<=ws.length∧i=.int .i64 k∧Gr W0 wr∧OwW wr g (lossAll c r ws k).1∧wr.ownsRow w1.heap.size 176 2 v (lossAll c r ws k).2.length (az (lossAll c r ws k).2)∧w1.heap.size<=wr.heap.size) (fun _ i _=>ws.length - (intOf i).toNat)
 case atStart=>exact ⟨0,by omega,rfl,HG1.out,HOW.out,World.ownsRow_nil _ _ _ _,Nat.le_refl _⟩
 case round =>
  obtain ⟨wq,rfl⟩:∃ wq,wq=wr:=⟨_,rfl⟩
  obtain ⟨k,hk,rfl,hgr,hoq,hown,hzq⟩:=hrel
  have HGR:=Lib.hid hgr
  have HOQ:=Lib.hid hoq
  have HON:=Lib.hid hown
  by_cases hlt:k<ws.length
  ·obtain ⟨b,o,rfl,hb,hcw⟩:=(HRI.out.gr (by omega) hgr).at_ hlt
   have hrc:wq.cell? ⟨w.heap.size,k,none⟩=some (.int .u8 (r k:Nat)):=(hgr.cell (by show w.heap.size<_;omega)).trans (HRC.out k (by omega))
   have HD:=Lib.hid (nf cb c (r k) wq (HCP.out.on hgr) HOK.out.h4 HOK.out.dogs (HR.out k))
   have hdb:=dogs_bd c (HR.out k) HOK.out.dogs (c.dogL (r k)).length
   rw [List.take_length,<- Camp.dogs_eq] at hdb
   have hx:=HWS.out _ (mem_get ws k hlt)
   have HTM:=Lib.hid (show tooMany c r ws k=(ws[k]?.getD 0 - c.dogs (r k)).toNat from rfl)
   obtain ⟨T,hT⟩:∃ T,T=tooMany c r ws k:=⟨_,rfl⟩
   rw [<- hT] at HTM
   have HTT:=Lib.hid hT
   have hok2:=LossOk.all HOK.out (r:=r) (ws:=ws) (Nat.le_refl _) k hk
   have HLO:=Lib.hid hok2
   generalize c.dogs (r k)=D at HD hdb HTM
   generalize ws[k]?.getD 0=x at hcw hx HTM
   have hmax:(max 0 (x - D):Int)=(T:Int):=by rw [HTM.out];omega
   have hmax':(if (x - D)<0 then (0:Int) else x - D)=(T:Int):=by rw [HTM.out];split<;>omega
   have hT60:T<=60:=by rw [HTM.out];omega
   clear hgr hoq hown hT hok2
   go_wp2_with fail
   refine HD.out.mono ?_
   rintro e w2 ⟨rfl,hg2⟩
   have HG2:=Lib.hid (HGR.out.trans hg2)
   have hg2':=hg2
   have hz2:=hg2.size
   have HOQ2:=Lib.hid (HOQ.out.keep hg2.size (hg2.below.block g HOQ.out.lt))
   have HON2:=Lib.hid (aH HON.out fun q _ hl=>hg2.below.block q hl)
   have hgT:(T:Int)<=60:=by omega
   clear hg2 hg2' HD
   go_wp2
   go_loopw [7,29] (fun v i wr=>∃ m:Nat,m<=T∧i=.int .i64 m∧Gr W0 wr∧OwW wr g (lossIt k (lossAll c r ws k) m).1∧wr.ownsRow w1.heap.size 176 2 v (lossIt k (lossAll c r ws k) m).2.length (az (lossIt k (lossAll c r ws k) m).2)∧w1.heap.size<=wr.heap.size) (fun _ i _=>T - (intOf i).toNat)
   case atStart=>exact ⟨0,by omega,rfl,HG2.out,HOQ2.out,HON2.out,by omega⟩
   case round =>
    obtain ⟨m,hm,rfl,hgi,hoi,honi,hzi⟩:=hrel
    have HGI:=Lib.hid hgi
    have HOI:=Lib.hid hoi
    have HONI:=Lib.hid honi
    clear hgi hoi honi
    by_cases hlm:m<T
    ·have hlo:=HLO.out.it (d:=k) hlt m
     have HLI:=Lib.hid hlo
     obtain ⟨S,hS⟩:∃ S,S=lossIt k (lossAll c r ws k) m:=⟨_,rfl⟩
     have HS1:Hid (lossIt k (lossAll c r ws k) (m+1)=cQ k S):=Lib.hid (by rw [hS];rfl)
     rw [<- hS] at HOI HONI HLI
     have HST:=Lib.hid (fun h:mostN S.1 S.1.length<0=>(kV (c:=c) (r:=r) (ws:=ws) (k:=k) (m:=m) hlt (by rw [<- HTT.out];omega) (by rw [<- hS];exact h)).trans (by rw [<- hS]))
     have HMOST:=Lib.hid (si (some ⟨g,0,none⟩) cap S.1 wr wr.heap.size (Nat.le_refl _) HOI.out.owAt (by rw [HLI.out.len];have:=HOK.out.h4;omega))
     have hlen:=HLI.out.len
     have HCNT:=Lib.hid (show S.2.length<=160 by
      have h1:=sum_bound 0 40 _ HLI.out.low
      have h2:=HLI.out.count
      omega)
     have hml:=gH S.1 S.1.length
     have HSTEP:Hid (cQ k S=if mostN S.1 S.1.length<0 then S else (S.1.set (mostN S.1 S.1.length).toNat (S.1[(mostN S.1 S.1.length).toNat]?.getD 0 - 1),S.2++[((k:Int),mostN S.1 S.1.length)])):=Lib.hid rfl
     rw [hlen] at HMOST HST HSTEP hml
     have hS':=Lib.hid hS
     clear hS hlo
     generalize mostN S.1 c.herders.length=q at HMOST HST HSTEP hml
     by_cases hq:q<0
     ·have HLL:=Lib.hid (HST.out hq)
      have hqd:decide (q<0)=true:=by simpa using hq
      clear HST HSTEP
      go_wp2_with fail
      refine HMOST.out.mono ?_
      rintro e w3 ⟨rfl,hg3⟩
      have HG3:=Lib.hid hg3
      have HON3:=Lib.hid (aH HONI.out fun q _ hl=>hg3.below.block q hl)
      clear hg3 HMOST
      go_wp2
      go_ret
      refine ⟨_,rfl,?_,HG0.out.trans (HGI.out.trans HG3.out)⟩
      rw [HLL.out]
      exact dK HON3.out (by omega)
     ·obtain ⟨j,rfl⟩:∃ j:Nat,q=j:=⟨q.toNat,by omega⟩
      have HSS:=Lib.hid (HS1.out.trans (HSTEP.out.trans (if_neg hq)))
      rw [Int.toNat_natCast] at HSS
      have hjl:j<S.1.length:=by omega
      have hlow:=HLI.out.low _ (mem_get S.1 j hjl)
      have HLF:=Lib.hid (HOI.out.left j _ (List.getElem?_eq_getElem hjl))
      have hqd:decide ((j:Int)<0)=false:=by simp
      clear HST HSTEP HS1 hq
      go_wp2_with fail
      refine HMOST.out.mono ?_
      rintro e w3 ⟨rfl,hg3⟩
      have HG3:=Lib.hid hg3
      have hb3:=hg3.below.block g HOI.out.lt
      have HON3:=Lib.hid (aH HONI.out fun q _ hl=>hg3.below.block q hl)
      have HOW3:=Lib.hid (HOI.out.keep hg3.size hb3)
      have hz3:=hg3.size
      have hcell:w3.cell? ⟨g,j*5+4,none⟩=some (.int .i64 (S.1[j]?.getD 0)):=by
       rw [List.getElem?_eq_getElem hjl];exact HOW3.out.left j _ (List.getElem?_eq_getElem hjl)
      have hfz:=HOW3.out.free (j*5+4)
      have HX:Hid (OwW (w3.setCell ⟨g,j*5+4,none⟩ (.int .i64 (S.1[j]?.getD 0 - 1))) g (S.1.set j (S.1[j]?.getD 0 - 1))):=Lib.hid (HOW3.out.set hjl _)
      generalize S.1[j]?.getD 0=y at hlow hcell HX HSS
      have hjh:j<c.herders.length:=by omega
      have hglt:g<w3.heap.size:=HOW3.out.lt
      have hgz:g<w1.heap.size:=hg1s
      clear hg3 HMOST
      go_wp2_with (at_builtin;refine sn rfl _ _ rfl w1.heap.size _ _ _ rfl ((ownsRow_setCell_below HON3.out (by show g<_;omega) _).alloc _) ⟨w3.heap.size,0,none⟩ 1 (.int .i64 k) (.int .i64 j) rfl ?c1 ?c2 rfl rfl ?c3 ?c4 ?_)
      case c1=>rw [Addr.add_lit,World.cell?_alloc_at _ _ _ _ (by simp)];rfl
      case c2=>rw [Addr.add_lit,World.cell?_alloc_at _ _ _ _ (by simp)];rfl
      case c3=>have:=HCNT.out;omega
      case c4=>simp;omega
      intro v' w4 hown' hgrow hd
      have hsz4:=hgrow.size
      simp only [World.size_alloc] at hsz4
      have hGr4:Gr W0 w4:=(((HGI.out.trans HG3.out).setCell (p:=⟨g,j*5+4,none⟩) (by show _<=g;omega) (.int .i64 (y - 1))).alloc _).grown hgrow hd fun q hq=>by have:=(HON3.out.lt q hq).1;omega
      have hne:some g≠_:=db HON3.out hgz
      have hbk:=(hgrow.block g (by simp [World.setCell];omega) hne).trans (heap_alloc_old _ _ (by simp [World.setCell];omega))
      have HOW4:=Lib.hid (HX.out.keep (w':=w4) (by simp [World.setCell] at hsz4 ⊢;omega) hbk)
      have HGR4:=Lib.hid hGr4
      have HLEN4:Hid ((lossIt k (lossAll c r ws k) (m+1)).2.length=S.2.length+1∧az (lossIt k (lossAll c r ws k) (m+1)).2=az S.2++[.int .i64 k,.int .i64 j]):=Lib.hid (by rw [HSS.out,ju];exact ⟨by simp,rfl⟩)
      have HO4:Hid (w4.ownsRow w1.heap.size 176 2 v' (lossIt k (lossAll c r ws k) (m+1)).2.length (az (lossIt k (lossAll c r ws k) (m+1)).2)):=Lib.hid (by rw [HLEN4.out.1,HLEN4.out.2];exact hown')
      have HX4:Hid (OwW w4 g (lossIt k (lossAll c r ws k) (m+1)).1):=Lib.hid (by rw [HSS.out];exact HOW4.out)
      have hz4:w1.heap.size<=w4.heap.size:=by simp [World.setCell] at hsz4;omega
      clear hown' hgrow hd hGr4 hbk hne hsz4
      go_wp2
      go_roundw
      case rel=>exact ⟨m+1,by omega,by go_num,HGR4.out,HX4.out,HO4.out,hz4⟩
      case measure=>simp [intOf];omega
    ·have hmt:m=T:=by omega
     have HE:Hid (lossAll c r ws (k+1)=lossIt k (lossAll c r ws k) m):=Lib.hid (by rw [hmt,HTT.out];rfl)
     rw [<- HE.out] at HOI HONI
     subst hmt
     go_wp2
     go_roundw
     case rel=>exact ⟨k+1,by omega,by go_num,HGI.out,HOI.out,HONI.out,hzi⟩
     case measure=>simp [intOf];omega
  ·have hkn:k=ws.length:=by omega
   subst hkn
   go_wp2
   go_ret
   exact ⟨_,rfl,dK HON.out (by omega),HG0.out.trans HGR.out⟩
end Go.Proofs.YtgicaeombogkcaaGreat
