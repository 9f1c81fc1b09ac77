/- Parts of the proof. -/
import Derived.Test.YtgicaeombogkcaaGreatP21
import Derived.Test.YtgicaeombogkcaaGreatP22
import Derived.Test.YtgicaeombogkcaaGreatP00
import Derived.Test.YtgicaeombogkcaaGreatP01
import Derived.Test.YtgicaeombogkcaaGreatP17
import Derived.Test.YtgicaeombogkcaaGreatP18
import Derived.Shelf.Sort.Plain
import Derived.Sort.BigQuietIn
set_option linter.all false
set_option maxHeartbeats 3200000
set_option maxRecDepth 1000000
namespace Go.Sq
theorem RsAt_of_own {w:World} {base:Nat} {v:Value} {l:List (Int×Int)} (h:w.ownsRow base 176 2 v l.length (az l)):∃ A c,v=.slice A l.length c∧RsAt w w.heap.size A l:=by
 rcases h.2 with ⟨rfl,h0⟩ | ⟨g,cap,cur,rfl,_,hg,_⟩
 ·have:l=[]:=List.eq_nil_of_length_eq_zero h0
  subst this
  exact ⟨none,0,rfl,fun h=>absurd rfl h⟩
 ·refine ⟨_,cap,rfl,fun _=>⟨g,0,rfl,(Array.getElem?_eq_some_iff.1 hg).1,fun i x hx=>?_⟩⟩
  have hi:=(List.getElem?_eq_some_iff.1 hx).1
  have hx':l[i]?.getD (0,0)=x:=by rw [hx];rfl
  have e:∀ j,(⟨g,0,none⟩:Addr).add j=⟨g,0+j,none⟩:=fun j=>by unfold Addr.add;split<;>simp_all
  have h1:=h.cells (g:=g) rfl _ _ (fN hi).1
  have h2:=h.cells (g:=g) rfl _ _ (fN hi).2
  rw [e,hx'] at h1 h2
  exact ⟨h1,by rw [Nat.add_assoc];exact h2⟩
def RsK (w:World) (K:Nat->Prop) (A:Option Addr) (l:List (Int×Int)):Prop :=
 l≠[]->∃ b o,A=some ⟨b,o,none⟩∧K b∧∀ (i:Nat) (x:Int×Int),l[i]?=some x->w.cell? ⟨b,o+i*2,none⟩=some (.int .i64 x.1)∧w.cell? ⟨b,o+i*2+1,none⟩=some (.int .i64 x.2)
theorem RsK_of_own {w:World} {base:Nat} {v:Value} {l:List (Int×Int)} (h:w.ownsRow base 176 2 v l.length (az l)):∃ A c,v=.slice A l.length c∧RsK w (fun b=>base<=b∧b<w.heap.size) A l:=by
 obtain ⟨A,c,rfl,h2⟩:=RsAt_of_own h
 refine ⟨A,c,rfl,fun hn=>?_⟩
 obtain ⟨b,o,rfl,hb,hc⟩:=h2 hn
 exact ⟨b,o,rfl,⟨(h.lt b rfl).1,hb⟩,hc⟩
theorem RIK_of_own {w:World} {base:Nat} {v:Value} {l:List Int} (h:w.ownsRow base 3 1 v l.length (l.map (Value.int .i64))):∃ A c,v=.slice A l.length c∧RIK w (fun b=>base<=b∧b<w.heap.size) A l:=by
 obtain ⟨A,c,rfl,h2⟩:=RI.of_own h
 refine ⟨A,c,rfl,fun hn=>?_⟩
 obtain ⟨b,o,rfl,hb,hc⟩:=h2 hn
 exact ⟨b,o,rfl,⟨(h.lt b rfl).1,hb⟩,hc⟩
def KP (n:Nat) (bl:Nat->Nat) (w w':World):Prop:=w.heap.size<=w'.heap.size∧∀ b,b<w.heap.size->(∀ h,h<n->bl h≠b)->w'.heap[b]?=w.heap[b]?
section
variable {n:Nat} {bl:Nat->Nat} {w w' w2:World}
theorem KP.refl (n:Nat) (bl:Nat->Nat) (w:World):KP n bl w w:=⟨Nat.le_refl _,fun _ _ _=>rfl⟩
theorem KP.trans (h:KP n bl w w') (k:KP n bl w' w2):KP n bl w w2:=⟨Nat.le_trans h.1 k.1,fun b hb hk=>(k.2 b (Nat.lt_of_lt_of_le hb h.1) hk).trans (h.2 b hb hk)⟩
theorem KP.gr (h:Gr w w'):KP n bl w w':=⟨h.size,fun b hb _=>h.below.block b hb⟩
theorem KP.set {a:Nat} (ha:a<n) (t:Nat) (v:Value):KP n bl w (w.setCell ⟨bl a,t,none⟩ v):=⟨by simp [World.setCell],fun b _ hk=>by rw [Go.Iso.setCell_get];exact if_neg (fun e=>hk a ha e.symm)⟩
theorem KP.drew (h:KP n bl w w'):KP n bl w w'.drew:=h
theorem KP.cell (h:KP n bl w w') {b:Nat} (hb:b<w.heap.size) (hk:∀ h,h<n->bl h≠b) (o:Nat):w'.cell? ⟨b,o,none⟩=w.cell? ⟨b,o,none⟩:=World.cell?_of_block (h.2 b hb hk)
end
def owesM (p:Int) (r:Ros) (ls:List (Int×Int)) (k i h t:Nat):Int :=
 owesK p r ls h t k+if (ls[k]?.getD (0,0)).2=t∧h≠t then partK p (wl (r (ls[k]?.getD (0,0)).1.toNat)) h i else 0
theorem mK (p:Int) (r:Ros) (ls:List (Int×Int)) (k h t:Nat):owesM p r ls k 0 h t=owesK p r ls h t k:=by unfold owesM partK;split<;>simp
theorem oy (p:Int) (r:Ros) (ls:List (Int×Int)) (k h t:Nat):owesM p r ls k (wl (r (ls[k]?.getD (0,0)).1.toNat)).length h t=owesK p r ls h t (k+1):=rfl
def partI (p:Int) (n i:Nat):Int:=p / n+(if (i:Int)<p % n then 1 else 0)
theorem mL (p:Int) (r:Ros) (ls:List (Int×Int)) (k i h t:Nat):owesM p r ls k (i+1) h t =
  owesM p r ls k i h t+if (ls[k]?.getD (0,0)).2=t∧h≠t∧(wl (r (ls[k]?.getD (0,0)).1.toNat))[i]?.getD 0=h then partI p (wl (r (ls[k]?.getD (0,0)).1.toNat)).length i else 0:=by
 unfold owesM partI
 by_cases h1:(ls[k]?.getD (0,0)).2=t∧h≠t
 ·rw [if_pos h1,if_pos h1]
  by_cases h2:(wl (r (ls[k]?.getD (0,0)).1.toNat))[i]?.getD 0=h
  ·rw [if_pos ⟨h1.1,h1.2,h2⟩]
   show _+(_+if _ then _ else _)=_
   rw [if_pos h2];omega
  ·rw [if_neg (fun h=>h2 h.2.2)]
   show _+(_+if _ then _ else _)=_
   rw [if_neg h2];omega
 ·rw [if_neg h1,if_neg h1,if_neg (fun h=>h1 ⟨h.1,h.2.1⟩)];omega
theorem pT {p:Int} (hp:0<=p∧p<=99) (r:Ros) (ls:List (Int×Int)) (k i h t:Nat):0<=owesM p r ls k i h t∧owesM p r ls k i h t<=400*k+100*i:=by
 have h1:=kr hp r ls h t k
 have h2:=ko hp (wl (r (ls[k]?.getD (0,0)).1.toNat)) h i
 unfold owesM
 split<;>omega
end Go.Sq
namespace Go.Proofs.YtgicaeombogkcaaGreat
open Go.RowKit Go.Sq
theorem qq {w:World} {ops:Array Oper} {rest:List Oper} {o:Oper} {a:Act} {Q:Exit->Act->World->Prop} (hgd:o.guard=none) (s x:Operand) (ho:o.op=.call { callee:=.builtin .append,args:=#[s,x],argTypes:=#[36,36] })
  (base:Nat) (v:Value) (n:Nat) (xs:List Value) (hs:a.eval s=v) (hown:w.ownsRow base 22 1 v n xs) (ad:Addr) (c:Nat) (u:Value) (hx:a.eval x=.slice (some ad) 1 c) (hc:w.cell? (ad.add 0)=some u) (h1:u.oneCell'=true)
  (hn:n<=1048576) (hbase:base<=w.heap.size) (h:∀ v' w',w'.ownsRow base 22 1 v' (n+1) (xs++[u])->w.grownBy w' v.ownBlock->w.drawn<=w'.drawn->wpList Sq.prog ops Q rest (a.put o.dst v') w'):wpList Sq.prog ops Q (o :: rest) a w:=by
 obtain ⟨i0,hi,hz0,hz1,hz2⟩:=info_parts Sq.info22
 refine wpList_append_gr hgd s x 36 ho base 22 i0 _ 1 24 ((Sq.underlying 36).trans Tryz.underlying36) hi hz0 hz1 hz2 rfl (by decide) v n xs hs hown ad 1 c [u] hx rfl (fun j u hj=>?_) (fun u' hu=>?_) (by unfold maxLen;omega) (by omega) hbase h
 ·match j,hj with
  | 0,hj=>cases hj;exact hc
 ·simp only [List.mem_cons,List.not_mem_nil,or_false] at hu
  subst hu;exact h1
theorem so (nA hA gA rA:Option Addr) (nc hc gc rc:Nat) (c:Camp) (ls:List (List Int)) (rs:List (Int×Int)) (p:Int) (w:World) (B:Nat) (hB:B<=w.heap.size) (hn:RI w B nA c.needs) (hh:HsAt w B hA c.herders) (hg:GrAt w B gA ls) (hr:RsAt w B rA rs)
  (hl1:c.needs.length<=4611686018427387904) (hl2:c.herders.length<=4611686018427387904) (hlo:∀ h∈c.herders,h.off.length<=4611686018427387904) (hl3:ls.length<=4611686018427387904) (hl4:∀ x∈ls,x.length<=4611686018427387904) (hl5:rs.length<=4611686018427387904) (hrc:rs.length<=rc)
  (hF:formedE c ls=0) (hR:fL c.needs.length rs=0) (hp:0<=p∧p<=99) :
  Calls Sq.prog 90 #[campV nA hA c nc hc,.slice gA ls.length gc,.slice rA rs.length rc,.int .i64 p] w fun e w'=>Gr w w'∧∃ A k,e=.returned (.tuple #[.slice A c.herders.length k,.int .i64 0]) ∧
   GrAt w' w'.heap.size A (owesL c (rosOf ls) p (wolvesL c.needs.length rs rs.length)):=by
 unfold campV
 obtain ⟨W0,hW0⟩:∃ W0:World,W0=w.alloc (.cells #[.slice nA c.needs.length nc,.slice hA c.herders.length hc] 25):=⟨_,rfl⟩
 have hg0:Gr w W0:=hW0▸(Gr.refl w).alloc _
 have hz0:W0.heap.size=w.heap.size+1:=by rw [hW0];simp
 have HW:=Lib.hid hW0
 have hrd:=pP nA hA gA rA nc hc gc rc c ls rs W0 B (by omega) (hn.gr hB hg0) (hh.keep fun b o hb=>hg0.cell (Nat.lt_of_lt_of_le hb hB)) (hg.gr hB hg0) (hr.gr hB hg0) hl1 hl2 hlo hl3 hl4 hl5 hrc hF hR
 unfold campV at hrd
 have HRD:=Lib.hid hrd
 have HG0:=Lib.hid hg0
 have HC1:Hid (W0.cell? ⟨w.heap.size,1,none⟩=some (.slice hA c.herders.length hc)):=Lib.hid (by rw [hW0,World.cell?_alloc_at _ _ _ _ rfl];rfl)
 have HFE:=Lib.hid hF
 have HOK:=Lib.hid (Camp.Ok.of (show checkE c=0 by
  have:=hF
  unfold formedE at this
  split at this
  ·exact absurd this (by assumption)
  ·simpa using ‹¬ checkE c≠0›))
 have HRZ:=Lib.hid (jd hR)
 have HBT:Hid (∀ W,Calls Sq.prog 65 #[.int .i64 p,.int .i64 0,.int .i64 99] W fun e w'=>e=.returned (.bool true)∧W=w'):=Lib.hid fun W=>by
  have:inR p 0 99=true:=by simp [inR];omega
  rw [<- this];exact bp _ _ _ W
 clear hW0 hg0 hrd hn hh hg hr hl4 hlo hF hR
 go_enter Sq.func90,Tryz.ntmps90
 go_wp2_with fail
 rw [<- HW.out]
 refine HRD.out.mono ?_
 rintro e w1 ⟨hg1,cb,A,ka,rfl,hcp,hri⟩
 obtain ⟨W1,hW1⟩:∃ W1:World,W1=w1.alloc (.cells #[.int .u8 (rosOf ls 0),.int .u8 (rosOf ls 1),.int .u8 (rosOf ls 2),.int .u8 (rosOf ls 3),.int .u8 (rosOf ls 4)] 90):=⟨_,rfl⟩
 have hg1':Gr w1 W1:=hW1▸(Gr.refl w1).alloc _
 have hz1:W1.heap.size=w1.heap.size+1:=by rw [hW1];simp
 have hzz:=hg1.size
 have HG1:=Lib.hid (hg1.trans hg1')
 have HCP:=Lib.hid (hcp.on hg1')
 have HRI:=Lib.hid (hri.gr (Nat.le_refl _) hg1')
 have HRC:Hid (∀ i,i<5->W1.cell? ⟨w1.heap.size,i,none⟩=some (.int .u8 (rosOf ls i:Nat))):=Lib.hid fun i hi=>by
  rw [hW1,World.cell?_alloc_at _ _ _ _ (by simp)]
  match i,hi with
  | 0,_=>rfl
  | 1,_=>rfl
  | 2,_=>rfl
  | 3,_=>rfl
  | 4,_=>rfl
 have hc1:w1.cell? ⟨w.heap.size,1,none⟩=some (.slice hA c.herders.length hc):=(hg1.cell (by show w.heap.size<_;omega)).trans HC1.out
 have hwl:w.heap.size<w1.heap.size:=by omega
 have hh4:=HOK.out.h4
 have hh1:=HOK.out.h1
 have hmk:=fun w=>en c.herders.length w (by omega)
 have HW1:=Lib.hid hW1
 clear hg1 hcp hri hg1' HRD hW1
 unfold rosV
 go_wp2_with fail
 rw [<- HW1.out]
 refine (HBT.out _).mono ?_
 rintro e w' ⟨rfl,rfl⟩
 rw [HW1.out]
 go_wp2
 rw [<- HW1.out]
 have hwl2:w.heap.size<W1.heap.size∧w1.heap.size<W1.heap.size:=by omega
 have HZ1:=Lib.hid hz1
 clear hc1 hz1
 have hc1:=Lib.hid ((HG1.out.cell (p:=⟨w.heap.size,1,none⟩) (by show w.heap.size<_;omega)).trans HC1.out)
 go_loopw [14,39] (fun v i wr=>∃ k:Nat,k<=c.herders.length∧i=.int .i64 k∧Gr W1 wr∧∃ bl,Tab wr W1.heap.size v c.herders.length k (fun _ _=>0) bl) (fun _ i _=>c.herders.length - (intOf i).toNat)
 case atStart=>exact ⟨0,by omega,rfl,.refl _,fun _=>0,.nil _ _ _ _ _⟩
 case round =>
  obtain ⟨k,hk,rfl,hgr,bl,htab⟩:=hrel
  have HGR:=Lib.hid hgr
  have HT:=Lib.hid htab
  have hc1:=(hgr.cell (p:=⟨w.heap.size,1,none⟩) (by show w.heap.size<_;omega)).trans hc1.out
  have hgz:=hgr.size
  clear hgr htab
  by_cases hlt:k<c.herders.length
  ·obtain ⟨xs,hrow,hxs⟩:=HT.out.row
   have HXS:=Lib.hid hxs
   have HROW:=Lib.hid hrow
   clear hxs
   have hlt1:w.heap.size<wr.heap.size:=by omega
   go_wp2_with (at_builtin;refine qq rfl _ _ rfl W1.heap.size _ _ _ rfl ((hrow.alloc _).alloc _) ⟨wr.heap.size+1,0,none⟩ 1 (.slice (some ⟨wr.heap.size,0,none⟩) c.herders.length c.herders.length) rfl ?c1 rfl ?c2 ?c3 ?_)
   case c1=>rw [Addr.add_lit,World.cell?_alloc_at _ _ _ _ (by simp)];rfl
   case c2=>omega
   case c3=>simp;omega
   intro v' w3 hown' hgrow hd
   have HG3:=Lib.hid (((HGR.out.alloc _).alloc _).grown hgrow hd fun q hq=>(hrow.lt q hq).1)
   have HT3:=Lib.hid (HT.out.push (q:=wr.heap.size) HROW.out HXS.out (by omega) (Nat.le_refl _) (fun b hb=>(heap_alloc_old _ _ (by simp;omega)).trans (heap_alloc_old _ _ hb)) ((heap_alloc_old _ _ (by simp)).trans (heap_alloc_new _ _)) (fun t ht=>dc _ _ ht) (by simp;omega) hgrow hown')
   clear hown' hgrow hd hrow
   go_wp2
   go_roundw
   case rel=>exact ⟨k+1,by omega,by go_num,HG3.out,_,HT3.out⟩
   case measure=>simp [intOf];omega
  ·have hkn:k=c.herders.length:=by omega
   subst hkn
   obtain ⟨g,hv,hgl,_⟩:∃ g,(∃ cap,u14=.slice (some ⟨g,0,none⟩) c.herders.length cap)∧g<wr.heap.size∧True:=by
    obtain ⟨xs,h1,h2⟩:=HT.out.row
    rcases h1.2 with ⟨_,h0⟩ | ⟨g,cap,cur,hv,_,k2,_⟩
    ·omega
    ·exact ⟨g,⟨cap,hv⟩,(Array.getElem?_eq_some_iff.1 k2).1,trivial⟩
   obtain ⟨cap,rfl⟩:=hv
   have hws:∀ x∈wolvesL c.needs.length rs rs.length,0<=x∧x<=60:=fun x hx=>by
    obtain ⟨j,_,rfl⟩:=List.mem_map.1 hx
    exact kT HRZ.out _ _ (Nat.le_refl _)
   have hlos:=pS cb nA hA A nc hc ka c (rosOf ls) (wolvesL c.needs.length rs rs.length) wr (HCP.out.on HGR.out) HOK.out (de HFE.out) hws (by rw [cV];exact HOK.out.n5) ((HRI.out.gr (by omega) HGR.out).more (by omega))
   rw [cV] at hlos
   have hll:=iq HOK.out (rosOf ls) (wolvesL c.needs.length rs rs.length)
   have HLN:Hid (∀ q∈lossesL c (rosOf ls) (wolvesL c.needs.length rs rs.length),0<=q.1∧q.1<c.needs.length∧0<=q.2∧q.2<c.herders.length):=Lib.hid fun q hq=>by
    have:=(jc HOK.out (rosOf ls) (wolvesL c.needs.length rs rs.length)).night q hq
    rwa [cV] at this
   have HOL:Hid (owesL c (rosOf ls) p (wolvesL c.needs.length rs rs.length)=tabL c.herders.length fun h t=>owesK p (rosOf ls) (lossesL c (rosOf ls) (wolvesL c.needs.length rs rs.length)) h t (lossesL c (rosOf ls) (wolvesL c.needs.length rs rs.length)).length):=Lib.hid rfl
   obtain ⟨L,hL⟩:∃ L,L=lossesL c (rosOf ls) (wolvesL c.needs.length rs rs.length):=⟨_,rfl⟩
   rw [<- hL] at hlos hll HLN HOL
   clear hL
   have HLOS:=Lib.hid hlos
   have hrc:∀ i,i<5->wr.cell? ⟨w1.heap.size,i,none⟩=some (.int .u8 (rosOf ls i:Nat)):=fun i hi=>(HGR.out.cell (by show w1.heap.size<_;omega)).trans (HRC.out i hi)
   obtain ⟨a0,a1,a2,a3,a4⟩:=RosC5 hrc
   clear hlos hrc hws
   unfold rosV at HLOS
   go_wp2_with fail
   refine HLOS.out.mono ?_
   rintro e w2 ⟨v,rfl,hown2,hg2⟩
   obtain ⟨A2,k2,rfl,hrs⟩:=RsK_of_own hown2
   have HRS:=Lib.hid hrs
   have HG2:=Lib.hid (HGR.out.trans hg2)
   have HT2:=Lib.hid ((HT.out.gr hg2).congr (M':=fun h t=>owesK p (rosOf ls) L h t 0) fun a t _ _=>rfl)
   have HBL:Hid (∀ h,h<c.herders.length->bl h<wr.heap.size):=Lib.hid fun h hh=>(HT.out.at_ hh hh).2.1
   have hz2:=hg2.size
   have HRC2:=Lib.hid (fun i hi=>(hg2.cell (p:=⟨w1.heap.size,i,none⟩) (by show w1.heap.size<_;omega)).trans (((HGR.out.cell (p:=⟨w1.heap.size,i,none⟩) (by show w1.heap.size<_;omega)).trans (HRC.out i hi))))
   clear hown2 hg2 hrs a0 a1 a2 a3 a4 HLOS
   go_wp2
   go_loopw [54] (fun i wr=>∃ k:Nat,k<=L.length∧i=.int .i64 k∧KP c.herders.length bl w2 wr∧Gr W1 wr∧Tab wr W1.heap.size (.slice (some ⟨g,0,none⟩) c.herders.length cap) c.herders.length c.herders.length (fun h t=>owesK p (rosOf ls) L h t k) bl) (fun i _=>L.length - (intOf i).toNat)
   case atStart=>exact ⟨0,by omega,rfl,.refl _ _ _,HG2.out,HT2.out⟩
   case round =>
    obtain ⟨wq,rfl⟩:∃ wq,wq=wr:=⟨_,rfl⟩
    obtain ⟨k,hk,rfl,hkp,hgr,htab⟩:=hrel
    have HKP:=Lib.hid hkp
    have HGQ:=Lib.hid hgr
    have HTQ:=Lib.hid htab
    have hzq:=hkp.1
    by_cases hlk:k<L.length
    ·have hln:=HLN.out _ (List.getElem_mem hlk)
     have hget:L[k]?.getD (0,0)=L[k]:=by rw [List.getElem?_eq_getElem hlk];rfl
     obtain ⟨b,o,rfl,hbK,hcl⟩:=HRS.out (fun e=>by rw [e] at hlk;simp at hlk)
     obtain ⟨h1,h2⟩:=hcl k _ (List.getElem?_eq_getElem hlk)
     have hne:∀ h,h<c.herders.length->bl h≠b:=fun h hh e=>by have:=HBL.out h hh;omega
     have d1:=(hkp.cell hbK.2 hne (o+k*2)).trans h1
     have d2:=(hkp.cell hbK.2 hne (o+k*2+1)).trans h2
     rw [<- hget] at hln d1 d2
     have HM0:Hid (∀ a t,owesM p (rosOf ls) L k 0 a t=owesK p (rosOf ls) L a t k):=Lib.hid fun a t=>mK p (rosOf ls) L k a t
     have HME:Hid (∀ a t,owesM p (rosOf ls) L k (wl (rosOf ls (L[k]?.getD (0,0)).1.toNat)).length a t=owesK p (rosOf ls) L a t (k+1)):=Lib.hid fun a t=>oy p (rosOf ls) L k a t
     have HMS:Hid (∀ i a t,owesM p (rosOf ls) L k (i+1) a t=owesM p (rosOf ls) L k i a t+if (L[k]?.getD (0,0)).2=(t:Int)∧a≠t∧(wl (rosOf ls (L[k]?.getD (0,0)).1.toNat))[i]?.getD 0=(a:Int) then partI p (wl (rosOf ls (L[k]?.getD (0,0)).1.toNat)).length i else 0):=Lib.hid fun i a t=>mL p (rosOf ls) L k i a t
     generalize L[k]?.getD (0,0)=q at hln d1 d2 HME HMS
     obtain ⟨q1,q2⟩:=q
     obtain ⟨qn,rfl⟩:∃ j:Nat,q1=j:=⟨q1.toNat,by omega⟩
     obtain ⟨qf,rfl⟩:∃ j:Nat,q2=j:=⟨q2.toNat,by omega⟩
     dsimp only at hln d1 d2 HME HMS
     rw [Int.toNat_natCast] at HME HMS
     have hn5:=HOK.out.n5
     have hqn:qn<5:=by omega
     have hqf:qf<c.herders.length:=by omega
     have hrq:wq.cell? ⟨w1.heap.size,qn,none⟩=some (.int .u8 (rosOf ls qn:Nat)):=(hgr.cell (by show w1.heap.size<_;omega)).trans (HRC.out qn hqn)
     have hx16:rosOf ls qn<16:=Camp.lt16 HOK.out.h4 (de HFE.out qn)
     have hxh:rosOf ls qn<2 ^ c.herders.length:=de HFE.out qn
     generalize rosOf ls qn=x at hrq hx16 hxh HME HMS
     obtain ⟨W2,hW2⟩:∃ W2:World,W2=wq.alloc (.cells #[.int .i64 (qn:Int),.int .i64 (qf:Int)] 176):=⟨_,rfl⟩
     have HLIST:=Lib.hid (eh x W2 hx16)
     have hwq1:w1.heap.size<wq.heap.size:=by omega
     have HBX:Hid (W2.cell? ⟨wq.heap.size,1,none⟩=some (.int .i64 (qf:Int))):=Lib.hid (by rw [hW2,World.cell?_alloc_at _ _ _ _ rfl];rfl)
     have HG2':Hid (Gr wq W2):=Lib.hid (hW2▸(Gr.refl wq).alloc _)
     have HZ2:Hid (W2.heap.size=wq.heap.size+1):=Lib.hid (by rw [hW2];simp)
     have HW2:=Lib.hid hW2
     clear hkp hgr htab hcl h1 h2 hget hW2
     go_wp2_with fail
     rw [<- HW2.out]
     refine HLIST.out.mono ?_
     rintro e w3 ⟨v3,rfl,hown3,hg3⟩
     obtain ⟨A3,k3,rfl,hon⟩:=RIK_of_own hown3
     have HON:=Lib.hid hon
     have HG3:=Lib.hid (HG2'.out.trans hg3)
     have HT3:=Lib.hid ((HTQ.out.gr HG3.out).congr (M':=fun a t=>owesM p (rosOf ls) L k 0 a t) fun a t _ _=>(HM0.out a t).symm)
     have HBX3:=Lib.hid ((hg3.cell (p:=⟨wq.heap.size,1,none⟩) (by show wq.heap.size<_;have:=HZ2.out;omega)).trans HBX.out)
     have hz3:=HG3.out.size
     have hzw2:wq.heap.size<W2.heap.size:=by have:=HZ2.out;omega
     have hz32:=hg3.size
     clear hown3 hg3 hon HLIST d1 d2
     go_wp2
     go_loopw [65] (fun i wr=>∃ j:Nat,j<=(wl x).length∧i=.int .i64 j∧KP c.herders.length bl w3 wr∧Gr W1 wr∧Tab wr W1.heap.size (.slice (some ⟨g,0,none⟩) c.herders.length cap) c.herders.length c.herders.length (fun a t=>owesM p (rosOf ls) L k j a t) bl) (fun i _=>(wl x).length - (intOf i).toNat)
     case atStart=>exact ⟨0,by omega,rfl,.refl _ _ _,HGQ.out.trans HG3.out,HT3.out⟩
     case round =>
      obtain ⟨j,hj,rfl,hkp,hgi,hti⟩:=hrel
      have HKI:=Lib.hid hkp
      have HGI:=Lib.hid hgi
      have HTI:=Lib.hid hti
      have hzi:=hkp.1
      by_cases hlj:j<(wl x).length
      ·obtain ⟨b3,o3,rfl,hb3K,hc3⟩:=HON.out (fun e=>by rw [e] at hlj;simp at hlj)
       obtain ⟨a,ha,ha4,hab⟩:=wl_mem (List.getElem_mem hlj)
       have hah:a<c.herders.length:=gL hxh hab
       have hd3:=(hkp.cell hb3K.2 (fun h hh e=>by have:=HBL.out h hh;omega) (o3+j)).trans (hc3 j _ (List.getElem?_eq_getElem hlj))
       rw [ha] at hd3
       have HGA:Hid ((wl x)[j]?.getD 0=(a:Int)):=Lib.hid (by rw [List.getElem?_eq_getElem hlj];exact ha)
       have hbx:=(hkp.cell (b:=wq.heap.size) (by omega) (fun h hh e=>by have:=HBL.out h hh;omega) 1).trans HBX3.out
       have HMJ:Hid (∀ a' t,owesM p (rosOf ls) L k (j+1) a' t=owesM p (rosOf ls) L k j a' t+if (qf:Int)=(t:Int)∧a'≠t∧(a:Int)=(a':Int) then partI p (wl x).length j else 0):=Lib.hid fun a' t=>by rw [HMS.out,HGA.out]
       have hwl4:=bQ x
       have HPI:Hid (partI p (wl x).length j=p / ((wl x).length:Int)+if (j:Int)<p % ((wl x).length:Int) then 1 else 0):=Lib.hid rfl
       clear ha
       generalize (wl x).length=N at hlj hwl4 HPI HMJ HME hj ⊢
       clear hkp hgi hti
       have hq1:0<=p / (N:Int):=Int.ediv_nonneg hp.1 (by omega)
       have hq2:p / (N:Int)<=99:=Int.le_trans (Int.ediv_le_self _ hp.1) hp.2
       obtain ⟨g',eg,_,hrow⟩:=HTI.out.row_at hah
       have eg':g'=g:=by injection eg with e;injection e with e;exact e.symm
       subst eg'
       obtain ⟨hta,htb,htc,htf⟩:=HTI.out.at_ hah hqf
       have hmb:=pT hp (rosOf ls) L k j a qf
       by_cases haf:a=qf
       ·have hne:((a:Int) != (qf:Int))=false:=by simp [haf]
        have HT5:=Lib.hid (HTI.out.congr (M':=fun a t=>owesM p (rosOf ls) L k (j+1) a t) fun a' t _ _=>by rw [HMJ.out,if_neg (by omega)];simp)
        clear hrow htc htf
        by_cases hrem:(j:Int)<p % (N:Int)
        all_goals
         go_wp2
         go_roundw
         case rel=>exact ⟨j+1,by omega,by go_num,HKI.out,HGI.out,HT5.out⟩
         case measure=>simp [intOf];omega
       ·have hne:((a:Int) != (qf:Int))=true:=by simp;omega
        have HSETG:Hid (∀ y:Int,y=partI p N j->Tab (wr.setCell ⟨bl a,qf,none⟩ (.int .i64 (owesM p (rosOf ls) L k j a qf+y))) W1.heap.size (.slice (some ⟨g',0,none⟩) c.herders.length cap) c.herders.length c.herders.length (fun a t=>owesM p (rosOf ls) L k (j+1) a t) bl):=Lib.hid fun y hy=>HTI.out.set hah hqf _ fun a' t' _ _=>by
         rw [HMJ.out]
         by_cases e:a'=a∧t'=qf
         ·obtain ⟨rfl,rfl⟩:=e
          rw [if_pos ⟨rfl,haf,rfl⟩,if_pos ⟨rfl,rfl⟩,hy]
         ·rw [if_neg (fun h=>e (by omega)),if_neg e];omega
        have HKP2:=Lib.hid (fun v=>HKI.out.trans (KP.set (w:=wr) hah qf v))
        have HGR2:=Lib.hid (fun v=>HGI.out.setCell (p:=⟨bl a,qf,none⟩) hta v)
        have hblw:=htb
        generalize owesM p (rosOf ls) L k j a qf=M0 at htc hmb HSETG
        by_cases hrem:(j:Int)<p % (N:Int)
        ·have HY:=Lib.hid (HSETG.out (p / (N:Int)+1) (by rw [HPI.out,if_pos hrem]))
         go_wp2
         go_region
         all_goals
          go_wp2
          go_roundw
          case rel=>exact ⟨j+1,by omega,by go_num,(HKP2.out _).drew,(HGR2.out _).drew,HY.out.drew⟩
          case measure=>simp [intOf];omega
        ·have HY:=Lib.hid (HSETG.out (p / (N:Int)) (by rw [HPI.out,if_neg hrem];omega))
         go_wp2
         go_region
         all_goals
          go_wp2
          go_roundw
          case rel=>exact ⟨j+1,by omega,by go_num,(HKP2.out _).drew,(HGR2.out _).drew,HY.out.drew⟩
          case measure=>simp [intOf];omega
      ·have hjn:j=(wl x).length:=by omega
       subst hjn
       have HT6:=Lib.hid (HTI.out.congr (M':=fun a t=>owesK p (rosOf ls) L a t (k+1)) fun a' t _ _=>HME.out a' t)
       go_wp2
       go_roundw
       case rel=>exact ⟨k+1,by omega,by go_num,HKP.out.trans ((KP.gr HG3.out).trans HKI.out),HGI.out,HT6.out⟩
       case measure=>simp [intOf];omega
    ·have hkn:k=L.length:=by omega
     subst hkn
     have HTF:=Lib.hid (HTQ.out.grAt)
     clear hkp hgr htab
     go_wp2
     go_ret2
     exact ⟨HG0.out.trans (HG1.out.trans HGQ.out),_,_,rfl,by rw [HOL.out];exact HTF.out⟩
end Go.Proofs.YtgicaeombogkcaaGreat
namespace Go.Sq
def balM (M:List (List Int)) (k i j:Nat):Int:=balK M k j - (if j=k then (M[k]?.getD []).sum else 0)+if j<i then (M[k]?.getD [])[j]?.getD 0 else 0
theorem pU (M:List (List Int)) (k i j:Nat) (h:j<i):balM M k i j=balK M (k+1) j:=by
 show _+(if _ then _ else _)=_
 rw [if_pos h];rfl
theorem oz (M:List (List Int)) (k j:Nat):balM M k 0 j=balK M k j - if j=k then (M[k]?.getD []).sum else 0:=by
 unfold balM
 generalize balK M k j - (if j=k then (M[k]?.getD []).sum else 0)=a
 rw [if_neg (Nat.not_lt_zero j)];omega
theorem oA (M:List (List Int)) (k j t:Nat):balM M k (j+1) t=balM M k j t+if t=j then (M[k]?.getD [])[j]?.getD 0 else 0:=by
 unfold balM
 generalize balK M k t - (if t=k then (M[k]?.getD []).sum else 0)=a
 by_cases e:t=j
 ·subst e
  rw [if_pos (by omega),if_neg (by omega),if_pos rfl];omega
 ·by_cases e2:t<j
  ·rw [if_pos (by omega),if_pos e2,if_neg e];omega
  ·rw [if_neg (by omega),if_neg e2,if_neg e];omega
theorem oB (M:List (List Int)) (k j:Nat):balM M k j j=balK M k j - if j=k then (M[k]?.getD []).sum else 0:=by
 unfold balM
 generalize balK M k j - (if j=k then (M[k]?.getD []).sum else 0)=a
 rw [if_neg (by omega)];omega
structure TabOk (M:List (List Int)):Prop where
 size:M.length<=4
 rows:∀ l∈M,l.length=M.length∧∀ x∈l,0<=x∧x<=65536
theorem TabOk.row {M:List (List Int)} (h:TabOk M) {k:Nat} (hk:k<M.length):(M[k]?.getD []).length=M.length∧∀ x∈M[k]?.getD [],0<=x∧x<=65536:=h.rows _ (eN M k hk)
theorem TabOk.at_ {M:List (List Int)} (h:TabOk M) {k:Nat} (hk:k<M.length) (j:Nat):0<=(M[k]?.getD [])[j]?.getD 0∧(M[k]?.getD [])[j]?.getD 0<=65536:=by
 rcases Nat.lt_or_ge j (M[k]?.getD []).length with hj | hj
 ·exact (h.row hk).2 _ (mem_get _ j hj)
 ·rw [List.getElem?_eq_none hj];simp
theorem TabOk.sum {M:List (List Int)} (h:TabOk M) {k:Nat} (hk:k<M.length):0<=(M[k]?.getD []).sum∧(M[k]?.getD []).sum<=262144:=by
 have h1:=sum_bound 0 65536 _ (h.row hk).2
 have h2:=(h.row hk).1
 have h3:=h.size
 omega
theorem lM {M:List (List Int)} (h:TabOk M) (k j:Nat) (hk:k<=M.length):-(262144*k)<=balK M k j∧balK M k j<=65536*k:=by
 induction k with
 | zero=>simp [balK]
 | succ k ih =>
  have h1:=ih (by omega)
  have h2:=h.at_ (show k<M.length by omega) j
  have h3:=h.sum (show k<M.length by omega)
  unfold balK
  split<;>omega
theorem mM {c:Camp} (hc:c.Ok) (r:Ros) {p:Int} (hp:0<=p∧p<=99) (ws:List Int):TabOk (owesL c r p ws):=by
 have hl:(owesL c r p ws).length=c.herders.length:=eU _ _
 refine ⟨by rw [hl];exact hc.h4,fun l hm=>?_⟩
 rw [hl]
 simp only [owesL,tabL,List.mem_map,List.mem_range] at hm
 obtain ⟨a,ha,rfl⟩:=hm
 refine ⟨by simp,fun x hx=>?_⟩
 simp only [List.mem_map,List.mem_range] at hx
 obtain ⟨t,_,rfl⟩:=hx
 have h1:=kr hp r (lossesL c r ws) a t (lossesL c r ws).length
 have h2:=iq hc r ws
 omega
end Go.Sq
namespace Go.Proofs.YtgicaeombogkcaaGreat
open Go.RowKit Go.Sq
theorem mN (nA hA gA rA:Option Addr) (nc hc gc rc:Nat) (c:Camp) (ls:List (List Int)) (rs:List (Int×Int)) (p:Int) (w:World) (B:Nat) (hB:B<=w.heap.size) (hn:RI w B nA c.needs) (hh:HsAt w B hA c.herders) (hg:GrAt w B gA ls) (hr:RsAt w B rA rs)
  (hl1:c.needs.length<=4611686018427387904) (hl2:c.herders.length<=4611686018427387904) (hlo:∀ h∈c.herders,h.off.length<=4611686018427387904) (hl3:ls.length<=4611686018427387904) (hl4:∀ x∈ls,x.length<=4611686018427387904) (hl5:rs.length<=4611686018427387904) (hrc:rs.length<=rc)
  (hF:formedE c ls=0) (hR:fL c.needs.length rs=0) (hp:0<=p∧p<=99) :
  Calls Sq.prog 42 #[campV nA hA c nc hc,.slice gA ls.length gc,.slice rA rs.length rc,.int .i64 p] w fun e w'=>Gr w w'∧∃ A k,e=.returned (.tuple #[.slice A c.herders.length k,.int .i64 0]) ∧
   RI w' w'.heap.size A (balL (owesL c (rosOf ls) p (wolvesL c.needs.length rs rs.length))):=by
 unfold campV
 obtain ⟨W0,hW0⟩:∃ W0:World,W0=w.alloc (.cells #[.slice nA c.needs.length nc,.slice hA c.herders.length hc] 25):=⟨_,rfl⟩
 have hg0:Gr w W0:=hW0▸(Gr.refl w).alloc _
 have hz0:W0.heap.size=w.heap.size+1:=by rw [hW0];simp
 have HW:=Lib.hid hW0
 have how:=so nA hA gA rA nc hc gc rc c ls rs p W0 B (by omega) (hn.gr hB hg0) (hh.keep fun b o hb=>hg0.cell (Nat.lt_of_lt_of_le hb hB)) (hg.gr hB hg0) (hr.gr hB hg0) hl1 hl2 hlo hl3 hl4 hl5 hrc hF hR hp
 unfold campV at how
 have HG0:=Lib.hid hg0
 have hok:=Camp.Ok.of (show checkE c=0 by
  have:=hF
  unfold formedE at this
  split at this
  ·exact absurd this (by assumption)
  ·simpa using ‹¬ checkE c≠0›)
 have htok:=mM hok (rosOf ls) hp (wolvesL c.needs.length rs rs.length)
 have hln:(owesL c (rosOf ls) p (wolvesL c.needs.length rs rs.length)).length=c.herders.length:=eU _ _
 have h4:=hok.h4
 generalize owesL c (rosOf ls) p (wolvesL c.needs.length rs rs.length)=M at how htok hln
 rw [<- hln] at h4
 have HLN:=Lib.hid hln
 have HOW:=Lib.hid (how.mono (R':=fun e w'=>Gr W0 w'∧∃ A k,e=.returned (.tuple #[.slice A M.length k,.int .i64 0])∧GrAt w' w'.heap.size A M) fun e w' h=>by rw [hln];exact h)
 have HTO:=Lib.hid htok
 have hmk:=fun w=>en M.length w (by omega)
 clear hW0 hg0 how hn hh hg hr hl4 hlo hF hR hok htok hln
 go_enter Sq.func42,Tryz.ntmps42
 go_wp2_with fail
 rw [<- HW.out]
 refine HOW.out.mono ?_
 rintro e w1 ⟨hg1,A,ka,rfl,hgr1⟩
 have HG1:=Lib.hid hg1
 have HGA:=Lib.hid hgr1
 have hz1:=hg1.size
 clear hg1 hgr1 HOW
 go_wp2
 go_loopw [33] (fun i wr=>∃ k:Nat,k<=M.length∧i=.int .i64 k∧Gr w1 wr∧w1.heap.size<wr.heap.size∧∀ j,j<M.length->wr.cell? ⟨w1.heap.size,j,none⟩=some (.int .i64 (balK M k j))∧wr.frozen? ⟨w1.heap.size,j,none⟩=false) (fun i _=>M.length - (intOf i).toNat)
 case atStart =>
  refine ⟨0,by omega,rfl,(Gr.refl w1).alloc _,by simp,fun j hj=>⟨?_,?_⟩⟩
  ·rw [World.cell?_alloc_at _ _ _ _ (by simp),dc _ _ hj];rfl
  ·rw [World.frozen?_alloc_at _ _ _ _ (by simp)]
 case round =>
  obtain ⟨wq,rfl⟩:∃ wq,wq=wr:=⟨_,rfl⟩
  obtain ⟨k,hk,rfl,hgr,hzr,hcs⟩:=hrel
  have HGR:=Lib.hid hgr
  have HCS:=Lib.hid hcs
  by_cases hlt:k<M.length
  ·obtain ⟨b,o,A',c',rfl,hb,hcl1,hri1⟩:=HGA.out.at_ hlt
   have hcl:=(hgr.cell (p:=⟨b,o+k,none⟩) hb).trans hcl1
   have hri:=hri1.gr (Nat.le_refl _) hgr
   have HR1:=Lib.hid hri1
   clear hcl1 hri1
   obtain ⟨hrl,hrx⟩:=HTO.out.row hlt
   have hsm:=HTO.out.sum hlt
   obtain ⟨e1,e2⟩:=hcs k hlt
   have hbk:=lM HTO.out k k hk
   have hsum:∀ q,q=wq∨q=wq.drew->Calls Sq.prog 57 #[.slice A' (M[k]?.getD []).length c'] q fun e w'=>e=.returned (.int .i64 (M[k]?.getD []).sum)∧q=w':=fun q hq=>qh A' c' (M[k]?.getD []) q w1.heap.size (by rcases hq with rfl | rfl<;>exact hri) (by omega) (fun x hx=>by have:=hrx x hx;omega)
   have HM0:Hid (∀ j,j<M.length->balM M k 0 j=balK M k j - if j=k then (M[k]?.getD []).sum else 0):=Lib.hid fun j _=>oz M k j
   have HRI:=Lib.hid hri
   have HRX:=Lib.hid hrx
   rw [hrl] at hcl hsum
   have HSUM:=Lib.hid hsum
   obtain ⟨S,hS⟩:∃ S,S=(M[k]?.getD []).sum:=⟨_,rfl⟩
   rw [<- hS] at HSUM hsm HM0
   have HSET:Hid (∀ j,j<M.length->(wq.setCell ⟨w1.heap.size,k,none⟩ (.int .i64 (balK M k k - S))).cell? ⟨w1.heap.size,j,none⟩=some (.int .i64 (balM M k 0 j))∧(wq.setCell ⟨w1.heap.size,k,none⟩ (.int .i64 (balK M k k - S))).frozen? ⟨w1.heap.size,j,none⟩=false):=Lib.hid fun j hj=>by
    rw [World.frozen?_setCell,HM0.out j hj]
    refine ⟨?_,(HCS.out j hj).2⟩
    by_cases e:j=k
    ·subst e
     rw [World.cell?_setCell_same _ _ _ e1,if_pos rfl]
    ·rw [World.cell?_setCell_other _ _ _ _ (by simp [Ne.symm e]),if_neg e,(HCS.out j hj).1];simp
   have HGS:Hid (Gr w1 (wq.setCell ⟨w1.heap.size,k,none⟩ (.int .i64 (balK M k k - S)))):=Lib.hid (hgr.setCell (p:=⟨w1.heap.size,k,none⟩) (Nat.le_refl _) _)
   clear hgr hcs hri hrx hsum hS HCS
   generalize balK M k k=bk at e1 hbk HSET HGS
   have hwr:IntKind.i64.wrap (bk - S)=bk - S:=by simp [IntKind.wrap,IntKind.bits,IntKind.signed];omega
   go_wp2
   go_region_with (go_at_call 57;refine (HSUM.out _ (by first | exact Or.inl rfl | exact Or.inr rfl)).mono ?_;rintro e w3 ⟨rfl,rfl⟩)
   all_goals
    clear e1 e2 hwr
    go_wp2
    go_loopw [48] (fun i wr=>∃ j:Nat,j<=M.length∧i=.int .i64 j∧Gr w1 wr∧w1.heap.size<wr.heap.size∧∀ t,t<M.length->wr.cell? ⟨w1.heap.size,t,none⟩=some (.int .i64 (balM M k j t))∧wr.frozen? ⟨w1.heap.size,t,none⟩=false) (fun i _=>M.length - (intOf i).toNat)
    case atStart=>exact ⟨0,by omega,rfl,HGS.out.drew,by simp [World.setCell,World.drew];omega,HSET.out⟩
    case round =>
     obtain ⟨j,hj,rfl,hgi,hzi,hci⟩:=hrel
     have HGI:=Lib.hid hgi
     have HCI:=Lib.hid hci
     by_cases hlj:j<M.length
     ·obtain ⟨b2,o2,rfl,hb2,hcj⟩:=(HR1.out.gr (Nat.le_refl _) hgi).at_ (k:=j) (by omega)
      have hx:=HTO.out.at_ hlt j
      obtain ⟨e1,e2⟩:=hci j hlj
      have hbj:=lM HTO.out k j hk
      have HMS:Hid (∀ t,balM M k (j+1) t=balM M k j t+if t=j then (M[k]?.getD [])[j]?.getD 0 else 0):=Lib.hid fun t=>oA M k j t
      have hbm:-(262144*5)<=balM M k j j∧balM M k j j<=65536*5:=by
       have hsm2:=HTO.out.sum hlt
       rw [oB]
       split<;>omega
      generalize balM M k j j=y at e1 hbm
      generalize (M[k]?.getD [])[j]?.getD 0=z at hcj hx HMS
      have HST:Hid (y=y->∀ t,t<M.length->(wr.setCell ⟨w1.heap.size,j,none⟩ (.int .i64 (y+z))).cell? ⟨w1.heap.size,t,none⟩=some (.int .i64 (balM M k (j+1) t))∧(wr.setCell ⟨w1.heap.size,j,none⟩ (.int .i64 (y+z))).frozen? ⟨w1.heap.size,t,none⟩=false):=Lib.hid fun _ t ht=>by
       rw [World.frozen?_setCell,HMS.out]
       refine ⟨?_,(HCI.out t ht).2⟩
       by_cases e:t=j
       ·subst e
        rw [World.cell?_setCell_same _ _ _ e1,if_pos rfl]
        have:=(HCI.out t ht).1
        rw [e1] at this
        cases this
        rfl
       ·rw [World.cell?_setCell_other _ _ _ _ (by simp [Ne.symm e]),if_neg e,(HCI.out t ht).1];simp
      have HGT:=Lib.hid (hgi.setCell (p:=⟨w1.heap.size,j,none⟩) (Nat.le_refl _) (.int .i64 (y+z)))
      clear hgi hci
      go_wp2
      go_roundw
      case rel=>exact ⟨j+1,by omega,by go_num,HGT.out,by simp [World.setCell];omega,HST.out rfl⟩
      case measure=>simp [intOf];omega
     ·have hjn:j=M.length:=by omega
      subst hjn
      clear hgi hci
      have HCE:Hid (∀ t,t<M.length->wr.cell? ⟨w1.heap.size,t,none⟩=some (.int .i64 (balK M (k+1) t))∧wr.frozen? ⟨w1.heap.size,t,none⟩=false):=Lib.hid fun t ht=>by
       rw [<- pU M k M.length t ht];exact HCI.out t ht
      go_wp2
      go_roundw
      case rel=>exact ⟨k+1,by omega,by go_num,HGI.out,hzi,HCE.out⟩
      case measure=>simp [intOf];omega
  ·have hkn:k=M.length:=by omega
   subst hkn
   have HF:Hid (RI wq wq.heap.size (some ⟨w1.heap.size,0,none⟩) (balL M)):=Lib.hid fun _=>⟨_,0,rfl,hzr,fun i x hx=>by
    have hi:i<M.length:=by have:=(List.getElem?_eq_some_iff.1 hx).1;simpa [balL] using this
    have hx':x=balK M M.length i:=by
     unfold balL at hx
     rw [List.getElem?_map,List.getElem?_range hi] at hx
     exact (Option.some.inj hx).symm
    rw [Nat.zero_add,hx']
    exact (hcs i hi).1⟩
   clear hgr hcs
   go_wp2
   go_ret2
   refine ⟨HG0.out.trans (HG1.out.trans HGR.out),some ⟨w1.heap.size,0,none⟩,M.length,?_,HF.out⟩
   rw [<- HLN.out];rfl
open Go.Shelf
def Sq.sortI_ren:Ren:=⟨fun | 189=>69 | 125=>104 | 257=>103 | 128=>149 | 129=>150 | 294=>140 | 295=>141 | 296=>142 | 297=>143 | 298=>144 | 299=>145 | 216=>146 | 300=>147 | 301=>148 | 328=>166 | 329=>167 | 330=>168 | 331=>169 | 332=>170 | 215=>152 | 343=>187 | n=>n,fun | 28=>22 | 3=>3 | 46=>157 | 0=>0 | 51=>100 | 53=>76 | 4=>4 | 183=>194 | 182=>193 | 131=>198 | 5=>5 | 9=>9 | 218=>221 | 222=>224 | 228=>232 | 229=>110 | n=>n,fun n=>n⟩
theorem Sq.sortI_lays:Lays.n189 Sq.prog Sq.sortI_ren where
 mixed:=(congrArg (fun t:Tables=>t.follows .mixedOrders) Sq.tab).trans (by kernel_rfl)
 f125:=Sq.func104.trans (congrArg some (by kernel_rfl))
 f128:=Sq.func149.trans (congrArg some (by kernel_rfl))
 f129:=Sq.func150.trans (congrArg some (by kernel_rfl))
 f189:=Sq.func69.trans (congrArg some (by kernel_rfl))
 f215:=Sq.func152.trans (congrArg some (by kernel_rfl))
 f216:=Sq.func146.trans (congrArg some (by kernel_rfl))
 f257:=Sq.func103.trans (congrArg some (by kernel_rfl))
 f294:=Sq.func140.trans (congrArg some (by kernel_rfl))
 f295:=Sq.func141.trans (congrArg some (by kernel_rfl))
 f296:=Sq.func142.trans (congrArg some (by kernel_rfl))
 f297:=Sq.func143.trans (congrArg some (by kernel_rfl))
 f298:=Sq.func144.trans (congrArg some (by kernel_rfl))
 f299:=Sq.func145.trans (congrArg some (by kernel_rfl))
 f300:=Sq.func147.trans (congrArg some (by kernel_rfl))
 f301:=Sq.func148.trans (congrArg some (by kernel_rfl))
 f328:=Sq.func166.trans (congrArg some (by kernel_rfl))
 f329:=Sq.func167.trans (congrArg some (by kernel_rfl))
 f330:=Sq.func168.trans (congrArg some (by kernel_rfl))
 f331:=Sq.func169.trans (congrArg some (by kernel_rfl))
 f332:=Sq.func170.trans (congrArg some (by kernel_rfl))
 f343:=Sq.func187.trans (congrArg some (by kernel_rfl))
 t0:=(Sq.underlying 0).trans Tryz.underlying0
 a0:=fun w=>(Sq.isAgg 0 w).trans (Tryz.isAgg0 w)
 z0:=fun w=>(Sq.sizeOf 0 w).trans (Tryz.sizeOf0 w)
 v0:=fun w=>(Sq.zeroValue 0 w).trans (Tryz.zeroValue0 w)
 t3:=(Sq.underlying 3).trans Tryz.underlying3
 a3:=fun w=>(Sq.isAgg 3 w).trans (Tryz.isAgg3 w)
 z3:=fun w=>(Sq.sizeOf 3 w).trans (Tryz.sizeOf3 w)
 v3:=fun w=>(Sq.zeroValue 3 w).trans (Tryz.zeroValue3 w)
 t4:=(Sq.underlying 4).trans Tryz.underlying4
 a4:=fun w=>(Sq.isAgg 4 w).trans (Tryz.isAgg4 w)
 z4:=fun w=>(Sq.sizeOf 4 w).trans (Tryz.sizeOf4 w)
 v4:=fun w=>(Sq.zeroValue 4 w).trans (Tryz.zeroValue4 w)
 t5:=(Sq.underlying 5).trans Tryz.underlying5
 a5:=fun w=>(Sq.isAgg 5 w).trans (Tryz.isAgg5 w)
 z5:=fun w=>(Sq.sizeOf 5 w).trans (Tryz.sizeOf5 w)
 v5:=fun w=>(Sq.zeroValue 5 w).trans (Tryz.zeroValue5 w)
 t9:=(Sq.underlying 9).trans Tryz.underlying9
 a9:=fun w=>(Sq.isAgg 9 w).trans (Tryz.isAgg9 w)
 z9:=fun w=>(Sq.sizeOf 9 w).trans (Tryz.sizeOf9 w)
 v9:=fun w=>(Sq.zeroValue 9 w).trans (Tryz.zeroValue9 w)
 t28:=(Sq.underlying 22).trans Tryz.underlying22
 a28:=fun w=>(Sq.isAgg 22 w).trans (Tryz.isAgg22 w)
 z28:=fun w=>(Sq.sizeOf 22 w).trans (Tryz.sizeOf22 w)
 v28:=fun w=>(Sq.zeroValue 22 w).trans (Tryz.zeroValue22 w)
 t46:=(Sq.underlying 157).trans Tryz.underlying157
 a46:=fun w=>(Sq.isAgg 157 w).trans (Tryz.isAgg157 w)
 z46:=fun w=>(Sq.sizeOf 157 w).trans (Tryz.sizeOf157 w)
 v46:=fun w=>(Sq.zeroValue 157 w).trans (Tryz.zeroValue157 w)
 t51:=(Sq.underlying 100).trans Tryz.underlying100
 a51:=fun w=>(Sq.isAgg 100 w).trans (Tryz.isAgg100 w)
 z51:=fun w=>(Sq.sizeOf 100 w).trans (Tryz.sizeOf100 w)
 v51:=fun w=>(Sq.zeroValue 100 w).trans (Tryz.zeroValue100 w)
 t53:=(Sq.underlying 76).trans Tryz.underlying76
 a53:=fun w=>(Sq.isAgg 76 w).trans (Tryz.isAgg76 w)
 z53:=fun w=>(Sq.sizeOf 76 w).trans (Tryz.sizeOf76 w)
 v53:=fun w=>(Sq.zeroValue 76 w).trans (Tryz.zeroValue76 w)
 t131:=(Sq.underlying 198).trans Tryz.underlying198
 a131:=fun w=>(Sq.isAgg 198 w).trans (Tryz.isAgg198 w)
 z131:=fun w=>(Sq.sizeOf 198 w).trans (Tryz.sizeOf198 w)
 v131:=fun w=>(Sq.zeroValue 198 w).trans (Tryz.zeroValue198 w)
 t182:=(Sq.underlying 193).trans Tryz.underlying193
 a182:=fun w=>(Sq.isAgg 193 w).trans (Tryz.isAgg193 w)
 z182:=fun w=>(Sq.sizeOf 193 w).trans (Tryz.sizeOf193 w)
 v182:=fun w=>(Sq.zeroValue 193 w).trans (Tryz.zeroValue193 w)
 t183:=(Sq.underlying 194).trans Tryz.underlying194
 a183:=fun w=>(Sq.isAgg 194 w).trans (Tryz.isAgg194 w)
 z183:=fun w=>(Sq.sizeOf 194 w).trans (Tryz.sizeOf194 w)
 v183:=fun w=>(Sq.zeroValue 194 w).trans (Tryz.zeroValue194 w)
 t218:=(Sq.underlying 221).trans Tryz.underlying221
 a218:=fun w=>(Sq.isAgg 221 w).trans (Tryz.isAgg221 w)
 z218:=fun w=>(Sq.sizeOf 221 w).trans (Tryz.sizeOf221 w)
 v218:=fun w=>(Sq.zeroValue 221 w).trans (Tryz.zeroValue221 w)
 t222:=(Sq.underlying 224).trans Tryz.underlying224
 a222:=fun w=>(Sq.isAgg 224 w).trans (Tryz.isAgg224 w)
 z222:=fun w=>(Sq.sizeOf 224 w).trans (Tryz.sizeOf224 w)
 v222:=fun w=>(Sq.zeroValue 224 w).trans (Tryz.zeroValue224 w)
 t228:=(Sq.underlying 232).trans Tryz.underlying232
 a228:=fun w=>(Sq.isAgg 232 w).trans (Tryz.isAgg232 w)
 z228:=fun w=>(Sq.sizeOf 232 w).trans (Tryz.sizeOf232 w)
 v228:=fun w=>(Sq.zeroValue 232 w).trans (Tryz.zeroValue232 w)
 t229:=(Sq.underlying 110).trans Tryz.underlying110
 a229:=fun w=>(Sq.isAgg 110 w).trans (Tryz.isAgg110 w)
 z229:=fun w=>(Sq.sizeOf 110 w).trans (Tryz.sizeOf110 w)
 v229:=fun w=>(Sq.zeroValue 110 w).trans (Tryz.zeroValue110 w)
open Go.RowKit Go.Sq Go.Sort
theorem ku:Lib.pop8tab.size=256:=by decide +kernel
theorem rx:∀ x:Fin 16,wrap64 ((Lib.pop8tab[x.val]'(by have:=ku;omega)).toNat:Int)=((wl x.val).length:Int):=by decide +kernel
theorem sr (x:Nat) (w:World) (hx:x<16):Calls Sq.prog 109 #[.int .u8 (x:Int)] w fun e w'=>e=.returned (.int .i64 (wl x).length)∧w=w':=by
 have HP:=Lib.hid (rx ⟨x,hx⟩)
 have hps:x<Lib.pop8tab.size:=by have:=ku;omega
 go_enter Sq.func109,Tryz.ntmps109
 go_wp2
 go_ret
 exact ⟨ap HP.out,rfl⟩
theorem ss (x:Nat) (w:World) (hx:x<16):Calls Sq.prog 72 #[.int .u8 x] w fun e w'=>e=.returned (.int .i64 (wl x).length)∧w=w':=by
 have HC:=Lib.hid (sr x w hx)
 go_enter Sq.func72,Tryz.ntmps72
 go_wp2_with fail
 refine HC.out.mono ?_
 rintro e w' ⟨rfl,rfl⟩
 go_wp2
 go_ret
 exact ⟨rfl,rfl⟩
def sortL (l:List Int):List Int:=l.mergeSort fun x y=>decide (x<=y)
theorem jf (l:List Int):(sortL l).length=l.length:=List.length_mergeSort l
theorem ry (g cap:Nat) (l:List Int) (w:World) {base:Nat} (h:w.ownsRow base 3 1 (.slice (some ⟨g,0,none⟩) l.length cap) l.length (l.map (Value.int .i64))) (hl:l.length<=1048576) :
  Calls Sq.prog 69 #[.slice (some ⟨g,0,none⟩) l.length cap] w fun e w'=>e=.returned (.tuple #[])∧KT (·=g) w w'∧∀ (i:Nat) (x:Int),(sortL l)[i]?=some x->w'.cell? ⟨g,i,none⟩=some (.int .i64 x):=by
 have hlt:g<w.heap.size:=(h.lt g rfl).2
 have hH:Holds (Value.int .i64) w g 0 l.toArray:=by
  intro j hj
  have hj':j<l.length:=by simpa using hj
  refine ⟨?_,?_⟩
  ·have:=h.cells (g:=g) rfl j (.int .i64 l[j]) (by simp [hj'])
   rw [Addr.add_lit] at this
   rw [this,getElem!_pos l.toArray j (by simpa using hj')]
   simp
  ·rcases h.2 with ⟨h,_⟩ | ⟨g',c',cur,h,_,hb,_⟩
   ·cases h
   ·obtain ⟨rfl⟩:g=g':=by injection h with h1;injection h1 with h2;injection h2
    simp [World.frozen?,hb]
 refine (Any.slices_Sort_int Sq.sortI_lays g 0 cap l w hH hlt (by omega)).mono ?_
 rintro e w' ⟨he,n,os,hW⟩
 have hsz:(sortL l).toArray.size=l.toArray.size:=by simp [jf]
 refine ⟨he,?_,fun i x hx=>?_⟩
 ·subst hW
  refine ⟨rfl,rfl,rfl,?_,?_,fun b hb hne=>?_⟩
  ·show w.drawn<=w.drawn+n;omega
  ·rw [size_grow,size_putRow];exact Nat.le_add_right _ _
  ·rw [heap_grow_old _ _ (by rw [size_putRow];exact hb)]
   unfold putRow mapBlock
   rw [Array.getElem?_modify,if_neg (fun h=>hne h.symm)]
   rfl
 ·have hi:i<(sortL l).length:=(List.getElem?_eq_some_iff.1 hx).1
  subst hW
  rw [cell?_grow _ _ _ (by rw [size_putRow];exact hlt)]
  have:=cell?_putRow (Value.int .i64) (Sort.ahead w n) g 0 l.toArray (sortL l).toArray hH hsz i (by simpa using hi)
  rw [Nat.zero_add] at this
  refine this.trans ?_
  rw [getElem!_pos _ i (by simpa using hi)]
  rw [List.getElem?_eq_getElem hi] at hx
  simp at hx
  simp [hx]
open Go.RowKit Go.Sq
theorem rz (nA hA:Option Addr) (nc hc:Nat) (c:Camp) (w:World) (K0:Nat->Prop) (hlt:∀ b,K0 b->b<w.heap.size) (hn:RIK w K0 nA c.needs) (hh:HsAtK w K0 hA c.herders) (hm:c.herders.length<=4) :
  Calls Sq.prog 70 #[campV nA hA c nc hc] w fun e w'=>e=.returned (.pointer (some ⟨w.heap.size+1,0,none⟩))∧Gr w w'∧∃ g cap,w.heap.size+2<=g ∧
   CampK w' (fun b=>K0 b∨b=w.heap.size+1∨b=g) (w.heap.size+1) c (setsL c.herders.length) nA hA nc hc g cap:=by
 refine (lF nA hA nc hc c.needs.length c.herders.length w hm (nZ c.herders.length hm)).mono ?_
 rintro e w' ⟨rfl,g,cap,W,⟨g',cap',hv,hk,hs,_⟩,hg,hgr,hz,h0,h1,h2,ho,_⟩
 obtain ⟨rfl,rfl⟩:g=g'∧cap=cap':=by injection hv with a b c;injection a with a;injection a with a;exact ⟨a,c⟩
 have hgW:=(ho.lt g rfl).2
 have hGr:Gr w w':=⟨⟨hk.os.trans hgr.below.os,hk.tape.trans hgr.below.tape,hk.output.trans hgr.below.output,Nat.le_trans hgr.size hk.size,fun b hb=>(hk.block b (Nat.lt_of_lt_of_le hb hgr.size) (by show b≠g;omega)).trans (hgr.below.block b hb)⟩,Nat.le_trans hgr.drawn hk.drawn⟩
 refine ⟨rfl,hGr,g,cap,hg,?_⟩
 have hc1:∀ o,w'.cell? ⟨w.heap.size+1,o,none⟩=W.cell? ⟨w.heap.size+1,o,none⟩:=fun o=>hk.cell (p:=⟨w.heap.size+1,o,none⟩) hz (by show w.heap.size+1≠g;omega)
 refine ⟨?_,Or.inr (Or.inl rfl),(hc1 0).trans h0,(hc1 1).trans h1,?_,Or.inr (Or.inr rfl),hs,?_,?_⟩
 ·rintro b (h | h | h)
  ·have:=hlt b h;have:=hGr.size;omega
  ·have:=hk.size;omega
  ·have:=hk.size;omega
 ·rw [cy _ hm];exact (hc1 2).trans h2
 ·intro hne
  obtain ⟨b,o,e,hb,hc⟩:=hn hne
  exact ⟨b,o,e,.inl hb,fun i x hx=>(hGr.cell (p:=⟨b,o+i,none⟩) (hlt b hb)).trans (hc i x hx)⟩
 ·intro hne
  obtain ⟨b,o,e,hb,hc⟩:=hh hne
  refine ⟨b,o,e,.inl hb,fun i x hx=>?_⟩
  obtain ⟨q1,q2,q3,A,m,q4,q5⟩:=hc i x hx
  have k:∀ o,w'.cell? ⟨b,o,none⟩=w.cell? ⟨b,o,none⟩:=fun o=>hGr.cell (p:=⟨b,o,none⟩) (hlt b hb)
  refine ⟨(k _).trans q1,(k _).trans q2,(k _).trans q3,A,m,(k _).trans q4,fun hn'=>?_⟩
  obtain ⟨b',o',e',hb',hc'⟩:=q5 hn'
  exact ⟨b',o',e',.inl hb',fun i x hx=>(hGr.cell (p:=⟨b',o'+i,none⟩) (hlt b' hb')).trans (hc' i x hx)⟩
structure RepW (nA:Option Addr) (nc:Nat) (c:Camp) (ls:List (List Int)) (k:Nat) (d:Int) (w:World) (b12 g cap:Nat) (w2:World):Prop where
 gr:Gr w w2
 c0:w2.cell? ⟨w.heap.size,0,none⟩=some (.slice nA c.needs.length nc)
 c1:w2.cell? ⟨w.heap.size,1,none⟩=some (.slice (some ⟨g,0,none⟩) c.herders.length cap)
 nb:w2.heap[w.heap.size+1]?=some (.cells #[.int .i64 0] 3 (0,0))
 lt:w.heap.size+1<b12∧b12<w2.heap.size∧b12<g
 given:∀ i,i<5->w2.cell? ⟨b12,i,none⟩=some (.int .u8 (rosOf ls i:Nat))
 needs:RIK w2 (fun b=>b<w2.heap.size∧b≠w.heap.size+1) nA c.needs
 herd:HsAtK w2 (fun b=>b<w2.heap.size∧b≠w.heap.size+1) (some ⟨g,0,none⟩) (repC c k d).herders
theorem pV (c:Camp) (k:Nat) (d:Int):(repC c k d).herders.length=c.herders.length:=by simp [repC]
theorem repC_at {c:Camp} {k i:Nat} {d:Int} {h:Herder} (hi:(repC c k d).herders[i]?=some h) (hk:k<c.herders.length) :
  (i=k∧h={ c.h k with off:=dJ (c.h k).off d })∨(i≠k∧c.herders[i]?=some h):=by
 unfold repC at hi
 dsimp only at hi
 rw [List.getElem?_set] at hi
 by_cases e:k=i
 ·subst e;rw [if_pos rfl,if_pos hk] at hi;cases hi;exact .inl ⟨rfl,rfl⟩
 ·rw [if_neg e] at hi;exact .inr ⟨fun h=>e h.symm,hi⟩
theorem jg {c:Camp} {sets:List Nat} (hs:∀ x∈sets,c.has x):∀ (k:Nat) (r:Ros) (n:Nat),(∀ i,c.has (r i))->∀ ρ∈walkL c sets k r n,∀ i,c.has (ρ i):=by
 intro k
 induction k with
 | zero=>intro r n hr ρ hρ;simp [walkL] at hρ;subst hρ;exact hr
 | succ k ih =>
  intro r n hr ρ hρ
  simp only [walkL,List.mem_flatMap] at hρ
  obtain ⟨x,hx,h⟩:=hρ
  split at h
  ·refine ih _ _ (fun i=>?_) ρ h
   unfold upd;split
   ·exact hs x hx
   ·exact hr i
  ·simp at h
theorem oC {c:Camp} (h:c.herders.length<=4) {x:Nat} (hx:c.has x):x<16:=by
 unfold Camp.has at hx
 exact Nat.lt_of_lt_of_le hx (Nat.pow_le_pow_right (by omega) h)
theorem pW {c:Camp} {ls:List (List Int)} (hE:formedE c ls=0) (h4:c.herders.length<=4) (i:Nat):rosOf ls i<16:=by
 unfold formedE at hE
 split at hE
 ·rename_i h;exact absurd hE h
 ·split at hE
  ·rename_i h;exact absurd hE h
  ·unfold rosOf
   cases hl:ls[i]? with
   | none=>decide
   | some l =>
    have:=bt.1 hE (ascE l c.herders.length) (List.mem_map.2 ⟨l,List.mem_of_getElem? hl,rfl⟩)
    exact ni l fun x hx=>by have:=(ascE_ok this).1 x hx;omega
theorem kv:∀ a b:Fin 16,bits BinOp.xor IntKind.u8 (a.val:Int) (b.val:Int)=((a.val ^^^ b.val:Nat):Int)∧a.val ^^^ b.val<16:=by decide +kernel
theorem lN:∀ x:Fin 16,(wl x.val).length<=4:=by decide +kernel
theorem lO {a b:Ros} (h:∀ i,i<5->a i ^^^ b i<16):∀ k,k<=5->farR a b k<=4*k:=by
 intro k
 induction k with
 | zero=>intro _;exact Nat.le_refl _
 | succ k ih =>
  intro hk
  have h1:=ih (by omega)
  have h2:=lN ⟨a k ^^^ b k,h k (by omega)⟩
  show farR a b k+(wl (a k ^^^ b k)).length<=_
  simp only at h2
  omega
def rosO (r:Ros):Array Value:=#[.int .u8 (r 0),.int .u8 (r 1),.int .u8 (r 2),.int .u8 (r 3),.int .u8 (r 4)]
theorem rB (r:Ros) {i:Nat} (hi:i<5):(rosO r)[i]?=some (.int .u8 (r i)):=by
 match i,hi with
 | 0,_=>rfl
 | 1,_=>rfl
 | 2,_=>rfl
 | 3,_=>rfl
 | 4,_=>rfl
def bstR (r:Ros):Option (Ros×Nat)->Ros
 | none=>r
 | some p=>p.1
def cstR:Option (Ros×Nat)->Nat
 | none=>0
 | some p=>p.2
structure RepI (r:Ros) (b15 b16 b9:Nat) (o:Option (Ros×Nat)) (W:World):Prop where
 best:W.heap[b15]?=some (.cells (rosO (bstR r o)) 91 (0,0))
 is:W.heap[b16]?=some (.cells #[.bool o.isSome] 4 (0,0))
 cost:W.heap[b9]?=some (.cells #[.int .i64 (cstR o)] 3 (0,0))
theorem bI {W:World} {b i:Nat} {a:Array Value} {u:Value} {t:TypeId} {f:Nat×Nat} (h:W.heap[b]?=some (.cells a t f)):(W.setCell ⟨b,i,none⟩ u).heap[b]?=some (.cells (a.setIfInBounds i u) t f):=by
 unfold World.setCell
 simp only [Array.getElem?_modify,if_true,h]
 rfl
theorem RepI.put {r:Ros} {b15 b16 b9:Nat} {o:Option (Ros×Nat)} {W:World} (h:RepI r b15 b16 b9 o W) (n1:b15≠b16) (n2:b15≠b9) (n3:b16≠b9) (ρ:Ros) (n:Nat) (T0:Nat->Prop) (h1:T0 b15) (h2:T0 b16) (h3:T0 b9) :
  RepI r b15 b16 b9 (some (ρ,n)) (((((((W.setCell ⟨b15,0,none⟩ (.int .u8 (ρ 0))).setCell ⟨b15,1,none⟩ (.int .u8 (ρ 1))).setCell ⟨b15,2,none⟩ (.int .u8 (ρ 2))).setCell ⟨b15,3,none⟩ (.int .u8 (ρ 3))).setCell ⟨b15,4,none⟩ (.int .u8 (ρ 4))).setCell ⟨b9,0,none⟩ (.int .i64 n)).setCell ⟨b16,0,none⟩ (.bool true)) ∧
  KT T0 W (((((((W.setCell ⟨b15,0,none⟩ (.int .u8 (ρ 0))).setCell ⟨b15,1,none⟩ (.int .u8 (ρ 1))).setCell ⟨b15,2,none⟩ (.int .u8 (ρ 2))).setCell ⟨b15,3,none⟩ (.int .u8 (ρ 3))).setCell ⟨b15,4,none⟩ (.int .u8 (ρ 4))).setCell ⟨b9,0,none⟩ (.int .i64 n)).setCell ⟨b16,0,none⟩ (.bool true)):=by
 have k:∀ (W:World) (p:Addr) (v:Value),T0 p.block->KT T0 W (W.setCell p v):=fun W p v hp=>KT.setCell W hp v
 refine ⟨⟨?_,?_,?_⟩,(k _ _ _ h1).trans ((k _ _ _ h1).trans ((k _ _ _ h1).trans ((k _ _ _ h1).trans ((k _ _ _ h1).trans ((k _ _ _ h3).trans (k _ _ _ h2))))))⟩
 ·rw [Below.heap_setCell _ _ _ _ (by show b15≠b16;exact n1),Below.heap_setCell _ _ _ _ (by show b15≠b9;exact n2)]
  exact bI (i:=4) (bI (i:=3) (bI (i:=2) (bI (i:=1) (bI (i:=0) h.best))))
 ·refine bI (i:=0) (a:=#[.bool o.isSome]) ?_
  have e:∀ (W:World) (i:Nat) (v:Value),(W.setCell ⟨b15,i,none⟩ v).heap[b16]?=W.heap[b16]?:=fun W i v=>Below.heap_setCell _ _ _ _ (by show b16≠b15;exact Ne.symm n1)
  rw [Below.heap_setCell _ _ _ _ (by show b16≠b9;exact n3),e,e,e,e,e]
  exact h.is
 ·rw [Below.heap_setCell _ _ _ _ (by show b9≠b16;exact Ne.symm n3)]
  refine bI (i:=0) (a:=#[.int .i64 (cstR o)]) ?_
  have e:∀ (W:World) (i:Nat) (v:Value),(W.setCell ⟨b15,i,none⟩ v).heap[b9]?=W.heap[b9]?:=fun W i v=>Below.heap_setCell _ _ _ _ (by show b9≠b15;exact Ne.symm n2)
  rw [e,e,e,e,e]
  exact h.cost
theorem RepI.drewN {r:Ros} {b15 b16 b9:Nat} {o:Option (Ros×Nat)} {W:World} (h:RepI r b15 b16 b9 o W) (m:Nat):RepI r b15 b16 b9 o (W.drewN m):=⟨h.best,h.is,h.cost⟩
end Go.Proofs.YtgicaeombogkcaaGreat
namespace Go
section
variable {F:Fence} {n:Nat} {P:Program} {ops:Array Oper} {C:World->Prop}
def iS (o:Oper):Bool:=match o.op with
 | .defer _=>false
 | _=>true
theorem jv {Q:Exit->Act->World->Prop} {r:Nat} (hro:F.round=none) (hnd:ops.all iS=true):∀ (l:List Nat) (a:Act) (w:World),wpOpsIn F n P ops Q l a w->wpOpsIn (F.inRound r) n P ops Q l a w:=by
 intro l
 induction l with
 | nil=>exact fun a w h=>h
 | cons i rest ih =>
  intro a w h
  simp only [wpOpsIn] at h ⊢
  cases ho:ops[i]? with
  | none=>simp only [ho] at h ⊢;exact ih a w h
  | some o =>
   simp only [ho] at h ⊢
   have hm:o∈ops:=Array.mem_of_getElem? ho
   have hd:∀ c,o.op≠.defer c:=fun c e=>by
    have:=(Array.all_eq_true_iff_forall_mem.1 hnd) o hm
    simp [iS,e] at this
   split
   ·rename_i hw
    rw [if_pos hw] at h
    have h2:=Oper.wpIn_mono (K':=wpOpsIn (F.inRound r) n P ops Q rest) (fun a w=>ih a w) h
    unfold Oper.wpIn at h2 ⊢
    rw [Oper.semAt_eq _ _ _ hd] at h2 ⊢
    refine ⟨h2.1,?_⟩
    have h3:=h2.2
    generalize (execOp a.eval o).run P w=res at h3 ⊢
    cases res with
    | ok x w'=>cases x<;>exact h3
    | halt x w'=>cases x<;>exact h3
   ·rename_i hw
    rw [if_neg hw] at h
    exact ⟨h.1,ih _ _ h.2⟩
theorem dO {id r:Nat} {Q:Exit->Act->World->Prop} {a:Act} {w:World} {l:List Oper} (hro:F.round=none) (hnd:l.toArray.all iS=true) (hm:P.follows .mixedOrders=true) (hB:Region.lexB .any l.toArray=true)
  (h:wpQuietIn F n P l.toArray (fun w'=>∃ n,w'=w.drewN n) (fun a'=>∀ w',(∃ n,w'=w.drewN n)->Q .normal a' w') l a):(Code.region id l.toArray true).wpIn (F.inRound r) n P Q a w:=by
 simp only [Region.lexB,Bool.and_eq_true] at hB
 refine wpIn_region_draw fun t=>jv hro hnd _ _ _ ?_
 simp only [Region.schedule,hm,Bool.true_or,if_true]
 refine wpAnyIn_sound l.toArray.size t _ a _ ?_
 refine wpAnyIn_of_quiet (C:=fun w'=>∃ n,w'=w.drewN n) (Q:=fun a'=>∀ w',(∃ n,w'=w.drewN n)->Q .normal a' w') hro (fun _ w' hw' h=>h w' hw') _ _ _ _ ⟨1,rfl⟩ ?_
 have:=wpAnyQIn_lex (F:=F) (n:=n) (C:=fun w'=>∃ n,w'=w.drewN n) (md:=.any) hB.1 l 0 (Array.replicate l.length false) a (by simp) (by simpa using hB.2) (by simpa using h)
 simpa using this
end
end Go
