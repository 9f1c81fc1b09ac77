/- Parts of the proof. -/
import Derived.Test.YtgicaeombogkcaaGreatP19
import Derived.Test.YtgicaeombogkcaaGreatP16
import Derived.Test.YtgicaeombogkcaaGreatP02
import Derived.Test.YtgicaeombogkcaaGreatP10
set_option linter.all false
set_option maxHeartbeats 8000000
set_option maxRecDepth 20000
namespace Go.Proofs.YtgicaeombogkcaaGreat
open Go.RowKit Go.Iso Go.Co Go.Conc Go.Sq
attribute [local go_sem] Oper.semAt_some
noncomputable def cB:Code:=Tryz.f13.body.getD .skip
noncomputable def c5:Array Oper:=cOps (au (ah (ah (ah (ah cB)))))
noncomputable def x5:Code:=ah (ah (ah (ah (ah cB))))
theorem qp {bn bo bh:Nat} {w:World} {SB:FuncId->Bool} (hn:w.heap[bn]?=some (.cells needL.toArray 3 (0,0))) (ho:w.heap[bo]?=some (.cells #[.int .i64 0] 3 (0,0))) (hh:w.heap[bh]?=some (.cells (herdL bo).toArray 54 (0,0))) :
  ∀ b,(b=bn∨b=bo∨b=bh)->∃ o,w.heap[b]?=some o∧ORel (SP SB Hid.no) (CK Sq.prog SB false) (idOn fun b=>b=bn∨b=bo∨b=bh) o o:=by
 rintro b (rfl | rfl | rfl)
 ·refine ⟨_,hn,.cells (allIn fun v hv=>?_) fun i h1 h2=>⟨h1,h2⟩⟩
  simp only [needL,List.mem_cons,List.not_mem_nil,or_false] at hv
  rcases hv with rfl | rfl | rfl<;>exact VRel.int _ _
 ·refine ⟨_,ho,.cells (allIn (l:=[.int .i64 0]) fun v hv=>?_) fun i h1 h2=>⟨h1,h2⟩⟩
  simp only [List.mem_cons,List.not_mem_nil,or_false] at hv
  subst hv;exact VRel.int _ _
 ·refine ⟨_,hh,.cells (allIn fun v hv=>?_) fun i h1 h2=>⟨h1,h2⟩⟩
  simp only [herdL,List.mem_cons,List.not_mem_nil,or_false] at hv
  rcases hv with rfl | rfl | rfl | rfl | rfl | rfl | rfl | rfl | rfl | rfl | rfl | rfl<;>first | exact VRel.int _ _ | exact VRel.nils _ _ | exact InK.slice (.inr (.inl rfl)) _ _ _ _
def kj (bn bo bh:Nat) (w1:World) (v:Value) (w':World):Prop:=∃ (cb sb cap:Nat) (cur:List Value) (t:TypeId),v=.tuple #[.pointer (some ⟨cb,0,none⟩),.int .i64 0]∧w1.heap.size<=cb∧cb<sb∧CampW w' bn bo bh cb sb cap cur t∧w1.heap.size<=w'.heap.size∧∀ b,b<w1.heap.size->w'.heap[b]?=w1.heap[b]?
theorem oe (bn bo bh:Nat) {SB:FuncId->Bool}:AsRel (SP SB Hid.no) (idOn fun b=>b=bn∨b=bo∨b=bh) #[.agg #[.slice (some ⟨bn,0,none⟩) 3 3,.slice (some ⟨bh,0,none⟩) 3 3]] #[.agg #[.slice (some ⟨bn,0,none⟩) 3 3,.slice (some ⟨bh,0,none⟩) 3 3]] :=
 allIn (l:=[.agg #[.slice (some ⟨bn,0,none⟩) 3 3,.slice (some ⟨bh,0,none⟩) 3 3]]) fun v hv=>by
  simp only [List.mem_cons,List.not_mem_nil,or_false] at hv
  subst hv
  refine InK.agg (l:=[.slice (some ⟨bn,0,none⟩) 3 3,.slice (some ⟨bh,0,none⟩) 3 3]) fun v hv=>?_
  simp only [List.mem_cons,List.not_mem_nil,or_false] at hv
  rcases hv with rfl | rfl
  ·exact InK.slice (.inl rfl) _ _ _ _
  ·exact InK.slice (.inr (.inr rfl)) _ _ _ _
theorem lL {bn bo bh:Nat} {w:World} (hn:w.heap[bn]?=some (.cells needL.toArray 3 (0,0))) (ho:w.heap[bo]?=some (.cells #[.int .i64 0] 3 (0,0))) (hh:w.heap[bh]?=some (.cells (herdL bo).toArray 54 (0,0))) (τ:Tape) (d:Nat) :
  Calls Sq.prog 48 #[.agg #[.slice (some ⟨bn,0,none⟩) 3 3,.slice (some ⟨bh,0,none⟩) 3 3]] (on w τ d) (fun e w'=>∃ v,e=.returned v∧kj bn bo bh w v w'):=by
 have ln:=(Array.getElem?_eq_some_iff.1 hn).1
 have lo:=(Array.getElem?_eq_some_iff.1 ho).1
 have lh:=(Array.getElem?_eq_some_iff.1 hh).1
 have hb:∀ i:Nat,(on w τ d).cell? ⟨bh,i,none⟩=(herdL bo)[i]?:=fun i=>(cell_of (W:=on w τ d) hh i).trans (by simp)
 have hri:RI (on w τ d) w.heap.size (some ⟨bn,0,none⟩) wakeCamp.needs:=fun _=>by
  refine ⟨bn,0,rfl,ln,fun i x hx=>?_⟩
  rw [cell_of (W:=on w τ d) hn]
  match i,hx with
  | 0,hx=>simp [wakeCamp,wakeC] at hx;subst hx;rfl
  | 1,hx=>simp [wakeCamp,wakeC] at hx;subst hx;rfl
  | 2,hx=>simp [wakeCamp,wakeC] at hx;subst hx;rfl
  | k+3,hx=>simp [wakeCamp,wakeC] at hx
 have hro:RI (on w τ d) w.heap.size (some ⟨bo,0,none⟩) [0]:=fun _=>by
  refine ⟨bo,0,rfl,lo,fun i x hx=>?_⟩
  rw [cell_of (W:=on w τ d) ho]
  match i,hx with
  | 0,hx=>simp at hx;subst hx;rfl
  | k+1,hx=>simp at hx
 have hhs:HsAt (on w τ d) w.heap.size (some ⟨bh,0,none⟩) wakeCamp.herders:=fun _=>⟨bh,0,rfl,lh,fun i x hx=>by
  match i,hx with
  | 0,hx=>simp [wakeCamp,wakeC] at hx;subst hx;exact ⟨hb _,hb _,hb _,none,0,hb _,.nil⟩
  | 1,hx=>simp [wakeCamp,wakeC] at hx;subst hx;exact ⟨hb _,hb _,hb _,_,1,hb _,hro⟩
  | 2,hx=>simp [wakeCamp,wakeC] at hx;subst hx;exact ⟨hb _,hb _,hb _,none,0,hb _,.nil⟩
  | k+3,hx=>simp [wakeCamp,wakeC] at hx⟩
 refine (iP (some ⟨bn,0,none⟩) (some ⟨bh,0,none⟩) 3 3 wakeCamp (on w τ d) w.heap.size (Nat.le_refl _) hri hhs (by decide) (by decide) (by decide)).mono ?_
 rintro e w' ⟨hg,hbeg⟩
 rw [if_pos fU] at hbeg
 obtain ⟨cb,g,cap,rfl,hcb,hcg,hK,hF1,hF2⟩:=hbeg
 obtain ⟨cur,t,q1,q2⟩:=hF1 _ _ _ rfl
 have hsame:∀ b,b<w.heap.size->w'.heap[b]?=w.heap[b]?:=fun b hb=>hg.below.block b hb
 refine ⟨_,rfl,cb,g,cap,cur.toList,t,rfl,hcb,hcg,⟨fun p hp=>?_,fun i x hx=>?_,q2⟩,hg.size,hsame⟩
 ·simp only [campO,List.mem_cons,List.not_mem_nil,or_false] at hp
  rcases hp with rfl | rfl | rfl | rfl | rfl
  ·exact (hsame bn ln).trans hn
  ·exact (hsame bo lo).trans ho
  ·exact (hsame bh lh).trans hh
  ·exact hF2
  ·simpa using q1
 ·have h1:=hK.sets i x hx
  rw [cell_of q1] at h1
  simpa using h1
theorem og {BB:FuncId->Bool} (hB:BB 13=true) (hLy:LooksY BB) {Q:Goroutine->World->Prop} (hQ:∀ g w W,Same w W->Q g w->Q g W) {cs:List Frame} (hcs:cs≠[]) {bn bo bh:Nat} {w:World}
  (hn:w.heap[bn]?=some (.cells needL.toArray 3 (0,0))) (ho:w.heap[bo]?=some (.cells #[.int .i64 0] 3 (0,0))) (hh:w.heap[bh]?=some (.cells (herdL bo).toArray 54 (0,0)))
  (h:∀ (cb sb cap nb:Nat) (cur:List Value) (t:TypeId) (w':World) (T:Array Value),CampW w' bn bo bh cb sb cap cur t->w'.heap[nb]?=some (cntO 0)->hasB (campO bn bo bh cb sb cap cur t) nb=false->T.size=19->T.getD 6 undef=.pointer (some ⟨nb,0,none⟩)->w.heap.size<=w'.heap.size->(∀ b,b<w.heap.size->w'.heap[b]?=w.heap[b]?) ->
   KTr Tryz.prog BB Q 0 (bF PP 49 (eArgs cb (.func 50) #[] [Value.pointer (some ⟨nb,0,none⟩)].toArray) ((base 13).at ⟨T,[]⟩ [.inRegion c5 [2],.code x5]) cs) w') :
  KTr Tryz.prog BB Q 0 (Go.Conc.G (Frame.enter Tryz.prog 13 #[campV (some ⟨bn,0,none⟩) (some ⟨bh,0,none⟩) wakeCamp 3 3] .normal) cs) w:=by
 rw [enter_at _ Tryz.func13 rfl]
 simp only [Tryz.ntmps13,List.size_toArray,List.length_cons,List.length_nil,Nat.reduceAdd,Nat.reduceSub,Array.replicate_succ,Array.replicate_zero,List.push_toArray,List.append_toArray,List.nil_append,List.cons_append]
 unfold campV
 change KTr Tryz.prog BB Q 0 (G _ cs) w
 have ln:wakeCamp.needs.length=3:=rfl
 have lh:wakeCamp.herders.length=3:=rfl
 rw [ln,lh]
 refine aa hQ hB (by kernel_rfl) fun τ d=>?_
 rw [stepG_seq]
 simp only [goes_go]
 refine ⟨hcs,w,Same.on_,?_⟩
 refine aa hQ hB (by kernel_rfl) fun τ d=>?_
 rw [stepG_region]
 simp only [goes_go,List.size_toArray,List.length_cons,List.length_nil,Nat.reduceAdd,Nat.zero_add,List.range,List.range.loop]
 refine ⟨hcs,w,Same.on_,?_⟩
 refine aa hQ hB (by kernel_rfl) fun τ d=>?_
 refine goes_oper_k rfl rfl (by decide) (fun K hK=>?_)
 have q1:=af
 have q2:=ab
 have q3:=ae
 go_simp
 clear q1 q2 q3
 refine hK _ _ ⟨hcs,w.alloc _,⟨rfl,rfl,rfl⟩,?_⟩
 clear hK K
 try walk_nrm
 try simp only [ab]
 obtain ⟨w1,hw1⟩:∃ w1,w1=w.alloc (.cells #[.slice (some ⟨bn,0,none⟩) 3 3,.slice (some ⟨bh,0,none⟩) 3 3] 25):=⟨_,rfl⟩
 rw [<- hw1]
 have hz1:w1.heap.size=w.heap.size+1:=by rw [hw1,ax]
 have hob:w1.heap[w.heap.size]?=some (.cells #[.slice (some ⟨bn,0,none⟩) 3 3,.slice (some ⟨bh,0,none⟩) 3 3] 25 (0,0)):=by rw [hw1,av,if_pos rfl]
 have hold1:∀ b,b<w.heap.size->w1.heap[b]?=w.heap[b]?:=fun b hb=>by rw [hw1,av,if_neg (by omega)]
 have hc0:w1.cell? ⟨w.heap.size,0,none⟩=some (.slice (some ⟨bn,0,none⟩) 3 3):=cell_of hob 0
 have hc1:w1.cell? ⟨w.heap.size,1,none⟩=some (.slice (some ⟨bh,0,none⟩) 3 3):=cell_of hob 1
 have lt3:bn<w.heap.size∧bo<w.heap.size∧bh<w.heap.size:=⟨(Array.getElem?_eq_some_iff.1 hn).1,(Array.getElem?_eq_some_iff.1 ho).1,(Array.getElem?_eq_some_iff.1 hh).1⟩
 have hn1:=(hold1 bn lt3.1).trans hn
 have ho1:=(hold1 bo lt3.2.1).trans ho
 have hh1:=(hold1 bh lt3.2.2).trans hh
 clear hw1
 refine aa hQ hB (by kernel_rfl) fun τ d=>?_
 refine goes_oper_k rfl rfl (by decide) (fun K hK=>?_)
 have q1:=af
 have q2:=ab
 have q3:=ae
 go_simp
 clear q1 q2 q3
 refine hK _ _ ⟨hcs,w1,⟨rfl,rfl,rfl⟩,?_⟩
 clear hK K
 try walk_nrm
 try simp only [ab]
 refine aa hQ hB (by kernel_rfl) fun τ d=>?_
 refine goes_oper_k rfl rfl (by decide) (fun K hK=>?_)
 have q1:=af
 have q2:=ab
 have q3:=ae
 go_simp
 clear q1 q2 q3
 refine hK _ _ ⟨hcs,w1,⟨rfl,rfl,rfl⟩,?_⟩
 clear hK K
 try walk_nrm
 try simp only [ab]
 refine aa hQ hB (by kernel_rfl) fun τ d=>?_
 rw [stepG_region_end]
 simp only [goes_go]
 refine ⟨hcs,w1,Same.on_,?_⟩
 refine aa hQ hB (by kernel_rfl) fun τ d=>?_
 rw [stepG_seq]
 simp only [goes_go]
 refine ⟨hcs,w1,Same.on_,?_⟩
 refine aa hQ hB (by kernel_rfl) fun τ d=>?_
 rw [stepG_region]
 simp only [goes_go,List.size_toArray,List.length_cons,List.length_nil,Nat.reduceAdd,Nat.zero_add,List.range,List.range.loop]
 refine ⟨hcs,w1,Same.on_,?_⟩
 refine aa hQ hB (by kernel_rfl) fun τ d=>?_
 refine goes_oper_k rfl rfl (by decide) (fun K hK=>?_)
 have q1:=af
 have q2:=ab
 have q3:=ae
 go_simp
 clear q1 q2 q3
 refine hK _ _ ⟨hcs,w1,⟨rfl,rfl,rfl⟩,?_⟩
 clear hK K
 try walk_nrm
 try simp only [ab]
 refine aa hQ hB (by kernel_rfl) fun τ d=>?_
 refine aw rfl rfl (by decide) rfl Tryz.func48 (by kernel_rfl) (by kernel_rfl) ⟨hcsM _ _,w1,Same.on_,?_⟩
 try walk_nrm
 refine (da (H:=Hid.no) hLy).fn (f:=48) (by decide) (by decide) (K0:=fun b=>b=bn∨b=bo∨b=bh) hcs (fun _ _=>Nat.zero_le _) (Nat.zero_le _) (oe bn bo bh) (fun b _ hb=>by cases hb) (fun b hb=>by cases hb)
  (fun b hb _=>qp hn1 ho1 hh1 b hb) hQ (R:=kj bn bo bh w1) (lL hn1 ho1 hh1) ?_
 rintro v w2 ⟨cb,sb,cap,cur,t,rfl,hcb,hsb,hcw,hz2,hold2⟩
 change KTr Tryz.prog BB Q 0 _ w2
 rw [Frame.finish_at]
 simp only [List.getElem?_toArray,List.getElem?_cons_succ,List.getElem?_cons_zero,Option.bind_some]
 try walk_nrm
 refine aa hQ hB (by kernel_rfl) fun τ d=>?_
 refine goes_oper_k rfl rfl (by decide) (fun K hK=>?_)
 have q1:=af
 have q2:=ab
 have q3:=ae
 go_simp
 clear q1 q2 q3
 refine hK _ _ ⟨hcs,w2,⟨rfl,rfl,rfl⟩,?_⟩
 clear hK K
 try walk_nrm
 try simp only [ab]
 refine aa hQ hB (by kernel_rfl) fun τ d=>?_
 refine goes_oper_k rfl rfl (by decide) (fun K hK=>?_)
 have q1:=af
 have q2:=ab
 have q3:=ae
 go_simp
 clear q1 q2 q3
 refine hK _ _ ⟨hcs,w2,⟨rfl,rfl,rfl⟩,?_⟩
 clear hK K
 try walk_nrm
 try simp only [ab]
 refine aa hQ hB (by kernel_rfl) fun τ d=>?_
 refine goes_oper_k rfl rfl (by decide) (fun K hK=>?_)
 have q1:=af
 have q2:=ab
 have q3:=ae
 go_simp
 clear q1 q2 q3
 refine hK _ _ ⟨hcs,w2,⟨rfl,rfl,rfl⟩,?_⟩
 clear hK K
 try walk_nrm
 try simp only [ab]
 refine aa hQ hB (by kernel_rfl) fun τ d=>?_
 refine goes_oper_k rfl rfl (by decide) (fun K hK=>?_)
 have q1:=af
 have q2:=ab
 have q3:=ae
 go_simp
 clear q1 q2 q3
 refine hK _ _ ⟨hcs,w2,⟨rfl,rfl,rfl⟩,?_⟩
 clear hK K
 try walk_nrm
 try simp only [ab]
 refine aa hQ hB (by kernel_rfl) fun τ d=>?_
 refine goes_oper_k rfl rfl (by decide) (fun K hK=>?_)
 have q1:=af
 have q2:=ab
 have q3:=ae
 go_simp
 clear q1 q2 q3
 refine hK _ _ ⟨hcs,w2,⟨rfl,rfl,rfl⟩,?_⟩
 clear hK K
 try walk_nrm
 try simp only [ab]
 refine aa hQ hB (by kernel_rfl) fun τ d=>?_
 rw [stepG_region_end]
 simp only [goes_go]
 refine ⟨hcs,w2,Same.on_,?_⟩
 refine aa hQ hB (by kernel_rfl) fun τ d=>?_
 rw [stepG_seq]
 simp only [goes_go]
 refine ⟨hcs,w2,Same.on_,?_⟩
 refine aa hQ hB (by kernel_rfl) fun τ d=>?_
 rw [stepG_seq]
 simp only [goes_go]
 refine ⟨hcs,w2,Same.on_,?_⟩
 refine aa hQ hB (by kernel_rfl) fun τ d=>?_
 rw [stepG_region]
 simp only [goes_go,List.size_toArray,List.length_cons,List.length_nil,Nat.reduceAdd,Nat.zero_add,List.range,List.range.loop]
 refine ⟨hcs,w2,Same.on_,?_⟩
 refine aa hQ hB (by kernel_rfl) fun τ d=>?_
 refine goes_oper_k rfl rfl (by decide) (fun K hK=>?_)
 have q1:=af
 have q2:=ab
 have q3:=ae
 go_simp
 clear q1 q2 q3
 refine hK _ _ ⟨hcs,w2,⟨rfl,rfl,rfl⟩,?_⟩
 clear hK K
 try walk_nrm
 try simp only [ab]
 refine aa hQ hB (by kernel_rfl) fun τ d=>?_
 refine goes_oper_k rfl rfl (by decide) (fun K hK=>?_)
 have q1:=af
 have q2:=ab
 have q3:=ae
 go_simp
 clear q1 q2 q3
 refine hK _ _ ⟨hcs,w2,⟨rfl,rfl,rfl⟩,?_⟩
 clear hK K
 try walk_nrm
 try simp only [ab]
 refine aa hQ hB (by kernel_rfl) fun τ d=>?_
 rw [stepG_region_end]
 simp only [goes_go]
 refine ⟨hcs,w2,Same.on_,?_⟩
 refine aa hQ hB (by kernel_rfl) fun τ d=>?_
 rw [stepG_cond (t:=false) rfl]
 simp only [goes_go,if_true,if_false,Bool.false_eq_true,↓reduceIte]
 refine ⟨hcs,w2,Same.on_,?_⟩
 refine aa hQ hB (by kernel_rfl) fun τ d=>?_
 rw [stepG_skip]
 simp only [goes_go]
 refine ⟨hcs,w2,Same.on_,?_⟩
 refine aa hQ hB (by kernel_rfl) fun τ d=>?_
 rw [stepG_seq]
 simp only [goes_go]
 refine ⟨hcs,w2,Same.on_,?_⟩
 refine aa hQ hB (by kernel_rfl) fun τ d=>?_
 rw [stepG_region]
 simp only [goes_go,List.size_toArray,List.length_cons,List.length_nil,Nat.reduceAdd,Nat.zero_add,List.range,List.range.loop]
 refine ⟨hcs,w2,Same.on_,?_⟩
 refine aa hQ hB (by kernel_rfl) fun τ d=>?_
 refine goes_oper_k rfl rfl (by decide) (fun K hK=>?_)
 have q1:=af
 have q2:=ab
 have q3:=ae
 go_simp
 clear q1 q2 q3
 refine hK _ _ ⟨hcs,w2.alloc _,⟨rfl,rfl,rfl⟩,?_⟩
 clear hK K
 try walk_nrm
 try simp only [ab]
 obtain ⟨w3,hw3⟩:∃ w3,w3=w2.alloc (cntO 0):=⟨_,rfl⟩
 change KTr Tryz.prog BB Q 0 _ (w2.alloc (cntO 0))
 rw [<- hw3]
 have hz3:w3.heap.size=w2.heap.size+1:=by rw [hw3,ax]
 have hold3:∀ b,b<w2.heap.size->w3.heap[b]?=w2.heap[b]?:=fun b hb=>by rw [hw3,av,if_neg (by omega)]
 have hnb:w3.heap[w2.heap.size]?=some (cntO 0):=by rw [hw3,av,if_pos rfl]
 clear hw3
 refine aa hQ hB (by kernel_rfl) fun τ d=>?_
 rw [stepG_region_end]
 simp only [goes_go]
 refine ⟨hcs,w3,Same.on_,?_⟩
 refine aa hQ hB (by kernel_rfl) fun τ d=>?_
 rw [stepG_seq]
 simp only [goes_go]
 refine ⟨hcs,w3,Same.on_,?_⟩
 refine aa hQ hB (by kernel_rfl) fun τ d=>?_
 rw [stepG_region]
 simp only [goes_go,List.size_toArray,List.length_cons,List.length_nil,Nat.reduceAdd,Nat.zero_add,List.range,List.range.loop]
 refine ⟨hcs,w3,Same.on_,?_⟩
 refine aa hQ hB (by kernel_rfl) fun τ d=>?_
 refine goes_oper_k rfl rfl (by decide) (fun K hK=>?_)
 have q1:=af
 have q2:=ab
 have q3:=ae
 go_simp
 clear q1 q2 q3
 refine hK _ _ ⟨hcs,w3,⟨rfl,rfl,rfl⟩,?_⟩
 clear hK K
 try walk_nrm
 try simp only [ab]
 refine aa hQ hB (by kernel_rfl) fun τ d=>?_
 refine goes_oper_k rfl rfl (by decide) (fun K hK=>?_)
 have q1:=af
 have q2:=ab
 have q3:=ae
 go_simp
 clear q1 q2 q3
 refine hK _ _ ⟨hcs,w3,⟨rfl,rfl,rfl⟩,?_⟩
 clear hK K
 try walk_nrm
 try simp only [ab]
 refine aa hQ hB (by kernel_rfl) fun τ d=>?_
 refine aw rfl rfl (by decide) rfl Tryz.func49 (by kernel_rfl) (by kernel_rfl) ⟨hcsM _ _,w3,Same.on_,?_⟩
 try walk_nrm
 refine h cb sb cap w2.heap.size cur t w3 _ (hcw.keep fun b hb=>hold3 b (hcw.lt hb)) hnb (by
  cases hq:hasB (campO bn bo bh cb sb cap cur t) w2.heap.size with
  | false=>rfl
  | true=>exact absurd (hcw.lt hq) (Nat.lt_irrefl _)) rfl rfl (by omega) fun b hb=>(hold3 b (by omega)).trans ((hold2 b (by omega)).trans (hold1 b hb))
theorem arr19 {T:Array Value} (h:T.size=19):∃ y0 y1 y2 y3 y4 y5 y6 y7 y8 y9 y10 y11 y12 y13 y14 y15 y16 y17 y18:Value,T=#[y0,y1,y2,y3,y4,y5,y6,y7,y8,y9,y10,y11,y12,y13,y14,y15,y16,y17,y18]:=by
 obtain ⟨l⟩:=T
 have h:l.length=19:=h
 match l,h with
 | [y0,y1,y2,y3,y4,y5,y6,y7,y8,y9,y10,y11,y12,y13,y14,y15,y16,y17,y18],_=>exact ⟨y0,y1,y2,y3,y4,y5,y6,y7,y8,y9,y10,y11,y12,y13,y14,y15,y16,y17,y18,rfl⟩
theorem mG {BB:FuncId->Bool} (hB:BB 13=true) (hLy:LooksY BB) {Q:Goroutine->World->Prop} (hQ:∀ g w W,Same w W->Q g w->Q g W) {b0:Frame} {a0:Act} {ops:Array Oper} {i:Nat} {rest:List Nat} {k:List Item} {cs:List Frame} (hcs:cs≠[]) {nb:Nat} {n:Int} {w:World}
  (hn:w.heap[nb]?=some (cntO n)) {T:Array Value} (hT:T.size=19) (h6:T.getD 6 undef=.pointer (some ⟨nb,0,none⟩))
  (h:KTr Tryz.prog BB Q 0 (Go.Conc.G (b0.at (a0.put ((ops[i]?).bind (·.dst)) (.tuple #[.int .i64 n,.int .i64 0])) (.inRegion ops rest :: k)) cs) w) :
  KTr Tryz.prog BB Q 0 (back ((base 13).at ⟨T,[]⟩ [.inRegion c5 [2],.code x5]) (b0.at a0 (.inRegion ops (i :: rest) :: k) :: cs)) w:=by
 obtain ⟨y0,y1,y2,y3,y4,y5,y6,y7,y8,y9,y10,y11,y12,y13,y14,y15,y16,y17,y18,rfl⟩:=arr19 hT
 have h6:y6=.pointer (some ⟨nb,0,none⟩):=h6
 subst h6
 unfold back
 rw [Frame.finish_at]
 change KTr Tryz.prog BB Q 0 (G _ _) w
 have e17:(c5[2]?.bind (·.dst))=some 17:=rfl
 rw [e17]
 try walk_nrm
 refine aa hQ hB (by kernel_rfl) fun τ d=>?_
 rw [stepG_region_end]
 simp only [goes_go]
 refine ⟨(hcsM _ _),w,Same.on_,?_⟩
 have ex5:x5=ah (ah (ah (ah (ah cB)))):=rfl
 simp only [cB,Tryz.f13,Option.getD_some,ah] at ex5
 rw [ex5]
 clear ex5
 refine aa hQ hB (by kernel_rfl) fun τ d=>?_
 rw [stepG_seq]
 simp only [goes_go]
 refine ⟨(hcsM _ _),w,Same.on_,?_⟩
 refine aa hQ hB (by kernel_rfl) fun τ d=>?_
 rw [stepG_region]
 simp only [goes_go,List.size_toArray,List.length_cons,List.length_nil,Nat.reduceAdd,Nat.zero_add,List.range,List.range.loop]
 refine ⟨(hcsM _ _),w,Same.on_,?_⟩
 refine aa hQ hB (by kernel_rfl) fun τ d=>?_
 refine aw rfl rfl (by decide) rfl Tryz.func52 (by kernel_rfl) (by kernel_rfl) ⟨hcsM _ _,w,Same.on_,?_⟩
 try walk_nrm
 refine (da (H:=Hid.no) hLy).fn (f:=52) (by decide) (by decide) (K0:=fun b=>b=nb) (hcsM _ _) (fun _ _=>Nat.zero_le _) (Nat.zero_le _) (allIn (l:=[.pointer (some ⟨nb,0,none⟩)]) fun v hv=>?_) (fun b _ hb=>by cases hb) (fun b hb=>by cases hb)
  (fun b hb _=>⟨_,(by rw [hb];exact hn),iR (cntS n)⟩) hQ (R:=fun v w'=>v=.int .i64 n∧Same w w') (fun τ d=>(oW nb n (on w τ d) hn).mono ?_) ?_
 ·simp only [List.mem_cons,List.not_mem_nil,or_false] at hv
  subst hv;exact InK.ptr (K:=fun b=>b=nb) rfl _ _
 ·rintro e w9 ⟨rfl,rfl⟩
  exact ⟨_,rfl,rfl,Same.on_⟩
 rintro v w2 ⟨rfl,hs2⟩
 refine KTr.same hQ (W:=w2) ?_ hs2
 change KTr Tryz.prog BB Q 0 _ w
 rw [Frame.finish_at]
 simp only [List.getElem?_toArray,List.getElem?_cons_succ,List.getElem?_cons_zero,Option.bind_some]
 try walk_nrm
 refine aa hQ hB (by kernel_rfl) fun τ d=>?_
 refine goes_oper_k rfl rfl (by decide) (fun K hK=>?_)
 have q1:=af
 have q2:=ab
 have q3:=ae
 go_simp
 clear q1 q2 q3
 refine hK _ _ ⟨(hcsM _ _),w,⟨rfl,rfl,rfl⟩,?_⟩
 clear hK K
 try walk_nrm
 try simp only [ab]
 refine aa hQ hB (by kernel_rfl) fun τ d=>?_
 refine goes_oper_k rfl rfl (by decide) (fun K hK=>?_)
 have q1:=af
 have q2:=ab
 have q3:=ae
 go_simp
 clear q1 q2 q3
 refine hK _ _ ⟨(hcsM _ _),w,⟨rfl,rfl,rfl⟩,?_⟩
 clear hK K
 try walk_nrm
 try simp only [ab]
 refine aa hQ hB (by kernel_rfl) fun τ d=>?_
 rw [stepG_region_end]
 simp only [goes_go]
 refine ⟨(hcsM _ _),w,Same.on_,?_⟩
 refine aa hQ hB (by kernel_rfl) fun τ d=>?_
 rw [stepG_ret']
 simp only [goes_go]
 refine ⟨(hcsM _ _),w,Same.on_,?_⟩
 refine cP hQ hB (by kernel_rfl) fun τ d=>?_
 refine goes_leave2 rfl rfl Tryz.func13 rfl ⟨hcs,w,Same.on_,?_⟩
 exact h
open Go.RowKit Go.Iso Go.Co Go.Conc Go.Sq
attribute [local go_sem] Oper.semAt_some
noncomputable def dB:Code:=Tryz.f15.body.getD .skip
noncomputable def d6:Array Oper:=cOps (au (ah (ah (ah (ah (ah dB))))))
noncomputable def z6:Code:=ah (ah (ah (ah (ah (ah dB)))))
theorem oh {W:World} {b i:Nat} {a:Array Value} {u:Value} {t:TypeId} {f:Nat×Nat} (h:W.heap[b]?=some (.cells a t f)):(W.setCell ⟨b,i,none⟩ u).heap[b]?=some (.cells (a.setIfInBounds i u) t f):=by
 unfold World.setCell
 simp only [Array.getElem?_modify,if_true,h]
 rfl
theorem put_ne {W:World} {b i c:Nat} {u:Value} (h:c≠b):(W.setCell ⟨b,i,none⟩ u).heap[c]?=W.heap[c]?:=by
 unfold World.setCell
 simp only [Array.getElem?_modify]
 rw [if_neg (fun e=>h e.symm)]
theorem oi {W:World} {b i:Nat} {u:Value}:(W.setCell ⟨b,i,none⟩ u).heap.size=W.heap.size:=by
 unfold World.setCell;simp
theorem oj {W:World} {b:Nat} {l:Array Value} {t:TypeId} (h:W.heap[b]?=some (.cells l t (0,0))) (i:Nat):W.frozen? ⟨b,i,none⟩=false:=by
 unfold World.frozen?
 simp [h]
theorem pN {BB:FuncId->Bool} (hB:BB 15=true) (hLy:LooksY BB) {Q:Goroutine->World->Prop} (hQ:∀ g w W,Same w W->Q g w->Q g W) {cs:List Frame} (hcs:cs≠[]) {bn bo bh:Nat} {w:World}
  (hn:w.heap[bn]?=some (.cells needL.toArray 3 (0,0))) (ho:w.heap[bo]?=some (.cells #[.int .i64 0] 3 (0,0))) (hh:w.heap[bh]?=some (.cells (herdL bo).toArray 54 (0,0)))
  (h:∀ (cb sb cap qb xb kb:Nat) (cur:List Value) (t:TypeId) (w':World) (T:Array Value),CampW w' bn bo bh cb sb cap cur t->w'.heap[kb]?=some (keepA false fun _=>0)->(∀ p∈bestX xb qb cb,w'.heap[p.1]?=some (.cells p.2.1.toArray p.2.2 (0,0)))->hasB (campO bn bo bh cb sb cap cur t++bestX xb qb cb) kb=false ->
   T.size=27->T.getD 4 undef=.pointer (some ⟨qb,0,none⟩)->T.getD 7 undef=.pointer (some ⟨kb,0,none⟩)->w.heap.size<=w'.heap.size->(∀ b,b<w.heap.size->w'.heap[b]?=w.heap[b]?) ->
   KTr Tryz.prog BB Q 0 (bF PP 49 (eArgs cb (.func 59) #[] [Value.pointer (some ⟨kb,0,none⟩),.pointer (some ⟨xb,0,none⟩)].toArray) ((base 15).at ⟨T,[]⟩ [.inRegion d6 [2],.code z6]) cs) w') :
  KTr Tryz.prog BB Q 0 (Go.Conc.G (Frame.enter Tryz.prog 15 #[campV (some ⟨bn,0,none⟩) (some ⟨bh,0,none⟩) wakeCamp 3 3] .normal) cs) w:=by
 rw [enter_at _ Tryz.func15 rfl]
 simp only [Tryz.ntmps15,List.size_toArray,List.length_cons,List.length_nil,Nat.reduceAdd,Nat.reduceSub,Array.replicate_succ,Array.replicate_zero,List.push_toArray,List.append_toArray,List.nil_append,List.cons_append]
 unfold campV
 change KTr Tryz.prog BB Q 0 (G _ cs) w
 have ln:wakeCamp.needs.length=3:=rfl
 have lh:wakeCamp.herders.length=3:=rfl
 rw [ln,lh]
 refine aa hQ hB (by kernel_rfl) fun τ d=>?_
 rw [stepG_seq]
 simp only [goes_go]
 refine ⟨hcs,w,Same.on_,?_⟩
 refine aa hQ hB (by kernel_rfl) fun τ d=>?_
 rw [stepG_region]
 simp only [goes_go,List.size_toArray,List.length_cons,List.length_nil,Nat.reduceAdd,Nat.zero_add,List.range,List.range.loop]
 refine ⟨hcs,w,Same.on_,?_⟩
 refine aa hQ hB (by kernel_rfl) fun τ d=>?_
 refine goes_oper_k rfl rfl (by decide) (fun K hK=>?_)
 have q1:=af
 have q2:=ab
 have q3:=ae
 go_simp
 clear q1 q2 q3
 refine hK _ _ ⟨hcs,w.alloc _,⟨rfl,rfl,rfl⟩,?_⟩
 clear hK K
 try walk_nrm
 try simp only [ab]
 obtain ⟨w1,hw1⟩:∃ w1,w1=w.alloc (.cells #[.slice (some ⟨bn,0,none⟩) 3 3,.slice (some ⟨bh,0,none⟩) 3 3] 25):=⟨_,rfl⟩
 rw [<- hw1]
 have hz1:w1.heap.size=w.heap.size+1:=by rw [hw1,ax]
 have hob:w1.heap[w.heap.size]?=some (.cells #[.slice (some ⟨bn,0,none⟩) 3 3,.slice (some ⟨bh,0,none⟩) 3 3] 25 (0,0)):=by rw [hw1,av,if_pos rfl]
 have hold1:∀ b,b<w.heap.size->w1.heap[b]?=w.heap[b]?:=fun b hb=>by rw [hw1,av,if_neg (by omega)]
 have hc0:w1.cell? ⟨w.heap.size,0,none⟩=some (.slice (some ⟨bn,0,none⟩) 3 3):=cell_of hob 0
 have hc1:w1.cell? ⟨w.heap.size,1,none⟩=some (.slice (some ⟨bh,0,none⟩) 3 3):=cell_of hob 1
 have lt3:bn<w.heap.size∧bo<w.heap.size∧bh<w.heap.size:=⟨(Array.getElem?_eq_some_iff.1 hn).1,(Array.getElem?_eq_some_iff.1 ho).1,(Array.getElem?_eq_some_iff.1 hh).1⟩
 have hn1:=(hold1 bn lt3.1).trans hn
 have ho1:=(hold1 bo lt3.2.1).trans ho
 have hh1:=(hold1 bh lt3.2.2).trans hh
 clear hw1
 refine aa hQ hB (by kernel_rfl) fun τ d=>?_
 refine goes_oper_k rfl rfl (by decide) (fun K hK=>?_)
 have q1:=af
 have q2:=ab
 have q3:=ae
 go_simp
 clear q1 q2 q3
 refine hK _ _ ⟨hcs,w1,⟨rfl,rfl,rfl⟩,?_⟩
 clear hK K
 try walk_nrm
 try simp only [ab]
 refine aa hQ hB (by kernel_rfl) fun τ d=>?_
 refine goes_oper_k rfl rfl (by decide) (fun K hK=>?_)
 have q1:=af
 have q2:=ab
 have q3:=ae
 go_simp
 clear q1 q2 q3
 refine hK _ _ ⟨hcs,w1,⟨rfl,rfl,rfl⟩,?_⟩
 clear hK K
 try walk_nrm
 try simp only [ab]
 refine aa hQ hB (by kernel_rfl) fun τ d=>?_
 rw [stepG_region_end]
 simp only [goes_go]
 refine ⟨hcs,w1,Same.on_,?_⟩
 refine aa hQ hB (by kernel_rfl) fun τ d=>?_
 rw [stepG_seq]
 simp only [goes_go]
 refine ⟨hcs,w1,Same.on_,?_⟩
 refine aa hQ hB (by kernel_rfl) fun τ d=>?_
 rw [stepG_region]
 simp only [goes_go,List.size_toArray,List.length_cons,List.length_nil,Nat.reduceAdd,Nat.zero_add,List.range,List.range.loop]
 refine ⟨hcs,w1,Same.on_,?_⟩
 refine aa hQ hB (by kernel_rfl) fun τ d=>?_
 refine goes_oper_k rfl rfl (by decide) (fun K hK=>?_)
 have q1:=af
 have q2:=ab
 have q3:=ae
 go_simp
 clear q1 q2 q3
 refine hK _ _ ⟨hcs,w1,⟨rfl,rfl,rfl⟩,?_⟩
 clear hK K
 try walk_nrm
 try simp only [ab]
 refine aa hQ hB (by kernel_rfl) fun τ d=>?_
 refine aw rfl rfl (by decide) rfl Tryz.func48 (by kernel_rfl) (by kernel_rfl) ⟨hcsM _ _,w1,Same.on_,?_⟩
 try walk_nrm
 refine (da (H:=Hid.no) hLy).fn (f:=48) (by decide) (by decide) (K0:=fun b=>b=bn∨b=bo∨b=bh) hcs (fun _ _=>Nat.zero_le _) (Nat.zero_le _) (oe bn bo bh) (fun b _ hb=>by cases hb) (fun b hb=>by cases hb)
  (fun b hb _=>qp hn1 ho1 hh1 b hb) hQ (R:=kj bn bo bh w1) (lL hn1 ho1 hh1) ?_
 rintro v w2 ⟨cb,sb,cap,cur,t,rfl,hcb,hsb,hcw,hz2,hold2⟩
 change KTr Tryz.prog BB Q 0 _ w2
 rw [Frame.finish_at]
 simp only [List.getElem?_toArray,List.getElem?_cons_succ,List.getElem?_cons_zero,Option.bind_some]
 try walk_nrm
 refine aa hQ hB (by kernel_rfl) fun τ d=>?_
 refine goes_oper_k rfl rfl (by decide) (fun K hK=>?_)
 have q1:=af
 have q2:=ab
 have q3:=ae
 go_simp
 clear q1 q2 q3
 refine hK _ _ ⟨hcs,w2,⟨rfl,rfl,rfl⟩,?_⟩
 clear hK K
 try walk_nrm
 try simp only [ab]
 refine aa hQ hB (by kernel_rfl) fun τ d=>?_
 refine goes_oper_k rfl rfl (by decide) (fun K hK=>?_)
 have q1:=af
 have q2:=ab
 have q3:=ae
 go_simp
 clear q1 q2 q3
 refine hK _ _ ⟨hcs,w2,⟨rfl,rfl,rfl⟩,?_⟩
 clear hK K
 try walk_nrm
 try simp only [ab]
 refine aa hQ hB (by kernel_rfl) fun τ d=>?_
 refine goes_oper_k rfl rfl (by decide) (fun K hK=>?_)
 have q1:=af
 have q2:=ab
 have q3:=ae
 go_simp
 clear q1 q2 q3
 refine hK _ _ ⟨hcs,w2,⟨rfl,rfl,rfl⟩,?_⟩
 clear hK K
 try walk_nrm
 try simp only [ab]
 refine aa hQ hB (by kernel_rfl) fun τ d=>?_
 refine goes_oper_k rfl rfl (by decide) (fun K hK=>?_)
 have q1:=af
 have q2:=ab
 have q3:=ae
 go_simp
 clear q1 q2 q3
 refine hK _ _ ⟨hcs,w2.alloc _,⟨rfl,rfl,rfl⟩,?_⟩
 clear hK K
 try walk_nrm
 try simp only [ab]
 obtain ⟨w3,hw3⟩:∃ w3,w3=w2.alloc (.cells #[.pointer none] 80):=⟨_,rfl⟩
 change KTr Tryz.prog BB Q 0 _ (w2.alloc (.cells #[.pointer none] 80))
 rw [<- hw3]
 have szw3:=Lib.hid (show w3.heap.size=w2.heap.size+1 by rw [hw3,ax])
 have oldw3:∀ b,b<w2.heap.size->w3.heap[b]?=w2.heap[b]?:=fun b hb=>by rw [hw3,av,if_neg (by omega)]
 have neww3:w3.heap[w2.heap.size]?=some (.cells #[.pointer none] 80):=by rw [hw3,av,if_pos rfl]
 clear hw3
 refine aa hQ hB (by kernel_rfl) fun τ d=>?_
 refine goes_oper_k rfl rfl (by decide) (fun K hK=>?_)
 have q1:=af
 have q2:=ab
 have q3:=ae
 have z1:=cell_of neww3 0
 have z2:=oj neww3 0
 go_simp
 clear q1 q2 q3
 refine hK _ _ ⟨hcs,w3.setCell _ _,⟨rfl,rfl,rfl⟩,?_⟩
 clear hK K
 try walk_nrm
 try simp only [ab]
 obtain ⟨w4,hw4⟩:∃ w4,w4=w3.setCell ⟨w2.heap.size,0,none⟩ (.pointer (some ⟨cb,0,none⟩)):=⟨_,rfl⟩
 change KTr Tryz.prog BB Q 0 _ (w3.setCell ⟨w2.heap.size,0,none⟩ (.pointer (some ⟨cb,0,none⟩)))
 rw [<- hw4]
 have szw4:=Lib.hid (show w4.heap.size=w3.heap.size by rw [hw4,oi])
 have oldw4:∀ b,b≠w2.heap.size->w4.heap[b]?=w3.heap[b]?:=fun b hb=>by rw [hw4,put_ne hb]
 have neww4:=oh (i:=0) (u:=.pointer (some ⟨cb,0,none⟩)) neww3
 rw [<- hw4] at neww4
 clear hw4
 refine aa hQ hB (by kernel_rfl) fun τ d=>?_
 refine goes_oper_k rfl rfl (by decide) (fun K hK=>?_)
 have q1:=af
 have q2:=ab
 have q3:=ae
 go_simp
 clear q1 q2 q3
 refine hK _ _ ⟨hcs,w4,⟨rfl,rfl,rfl⟩,?_⟩
 clear hK K
 try walk_nrm
 try simp only [ab]
 refine aa hQ hB (by kernel_rfl) fun τ d=>?_
 rw [stepG_region_end]
 simp only [goes_go]
 refine ⟨hcs,w4,Same.on_,?_⟩
 refine aa hQ hB (by kernel_rfl) fun τ d=>?_
 rw [stepG_seq]
 simp only [goes_go]
 refine ⟨hcs,w4,Same.on_,?_⟩
 refine aa hQ hB (by kernel_rfl) fun τ d=>?_
 rw [stepG_seq]
 simp only [goes_go]
 refine ⟨hcs,w4,Same.on_,?_⟩
 refine aa hQ hB (by kernel_rfl) fun τ d=>?_
 rw [stepG_region]
 simp only [goes_go,List.size_toArray,List.length_cons,List.length_nil,Nat.reduceAdd,Nat.zero_add,List.range,List.range.loop]
 refine ⟨hcs,w4,Same.on_,?_⟩
 refine aa hQ hB (by kernel_rfl) fun τ d=>?_
 refine goes_oper_k rfl rfl (by decide) (fun K hK=>?_)
 have q1:=af
 have q2:=ab
 have q3:=ae
 go_simp
 clear q1 q2 q3
 refine hK _ _ ⟨hcs,w4,⟨rfl,rfl,rfl⟩,?_⟩
 clear hK K
 try walk_nrm
 try simp only [ab]
 refine aa hQ hB (by kernel_rfl) fun τ d=>?_
 refine goes_oper_k rfl rfl (by decide) (fun K hK=>?_)
 have q1:=af
 have q2:=ab
 have q3:=ae
 go_simp
 clear q1 q2 q3
 refine hK _ _ ⟨hcs,w4,⟨rfl,rfl,rfl⟩,?_⟩
 clear hK K
 try walk_nrm
 try simp only [ab]
 refine aa hQ hB (by kernel_rfl) fun τ d=>?_
 rw [stepG_region_end]
 simp only [goes_go]
 refine ⟨hcs,w4,Same.on_,?_⟩
 refine aa hQ hB (by kernel_rfl) fun τ d=>?_
 rw [stepG_cond (t:=false) rfl]
 simp only [goes_go,if_true,if_false,Bool.false_eq_true,↓reduceIte]
 refine ⟨hcs,w4,Same.on_,?_⟩
 refine aa hQ hB (by kernel_rfl) fun τ d=>?_
 rw [stepG_skip]
 simp only [goes_go]
 refine ⟨hcs,w4,Same.on_,?_⟩
 refine aa hQ hB (by kernel_rfl) fun τ d=>?_
 rw [stepG_seq]
 simp only [goes_go]
 refine ⟨hcs,w4,Same.on_,?_⟩
 refine aa hQ hB (by kernel_rfl) fun τ d=>?_
 rw [stepG_region]
 simp only [goes_go,List.size_toArray,List.length_cons,List.length_nil,Nat.reduceAdd,Nat.zero_add,List.range,List.range.loop]
 refine ⟨hcs,w4,Same.on_,?_⟩
 refine aa hQ hB (by kernel_rfl) fun τ d=>?_
 refine goes_oper_k rfl rfl (by decide) (fun K hK=>?_)
 have q1:=af
 have q2:=ab
 have q3:=ae
 go_simp
 clear q1 q2 q3
 refine hK _ _ ⟨hcs,w4,⟨rfl,rfl,rfl⟩,?_⟩
 clear hK K
 try walk_nrm
 try simp only [ab]
 refine aa hQ hB (by kernel_rfl) fun τ d=>?_
 refine goes_oper_k rfl rfl (by decide) (fun K hK=>?_)
 have q1:=af
 have q2:=ab
 have q3:=ae
 go_simp
 clear q1 q2 q3
 refine hK _ _ ⟨hcs,w4.alloc _,⟨rfl,rfl,rfl⟩,?_⟩
 clear hK K
 try walk_nrm
 try simp only [ab]
 obtain ⟨w5,hw5⟩:∃ w5,w5=w4.alloc (.cells #[.nilFunc] 98):=⟨_,rfl⟩
 change KTr Tryz.prog BB Q 0 _ (w4.alloc (.cells #[.nilFunc] 98))
 rw [<- hw5]
 have szw5:=Lib.hid (show w5.heap.size=w4.heap.size+1 by rw [hw5,ax])
 have oldw5:∀ b,b<w4.heap.size->w5.heap[b]?=w4.heap[b]?:=fun b hb=>by rw [hw5,av,if_neg (by omega)]
 have neww5:w5.heap[w4.heap.size]?=some (.cells #[.nilFunc] 98):=by rw [hw5,av,if_pos rfl]
 clear hw5
 refine aa hQ hB (by kernel_rfl) fun τ d=>?_
 refine goes_oper_k rfl rfl (by decide) (fun K hK=>?_)
 have q1:=af
 have q2:=ab
 have q3:=ae
 have z1:=cell_of neww5 0
 have z2:=oj neww5 0
 go_simp
 clear q1 q2 q3
 refine hK _ _ ⟨hcs,w5.setCell _ _,⟨rfl,rfl,rfl⟩,?_⟩
 clear hK K
 try walk_nrm
 try simp only [ab]
 obtain ⟨w6,hw6⟩:∃ w6,w6=w5.setCell ⟨w4.heap.size,0,none⟩ (.func (.func 54) #[] #[.pointer (some ⟨w2.heap.size,0,none⟩)]):=⟨_,rfl⟩
 change KTr Tryz.prog BB Q 0 _ (w5.setCell ⟨w4.heap.size,0,none⟩ (.func (.func 54) #[] #[.pointer (some ⟨w2.heap.size,0,none⟩)]))
 rw [<- hw6]
 have szw6:=Lib.hid (show w6.heap.size=w5.heap.size by rw [hw6,oi])
 have oldw6:∀ b,b≠w4.heap.size->w6.heap[b]?=w5.heap[b]?:=fun b hb=>by rw [hw6,put_ne hb]
 have neww6:=oh (i:=0) (u:=.func (.func 54) #[] #[.pointer (some ⟨w2.heap.size,0,none⟩)]) neww5
 rw [<- hw6] at neww6
 clear hw6
 refine aa hQ hB (by kernel_rfl) fun τ d=>?_
 rw [stepG_region_end]
 simp only [goes_go]
 refine ⟨hcs,w6,Same.on_,?_⟩
 refine aa hQ hB (by kernel_rfl) fun τ d=>?_
 rw [stepG_seq]
 simp only [goes_go]
 refine ⟨hcs,w6,Same.on_,?_⟩
 refine aa hQ hB (by kernel_rfl) fun τ d=>?_
 rw [stepG_region]
 simp only [goes_go,List.size_toArray,List.length_cons,List.length_nil,Nat.reduceAdd,Nat.zero_add,List.range,List.range.loop]
 refine ⟨hcs,w6,Same.on_,?_⟩
 refine aa hQ hB (by kernel_rfl) fun τ d=>?_
 refine goes_oper_k rfl rfl (by decide) (fun K hK=>?_)
 have q1:=af
 have q2:=ab
 have q3:=ae
 go_simp
 clear q1 q2 q3
 refine hK _ _ ⟨hcs,w6.alloc _,⟨rfl,rfl,rfl⟩,?_⟩
 clear hK K
 try walk_nrm
 try simp only [ab]
 obtain ⟨w7,hw7⟩:∃ w7,w7=w6.alloc (keepA false fun _=>0):=⟨_,rfl⟩
 change KTr Tryz.prog BB Q 0 _ (w6.alloc (keepA false fun _=>0))
 rw [<- hw7]
 have szw7:=Lib.hid (show w7.heap.size=w6.heap.size+1 by rw [hw7,ax])
 have oldw7:∀ b,b<w6.heap.size->w7.heap[b]?=w6.heap[b]?:=fun b hb=>by rw [hw7,av,if_neg (by omega)]
 have neww7:w7.heap[w6.heap.size]?=some (keepA false fun _=>0):=by rw [hw7,av,if_pos rfl]
 clear hw7
 refine aa hQ hB (by kernel_rfl) fun τ d=>?_
 rw [stepG_region_end]
 simp only [goes_go]
 refine ⟨hcs,w7,Same.on_,?_⟩
 refine aa hQ hB (by kernel_rfl) fun τ d=>?_
 rw [stepG_seq]
 simp only [goes_go]
 refine ⟨hcs,w7,Same.on_,?_⟩
 refine aa hQ hB (by kernel_rfl) fun τ d=>?_
 rw [stepG_region]
 simp only [goes_go,List.size_toArray,List.length_cons,List.length_nil,Nat.reduceAdd,Nat.zero_add,List.range,List.range.loop]
 refine ⟨hcs,w7,Same.on_,?_⟩
 have syw3:=szw3.out
 have syw4:=szw4.out
 have syw5:=szw5.out
 have syw6:=szw6.out
 have syw7:=szw7.out
 have hq7:w7.heap[w2.heap.size]?=some (.cells #[.pointer (some ⟨cb,0,none⟩)] 80 (0,0)):=(oldw7 _ (by omega)).trans ((oldw6 _ (by omega)).trans ((oldw5 _ (by omega)).trans neww4))
 have hx7:w7.heap[w4.heap.size]?=some (.cells #[.func (.func 54) #[] #[.pointer (some ⟨w2.heap.size,0,none⟩)]] 98 (0,0)):=(oldw7 _ (by omega)).trans neww6
 have all7:∀ b,b<w2.heap.size->w7.heap[b]?=w2.heap[b]?:=fun b hb=>(oldw7 _ (by omega)).trans ((oldw6 _ (by omega)).trans ((oldw5 _ (by omega)).trans ((oldw4 _ (by omega)).trans (oldw3 _ hb))))
 clear syw3 syw4 syw5 syw6 syw7
 refine aa hQ hB (by kernel_rfl) fun τ d=>?_
 refine goes_oper_k rfl rfl (by decide) (fun K hK=>?_)
 have q1:=af
 have q2:=ab
 have q3:=ae
 have z1:=cell_of hq7 0
 go_simp
 clear q1 q2 q3
 refine hK _ _ ⟨hcs,w7,⟨rfl,rfl,rfl⟩,?_⟩
 clear hK K
 try walk_nrm
 try simp only [ab]
 refine aa hQ hB (by kernel_rfl) fun τ d=>?_
 refine goes_oper_k rfl rfl (by decide) (fun K hK=>?_)
 have q1:=af
 have q2:=ab
 have q3:=ae
 go_simp
 clear q1 q2 q3
 refine hK _ _ ⟨hcs,w7,⟨rfl,rfl,rfl⟩,?_⟩
 clear hK K
 try walk_nrm
 try simp only [ab]
 refine aa hQ hB (by kernel_rfl) fun τ d=>?_
 refine aw rfl rfl (by decide) rfl Tryz.func49 (by kernel_rfl) (by kernel_rfl) ⟨hcsM _ _,w7,Same.on_,?_⟩
 try walk_nrm
 have syw3:=szw3.out
 have syw4:=szw4.out
 have syw5:=szw5.out
 have syw6:=szw6.out
 have syw7:=szw7.out
 refine h cb sb cap w2.heap.size w4.heap.size w6.heap.size cur t w7 _ (hcw.keep fun b hb=>all7 b (hcw.lt hb)) neww7 (fun p hp=>?_) ?_ rfl rfl rfl (by omega) fun b hb=>(all7 b (by omega)).trans ((hold2 b (by omega)).trans (hold1 b hb))
 ·simp only [bestX,List.mem_cons,List.not_mem_nil,or_false] at hp
  rcases hp with rfl | rfl
  ·exact hx7
  ·exact hq7
 ·cases hq:hasB (campO bn bo bh cb sb cap cur t++bestX w4.heap.size w2.heap.size cb) w6.heap.size with
  | false=>rfl
  | true =>
   exfalso
   rw [aQ,Bool.or_eq_true] at hq
   rcases hq with hq | hq
   ·have:=hcw.lt hq;omega
   ·simp [hasB,bestX] at hq;omega
theorem arr27 {T:Array Value} (h:T.size=27):∃ y0 y1 y2 y3 y4 y5 y6 y7 y8 y9 y10 y11 y12 y13 y14 y15 y16 y17 y18 y19 y20 y21 y22 y23 y24 y25 y26:Value,T=#[y0,y1,y2,y3,y4,y5,y6,y7,y8,y9,y10,y11,y12,y13,y14,y15,y16,y17,y18,y19,y20,y21,y22,y23,y24,y25,y26]:=by
 obtain ⟨l⟩:=T
 have h:l.length=27:=h
 match l,h with
 | [y0,y1,y2,y3,y4,y5,y6,y7,y8,y9,y10,y11,y12,y13,y14,y15,y16,y17,y18,y19,y20,y21,y22,y23,y24,y25,y26],_=>exact ⟨y0,y1,y2,y3,y4,y5,y6,y7,y8,y9,y10,y11,y12,y13,y14,y15,y16,y17,y18,y19,y20,y21,y22,y23,y24,y25,y26,rfl⟩
theorem ol {BB:FuncId->Bool} (hB:BB 15=true) (hLy:LooksY BB) {Q:Goroutine->World->Prop} (hQ:∀ g w W,Same w W->Q g w->Q g W) {b0:Frame} {a0:Act} {ops:Array Oper} {i:Nat} {rest:List Nat} {k:List Item} {cs:List Frame} (hcs:cs≠[])
  {bn bo bh cb sb cap qb kb:Nat} {cur:List Value} {t:TypeId} {ρ:Ros} (hρ:∀ i,i<5->ρ i<16) {w:World} (hC:CampW w bn bo bh cb sb cap cur t) (hk:w.heap[kb]?=some (keepA true ρ)) (hq:w.heap[qb]?=some (.cells #[.pointer (some ⟨cb,0,none⟩)] 80 (0,0)))
  {T:Array Value} (hT:T.size=27) (h4:T.getD 4 undef=.pointer (some ⟨qb,0,none⟩)) (h7:T.getD 7 undef=.pointer (some ⟨kb,0,none⟩))
  (h:∀ (A:Option Addr) (c:Nat) (xs:List Value) (w':World) (K':Nat->Prop),OwnGrid w' (w.heap.size+1) (.slice A 3 c) (aN ρ 3) xs->w.heap.size<=w'.heap.size->(∀ b,b<w.heap.size->w'.heap[b]?=w.heap[b]?)->VRel (SP SBy Hid.no) (idOn K') (.slice A 3 c) (.slice A 3 c) ->
   (∀ b,K' b->∃ o,w'.heap[b]?=some o∧ORel (SP SBy Hid.no) (CK Sq.prog SBy false) (idOn K') o o)->KTr Tryz.prog BB Q 0 (Go.Conc.G (b0.at (a0.put ((ops[i]?).bind (·.dst)) (.tuple #[.slice A 3 c,.int .i64 0])) (.inRegion ops rest :: k)) cs) w') :
  KTr Tryz.prog BB Q 0 (back ((base 15).at ⟨T,[]⟩ [.inRegion d6 [2],.code z6]) (b0.at a0 (.inRegion ops (i :: rest) :: k) :: cs)) w:=by
 obtain ⟨y0,y1,y2,y3,y4,y5,y6,y7,y8,y9,y10,y11,y12,y13,y14,y15,y16,y17,y18,y19,y20,y21,y22,y23,y24,y25,y26,rfl⟩:=arr27 hT
 have h4:y4=.pointer (some ⟨qb,0,none⟩):=h4
 have h7:y7=.pointer (some ⟨kb,0,none⟩):=h7
 subst h4 h7
 unfold back
 rw [Frame.finish_at]
 change KTr Tryz.prog BB Q 0 (G _ _) w
 have e19:(d6[2]?.bind (·.dst))=some 19:=rfl
 rw [e19]
 try walk_nrm
 have k2:=cell_of hk 2
 have k3:=cell_of hk 3
 have k4:=cell_of hk 4
 have k5:=cell_of hk 5
 have k6:=cell_of hk 6
 have k7:=cell_of hk 7
 have kq:=cell_of hq 0
 simp only [keepO,List.getElem?_toArray,List.getElem?_cons_succ,List.getElem?_cons_zero] at k2 k3 k4 k5 k6 k7 kq
 refine aa hQ hB (by kernel_rfl) fun τ d=>?_
 rw [stepG_region_end]
 simp only [goes_go]
 refine ⟨(hcsM _ _),w,Same.on_,?_⟩
 have ez6:z6=ah (ah (ah (ah (ah (ah dB))))):=rfl
 simp only [dB,Tryz.f15,Option.getD_some,ah] at ez6
 rw [ez6]
 clear ez6
 refine aa hQ hB (by kernel_rfl) fun τ d=>?_
 rw [stepG_seq]
 simp only [goes_go]
 refine ⟨(hcsM _ _),w,Same.on_,?_⟩
 refine aa hQ hB (by kernel_rfl) fun τ d=>?_
 rw [stepG_seq]
 simp only [goes_go]
 refine ⟨(hcsM _ _),w,Same.on_,?_⟩
 refine aa hQ hB (by kernel_rfl) fun τ d=>?_
 rw [stepG_region]
 simp only [goes_go,List.size_toArray,List.length_cons,List.length_nil,Nat.reduceAdd,Nat.zero_add,List.range,List.range.loop]
 refine ⟨(hcsM _ _),w,Same.on_,?_⟩
 refine aa hQ hB (by kernel_rfl) fun τ d=>?_
 refine goes_oper_k rfl rfl (by decide) (fun K hK=>?_)
 have q1:=af
 have q2:=ab
 have q3:=ae
 go_simp
 clear q1 q2 q3
 refine hK _ _ ⟨(hcsM _ _),w,⟨rfl,rfl,rfl⟩,?_⟩
 clear hK K
 try walk_nrm
 try simp only [ab]
 refine aa hQ hB (by kernel_rfl) fun τ d=>?_
 refine goes_oper_k rfl rfl (by decide) (fun K hK=>?_)
 have q1:=af
 have q2:=ab
 have q3:=ae
 go_simp
 clear q1 q2 q3
 refine hK _ _ ⟨(hcsM _ _),w,⟨rfl,rfl,rfl⟩,?_⟩
 clear hK K
 try walk_nrm
 try simp only [ab]
 refine aa hQ hB (by kernel_rfl) fun τ d=>?_
 refine goes_oper_k rfl rfl (by decide) (fun K hK=>?_)
 have q1:=af
 have q2:=ab
 have q3:=ae
 go_simp
 clear q1 q2 q3
 refine hK _ _ ⟨(hcsM _ _),w,⟨rfl,rfl,rfl⟩,?_⟩
 clear hK K
 try walk_nrm
 try simp only [ab]
 refine aa hQ hB (by kernel_rfl) fun τ d=>?_
 rw [stepG_region_end]
 simp only [goes_go]
 refine ⟨(hcsM _ _),w,Same.on_,?_⟩
 refine aa hQ hB (by kernel_rfl) fun τ d=>?_
 rw [stepG_cond (t:=false) rfl]
 simp only [goes_go,if_true,if_false,Bool.false_eq_true,↓reduceIte]
 refine ⟨(hcsM _ _),w,Same.on_,?_⟩
 refine aa hQ hB (by kernel_rfl) fun τ d=>?_
 rw [stepG_skip]
 simp only [goes_go]
 refine ⟨(hcsM _ _),w,Same.on_,?_⟩
 refine aa hQ hB (by kernel_rfl) fun τ d=>?_
 rw [stepG_seq]
 simp only [goes_go]
 refine ⟨(hcsM _ _),w,Same.on_,?_⟩
 refine aa hQ hB (by kernel_rfl) fun τ d=>?_
 rw [stepG_region]
 simp only [goes_go,List.size_toArray,List.length_cons,List.length_nil,Nat.reduceAdd,Nat.zero_add,List.range,List.range.loop]
 refine ⟨(hcsM _ _),w,Same.on_,?_⟩
 refine aa hQ hB (by kernel_rfl) fun τ d=>?_
 refine goes_oper_k rfl rfl (by decide) (fun K hK=>?_)
 have q1:=af
 have q2:=ab
 have q3:=ae
 go_simp
 clear q1 q2 q3
 refine hK _ _ ⟨(hcsM _ _),w,⟨rfl,rfl,rfl⟩,?_⟩
 clear hK K
 try walk_nrm
 try simp only [ab]
 refine aa hQ hB (by kernel_rfl) fun τ d=>?_
 refine goes_oper_k rfl rfl (by decide) (fun K hK=>?_)
 have q1:=af
 have q2:=ab
 have q3:=ae
 go_simp
 clear q1 q2 q3
 refine hK _ _ ⟨(hcsM _ _),w,⟨rfl,rfl,rfl⟩,?_⟩
 clear hK K
 try walk_nrm
 try simp only [ab]
 refine aa hQ hB (by kernel_rfl) fun τ d=>?_
 refine goes_oper_k rfl rfl (by decide) (fun K hK=>?_)
 have q1:=af
 have q2:=ab
 have q3:=ae
 go_simp
 clear q1 q2 q3
 refine hK _ _ ⟨(hcsM _ _),w,⟨rfl,rfl,rfl⟩,?_⟩
 clear hK K
 try walk_nrm
 try simp only [ab]
 refine aa hQ hB (by kernel_rfl) fun τ d=>?_
 refine aw rfl rfl (by decide) rfl Tryz.func61 (by kernel_rfl) (by kernel_rfl) ⟨hcsM _ _,w,Same.on_,?_⟩
 try walk_nrm
 have hc0:w.cell? ⟨cb,0,none⟩=some (.slice (some ⟨bn,0,none⟩) 3 3):=cell_of (hC.obj (cb,ownL bn bh sb cap,149) (by simp [campO])) 0
 have lcb:cb<w.heap.size:=hC.lt ((camp_has _).2 (by simp))
 refine (da (H:=Hid.no) hLy).fnK (f:=61) (by decide) (by decide) (K0:=fun b=>hasB (campO bn bo bh cb sb cap cur t) b=true) (hcsM _ _) (fun _ _=>Nat.zero_le _) (Nat.zero_le _) (allIn (l:=[.pointer (some ⟨cb,0,none⟩),rosV ρ]) fun v hv=>?_) (fun b _ hb=>by cases hb) (fun b hb=>by cases hb)
  (fun b hb _=>?_) hQ (R:=fun v w'=>∃ A c xs,v=.slice A 3 c∧OwnGrid w' (w.heap.size+1) (.slice A 3 c) (aN ρ 3) xs∧w.heap.size<=w'.heap.size∧∀ b,b<w.heap.size->w'.heap[b]?=w.heap[b]?) (fun τ d=>(lH cb (some ⟨bn,0,none⟩) 3 3 ρ (on w τ d) lcb hc0 (by decide) hρ).mono ?_) ?_
 ·simp only [List.mem_cons,List.not_mem_nil,or_false] at hv
  rcases hv with rfl | rfl
  ·exact InK.ptr (K:=fun b=>hasB (campO bn bo bh cb sb cap cur t) b=true) ((camp_has cb).2 (by simp)) _ _
  ·refine InK.agg (l:=[.int .u8 (ρ 0),.int .u8 (ρ 1),.int .u8 (ρ 2),.int .u8 (ρ 3),.int .u8 (ρ 4)]) fun v hv=>?_
   simp only [List.mem_cons,List.not_mem_nil,or_false] at hv
   rcases hv with rfl | rfl | rfl | rfl | rfl<;>exact VRel.int _ _
 ·obtain ⟨p,hp,rfl⟩:=hasB_of hb
  exact ⟨_,hC.obj p hp,.cells (allIn fun v hv=>eR hC.flat p hp v hv SBy Hid.no) fun i z1 z2=>⟨z1,z2⟩⟩
 ·rintro e w9 ⟨A,c,xs,rfl,ho,hg⟩
  exact ⟨_,rfl,A,c,xs,rfl,ho,hg.size,fun b hb=>hg.below.block b hb⟩
 rintro v w2 K' ⟨A,c,xs,rfl,ho,hz,hold⟩ hv _ hobj
 change KTr Tryz.prog BB Q 0 _ w2
 rw [Frame.finish_at]
 simp only [List.getElem?_toArray,List.getElem?_cons_succ,List.getElem?_cons_zero,Option.bind_some]
 try walk_nrm
 refine aa hQ hB (by kernel_rfl) fun τ d=>?_
 refine goes_oper_k rfl rfl (by decide) (fun K hK=>?_)
 have q1:=af
 have q2:=ab
 have q3:=ae
 go_simp
 clear q1 q2 q3
 refine hK _ _ ⟨(hcsM _ _),w2,⟨rfl,rfl,rfl⟩,?_⟩
 clear hK K
 try walk_nrm
 try simp only [ab]
 refine aa hQ hB (by kernel_rfl) fun τ d=>?_
 refine goes_oper_k rfl rfl (by decide) (fun K hK=>?_)
 have q1:=af
 have q2:=ab
 have q3:=ae
 go_simp
 clear q1 q2 q3
 refine hK _ _ ⟨(hcsM _ _),w2,⟨rfl,rfl,rfl⟩,?_⟩
 clear hK K
 try walk_nrm
 try simp only [ab]
 refine aa hQ hB (by kernel_rfl) fun τ d=>?_
 rw [stepG_region_end]
 simp only [goes_go]
 refine ⟨(hcsM _ _),w2,Same.on_,?_⟩
 refine aa hQ hB (by kernel_rfl) fun τ d=>?_
 rw [stepG_ret']
 simp only [goes_go]
 refine ⟨(hcsM _ _),w2,Same.on_,?_⟩
 refine cP hQ hB (by kernel_rfl) fun τ d=>?_
 refine goes_leave2 rfl rfl Tryz.func15 rfl ⟨hcs,w2,Same.on_,?_⟩
 exact h A c xs w2 K' ho hz hold hv fun b hb=>hobj b hb rfl
end Go.Proofs.YtgicaeombogkcaaGreat
