/- Parts of the proof. -/
import Derived.Test.YtgicaeombogkcaaGreatP20
import Derived.Test.YtgicaeombogkcaaGreatP19
import Derived.Test.YtgicaeombogkcaaGreatP16
import Derived.Test.YtgicaeombogkcaaGreatP17
import Derived.Test.YtgicaeombogkcaaGreatP18
import Derived.Test.YtgicaeombogkcaaGreatP03
set_option linter.all false
set_option maxHeartbeats 16000000
set_option maxRecDepth 1000000
namespace Go.Proofs.YtgicaeombogkcaaGreat
open Go.RowKit Go.Iso Go.Co Go.Conc Go.Sq
attribute [local go_sem] Oper.semAt_some
noncomputable def wB:Code:=Tryz.f9.body.getD .skip
noncomputable def e1:Array Oper:=cOps (au (ah wB))
noncomputable def e2:Array Oper:=cOps (au (ah (ah wB)))
noncomputable def om:Code:=ah (ah wB)
noncomputable def zw3:Code:=ah (ah (ah wB))
def CampedW (bn:Nat) (w1:World) (v:Value) (w':World):Prop:=∃ bo bh:Nat,v=campV (some ⟨bn,0,none⟩) (some ⟨bh,0,none⟩) wakeCamp 3 3∧w'.heap[bo]?=some (.cells #[.int .i64 0] 3 (0,0))∧w'.heap[bh]?=some (.cells (herdL bo).toArray 54 (0,0))∧w1.heap.size<=w'.heap.size∧∀ b,b<w1.heap.size->w'.heap[b]?=w1.heap[b]?
theorem camped_w {bn:Nat} {w:World} (τ:Tape) (d:Nat):Calls Sq.prog 41 #[.slice (some ⟨bn,0,none⟩) 3 3] (on w τ d) (fun e w'=>∃ v,e=.returned v∧CampedW bn w v w'):=by
 refine (n7 (some ⟨bn,0,none⟩) 3 [3,2,4] (on w τ d)).mono ?_
 rintro e w' ⟨hA,rfl,_,hg,rfl,h1,h2⟩
 exact ⟨_,rfl,_,_,rfl,h1,by simpa [herdL] using h2,hg.size,fun b hb=>hg.below.block b hb⟩
theorem needObj {bn:Nat} {w:World} {SB:FuncId->Bool} (hn:w.heap[bn]?=some (.cells needL.toArray 3 (0,0))):∀ b,b=bn->∃ o,w.heap[b]?=some o∧ORel (SP SB Hid.no) (CK Sq.prog SB false) (idOn fun b=>b=bn) o o:=by
 rintro b rfl
 refine ⟨_,hn,.cells (allIn fun v hv=>?_) fun i h1 h2=>⟨h1,h2⟩⟩
 simp only [needL,List.mem_cons,List.not_mem_nil,or_false] at hv
 rcases hv with rfl | rfl | rfl<;>exact VRel.int _ _
theorem q9 {BB:FuncId->Bool} (hB:BB 9=true) (hB13:BB 13=true) (hLy:LooksY BB) {Q:Goroutine->World->Prop} (hQ:∀ g w W,Same w W->Q g w->Q g W) {cs:List Frame} (hcs:cs≠[]) {w:World}
  (h:∀ (bn bo bh cb sb cap nb:Nat) (cur:List Value) (t:TypeId) (w':World) (T U:Array Value),CampW w' bn bo bh cb sb cap cur t->w'.heap[nb]?=some (cntO 0)->hasB (campO bn bo bh cb sb cap cur t) nb=false->T.size=19->T.getD 6 undef=.pointer (some ⟨nb,0,none⟩) ->
   U.size=95->(∀ v∈U.toList,∀ (SB:FuncId->Bool) (H:Hid),InK SB H (fun b=>hasB (campO bn bo bh cb sb cap cur t) b=true) v)->w.heap.size<=w'.heap.size->(∀ b,b<w.heap.size->w'.heap[b]?=w.heap[b]?) ->
   KTr Tryz.prog BB Q 0 (bF PP 49 (eArgs cb (.func 50) #[] [Value.pointer (some ⟨nb,0,none⟩)].toArray) ((base 13).at ⟨T,[]⟩ [.inRegion c5 [2],.code x5]) ((base 9).at ⟨U,[]⟩ [.inRegion e1 [2,3,4,5,6,7],.code om] :: cs)) w') :
  KTr Tryz.prog BB Q 0 (Go.Conc.G (Frame.enter Tryz.prog 9 #[] .normal) cs) w:=by
 rw [enter_at _ Tryz.func9 rfl]
 simp only [Tryz.ntmps9,List.size_toArray,List.length_cons,List.length_nil,Nat.reduceAdd,Nat.reduceSub,Array.replicate_succ,Array.replicate_zero,List.push_toArray,List.append_toArray,List.nil_append,List.cons_append]
 change KTr Tryz.prog BB Q 0 (G _ cs) w
 refine aa hQ hB (by kernel_rfl) fun τ d=>?_
 rw [stepG_seq]
 simp only [goes_go]
 refine ⟨hcs,w,Same.on_,?_⟩
 refine aa hQ hB (by kernel_rfl) fun τ d=>?_
 rw [stepG_region]
 simp only [goes_go,List.size_toArray,List.length_cons,List.length_nil,Nat.reduceAdd,Nat.zero_add,List.range,List.range.loop]
 refine ⟨hcs,w,Same.on_,?_⟩
 refine aa hQ hB (by kernel_rfl) fun τ d=>?_
 refine goes_oper_k rfl rfl (by decide) (fun K hK=>?_)
 have q1:=af
 have q2:=ab
 have q3:=ae
 go_simp
 clear q1 q2 q3
 refine hK _ _ ⟨hcs,w,⟨rfl,rfl,rfl⟩,?_⟩
 clear hK K
 try walk_nrm
 try simp only [ab]
 refine aa hQ hB (by kernel_rfl) fun τ d=>?_
 rw [stepG_region_end]
 simp only [goes_go]
 refine ⟨hcs,w,Same.on_,?_⟩
 refine aa hQ hB (by kernel_rfl) fun τ d=>?_
 rw [stepG_seq]
 simp only [goes_go]
 refine ⟨hcs,w,Same.on_,?_⟩
 refine aa hQ hB (by kernel_rfl) fun τ d=>?_
 rw [stepG_region]
 simp only [goes_go,List.size_toArray,List.length_cons,List.length_nil,Nat.reduceAdd,Nat.zero_add,List.range,List.range.loop]
 refine ⟨hcs,w,Same.on_,?_⟩
 refine aa hQ hB (by kernel_rfl) fun τ d=>?_
 refine goes_oper_k rfl rfl (by decide) (fun K hK=>?_)
 have q1:=af
 have q2:=ab
 have q3:=ae
 go_simp
 clear q1 q2 q3
 refine hK _ _ ⟨hcs,w.alloc _,⟨rfl,rfl,rfl⟩,?_⟩
 clear hK K
 try walk_nrm
 try simp only [ab]
 obtain ⟨w1,hw1⟩:∃ w1,w1=w.alloc (.cells needL.toArray 3):=⟨_,rfl⟩
 change KTr Tryz.prog BB Q 0 _ (w.alloc (.cells needL.toArray 3))
 rw [<- hw1]
 have szw1:=Lib.hid (show w1.heap.size=w.heap.size+1 by rw [hw1,ax])
 have oldw1:=Lib.hid (show ∀ b,b<w.heap.size->w1.heap[b]?=w.heap[b]? from fun b hb=>by rw [hw1,av,if_neg (by omega)])
 have neww1:w1.heap[w.heap.size]?=some (.cells needL.toArray 3 (0,0)):=by rw [hw1,av,if_pos rfl]
 clear hw1
 refine aa hQ hB (by kernel_rfl) fun τ d=>?_
 refine aw rfl rfl (by decide) rfl Tryz.func41 (by kernel_rfl) (by kernel_rfl) ⟨hcsM _ _,w1,Same.on_,?_⟩
 try walk_nrm
 refine (da (H:=Hid.no) hLy).fn (f:=41) (by decide) (by decide) (K0:=fun b=>b=w.heap.size) hcs (fun _ _=>Nat.zero_le _) (Nat.zero_le _) (allIn (l:=[.slice (some ⟨w.heap.size,0,none⟩) 3 3]) fun v hv=>?_) (fun b _ hb=>by cases hb) (fun b hb=>by cases hb) (fun b hb _=>needObj neww1 b hb) hQ (R:=CampedW w.heap.size w1) camped_w ?_
 ·simp only [List.mem_cons,List.not_mem_nil,or_false] at hv
  subst hv;exact InK.slice (K:=fun b=>b=w.heap.size) rfl _ _ _ _
 rintro v w2 ⟨bo,bh,rfl,how2,hhw2,hzw2,holdw2⟩
 change KTr Tryz.prog BB Q 0 _ w2
 rw [Frame.finish_at]
 simp only [List.getElem?_toArray,List.getElem?_cons_succ,List.getElem?_cons_zero,Option.bind_some]
 try walk_nrm
 refine aa hQ hB (by kernel_rfl) fun τ d=>?_
 refine aw rfl rfl (by decide) rfl Tryz.func13 (by kernel_rfl) (by kernel_rfl) ⟨hcsM _ _,w2,Same.on_,?_⟩
 try walk_nrm
 refine og hB13 hLy hQ (hcsM _ _) (bn:=w.heap.size) (bo:=bo) (bh:=bh) ((holdw2 _ (by have:=szw1.out;omega)).trans neww1) how2 hhw2 fun cb sb cap nb cur t w' T hC hnb hnk hT h6 hz hold=>?_
 refine h w.heap.size bo bh cb sb cap nb cur t w' T _ hC hnb hnk hT h6 rfl (fun v hv SB H=>?_) (by have:=szw1.out;omega) fun b hb=>(hold b (by have:=szw1.out;omega)).trans ((holdw2 b (by have:=szw1.out;omega)).trans (oldw1.out b hb))
 have k0:InK SB H (fun b=>hasB (campO w.heap.size bo bh cb sb cap cur t) b=true) (.slice (some ⟨w.heap.size,0,none⟩) 3 3):=InK.slice ((camp_has _).2 (by simp)) _ _ _ _
 have k1:InK SB H (fun b=>hasB (campO w.heap.size bo bh cb sb cap cur t) b=true) (campV (some ⟨w.heap.size,0,none⟩) (some ⟨bh,0,none⟩) wakeCamp 3 3):=InK.agg (l:=[.slice (some ⟨w.heap.size,0,none⟩) 3 3,.slice (some ⟨bh,0,none⟩) 3 3]) fun v hv=>by
  simp only [List.mem_cons,List.not_mem_nil,or_false] at hv
  rcases hv with rfl | rfl
  ·exact k0
  ·exact InK.slice ((camp_has _).2 (by simp)) _ _ _ _
 simp only [List.mem_cons,List.not_mem_nil,or_false,or_self] at hv
 repeat (rcases hv with hv | hv;· subst hv;first | exact VRel.bool _ | exact k0 | exact k1 | exact InK.undef)
 subst hv;first | exact VRel.bool _ | exact k0 | exact k1 | exact InK.undef
theorem arr25 {T:Array Value} (h:T.size=95):∃ (y0 y1 y2 y3 y4 y5 y6 y7 y8 y9 y10 y11 y12 y13 y14 y15 y16 y17 y18 y19 y20 y21 y22 y23 y24:Value) (tl:List Value),T=(y0 :: y1 :: y2 :: y3 :: y4 :: y5 :: y6 :: y7 :: y8 :: y9 :: y10 :: y11 :: y12 :: y13 :: y14 :: y15 :: y16 :: y17 :: y18 :: y19 :: y20 :: y21 :: y22 :: y23 :: y24 :: tl).toArray∧tl.length=70:=by
 obtain ⟨l⟩:=T
 have h:l.length=95:=h
 match l,h with
 | y0 :: y1 :: y2 :: y3 :: y4 :: y5 :: y6 :: y7 :: y8 :: y9 :: y10 :: y11 :: y12 :: y13 :: y14 :: y15 :: y16 :: y17 :: y18 :: y19 :: y20 :: y21 :: y22 :: y23 :: y24 :: tl,h=>exact ⟨y0,y1,y2,y3,y4,y5,y6,y7,y8,y9,y10,y11,y12,y13,y14,y15,y16,y17,y18,y19,y20,y21,y22,y23,y24,tl,rfl,by simpa using h⟩
theorem ra {BB:FuncId->Bool} (hB:BB 9=true) (hB13:BB 13=true) (hB15:BB 15=true) (hLy:LooksY BB) {Q:Goroutine->World->Prop} (hQ:∀ g w W,Same w W->Q g w->Q g W) {cs:List Frame} (hcs:cs≠[]) {K1:Nat->Prop} {nb:Nat} {w:World}
  (hn:w.heap[nb]?=some (cntO 1)) {T U:Array Value} (hT:T.size=19) (h6:T.getD 6 undef=.pointer (some ⟨nb,0,none⟩)) (hU:U.size=95) (hUK:∀ v∈U.toList,∀ (SB:FuncId->Bool) (H:Hid),InK SB H K1 v)
  (h:∀ (bn bo bh cb sb cap qb xb kb:Nat) (cur:List Value) (t:TypeId) (w':World) (T U:Array Value),CampW w' bn bo bh cb sb cap cur t->w'.heap[kb]?=some (keepA false fun _=>0)->(∀ p∈bestX xb qb cb,w'.heap[p.1]?=some (.cells p.2.1.toArray p.2.2 (0,0)))->hasB (campO bn bo bh cb sb cap cur t++bestX xb qb cb) kb=false ->
   T.size=27->T.getD 4 undef=.pointer (some ⟨qb,0,none⟩)->T.getD 7 undef=.pointer (some ⟨kb,0,none⟩) ->
   U.size=95->U.getD 1 undef=.int .i64 1->U.getD 2 undef=.int .i64 0->(∀ v∈U.toList,∀ (SB:FuncId->Bool) (H:Hid),InK SB H (fun b=>K1 b∨hasB (campO bn bo bh cb sb cap cur t) b=true) v)->w.heap.size<=w'.heap.size->(∀ b,b<w.heap.size->w'.heap[b]?=w.heap[b]?) ->
   KTr Tryz.prog BB Q 0 (bF PP 49 (eArgs cb (.func 59) #[] [Value.pointer (some ⟨kb,0,none⟩),.pointer (some ⟨xb,0,none⟩)].toArray) ((base 15).at ⟨T,[]⟩ [.inRegion d6 [2],.code z6]) ((base 9).at ⟨U,[]⟩ [.inRegion e2 [2,3,4,5,6,7],.code zw3] :: cs)) w') :
  KTr Tryz.prog BB Q 0 (back ((base 13).at ⟨T,[]⟩ [.inRegion c5 [2],.code x5]) ((base 9).at ⟨U,[]⟩ [.inRegion e1 [2,3,4,5,6,7],.code om] :: cs)) w:=by
 refine mG hB13 hLy hQ hcs hn hT h6 ?_
 obtain ⟨y0,y1,y2,y3,y4,y5,y6,y7,y8,y9,y10,y11,y12,y13,y14,y15,y16,y17,y18,y19,y20,y21,y22,y23,y24,tl,rfl,htl⟩:=arr25 hU
 have e15:(e1[2]?.bind (·.dst))=some 15:=rfl
 rw [e15]
 try walk_nrm
 have ee1:e1=cOps (au (ah wB)):=rfl
 simp only [wB,Tryz.f9,Option.getD_some,ah,au,cOps] at ee1
 rw [ee1]
 clear ee1 e15
 refine aa hQ hB (by kernel_rfl) fun τ d=>?_
 refine goes_oper_k rfl rfl (by decide) (fun K hK=>?_)
 have q1:=af
 have q2:=ab
 have q3:=ae
 go_simp
 clear q1 q2 q3
 refine hK _ _ ⟨hcs,w,⟨rfl,rfl,rfl⟩,?_⟩
 clear hK K
 try walk_nrm
 try simp only [ab]
 refine aa hQ hB (by kernel_rfl) fun τ d=>?_
 refine goes_oper_k rfl rfl (by decide) (fun K hK=>?_)
 have q1:=af
 have q2:=ab
 have q3:=ae
 go_simp
 clear q1 q2 q3
 refine hK _ _ ⟨hcs,w,⟨rfl,rfl,rfl⟩,?_⟩
 clear hK K
 try walk_nrm
 try simp only [ab]
 refine aa hQ hB (by kernel_rfl) fun τ d=>?_
 refine goes_oper_k rfl rfl (by decide) (fun K hK=>?_)
 have q1:=af
 have q2:=ab
 have q3:=ae
 go_simp
 clear q1 q2 q3
 refine hK _ _ ⟨hcs,w,⟨rfl,rfl,rfl⟩,?_⟩
 clear hK K
 try walk_nrm
 try simp only [ab]
 refine aa hQ hB (by kernel_rfl) fun τ d=>?_
 refine goes_oper_k rfl rfl (by decide) (fun K hK=>?_)
 have q1:=af
 have q2:=ab
 have q3:=ae
 go_simp
 clear q1 q2 q3
 refine hK _ _ ⟨hcs,w,⟨rfl,rfl,rfl⟩,?_⟩
 clear hK K
 try walk_nrm
 try simp only [ab]
 refine aa hQ hB (by kernel_rfl) fun τ d=>?_
 refine goes_oper_k rfl rfl (by decide) (fun K hK=>?_)
 have q1:=af
 have q2:=ab
 have q3:=ae
 go_simp
 clear q1 q2 q3
 refine hK _ _ ⟨hcs,w,⟨rfl,rfl,rfl⟩,?_⟩
 clear hK K
 try walk_nrm
 try simp only [ab]
 refine aa hQ hB (by kernel_rfl) fun τ d=>?_
 rw [stepG_region_end]
 simp only [goes_go]
 refine ⟨hcs,w,Same.on_,?_⟩
 have ez2:om=ah (ah wB):=rfl
 simp only [wB,Tryz.f9,Option.getD_some,ah] at ez2
 rw [ez2]
 clear ez2
 refine aa hQ hB (by kernel_rfl) fun τ d=>?_
 rw [stepG_seq]
 simp only [goes_go]
 refine ⟨hcs,w,Same.on_,?_⟩
 refine aa hQ hB (by kernel_rfl) fun τ d=>?_
 rw [stepG_region]
 simp only [goes_go,List.size_toArray,List.length_cons,List.length_nil,Nat.reduceAdd,Nat.zero_add,List.range,List.range.loop]
 refine ⟨hcs,w,Same.on_,?_⟩
 refine aa hQ hB (by kernel_rfl) fun τ d=>?_
 refine goes_oper_k rfl rfl (by decide) (fun K hK=>?_)
 have q1:=af
 have q2:=ab
 have q3:=ae
 go_simp
 clear q1 q2 q3
 refine hK _ _ ⟨hcs,w.alloc _,⟨rfl,rfl,rfl⟩,?_⟩
 clear hK K
 try walk_nrm
 try simp only [ab]
 obtain ⟨w1,hw1⟩:∃ w1,w1=w.alloc (.cells needL.toArray 3):=⟨_,rfl⟩
 change KTr Tryz.prog BB Q 0 _ (w.alloc (.cells needL.toArray 3))
 rw [<- hw1]
 have szw1:=Lib.hid (show w1.heap.size=w.heap.size+1 by rw [hw1,ax])
 have oldw1:=Lib.hid (show ∀ b,b<w.heap.size->w1.heap[b]?=w.heap[b]? from fun b hb=>by rw [hw1,av,if_neg (by omega)])
 have neww1:w1.heap[w.heap.size]?=some (.cells needL.toArray 3 (0,0)):=by rw [hw1,av,if_pos rfl]
 clear hw1
 refine aa hQ hB (by kernel_rfl) fun τ d=>?_
 refine aw rfl rfl (by decide) rfl Tryz.func41 (by kernel_rfl) (by kernel_rfl) ⟨hcsM _ _,w1,Same.on_,?_⟩
 try walk_nrm
 refine (da (H:=Hid.no) hLy).fn (f:=41) (by decide) (by decide) (K0:=fun b=>b=w.heap.size) hcs (fun _ _=>Nat.zero_le _) (Nat.zero_le _) (allIn (l:=[.slice (some ⟨w.heap.size,0,none⟩) 3 3]) fun v hv=>?_) (fun b _ hb=>by cases hb) (fun b hb=>by cases hb) (fun b hb _=>needObj neww1 b hb) hQ (R:=CampedW w.heap.size w1) camped_w ?_
 ·simp only [List.mem_cons,List.not_mem_nil,or_false] at hv
  subst hv;exact InK.slice (K:=fun b=>b=w.heap.size) rfl _ _ _ _
 rintro v w2 ⟨bo,bh,rfl,how2,hhw2,hzw2,holdw2⟩
 change KTr Tryz.prog BB Q 0 _ w2
 rw [Frame.finish_at]
 simp only [List.getElem?_toArray,List.getElem?_cons_succ,List.getElem?_cons_zero,Option.bind_some]
 try walk_nrm
 refine aa hQ hB (by kernel_rfl) fun τ d=>?_
 refine aw rfl rfl (by decide) rfl Tryz.func15 (by kernel_rfl) (by kernel_rfl) ⟨hcsM _ _,w2,Same.on_,?_⟩
 try walk_nrm
 refine pN hB15 hLy hQ (hcsM _ _) (bn:=w.heap.size) (bo:=bo) (bh:=bh) ((holdw2 _ (by have:=szw1.out;omega)).trans neww1) how2 hhw2 fun cb sb cap qb xb kb cur t w' T hC hnb hX hnk hT h4 h7 hz hold=>?_
 refine h w.heap.size bo bh cb sb cap qb xb kb cur t w' T _ hC hnb hX hnk hT h4 h7 (by simp [htl]) rfl rfl (fun v hv SB H=>?_) (by have:=szw1.out;omega) fun b hb=>(hold b (by have:=szw1.out;omega)).trans ((holdw2 b (by have:=szw1.out;omega)).trans (oldw1.out b hb))
 have k0:InK SB H (fun b=>K1 b∨hasB (campO w.heap.size bo bh cb sb cap cur t) b=true) (.slice (some ⟨w.heap.size,0,none⟩) 3 3):=InK.slice (.inr ((camp_has _).2 (by simp))) _ _ _ _
 have k1:InK SB H (fun b=>K1 b∨hasB (campO w.heap.size bo bh cb sb cap cur t) b=true) (campV (some ⟨w.heap.size,0,none⟩) (some ⟨bh,0,none⟩) wakeCamp 3 3):=InK.agg (l:=[.slice (some ⟨w.heap.size,0,none⟩) 3 3,.slice (some ⟨bh,0,none⟩) 3 3]) fun v hv=>by
  simp only [List.mem_cons,List.not_mem_nil,or_false] at hv
  rcases hv with rfl | rfl
  ·exact k0
  ·exact InK.slice (.inr ((camp_has _).2 (by simp))) _ _ _ _
 have k2:InK SB H (fun b=>K1 b∨hasB (campO w.heap.size bo bh cb sb cap cur t) b=true) (.tuple #[.int .i64 1,.int .i64 0]):=by
  refine (allIn (l:=[.int .i64 1,.int .i64 0]) fun v hv=>?_).tuple
  simp only [List.mem_cons,List.not_mem_nil,or_false] at hv
  rcases hv with rfl | rfl<;>exact VRel.int _ _
 have k3:∀ u∈(y0 :: y1 :: y2 :: y3 :: y4 :: y5 :: y6 :: y7 :: y8 :: y9 :: y10 :: y11 :: y12 :: y13 :: y14 :: y15 :: y16 :: y17 :: y18 :: y19 :: y20 :: y21 :: y22 :: y23 :: y24 :: tl:List Value),InK SB H (fun b=>K1 b∨hasB (campO w.heap.size bo bh cb sb cap cur t) b=true) u:=fun u hu=>(hUK u (by simpa using hu) SB H).mono fun b hb=>.inl hb
 have hv2:v=.int .i64 1∨v=.int .i64 0∨v=.tuple #[.int .i64 1,.int .i64 0]∨v=.slice (some ⟨w.heap.size,0,none⟩) 3 3∨v=campV (some ⟨w.heap.size,0,none⟩) (some ⟨bh,0,none⟩) wakeCamp 3 3∨v∈(y0 :: y1 :: y2 :: y3 :: y4 :: y5 :: y6 :: y7 :: y8 :: y9 :: y10 :: y11 :: y12 :: y13 :: y14 :: y15 :: y16 :: y17 :: y18 :: y19 :: y20 :: y21 :: y22 :: y23 :: y24 :: tl:List Value):=by
  clear k0 k1 k2 k3 h hUK
  simp only [List.mem_cons,List.not_mem_nil,or_false] at hv ⊢
  grind
 rcases hv2 with rfl | rfl | rfl | rfl | rfl | hv2
 ·exact VRel.int _ _
 ·exact VRel.int _ _
 ·exact k2
 ·exact k0
 ·exact k1
 ·exact k3 v hv2
theorem re {BB:FuncId->Bool} (hB:BB 9=true) (hB15:BB 15=true) (hLy:LooksY BB) {Q:Goroutine->World->Prop} (hQ:∀ g w W,Same w W->Q g w->Q g W) {cs:List Frame} (hcs:cs≠[]) {K1:Nat->Prop} {bn bo bh cb sb cap qb kb:Nat} {cur:List Value} {t:TypeId} {ρ:Ros} (hρ:∀ i,i<5->ρ i<16) {w:World}
  (hC:CampW w bn bo bh cb sb cap cur t) (hk:w.heap[kb]?=some (keepA true ρ)) (hq:w.heap[qb]?=some (.cells #[.pointer (some ⟨cb,0,none⟩)] 80 (0,0))) {T U:Array Value} (hT:T.size=27) (h4:T.getD 4 undef=.pointer (some ⟨qb,0,none⟩)) (h7:T.getD 7 undef=.pointer (some ⟨kb,0,none⟩))
  (hU:U.size=95) (hU1:U.getD 1 undef=.int .i64 1) (hU2:U.getD 2 undef=.int .i64 0) (hUK:∀ v∈U.toList,∀ (SB:FuncId->Bool) (H:Hid),InK SB H K1 v)
  (h:∀ (A:Option Addr) (c:Nat) (xs:List Value) (w':World) (K':Nat->Prop) (U:Array Value),OwnGrid w' (w.heap.size+1) (.slice A 3 c) (aN ρ 3) xs->w.heap.size<=w'.heap.size->(∀ b,b<w.heap.size->w'.heap[b]?=w.heap[b]?)->(∀ b,K' b->∃ o,w'.heap[b]?=some o∧ORel (SP SBy Hid.no) (CK Sq.prog SBy false) (idOn K') o o) ->
   U.size=95->U.getD 1 undef=.int .i64 1->U.getD 2 undef=.int .i64 0->U.getD 3 undef=.slice A 3 c->U.getD 4 undef=.int .i64 0->(∀ v∈U.toList,InK SBy Hid.no (fun b=>K1 b∨K' b) v)->KTr Tryz.prog BB Q 0 (Go.Conc.G ((base 9).at ⟨U,[]⟩ [.code zw3]) cs) w') :
  KTr Tryz.prog BB Q 0 (back ((base 15).at ⟨T,[]⟩ [.inRegion d6 [2],.code z6]) ((base 9).at ⟨U,[]⟩ [.inRegion e2 [2,3,4,5,6,7],.code zw3] :: cs)) w:=by
 refine ol hB15 hLy hQ hcs hρ hC hk hq hT h4 h7 fun A c xs w2 K' ho hz hold hv hobj=>?_
 obtain ⟨y0,y1,y2,y3,y4,y5,y6,y7,y8,y9,y10,y11,y12,y13,y14,y15,y16,y17,y18,y19,y20,y21,y22,y23,y24,tl,rfl,htl⟩:=arr25 hU
 have hU1:y1=.int .i64 1:=hU1
 have hU2:y2=.int .i64 0:=hU2
 subst hU1 hU2
 have e21:(e2[2]?.bind (·.dst))=some 21:=rfl
 rw [e21]
 try walk_nrm
 have ee2:e2=cOps (au (ah (ah wB))):=rfl
 simp only [wB,Tryz.f9,Option.getD_some,ah,au,cOps] at ee2
 rw [ee2]
 clear ee2 e21
 refine aa hQ hB (by kernel_rfl) fun τ d=>?_
 refine goes_oper_k rfl rfl (by decide) (fun K hK=>?_)
 have q1:=af
 have q2:=ab
 have q3:=ae
 go_simp
 clear q1 q2 q3
 refine hK _ _ ⟨hcs,w2,⟨rfl,rfl,rfl⟩,?_⟩
 clear hK K
 try walk_nrm
 try simp only [ab]
 refine aa hQ hB (by kernel_rfl) fun τ d=>?_
 refine goes_oper_k rfl rfl (by decide) (fun K hK=>?_)
 have q1:=af
 have q2:=ab
 have q3:=ae
 go_simp
 clear q1 q2 q3
 refine hK _ _ ⟨hcs,w2,⟨rfl,rfl,rfl⟩,?_⟩
 clear hK K
 try walk_nrm
 try simp only [ab]
 refine aa hQ hB (by kernel_rfl) fun τ d=>?_
 refine goes_oper_k rfl rfl (by decide) (fun K hK=>?_)
 have q1:=af
 have q2:=ab
 have q3:=ae
 go_simp
 clear q1 q2 q3
 refine hK _ _ ⟨hcs,w2,⟨rfl,rfl,rfl⟩,?_⟩
 clear hK K
 try walk_nrm
 try simp only [ab]
 refine aa hQ hB (by kernel_rfl) fun τ d=>?_
 refine goes_oper_k rfl rfl (by decide) (fun K hK=>?_)
 have q1:=af
 have q2:=ab
 have q3:=ae
 go_simp
 clear q1 q2 q3
 refine hK _ _ ⟨hcs,w2,⟨rfl,rfl,rfl⟩,?_⟩
 clear hK K
 try walk_nrm
 try simp only [ab]
 refine aa hQ hB (by kernel_rfl) fun τ d=>?_
 refine goes_oper_k rfl rfl (by decide) (fun K hK=>?_)
 have q1:=af
 have q2:=ab
 have q3:=ae
 go_simp
 clear q1 q2 q3
 refine hK _ _ ⟨hcs,w2,⟨rfl,rfl,rfl⟩,?_⟩
 clear hK K
 try walk_nrm
 try simp only [ab]
 refine aa hQ hB (by kernel_rfl) fun τ d=>?_
 rw [stepG_region_end]
 simp only [goes_go]
 refine ⟨hcs,w2,Same.on_,?_⟩
 refine h A c xs w2 K' _ ho hz hold hobj (by simp [htl]) rfl rfl rfl rfl fun v hv3=>?_
 have k0:InK SBy Hid.no (fun b=>K1 b∨K' b) (.slice A 3 c):=hv.mono fun b B hb=>⟨.inr hb.1,hb.2⟩
 have k2:InK SBy Hid.no (fun b=>K1 b∨K' b) (.tuple #[.slice A 3 c,.int .i64 0]):=by
  refine (allIn (l:=[.slice A 3 c,.int .i64 0]) fun v hv=>?_).tuple
  simp only [List.mem_cons,List.not_mem_nil,or_false] at hv
  rcases hv with rfl | rfl
  ·exact k0
  ·exact VRel.int _ _
 have k3:∀ u∈(y0 :: .int .i64 1 :: .int .i64 0 :: y3 :: y4 :: y5 :: y6 :: y7 :: y8 :: y9 :: y10 :: y11 :: y12 :: y13 :: y14 :: y15 :: y16 :: y17 :: y18 :: y19 :: y20 :: y21 :: y22 :: y23 :: y24 :: tl:List Value),InK SBy Hid.no (fun b=>K1 b∨K' b) u:=fun u hu=>(hUK u (by simpa using hu) SBy Hid.no).mono fun b hb=>.inl hb
 have hv2:v=.slice A 3 c∨v=.int .i64 0∨v=.tuple #[.slice A 3 c,.int .i64 0]∨v∈(y0 :: .int .i64 1 :: .int .i64 0 :: y3 :: y4 :: y5 :: y6 :: y7 :: y8 :: y9 :: y10 :: y11 :: y12 :: y13 :: y14 :: y15 :: y16 :: y17 :: y18 :: y19 :: y20 :: y21 :: y22 :: y23 :: y24 :: tl:List Value):=by
  clear k0 k2 k3 h hUK
  simp only [List.mem_cons,List.not_mem_nil,or_false] at hv3 ⊢
  grind
 rcases hv2 with rfl | rfl | rfl | hv2
 ·exact k0
 ·exact VRel.int _ _
 ·exact k2
 ·exact k3 v hv2
open Go.RowKit Go.Iso Go.Co Go.Conc Go.Sq
def sml:List Nat:=syl++[13,15,49,50,54,59,138,139,163,164,165]
def SBm (f:FuncId):Bool:=sml.contains f
def offM (f:FuncId):Bool:=f==49||f==50||f==54||f==59||f==163||f==165
def BBm (f:FuncId):Bool:=SBm f&&!offM f
theorem rf {p:Nat->Bool} (h:sml.all p=true):∀ f,SBm f=true->p f=true:=fun f hf=>(List.all_eq_true.1 h) f (by simpa [SBm] using hf)
theorem er:LooksY BBm:=by
 refine ⟨fun f hf=>?_,by decide,by decide⟩
 have:syl.all BBm=true:=by decide
 exact iM this f hf
theorem sg:sml.all (fun f=>fnOk Tryz.prog SBm true f||extC f||offM f)=true:=by kernel_rfl
theorem sN {P:Two} (f:FuncId) (hf:aB SBm f=true):BarOk P f:=by
 unfold aB at hf
 have h:SBm 92=false:=by decide
 rw [h,Bool.false_and,Bool.and_false] at hf
 cases hf
theorem lib_m (H:Hid):Lib PP SBm H true BBm 0:=by
 refine fS (fun f hf=>?_) (fun f hf hb=>?_) (fun f hf=>?_) sN ⟨Nat.le_of_eq Tryz.globals_size,Tryz.bigF⟩
 ·simp only [BBm,Bool.and_eq_true,Bool.not_eq_true'] at hf
  have:=rf sg f hf.1
  simp only [hf.2,Bool.or_false,Bool.or_eq_true] at this
  rcases this with h | h
  ·exact .inl ⟨h,rfl⟩
  ·exact .inr (qo h)
 ·simp only [BBm,hf,Bool.true_and,Bool.not_eq_false',offM,Bool.or_eq_true,beq_iff_eq] at hb
  rcases hb with ((((rfl | rfl) | rfl) | rfl) | rfl) | rfl
  ·exact ⟨_,_,Tryz.func49,Tryz.func49,rfl,by decide,by decide,rfl,rfl⟩
  ·exact ⟨_,_,Tryz.func50,Tryz.func50,rfl,by decide,by decide,rfl,rfl⟩
  ·exact ⟨_,_,Tryz.func54,Tryz.func54,rfl,by decide,by decide,rfl,rfl⟩
  ·exact ⟨_,_,Tryz.func59,Tryz.func59,rfl,by decide,by decide,rfl,rfl⟩
  ·exact ⟨_,_,Tryz.func163,Tryz.func163,rfl,by decide,by decide,rfl,rfl⟩
  ·exact ⟨_,_,Tryz.func165,Tryz.func165,rfl,by decide,by decide,rfl,rfl⟩
 ·simp only [BBm,Bool.and_eq_true] at hf
  exact hf.1
theorem bar49:∃ cE,Tryz.f49.body=some cE∧codeOk Tryz.prog SBm true true cE=false:=⟨_,rfl,by kernel_rfl⟩
open Go.RowKit Go.Iso Go.Co Go.Conc Go.ConcN Go.Sq
theorem hmf_m:∀ (f:FuncId) (fn:Func),PP.a.funcs[f]?=some fn->fn.body.isNone=true->PP.fs[f]?=some fn:=fun _ _ h _=>h
def QW1 (cs:List Frame) (g:Goroutine) (w:World):Prop:=∃ (bn bo bh cb sb cap nb:Nat) (cur:List Value) (t:TypeId) (T U:Array Value),CampW w bn bo bh cb sb cap cur t∧w.heap[nb]?=some (cntO 0)∧hasB (campO bn bo bh cb sb cap cur t) nb=false∧T.size=19∧T.getD 6 undef=.pointer (some ⟨nb,0,none⟩) ∧
 U.size=95∧(∀ v∈U.toList,∀ (SB:FuncId->Bool) (H:Hid),InK SB H (fun b=>hasB (campO bn bo bh cb sb cap cur t) b=true) v) ∧
 g=bF PP 49 (eArgs cb (.func 50) #[] [Value.pointer (some ⟨nb,0,none⟩)].toArray) ((base 13).at ⟨T,[]⟩ [.inRegion c5 [2],.code x5]) ((base 9).at ⟨U,[]⟩ [.inRegion e1 [2,3,4,5,6,7],.code om] :: cs)
theorem CampW.same {w w':World} {bn bo bh cb sb cap:Nat} {cur:List Value} {t:TypeId} (h:CampW w bn bo bh cb sb cap cur t) (s:Same w w'):CampW w' bn bo bh cb sb cap cur t:=h.keep fun b _=>by rw [s.1]
theorem QW1.same {cs:List Frame} (g:Goroutine) (w W:World) (s:Same w W) (h:QW1 cs g w):QW1 cs g W:=by
 obtain ⟨bn,bo,bh,cb,sb,cap,nb,cur,t,T,U,h1,h2,h3,h4,h5,h6,h7,h8⟩:=h
 exact ⟨bn,bo,bh,cb,sb,cap,nb,cur,t,T,U,h1.same s,by rw [s.1];exact h2,h3,h4,h5,h6,h7,h8⟩
theorem QW1.fn {cs:List Frame} (g:Goroutine) (w:World) (h:QW1 cs g w):BBm g.frame.fn=false:=by
 obtain ⟨bn,bo,bh,cb,sb,cap,nb,cur,t,T,U,h1,h2,h3,h4,h5,h6,h7,rfl⟩:=h
 show BBm 49=false
 decide
theorem rg {cs:List Frame} (hcs:cs≠[]) (w:World):KTr Tryz.prog BBm (QW1 cs) 0 (Go.Conc.G (Frame.enter Tryz.prog 9 #[] .normal) cs) w :=
 q9 (by decide) (by decide) er QW1.same hcs fun bn bo bh cb sb cap nb cur t w' T U h1 h2 h3 h4 h5 h6 h7 _ _=>.fin ⟨bn,bo,bh,cb,sb,cap,nb,cur,t,T,U,h1,h2,h3,h4,h5,h6,h7,rfl⟩
def QW2 (cs:List Frame) (g:Goroutine) (w:World):Prop:=∃ (K1:Nat->Prop) (bn bo bh cb sb cap qb xb kb:Nat) (cur:List Value) (t:TypeId) (T U:Array Value),(∀ b,K1 b->∃ (l:List Value) (t:TypeId),w.heap[b]?=some (.cells l.toArray t (0,0))∧∀ v∈l,∀ (SB:FuncId->Bool) (H:Hid),InK SB H K1 v)∧CampW w bn bo bh cb sb cap cur t∧w.heap[kb]?=some (keepA false fun _=>0)∧(∀ p∈bestX xb qb cb,w.heap[p.1]?=some (.cells p.2.1.toArray p.2.2 (0,0)))∧hasB (campO bn bo bh cb sb cap cur t++bestX xb qb cb) kb=false ∧
 T.size=27∧T.getD 4 undef=.pointer (some ⟨qb,0,none⟩)∧T.getD 7 undef=.pointer (some ⟨kb,0,none⟩)∧U.size=95∧U.getD 1 undef=.int .i64 1∧U.getD 2 undef=.int .i64 0∧(∀ v∈U.toList,∀ (SB:FuncId->Bool) (H:Hid),InK SB H (fun b=>K1 b∨hasB (campO bn bo bh cb sb cap cur t) b=true) v) ∧
 g=bF PP 49 (eArgs cb (.func 59) #[] [Value.pointer (some ⟨kb,0,none⟩),.pointer (some ⟨xb,0,none⟩)].toArray) ((base 15).at ⟨T,[]⟩ [.inRegion d6 [2],.code z6]) ((base 9).at ⟨U,[]⟩ [.inRegion e2 [2,3,4,5,6,7],.code zw3] :: cs)
theorem QW2.same {cs:List Frame} (g:Goroutine) (w W:World) (s:Same w W) (h:QW2 cs g w):QW2 cs g W:=by
 obtain ⟨K1,bn,bo,bh,cb,sb,cap,qb,xb,kb,cur,t,T,U,h0,h1,h2,h3,h4⟩:=h
 exact ⟨K1,bn,bo,bh,cb,sb,cap,qb,xb,kb,cur,t,T,U,by rw [s.1];exact h0,h1.same s,by rw [s.1];exact h2,by rw [s.1];exact h3,h4⟩
theorem QW2.fn {cs:List Frame} (g:Goroutine) (w:World) (h:QW2 cs g w):BBm g.frame.fn=false:=by
 obtain ⟨K1,bn,bo,bh,cb,sb,cap,qb,xb,kb,cur,t,T,U,h0,h1,h2,h3,h4,h5,h6,h7,h8,h9,h10,h11,rfl⟩:=h
 show BBm 49=false
 decide
theorem campCells {w:World} {bn bo bh cb sb cap:Nat} {cur:List Value} {t:TypeId} (h:CampW w bn bo bh cb sb cap cur t):∀ b,hasB (campO bn bo bh cb sb cap cur t) b=true->∃ (l:List Value) (t':TypeId),w.heap[b]?=some (.cells l.toArray t' (0,0))∧∀ v∈l,∀ (SB:FuncId->Bool) (H:Hid),InK SB H (fun b=>hasB (campO bn bo bh cb sb cap cur t) b=true) v:=fun b hb=>by
 obtain ⟨p,hp,rfl⟩:=hasB_of hb
 exact ⟨_,_,h.obj p hp,fun v hv SB H=>eR h.flat p hp v hv SB H⟩
theorem rh {cs:List Frame} (hcs:cs≠[]) {w:World} {bn bo bh cb sb cap nb:Nat} {cur:List Value} {t:TypeId} {T U:Array Value} (hC:CampW w bn bo bh cb sb cap cur t) (hn:w.heap[nb]?=some (cntO 1)) (hT:T.size=19) (h6:T.getD 6 undef=.pointer (some ⟨nb,0,none⟩))
  (hU:U.size=95) (hUK:∀ v∈U.toList,∀ (SB:FuncId->Bool) (H:Hid),InK SB H (fun b=>hasB (campO bn bo bh cb sb cap cur t) b=true) v) :
  KTr Tryz.prog BBm (QW2 cs) 0 (back ((base 13).at ⟨T,[]⟩ [.inRegion c5 [2],.code x5]) ((base 9).at ⟨U,[]⟩ [.inRegion e1 [2,3,4,5,6,7],.code om] :: cs)) w :=
 ra (by decide) (by decide) (by decide) er QW2.same hcs hn hT h6 hU hUK fun bn' bo' bh' cb' sb' cap' qb xb kb cur' t' w' T' U' h1 h2 h3 h4 h5 h6 h7 h8 h9 h10 h11 hz hold =>
  .fin ⟨_,bn',bo',bh',cb',sb',cap',qb,xb,kb,cur',t',T',U',fun b hb=>by
   obtain ⟨l,t2,e1,e2⟩:=campCells hC b hb
   exact ⟨l,t2,(hold b (hC.lt hb)).trans e1,e2⟩,h1,h2,h3,h4,h5,h6,h7,h8,h9,h10,h11,rfl⟩
section
variable {SB BB:FuncId->Bool} {lets:Bool} {Dead:Nat->Prop} {Kp:Keep} {x:Lone} {A:Goroutine} {W:World}
theorem pair_in (ht:Tw PP SB BB lets 0 Dead Kp x A W) (hH:∀ b,x.H b=false) {b:Nat} (hb:∃ B,x.β b B) {l:List Value} {t:TypeId} {f:Nat×Nat} (h:x.w.heap[b]?=some (.cells l.toArray t f)) {v:Value} (hv:v∈l):∃ V,VRel (SP SB x.H) x.β v V:=by
 obtain ⟨B,hb⟩:=hb
 obtain ⟨o,O,q1,q2,q3⟩:=ht.wl.objs b B hb (hH b)
 rw [h] at q1
 cases q1
 cases q3 with
 | cells a z =>
  obtain ⟨i,hi,rfl⟩:=List.mem_iff_getElem.1 hv
  obtain ⟨V,_,h2⟩:=a.get? (i:=i) (v:=l[i]) (by simp)
  exact ⟨V,h2⟩
theorem pair_slice {S:Par} {β:Bij} {b o:Nat} {s:Option Nat} {l c:Nat} {V:Value} (h:VRel S β (.slice (some ⟨b,o,s⟩) l c) V):∃ B,β b B:=by
 cases h with
 | slice o s l c hb=>exact ⟨_,hb⟩
theorem pair_ptr {S:Par} {β:Bij} {b o:Nat} {s:Option Nat} {V:Value} (h:VRel S β (.pointer (some ⟨b,o,s⟩)) V):∃ B,β b B:=by
 cases h with
 | ptr o s hb=>exact ⟨_,hb⟩
theorem pair_fn {S:Par} {β:Bij} {f:Fn} {fx:Array Value} {l:List Value} {V v:Value} (h:VRel S β (.func f fx l.toArray) V) (hv:v∈l):∃ V,VRel S β v V:=by
 cases h with
 | blankM _=>cases hv
 | func hf h1 i1 h2 i2 =>
  obtain ⟨i,hi,rfl⟩:=List.mem_iff_getElem.1 hv
  have hl:i<l.toArray.size:=by simpa using hi
  exact ⟨_,i2 i _ _ (Array.getElem?_eq_getElem hl) (Array.getElem?_eq_getElem (by rw [<- h2];exact hl))⟩
theorem jb (ht:Tw PP SB BB lets 0 Dead Kp x A W) (hH:∀ b,x.H b=false) {bn bo bh cb sb cap:Nat} {cur:List Value} {t:TypeId} (h:CampW x.w bn bo bh cb sb cap cur t) (hcb:∃ B,x.β cb B):∀ b,hasB (campO bn bo bh cb sb cap cur t) b=true->∃ B,x.β b B:=by
 have h4:=h.obj (cb,ownL bn bh sb cap,149) (by simp [campO])
 have h3:=h.obj (bh,herdL bo,54) (by simp [campO])
 obtain ⟨V1,v1⟩:=pair_in ht hH hcb h4 (v:=.slice (some ⟨bn,0,none⟩) 3 3) (by simp [ownL])
 obtain ⟨V2,v2⟩:=pair_in ht hH hcb h4 (v:=.slice (some ⟨bh,0,none⟩) 3 3) (by simp [ownL])
 obtain ⟨V3,v3⟩:=pair_in ht hH hcb h4 (v:=.slice (some ⟨sb,0,none⟩) 8 cap) (by simp [ownL])
 obtain ⟨V4,v4⟩:=pair_in ht hH (pair_slice v2) h3 (v:=.slice (some ⟨bo,0,none⟩) 1 1) (by simp [herdL])
 intro b hb
 rcases (camp_has b).1 hb with rfl | rfl | rfl | rfl | rfl
 ·exact pair_slice v1
 ·exact pair_slice v4
 ·exact pair_slice v2
 ·exact hcb
 ·exact pair_slice v3
theorem pair_args (ht:Tw PP SBm BBm true 0 Dead Kp x A W) {cb F:Nat} {fc:List Value} {fr:Frame} {cs:List Frame} (hg:x.g=bF PP 49 (eArgs cb (.func F) #[] fc.toArray) fr cs):(∃ B,x.β cb B)∧∀ v∈fc,∃ V,VRel (SP SBm x.H) x.β v V:=by
 obtain ⟨cE,hcE,hbar⟩:=bar49
 have htop:=ht.gl.top
 rw [hg] at htop
 obtain ⟨ARGS,eA,hargs⟩:=stop_any (P:=PP) (fa:=Tryz.f49) (fb:=Tryz.f49) Tryz.func49 Tryz.func49 hcE hbar rfl (by rw [Tryz.ntmps49];simp) htop
 obtain ⟨V0,_,r0⟩:=hargs.get? (i:=0) (v:=.pointer (some ⟨cb,0,none⟩)) rfl
 obtain ⟨V1,_,r1⟩:=hargs.get? (i:=1) (v:=.func (.func F) #[] fc.toArray) rfl
 exact ⟨pair_ptr r0,fun v hv=>pair_fn r1 hv⟩
end
open Go.RowKit Go.Iso Go.Co Go.Conc Go.ConcN Go.Sq
theorem wake_one:∃ ρ0:Ros,walkL wakeCamp (setsL 3) 2 (firstR (setW 1)) 1=[ρ0]:=by
 have:=mF
 match h:walkL wakeCamp (setsL 3) 2 (firstR (setW 1)) 1,this with
 | [ρ],_=>exact ⟨ρ,rfl⟩
theorem ot {w:World} {b:Nat} {l:Array Value} {t:TypeId} (h:w.heap[b]?=some (.cells l t (0,0))) (hl:0<l.size):¬ Iso.Ro w b:=by
 rintro ⟨c,t',f,h1,h2⟩
 rw [h] at h1
 cases h1
 have:=h2 0 hl
 omega
section
variable {gs:Array Goroutine} {W:World} {sl:Option (Nat×Nat)} {t:Trace} {q:Nat->Nat} {Dead:Nat->Prop} {Kp:Keep} {x:Lone} {A:Goroutine} {cs:List Frame}
theorem run_count (hb:Btw Tryz.prog Dead gs W t q) (ht:Tw PP SBm BBm true 0 Dead Kp x A W) (h0:gs[0]?=some A) (hq:QW1 cs x.g x.w) (hcs:cs≠[]) (hH:∀ b,x.H b=false) (hbd:gs.size+8<=2147483647) :
  ∃ N m' t',runNT Tryz.prog N (crowd gs W sl) t=(.next m',t')∧∃ gs' W' sl' q' A' Dead' g2 w2,m'=crowd gs' W' sl'∧gs'[0]?=some A'∧gs'.size<=gs.size+8∧Btw Tryz.prog Dead' gs' W' t' q' ∧
   Tw PP SBm BBm true 0 Dead' Kp ⟨g2,w2,x.H,x.β,x.T⟩ A' W'∧KTr Tryz.prog BBm (QW2 cs) 0 g2 w2∧w2.heap.size=x.w.heap.size∧(W'.os=W.os∧W'.output=W.output)∧W.heap.size<=W'.heap.size∧∀ B,Dead' B->Dead B∨W.heap.size<=B:=by
 obtain ⟨bn,bo,bh,cb,sb,cap,nb,cur,ty,T,U,hC,hn,hnk,hT,h6,hU,hUK,hg⟩:=hq
 obtain ⟨ρ0,hone⟩:=wake_one
 obtain ⟨cE,hcE,hbar⟩:=bar49
 obtain ⟨p1,p2⟩:=pair_args ht hg
 obtain ⟨Vn,vn⟩:=p2 (.pointer (some ⟨nb,0,none⟩)) (by simp)
 obtain ⟨N,m',t',hrun,gs',W',sl',q',A',Dead',e1,e2,e3,e4,e5,e6,e7⟩:=each_call (sl:=sl) (each_in (set_count hC hn hnk) hone (do_count nb ρ0)) lib_c hcE hbar wgLib rfl rfl rfl rfl bar_add bar_wait bar_done hb ht h0 hg ⟨rfl,rfl,_,_,_,_,rfl⟩ hH
  (fun b hb=>by
   rcases hb with hb | hb
   ·exact jb ht hH hC p1 b (by simpa [kxS] using hb)
   ·have e:b=nb:=by simpa using hb
    rw [e];exact pair_ptr vn) (fun b B h htl k=>by
   have e:b=nb:=by simpa using htl
   subst e
   rcases ht.keepx b B h k with h | h
   ·rw [hH] at h;cases h
   ·exact ot hn (by decide) h) hbd
 refine ⟨N,m',t',hrun,gs',W',sl',q',A',Dead',_,_,e1,e2,e3,e4,e5,?_,bj _ _ _,e6,e7⟩
 have hlt:nb<x.w.heap.size:=(Array.getElem?_eq_some_iff.1 hn).1
 refine rh hcs (hC.keep fun b hb=>?_) (nb:=nb) ?_ hT h6 hU hUK
 ·rw [bm _ _ _ _ (hC.lt hb)]
  rw [if_neg]
  intro h
  have e:b=nb:=by simpa using h
  rw [e,hnk] at hb
  cases hb
 ·rw [bm _ _ _ _ hlt,if_pos (by simp)]
  rfl
def kk (QT:Goroutine->World->Prop) (cs:List Frame):Prop:=∀ (K:Nat->Prop) (A:Option Addr) (c B:Nat) (xs:List Value) (w':World) (U:Array Value) (ρ:Ros),walkL wakeCamp (setsL 3) 2 (firstR (setW 1)) 1=[ρ]->OwnGrid w' B (.slice A 3 c) (aN ρ 3) xs ->
 U.size=95->U.getD 1 undef=.int .i64 1->U.getD 2 undef=.int .i64 0->U.getD 3 undef=.slice A 3 c->U.getD 4 undef=.int .i64 0->(∀ v∈U.toList,InK SBy Hid.no K v)->(∀ b,K b->∃ o,w'.heap[b]?=some o∧ORel (SP SBy Hid.no) (CK Sq.prog SBy false) (idOn K) o o) ->
 KTr Tryz.prog BBm QT 0 (Go.Conc.G ((base 9).at ⟨U,[]⟩ [.code zw3]) cs) w'
theorem rj:∀ ρ∈walkL wakeCamp (setsL 3) 2 (firstR (setW 1)) 1,∀ i,i<5->ρ i<16:=by decide +kernel
theorem run_best {QT:Goroutine->World->Prop} (hQT:∀ g w W,Same w W->QT g w->QT g W) (htail:kk QT cs) (hb:Btw Tryz.prog Dead gs W t q) (ht:Tw PP SBm BBm true 0 Dead Kp x A W) (h0:gs[0]?=some A) (hq:QW2 cs x.g x.w) (hcs:cs≠[]) (hH:∀ b,x.H b=false) (hbd:gs.size+8<=2147483647) :
  ∃ N m' t',runNT Tryz.prog N (crowd gs W sl) t=(.next m',t')∧∃ gs' W' sl' q' A' Dead' g2 w2,m'=crowd gs' W' sl'∧gs'[0]?=some A'∧gs'.size<=gs.size+8∧Btw Tryz.prog Dead' gs' W' t' q' ∧
   Tw PP SBm BBm true 0 Dead' Kp ⟨g2,w2,x.H,x.β,x.T⟩ A' W'∧KTr Tryz.prog BBm QT 0 g2 w2∧w2.heap.size=x.w.heap.size∧(W'.os=W.os∧W'.output=W.output)∧W.heap.size<=W'.heap.size∧∀ B,Dead' B->Dead B∨W.heap.size<=B:=by
 obtain ⟨K1,bn,bo,bh,cb,sb,cap,qb,xb,kb,cur,ty,T,U,hK1,hC,hk,hX,hnk,hT,h4,h7,hU,hU1,hU2,hUK,hg⟩:=hq
 obtain ⟨ρ0,hone⟩:=wake_one
 have hρ:∀ i,i<5->ρ0 i<16:=rj ρ0 (by rw [hone];simp)
 obtain ⟨cE,hcE,hbar⟩:=bar49
 obtain ⟨p1,p2⟩:=pair_args ht hg
 obtain ⟨Vk,vk⟩:=p2 (.pointer (some ⟨kb,0,none⟩)) (by simp)
 obtain ⟨Vx,vx⟩:=p2 (.pointer (some ⟨xb,0,none⟩)) (by simp)
 have hxo:=hX (xb,[.func (.func 54) #[] #[.pointer (some ⟨qb,0,none⟩)]],98) (by simp [bestX])
 have hqo:=hX (qb,[.pointer (some ⟨cb,0,none⟩)],80) (by simp [bestX])
 obtain ⟨Vf,vf⟩:=pair_in ht hH (pair_ptr vx) hxo (v:=.func (.func 54) #[] #[.pointer (some ⟨qb,0,none⟩)]) (by simp)
 obtain ⟨Vq,vq⟩:=pair_fn (l:=[.pointer (some ⟨qb,0,none⟩)]) vf (v:=.pointer (some ⟨qb,0,none⟩)) (by simp)
 have hnc:hasB (campO bn bo bh cb sb cap cur ty) kb=false∧hasB (bestX xb qb cb) kb=false:=by
  rw [aQ,Bool.or_eq_false_iff] at hnk
  exact hnk
 obtain ⟨N,m',t',hrun,gs',W',sl',q',A',Dead',e1,e2,e3,e4,e5,e6,e7⟩:=each_call (sl:=sl) (each_in (set_best (ρ:=ρ0) hC hk hX hnk) hone (do_best kb xb qb cb ρ0)) lib_c hcE hbar wgLib rfl rfl rfl rfl bar_add bar_wait bar_done hb ht h0 hg ⟨rfl,rfl,_,_,_,_,rfl⟩ hH
  (fun b hb=>by
   rcases hb with hb | hb
   ·have hb':hasB (campO bn bo bh cb sb cap cur ty++bestX xb qb cb) b=true:=hb
    rw [aQ,Bool.or_eq_true] at hb'
    rcases hb' with hb' | hb'
    ·exact jb ht hH hC p1 b hb'
    ·have : b = xb ∨ b = qb := by
      obtain ⟨p,hp,rfl⟩:=hasB_of hb'
      simp only [bestX,List.mem_cons,List.not_mem_nil,or_false] at hp
      rcases hp with rfl | rfl<;>simp
     rcases this with rfl | rfl
     ·exact pair_ptr vx
     ·exact pair_ptr vq
   ·have e:b=kb:=by simpa using hb
    rw [e];exact pair_ptr vk) (fun b B h htl k=>by
   have e:b=kb:=by simpa using htl
   subst e
   rcases ht.keepx b B h k with h | h
   ·rw [hH] at h;cases h
   ·exact ot hk (by decide) h) hbd
 refine ⟨N,m',t',hrun,gs',W',sl',q',A',Dead',_,_,e1,e2,e3,e4,e5,?_,bj _ _ _,e6,e7⟩
 have hlt:kb<x.w.heap.size:=(Array.getElem?_eq_some_iff.1 hk).1
 obtain ⟨w1,hw1⟩:∃ w1,w1=relay (tlS kb) (oF (decide (8<=1)) (fun _=>keepA false fun _=>0) fun _=>keepA true ρ0) x.w:=⟨_,rfl⟩
 have hkb:w1.heap[kb]?=some (keepA true ρ0):=by
  rw [hw1,bm _ _ _ _ hlt,if_pos (by simp)]
  rfl
 have hne:∀ b,b≠kb->b<x.w.heap.size->w1.heap[b]?=x.w.heap[b]?:=fun b hb hl=>by
  rw [hw1,bm _ _ _ _ hl,if_neg (by simpa using hb)]
 have hC1:CampW w1 bn bo bh cb sb cap cur ty:=hC.keep fun b hb=>hne b (fun e=>by rw [e,hnc.1] at hb;cases hb) (hC.lt hb)
 have hq1:w1.heap[qb]?=some (.cells #[.pointer (some ⟨cb,0,none⟩)] 80 (0,0)):=by
  refine (hne qb (fun e=>?_) (Array.getElem?_eq_some_iff.1 hqo).1).trans hqo
  have:=hnc.2
  rw [<- e] at this
  simp [hasB,bestX] at this
 show KTr Tryz.prog BBm QT 0 _ (relay (tlS kb) (oF (decide (8<=1)) (fun _=>keepA false fun _=>0) fun _=>keepA true ρ0) x.w)
 rw [<- hw1]
 refine re (by decide) (by decide) er hQT hcs hρ hC1 hkb hq1 hT h4 h7 hU hU1 hU2 hUK fun A c xs w2 K' U2 ho hz hold hobj u0 u1 u2 u3 u4 hU2K=>?_
 refine htail _ A c _ xs w2 U2 ρ0 hone ho u0 u1 u2 u3 u4 hU2K fun b hbK=>?_
 rcases hbK with (hbK | hbK) | hbK
 ·obtain ⟨l,t2,r1,r2⟩:=hK1 b hbK
  have hl:=(Array.getElem?_eq_some_iff.1 r1).1
  by_cases e:b=kb
  ·subst e
   exact ⟨_,(hold _ (by rw [hw1,bj];exact hl)).trans hkb,iR (keepS _ _)⟩
  ·exact ⟨_,(hold _ (by rw [hw1,bj];exact hl)).trans ((hne b e hl).trans r1),.cells (allIn fun v hv=>(r2 v hv SBy Hid.no).mono fun b hb=>.inl (.inl hb)) fun i z1 z2=>⟨z1,z2⟩⟩
 ·obtain ⟨l,t2,r1,r2⟩:=campCells hC1 b hbK
  exact ⟨_,(hold _ (Array.getElem?_eq_some_iff.1 r1).1).trans r1,.cells (allIn fun v hv=>(r2 v hv SBy Hid.no).mono fun b hb=>.inl (.inr hb)) fun i z1 z2=>⟨z1,z2⟩⟩
 ·obtain ⟨o,r1,r2⟩:=hobj b hbK
  exact ⟨o,r1,r2.mono fun b B hb=>⟨.inr hb.1,hb.2⟩⟩
end
end Go.Proofs.YtgicaeombogkcaaGreat
namespace Go.Sq
def OwAt (w:World) (B:Nat) (A:Option Addr) (l:List Int):Prop :=
 l≠[]->∃ b o,A=some ⟨b,o,none⟩∧b<B∧∀ (i:Nat) (x:Int),l[i]?=some x->w.cell? ⟨b,o+i*5+4,none⟩=some (.int .i64 x)∧∃ (n0 n1 n2:Int) (A:Option Addr) (m c:Nat),
  w.cell? ⟨b,o+i*5,none⟩=some (.int .i64 n0)∧w.cell? ⟨b,o+i*5+1,none⟩=some (.int .i64 n1)∧w.cell? ⟨b,o+i*5+2,none⟩=some (.int .i64 n2)∧w.cell? ⟨b,o+i*5+3,none⟩=some (.slice A m c)
theorem OwAt.gr {w w':World} {B:Nat} {A:Option Addr} {l:List Int} (h:OwAt w B A l) (hB:B<=w.heap.size) (hg:Gr w w'):OwAt w' B A l:=fun hn=>by
 obtain ⟨b,o,e,hb,hc⟩:=h hn
 refine ⟨b,o,e,hb,fun i x hx=>?_⟩
 have k:∀ o,w'.cell? ⟨b,o,none⟩=w.cell? ⟨b,o,none⟩:=fun o=>hg.cell (p:=⟨b,o,none⟩) (Nat.lt_of_lt_of_le hb hB)
 obtain ⟨h1,n0,n1,n2,A,m,c,h2,h3,h4,h5⟩:=hc i x hx
 exact ⟨(k _).trans h1,n0,n1,n2,A,m,c,(k _).trans h2,(k _).trans h3,(k _).trans h4,(k _).trans h5⟩
def mostN (l:List Int):Nat->Int
 | 0=>-1
 | k+1=>if 0<l[k]?.getD 0∧(mostN l k<0∨l[(mostN l k).toNat]?.getD 0<l[k]?.getD 0) then k else mostN l k
theorem gH (l:List Int) (k:Nat):-1<=mostN l k∧mostN l k<k:=by
 induction k with
 | zero=>simp [mostN]
 | succ k ih =>
  unfold mostN
  split
  ·omega
  ·omega
end Go.Sq
namespace Go.Proofs.YtgicaeombogkcaaGreat
open Go.RowKit Go.Sq
theorem si (A:Option Addr) (c:Nat) (l:List Int) (w:World) (B:Nat) (hB:B<=w.heap.size) (h:OwAt w B A l) (hl:l.length<=4611686018427387904) :
  Calls Sq.prog 156 #[.slice A l.length c] w fun e w'=>e=.returned (.int .i64 (mostN l l.length))∧Gr w w':=by
 have HR:=Lib.hid h
 clear h
 go_enter Sq.func156,Tryz.ntmps156
 go_wp2
 go_loopw [3,8] (fun s i wr=>∃ k:Nat,k<=l.length∧i=.int .i64 k∧s=.int .i64 (mostN l k)∧Gr w wr) (fun _ i _=>l.length - (intOf i).toNat)
 case atStart=>exact ⟨0,by omega,rfl,rfl,.refl _⟩
 case round =>
  obtain ⟨k,hk,rfl,rfl,hg⟩:=hrel
  have HG:=Lib.hid hg
  clear hg
  by_cases hlt:k<l.length
  ·obtain ⟨b,o,e,hb,hc⟩:=HR.out.gr hB HG.out (fun e=>by rw [e] at hlt;simp at hlt)
   subst e
   obtain ⟨c4,n0,n1,n2,A',m,c',c0,c1,c2,c3⟩:=hc k _ (List.getElem?_eq_getElem hlt)
   have HM:=Lib.hid (show mostN l (k+1)=if 0<l[k]∧(mostN l k<0∨l[(mostN l k).toNat]?.getD 0<l[k]) then (k:Int) else mostN l k by
    show (if _ then _ else _)=_
    rw [List.getElem?_eq_getElem hlt];rfl)
   have HML:=gH l k
   have HCC:=Lib.hid hc
   clear hc
   have hz:=HG.out.size
   generalize l[k]=x at c4 HM
   by_cases hx:0<x
   ·by_cases hm:mostN l k<0
    ·have HM2:=Lib.hid (show mostN l (k+1)=k by rw [HM.out,if_pos ⟨hx,.inl hm⟩])
     clear HM HML
     generalize mostN l k=q at hm HM2
     have hd1:decide (x > 0)=true:=by simp;omega
     have hd2:decide (q<0)=true:=by simp;omega
     go_wp2
     go_region
     go_wp2
     go_roundw
     case rel=>exact ⟨k+1,by omega,by go_num,congrArg (Value.int .i64) HM2.out.symm,(HG.out.alloc _).drew⟩
     case measure=>simp [intOf];omega
    ·obtain ⟨j,hj⟩:∃ j:Nat,mostN l k=j:=⟨(mostN l k).toNat,by omega⟩
     rw [hj] at HM hm HML ⊢
     have hjk:j<k:=by omega
     obtain ⟨y4,_⟩:=HCC.out j _ (List.getElem?_eq_getElem (show j<l.length by omega))
     have HY:=Lib.hid (show l[(j:Int).toNat]?.getD 0=l[j] by rw [Int.toNat_natCast,List.getElem?_eq_getElem (by omega)];rfl)
     generalize l[j]=y at y4 HY
     have hjl:j<l.length:=by omega
     have HJ:=Lib.hid hj
     clear hj hm HML
     have hd1:decide (x > 0)=true:=by simp;omega
     have hd3:decide ((j:Int)<0)=false:=by simp
     have hbl:b<wr.heap.size:=by omega
     by_cases hxy:y<x
     ·have HM2:=Lib.hid (show mostN l (k+1)=k by rw [HM.out,if_pos ⟨hx,.inr (by rw [HY.out];exact hxy)⟩])
      have hd2:decide (x > y)=true:=by simp;omega
      clear HM HY
      go_wp2
      go_quiet (fail)
      go_wp2
      go_roundw
      case rel=>exact ⟨k+1,by omega,by go_num,congrArg (Value.int .i64) HM2.out.symm,(HG.out.alloc _).drewN _⟩
      case measure=>simp [intOf];omega
     ·have HM2:=Lib.hid (show mostN l (k+1)=j by rw [HM.out,if_neg (by rw [HY.out];omega)])
      have hd2:decide (x > y)=false:=by simp;omega
      clear HM HY
      go_wp2
      go_quiet (fail)
      go_wp2
      go_roundw
      case rel=>exact ⟨k+1,by omega,by go_num,congrArg (Value.int .i64) HM2.out.symm,(HG.out.alloc _).drewN _⟩
      case measure=>simp [intOf];omega
   ·have HM2:=Lib.hid (show mostN l (k+1)=mostN l k by rw [HM.out,if_neg (by omega)])
    have hd1:decide (x > 0)=false:=by simp;omega
    clear HM HML
    generalize hq:mostN l k=q at HM2
    clear hq
    go_wp2
    go_region
    go_wp2
    go_roundw
    case rel=>exact ⟨k+1,by omega,by go_num,congrArg (Value.int .i64) HM2.out.symm,(HG.out.alloc _).drew⟩
    case measure=>simp [intOf];omega
  ·have hkl:k=l.length:=by omega
   subst hkl
   go_wp2
   go_ret
   exact ⟨rfl,HG.out⟩
end Go.Proofs.YtgicaeombogkcaaGreat
namespace Go.Sq
def raidE (n:Nat) (rs:List (Int×Int)) (k:Nat):Int :=
 if inR (rs[k]?.getD (0,0)).1 0 (n - 1)=false then 3 else if inR (rs[k]?.getD (0,0)).2 0 60=false then 1 else if (rs.take k).any (·.1==(rs[k]?.getD (0,0)).1)=true then 4 else 0
def fL (n:Nat) (rs:List (Int×Int)):Int:=be ((List.range rs.length).map (raidE n rs))
def aY (rs:List (Int×Int)):Nat->Nat->Int
 | 0,_=>0
 | k+1,j=>if (rs[k]?.getD (0,0)).1=j then (rs[k]?.getD (0,0)).2 else aY rs k j
def wolvesL (n:Nat) (rs:List (Int×Int)) (k:Nat):List Int:=(List.range n).map (aY rs k)
theorem cV (n:Nat) (rs:List (Int×Int)) (k:Nat):(wolvesL n rs k).length=n:=by simp [wolvesL]
theorem mH {n:Nat} {rs:List (Int×Int)} {k j:Nat} (hj:j<n):(wolvesL n rs k)[j]?=some (aY rs k j):=by simp [wolvesL,hj]
theorem kT {n:Nat} {rs:List (Int×Int)} (h:∀ k,k<rs.length->raidE n rs k=0) (k j:Nat) (hk:k<=rs.length):0<=aY rs k j∧aY rs k j<=60:=by
 induction k with
 | zero=>simp [aY]
 | succ k ih =>
  have:=h k (by omega)
  unfold aY
  split
  ·unfold raidE at this
   split at this
   ·omega
   ·split at this
    ·omega
    ·rename_i h1 h2
     simp [inR] at h2
     omega
  ·exact ih (by omega)
def cQ (n:Int) (s:List Int×List (Int×Int)):List Int×List (Int×Int) :=
 if mostN s.1 s.1.length<0 then s else (s.1.set (mostN s.1 s.1.length).toNat (s.1[(mostN s.1 s.1.length).toNat]?.getD 0 - 1),s.2++[(n,mostN s.1 s.1.length)])
def lossIt (n:Int) (s:List Int×List (Int×Int)):Nat->List Int×List (Int×Int)
 | 0=>s
 | m+1=>cQ n (lossIt n s m)
def tooMany (c:Camp) (r:Ros) (ws:List Int) (k:Nat):Nat:=(ws[k]?.getD 0 - c.dogs (r k)).toNat
def lossAll (c:Camp) (r:Ros) (ws:List Int):Nat->List Int×List (Int×Int)
 | 0=>(c.herders.map (·.heads),[])
 | k+1=>lossIt k (lossAll c r ws k) (tooMany c r ws k)
def lossesL (c:Camp) (r:Ros) (ws:List Int):List (Int×Int):=(lossAll c r ws ws.length).2
theorem fM {n:Int} {s:List Int×List (Int×Int)} (h:mostN s.1 s.1.length<0):cQ n s=s:=if_pos h
theorem mI {n:Int} {s:List Int×List (Int×Int)} (h:mostN s.1 s.1.length<0) (m:Nat):lossIt n s m=s:=by
 induction m with
 | zero=>rfl
 | succ m ih=>rw [lossIt,ih];exact fM h
theorem kU {n:Int} {s:List Int×List (Int×Int)} {k m:Nat} (h:mostN (lossIt n s k).1 (lossIt n s k).1.length<0) (hm:k<=m):lossIt n s m=lossIt n s k:=by
  induction m with
  | zero => obtain rfl : k = 0 := by omega
            rfl
  | succ m ih =>
    rcases Nat.lt_or_ge m k with h1 | h1
    · obtain rfl:k=m+1:=by omega
      rfl
    · rw [lossIt,ih h1];exact fM h
theorem km {c:Camp} {r:Ros} {ws:List Int} {k m:Nat} (h:mostN (lossAll c r ws k).1 (lossAll c r ws k).1.length<0) (hm:k<=m):lossAll c r ws m=lossAll c r ws k:=by
  induction m with
  | zero => obtain rfl : k = 0 := by omega
            rfl
  | succ m ih =>
    rcases Nat.lt_or_ge m k with h1 | h1
    · obtain rfl:k=m+1:=by omega
      rfl
    · rw [lossAll,ih h1];exact mI h _
theorem kV {c:Camp} {r:Ros} {ws:List Int} {k m:Nat} (hk:k<ws.length) (hm:m<=tooMany c r ws k) (h:mostN (lossIt k (lossAll c r ws k) m).1 (lossIt k (lossAll c r ws k) m).1.length<0):lossesL c r ws=(lossIt k (lossAll c r ws k) m).2:=by
 have e:lossAll c r ws (k+1)=lossIt k (lossAll c r ws k) m:=by rw [lossAll];exact kU h hm
 unfold lossesL
 rw [km (k:=k+1) (by rw [e];exact h) (by omega),e]
structure LossOk (c:Camp) (n:Nat) (s:List Int×List (Int×Int)):Prop where
 len:s.1.length=c.herders.length
 low:∀ x∈s.1,0<=x∧x<=40
 count:s.1.sum+s.2.length<=160
 night:∀ p∈s.2,0<=p.1∧p.1<n∧0<=p.2∧p.2<c.herders.length
theorem ov (l:List Int) (k:Nat) (h:0<=mostN l k):0<l[(mostN l k).toNat]?.getD 0:=by
 induction k with
 | zero=>simp [mostN] at h
 | succ k ih =>
  unfold mostN at h ⊢
  by_cases hc:0<l[k]?.getD 0∧(mostN l k<0∨l[(mostN l k).toNat]?.getD 0<l[k]?.getD 0)
  ·rw [if_pos hc];simpa using hc.1
  ·rw [if_neg hc] at h ⊢;exact ih h
theorem rm (l:List Int) (k:Nat) (x:Int) (h:k<l.length):(l.set k x).sum=l.sum - l[k]?.getD 0+x:=by
 induction l generalizing k with
 | nil=>simp at h
 | cons a l ih =>
  cases k with
  | zero=>simp;omega
  | succ k =>
   simp only [List.set_cons_succ,List.sum_cons,List.getElem?_cons_succ]
   rw [ih k (by simpa using h)];omega
theorem LossOk.step {c:Camp} {n:Nat} {s:List Int×List (Int×Int)} {d:Nat} (hd:d<n) (h:LossOk c n s):LossOk c n (cQ d s):=by
 unfold cQ
 split
 ·exact h
 ·rename_i hm
  have h1:=gH s.1 s.1.length
  have h2:=ov s.1 s.1.length (by omega)
  have hl:(mostN s.1 s.1.length).toNat<s.1.length:=by omega
  have h3:=h.low _ (mem_get s.1 _ hl)
  refine ⟨by simp [h.len],fun x hx=>?_,?_,fun p hp=>?_⟩
  ·rcases List.mem_or_eq_of_mem_set hx with h4 | rfl
   ·exact h.low x h4
   ·omega
  ·have h4:=h.count
   show (s.1.set _ _).sum+((s.2++[((d:Int),mostN s.1 s.1.length)]).length:Nat)<=160
   rw [rm _ _ _ hl,List.length_append]
   simp only [List.length_cons,List.length_nil,Int.natCast_add]
   omega
  ·rcases List.mem_append.1 hp with h4 | h4
   ·exact h.night p h4
   ·simp only [List.mem_cons,List.not_mem_nil,or_false] at h4
    subst h4
    have:=h.len
    show (0:Int)<=d∧(d:Int)<n∧_∧_
    omega
theorem LossOk.it {c:Camp} {n:Nat} {s:List Int×List (Int×Int)} {d:Nat} (hd:d<n) (h:LossOk c n s) (m:Nat):LossOk c n (lossIt d s m):=by
 induction m with
 | zero=>exact h
 | succ m ih=>exact ih.step hd
theorem LossOk.all {c:Camp} (hc:c.Ok) {r:Ros} {ws:List Int} {n:Nat} (hn:ws.length<=n) (k:Nat) (hk:k<=ws.length):LossOk c n (lossAll c r ws k):=by
 induction k with
 | zero =>
  refine ⟨by simp [lossAll],fun x hx=>?_,?_,fun p hp=>by simp [lossAll] at hp⟩
  ·simp only [lossAll,List.mem_map] at hx
   obtain ⟨h,hh,rfl⟩:=hx
   have:=hc.heads h hh;omega
  ·have := sum_bound 1 40 (c.herders.map (·.heads)) fun x hx => by
    simp only [List.mem_map] at hx
    obtain ⟨h,hh,rfl⟩:=hx
    exact hc.heads h hh
   have h4:=hc.h4
   simp only [lossAll,List.length_nil,List.length_map] at *
   omega
 | succ k ih=>exact (ih (by omega)).it (by omega) _
theorem jc {c:Camp} (hc:c.Ok) (r:Ros) (ws:List Int):LossOk c ws.length (lossAll c r ws ws.length):=LossOk.all hc (Nat.le_refl _) _ (Nat.le_refl _)
theorem iq {c:Camp} (hc:c.Ok) (r:Ros) (ws:List Int):(lossesL c r ws).length<=160:=by
 have h:=jc hc r ws
 have h1:=sum_bound 0 40 _ h.low
 have h2:=h.count
 unfold lossesL;omega
def partK (p:Int) (on:List Int) (h:Int):Nat->Int
 | 0=>0
 | k+1=>partK p on h k+if on[k]?.getD 0=h then p / on.length+(if (k:Int)<p % on.length then 1 else 0) else 0
theorem ko {p:Int} (hp:0<=p∧p<=99) (on:List Int) (h:Int) (k:Nat):0<=partK p on h k∧partK p on h k<=100*k:=by
 induction k with
 | zero=>simp [partK]
 | succ k ih =>
  have h1:0<=p / (on.length:Int):=Int.ediv_nonneg hp.1 (by omega)
  have h2:p / (on.length:Int)<=p:=Int.ediv_le_self _ hp.1
  unfold partK
  split
  ·split<;>omega
  ·omega
def owesK (p:Int) (r:Ros) (ls:List (Int×Int)) (h t:Nat):Nat->Int
 | 0=>0
 | k+1=>owesK p r ls h t k+if (ls[k]?.getD (0,0)).2=t∧h≠t then partK p (wl (r (ls[k]?.getD (0,0)).1.toNat)) h (wl (r (ls[k]?.getD (0,0)).1.toNat)).length else 0
theorem kr {p:Int} (hp:0<=p∧p<=99) (r:Ros) (ls:List (Int×Int)) (h t:Nat) (k:Nat):0<=owesK p r ls h t k∧owesK p r ls h t k<=400*k:=by
 induction k with
 | zero=>simp [owesK]
 | succ k ih =>
  have h1:=ko hp (wl (r (ls[k]?.getD (0,0)).1.toNat)) h (wl (r (ls[k]?.getD (0,0)).1.toNat)).length
  have h2:=bQ (r (ls[k]?.getD (0,0)).1.toNat)
  unfold owesK
  split<;>omega
def tabL (n:Nat) (M:Nat->Nat->Int):List (List Int):=(List.range n).map fun h=>(List.range n).map (M h)
theorem eU (n:Nat) (M:Nat->Nat->Int):(tabL n M).length=n:=by simp [tabL]
theorem rn {n:Nat} {M:Nat->Nat->Int} {h:Nat} (hh:h<n):(tabL n M)[h]?=some ((List.range n).map (M h)):=by simp [tabL,hh]
def owesL (c:Camp) (r:Ros) (p:Int) (ws:List Int):List (List Int):=tabL c.herders.length fun h t=>owesK p r (lossesL c r ws) h t (lossesL c r ws).length
def balK (M:List (List Int)):Nat->Nat->Int
 | 0,_=>0
 | k+1,j=>balK M k j - (if j=k then (M[k]?.getD []).sum else 0)+(M[k]?.getD [])[j]?.getD 0
def balL (M:List (List Int)):List Int:=(List.range M.length).map (balK M M.length)
open Go.RowKit
theorem rp (l:List Int) (n:Nat) (h:∀ x∈l,0<=x∧x<n):ofL l<2 ^ n:=by
 have key:∀ (l:List Int) (x:Nat),(∀ y∈l,0<=y∧y<n)->x<2 ^ n->l.foldl (fun x h=>x ||| 2 ^ h.toNat) x<2 ^ n:=by
  intro l
  induction l with
  | nil=>intro x _ hx;exact hx
  | cons a l ih =>
   intro x h hx
   have ha:=h a List.mem_cons_self
   exact ih _ (fun y hy=>h y (List.mem_cons_of_mem _ hy)) (Nat.or_lt_two_pow hx (Nat.pow_lt_pow_right (by omega) (by omega)))
 exact key l 0 h (Nat.two_pow_pos n)
theorem de {c:Camp} {ls:List (List Int)} (hE:formedE c ls=0) (i:Nat):c.has (rosOf ls i):=by
 unfold formedE at hE
 split at hE
 ·rename_i h;exact absurd hE h
 ·split at hE
  ·rename_i h;exact absurd hE h
  ·unfold rosOf Camp.has
   cases hl:ls[i]? with
   | none=>exact Nat.two_pow_pos _
   | some l =>
    have:=bt.1 hE (ascE l c.herders.length) (List.mem_map.2 ⟨l,List.mem_of_getElem? hl,rfl⟩)
    exact rp l _ (ascE_ok this).1
structure Tab (w:World) (base:Nat) (v:Value) (n m:Nat) (M:Nat->Nat->Int) (bl:Nat->Nat):Prop where
 row:∃ xs,w.ownsRow base 22 1 v m xs∧∀ h,h<m->xs[h]?=some (.slice (some ⟨bl h,0,none⟩) n n)
 cells:∀ h,h<m->base<=bl h∧∃ l:Array Value,w.heap[bl h]?=some (.cells l 3 (0,0))∧∀ t,t<n->l[t]?=some (.int .i64 (M h t))
 inj:∀ h h',h<m->h'<m->bl h=bl h'->h=h'
theorem cell_of_heap {w:World} {b:Nat} {l:Array Value} {ty:TypeId} (h:w.heap[b]?=some (.cells l ty (0,0))) (o:Nat):w.cell? ⟨b,o,none⟩=l[o]?∧w.frozen? ⟨b,o,none⟩=false:=by
 unfold World.cell? World.frozen?
 rw [h]
 simp
theorem ow {w:World} {base size n:Nat} {e e':TypeId} {v:Value} {xs:List Value} (h:w.ownsRow base e size v n xs) (hne:e≠e') {b:Nat} {l:Array Value} (hb:w.heap[b]?=some (.cells l e' (0,0))):some b≠v.ownBlock:=fun hh=>by
 rcases h.2 with ⟨rfl,_⟩ | ⟨g,cap,cur,rfl,_,k,_⟩
 ·cases hh
 ·have e1:b=g:=by injection hh
  subst e1
  rw [hb] at k
  injection k with k
  injection k with _ k _
  exact hne k.symm
section
variable {w w':World} {base n m:Nat} {v:Value} {M M':Nat->Nat->Int} {bl:Nat->Nat}
theorem Tab.nil (w:World) (base n:Nat) (M:Nat->Nat->Int) (bl:Nat->Nat):Tab w base (.slice none 0 0) n 0 M bl:=⟨⟨[],World.ownsRow_nil _ _ _ _,fun h hh=>absurd hh (by omega)⟩,fun h hh=>absurd hh (by omega),fun h h' hh=>absurd hh (by omega)⟩
theorem Tab.keep (h:Tab w base v n m M bl) (hk:∀ b,base<=b->b<w.heap.size->w'.heap[b]?=w.heap[b]?):Tab w' base v n m M bl:=by
 obtain ⟨xs,h1,h2⟩:=h.row
 refine ⟨⟨xs,aH h1 fun g hg hl=>hk g (h1.lt g hg).1 hl,h2⟩,fun a ha=>?_,h.inj⟩
 obtain ⟨c1,l,c2,c3⟩:=h.cells a ha
 exact ⟨c1,l,(hk _ c1 (Array.getElem?_eq_some_iff.1 c2).1).trans c2,c3⟩
theorem Tab.gr (h:Tab w base v n m M bl) (hg:Gr w w'):Tab w' base v n m M bl:=h.keep fun b _ hb=>hg.below.block b hb
theorem Tab.drew (h:Tab w base v n m M bl):Tab w.drew base v n m M bl:=h.keep fun _ _ _=>rfl
theorem Tab.congr (h:Tab w base v n m M bl) (e:∀ a t,a<m->t<n->M a t=M' a t):Tab w base v n m M' bl:=by
 refine ⟨h.row,fun a ha=>?_,h.inj⟩
 obtain ⟨c1,l,c2,c3⟩:=h.cells a ha
 exact ⟨c1,l,c2,fun t ht=>by rw [<- e a t ha ht];exact c3 t ht⟩
theorem Tab.at_ (h:Tab w base v n m M bl) {a t:Nat} (ha:a<m) (ht:t<n):base<=bl a∧bl a<w.heap.size∧w.cell? ⟨bl a,t,none⟩=some (.int .i64 (M a t))∧w.frozen? ⟨bl a,t,none⟩=false:=by
 obtain ⟨c1,l,c2,c3⟩:=h.cells a ha
 exact ⟨c1,(Array.getElem?_eq_some_iff.1 c2).1,(cell_of_heap c2 t).1.trans (c3 t ht),(cell_of_heap c2 t).2⟩
theorem Tab.row_at {A:Option Addr} {k c:Nat} (h:Tab w base (.slice A k c) n m M bl) {a:Nat} (ha:a<m):∃ g,A=some ⟨g,0,none⟩∧g<w.heap.size∧w.cell? ⟨g,a,none⟩=some (.slice (some ⟨bl a,0,none⟩) n n):=by
 obtain ⟨xs,h1,h2⟩:=h.row
 rcases h1.2 with ⟨_,h0⟩ | ⟨g,cap,cur,hv,k1,k2,k3⟩
 ·omega
 ·have hA:A=some ⟨g,0,none⟩:=by injection hv
  subst hA
  have:=h1.cells (g:=g) rfl a _ (h2 a ha)
  have e:(⟨g,0,none⟩:Addr).add a=⟨g,0+a,none⟩:=by unfold Addr.add;split<;>simp_all
  rw [e,Nat.zero_add] at this
  exact ⟨g,rfl,(Array.getElem?_eq_some_iff.1 k2).1,this⟩
theorem Tab.push {w1:World} {v':Value} {q:Nat} {xs:List Value} {z:Array Value} (h:Tab w base v n m (fun _ _=>0) bl) (hr:w.ownsRow base 22 1 v m xs) (hx:∀ h,h<m->xs[h]?=some (.slice (some ⟨bl h,0,none⟩) n n))
  (hq:base<=q) (hqw:w.heap.size<=q) (h1:∀ b,b<w.heap.size->w1.heap[b]?=w.heap[b]?) (hz:w1.heap[q]?=some (.cells z 3 (0,0))) (hzz:∀ t,t<n->z[t]?=some (.int .i64 0)) (hs:w.heap.size<=w1.heap.size)
  (hg:w1.grownBy w' v.ownBlock) (hr':w'.ownsRow base 22 1 v' (m+1) (xs++[.slice (some ⟨q,0,none⟩) n n])):Tab w' base v' n (m+1) (fun _ _=>0) (fun a=>if a=m then q else bl a):=by
 have hlen:xs.length=m:=by have:=hr.1;omega
 have hqv:some q≠v.ownBlock:=fun e=>by have:=(hr.lt q e.symm).2;omega
 refine ⟨⟨_,hr',fun a ha=>?_⟩,fun a ha=>?_,fun a a' ha ha' e=>?_⟩
 ·try dsimp only
  by_cases e:a=m
  ·subst e;rw [if_pos rfl,List.getElem?_append_right (by omega),hlen];simp
  ·rw [if_neg e,List.getElem?_append_left (by omega)];exact hx a (by omega)
 ·try dsimp only
  by_cases e:a=m
  ·subst e
   rw [if_pos rfl]
   exact ⟨hq,z,(hg.block q (Array.getElem?_eq_some_iff.1 hz).1 hqv).trans hz,hzz⟩
  ·rw [if_neg e]
   obtain ⟨c1,l,c2,c3⟩:=h.cells a (by omega)
   have hlt:=(Array.getElem?_eq_some_iff.1 c2).1
   exact ⟨c1,l,(hg.block (bl a) (by omega) (ow hr (by decide) c2)).trans ((h1 _ hlt).trans c2),c3⟩
 ·try dsimp only at e
  have key:∀ a,a<m->bl a<w.heap.size:=fun a ha=>by
   obtain ⟨_,l,c2,_⟩:=h.cells a ha
   exact (Array.getElem?_eq_some_iff.1 c2).1
  by_cases e1:a=m
  ·by_cases e2:a'=m
   ·omega
   ·rw [if_pos e1,if_neg e2] at e
    have:=key a' (by omega)
    omega
  ·by_cases e2:a'=m
   ·rw [if_neg e1,if_pos e2] at e
    have:=key a (by omega)
    omega
   ·rw [if_neg e1,if_neg e2] at e
    exact h.inj a a' (by omega) (by omega) e
theorem Tab.set (h:Tab w base v n m M bl) {a t:Nat} (ha:a<m) (ht:t<n) (y:Int) (hM:∀ a' t',a'<m->t'<n->M' a' t'=if a'=a∧t'=t then y else M a' t'):Tab (w.setCell ⟨bl a,t,none⟩ (.int .i64 y)) base v n m M' bl:=by
 obtain ⟨xs,h1,h2⟩:=h.row
 obtain ⟨c1,l,c2,c3⟩:=h.cells a ha
 have hblk:∀ g,g≠bl a->(w.setCell ⟨bl a,t,none⟩ (.int .i64 y)).heap[g]?=w.heap[g]?:=fun g hg=>by
  rw [Go.Iso.setCell_get];exact if_neg hg
 refine ⟨⟨xs,aH h1 fun g hg _=>hblk g fun e=>ow h1 (by decide) c2 (by rw [<- e];exact hg.symm),h2⟩,fun a' ha'=>?_,h.inj⟩
 obtain ⟨d1,l',d2,d3⟩:=h.cells a' ha'
 by_cases e:a'=a
 ·subst e
  refine ⟨d1,l.setIfInBounds t (.int .i64 y),?_,fun t' ht'=>?_⟩
  ·rw [Go.Iso.setCell_get,if_pos rfl,c2];simp [Go.Iso.cellPut]
  ·rw [hM a' t' ha' ht',Array.getElem?_setIfInBounds]
   by_cases e2:t=t'
   ·subst e2
    have hl:=(Array.getElem?_eq_some_iff.1 (c3 t ht)).1
    simp [hl]
   ·rw [if_neg e2,if_neg (fun h=>e2 h.2.symm)];exact c3 t' ht'
 ·refine ⟨d1,l',(hblk _ fun e2=>e (h.inj a' a ha' ha e2)).trans d2,fun t' ht'=>?_⟩
  rw [hM a' t' ha' ht',if_neg (fun h=>e h.1)]
  exact d3 t' ht'
theorem Tab.grAt {A:Option Addr} {c:Nat} (h:Tab w base (.slice A m c) m m M bl):GrAt w w.heap.size A (tabL m M):=fun hn=>by
 have hm:0<m:=by
  rcases Nat.eq_zero_or_pos m with e | e
  ·exact absurd (List.eq_nil_of_length_eq_zero ((eU m M).trans e)) hn
  ·exact e
 obtain ⟨g,rfl,hg,_⟩:=h.row_at hm
 refine ⟨g,0,rfl,hg,fun i l hl=>?_⟩
 have hi:i<m:=by have:=(List.getElem?_eq_some_iff.1 hl).1;rwa [eU] at this
 rw [rn hi] at hl
 cases hl
 obtain ⟨g',e,_,hc⟩:=h.row_at hi
 have e':g'=g:=by injection e with e;injection e with e;exact e.symm
 subst e'
 refine ⟨some ⟨bl i,0,none⟩,m,by simpa using hc,fun _=>⟨_,0,rfl,?_,fun j x hx=>?_⟩⟩
 ·obtain ⟨_,l,c2,_⟩:=h.cells i hi
  exact (Array.getElem?_eq_some_iff.1 c2).1
 ·have hj:j<m:=by have:=(List.getElem?_eq_some_iff.1 hx).1;simpa using this
  have hx':x=M i j:=by
   rw [List.getElem?_map,List.getElem?_range hj] at hx
   exact (Option.some.inj hx).symm
  rw [Nat.zero_add,hx']
  exact (h.at_ hi hj).2.2.1
end
end Go.Sq
