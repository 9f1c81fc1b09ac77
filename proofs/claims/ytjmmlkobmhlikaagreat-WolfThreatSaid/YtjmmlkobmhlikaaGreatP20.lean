/- Parts of the proof. -/
import Derived.Test.YtjmmlkobmhlikaaGreatP19
import Derived.Test.YtjmmlkobmhlikaaGreatP15
set_option linter.all false
set_option maxHeartbeats 16000000
set_option maxRecDepth 100000
namespace Go.Proofs.YtjmmlkobmhlikaaGreat
open Go.RowKit Go.Iso Go.Co Go.Conc Go.Sq
attribute [local go_sem] Oper.semAt_some
noncomputable def dB:Code:=Tryz.f24.body.getD .skip
noncomputable def d6:Array Oper:=cOps (aw (ag (ag (ag (ag (ag dB))))))
noncomputable def z6:Code:=ag (ag (ag (ag (ag (ag dB)))))
def pa {W:World}{b i:Nat}{a:Array Value}{u:Value}{t:TypeId}{f:Nat×Nat}(h:W.heap[b]?=some (.cells a t f)):(W.setCell ⟨b,i,none⟩ u).heap[b]?=some (.cells (a.setIfInBounds i u) t f):=by
 unfold World.setCell
 simp only[Array.getElem?_modify,if_true,h]
 rfl
def put_ne {W:World}{b i c:Nat}{u:Value}(h:c≠b):(W.setCell ⟨b,i,none⟩ u).heap[c]?=W.heap[c]?:=by
 unfold World.setCell
 simp only[Array.getElem?_modify]
 rw[if_neg (λe=>h e.symm)]
def pc {W:World}{b i:Nat}{u:Value}:(W.setCell ⟨b,i,none⟩ u).heap.size=W.heap.size:=by
 unfold World.setCell;simp
def pd {W:World}{b:Nat}{l:Array Value}{t:TypeId}(h:W.heap[b]?=some (.cells l t (0,0)))(i:Nat):W.frozen? ⟨b,i,none⟩=false:=by
 unfold World.frozen?
 simp[h]
def qA {BB:FuncId->Bool}(hB:BB 24=true)(hLy:LooksY BB){Q:Goroutine->World->Prop}(hQ:∀g w W,Same w W->Q g w->Q g W){cs:List Frame}(hcs:cs≠[]){bn bo bh:Nat}{w:World}
  (hn:w.heap[bn]?=some (.cells needL.toArray 3 (0,0))) (ho:w.heap[bo]?=some (.cells #[.int .i64 0] 3 (0,0))) (hh:w.heap[bh]?=some (.cells (herdL bo).toArray 53 (0,0)))
  (h:∀(cb sb cap qb xb kb:Nat) (cur:List Value) (t:TypeId) (w':World) (T:Array Value),CampW w' bn bo bh cb sb cap cur t->w'.heap[kb]?=some (keepA false λ_=>0)->(∀p∈bestX xb qb cb,w'.heap[p.1]?=some (.cells p.2.1.toArray p.2.2 (0,0)))->hasB (campO bn bo bh cb sb cap cur t++bestX xb qb cb) kb=false ->
   T.size=27->T.getD 4 undef=.pointer (some ⟨qb,0,none⟩)->T.getD 7 undef=.pointer (some ⟨kb,0,none⟩)->w.heap.size<=w'.heap.size->(∀b,b<w.heap.size->w'.heap[b]?=w.heap[b]?) ->
   KTr Tryz.prog BB Q 0 (bI PP 39 (eArgs cb (.func 48) #[] [Value.pointer (some ⟨kb,0,none⟩),.pointer (some ⟨xb,0,none⟩)].toArray) ((base 24).at ⟨T,[]⟩ [.inRegion d6 [2],.code z6]) cs) w') :
  KTr Tryz.prog BB Q 0 (Go.Conc.G (Frame.enter Tryz.prog 24 #[campV (some ⟨bn,0,none⟩) (some ⟨bh,0,none⟩) wakeCamp 3 3] .normal) cs) w:=by
 rw[enter_at _ Tryz.func24 rfl]
 simp only[Tryz.ntmps24,List.size_toArray,List.length_cons,List.length_nil,Nat.reduceAdd,Nat.reduceSub,Array.replicate_succ,Array.replicate_zero,List.push_toArray,List.append_toArray,List.nil_append,List.cons_append]
 unfold campV
 change KTr Tryz.prog BB Q 0 (G _ cs) w
 have ln:wakeCamp.needs.length=3:=rfl
 have lh:wakeCamp.herders.length=3:=rfl
 rw[ln,lh]
 refine aa hQ hB (by kernel_rfl) λτ d=>?_
 rw[stepG_seq]
 simp only[goes_go]
 refine⟨hcs,w,uj,?_⟩
 refine aa hQ hB (by kernel_rfl) λτ d=>?_
 rw[stepG_region]
 simp only[goes_go,List.size_toArray,List.length_cons,List.length_nil,Nat.reduceAdd,Nat.zero_add,List.range,List.range.loop]
 refine⟨hcs,w,uj,?_⟩
 refine aa hQ hB (by kernel_rfl) λτ d=>?_
 refine goes_oper_k rfl rfl (by decide) (λK hK=>?_)
 have q1:=af
 have q2:=ab
 have q3:=ae
 go_simp
 clear q1 q2 q3
 refine hK _ _ ⟨hcs,w.alloc _,⟨rfl,rfl,rfl⟩,?_⟩
 clear hK K
 try walk_nrm
 try simp only[ab]
 obtain⟨w1,hw1⟩:∃w1,w1=w.alloc (.cells #[.slice (some ⟨bn,0,none⟩) 3 3,.slice (some ⟨bh,0,none⟩) 3 3] 27):=⟨_,rfl⟩
 rw[<-hw1]
 have hz1:w1.heap.size=w.heap.size+1:=by rw[hw1,aA]
 have hob:w1.heap[w.heap.size]?=some (.cells #[.slice (some ⟨bn,0,none⟩) 3 3,.slice (some ⟨bh,0,none⟩) 3 3] 27 (0,0)):=by rw[hw1,ax,if_pos rfl]
 have hold1:∀b,b<w.heap.size->w1.heap[b]?=w.heap[b]?:=λb hb=>by rw[hw1,ax,if_neg (by omega)]
 have hc0:w1.cell? ⟨w.heap.size,0,none⟩=some (.slice (some ⟨bn,0,none⟩) 3 3):=cell_of hob 0
 have hc1:w1.cell? ⟨w.heap.size,1,none⟩=some (.slice (some ⟨bh,0,none⟩) 3 3):=cell_of hob 1
 have lt3:bn<w.heap.size/\bo<w.heap.size/\bh<w.heap.size:=⟨(Array.getElem?_eq_some_iff.1 hn).1,(Array.getElem?_eq_some_iff.1 ho).1,(Array.getElem?_eq_some_iff.1 hh).1⟩
 have hn1:=(hold1 bn lt3.1).trans hn
 have ho1:=(hold1 bo lt3.2.1).trans ho
 have hh1:=(hold1 bh lt3.2.2).trans hh
 clear hw1
 refine aa hQ hB (by kernel_rfl) λτ d=>?_
 refine goes_oper_k rfl rfl (by decide) (λK hK=>?_)
 have q1:=af
 have q2:=ab
 have q3:=ae
 go_simp
 clear q1 q2 q3
 refine hK _ _ ⟨hcs,w1,⟨rfl,rfl,rfl⟩,?_⟩
 clear hK K
 try walk_nrm
 try simp only[ab]
 refine aa hQ hB (by kernel_rfl) λτ d=>?_
 refine goes_oper_k rfl rfl (by decide) (λK hK=>?_)
 have q1:=af
 have q2:=ab
 have q3:=ae
 go_simp
 clear q1 q2 q3
 refine hK _ _ ⟨hcs,w1,⟨rfl,rfl,rfl⟩,?_⟩
 clear hK K
 try walk_nrm
 try simp only[ab]
 refine aa hQ hB (by kernel_rfl) λτ d=>?_
 rw[stepG_region_end]
 simp only[goes_go]
 refine⟨hcs,w1,uj,?_⟩
 refine aa hQ hB (by kernel_rfl) λτ d=>?_
 rw[stepG_seq]
 simp only[goes_go]
 refine⟨hcs,w1,uj,?_⟩
 refine aa hQ hB (by kernel_rfl) λτ d=>?_
 rw[stepG_region]
 simp only[goes_go,List.size_toArray,List.length_cons,List.length_nil,Nat.reduceAdd,Nat.zero_add,List.range,List.range.loop]
 refine⟨hcs,w1,uj,?_⟩
 refine aa hQ hB (by kernel_rfl) λτ d=>?_
 refine goes_oper_k rfl rfl (by decide) (λK hK=>?_)
 have q1:=af
 have q2:=ab
 have q3:=ae
 go_simp
 clear q1 q2 q3
 refine hK _ _ ⟨hcs,w1,⟨rfl,rfl,rfl⟩,?_⟩
 clear hK K
 try walk_nrm
 try simp only[ab]
 refine aa hQ hB (by kernel_rfl) λτ d=>?_
 refine ay rfl rfl (by decide) rfl Tryz.func31 (by kernel_rfl) (by kernel_rfl) ⟨hcsM _ _,w1,uj,?_⟩
 try walk_nrm
 refine(du (H:=uk) hLy).fn (f:=31) (by decide) (by decide) (K0:=λb=>b=bn\/b=bo\/b=bh) hcs (λ_ _=>Nat.zero_le _) (Nat.zero_le _) (oY bn bo bh) (λb _ hb=>by cases hb) (λb hb=>by cases hb)
  (λb hb _=>qY hn1 ho1 hh1 b hb) hQ (R:=kR bn bo bh w1) (mp hn1 ho1 hh1) ?_
 rintro v w2 ⟨cb,sb,cap,cur,t,rfl,hcb,hsb,hcw,hz2,hold2⟩
 change KTr Tryz.prog BB Q 0 _ w2
 rw[Frame.finish_at]
 simp only[List.getElem?_toArray,List.getElem?_cons_succ,List.getElem?_cons_zero,Option.bind_some]
 try walk_nrm
 refine aa hQ hB (by kernel_rfl) λτ d=>?_
 refine goes_oper_k rfl rfl (by decide) (λK hK=>?_)
 have q1:=af
 have q2:=ab
 have q3:=ae
 go_simp
 clear q1 q2 q3
 refine hK _ _ ⟨hcs,w2,⟨rfl,rfl,rfl⟩,?_⟩
 clear hK K
 try walk_nrm
 try simp only[ab]
 refine aa hQ hB (by kernel_rfl) λτ d=>?_
 refine goes_oper_k rfl rfl (by decide) (λK hK=>?_)
 have q1:=af
 have q2:=ab
 have q3:=ae
 go_simp
 clear q1 q2 q3
 refine hK _ _ ⟨hcs,w2,⟨rfl,rfl,rfl⟩,?_⟩
 clear hK K
 try walk_nrm
 try simp only[ab]
 refine aa hQ hB (by kernel_rfl) λτ d=>?_
 refine goes_oper_k rfl rfl (by decide) (λK hK=>?_)
 have q1:=af
 have q2:=ab
 have q3:=ae
 go_simp
 clear q1 q2 q3
 refine hK _ _ ⟨hcs,w2,⟨rfl,rfl,rfl⟩,?_⟩
 clear hK K
 try walk_nrm
 try simp only[ab]
 refine aa hQ hB (by kernel_rfl) λτ d=>?_
 refine goes_oper_k rfl rfl (by decide) (λK hK=>?_)
 have q1:=af
 have q2:=ab
 have q3:=ae
 go_simp
 clear q1 q2 q3
 refine hK _ _ ⟨hcs,w2.alloc _,⟨rfl,rfl,rfl⟩,?_⟩
 clear hK K
 try walk_nrm
 try simp only[ab]
 obtain⟨w3,hw3⟩:∃w3,w3=w2.alloc (.cells #[.pointer none] 57):=⟨_,rfl⟩
 change KTr Tryz.prog BB Q 0 _ (w2.alloc (.cells #[.pointer none] 57))
 rw[<-hw3]
 have szw3:=ui (show w3.heap.size=w2.heap.size+1 by rw[hw3,aA])
 have oldw3:∀b,b<w2.heap.size->w3.heap[b]?=w2.heap[b]?:=λb hb=>by rw[hw3,ax,if_neg (by omega)]
 have neww3:w3.heap[w2.heap.size]?=some (.cells #[.pointer none] 57):=by rw[hw3,ax,if_pos rfl]
 clear hw3
 refine aa hQ hB (by kernel_rfl) λτ d=>?_
 refine goes_oper_k rfl rfl (by decide) (λK hK=>?_)
 have q1:=af
 have q2:=ab
 have q3:=ae
 have z1:=cell_of neww3 0
 have z2:=pd neww3 0
 go_simp
 clear q1 q2 q3
 refine hK _ _ ⟨hcs,w3.setCell _ _,⟨rfl,rfl,rfl⟩,?_⟩
 clear hK K
 try walk_nrm
 try simp only[ab]
 obtain⟨w4,hw4⟩:∃w4,w4=w3.setCell ⟨w2.heap.size,0,none⟩ (.pointer (some ⟨cb,0,none⟩)):=⟨_,rfl⟩
 change KTr Tryz.prog BB Q 0 _ (w3.setCell ⟨w2.heap.size,0,none⟩ (.pointer (some ⟨cb,0,none⟩)))
 rw[<-hw4]
 have szw4:=ui (show w4.heap.size=w3.heap.size by rw[hw4,pc])
 have oldw4:∀b,b≠w2.heap.size->w4.heap[b]?=w3.heap[b]?:=λb hb=>by rw[hw4,put_ne hb]
 have neww4:=pa (i:=0) (u:=.pointer (some ⟨cb,0,none⟩)) neww3
 rw[<-hw4] at neww4
 clear hw4
 refine aa hQ hB (by kernel_rfl) λτ d=>?_
 refine goes_oper_k rfl rfl (by decide) (λK hK=>?_)
 have q1:=af
 have q2:=ab
 have q3:=ae
 go_simp
 clear q1 q2 q3
 refine hK _ _ ⟨hcs,w4,⟨rfl,rfl,rfl⟩,?_⟩
 clear hK K
 try walk_nrm
 try simp only[ab]
 refine aa hQ hB (by kernel_rfl) λτ d=>?_
 rw[stepG_region_end]
 simp only[goes_go]
 refine⟨hcs,w4,uj,?_⟩
 refine aa hQ hB (by kernel_rfl) λτ d=>?_
 rw[stepG_seq]
 simp only[goes_go]
 refine⟨hcs,w4,uj,?_⟩
 refine aa hQ hB (by kernel_rfl) λτ d=>?_
 rw[stepG_seq]
 simp only[goes_go]
 refine⟨hcs,w4,uj,?_⟩
 refine aa hQ hB (by kernel_rfl) λτ d=>?_
 rw[stepG_region]
 simp only[goes_go,List.size_toArray,List.length_cons,List.length_nil,Nat.reduceAdd,Nat.zero_add,List.range,List.range.loop]
 refine⟨hcs,w4,uj,?_⟩
 refine aa hQ hB (by kernel_rfl) λτ d=>?_
 refine goes_oper_k rfl rfl (by decide) (λK hK=>?_)
 have q1:=af
 have q2:=ab
 have q3:=ae
 go_simp
 clear q1 q2 q3
 refine hK _ _ ⟨hcs,w4,⟨rfl,rfl,rfl⟩,?_⟩
 clear hK K
 try walk_nrm
 try simp only[ab]
 refine aa hQ hB (by kernel_rfl) λτ d=>?_
 refine goes_oper_k rfl rfl (by decide) (λK hK=>?_)
 have q1:=af
 have q2:=ab
 have q3:=ae
 go_simp
 clear q1 q2 q3
 refine hK _ _ ⟨hcs,w4,⟨rfl,rfl,rfl⟩,?_⟩
 clear hK K
 try walk_nrm
 try simp only[ab]
 refine aa hQ hB (by kernel_rfl) λτ d=>?_
 rw[stepG_region_end]
 simp only[goes_go]
 refine⟨hcs,w4,uj,?_⟩
 refine aa hQ hB (by kernel_rfl) λτ d=>?_
 rw[stepG_cond (t:=false) rfl]
 simp only[goes_go,if_true,if_false,Bool.false_eq_true,↓reduceIte]
 refine⟨hcs,w4,uj,?_⟩
 refine aa hQ hB (by kernel_rfl) λτ d=>?_
 rw[stepG_skip]
 simp only[goes_go]
 refine⟨hcs,w4,uj,?_⟩
 refine aa hQ hB (by kernel_rfl) λτ d=>?_
 rw[stepG_seq]
 simp only[goes_go]
 refine⟨hcs,w4,uj,?_⟩
 refine aa hQ hB (by kernel_rfl) λτ d=>?_
 rw[stepG_region]
 simp only[goes_go,List.size_toArray,List.length_cons,List.length_nil,Nat.reduceAdd,Nat.zero_add,List.range,List.range.loop]
 refine⟨hcs,w4,uj,?_⟩
 refine aa hQ hB (by kernel_rfl) λτ d=>?_
 refine goes_oper_k rfl rfl (by decide) (λK hK=>?_)
 have q1:=af
 have q2:=ab
 have q3:=ae
 go_simp
 clear q1 q2 q3
 refine hK _ _ ⟨hcs,w4,⟨rfl,rfl,rfl⟩,?_⟩
 clear hK K
 try walk_nrm
 try simp only[ab]
 refine aa hQ hB (by kernel_rfl) λτ d=>?_
 refine goes_oper_k rfl rfl (by decide) (λK hK=>?_)
 have q1:=af
 have q2:=ab
 have q3:=ae
 go_simp
 clear q1 q2 q3
 refine hK _ _ ⟨hcs,w4.alloc _,⟨rfl,rfl,rfl⟩,?_⟩
 clear hK K
 try walk_nrm
 try simp only[ab]
 obtain⟨w5,hw5⟩:∃w5,w5=w4.alloc (.cells #[.nilFunc] 107):=⟨_,rfl⟩
 change KTr Tryz.prog BB Q 0 _ (w4.alloc (.cells #[.nilFunc] 107))
 rw[<-hw5]
 have szw5:=ui (show w5.heap.size=w4.heap.size+1 by rw[hw5,aA])
 have oldw5:∀b,b<w4.heap.size->w5.heap[b]?=w4.heap[b]?:=λb hb=>by rw[hw5,ax,if_neg (by omega)]
 have neww5:w5.heap[w4.heap.size]?=some (.cells #[.nilFunc] 107):=by rw[hw5,ax,if_pos rfl]
 clear hw5
 refine aa hQ hB (by kernel_rfl) λτ d=>?_
 refine goes_oper_k rfl rfl (by decide) (λK hK=>?_)
 have q1:=af
 have q2:=ab
 have q3:=ae
 have z1:=cell_of neww5 0
 have z2:=pd neww5 0
 go_simp
 clear q1 q2 q3
 refine hK _ _ ⟨hcs,w5.setCell _ _,⟨rfl,rfl,rfl⟩,?_⟩
 clear hK K
 try walk_nrm
 try simp only[ab]
 obtain⟨w6,hw6⟩:∃w6,w6=w5.setCell ⟨w4.heap.size,0,none⟩ (.func (.func 43) #[] #[.pointer (some ⟨w2.heap.size,0,none⟩)]):=⟨_,rfl⟩
 change KTr Tryz.prog BB Q 0 _ (w5.setCell ⟨w4.heap.size,0,none⟩ (.func (.func 43) #[] #[.pointer (some ⟨w2.heap.size,0,none⟩)]))
 rw[<-hw6]
 have szw6:=ui (show w6.heap.size=w5.heap.size by rw[hw6,pc])
 have oldw6:∀b,b≠w4.heap.size->w6.heap[b]?=w5.heap[b]?:=λb hb=>by rw[hw6,put_ne hb]
 have neww6:=pa (i:=0) (u:=.func (.func 43) #[] #[.pointer (some ⟨w2.heap.size,0,none⟩)]) neww5
 rw[<-hw6] at neww6
 clear hw6
 refine aa hQ hB (by kernel_rfl) λτ d=>?_
 rw[stepG_region_end]
 simp only[goes_go]
 refine⟨hcs,w6,uj,?_⟩
 refine aa hQ hB (by kernel_rfl) λτ d=>?_
 rw[stepG_seq]
 simp only[goes_go]
 refine⟨hcs,w6,uj,?_⟩
 refine aa hQ hB (by kernel_rfl) λτ d=>?_
 rw[stepG_region]
 simp only[goes_go,List.size_toArray,List.length_cons,List.length_nil,Nat.reduceAdd,Nat.zero_add,List.range,List.range.loop]
 refine⟨hcs,w6,uj,?_⟩
 refine aa hQ hB (by kernel_rfl) λτ d=>?_
 refine goes_oper_k rfl rfl (by decide) (λK hK=>?_)
 have q1:=af
 have q2:=ab
 have q3:=ae
 go_simp
 clear q1 q2 q3
 refine hK _ _ ⟨hcs,w6.alloc _,⟨rfl,rfl,rfl⟩,?_⟩
 clear hK K
 try walk_nrm
 try simp only[ab]
 obtain⟨w7,hw7⟩:∃w7,w7=w6.alloc (keepA false λ_=>0):=⟨_,rfl⟩
 change KTr Tryz.prog BB Q 0 _ (w6.alloc (keepA false λ_=>0))
 rw[<-hw7]
 have szw7:=ui (show w7.heap.size=w6.heap.size+1 by rw[hw7,aA])
 have oldw7:∀b,b<w6.heap.size->w7.heap[b]?=w6.heap[b]?:=λb hb=>by rw[hw7,ax,if_neg (by omega)]
 have neww7:w7.heap[w6.heap.size]?=some (keepA false λ_=>0):=by rw[hw7,ax,if_pos rfl]
 clear hw7
 refine aa hQ hB (by kernel_rfl) λτ d=>?_
 rw[stepG_region_end]
 simp only[goes_go]
 refine⟨hcs,w7,uj,?_⟩
 refine aa hQ hB (by kernel_rfl) λτ d=>?_
 rw[stepG_seq]
 simp only[goes_go]
 refine⟨hcs,w7,uj,?_⟩
 refine aa hQ hB (by kernel_rfl) λτ d=>?_
 rw[stepG_region]
 simp only[goes_go,List.size_toArray,List.length_cons,List.length_nil,Nat.reduceAdd,Nat.zero_add,List.range,List.range.loop]
 refine⟨hcs,w7,uj,?_⟩
 have syw3:=szw3.out
 have syw4:=szw4.out
 have syw5:=szw5.out
 have syw6:=szw6.out
 have syw7:=szw7.out
 have hq7:w7.heap[w2.heap.size]?=some (.cells #[.pointer (some ⟨cb,0,none⟩)] 57 (0,0)):=(oldw7 _ (by omega)).trans ((oldw6 _ (by omega)).trans ((oldw5 _ (by omega)).trans neww4))
 have hx7:w7.heap[w4.heap.size]?=some (.cells #[.func (.func 43) #[] #[.pointer (some ⟨w2.heap.size,0,none⟩)]] 107 (0,0)):=(oldw7 _ (by omega)).trans neww6
 have all7:∀b,b<w2.heap.size->w7.heap[b]?=w2.heap[b]?:=λb hb=>(oldw7 _ (by omega)).trans ((oldw6 _ (by omega)).trans ((oldw5 _ (by omega)).trans ((oldw4 _ (by omega)).trans (oldw3 _ hb))))
 clear syw3 syw4 syw5 syw6 syw7
 refine aa hQ hB (by kernel_rfl) λτ d=>?_
 refine goes_oper_k rfl rfl (by decide) (λK hK=>?_)
 have q1:=af
 have q2:=ab
 have q3:=ae
 have z1:=cell_of hq7 0
 go_simp
 clear q1 q2 q3
 refine hK _ _ ⟨hcs,w7,⟨rfl,rfl,rfl⟩,?_⟩
 clear hK K
 try walk_nrm
 try simp only[ab]
 refine aa hQ hB (by kernel_rfl) λτ d=>?_
 refine goes_oper_k rfl rfl (by decide) (λK hK=>?_)
 have q1:=af
 have q2:=ab
 have q3:=ae
 go_simp
 clear q1 q2 q3
 refine hK _ _ ⟨hcs,w7,⟨rfl,rfl,rfl⟩,?_⟩
 clear hK K
 try walk_nrm
 try simp only[ab]
 refine aa hQ hB (by kernel_rfl) λτ d=>?_
 refine ay rfl rfl (by decide) rfl Tryz.func39 (by kernel_rfl) (by kernel_rfl) ⟨hcsM _ _,w7,uj,?_⟩
 try walk_nrm
 have syw3:=szw3.out
 have syw4:=szw4.out
 have syw5:=szw5.out
 have syw6:=szw6.out
 have syw7:=szw7.out
 refine h cb sb cap w2.heap.size w4.heap.size w6.heap.size cur t w7 _ (hcw.keep λb hb=>all7 b (hcw.lt hb)) neww7 (λp hp=>?_) ?_ rfl rfl rfl (by omega) λb hb=>(all7 b (by omega)).trans ((hold2 b (by omega)).trans (hold1 b hb))
 ·simp only[bestX,List.mem_cons,List.not_mem_nil,or_false] at hp
  rcases hp with rfl|rfl
  ·exact hx7
  ·exact hq7
 ·cases hq:hasB (campO bn bo bh cb sb cap cur t++bestX w4.heap.size w2.heap.size cb) w6.heap.size with
  |false=>rfl
  |true =>
   exfalso
   rw[aT,Bool.or_eq_true] at hq
   rcases hq with hq|hq
   ·have:=hcw.lt hq;omega
   ·simp[hasB,bestX] at hq;omega
def arr27 {T:Array Value}(h:T.size=27):∃y0 y1 y2 y3 y4 y5 y6 y7 y8 y9 y10 y11 y12 y13 y14 y15 y16 y17 y18 y19 y20 y21 y22 y23 y24 y25 y26:Value,T=#[y0,y1,y2,y3,y4,y5,y6,y7,y8,y9,y10,y11,y12,y13,y14,y15,y16,y17,y18,y19,y20,y21,y22,y23,y24,y25,y26]:=by
 obtain⟨l⟩:=T
 have h:l.length=27:=h
 match l,h with
 |[y0,y1,y2,y3,y4,y5,y6,y7,y8,y9,y10,y11,y12,y13,y14,y15,y16,y17,y18,y19,y20,y21,y22,y23,y24,y25,y26],_=>exact⟨y0,y1,y2,y3,y4,y5,y6,y7,y8,y9,y10,y11,y12,y13,y14,y15,y16,y17,y18,y19,y20,y21,y22,y23,y24,y25,y26,rfl⟩
def pf {BB:FuncId->Bool}(hB:BB 24=true)(hLy:LooksY BB){Q:Goroutine->World->Prop}(hQ:∀g w W,Same w W->Q g w->Q g W){b0:Frame}{a0:Act}{ops:Array Oper}{i:Nat}{rest:List Nat}{k:List Item}{cs:List Frame}(hcs:cs≠[])
  {bn bo bh cb sb cap qb kb:Nat} {cur:List Value} {t:TypeId} {ρ:Ros} (hρ:∀i,i<5->ρ i<16) {w:World} (hC:CampW w bn bo bh cb sb cap cur t) (hk:w.heap[kb]?=some (keepA true ρ)) (hq:w.heap[qb]?=some (.cells #[.pointer (some ⟨cb,0,none⟩)] 57 (0,0)))
  {T:Array Value} (hT:T.size=27) (h4:T.getD 4 undef=.pointer (some ⟨qb,0,none⟩)) (h7:T.getD 7 undef=.pointer (some ⟨kb,0,none⟩))
  (h:∀(A:Option Addr) (c:Nat) (xs:List Value) (w':World) (K':Nat->Prop),OwnGrid w' (w.heap.size+1) (.slice A 3 c) (aQ ρ 3) xs->w.heap.size<=w'.heap.size->(∀b,b<w.heap.size->w'.heap[b]?=w.heap[b]?)->VRel (SP SBy uk) (idOn K') (.slice A 3 c) (.slice A 3 c) ->
   (∀b,K' b->∃o,w'.heap[b]?=some o/\ORel (SP SBy uk) (CK uZ SBy false) (idOn K') o o)->KTr Tryz.prog BB Q 0 (Go.Conc.G (b0.at (a0.put ((ops[i]?).bind (·.dst)) (.tuple #[.slice A 3 c,.int .i64 0])) (.inRegion ops rest::k)) cs) w') :
  KTr Tryz.prog BB Q 0 (back ((base 24).at ⟨T,[]⟩ [.inRegion d6 [2],.code z6]) (b0.at a0 (.inRegion ops (i::rest)::k)::cs)) w:=by
 obtain⟨y0,y1,y2,y3,y4,y5,y6,y7,y8,y9,y10,y11,y12,y13,y14,y15,y16,y17,y18,y19,y20,y21,y22,y23,y24,y25,y26,rfl⟩:=arr27 hT
 have h4:y4=.pointer (some ⟨qb,0,none⟩):=h4
 have h7:y7=.pointer (some ⟨kb,0,none⟩):=h7
 subst h4 h7
 unfold back
 rw[Frame.finish_at]
 change KTr Tryz.prog BB Q 0 (G _ _) w
 have e19:(d6[2]?.bind (·.dst))=some 19:=rfl
 rw[e19]
 try walk_nrm
 have k2:=cell_of hk 2
 have k3:=cell_of hk 3
 have k4:=cell_of hk 4
 have k5:=cell_of hk 5
 have k6:=cell_of hk 6
 have k7:=cell_of hk 7
 have kq:=cell_of hq 0
 simp only[keepO,List.getElem?_toArray,List.getElem?_cons_succ,List.getElem?_cons_zero] at k2 k3 k4 k5 k6 k7 kq
 refine aa hQ hB (by kernel_rfl) λτ d=>?_
 rw[stepG_region_end]
 simp only[goes_go]
 refine⟨(hcsM _ _),w,uj,?_⟩
 have ez6:z6=ag (ag (ag (ag (ag (ag dB))))):=rfl
 simp only[dB,Tryz.f24,Option.getD_some,ag] at ez6
 rw[ez6]
 clear ez6
 refine aa hQ hB (by kernel_rfl) λτ d=>?_
 rw[stepG_seq]
 simp only[goes_go]
 refine⟨(hcsM _ _),w,uj,?_⟩
 refine aa hQ hB (by kernel_rfl) λτ d=>?_
 rw[stepG_seq]
 simp only[goes_go]
 refine⟨(hcsM _ _),w,uj,?_⟩
 refine aa hQ hB (by kernel_rfl) λτ d=>?_
 rw[stepG_region]
 simp only[goes_go,List.size_toArray,List.length_cons,List.length_nil,Nat.reduceAdd,Nat.zero_add,List.range,List.range.loop]
 refine⟨(hcsM _ _),w,uj,?_⟩
 refine aa hQ hB (by kernel_rfl) λτ d=>?_
 refine goes_oper_k rfl rfl (by decide) (λK hK=>?_)
 have q1:=af
 have q2:=ab
 have q3:=ae
 go_simp
 clear q1 q2 q3
 refine hK _ _ ⟨(hcsM _ _),w,⟨rfl,rfl,rfl⟩,?_⟩
 clear hK K
 try walk_nrm
 try simp only[ab]
 refine aa hQ hB (by kernel_rfl) λτ d=>?_
 refine goes_oper_k rfl rfl (by decide) (λK hK=>?_)
 have q1:=af
 have q2:=ab
 have q3:=ae
 go_simp
 clear q1 q2 q3
 refine hK _ _ ⟨(hcsM _ _),w,⟨rfl,rfl,rfl⟩,?_⟩
 clear hK K
 try walk_nrm
 try simp only[ab]
 refine aa hQ hB (by kernel_rfl) λτ d=>?_
 refine goes_oper_k rfl rfl (by decide) (λK hK=>?_)
 have q1:=af
 have q2:=ab
 have q3:=ae
 go_simp
 clear q1 q2 q3
 refine hK _ _ ⟨(hcsM _ _),w,⟨rfl,rfl,rfl⟩,?_⟩
 clear hK K
 try walk_nrm
 try simp only[ab]
 refine aa hQ hB (by kernel_rfl) λτ d=>?_
 rw[stepG_region_end]
 simp only[goes_go]
 refine⟨(hcsM _ _),w,uj,?_⟩
 refine aa hQ hB (by kernel_rfl) λτ d=>?_
 rw[stepG_cond (t:=false) rfl]
 simp only[goes_go,if_true,if_false,Bool.false_eq_true,↓reduceIte]
 refine⟨(hcsM _ _),w,uj,?_⟩
 refine aa hQ hB (by kernel_rfl) λτ d=>?_
 rw[stepG_skip]
 simp only[goes_go]
 refine⟨(hcsM _ _),w,uj,?_⟩
 refine aa hQ hB (by kernel_rfl) λτ d=>?_
 rw[stepG_seq]
 simp only[goes_go]
 refine⟨(hcsM _ _),w,uj,?_⟩
 refine aa hQ hB (by kernel_rfl) λτ d=>?_
 rw[stepG_region]
 simp only[goes_go,List.size_toArray,List.length_cons,List.length_nil,Nat.reduceAdd,Nat.zero_add,List.range,List.range.loop]
 refine⟨(hcsM _ _),w,uj,?_⟩
 refine aa hQ hB (by kernel_rfl) λτ d=>?_
 refine goes_oper_k rfl rfl (by decide) (λK hK=>?_)
 have q1:=af
 have q2:=ab
 have q3:=ae
 go_simp
 clear q1 q2 q3
 refine hK _ _ ⟨(hcsM _ _),w,⟨rfl,rfl,rfl⟩,?_⟩
 clear hK K
 try walk_nrm
 try simp only[ab]
 refine aa hQ hB (by kernel_rfl) λτ d=>?_
 refine goes_oper_k rfl rfl (by decide) (λK hK=>?_)
 have q1:=af
 have q2:=ab
 have q3:=ae
 go_simp
 clear q1 q2 q3
 refine hK _ _ ⟨(hcsM _ _),w,⟨rfl,rfl,rfl⟩,?_⟩
 clear hK K
 try walk_nrm
 try simp only[ab]
 refine aa hQ hB (by kernel_rfl) λτ d=>?_
 refine goes_oper_k rfl rfl (by decide) (λK hK=>?_)
 have q1:=af
 have q2:=ab
 have q3:=ae
 go_simp
 clear q1 q2 q3
 refine hK _ _ ⟨(hcsM _ _),w,⟨rfl,rfl,rfl⟩,?_⟩
 clear hK K
 try walk_nrm
 try simp only[ab]
 refine aa hQ hB (by kernel_rfl) λτ d=>?_
 refine ay rfl rfl (by decide) rfl Tryz.func50 (by kernel_rfl) (by kernel_rfl) ⟨hcsM _ _,w,uj,?_⟩
 try walk_nrm
 have hc0:w.cell? ⟨cb,0,none⟩=some (.slice (some ⟨bn,0,none⟩) 3 3):=cell_of (hC.obj (cb,ownL bn bh sb cap,138) (by simp[campO])) 0
 have lcb:cb<w.heap.size:=hC.lt ((camp_has _).2 (by simp))
 refine(du (H:=uk) hLy).fnK (f:=50) (by decide) (by decide) (K0:=λb=>hasB (campO bn bo bh cb sb cap cur t) b=true) (hcsM _ _) (λ_ _=>Nat.zero_le _) (Nat.zero_le _) (allIn (l:=[.pointer (some ⟨cb,0,none⟩),rosV ρ]) λv hv=>?_) (λb _ hb=>by cases hb) (λb hb=>by cases hb)
  (λb hb _=>?_) hQ (R:=λv w'=>∃A c xs,v=.slice A 3 c/\OwnGrid w' (w.heap.size+1) (.slice A 3 c) (aQ ρ 3) xs/\w.heap.size<=w'.heap.size/\∀b,b<w.heap.size->w'.heap[b]?=w.heap[b]?) (λτ d=>(mj cb (some ⟨bn,0,none⟩) 3 3 ρ (on w τ d) lcb hc0 (by decide) hρ).mono ?_) ?_
 ·simp only[List.mem_cons,List.not_mem_nil,or_false] at hv
  rcases hv with rfl|rfl
  ·exact InK.ptr (K:=λb=>hasB (campO bn bo bh cb sb cap cur t) b=true) ((camp_has cb).2 (by simp)) _ _
  ·refine InK.agg (l:=[.int .u8 (ρ 0),.int .u8 (ρ 1),.int .u8 (ρ 2),.int .u8 (ρ 3),.int .u8 (ρ 4)]) λv hv=>?_
   simp only[List.mem_cons,List.not_mem_nil,or_false] at hv
   rcases hv with rfl|rfl|rfl|rfl|rfl<;>exact VRel.int _ _
 ·obtain⟨p,hp,rfl⟩:=hasB_of hb
  exact⟨_,hC.obj p hp,.cells (allIn λv hv=>fl hC.flat p hp v hv SBy uk) λi z1 z2=>⟨z1,z2⟩⟩
 ·rintro e w9 ⟨A,c,xs,rfl,ho,hg⟩
  exact⟨_,rfl,A,c,xs,rfl,ho,hg.size,λb hb=>hg.below.block b hb⟩
 rintro v w2 K' ⟨A,c,xs,rfl,ho,hz,hold⟩ hv _ hobj
 change KTr Tryz.prog BB Q 0 _ w2
 rw[Frame.finish_at]
 simp only[List.getElem?_toArray,List.getElem?_cons_succ,List.getElem?_cons_zero,Option.bind_some]
 try walk_nrm
 refine aa hQ hB (by kernel_rfl) λτ d=>?_
 refine goes_oper_k rfl rfl (by decide) (λK hK=>?_)
 have q1:=af
 have q2:=ab
 have q3:=ae
 go_simp
 clear q1 q2 q3
 refine hK _ _ ⟨(hcsM _ _),w2,⟨rfl,rfl,rfl⟩,?_⟩
 clear hK K
 try walk_nrm
 try simp only[ab]
 refine aa hQ hB (by kernel_rfl) λτ d=>?_
 refine goes_oper_k rfl rfl (by decide) (λK hK=>?_)
 have q1:=af
 have q2:=ab
 have q3:=ae
 go_simp
 clear q1 q2 q3
 refine hK _ _ ⟨(hcsM _ _),w2,⟨rfl,rfl,rfl⟩,?_⟩
 clear hK K
 try walk_nrm
 try simp only[ab]
 refine aa hQ hB (by kernel_rfl) λτ d=>?_
 rw[stepG_region_end]
 simp only[goes_go]
 refine⟨(hcsM _ _),w2,uj,?_⟩
 refine aa hQ hB (by kernel_rfl) λτ d=>?_
 rw[stepG_ret']
 simp only[goes_go]
 refine⟨(hcsM _ _),w2,uj,?_⟩
 refine db hQ hB (by kernel_rfl) λτ d=>?_
 refine goes_leave2 rfl rfl Tryz.func24 rfl ⟨hcs,w2,uj,?_⟩
 exact h A c xs w2 K' ho hz hold hv λb hb=>hobj b hb rfl
open Go.RowKit Go.Iso Go.Co Go.Conc Go.Sq
attribute [local go_sem] Oper.semAt_some
noncomputable def wB:Code:=Tryz.f13.body.getD .skip
noncomputable def e1:Array Oper:=cOps (aw (ag wB))
noncomputable def e2:Array Oper:=cOps (aw (ag (ag wB)))
noncomputable def pg:Code:=ag (ag wB)
noncomputable def zw3:Code:=ag (ag (ag wB))
def CampedW (bn:Nat)(w1:World)(v:Value)(w':World):Prop:=∃bo bh:Nat,v=campV (some ⟨bn,0,none⟩) (some ⟨bh,0,none⟩) wakeCamp 3 3/\w'.heap[bo]?=some (.cells #[.int .i64 0] 3 (0,0))/\w'.heap[bh]?=some (.cells (herdL bo).toArray 53 (0,0))/\w1.heap.size<=w'.heap.size/\∀b,b<w1.heap.size->w'.heap[b]?=w1.heap[b]?
def camped_w {bn:Nat}{w:World}(τ:Tape)(d:Nat):Calls uZ 23 #[.slice (some ⟨bn,0,none⟩) 3 3] (on w τ d) (λe w'=>∃v,e=.returned v/\CampedW bn w v w'):=by
 refine(oT (some ⟨bn,0,none⟩) 3 [3,2,4] (on w τ d)).mono ?_
 rintro e w' ⟨hA,rfl,_,hg,rfl,h1,h2⟩
 exact⟨_,rfl,_,_,rfl,h1,by simpa [herdL] using h2,hg.size,λb hb=>hg.below.block b hb⟩
def needObj {bn:Nat}{w:World}{SB:FuncId->Bool}(hn:w.heap[bn]?=some (.cells needL.toArray 3 (0,0))):∀b,b=bn->∃o,w.heap[b]?=some o/\ORel (SP SB uk) (CK uZ SB false) (idOn λb=>b=bn) o o:=by
 rintro b rfl
 refine⟨_,hn,.cells (allIn λv hv=>?_) λi h1 h2=>⟨h1,h2⟩⟩
 simp only[needL,List.mem_cons,List.not_mem_nil,or_false] at hv
 rcases hv with rfl|rfl|rfl<;>exact VRel.int _ _
def rU {BB:FuncId->Bool}(hB:BB 13=true)(hB13:BB 22=true)(hLy:LooksY BB){Q:Goroutine->World->Prop}(hQ:∀g w W,Same w W->Q g w->Q g W){cs:List Frame}(hcs:cs≠[]){w:World}
  (h:∀(bn bo bh cb sb cap nb:Nat) (cur:List Value) (t:TypeId) (w':World) (T U:Array Value),CampW w' bn bo bh cb sb cap cur t->w'.heap[nb]?=some (cntO 0)->hasB (campO bn bo bh cb sb cap cur t) nb=false->T.size=19->T.getD 6 undef=.pointer (some ⟨nb,0,none⟩) ->
   U.size=95->(∀v∈U.toList,∀(SB:FuncId->Bool) (H:Hid),InK SB H (λb=>hasB (campO bn bo bh cb sb cap cur t) b=true) v)->w.heap.size<=w'.heap.size->(∀b,b<w.heap.size->w'.heap[b]?=w.heap[b]?) ->
   KTr Tryz.prog BB Q 0 (bI PP 39 (eArgs cb (.func 40) #[] [Value.pointer (some ⟨nb,0,none⟩)].toArray) ((base 22).at ⟨T,[]⟩ [.inRegion c5 [2],.code x5]) ((base 13).at ⟨U,[]⟩ [.inRegion e1 [2,3,4,5,6,7],.code pg]::cs)) w') :
  KTr Tryz.prog BB Q 0 (Go.Conc.G (Frame.enter Tryz.prog 13 #[] .normal) cs) w:=by
 rw[enter_at _ Tryz.func13 rfl]
 simp only[Tryz.ntmps13,List.size_toArray,List.length_cons,List.length_nil,Nat.reduceAdd,Nat.reduceSub,Array.replicate_succ,Array.replicate_zero,List.push_toArray,List.append_toArray,List.nil_append,List.cons_append]
 change KTr Tryz.prog BB Q 0 (G _ cs) w
 refine aa hQ hB (by kernel_rfl) λτ d=>?_
 rw[stepG_seq]
 simp only[goes_go]
 refine⟨hcs,w,uj,?_⟩
 refine aa hQ hB (by kernel_rfl) λτ d=>?_
 rw[stepG_region]
 simp only[goes_go,List.size_toArray,List.length_cons,List.length_nil,Nat.reduceAdd,Nat.zero_add,List.range,List.range.loop]
 refine⟨hcs,w,uj,?_⟩
 refine aa hQ hB (by kernel_rfl) λτ d=>?_
 refine goes_oper_k rfl rfl (by decide) (λK hK=>?_)
 have q1:=af
 have q2:=ab
 have q3:=ae
 go_simp
 clear q1 q2 q3
 refine hK _ _ ⟨hcs,w,⟨rfl,rfl,rfl⟩,?_⟩
 clear hK K
 try walk_nrm
 try simp only[ab]
 refine aa hQ hB (by kernel_rfl) λτ d=>?_
 rw[stepG_region_end]
 simp only[goes_go]
 refine⟨hcs,w,uj,?_⟩
 refine aa hQ hB (by kernel_rfl) λτ d=>?_
 rw[stepG_seq]
 simp only[goes_go]
 refine⟨hcs,w,uj,?_⟩
 refine aa hQ hB (by kernel_rfl) λτ d=>?_
 rw[stepG_region]
 simp only[goes_go,List.size_toArray,List.length_cons,List.length_nil,Nat.reduceAdd,Nat.zero_add,List.range,List.range.loop]
 refine⟨hcs,w,uj,?_⟩
 refine aa hQ hB (by kernel_rfl) λτ d=>?_
 refine goes_oper_k rfl rfl (by decide) (λK hK=>?_)
 have q1:=af
 have q2:=ab
 have q3:=ae
 go_simp
 clear q1 q2 q3
 refine hK _ _ ⟨hcs,w.alloc _,⟨rfl,rfl,rfl⟩,?_⟩
 clear hK K
 try walk_nrm
 try simp only[ab]
 obtain⟨w1,hw1⟩:∃w1,w1=w.alloc (.cells needL.toArray 3):=⟨_,rfl⟩
 change KTr Tryz.prog BB Q 0 _ (w.alloc (.cells needL.toArray 3))
 rw[<-hw1]
 have szw1:=ui (show w1.heap.size=w.heap.size+1 by rw[hw1,aA])
 have oldw1:=ui (show ∀b,b<w.heap.size->w1.heap[b]?=w.heap[b]? from λb hb=>by rw[hw1,ax,if_neg (by omega)])
 have neww1:w1.heap[w.heap.size]?=some (.cells needL.toArray 3 (0,0)):=by rw[hw1,ax,if_pos rfl]
 clear hw1
 refine aa hQ hB (by kernel_rfl) λτ d=>?_
 refine ay rfl rfl (by decide) rfl Tryz.func23 (by kernel_rfl) (by kernel_rfl) ⟨hcsM _ _,w1,uj,?_⟩
 try walk_nrm
 refine(du (H:=uk) hLy).fn (f:=23) (by decide) (by decide) (K0:=λb=>b=w.heap.size) hcs (λ_ _=>Nat.zero_le _) (Nat.zero_le _) (allIn (l:=[.slice (some ⟨w.heap.size,0,none⟩) 3 3]) λv hv=>?_) (λb _ hb=>by cases hb) (λb hb=>by cases hb) (λb hb _=>needObj neww1 b hb) hQ (R:=CampedW w.heap.size w1) camped_w ?_
 ·simp only[List.mem_cons,List.not_mem_nil,or_false] at hv
  subst hv;exact InK.slice (K:=λb=>b=w.heap.size) rfl _ _ _ _
 rintro v w2 ⟨bo,bh,rfl,how2,hhw2,hzw2,holdw2⟩
 change KTr Tryz.prog BB Q 0 _ w2
 rw[Frame.finish_at]
 simp only[List.getElem?_toArray,List.getElem?_cons_succ,List.getElem?_cons_zero,Option.bind_some]
 try walk_nrm
 refine aa hQ hB (by kernel_rfl) λτ d=>?_
 refine ay rfl rfl (by decide) rfl Tryz.func22 (by kernel_rfl) (by kernel_rfl) ⟨hcsM _ _,w2,uj,?_⟩
 try walk_nrm
 refine oZ hB13 hLy hQ (hcsM _ _) (bn:=w.heap.size) (bo:=bo) (bh:=bh) ((holdw2 _ (by have:=szw1.out;omega)).trans neww1) how2 hhw2 λcb sb cap nb cur t w' T hC hnb hnk hT h6 hz hold=>?_
 refine h w.heap.size bo bh cb sb cap nb cur t w' T _ hC hnb hnk hT h6 rfl (λv hv SB H=>?_) (by have:=szw1.out;omega) λb hb=>(hold b (by have:=szw1.out;omega)).trans ((holdw2 b (by have:=szw1.out;omega)).trans (oldw1.out b hb))
 have k0:InK SB H (λb=>hasB (campO w.heap.size bo bh cb sb cap cur t) b=true) (.slice (some ⟨w.heap.size,0,none⟩) 3 3):=InK.slice ((camp_has _).2 (by simp)) _ _ _ _
 have k1:InK SB H (λb=>hasB (campO w.heap.size bo bh cb sb cap cur t) b=true) (campV (some ⟨w.heap.size,0,none⟩) (some ⟨bh,0,none⟩) wakeCamp 3 3):=InK.agg (l:=[.slice (some ⟨w.heap.size,0,none⟩) 3 3,.slice (some ⟨bh,0,none⟩) 3 3]) λv hv=>by
  simp only[List.mem_cons,List.not_mem_nil,or_false] at hv
  rcases hv with rfl|rfl
  ·exact k0
  ·exact InK.slice ((camp_has _).2 (by simp)) _ _ _ _
 simp only[List.mem_cons,List.not_mem_nil,or_false,or_self] at hv
 repeat (rcases hv with hv|hv;· subst hv;first|exact VRel.bool _|exact k0|exact k1|exact InK.undef)
 subst hv;first|exact VRel.bool _|exact k0|exact k1|exact InK.undef
def arr25 {T:Array Value}(h:T.size=95):∃(y0 y1 y2 y3 y4 y5 y6 y7 y8 y9 y10 y11 y12 y13 y14 y15 y16 y17 y18 y19 y20 y21 y22 y23 y24:Value) (tl:List Value),T=(y0::y1::y2::y3::y4::y5::y6::y7::y8::y9::y10::y11::y12::y13::y14::y15::y16::y17::y18::y19::y20::y21::y22::y23::y24::tl).toArray/\tl.length=70:=by
 obtain⟨l⟩:=T
 have h:l.length=95:=h
 match l,h with
 |y0::y1::y2::y3::y4::y5::y6::y7::y8::y9::y10::y11::y12::y13::y14::y15::y16::y17::y18::y19::y20::y21::y22::y23::y24::tl,h=>exact⟨y0,y1,y2,y3,y4,y5,y6,y7,y8,y9,y10,y11,y12,y13,y14,y15,y16,y17,y18,y19,y20,y21,y22,y23,y24,tl,rfl,by simpa using h⟩
def rV {BB:FuncId->Bool}(hB:BB 13=true)(hB13:BB 22=true)(hB15:BB 24=true)(hLy:LooksY BB){Q:Goroutine->World->Prop}(hQ:∀g w W,Same w W->Q g w->Q g W){cs:List Frame}(hcs:cs≠[]){K1:Nat->Prop}{nb:Nat}{w:World}
  (hn:w.heap[nb]?=some (cntO 1)) {T U:Array Value} (hT:T.size=19) (h6:T.getD 6 undef=.pointer (some ⟨nb,0,none⟩)) (hU:U.size=95) (hUK:∀v∈U.toList,∀(SB:FuncId->Bool) (H:Hid),InK SB H K1 v)
  (h:∀(bn bo bh cb sb cap qb xb kb:Nat) (cur:List Value) (t:TypeId) (w':World) (T U:Array Value),CampW w' bn bo bh cb sb cap cur t->w'.heap[kb]?=some (keepA false λ_=>0)->(∀p∈bestX xb qb cb,w'.heap[p.1]?=some (.cells p.2.1.toArray p.2.2 (0,0)))->hasB (campO bn bo bh cb sb cap cur t++bestX xb qb cb) kb=false ->
   T.size=27->T.getD 4 undef=.pointer (some ⟨qb,0,none⟩)->T.getD 7 undef=.pointer (some ⟨kb,0,none⟩) ->
   U.size=95->U.getD 1 undef=.int .i64 1->U.getD 2 undef=.int .i64 0->(∀v∈U.toList,∀(SB:FuncId->Bool) (H:Hid),InK SB H (λb=>K1 b\/hasB (campO bn bo bh cb sb cap cur t) b=true) v)->w.heap.size<=w'.heap.size->(∀b,b<w.heap.size->w'.heap[b]?=w.heap[b]?) ->
   KTr Tryz.prog BB Q 0 (bI PP 39 (eArgs cb (.func 48) #[] [Value.pointer (some ⟨kb,0,none⟩),.pointer (some ⟨xb,0,none⟩)].toArray) ((base 24).at ⟨T,[]⟩ [.inRegion d6 [2],.code z6]) ((base 13).at ⟨U,[]⟩ [.inRegion e2 [2,3,4,5,6,7],.code zw3]::cs)) w') :
  KTr Tryz.prog BB Q 0 (back ((base 22).at ⟨T,[]⟩ [.inRegion c5 [2],.code x5]) ((base 13).at ⟨U,[]⟩ [.inRegion e1 [2,3,4,5,6,7],.code pg]::cs)) w:=by
 refine nk hB13 hLy hQ hcs hn hT h6 ?_
 obtain⟨y0,y1,y2,y3,y4,y5,y6,y7,y8,y9,y10,y11,y12,y13,y14,y15,y16,y17,y18,y19,y20,y21,y22,y23,y24,tl,rfl,htl⟩:=arr25 hU
 have e15:(e1[2]?.bind (·.dst))=some 15:=rfl
 rw[e15]
 try walk_nrm
 have ee1:e1=cOps (aw (ag wB)):=rfl
 simp only[wB,Tryz.f13,Option.getD_some,ag,aw,cOps] at ee1
 rw[ee1]
 clear ee1 e15
 refine aa hQ hB (by kernel_rfl) λτ d=>?_
 refine goes_oper_k rfl rfl (by decide) (λK hK=>?_)
 have q1:=af
 have q2:=ab
 have q3:=ae
 go_simp
 clear q1 q2 q3
 refine hK _ _ ⟨hcs,w,⟨rfl,rfl,rfl⟩,?_⟩
 clear hK K
 try walk_nrm
 try simp only[ab]
 refine aa hQ hB (by kernel_rfl) λτ d=>?_
 refine goes_oper_k rfl rfl (by decide) (λK hK=>?_)
 have q1:=af
 have q2:=ab
 have q3:=ae
 go_simp
 clear q1 q2 q3
 refine hK _ _ ⟨hcs,w,⟨rfl,rfl,rfl⟩,?_⟩
 clear hK K
 try walk_nrm
 try simp only[ab]
 refine aa hQ hB (by kernel_rfl) λτ d=>?_
 refine goes_oper_k rfl rfl (by decide) (λK hK=>?_)
 have q1:=af
 have q2:=ab
 have q3:=ae
 go_simp
 clear q1 q2 q3
 refine hK _ _ ⟨hcs,w,⟨rfl,rfl,rfl⟩,?_⟩
 clear hK K
 try walk_nrm
 try simp only[ab]
 refine aa hQ hB (by kernel_rfl) λτ d=>?_
 refine goes_oper_k rfl rfl (by decide) (λK hK=>?_)
 have q1:=af
 have q2:=ab
 have q3:=ae
 go_simp
 clear q1 q2 q3
 refine hK _ _ ⟨hcs,w,⟨rfl,rfl,rfl⟩,?_⟩
 clear hK K
 try walk_nrm
 try simp only[ab]
 refine aa hQ hB (by kernel_rfl) λτ d=>?_
 refine goes_oper_k rfl rfl (by decide) (λK hK=>?_)
 have q1:=af
 have q2:=ab
 have q3:=ae
 go_simp
 clear q1 q2 q3
 refine hK _ _ ⟨hcs,w,⟨rfl,rfl,rfl⟩,?_⟩
 clear hK K
 try walk_nrm
 try simp only[ab]
 refine aa hQ hB (by kernel_rfl) λτ d=>?_
 rw[stepG_region_end]
 simp only[goes_go]
 refine⟨hcs,w,uj,?_⟩
 have ez2:pg=ag (ag wB):=rfl
 simp only[wB,Tryz.f13,Option.getD_some,ag] at ez2
 rw[ez2]
 clear ez2
 refine aa hQ hB (by kernel_rfl) λτ d=>?_
 rw[stepG_seq]
 simp only[goes_go]
 refine⟨hcs,w,uj,?_⟩
 refine aa hQ hB (by kernel_rfl) λτ d=>?_
 rw[stepG_region]
 simp only[goes_go,List.size_toArray,List.length_cons,List.length_nil,Nat.reduceAdd,Nat.zero_add,List.range,List.range.loop]
 refine⟨hcs,w,uj,?_⟩
 refine aa hQ hB (by kernel_rfl) λτ d=>?_
 refine goes_oper_k rfl rfl (by decide) (λK hK=>?_)
 have q1:=af
 have q2:=ab
 have q3:=ae
 go_simp
 clear q1 q2 q3
 refine hK _ _ ⟨hcs,w.alloc _,⟨rfl,rfl,rfl⟩,?_⟩
 clear hK K
 try walk_nrm
 try simp only[ab]
 obtain⟨w1,hw1⟩:∃w1,w1=w.alloc (.cells needL.toArray 3):=⟨_,rfl⟩
 change KTr Tryz.prog BB Q 0 _ (w.alloc (.cells needL.toArray 3))
 rw[<-hw1]
 have szw1:=ui (show w1.heap.size=w.heap.size+1 by rw[hw1,aA])
 have oldw1:=ui (show ∀b,b<w.heap.size->w1.heap[b]?=w.heap[b]? from λb hb=>by rw[hw1,ax,if_neg (by omega)])
 have neww1:w1.heap[w.heap.size]?=some (.cells needL.toArray 3 (0,0)):=by rw[hw1,ax,if_pos rfl]
 clear hw1
 refine aa hQ hB (by kernel_rfl) λτ d=>?_
 refine ay rfl rfl (by decide) rfl Tryz.func23 (by kernel_rfl) (by kernel_rfl) ⟨hcsM _ _,w1,uj,?_⟩
 try walk_nrm
 refine(du (H:=uk) hLy).fn (f:=23) (by decide) (by decide) (K0:=λb=>b=w.heap.size) hcs (λ_ _=>Nat.zero_le _) (Nat.zero_le _) (allIn (l:=[.slice (some ⟨w.heap.size,0,none⟩) 3 3]) λv hv=>?_) (λb _ hb=>by cases hb) (λb hb=>by cases hb) (λb hb _=>needObj neww1 b hb) hQ (R:=CampedW w.heap.size w1) camped_w ?_
 ·simp only[List.mem_cons,List.not_mem_nil,or_false] at hv
  subst hv;exact InK.slice (K:=λb=>b=w.heap.size) rfl _ _ _ _
 rintro v w2 ⟨bo,bh,rfl,how2,hhw2,hzw2,holdw2⟩
 change KTr Tryz.prog BB Q 0 _ w2
 rw[Frame.finish_at]
 simp only[List.getElem?_toArray,List.getElem?_cons_succ,List.getElem?_cons_zero,Option.bind_some]
 try walk_nrm
 refine aa hQ hB (by kernel_rfl) λτ d=>?_
 refine ay rfl rfl (by decide) rfl Tryz.func24 (by kernel_rfl) (by kernel_rfl) ⟨hcsM _ _,w2,uj,?_⟩
 try walk_nrm
 refine qA hB15 hLy hQ (hcsM _ _) (bn:=w.heap.size) (bo:=bo) (bh:=bh) ((holdw2 _ (by have:=szw1.out;omega)).trans neww1) how2 hhw2 λcb sb cap qb xb kb cur t w' T hC hnb hX hnk hT h4 h7 hz hold=>?_
 refine h w.heap.size bo bh cb sb cap qb xb kb cur t w' T _ hC hnb hX hnk hT h4 h7 (by simp[htl]) rfl rfl (λv hv SB H=>?_) (by have:=szw1.out;omega) λb hb=>(hold b (by have:=szw1.out;omega)).trans ((holdw2 b (by have:=szw1.out;omega)).trans (oldw1.out b hb))
 have k0:InK SB H (λb=>K1 b\/hasB (campO w.heap.size bo bh cb sb cap cur t) b=true) (.slice (some ⟨w.heap.size,0,none⟩) 3 3):=InK.slice (.inr ((camp_has _).2 (by simp))) _ _ _ _
 have k1:InK SB H (λb=>K1 b\/hasB (campO w.heap.size bo bh cb sb cap cur t) b=true) (campV (some ⟨w.heap.size,0,none⟩) (some ⟨bh,0,none⟩) wakeCamp 3 3):=InK.agg (l:=[.slice (some ⟨w.heap.size,0,none⟩) 3 3,.slice (some ⟨bh,0,none⟩) 3 3]) λv hv=>by
  simp only[List.mem_cons,List.not_mem_nil,or_false] at hv
  rcases hv with rfl|rfl
  ·exact k0
  ·exact InK.slice (.inr ((camp_has _).2 (by simp))) _ _ _ _
 have k2:InK SB H (λb=>K1 b\/hasB (campO w.heap.size bo bh cb sb cap cur t) b=true) (.tuple #[.int .i64 1,.int .i64 0]):=by
  refine(allIn (l:=[.int .i64 1,.int .i64 0]) λv hv=>?_).tuple
  simp only[List.mem_cons,List.not_mem_nil,or_false] at hv
  rcases hv with rfl|rfl<;>exact VRel.int _ _
 have k3:∀u∈(y0::y1::y2::y3::y4::y5::y6::y7::y8::y9::y10::y11::y12::y13::y14::y15::y16::y17::y18::y19::y20::y21::y22::y23::y24::tl:List Value),InK SB H (λb=>K1 b\/hasB (campO w.heap.size bo bh cb sb cap cur t) b=true) u:=λu hu=>(hUK u (by simpa using hu) SB H).mono λb hb=>.inl hb
 have hv2:v=.int .i64 1\/v=.int .i64 0\/v=.tuple #[.int .i64 1,.int .i64 0]\/v=.slice (some ⟨w.heap.size,0,none⟩) 3 3\/v=campV (some ⟨w.heap.size,0,none⟩) (some ⟨bh,0,none⟩) wakeCamp 3 3\/v∈(y0::y1::y2::y3::y4::y5::y6::y7::y8::y9::y10::y11::y12::y13::y14::y15::y16::y17::y18::y19::y20::y21::y22::y23::y24::tl:List Value):=by
  clear k0 k1 k2 k3 h hUK
  simp only[List.mem_cons,List.not_mem_nil,or_false] at hv ⊢
  grind
 rcases hv2 with rfl|rfl|rfl|rfl|rfl|hv2
 ·exact VRel.int _ _
 ·exact VRel.int _ _
 ·exact k2
 ·exact k0
 ·exact k1
 ·exact k3 v hv2
def rW {BB:FuncId->Bool}(hB:BB 13=true)(hB15:BB 24=true)(hLy:LooksY BB){Q:Goroutine->World->Prop}(hQ:∀g w W,Same w W->Q g w->Q g W){cs:List Frame}(hcs:cs≠[]){K1:Nat->Prop}{bn bo bh cb sb cap qb kb:Nat}{cur:List Value}{t:TypeId}{ρ:Ros}(hρ:∀i,i<5->ρ i<16){w:World}
  (hC:CampW w bn bo bh cb sb cap cur t) (hk:w.heap[kb]?=some (keepA true ρ)) (hq:w.heap[qb]?=some (.cells #[.pointer (some ⟨cb,0,none⟩)] 57 (0,0))) {T U:Array Value} (hT:T.size=27) (h4:T.getD 4 undef=.pointer (some ⟨qb,0,none⟩)) (h7:T.getD 7 undef=.pointer (some ⟨kb,0,none⟩))
  (hU:U.size=95) (hU1:U.getD 1 undef=.int .i64 1) (hU2:U.getD 2 undef=.int .i64 0) (hUK:∀v∈U.toList,∀(SB:FuncId->Bool) (H:Hid),InK SB H K1 v)
  (h:∀(A:Option Addr) (c:Nat) (xs:List Value) (w':World) (K':Nat->Prop) (U:Array Value),OwnGrid w' (w.heap.size+1) (.slice A 3 c) (aQ ρ 3) xs->w.heap.size<=w'.heap.size->(∀b,b<w.heap.size->w'.heap[b]?=w.heap[b]?)->(∀b,K' b->∃o,w'.heap[b]?=some o/\ORel (SP SBy uk) (CK uZ SBy false) (idOn K') o o) ->
   U.size=95->U.getD 1 undef=.int .i64 1->U.getD 2 undef=.int .i64 0->U.getD 3 undef=.slice A 3 c->U.getD 4 undef=.int .i64 0->(∀v∈U.toList,InK SBy uk (λb=>K1 b\/K' b) v)->KTr Tryz.prog BB Q 0 (Go.Conc.G ((base 13).at ⟨U,[]⟩ [.code zw3]) cs) w') :
  KTr Tryz.prog BB Q 0 (back ((base 24).at ⟨T,[]⟩ [.inRegion d6 [2],.code z6]) ((base 13).at ⟨U,[]⟩ [.inRegion e2 [2,3,4,5,6,7],.code zw3]::cs)) w:=by
 refine pf hB15 hLy hQ hcs hρ hC hk hq hT h4 h7 λA c xs w2 K' ho hz hold hv hobj=>?_
 obtain⟨y0,y1,y2,y3,y4,y5,y6,y7,y8,y9,y10,y11,y12,y13,y14,y15,y16,y17,y18,y19,y20,y21,y22,y23,y24,tl,rfl,htl⟩:=arr25 hU
 have hU1:y1=.int .i64 1:=hU1
 have hU2:y2=.int .i64 0:=hU2
 subst hU1 hU2
 have e21:(e2[2]?.bind (·.dst))=some 21:=rfl
 rw[e21]
 try walk_nrm
 have ee2:e2=cOps (aw (ag (ag wB))):=rfl
 simp only[wB,Tryz.f13,Option.getD_some,ag,aw,cOps] at ee2
 rw[ee2]
 clear ee2 e21
 refine aa hQ hB (by kernel_rfl) λτ d=>?_
 refine goes_oper_k rfl rfl (by decide) (λK hK=>?_)
 have q1:=af
 have q2:=ab
 have q3:=ae
 go_simp
 clear q1 q2 q3
 refine hK _ _ ⟨hcs,w2,⟨rfl,rfl,rfl⟩,?_⟩
 clear hK K
 try walk_nrm
 try simp only[ab]
 refine aa hQ hB (by kernel_rfl) λτ d=>?_
 refine goes_oper_k rfl rfl (by decide) (λK hK=>?_)
 have q1:=af
 have q2:=ab
 have q3:=ae
 go_simp
 clear q1 q2 q3
 refine hK _ _ ⟨hcs,w2,⟨rfl,rfl,rfl⟩,?_⟩
 clear hK K
 try walk_nrm
 try simp only[ab]
 refine aa hQ hB (by kernel_rfl) λτ d=>?_
 refine goes_oper_k rfl rfl (by decide) (λK hK=>?_)
 have q1:=af
 have q2:=ab
 have q3:=ae
 go_simp
 clear q1 q2 q3
 refine hK _ _ ⟨hcs,w2,⟨rfl,rfl,rfl⟩,?_⟩
 clear hK K
 try walk_nrm
 try simp only[ab]
 refine aa hQ hB (by kernel_rfl) λτ d=>?_
 refine goes_oper_k rfl rfl (by decide) (λK hK=>?_)
 have q1:=af
 have q2:=ab
 have q3:=ae
 go_simp
 clear q1 q2 q3
 refine hK _ _ ⟨hcs,w2,⟨rfl,rfl,rfl⟩,?_⟩
 clear hK K
 try walk_nrm
 try simp only[ab]
 refine aa hQ hB (by kernel_rfl) λτ d=>?_
 refine goes_oper_k rfl rfl (by decide) (λK hK=>?_)
 have q1:=af
 have q2:=ab
 have q3:=ae
 go_simp
 clear q1 q2 q3
 refine hK _ _ ⟨hcs,w2,⟨rfl,rfl,rfl⟩,?_⟩
 clear hK K
 try walk_nrm
 try simp only[ab]
 refine aa hQ hB (by kernel_rfl) λτ d=>?_
 rw[stepG_region_end]
 simp only[goes_go]
 refine⟨hcs,w2,uj,?_⟩
 refine h A c xs w2 K' _ ho hz hold hobj (by simp[htl]) rfl rfl rfl rfl λv hv3=>?_
 have k0:InK SBy uk (λb=>K1 b\/K' b) (.slice A 3 c):=hv.mono λb B hb=>⟨.inr hb.1,hb.2⟩
 have k2:InK SBy uk (λb=>K1 b\/K' b) (.tuple #[.slice A 3 c,.int .i64 0]):=by
  refine(allIn (l:=[.slice A 3 c,.int .i64 0]) λv hv=>?_).tuple
  simp only[List.mem_cons,List.not_mem_nil,or_false] at hv
  rcases hv with rfl|rfl
  ·exact k0
  ·exact VRel.int _ _
 have k3:∀u∈(y0::.int .i64 1::.int .i64 0::y3::y4::y5::y6::y7::y8::y9::y10::y11::y12::y13::y14::y15::y16::y17::y18::y19::y20::y21::y22::y23::y24::tl:List Value),InK SBy uk (λb=>K1 b\/K' b) u:=λu hu=>(hUK u (by simpa using hu) SBy uk).mono λb hb=>.inl hb
 have hv2:v=.slice A 3 c\/v=.int .i64 0\/v=.tuple #[.slice A 3 c,.int .i64 0]\/v∈(y0::.int .i64 1::.int .i64 0::y3::y4::y5::y6::y7::y8::y9::y10::y11::y12::y13::y14::y15::y16::y17::y18::y19::y20::y21::y22::y23::y24::tl:List Value):=by
  clear k0 k2 k3 h hUK
  simp only[List.mem_cons,List.not_mem_nil,or_false] at hv3 ⊢
  grind
 rcases hv2 with rfl|rfl|rfl|hv2
 ·exact k0
 ·exact VRel.int _ _
 ·exact k2
 ·exact k3 v hv2
open Go.RowKit Go.Iso Go.Co Go.Conc Go.Sq
def sml:List FuncId:=syl++[22,24,39,40,43,48,106,107,127,128,129]
def SBm (f:FuncId):Bool:=sml.contains f
def offM (f:FuncId):Bool:=f==39||f==40||f==43||f==48||f==127||f==129
def BBm (f:FuncId):Bool:=SBm f&&!offM f
def rX {p:Nat->Bool}(h:sml.all p=true):∀f,SBm f=true->p f=true:=λf hf=>(List.all_eq_true.1 h) f (by simpa [SBm] using hf)
def eU:LooksY BBm:=by
 refine⟨λf hf=>?_,by decide,by decide⟩
 have:syl.all BBm=true:=by kernel_rfl
 exact je this f hf
def te:sml.all (λf=>fnOk Tryz.prog SBm true f||extC f||offM f)=true:=by kernel_rfl
def tT {P:Two}(f:FuncId)(hf:aE SBm f=true):BarOk P f:=by
 unfold aE at hf
 have h:SBm 68=false:=by decide
 rw[h,Bool.false_and,Bool.and_false] at hf
 cases hf
def lib_m (H:Hid):Lib PP SBm H true BBm 0:=by
 refine gz (λf hf=>?_) (λf hf hb=>?_) (λf hf=>?_) tT ⟨Nat.le_of_eq Tryz.globals_size,Tryz.bigF⟩
 ·simp only[BBm,Bool.and_eq_true,Bool.not_eq_true'] at hf
  have:=rX te f hf.1
  simp only[hf.2,Bool.or_false,Bool.or_eq_true] at this
  rcases this with h|h
  ·exact .inl ⟨h,rfl⟩
  ·exact .inr (qX h)
 ·simp only[BBm,hf,Bool.true_and,Bool.not_eq_false',offM,Bool.or_eq_true,beq_iff_eq] at hb
  rcases hb with((((rfl|rfl)|rfl)|rfl)|rfl)|rfl
  ·exact⟨_,_,Tryz.func39,Tryz.func39,rfl,by decide,by decide,rfl,rfl⟩
  ·exact⟨_,_,Tryz.func40,Tryz.func40,rfl,by decide,by decide,rfl,rfl⟩
  ·exact⟨_,_,Tryz.func43,Tryz.func43,rfl,by decide,by decide,rfl,rfl⟩
  ·exact⟨_,_,Tryz.func48,Tryz.func48,rfl,by decide,by decide,rfl,rfl⟩
  ·exact⟨_,_,Tryz.func127,Tryz.func127,rfl,by decide,by decide,rfl,rfl⟩
  ·exact⟨_,_,Tryz.func129,Tryz.func129,rfl,by decide,by decide,rfl,rfl⟩
 ·simp only[BBm,Bool.and_eq_true] at hf
  exact hf.1
def bar49:∃cE,Tryz.f39.body=some cE/\codeOk Tryz.prog SBm true true cE=false:=⟨_,rfl,by kernel_rfl⟩
open Go.RowKit Go.Iso Go.Co Go.Conc Go.ConcN Go.Sq
def hmf_m:∀(f:FuncId) (fn:Func),PP.a.funcs[f]?=some fn->fn.body.isNone=true->PP.fs[f]?=some fn:=λ_ _ h _=>h
def QW1 (cs:List Frame)(g:Goroutine)(w:World):Prop:=∃(bn bo bh cb sb cap nb:Nat) (cur:List Value) (t:TypeId) (T U:Array Value),CampW w bn bo bh cb sb cap cur t/\w.heap[nb]?=some (cntO 0)/\hasB (campO bn bo bh cb sb cap cur t) nb=false/\T.size=19/\T.getD 6 undef=.pointer (some ⟨nb,0,none⟩) /\
 U.size=95/\(∀v∈U.toList,∀(SB:FuncId->Bool) (H:Hid),InK SB H (λb=>hasB (campO bn bo bh cb sb cap cur t) b=true) v) /\
 g=bI PP 39 (eArgs cb (.func 40) #[] [Value.pointer (some ⟨nb,0,none⟩)].toArray) ((base 22).at ⟨T,[]⟩ [.inRegion c5 [2],.code x5]) ((base 13).at ⟨U,[]⟩ [.inRegion e1 [2,3,4,5,6,7],.code pg]::cs)
def CampW.same {w w':World}{bn bo bh cb sb cap:Nat}{cur:List Value}{t:TypeId}(h:CampW w bn bo bh cb sb cap cur t)(s:Same w w'):CampW w' bn bo bh cb sb cap cur t:=h.keep λb _=>by rw[s.1]
def QW1.same {cs:List Frame}(g:Goroutine)(w W:World)(s:Same w W)(h:QW1 cs g w):QW1 cs g W:=by
 obtain⟨bn,bo,bh,cb,sb,cap,nb,cur,t,T,U,h1,h2,h3,h4,h5,h6,h7,h8⟩:=h
 exact⟨bn,bo,bh,cb,sb,cap,nb,cur,t,T,U,h1.same s,by rw[s.1];exact h2,h3,h4,h5,h6,h7,h8⟩
def QW1.fn {cs:List Frame}(g:Goroutine)(w:World)(h:QW1 cs g w):BBm g.frame.fn=false:=by
 obtain⟨bn,bo,bh,cb,sb,cap,nb,cur,t,T,U,h1,h2,h3,h4,h5,h6,h7,rfl⟩:=h
 show BBm 39=false
 decide
def rY {cs:List Frame}(hcs:cs≠[])(w:World):KTr Tryz.prog BBm (QW1 cs) 0 (Go.Conc.G (Frame.enter Tryz.prog 13 #[] .normal) cs) w :=
 rU (by decide) (by decide) eU QW1.same hcs λbn bo bh cb sb cap nb cur t w' T U h1 h2 h3 h4 h5 h6 h7 _ _=>.fin ⟨bn,bo,bh,cb,sb,cap,nb,cur,t,T,U,h1,h2,h3,h4,h5,h6,h7,rfl⟩
def QW2 (cs:List Frame)(g:Goroutine)(w:World):Prop:=∃(K1:Nat->Prop) (bn bo bh cb sb cap qb xb kb:Nat) (cur:List Value) (t:TypeId) (T U:Array Value),(∀b,K1 b->∃(l:List Value) (t:TypeId),w.heap[b]?=some (.cells l.toArray t (0,0))/\∀v∈l,∀(SB:FuncId->Bool) (H:Hid),InK SB H K1 v)/\CampW w bn bo bh cb sb cap cur t/\w.heap[kb]?=some (keepA false λ_=>0)/\(∀p∈bestX xb qb cb,w.heap[p.1]?=some (.cells p.2.1.toArray p.2.2 (0,0)))/\hasB (campO bn bo bh cb sb cap cur t++bestX xb qb cb) kb=false /\
 T.size=27/\T.getD 4 undef=.pointer (some ⟨qb,0,none⟩)/\T.getD 7 undef=.pointer (some ⟨kb,0,none⟩)/\U.size=95/\U.getD 1 undef=.int .i64 1/\U.getD 2 undef=.int .i64 0/\(∀v∈U.toList,∀(SB:FuncId->Bool) (H:Hid),InK SB H (λb=>K1 b\/hasB (campO bn bo bh cb sb cap cur t) b=true) v) /\
 g=bI PP 39 (eArgs cb (.func 48) #[] [Value.pointer (some ⟨kb,0,none⟩),.pointer (some ⟨xb,0,none⟩)].toArray) ((base 24).at ⟨T,[]⟩ [.inRegion d6 [2],.code z6]) ((base 13).at ⟨U,[]⟩ [.inRegion e2 [2,3,4,5,6,7],.code zw3]::cs)
def QW2.same {cs:List Frame}(g:Goroutine)(w W:World)(s:Same w W)(h:QW2 cs g w):QW2 cs g W:=by
 obtain⟨K1,bn,bo,bh,cb,sb,cap,qb,xb,kb,cur,t,T,U,h0,h1,h2,h3,h4⟩:=h
 exact⟨K1,bn,bo,bh,cb,sb,cap,qb,xb,kb,cur,t,T,U,by rw[s.1];exact h0,h1.same s,by rw[s.1];exact h2,by rw[s.1];exact h3,h4⟩
def QW2.fn {cs:List Frame}(g:Goroutine)(w:World)(h:QW2 cs g w):BBm g.frame.fn=false:=by
 obtain⟨K1,bn,bo,bh,cb,sb,cap,qb,xb,kb,cur,t,T,U,h0,h1,h2,h3,h4,h5,h6,h7,h8,h9,h10,h11,rfl⟩:=h
 show BBm 39=false
 decide
def campCells {w:World}{bn bo bh cb sb cap:Nat}{cur:List Value}{t:TypeId}(h:CampW w bn bo bh cb sb cap cur t):∀b,hasB (campO bn bo bh cb sb cap cur t) b=true->∃(l:List Value) (t':TypeId),w.heap[b]?=some (.cells l.toArray t' (0,0))/\∀v∈l,∀(SB:FuncId->Bool) (H:Hid),InK SB H (λb=>hasB (campO bn bo bh cb sb cap cur t) b=true) v:=λb hb=>by
 obtain⟨p,hp,rfl⟩:=hasB_of hb
 exact⟨_,_,h.obj p hp,λv hv SB H=>fl h.flat p hp v hv SB H⟩
def rZ {cs:List Frame}(hcs:cs≠[]){w:World}{bn bo bh cb sb cap nb:Nat}{cur:List Value}{t:TypeId}{T U:Array Value}(hC:CampW w bn bo bh cb sb cap cur t)(hn:w.heap[nb]?=some (cntO 1))(hT:T.size=19)(h6:T.getD 6 undef=.pointer (some ⟨nb,0,none⟩))
  (hU:U.size=95) (hUK:∀v∈U.toList,∀(SB:FuncId->Bool) (H:Hid),InK SB H (λb=>hasB (campO bn bo bh cb sb cap cur t) b=true) v) :
  KTr Tryz.prog BBm (QW2 cs) 0 (back ((base 22).at ⟨T,[]⟩ [.inRegion c5 [2],.code x5]) ((base 13).at ⟨U,[]⟩ [.inRegion e1 [2,3,4,5,6,7],.code pg]::cs)) w :=
 rV (by decide) (by decide) (by decide) eU QW2.same hcs hn hT h6 hU hUK λbn' bo' bh' cb' sb' cap' qb xb kb cur' t' w' T' U' h1 h2 h3 h4 h5 h6 h7 h8 h9 h10 h11 hz hold =>
  .fin ⟨_,bn',bo',bh',cb',sb',cap',qb,xb,kb,cur',t',T',U',λb hb=>by
   obtain⟨l,t2,e1,e2⟩:=campCells hC b hb
   exact⟨l,t2,(hold b (hC.lt hb)).trans e1,e2⟩,h1,h2,h3,h4,h5,h6,h7,h8,h9,h10,h11,rfl⟩
section
variable {SB BB:FuncId->Bool} {lets:Bool} {Dead:Nat->Prop} {Kp:Keep} {x:Lone} {A:Goroutine} {W:World}
def pair_in (ht:Tw PP SB BB lets 0 Dead Kp x A W)(hH:∀b,x.H b=false){b:Nat}(hb:∃B,x.β b B){l:List Value}{t:TypeId}{f:Nat×Nat}(h:x.w.heap[b]?=some (.cells l.toArray t f)){v:Value}(hv:v∈l):∃V,VRel (SP SB x.H) x.β v V:=by
 obtain⟨B,hb⟩:=hb
 obtain⟨o,O,q1,q2,q3⟩:=ht.wl.objs b B hb (hH b)
 rw[h] at q1
 cases q1
 cases q3 with
 |cells a z =>
  obtain⟨i,hi,rfl⟩:=List.mem_iff_getElem.1 hv
  obtain⟨V,_,h2⟩:=a.get? (i:=i) (v:=l[i]) (by simp)
  exact⟨V,h2⟩
def pair_slice {S:Par}{β:Bij}{b o:Nat}{s:Option Nat}{l c:Nat}{V:Value}(h:VRel S β (.slice (some ⟨b,o,s⟩) l c) V):∃B,β b B:=by
 cases h with
 |slice o s l c hb=>exact⟨_,hb⟩
def pair_ptr {S:Par}{β:Bij}{b o:Nat}{s:Option Nat}{V:Value}(h:VRel S β (.pointer (some ⟨b,o,s⟩)) V):∃B,β b B:=by
 cases h with
 |ptr o s hb=>exact⟨_,hb⟩
def pair_fn {S:Par}{β:Bij}{f:Fn}{fx:Array Value}{l:List Value}{V v:Value}(h:VRel S β (.func f fx l.toArray) V)(hv:v∈l):∃V,VRel S β v V:=by
 cases h with
 |blankM _=>cases hv
 |func hf h1 i1 h2 i2 =>
  obtain⟨i,hi,rfl⟩:=List.mem_iff_getElem.1 hv
  have hl:i<l.toArray.size:=by simpa using hi
  exact⟨_,i2 i _ _ (Array.getElem?_eq_getElem hl) (Array.getElem?_eq_getElem (by rw[<-h2];exact hl))⟩
def jD (ht:Tw PP SB BB lets 0 Dead Kp x A W)(hH:∀b,x.H b=false){bn bo bh cb sb cap:Nat}{cur:List Value}{t:TypeId}(h:CampW x.w bn bo bh cb sb cap cur t)(hcb:∃B,x.β cb B):∀b,hasB (campO bn bo bh cb sb cap cur t) b=true->∃B,x.β b B:=by
 have h4:=h.obj (cb,ownL bn bh sb cap,138) (by simp[campO])
 have h3:=h.obj (bh,herdL bo,53) (by simp[campO])
 obtain⟨V1,v1⟩:=pair_in ht hH hcb h4 (v:=.slice (some ⟨bn,0,none⟩) 3 3) (by simp[ownL])
 obtain⟨V2,v2⟩:=pair_in ht hH hcb h4 (v:=.slice (some ⟨bh,0,none⟩) 3 3) (by simp[ownL])
 obtain⟨V3,v3⟩:=pair_in ht hH hcb h4 (v:=.slice (some ⟨sb,0,none⟩) 8 cap) (by simp[ownL])
 obtain⟨V4,v4⟩:=pair_in ht hH (pair_slice v2) h3 (v:=.slice (some ⟨bo,0,none⟩) 1 1) (by simp[herdL])
 intro b hb
 rcases(camp_has b).1 hb with rfl|rfl|rfl|rfl|rfl
 ·exact pair_slice v1
 ·exact pair_slice v4
 ·exact pair_slice v2
 ·exact hcb
 ·exact pair_slice v3
def pair_args (ht:Tw PP SBm BBm true 0 Dead Kp x A W){cb F:Nat}{fc:List Value}{fr:Frame}{cs:List Frame}(hg:x.g=bI PP 39 (eArgs cb (.func F) #[] fc.toArray) fr cs):(∃B,x.β cb B)/\∀v∈fc,∃V,VRel (SP SBm x.H) x.β v V:=by
 obtain⟨cE,hcE,hbar⟩:=bar49
 have htop:=ht.gl.top
 rw[hg] at htop
 obtain⟨ARGS,eA,hargs⟩:=stop_any (P:=PP) (fa:=Tryz.f39) (fb:=Tryz.f39) Tryz.func39 Tryz.func39 hcE hbar rfl (by rw[Tryz.ntmps39];simp) htop
 obtain⟨V0,_,r0⟩:=hargs.get? (i:=0) (v:=.pointer (some ⟨cb,0,none⟩)) rfl
 obtain⟨V1,_,r1⟩:=hargs.get? (i:=1) (v:=.func (.func F) #[] fc.toArray) rfl
 exact⟨pair_ptr r0,λv hv=>pair_fn r1 hv⟩
end
end Go.Proofs.YtjmmlkobmhlikaaGreat
