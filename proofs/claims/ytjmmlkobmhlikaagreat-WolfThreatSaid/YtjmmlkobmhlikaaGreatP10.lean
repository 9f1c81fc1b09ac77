/- Parts of the proof. -/
import Derived.Test.YtjmmlkobmhlikaaGreatP08
import Derived.Test.YtjmmlkobmhlikaaGreatChecked
import Derived.WalkKit
import Derived.Conc.WgGenW
import Derived.Conc.WgGenN3
import Derived.Conc.CrowdTrace
import Derived.Conc.CrowdStepW
import Derived.Conc.Beside
set_option linter.all false
set_option maxHeartbeats 4000000
set_option maxRecDepth 20000
namespace Go.Proofs.YtjmmlkobmhlikaaGreat
open Go.RowKit Go.Iso Go.Co Go.Conc
def aw:Code->Code
 |.seq a _=>a
 |c=>c
def ag:Code->Code
 |.seq _ b=>b
 |c=>c
def cIn:Code->Code
 |.block _ b=>b
 |.loop b=>b
 |c=>c
def cOps:Code->Array Oper
 |.region _ o _=>o
 |_=>#[]
noncomputable def eB:Code:=Tryz.f39.body.getD .skip
noncomputable def eL:Code:=cIn (cIn (ag (aw (ag (ag eB)))))
noncomputable def eI:Code:=cIn (aw (ag (ag eL)))
noncomputable def o0:Array Oper:=cOps (aw eB)
noncomputable def o1:Array Oper:=cOps (aw (ag eB))
noncomputable def o2:Array Oper:=cOps (aw (aw (ag (ag eB))))
noncomputable def o3:Array Oper:=cOps (aw (cIn (cIn (ag (aw (ag (ag eB)))))))
noncomputable def o4:Array Oper:=cOps (aw (cIn (aw (ag (ag (cIn (cIn (ag (aw (ag (ag eB)))))))))))
noncomputable def o5:Array Oper:=cOps (aw (ag (cIn (aw (ag (ag (cIn (cIn (ag (aw (ag (ag eB))))))))))))
noncomputable def o6:Array Oper:=cOps (aw (aw (ag (ag (cIn (aw (ag (ag (cIn (cIn (ag (aw (ag (ag eB))))))))))))))
noncomputable def o7:Array Oper:=cOps (aw (ag (ag (ag (cIn (aw (ag (ag (cIn (cIn (ag (aw (ag (ag eB))))))))))))))
noncomputable def o8:Array Oper:=cOps (ag (ag (ag (ag (cIn (aw (ag (ag (cIn (cIn (ag (aw (ag (ag eB))))))))))))))
noncomputable def o9:Array Oper:=cOps (ag (ag (ag (cIn (cIn (ag (aw (ag (ag eB)))))))))
noncomputable def o10:Array Oper:=cOps (ag (ag (ag eB)))
def tJ:Tryz.f39.body=some (.seq (.region 0 o0 false) (.seq (.region 1 o1 false) (.seq (.seq (.region 2 o2 false) (.block 0 (.loop eL))) (.region 10 o10 false)))):=rfl
def tK:eL=.seq (.region 3 o3 false) (.seq (.cond (.tmp 14) .skip (.exit 0)) (.seq (.block 1 eI) (.region 9 o9 false))):=rfl
def tL:eI=.seq (.region 4 o4 false) (.seq (.region 5 o5 false) (.seq (.seq (.region 6 o6 false) (.cond (.tmp 22) (.exit 1) .skip)) (.seq (.region 7 o7 false) (.region 8 o8 false)))):=rfl
def kC {m:Bool}{b:Frame}{a:Act}{k:List Item}{cs:List Frame}{w:World}:stepG Tryz.prog m (G (b.at a (.code eL::k)) cs) w=.go (G (b.at a (.code (.region 3 o3 false)::.code (.seq (.cond (.tmp 14) .skip (.exit 0)) (.seq (.block 1 eI) (.region 9 o9 false)))::k)) cs) w #[]:=by
 rw[tK];exact stepG_seq
def qi {m:Bool}{b:Frame}{a:Act}{k:List Item}{cs:List Frame}{w:World}:stepG Tryz.prog m (G (b.at a (.code eI::k)) cs) w=.go (G (b.at a (.code (.region 4 o4 false)::.code (.seq (.region 5 o5 false) (.seq (.seq (.region 6 o6 false) (.cond (.tmp 22) (.exit 1) .skip)) (.seq (.region 7 o7 false) (.region 8 o8 false))))::k)) cs) w #[]:=by
 rw[tL];exact stepG_seq
def ry (w:World)(o:Obj)(a:Addr):(w.alloc o).cell? a=if a.block=w.heap.size then(match o with|.cells c _ _=>if a.spot.isSome then none else c[a.off]?|_=>none) else w.cell? a:=by
 show(match(w.heap.push o)[a.block]? with|some (.cells c _ _)=>if a.spot.isSome then none else c[a.off]?|_=>none)=_
 rw[Array.getElem?_push]
 by_cases e:a.block=w.heap.size
 ·rw[if_pos e,if_pos e]
  cases o<;>rfl
 ·rw[if_neg e,if_neg e];rfl
def ax (w:World)(o:Obj)(b:Nat):(w.alloc o).heap[b]?=if b=w.heap.size then some o else w.heap[b]?:=Array.getElem?_push ..
def qj (c:Frame)(cs:List Frame):(c::cs)≠[]:=by simp
def oC (w:World)(τ:Tape)(d:Nat)(t:TypeId)(z0 z1 z2 z3 z4 y0 y1 y2 y3 y4:Value) :
  Same (w.alloc (.cells #[y0,y1,y2,y3,y4] t)) ((((((on (w.alloc (.cells #[z0,z1,z2,z3,z4] t)) τ d).setCell ⟨w.heap.size,0,none⟩ y0).setCell ⟨w.heap.size,1,none⟩ y1).setCell ⟨w.heap.size,2,none⟩ y2).setCell ⟨w.heap.size,3,none⟩ y3).setCell ⟨w.heap.size,4,none⟩ y4):=by
 refine⟨?_,rfl,rfl⟩
 apply Array.ext_getElem?
 intro b
 simp only[setCell_get]
 have e0:(on (w.alloc (.cells #[z0,z1,z2,z3,z4] t)) τ d).heap[b]?=if b=w.heap.size then some (.cells #[z0,z1,z2,z3,z4] t) else w.heap[b]?:=ax w _ b
 rw[e0,ax]
 by_cases e:b=w.heap.size
 ·simp only[if_pos e];rfl
 ·simp only[if_neg e]
def aA (w:World)(o:Obj):(w.alloc o).heap.size=w.heap.size+1:=Array.size_push _
def ar (W:World)(τ:Tape)(d:Nat)(a:Addr):(on W τ d).cell? a=W.cell? a:=rfl
def ak (W:World)(τ:Tape)(d:Nat):(on W τ d).heap.size=W.heap.size:=rfl
def am (W:World)(τ:Tape)(d:Nat)(a:Addr):(on W τ d).frozen? a=W.frozen? a:=rfl
def rz {BB:FuncId->Bool}(hB:BB 39=true){Q:Goroutine->World->Prop}(hQ:∀g w W,Same w W->Q g w->Q g W){cb:Nat}{f:Fn}{fx fc:Array Value}{cs:List Frame}(hcs:cs≠[]){w:World}
  (h:Runs Tryz.prog (Fine Tryz.prog BB) Q (G ((base 39).at ⟨#[.pointer (some ⟨cb,0,none⟩),.func f fx fc,.pointer (some ⟨w.heap.size,0,none⟩),.pointer (some ⟨w.heap.size+1,0,none⟩),undef,undef,undef,undef,undef,undef,undef,undef,undef,undef,undef,undef,undef,undef,undef,undef,undef,undef,undef,undef,undef,undef,undef],[]⟩ [.inRegion o1 [0],.code (.seq (.seq (.region 2 o2 false) (.block 0 (.loop eL))) (.region 10 o10 false))]) cs) ((w.alloc (.cells #[.pointer (some ⟨cb,0,none⟩)] 57)).alloc (.cells #[.func f fx fc] 103))) :
  Runs Tryz.prog (Fine Tryz.prog BB) Q (G (Frame.enter Tryz.prog 39 #[.pointer (some ⟨cb,0,none⟩),.func f fx fc] .normal) cs) w:=by
 rw[enter_at _ Tryz.func39 tJ]
 simp only[Tryz.ntmps39,List.size_toArray,List.length_cons,List.length_nil,Nat.reduceAdd,Nat.reduceSub,Array.replicate_succ,Array.replicate_zero,List.push_toArray,List.append_toArray,List.nil_append,List.cons_append]
 refine Runs.own hQ hB (by kernel_rfl) λτ d=>?_
 rw[stepG_seq]
 simp only[goes_go]
 refine⟨hcs,w,uj,?_⟩
 refine Runs.own hQ hB (by kernel_rfl) λτ d=>?_
 rw[stepG_region]
 simp only[goes_go,o0,eB,Tryz.f39,Option.getD_some,cOps,aw,ag,cIn,List.size_toArray,List.length_cons,List.length_nil,Nat.reduceAdd,Nat.zero_add,List.range,List.range.loop]
 refine⟨hcs,w,uj,?_⟩
 refine Runs.own hQ hB (by kernel_rfl) λτ d=>?_
 refine goes_oper_k rfl rfl (by decide) (λK hK=>?_)
 have q1:=ar
 have q2:=ak
 have q3:=am
 go_simp
 clear q1 q2 q3
 refine hK _ _ ⟨hcs,w.alloc _,⟨rfl,rfl,rfl⟩,?_⟩
 clear hK K
 try walk_nrm
 try simp only[ak]
 refine Runs.own hQ hB (by kernel_rfl) λτ d=>?_
 refine goes_oper_k rfl rfl (by decide) (λK hK=>?_)
 have q1:=ar
 have q2:=ak
 have q3:=am
 go_simp
 clear q1 q2 q3
 refine hK _ _ ⟨hcs,(w.alloc _).alloc _,⟨rfl,rfl,rfl⟩,?_⟩
 clear hK K
 try walk_nrm
 try simp only[ak]
 refine Runs.own hQ hB (by kernel_rfl) λτ d=>?_
 rw[stepG_region_end]
 simp only[goes_go]
 refine⟨hcs,_,uj,?_⟩
 refine Runs.own hQ hB (by kernel_rfl) λτ d=>?_
 rw[stepG_seq]
 simp only[goes_go]
 refine⟨hcs,_,uj,?_⟩
 refine Runs.own hQ hB (by kernel_rfl) λτ d=>?_
 rw[stepG_region]
 have s1:o1.size=1:=rfl
 simp only[goes_go,s1,List.range,List.range.loop]
 refine⟨hcs,_,uj,?_⟩
 exact h
def mW {m:Bool}{a:Act}{k:List Item}{cs:List Frame}{W:World} :
  stepG Tryz.prog m (G ((base 39).at a (.inRegion o1 [0]::k)) cs) W=.go (G ((base 39).at (a.put (some 4) (.pointer (some ⟨W.heap.size,0,none⟩))) (.inRegion o1 []::k)) cs) (W.alloc (.cells #[.int .u64 0,.int .u32 0] 144)) #[]:=by
 obtain⟨o,h1,h2,h3,h4⟩:∃o,o1[0]?=some o/\o.op=.alloc 144/\o.dst=some 4/\o.guard=none:=⟨_,rfl,rfl,rfl,rfl⟩
 have hr:(execOp a.eval o).run Tryz.prog W=.ok (.value (.pointer (some ⟨W.heap.size,0,none⟩))) (W.alloc (.cells #[.int .u64 0,.int .u32 0] 144)):=by
  unfold execOp;rw[h2];go_simp
 have he:(execOp a.eval o).events Tryz.prog W #[]=#[]:=by
  unfold execOp;rw[h2];simp[go_sem]
 rw[stepG_value h1 (by unfold Region.wanted;rw[h4]) (by decide) hr,h3]
 have h5:listed Tryz.prog (base 39).fn a o W=#[]:=by unfold listed;rw[he];exact seen_none _ _
 rw[h5]
def rB {BB:FuncId->Bool}(hB:BB 39=true){Q:Goroutine->World->Prop}(hQ:∀g w W,Same w W->Q g w->Q g W){cb sb n c b2 b3 b4:Nat}{p0 p1:Value}{cs:List Frame}(hcs:cs≠[]){w:World}{v0:Value}
  (g1:w.cell? ⟨b2,0,none⟩=some (.pointer (some ⟨cb,0,none⟩))) (g2:w.cell? ⟨cb,2,none⟩=some (.slice (some ⟨sb,0,none⟩) n c)) (g3:w.cell? ⟨cb,0,none⟩=some v0)
  (h:Runs Tryz.prog (Fine Tryz.prog BB) Q (G ((base 39).at ⟨#[p0,p1,.pointer (some ⟨b2,0,none⟩),.pointer (some ⟨b3,0,none⟩),.pointer (some ⟨b4,0,none⟩),undef,undef,undef,.pointer (some ⟨cb,0,none⟩),.pointer (some ⟨cb,0,none⟩),.pointer (some ⟨cb,2,none⟩),.slice (some ⟨sb,0,none⟩) n c,.int .i64 n,.int .i64 0,undef,undef,undef,undef,undef,undef,undef,undef,undef,undef,undef,undef,undef],[]⟩ [.code eL,.inLoop eL,.inBlock 0,.code (.region 10 o10 false)]) cs) w) :
  Runs Tryz.prog (Fine Tryz.prog BB) Q (G ((base 39).at ⟨#[p0,p1,.pointer (some ⟨b2,0,none⟩),.pointer (some ⟨b3,0,none⟩),.pointer (some ⟨b4,0,none⟩),undef,undef,undef,undef,undef,undef,undef,undef,undef,undef,undef,undef,undef,undef,undef,undef,undef,undef,undef,undef,undef,undef],[]⟩ [.inRegion o1 [],.code (.seq (.seq (.region 2 o2 false) (.block 0 (.loop eL))) (.region 10 o10 false))]) cs) w:=by
 refine Runs.own hQ hB (by kernel_rfl) λτ d=>?_
 rw[stepG_region_end]
 simp only[goes_go]
 refine⟨hcs,w,uj,?_⟩
 refine Runs.own hQ hB (by kernel_rfl) λτ d=>?_
 rw[stepG_seq]
 simp only[goes_go]
 refine⟨hcs,w,uj,?_⟩
 refine Runs.own hQ hB (by kernel_rfl) λτ d=>?_
 rw[stepG_seq]
 simp only[goes_go]
 refine⟨hcs,w,uj,?_⟩
 refine Runs.own hQ hB (by kernel_rfl) λτ d=>?_
 rw[stepG_region]
 simp only[goes_go,o2,eB,Tryz.f39,Option.getD_some,cOps,aw,ag,cIn,List.size_toArray,List.length_cons,List.length_nil,Nat.reduceAdd,Nat.zero_add,List.range,List.range.loop]
 refine⟨hcs,w,uj,?_⟩
 refine Runs.own hQ hB (by kernel_rfl) λτ d=>?_
 refine goes_oper_k rfl rfl (by decide) (λK hK=>?_)
 have q1:=ar
 have q2:=ak
 have q3:=am
 go_simp
 clear q1 q2 q3
 refine hK _ _ ⟨hcs,w,⟨rfl,rfl,rfl⟩,?_⟩
 clear hK K
 try walk_nrm
 try simp only[ak]
 refine Runs.own hQ hB (by kernel_rfl) λτ d=>?_
 refine goes_oper_k rfl rfl (by decide) (λK hK=>?_)
 have q1:=ar
 have q2:=ak
 have q3:=am
 go_simp
 clear q1 q2 q3
 refine hK _ _ ⟨hcs,w,⟨rfl,rfl,rfl⟩,?_⟩
 clear hK K
 try walk_nrm
 try simp only[ak]
 refine Runs.own hQ hB (by kernel_rfl) λτ d=>?_
 refine goes_oper_k rfl rfl (by decide) (λK hK=>?_)
 have q1:=ar
 have q2:=ak
 have q3:=am
 go_simp
 clear q1 q2 q3
 refine hK _ _ ⟨hcs,w,⟨rfl,rfl,rfl⟩,?_⟩
 clear hK K
 try walk_nrm
 try simp only[ak]
 refine Runs.own hQ hB (by kernel_rfl) λτ d=>?_
 refine goes_oper_k rfl rfl (by decide) (λK hK=>?_)
 have q1:=ar
 have q2:=ak
 have q3:=am
 go_simp
 clear q1 q2 q3
 refine hK _ _ ⟨hcs,w,⟨rfl,rfl,rfl⟩,?_⟩
 clear hK K
 try walk_nrm
 try simp only[ak]
 refine Runs.own hQ hB (by kernel_rfl) λτ d=>?_
 refine goes_oper_k rfl rfl (by decide) (λK hK=>?_)
 have q1:=ar
 have q2:=ak
 have q3:=am
 go_simp
 clear q1 q2 q3
 refine hK _ _ ⟨hcs,w,⟨rfl,rfl,rfl⟩,?_⟩
 clear hK K
 try walk_nrm
 try simp only[ak]
 refine Runs.own hQ hB (by kernel_rfl) λτ d=>?_
 refine goes_oper_k rfl rfl (by decide) (λK hK=>?_)
 have q1:=ar
 have q2:=ak
 have q3:=am
 go_simp
 clear q1 q2 q3
 refine hK _ _ ⟨hcs,w,⟨rfl,rfl,rfl⟩,?_⟩
 clear hK K
 try walk_nrm
 try simp only[ak]
 refine Runs.own hQ hB (by kernel_rfl) λτ d=>?_
 rw[stepG_region_end]
 simp only[goes_go]
 refine⟨hcs,w,uj,?_⟩
 refine Runs.own hQ hB (by kernel_rfl) λτ d=>?_
 rw[stepG_block]
 simp only[goes_go]
 refine⟨hcs,w,uj,?_⟩
 refine Runs.own hQ hB (by kernel_rfl) λτ d=>?_
 rw[stepG_loop]
 simp only[goes_go]
 refine⟨hcs,w,uj,?_⟩
 exact h
def sO {BB:FuncId->Bool}(hB:BB 39=true){Q:Goroutine->World->Prop}(hQ:∀g w W,Same w W->Q g w->Q g W){p0 p1 v5 v6 v7 v8 v9 v10 v14 v15 v16 v17 v18 v19 v20 v21 v22 v23 v24 v25 v26:Value}{b2 b3 b4 cb sb n c i:Nat}{cs:List Frame}(hcs:cs≠[]){w:World}{x:Int}(hi:i<n)(g1:w.cell? ⟨b2,0,none⟩=some (.pointer (some ⟨cb,0,none⟩)))(g2:w.cell? ⟨sb,i,none⟩=some (.int .u8 x))(l2:b2<w.heap.size)
  (h:Runs Tryz.prog (Fine Tryz.prog BB) Q (G (Frame.enter Tryz.prog 66 #[.pointer (some ⟨cb,0,none⟩),.pointer (some ⟨w.heap.size,0,none⟩),.int .i64 0] .normal) (((base 39).at ⟨#[p0,p1,.pointer (some ⟨b2,0,none⟩),.pointer (some ⟨b3,0,none⟩),.pointer (some ⟨b4,0,none⟩),v5,.int .u8 x,.pointer (some ⟨w.heap.size,0,none⟩),v8,v9,v10,.slice (some ⟨sb,0,none⟩) n c,.int .i64 n,.int .i64 i,.bool true,.pointer (some ⟨sb,i,none⟩),.int .u8 x,.int .u8 x,.agg #[.int .u8 x,.int .u8 0,.int .u8 0,.int .u8 0,.int .u8 0],.pointer (some ⟨cb,0,none⟩),v20,v21,v22,v23,v24,v25,v26],[]⟩ [.inRegion o6 [1,2,3],.code (.cond (.tmp 22) (.exit 1) .skip),.code (.seq (.region 7 o7 false) (.region 8 o8 false)),.inBlock 1,.code (.region 9 o9 false),.inLoop eL,.inBlock 0,.code (.region 10 o10 false)])::cs)) (w.alloc (.cells #[.int .u8 x,.int .u8 0,.int .u8 0,.int .u8 0,.int .u8 0] 60))) :
  Runs Tryz.prog (Fine Tryz.prog BB) Q (G ((base 39).at ⟨#[p0,p1,.pointer (some ⟨b2,0,none⟩),.pointer (some ⟨b3,0,none⟩),.pointer (some ⟨b4,0,none⟩),v5,v6,v7,v8,v9,v10,.slice (some ⟨sb,0,none⟩) n c,.int .i64 n,.int .i64 i,v14,v15,v16,v17,v18,v19,v20,v21,v22,v23,v24,v25,v26],[]⟩ [.code eL,.inLoop eL,.inBlock 0,.code (.region 10 o10 false)]) cs) w:=by
 refine Runs.own hQ hB (by kernel_rfl) λτ d=>?_
 rw[kC]
 simp only[goes_go]
 refine⟨hcs,w,uj,?_⟩
 refine Runs.own hQ hB (by kernel_rfl) λτ d=>?_
 rw[stepG_region]
 simp only[goes_go,o3,eB,Tryz.f39,Option.getD_some,cOps,aw,ag,cIn,List.size_toArray,List.length_cons,List.length_nil,Nat.reduceAdd,Nat.zero_add,List.range,List.range.loop]
 refine⟨hcs,w,uj,?_⟩
 refine Runs.own hQ hB (by kernel_rfl) λτ d=>?_
 refine goes_oper_k rfl rfl (by decide) (λK hK=>?_)
 have q1:=ar
 have q2:=ak
 have q3:=am
 go_simp
 clear q1 q2 q3
 refine hK _ _ ⟨hcs,w,⟨rfl,rfl,rfl⟩,?_⟩
 clear hK K
 try walk_nrm
 try simp only[ak]
 refine Runs.own hQ hB (by kernel_rfl) λτ d=>?_
 rw[stepG_region_end]
 simp only[goes_go]
 refine⟨hcs,w,uj,?_⟩
 refine Runs.own hQ hB (by kernel_rfl) λτ d=>?_
 rw[stepG_seq]
 simp only[goes_go]
 refine⟨hcs,w,uj,?_⟩
 refine Runs.own hQ hB (by kernel_rfl) λτ d=>?_
 rw[stepG_cond (t:=true) rfl]
 simp only[goes_go,if_true,if_false,Bool.false_eq_true,↓reduceIte]
 refine⟨hcs,w,uj,?_⟩
 refine Runs.own hQ hB (by kernel_rfl) λτ d=>?_
 rw[stepG_skip]
 simp only[goes_go]
 refine⟨hcs,w,uj,?_⟩
 refine Runs.own hQ hB (by kernel_rfl) λτ d=>?_
 rw[stepG_seq]
 simp only[goes_go]
 refine⟨hcs,w,uj,?_⟩
 refine Runs.own hQ hB (by kernel_rfl) λτ d=>?_
 rw[stepG_block]
 simp only[goes_go]
 refine⟨hcs,w,uj,?_⟩
 refine Runs.own hQ hB (by kernel_rfl) λτ d=>?_
 rw[qi]
 simp only[goes_go]
 refine⟨hcs,w,uj,?_⟩
 refine Runs.own hQ hB (by kernel_rfl) λτ d=>?_
 rw[stepG_region]
 simp only[goes_go,o4,eB,Tryz.f39,Option.getD_some,cOps,aw,ag,cIn,List.size_toArray,List.length_cons,List.length_nil,Nat.reduceAdd,Nat.zero_add,List.range,List.range.loop]
 refine⟨hcs,w,uj,?_⟩
 have hi2:((i:Nat):Int).toNat=i:=by omega
 refine Runs.own hQ hB (by kernel_rfl) λτ d=>?_
 refine goes_oper_k rfl rfl (by decide) (λK hK=>?_)
 have q1:=ar
 have q2:=ak
 have q3:=am
 go_simp
 clear q1 q2 q3
 refine hK _ _ ⟨hcs,w,⟨rfl,rfl,rfl⟩,?_⟩
 clear hK K
 try walk_nrm
 try simp only[ak]
 refine Runs.own hQ hB (by kernel_rfl) λτ d=>?_
 refine goes_oper_k rfl rfl (by decide) (λK hK=>?_)
 have q1:=ar
 have q2:=ak
 have q3:=am
 go_simp
 clear q1 q2 q3
 refine hK _ _ ⟨hcs,w,⟨rfl,rfl,rfl⟩,?_⟩
 clear hK K
 try walk_nrm
 try simp only[ak]
 refine Runs.own hQ hB (by kernel_rfl) λτ d=>?_
 refine goes_oper_k rfl rfl (by decide) (λK hK=>?_)
 have q1:=ar
 have q2:=ak
 have q3:=am
 go_simp
 clear q1 q2 q3
 refine hK _ _ ⟨hcs,w,⟨rfl,rfl,rfl⟩,?_⟩
 clear hK K
 try walk_nrm
 try simp only[ak]
 refine Runs.own hQ hB (by kernel_rfl) λτ d=>?_
 rw[stepG_region_end]
 simp only[goes_go]
 refine⟨hcs,w,uj,?_⟩
 refine Runs.own hQ hB (by kernel_rfl) λτ d=>?_
 rw[stepG_seq]
 simp only[goes_go]
 refine⟨hcs,w,uj,?_⟩
 refine Runs.own hQ hB (by kernel_rfl) λτ d=>?_
 rw[stepG_region]
 simp only[goes_go,o5,eB,Tryz.f39,Option.getD_some,cOps,aw,ag,cIn,List.size_toArray,List.length_cons,List.length_nil,Nat.reduceAdd,Nat.zero_add,List.range,List.range.loop]
 refine⟨hcs,w,uj,?_⟩
 refine Runs.own hQ hB (by kernel_rfl) λτ d=>?_
 refine goes_oper_k rfl rfl (by decide) (λK hK=>?_)
 have q1:=ar
 have q2:=ak
 have q3:=am
 go_simp
 clear q1 q2 q3
 refine hK _ _ ⟨hcs,w,⟨rfl,rfl,rfl⟩,?_⟩
 clear hK K
 try walk_nrm
 try simp only[ak]
 refine Runs.own hQ hB (by kernel_rfl) λτ d=>?_
 refine goes_oper_k rfl rfl (by decide) (λK hK=>?_)
 have q1:=ar
 have q2:=ak
 have q3:=am
 go_simp
 clear q1 q2 q3
 refine hK _ _ ⟨hcs,w,⟨rfl,rfl,rfl⟩,?_⟩
 clear hK K
 try walk_nrm
 try simp only[ak]
 refine Runs.own hQ hB (by kernel_rfl) λτ d=>?_
 refine goes_oper_k rfl rfl (by decide) (λK hK=>?_)
 have q1:=ar
 have q2:=ak
 have q3:=am
 go_simp
 clear q1 q2 q3
 refine hK _ _ ⟨hcs,w.alloc _,⟨rfl,rfl,rfl⟩,?_⟩
 clear hK K
 try walk_nrm
 try simp only[ak]
 refine Runs.own hQ hB (by kernel_rfl) λτ d=>?_
 refine goes_oper_k rfl rfl (by decide) (λK hK=>?_)
 have q1:=ar
 have q2:=ak
 have q3:=am
 go_simp
 clear q1 q2 q3
 refine hK _ _ ⟨hcs,_,oC w τ d _ _ _ _ _ _ _ _ _ _ _,?_⟩
 clear hK K
 try walk_nrm
 generalize hW:w.alloc (.cells #[.int .u8 x,.int .u8 0,.int .u8 0,.int .u8 0,.int .u8 0] 60)=W at h ⊢
 have g3:W.cell? ⟨b2,0,none⟩=some (.pointer (some ⟨cb,0,none⟩)):=by rw[<-hW,<-g1];simp only[ry];rw[if_neg (by omega)]
 clear g1 g2
 refine Runs.own hQ hB (by kernel_rfl) λτ d=>?_
 rw[stepG_region_end]
 simp only[goes_go]
 refine⟨hcs,W,uj,?_⟩
 refine Runs.own hQ hB (by kernel_rfl) λτ d=>?_
 rw[stepG_seq]
 simp only[goes_go]
 refine⟨hcs,W,uj,?_⟩
 refine Runs.own hQ hB (by kernel_rfl) λτ d=>?_
 rw[stepG_seq]
 simp only[goes_go]
 refine⟨hcs,W,uj,?_⟩
 refine Runs.own hQ hB (by kernel_rfl) λτ d=>?_
 rw[stepG_region]
 simp only[goes_go,o6,eB,Tryz.f39,Option.getD_some,cOps,aw,ag,cIn,List.size_toArray,List.length_cons,List.length_nil,Nat.reduceAdd,Nat.zero_add,List.range,List.range.loop]
 refine⟨hcs,W,uj,?_⟩
 refine Runs.own hQ hB (by kernel_rfl) λτ d=>?_
 refine goes_oper_k rfl rfl (by decide) (λK hK=>?_)
 have q1:=ar
 have q2:=ak
 have q3:=am
 go_simp
 clear q1 q2 q3
 refine hK _ _ ⟨hcs,W,⟨rfl,rfl,rfl⟩,?_⟩
 clear hK K
 try walk_nrm
 try simp only[ak]
 refine Runs.own hQ hB (by kernel_rfl) λτ d=>?_
 refine ay rfl rfl (by decide) rfl Tryz.func66 (by kernel_rfl) (by kernel_rfl) ⟨qj _ _,W,uj,?_⟩
 try walk_nrm
 exact h
def rC {BB:FuncId->Bool}(hB:BB 39=true){Q:Goroutine->World->Prop}(hQ:∀g w W,Same w W->Q g w->Q g W){p0 p1 v5 v6 v7 v8 v9 v10 v14 v15 v16 v17 v18 v19 v20 v21 v22 v23 v24 v25 v26:Value}{b2 b3 b4 cb sb n c i:Nat}{cs:List Frame}(hcs:cs≠[]){w:World}{k:Int}{y1 y2:Value}(hw:IntKind.i64.wrap ((i:Int)+1)=((i+1:Nat):Int))(hk:k≠0)
  (h:Runs Tryz.prog (Fine Tryz.prog BB) Q (G ((base 39).at ⟨#[p0,p1,.pointer (some ⟨b2,0,none⟩),.pointer (some ⟨b3,0,none⟩),.pointer (some ⟨b4,0,none⟩),v5,v6,v7,v8,v9,v10,.slice (some ⟨sb,0,none⟩) n c,.int .i64 n,.int .i64 ((i+1:Nat):Int),v14,v15,v16,v17,v18,v19,.agg #[.int .i64 k,y1,y2],.int .i64 k,.bool true,v23,v24,.int .i64 ((i+1:Nat):Int),v26],[]⟩ [.code eL,.inLoop eL,.inBlock 0,.code (.region 10 o10 false)]) cs) w) :
  Runs Tryz.prog (Fine Tryz.prog BB) Q (G ((base 39).at ⟨#[p0,p1,.pointer (some ⟨b2,0,none⟩),.pointer (some ⟨b3,0,none⟩),.pointer (some ⟨b4,0,none⟩),v5,v6,v7,v8,v9,v10,.slice (some ⟨sb,0,none⟩) n c,.int .i64 n,.int .i64 i,v14,v15,v16,v17,v18,v19,.agg #[.int .i64 k,y1,y2],v21,v22,v23,v24,v25,v26],[]⟩ [.inRegion o6 [2,3],.code (.cond (.tmp 22) (.exit 1) .skip),.code (.seq (.region 7 o7 false) (.region 8 o8 false)),.inBlock 1,.code (.region 9 o9 false),.inLoop eL,.inBlock 0,.code (.region 10 o10 false)]) cs) w:=by
 simp only[o6,eB,Tryz.f39,Option.getD_some,cOps,aw,ag,cIn]
 refine Runs.own hQ hB (by kernel_rfl) λτ d=>?_
 refine goes_oper_k rfl rfl (by decide) (λK hK=>?_)
 have q1:=ar
 have q2:=ak
 have q3:=am
 go_simp
 clear q1 q2 q3
 refine hK _ _ ⟨hcs,w,⟨rfl,rfl,rfl⟩,?_⟩
 clear hK K
 try walk_nrm
 try simp only[ak]
 refine Runs.own hQ hB (by kernel_rfl) λτ d=>?_
 refine goes_oper_k rfl rfl (by decide) (λK hK=>?_)
 have q1:=ar
 have q2:=ak
 have q3:=am
 go_simp
 clear q1 q2 q3
 refine hK _ _ ⟨hcs,w,⟨rfl,rfl,rfl⟩,?_⟩
 clear hK K
 try walk_nrm
 try simp only[ak]
 refine Runs.own hQ hB (by kernel_rfl) λτ d=>?_
 rw[stepG_region_end]
 simp only[goes_go]
 refine⟨hcs,w,uj,?_⟩
 refine Runs.own hQ hB (by kernel_rfl) λτ d=>?_
 rw[stepG_cond (t:=true) (by simp[Act.eval,hk])]
 simp only[goes_go,if_true,if_false,Bool.false_eq_true,↓reduceIte]
 refine⟨hcs,w,uj,?_⟩
 refine Runs.own hQ hB (by kernel_rfl) λτ d=>?_
 rw[stepG_exit rfl]
 simp only[goes_go]
 refine⟨hcs,w,uj,?_⟩
 refine Runs.own hQ hB (by kernel_rfl) λτ d=>?_
 rw[stepG_region]
 simp only[goes_go,o9,eB,Tryz.f39,Option.getD_some,cOps,aw,ag,cIn,List.size_toArray,List.length_cons,List.length_nil,Nat.reduceAdd,Nat.zero_add,List.range,List.range.loop]
 refine⟨hcs,w,uj,?_⟩
 refine Runs.own hQ hB (by kernel_rfl) λτ d=>?_
 refine goes_oper_k rfl rfl (by decide) (λK hK=>?_)
 have q1:=ar
 have q2:=ak
 have q3:=am
 go_simp
 clear q1 q2 q3
 refine hK _ _ ⟨hcs,w,⟨rfl,rfl,rfl⟩,?_⟩
 clear hK K
 try walk_nrm
 try simp only[ak]
 try rw[hw]
 refine Runs.own hQ hB (by kernel_rfl) λτ d=>?_
 refine goes_oper_k rfl rfl (by decide) (λK hK=>?_)
 have q1:=ar
 have q2:=ak
 have q3:=am
 go_simp
 clear q1 q2 q3
 refine hK _ _ ⟨hcs,w,⟨rfl,rfl,rfl⟩,?_⟩
 clear hK K
 try walk_nrm
 try simp only[ak]
 refine Runs.own hQ hB (by kernel_rfl) λτ d=>?_
 rw[stepG_region_end]
 simp only[goes_go]
 refine⟨hcs,w,uj,?_⟩
 refine Runs.own hQ hB (by kernel_rfl) λτ d=>?_
 rw[stepG_inLoop]
 simp only[goes_go]
 refine⟨hcs,w,uj,?_⟩
 simpa [show(k != 0)=true by simp[hk]] using h
def rD {BB:FuncId->Bool}(hB:BB 39=true){Q:Goroutine->World->Prop}(hQ:∀g w W,Same w W->Q g w->Q g W){p0 p1 v5 v6 v7 v8 v9 v10 v14 v15 v16 v17 v18 v19 v20 v21 v22 v23 v24 v25 v26:Value}{b2 b3 b4 cb sb n c i:Nat}{cs:List Frame}(hcs:cs≠[]){w:World}{y1 y2:Value}
  (h:Runs Tryz.prog (Fine Tryz.prog BB) Q (G (Frame.enter Tryz.prog 67 #[.pointer (some ⟨b4,0,none⟩),.int .i64 1] .normal) (((base 39).at ⟨#[p0,p1,.pointer (some ⟨b2,0,none⟩),.pointer (some ⟨b3,0,none⟩),.pointer (some ⟨b4,0,none⟩),v5,v6,v7,v8,v9,v10,.slice (some ⟨sb,0,none⟩) n c,.int .i64 n,.int .i64 i,v14,v15,v16,v17,v18,v19,.agg #[.int .i64 0,y1,y2],.int .i64 0,.bool false,v23,v24,v25,v26],[]⟩ [.inRegion o7 [0],.code (.region 8 o8 false),.inBlock 1,.code (.region 9 o9 false),.inLoop eL,.inBlock 0,.code (.region 10 o10 false)])::cs)) w) :
  Runs Tryz.prog (Fine Tryz.prog BB) Q (G ((base 39).at ⟨#[p0,p1,.pointer (some ⟨b2,0,none⟩),.pointer (some ⟨b3,0,none⟩),.pointer (some ⟨b4,0,none⟩),v5,v6,v7,v8,v9,v10,.slice (some ⟨sb,0,none⟩) n c,.int .i64 n,.int .i64 i,v14,v15,v16,v17,v18,v19,.agg #[.int .i64 0,y1,y2],v21,v22,v23,v24,v25,v26],[]⟩ [.inRegion o6 [2,3],.code (.cond (.tmp 22) (.exit 1) .skip),.code (.seq (.region 7 o7 false) (.region 8 o8 false)),.inBlock 1,.code (.region 9 o9 false),.inLoop eL,.inBlock 0,.code (.region 10 o10 false)]) cs) w:=by
 simp only[o6,eB,Tryz.f39,Option.getD_some,cOps,aw,ag,cIn]
 refine Runs.own hQ hB (by kernel_rfl) λτ d=>?_
 refine goes_oper_k rfl rfl (by decide) (λK hK=>?_)
 have q1:=ar
 have q2:=ak
 have q3:=am
 go_simp
 clear q1 q2 q3
 refine hK _ _ ⟨hcs,w,⟨rfl,rfl,rfl⟩,?_⟩
 clear hK K
 try walk_nrm
 try simp only[ak]
 refine Runs.own hQ hB (by kernel_rfl) λτ d=>?_
 refine goes_oper_k rfl rfl (by decide) (λK hK=>?_)
 have q1:=ar
 have q2:=ak
 have q3:=am
 go_simp
 clear q1 q2 q3
 refine hK _ _ ⟨hcs,w,⟨rfl,rfl,rfl⟩,?_⟩
 clear hK K
 try walk_nrm
 try simp only[ak]
 refine Runs.own hQ hB (by kernel_rfl) λτ d=>?_
 rw[stepG_region_end]
 simp only[goes_go]
 refine⟨hcs,w,uj,?_⟩
 refine Runs.own hQ hB (by kernel_rfl) λτ d=>?_
 rw[stepG_cond (t:=false) rfl]
 simp only[goes_go,if_true,if_false,Bool.false_eq_true,↓reduceIte]
 refine⟨hcs,w,uj,?_⟩
 refine Runs.own hQ hB (by kernel_rfl) λτ d=>?_
 rw[stepG_skip]
 simp only[goes_go]
 refine⟨hcs,w,uj,?_⟩
 refine Runs.own hQ hB (by kernel_rfl) λτ d=>?_
 rw[stepG_seq]
 simp only[goes_go]
 refine⟨hcs,w,uj,?_⟩
 refine Runs.own hQ hB (by kernel_rfl) λτ d=>?_
 rw[stepG_region]
 have s7:o7.size=1:=rfl
 simp only[goes_go,s7,List.range,List.range.loop]
 refine⟨hcs,w,uj,?_⟩
 refine Runs.own hQ hB (by kernel_rfl) λτ d=>?_
 refine ay rfl rfl (by decide) rfl Tryz.func67 (by kernel_rfl) (by kernel_rfl) ⟨qj _ _,w,uj,?_⟩
 try walk_nrm
 simpa using h
def sP {BB:FuncId->Bool}(hB:BB 39=true){Q:Goroutine->World->Prop}(hQ:∀g w W,Same w W->Q g w->Q g W){p0 p1 v5 v6 v7 v8 v9 v10 v14 v15 v16 v17 v18 v19 v20 v21 v22 v23 v24 v25 v26:Value}{b2 b3 b4 cb sb n c i:Nat}{cs:List Frame}(hcs:cs≠[]){w:World}
  (h:Runs Tryz.prog (Fine Tryz.prog BB) Q (G ((base 39).at ⟨#[p0,p1,.pointer (some ⟨b2,0,none⟩),.pointer (some ⟨b3,0,none⟩),.pointer (some ⟨b4,0,none⟩),v5,v6,v7,v8,v9,v10,.slice (some ⟨sb,0,none⟩) n c,.int .i64 n,.int .i64 i,v14,v15,v16,v17,v18,v19,v20,v21,v22,v23,.func (.func 68) #[] #[.pointer (some ⟨b4,0,none⟩),.pointer (some ⟨b2,0,none⟩),v7,.pointer (some ⟨b3,0,none⟩)],v25,v26],[]⟩ [.inRegion o8 [1],.inBlock 1,.code (.region 9 o9 false),.inLoop eL,.inBlock 0,.code (.region 10 o10 false)]) cs) w) :
  Runs Tryz.prog (Fine Tryz.prog BB) Q (G ((base 39).at ⟨#[p0,p1,.pointer (some ⟨b2,0,none⟩),.pointer (some ⟨b3,0,none⟩),.pointer (some ⟨b4,0,none⟩),v5,v6,v7,v8,v9,v10,.slice (some ⟨sb,0,none⟩) n c,.int .i64 n,.int .i64 i,v14,v15,v16,v17,v18,v19,v20,v21,v22,v23,v24,v25,v26],[]⟩ [.inRegion o7 [],.code (.region 8 o8 false),.inBlock 1,.code (.region 9 o9 false),.inLoop eL,.inBlock 0,.code (.region 10 o10 false)]) cs) w:=by
 refine Runs.own hQ hB (by kernel_rfl) λτ d=>?_
 rw[stepG_region_end]
 simp only[goes_go]
 refine⟨hcs,w,uj,?_⟩
 refine Runs.own hQ hB (by kernel_rfl) λτ d=>?_
 rw[stepG_region]
 have s8:o8.size=2:=rfl
 simp only[goes_go,s8,List.range,List.range.loop]
 refine⟨hcs,w,uj,?_⟩
 simp only[o8,eB,Tryz.f39,Option.getD_some,cOps,aw,ag,cIn] at h ⊢
 refine Runs.own hQ hB (by kernel_rfl) λτ d=>?_
 refine goes_oper_k rfl rfl (by decide) (λK hK=>?_)
 have q1:=ar
 have q2:=ak
 have q3:=am
 go_simp
 clear q1 q2 q3
 refine hK _ _ ⟨hcs,w,⟨rfl,rfl,rfl⟩,?_⟩
 clear hK K
 try walk_nrm
 try simp only[ak]
 exact h
def sQ {BB:FuncId->Bool}(hB:BB 39=true){Q:Goroutine->World->Prop}(hQ:∀g w W,Same w W->Q g w->Q g W){p0 p1 v5 v6 v7 v8 v9 v10 v14 v15 v16 v17 v18 v19 v20 v21 v22 v23 v24 v25 v26:Value}{b2 b3 b4 cb sb n c i:Nat}{cs:List Frame}(hcs:cs≠[]){w:World}(hw:IntKind.i64.wrap ((i:Int)+1)=((i+1:Nat):Int))
  (h:Runs Tryz.prog (Fine Tryz.prog BB) Q (G ((base 39).at ⟨#[p0,p1,.pointer (some ⟨b2,0,none⟩),.pointer (some ⟨b3,0,none⟩),.pointer (some ⟨b4,0,none⟩),v5,v6,v7,v8,v9,v10,.slice (some ⟨sb,0,none⟩) n c,.int .i64 n,.int .i64 ((i+1:Nat):Int),v14,v15,v16,v17,v18,v19,v20,v21,v22,v23,v24,.int .i64 ((i+1:Nat):Int),v26],[]⟩ [.code eL,.inLoop eL,.inBlock 0,.code (.region 10 o10 false)]) cs) w) :
  Runs Tryz.prog (Fine Tryz.prog BB) Q (G ((base 39).at ⟨#[p0,p1,.pointer (some ⟨b2,0,none⟩),.pointer (some ⟨b3,0,none⟩),.pointer (some ⟨b4,0,none⟩),v5,v6,v7,v8,v9,v10,.slice (some ⟨sb,0,none⟩) n c,.int .i64 n,.int .i64 i,v14,v15,v16,v17,v18,v19,v20,v21,v22,v23,v24,v25,v26],[]⟩ [.inRegion o8 [],.inBlock 1,.code (.region 9 o9 false),.inLoop eL,.inBlock 0,.code (.region 10 o10 false)]) cs) w:=by
 refine Runs.own hQ hB (by kernel_rfl) λτ d=>?_
 rw[stepG_region_end]
 simp only[goes_go]
 refine⟨hcs,w,uj,?_⟩
 refine Runs.own hQ hB (by kernel_rfl) λτ d=>?_
 rw[stepG_inBlock]
 simp only[goes_go]
 refine⟨hcs,w,uj,?_⟩
 refine Runs.own hQ hB (by kernel_rfl) λτ d=>?_
 rw[stepG_region]
 simp only[goes_go,o9,eB,Tryz.f39,Option.getD_some,cOps,aw,ag,cIn,List.size_toArray,List.length_cons,List.length_nil,Nat.reduceAdd,Nat.zero_add,List.range,List.range.loop]
 refine⟨hcs,w,uj,?_⟩
 refine Runs.own hQ hB (by kernel_rfl) λτ d=>?_
 refine goes_oper_k rfl rfl (by decide) (λK hK=>?_)
 have q1:=ar
 have q2:=ak
 have q3:=am
 go_simp
 clear q1 q2 q3
 refine hK _ _ ⟨hcs,w,⟨rfl,rfl,rfl⟩,?_⟩
 clear hK K
 try walk_nrm
 try simp only[ak]
 try rw[hw]
 refine Runs.own hQ hB (by kernel_rfl) λτ d=>?_
 refine goes_oper_k rfl rfl (by decide) (λK hK=>?_)
 have q1:=ar
 have q2:=ak
 have q3:=am
 go_simp
 clear q1 q2 q3
 refine hK _ _ ⟨hcs,w,⟨rfl,rfl,rfl⟩,?_⟩
 clear hK K
 try walk_nrm
 try simp only[ak]
 refine Runs.own hQ hB (by kernel_rfl) λτ d=>?_
 rw[stepG_region_end]
 simp only[goes_go]
 refine⟨hcs,w,uj,?_⟩
 refine Runs.own hQ hB (by kernel_rfl) λτ d=>?_
 rw[stepG_inLoop]
 simp only[goes_go]
 refine⟨hcs,w,uj,?_⟩
 exact h
def sR {BB:FuncId->Bool}(hB:BB 39=true){Q:Goroutine->World->Prop}(hQ:∀g w W,Same w W->Q g w->Q g W){p0 p1 v5 v6 v7 v8 v9 v10 v14 v15 v16 v17 v18 v19 v20 v21 v22 v23 v24 v25 v26:Value}{b2 b3 b4 cb sb n c i:Nat}{cs:List Frame}(hcs:cs≠[]){w:World}(hi:¬i<n)
  (h:Runs Tryz.prog (Fine Tryz.prog BB) Q (G (Frame.enter Tryz.prog 70 #[.pointer (some ⟨b4,0,none⟩)] .normal) (((base 39).at ⟨#[p0,p1,.pointer (some ⟨b2,0,none⟩),.pointer (some ⟨b3,0,none⟩),.pointer (some ⟨b4,0,none⟩),v5,v6,v7,v8,v9,v10,.slice (some ⟨sb,0,none⟩) n c,.int .i64 n,.int .i64 i,.bool false,v15,v16,v17,v18,v19,v20,v21,v22,v23,v24,v25,v26],[]⟩ [.inRegion o10 [0]])::cs)) w) :
  Runs Tryz.prog (Fine Tryz.prog BB) Q (G ((base 39).at ⟨#[p0,p1,.pointer (some ⟨b2,0,none⟩),.pointer (some ⟨b3,0,none⟩),.pointer (some ⟨b4,0,none⟩),v5,v6,v7,v8,v9,v10,.slice (some ⟨sb,0,none⟩) n c,.int .i64 n,.int .i64 i,v14,v15,v16,v17,v18,v19,v20,v21,v22,v23,v24,v25,v26],[]⟩ [.code eL,.inLoop eL,.inBlock 0,.code (.region 10 o10 false)]) cs) w:=by
 refine Runs.own hQ hB (by kernel_rfl) λτ d=>?_
 rw[kC]
 simp only[goes_go]
 refine⟨hcs,w,uj,?_⟩
 refine Runs.own hQ hB (by kernel_rfl) λτ d=>?_
 rw[stepG_region]
 simp only[goes_go,o3,eB,Tryz.f39,Option.getD_some,cOps,aw,ag,cIn,List.size_toArray,List.length_cons,List.length_nil,Nat.reduceAdd,Nat.zero_add,List.range,List.range.loop]
 refine⟨hcs,w,uj,?_⟩
 refine Runs.own hQ hB (by kernel_rfl) λτ d=>?_
 refine goes_oper_k rfl rfl (by decide) (λK hK=>?_)
 have q1:=ar
 have q2:=ak
 have q3:=am
 go_simp
 clear q1 q2 q3
 refine hK _ _ ⟨hcs,w,⟨rfl,rfl,rfl⟩,?_⟩
 clear hK K
 try walk_nrm
 try simp only[ak]
 refine Runs.own hQ hB (by kernel_rfl) λτ d=>?_
 rw[stepG_region_end]
 simp only[goes_go]
 refine⟨hcs,w,uj,?_⟩
 refine Runs.own hQ hB (by kernel_rfl) λτ d=>?_
 rw[stepG_seq]
 simp only[goes_go]
 refine⟨hcs,w,uj,?_⟩
 refine Runs.own hQ hB (by kernel_rfl) λτ d=>?_
 rw[stepG_cond (t:=false) rfl]
 simp only[goes_go,if_true,if_false,Bool.false_eq_true,↓reduceIte]
 refine⟨hcs,w,uj,?_⟩
 refine Runs.own hQ hB (by kernel_rfl) λτ d=>?_
 rw[stepG_exit rfl]
 simp only[goes_go]
 refine⟨hcs,w,uj,?_⟩
 refine Runs.own hQ hB (by kernel_rfl) λτ d=>?_
 rw[stepG_region]
 have s10:o10.size=1:=rfl
 simp only[goes_go,s10,List.range,List.range.loop]
 refine⟨hcs,w,uj,?_⟩
 refine Runs.own hQ hB (by kernel_rfl) λτ d=>?_
 refine ay rfl rfl (by decide) rfl Tryz.func70 (by kernel_rfl) (by kernel_rfl) ⟨qj _ _,w,uj,?_⟩
 try walk_nrm
 exact h
def sT {BB:FuncId->Bool}(hB:BB 39=true){Q:Goroutine->World->Prop}(hQ:∀g w W,Same w W->Q g w->Q g W){a:Act}(hd:a.defers=[]){cs:List Frame}(hcs:cs≠[]){w:World}
  (h:∀a':Act,a'.defers=[]->Q (G { (base 39).at a' [] with mode:=.returning } cs) w) :
  Runs Tryz.prog (Fine Tryz.prog BB) Q (G (((base 39).at a [.inRegion o10 [0]]).finish (.tuple #[])) cs) w:=by
 rw[Frame.finish_at]
 refine Runs.own hQ hB (by kernel_rfl) λτ d=>?_
 rw[stepG_region_end]
 simp only[goes_go]
 refine⟨hcs,w,uj,?_⟩
 refine Runs.own hQ hB (by kernel_rfl) λτ d=>?_
 rw[stepG_end]
 simp only[goes_go]
 refine⟨hcs,w,uj,.fin ?_⟩
 refine h _ ?_
 cases(o10[0]?.bind (·.dst))<;>exact hd
end Go.Proofs.YtjmmlkobmhlikaaGreat
namespace Go.Co
open Go.Conc Go.ConcN Go.RowKit Go.Conc.Lib Go.ConcR.Gen Go.ConcN.Gen
open Go.ConcR (KK wgBlock WgAt stA smA rd wr mk Payload Aside2 DC0)
def RL (ty:TypeId)(Wg:Nat)(w w₁:World):Prop:=WgLive ty Wg w->WgLive ty Wg w₁
def RL.refl {ty:TypeId}{Wg:Nat}(w:World):RL ty Wg w w:=id
def RL.trans {ty:TypeId}{Wg:Nat}(a b c:World)(h:RL ty Wg a b)(k:RL ty Wg b c):RL ty Wg a c:=k ∘ h
def rl {ty:TypeId}{Wg:Nat}{w w₁:World}(h:WgLive ty Wg w)(r:RL ty Wg w w₁):WgLive ty Wg w₁:=r h
section
variable (P:Program) (ty:TypeId) (Wg:Nat)
abbrev GW (main:Bool)(Stop:Goroutine->World->Prop)(m:Nat)(g:Goroutine)(w:World):Prop:=Goes P main (RL ty Wg) DC0 Stop m g w
def D3 (g:Goroutine)(w:World):Prop :=
 g.status=.running/\(WgAt ty Wg w 1 0->∃g',stepG P false g w=.go g' (w.setCell (stA Wg) (.int .u64 0)) #[wr (stA Wg)]/\∃m,GW P ty Wg false (AtD4 P ty Wg) m g' (w.setCell (stA Wg) (.int .u64 0)))
def D2 (g:Goroutine)(w:World):Prop :=
 g.status=.running/\(WgAt ty Wg w 1 0->∃g',stepG P false g w=.go g' w #[rd (stA Wg)]/\∃m,GW P ty Wg false (D3 P ty Wg) m g' w)
def D1 (g:Goroutine)(w:World):Prop :=
 g.status=.running/\∀v wt:Nat,wt<=1->v<2147483647->WgAt ty Wg w ((v+1)*KK+wt) 0 ->
  ∃g',stepG P false g w=.go g' (w.setCell (stA Wg) (.int .u64 (v*KK+wt))) #[rd (stA Wg),wr (stA Wg)] /\
   ((v=0/\wt=1)->∃m,GW P ty Wg false (D2 P ty Wg) m g' (w.setCell (stA Wg) (.int .u64 (v*KK+wt))))/\(¬(v=0/\wt=1)->∃q,QuitsD P q 1 g')
def K1 (g:Goroutine)(w:World):Prop :=
 g.status=.running/\∃g',stepG P false g w=.go g' w #[mk .disable]/\∃m,GW P ty Wg false (D1 P ty Wg) m g' w
def R0 (g:Goroutine)(w:World):Prop :=
 g.status=.running/\∃g',stepG P false g w=.go g' w #[mk (.releaseMerge (stA Wg))]/\∃m,GW P ty Wg false (K1 P ty Wg) m g' w
def AKe (Next:Goroutine->World->Prop)(g:Goroutine)(w:World):Prop:=g.status=.running/\∃g',stepG P true g w=.go g' w #[mk .enable]/\∃m,GW P ty Wg true Next m g' w
def ARr (Next:Goroutine->World->Prop)(g:Goroutine)(w:World):Prop:=g.status=.running/\∃g',stepG P true g w=.go g' w #[mk (.read (smA Wg))]/\∃m,GW P ty Wg true (AKe P ty Wg Next) m g' w
def AA1 (Next:Goroutine->World->Prop)(g:Goroutine)(w:World):Prop :=
 g.status=.running/\∀v:Nat,v<2147483647->WgAt ty Wg w (v*KK) 0->∃g',stepG P true g w=.go g' (w.setCell (stA Wg) (.int .u64 ((v+1)*KK))) #[rd (stA Wg),wr (stA Wg)] /\
  (v=0->∃m,GW P ty Wg true (ARr P ty Wg Next) m g' (w.setCell (stA Wg) (.int .u64 ((v+1)*KK))))/\(v≠0->∃m,GW P ty Wg true (AKe P ty Wg Next) m g' (w.setCell (stA Wg) (.int .u64 ((v+1)*KK))))
def AKd (Next:Goroutine->World->Prop)(g:Goroutine)(w:World):Prop:=g.status=.running/\∃g',stepG P true g w=.go g' w #[mk .disable]/\∃m,GW P ty Wg true (AA1 P ty Wg Next) m g' w
def WAcq (Next:Goroutine->World->Prop)(g:Goroutine)(w:World):Prop:=g.status=.running/\∃g',stepG P true g w=.go g' w #[mk (.acquire (stA Wg))]/\∃m,GW P ty Wg true Next m g' w
def WKe (Next:Goroutine->World->Prop)(g:Goroutine)(w:World):Prop:=g.status=.running/\∃g',stepG P true g w=.go g' w #[mk .enable]/\∃m,GW P ty Wg true (WAcq P ty Wg Next) m g' w
def W4 (Next:Goroutine->World->Prop)(g:Goroutine)(w:World):Prop:=g.status=.running/\(WgAt ty Wg w 0 0->∃g',stepG P true g w=.go g' w #[rd (stA Wg)]/\∃m,GW P ty Wg true (WKe P ty Wg Next) m g' w)
def W3 (Next:Goroutine->World->Prop)(g:Goroutine)(w:World):Prop :=
 g.status=.running/\g.offers=none/\((∃st,WgAt ty Wg w st 0)->stepG P true g w=.go { g with status:=.blocked } w #[]) /\
  (WgAt ty Wg w 0 1->∃g',stepG P true g w=.go g' (w.setCell (smA Wg) (.int .u32 0)) (semEvents (smA Wg))/\∃m,GW P ty Wg true (W4 P ty Wg Next) m g' (w.setCell (smA Wg) (.int .u32 0)))
def WRw (Next:Goroutine->World->Prop)(g:Goroutine)(w:World):Prop:=g.status=.running/\∃g',stepG P true g w=.go g' w #[mk (.write (smA Wg))]/\∃m,GW P ty Wg true (W3 P ty Wg Next) m g' w
def W2 (Anch Next:Goroutine->World->Prop)(vs:Nat)(g:Goroutine)(w:World):Prop :=
 g.status=.running/\∀v:Nat,v<2147483648->WgAt ty Wg w (v*KK) 0 ->
  (v=vs->∃g',stepG P true g w=.go g' (w.setCell (stA Wg) (.int .u64 (v*KK+1))) #[rd (stA Wg),wr (stA Wg)]/\∃m,GW P ty Wg true (WRw P ty Wg Next) m g' (w.setCell (stA Wg) (.int .u64 (v*KK+1)))) /\
  (v≠vs->∃g',stepG P true g w=.go g' w #[rd (stA Wg)]/\∃m,GW P ty Wg true Anch m g' w)
def W1 (Anch Next:Goroutine->World->Prop)(g:Goroutine)(w:World):Prop :=
 g.status=.running/\∀v:Nat,v<2147483648->WgAt ty Wg w (v*KK) 0->∃g',stepG P true g w=.go g' w #[rd (stA Wg)] /\
  (v=0->∃m,GW P ty Wg true (WKe P ty Wg Next) m g' w)/\(v≠0->∃m,GW P ty Wg true (W2 P ty Wg Anch Next v) m g' w)
def WKd (Anch:Goroutine->World->Prop)(g:Goroutine)(w:World):Prop:=g.status=.running/\∃g',stepG P true g w=.go g' w #[mk .disable]/\∃m,GW P ty Wg true Anch m g' w
end
end Go.Co
namespace Go.Iso
open Go.Conc Go.ConcN
structure TI (Sh:Loc->Prop)(Wr Rd:Nat->Loc->Prop)(N:Nat)(t:Trace):Prop where
 quiet:Quiet Sh t
 own:∀k,k<N->∀l,Wr k l->Perm t k l
 rd:∀k,k<N->∀l,Rd k l->PermW t k l
 nr:∀said,¬Race said t
 gs:∀(i:Nat) (op:MemOp),t[i]?=some op->op.g<N
def fT (t:Trace)(l:Loc):Prop:=∀i a,touchAt t i=some a->a.loc≠l
section
variable {Sh:Loc->Prop} {Wr Rd Wr' Rd':Nat->Loc->Prop} {N k:Nat} {t u:Trace}
def OkOp (Sh:Loc->Prop)(Wr Rd:Nat->Loc->Prop)(k:Nat)(op:MemOp):Prop :=
 op.g=k/\∀x,op.act.touch?=some x->x.loc.isMemory=false\/(Sh x.loc/\x.kind≠.plain/\(x.kind=.said->k=0))\/(¬Sh x.loc/\(x.write=true->Wr k x.loc)/\(x.write=false->Rd k x.loc))
def TI.app (h:TI Sh Wr Rd N t)(hk:k<N)(hu:∀op∈u,OkOp Sh Wr' Rd' k op)
  (others:∀j,j≠k->∀l,(Wr' j l->Wr j l)/\(Rd' j l->Rd j l)) (mineW:∀l,Wr' k l->Wr k l\/fT t l) (mineR:∀l,Rd' k l->Rd k l\/fT t l)
  (sh:∀j l,Sh l->¬Wr' j l/\¬Rd' j l) (mem:∀l,(Sh l\/∃j,Wr' j l\/Rd' j l)->l.isMemory=true) (apart:∀j,j≠k->j<N->∀l,(Wr' k l->¬Rd' j l/\¬Wr' j l)/\(Rd' k l->¬Wr' j l)):TI Sh Wr' Rd' N (t++u):=by
 have perm:∀l,Wr' k l->Perm t k l:=λl hl=>(mineW l hl).elim (h.own k hk l) λhf i a ha e=>absurd e (hf i a ha)
 have permW:∀l,Rd' k l->PermW t k l:=λl hl=>(mineR l hl).elim (h.rd k hk l) λhf i a ha e=>absurd e (hf i a ha)
 refine⟨h.quiet.app λop hop x hx hs=>?_,λj hj l hl=>?_,λj hj l hl=>?_,λsaid=>?_,λi op hi=>?_⟩
 ·rcases(hu op hop).2 x hx with hm|⟨_,h1,h2⟩|⟨hn,_⟩
  ·rw[mem _ (.inl hs)] at hm;cases hm
  ·exact⟨h1,λe=>(hu op hop).1.trans (h2 e)⟩
  ·exact absurd hs hn
 ·by_cases e:j=k
  ·subst e
   exact(perm l hl).app λop hop _ _ _=>(hu op hop).1
  ·refine(h.own j hj l ((others j e l).1 hl)).app λop hop b hb e'=>?_
   rcases(hu op hop).2 b hb with hm|⟨hs,_⟩|⟨_,h1,h2⟩
   ·rw[e',mem _ (.inr ⟨j,.inl hl⟩)] at hm;cases hm
   ·exact absurd hl (sh j l (e'▸hs)).1
   ·cases hw:b.write with
    |true=>exact absurd hl ((apart j e hj l).1 (e'▸h1 hw)).2
    |false=>exact absurd hl ((apart j e hj l).2 (e'▸h2 hw))
 ·by_cases e:j=k
  ·subst e
   exact(permW l hl).app λop hop _ _ _ _=>(hu op hop).1
  ·refine(h.rd j hj l ((others j e l).2 hl)).app λop hop b hb e' hw=>?_
   rcases(hu op hop).2 b hb with hm|⟨hs,_⟩|⟨_,h1,_⟩
   ·rw[e',mem _ (.inr ⟨j,.inr hl⟩)] at hm;cases hm
   ·exact absurd hl (sh j l (e'▸hs)).2
   ·exact absurd hl ((apart j e hj l).1 (e'▸h1 hw)).1
 ·refine noRace_append (h.nr said) (λop hop=>(hu op hop).1) (λi a ha op hop b hb hc=>?_)
  rcases(hu op hop).2 b hb with hm|⟨hs,h1,h2⟩|⟨_,h1,h2⟩
  ·have:=hc.2.1;rw[hc.1,hm] at this;cases this
  ·exact h.quiet.known hs h1 h2 i a ha hc
  ·cases hbw:b.write with
   |true=>exact perm b.loc (h1 hbw) i a ha hc.1
   |false=>exact permW b.loc (h2 hbw) i a ha hc.1 (hc.2.2.1.resolve_right (by simp[hbw]))
 ·rcases getElem?_append_cases hi with⟨_,hi'⟩|⟨_,hiu⟩
  ·exact h.gs i op hi'
  ·rw[(hu op hiu).1];exact hk
def TI.mono (h:TI Sh Wr Rd N t)(hw:∀k l,Wr' k l->Wr k l)(hr:∀k l,Rd' k l->Rd k l):TI Sh Wr' Rd' N t :=
 ⟨h.quiet,λk hk l hl=>h.own k hk l (hw k l hl),λk hk l hl=>h.rd k hk l (hr k l hl),h.nr,h.gs⟩
def TI.fork (h:TI Sh Wr Rd N t){x y:MemOp}(hN:0<N)(hx:x.g=0/\x.act=.go N)(hy:y.g=N/\y.act=.start)(h0:Deaf t 0=0)
  (others:∀j,j<N->∀l,(Wr' j l->Wr j l)/\(Rd' j l->Rd j l)) (child:∀l,(Wr' N l->Wr 0 l)/\(Rd' N l->Rd 0 l)):TI Sh Wr' Rd' (N+1) (t++#[x,y]):=by
 have hk:Deaf t N=0:=Deaf_absent λi op hi e=>by have:=h.gs i op hi;omega
 have hnt:∀op∈#[x,y],∀b,op.act.touch?=some b->False:=by
  intro op hop b hb
  simp only[List.mem_toArray,List.mem_cons,List.not_mem_nil,or_false] at hop
  rcases hop with rfl|rfl
  ·rw[hx.2] at hb;cases hb
  ·rw[hy.2] at hb;cases hb
 have old:∀ {i:Nat} {a:Touch},touchAt (t++#[x,y]) i=some a->touchAt t i=some a:=by
  intro i a ha
  obtain⟨z,hz,hza⟩:=touch_of ha
  rcases getElem?_append_cases hz with⟨_,hz'⟩|⟨_,hzu⟩
  ·rw[touchAt_of hz'];exact hza
  ·exact(hnt z hzu a hza).elim
 refine⟨h.quiet.app λop hop b hb _=>(hnt op hop b hb).elim,λk hkN l hl=>?_,λk hkN l hl=>?_,λsaid=>?_,λi op hi=>?_⟩
 ·rcases Nat.lt_or_ge k N with hlt|hge
  ·exact(h.own k hlt l ((others k hlt l).1 hl)).app λop hop b hb _=>(hnt op hop b hb).elim
  ·obtain rfl:k=N:=by omega
   exact λi a ha e=>fork_knows hx hy h0 hk (h.own 0 hN l ((child l).1 hl) i a (old ha) e)
 ·rcases Nat.lt_or_ge k N with hlt|hge
  ·exact(h.rd k hlt l ((others k hlt l).2 hl)).app λop hop b hb _ _=>(hnt op hop b hb).elim
  ·obtain rfl:k=N:=by omega
   exact λi a ha e hw=>fork_knows hx hy h0 hk (h.rd 0 hN l ((child l).2 hl) i a (old ha) e hw)
 ·have e:t++#[x,y]=(t++#[x])++#[y]:=by apply Array.ext';simp
  rw[e]
  refine noRace_append (g:=N) (noRace_append (g:=0) (h.nr said) (λop hop=>by simp at hop;rw[hop];exact hx.1) (λi a _ op hop b hb _=>(hnt op (by simp at hop ⊢;exact .inl hop) b hb).elim))
   (λop hop=>by simp at hop;rw[hop];exact hy.1) (λi a _ op hop b hb _=>(hnt op (by simp at hop ⊢;exact .inr hop) b hb).elim)
 ·rcases getElem?_append_cases hi with⟨_,hi'⟩|⟨_,hiu⟩
  ·have:=h.gs i op hi';omega
  ·simp only[List.mem_toArray,List.mem_cons,List.not_mem_nil,or_false] at hiu
   rcases hiu with rfl|rfl
   ·rw[hx.1];omega
   ·rw[hy.1];omega
end
end Go.Iso
namespace Go.Co
open Go.Iso Go.Conc Go.ConcN
structure Tr (Sh:Loc->Prop)(Wr Rd:Nat->Loc->Prop)(N:Nat)(Pd:Nat->Nat->Prop)(a:Addr)(t:Trace):Prop where
 ti:TI Sh Wr Rd N t
 norel:NoRelease a t
 cov:∀i x,touchAt t i=some x->x.loc.isMemory=true->Knows t 0 i\/(Sh x.loc/\x.kind=.atomic)\/∃k,t.g? i=some k/\k≠0/\Pd k i
 ho:∀i k,t.g? i=some k->k≠0->t.counts i->(∃q,t.g? q=some 0/\HappensBefore t i q)\/Pd k i
section
variable {Sh:Loc->Prop} {Wr Rd Wr' Rd':Nat->Loc->Prop} {N k:Nat} {Pd Pd':Nat->Nat->Prop} {a:Addr} {t u:Trace}
def tM {i:Nat}{op:MemOp}(h:t[i]?=some op):t.g? i=some op.g:=by simp[Trace.g?,h]
def Tr.app (h:Tr Sh Wr Rd N Pd a t)(hti:TI Sh Wr' Rd' N (t++u))(hg:∀op∈u,op.g=k)(hnr:∀op∈u,op.act≠.mark (.release a))
  (hnew:∀i,t.size<=i->(t++u).g? i=some k->k≠0->Pd k i\/((∀x,touchAt (t++u) i=some x->x.loc.isMemory=true->Sh x.loc/\x.kind=.atomic)/\¬(t++u).counts i)):Tr Sh Wr' Rd' N Pd a (t++u):=by
 refine⟨hti,h.norel.app hnr,λi x hx hm=>?_,λi j hj hne hc=>?_⟩
 ·obtain⟨op,hop,hox⟩:=touch_of hx
  rcases getElem?_append_cases hop with⟨hi,hop'⟩|⟨hi,hopu⟩
  ·rcases h.cov i x (by rw[touchAt_of hop'];exact hox) hm with h1|h1|⟨j,h1,h2⟩
   ·exact .inl (h1.app u)
   ·exact .inr (.inl h1)
   ·exact .inr (.inr ⟨j,by rw[g?_old hi];exact h1,h2⟩)
  ·have hgk:(t++u).g? i=some k:=by rw[tM hop,hg op hopu]
   by_cases h0:k=0
   ·subst h0
    have:=knows_own hop
    rw[hg op hopu] at this
    exact .inl this
   ·rcases hnew i hi hgk h0 with h1|⟨h1,_⟩
    ·exact .inr (.inr ⟨k,hgk,h0,h1⟩)
    ·exact .inr (.inl (h1 x hx hm))
 ·obtain⟨op,hop,hog⟩:=Option.map_eq_some_iff.1 hj
  rcases getElem?_append_cases hop with⟨hi,hop'⟩|⟨hi,hopu⟩
  ·rcases h.ho i j (by rw[g?_old hi] at hj;exact hj) hne ((counts_old hi).1 hc) with⟨q,hq,hb⟩|h1
   ·have hql : q < t.size := by
     obtain⟨z,hz,_⟩:=Option.map_eq_some_iff.1 hq
     exact lt_size_of_getElem? hz
    exact .inl ⟨q,by rw[g?_old hql];exact hq,hb_app u hb⟩
   ·exact .inr h1
  ·have e:k=j:=(hg op hopu).symm.trans hog
   subst e
   rcases hnew i hi hj hne with h1|⟨_,h1⟩
   ·exact .inr h1
   ·exact absurd hc h1
def Tr.repd (h:Tr Sh Wr Rd N Pd a t)(hp:∀k i,i<t.size->Pd k i->Pd' k i):Tr Sh Wr Rd N Pd' a t:=by
 refine⟨h.ti,h.norel,λi x hx hm=>?_,λi j hj hne hc=>?_⟩
 ·rcases h.cov i x hx hm with h1|h1|⟨k,h1,h2,h3⟩
  ·exact .inl h1
  ·exact .inr (.inl h1)
  ·obtain⟨z,hz,_⟩:=Option.map_eq_some_iff.1 h1
   exact .inr (.inr ⟨k,h1,h2,hp k i (lt_size_of_getElem? hz) h3⟩)
 ·rcases h.ho i j hj hne hc with h1|h1
  ·exact .inl h1
  ·obtain⟨z,hz,_⟩:=Option.map_eq_some_iff.1 hj
   exact .inr (hp j i (lt_size_of_getElem? hz) h1)
def Tr.rights (h:Tr Sh Wr Rd N Pd a t)(hw:∀k l,Wr' k l->Wr k l)(hr:∀k l,Rd' k l->Rd k l):Tr Sh Wr' Rd' N Pd a t:=⟨h.ti.mono hw hr,h.norel,h.cov,h.ho⟩
def Tr.fork (h:Tr Sh Wr Rd N Pd a t){x y:MemOp}(hN:0<N)(hx:x.g=0/\x.act=.go N)(hy:y.g=N/\y.act=.start)(h0:Deaf t 0=0)
  (others:∀j,j<N->∀l,(Wr' j l->Wr j l)/\(Rd' j l->Rd j l)) (child:∀l,(Wr' N l->Wr 0 l)/\(Rd' N l->Rd 0 l)):Tr Sh Wr' Rd' (N+1) Pd a (t++#[x,y]):=by
 have hnt:∀op∈#[x,y],op.act.touch?=none:=by
  intro op hop
  simp only[List.mem_toArray,List.mem_cons,List.not_mem_nil,or_false] at hop
  rcases hop with rfl|rfl
  ·rw[hx.2];rfl
  ·rw[hy.2];rfl
 refine⟨h.ti.fork hN hx hy h0 others child,h.norel.app λop hop e=>?_,λi z hz hm=>?_,λi j hj hne hc=>?_⟩
 ·simp only[List.mem_toArray,List.mem_cons,List.not_mem_nil,or_false] at hop
  rcases hop with rfl|rfl
  ·rw[hx.2] at e;cases e
  ·rw[hy.2] at e;cases e
 ·obtain⟨op,hop,hox⟩:=touch_of hz
  rcases getElem?_append_cases hop with⟨hi,hop'⟩|⟨_,hopu⟩
  ·rcases h.cov i z (by rw[touchAt_of hop'];exact hox) hm with h1|h1|⟨j,h1,h2⟩
   ·exact .inl (h1.app _)
   ·exact .inr (.inl h1)
   ·exact .inr (.inr ⟨j,by rw[g?_old hi];exact h1,h2⟩)
  ·rw[hnt op hopu] at hox;cases hox
 ·obtain⟨op,hop,hog⟩:=Option.map_eq_some_iff.1 hj
  rcases getElem?_append_cases hop with⟨hi,hop'⟩|⟨_,hopu⟩
  ·rcases h.ho i j (by rw[g?_old hi] at hj;exact hj) hne ((counts_old hi).1 hc) with⟨q,hq,hb⟩|h1
   ·have hql : q < t.size := by
     obtain⟨z,hz,_⟩:=Option.map_eq_some_iff.1 hq
     exact lt_size_of_getElem? hz
    exact .inl ⟨q,by rw[g?_old hql];exact hq,hb_app _ hb⟩
   ·exact .inr h1
  ·obtain⟨z,hz,_⟩:=hc
   rw[act?_of hop] at hz
   rw[Option.bind_some,hnt op hopu] at hz
   cases hz
def Tr.past (h:Tr Sh Wr Rd N Pd a t){B q:Nat}(hq:t.act? q=some (.mark (.acquire a)))(hg:t.g? q=some 0)(hh:t.heard q)(hd:Deaf t 0=0)(hl:∀op∈t,op.act.low B)
  (hp:∀k i,t.g? i=some k->k≠0->Pd k i->∃r,RelBy a t k r/\r<q/\i<=r):Past Sh B t:=by
 have edge:∀k i,t.g? i=some k->k≠0->Pd k i->HappensBefore t i q:=by
  intro k i hk hne hpd
  obtain⟨r,hr,hrq,hir⟩:=hp k i hk hne hpd
  have e1:HappensBefore t r q:=.single (.inr ⟨.marked hrq (.inr hr.act) hq (λk _ _=>h.norel k),hr.heard,hh⟩)
  rcases Nat.lt_or_ge i r with hlt|hge
  ·exact .trans (.single (.inl ⟨hlt,k,hk,hr.g⟩)) e1
  ·obtain rfl:i=r:=by omega
   exact e1
 obtain⟨z,hz,hzg⟩:=Option.map_eq_some_iff.1 hg
 refine⟨h.ti.nr,λi x hx hm=>?_,λi k hk hne hc=>?_,hd,hl⟩
 ·rcases h.cov i x hx hm with h1|h1|⟨k,h1,h2,h3⟩
  ·exact .inl h1
  ·exact .inr h1
  ·exact .inl ⟨q,z,hz,hzg,.inr (edge k i h1 h2 h3)⟩
 ·rcases h.ho i k hk hne hc with h1|h1
  ·exact h1
  ·exact⟨q,hg,edge k i hk hne h1⟩
def uY {Shun:Loc->Prop}{B:Nat}(h:Past Shun B t)(hsh:∀l,Sh l->Shun l\/∃b:Addr,l=.cell b/\B<=b.block)(hsh':∀l,Shun l->Sh l)(hq:Quiet Sh t)(ha:B<=a.block)(hN:∀(i:Nat) (op:MemOp),t[i]?=some op->op.g<N)(hN0:0<N)
  (hw:∀k l,Wr k l->k=0/\l.isMemory=true/\¬Shun l) (hr:∀k l,Rd k l->k=0/\l.isMemory=true/\¬Shun l):Tr Sh Wr Rd N Pd a t:=by
 have kn:∀l,l.isMemory=true->¬Shun l->Perm t 0 l:=λl hm hs i x hx e=>(h.known i x hx (e▸hm)).elim id λhx'=>absurd (e▸hx'.1) hs
 refine⟨⟨hq,λk _ l hl=>?_,λk _ l hl=>?_,h.clean,hN⟩,λi e=>?_,λi x hx hm=>(h.known i x hx hm).imp id λhx'=>.inl ⟨hsh' _ hx'.1,hx'.2⟩,λi k hk hne hc=>.inl (h.over i k hk hne hc)⟩
 ·obtain⟨rfl,h1,h2⟩:=hw k l hl
  exact kn l h1 h2
 ·obtain⟨rfl,h1,h2⟩:=hr k l hl
  exact .of (kn l h1 h2)
 ·obtain⟨op,hop,hoa⟩:=Option.map_eq_some_iff.1 e
  have:=h.seen op (Array.mem_of_getElem? hop)
  rw[hoa] at this
  exact absurd this (Nat.not_lt.2 ha)
end
end Go.Co
