/- Parts of the proof. -/
import Derived.Test.YtjmmlkobmhlikaaGreatP08
import Derived.Test.YtjmmlkobmhlikaaGreatP00
import Derived.Test.YtjmmlkobmhlikaaGreatP02
import Derived.Test.YtjmmlkobmhlikaaGreatChecked
import Derived.WalkKit
import Derived.Laws.LoneSync
import Derived.Conc.WgGenW
set_option linter.all false
set_option maxHeartbeats 4000000
set_option maxRecDepth 1000000
namespace Go.Proofs.YtjmmlkobmhlikaaGreat
open Go.RowKit Go.Iso Go.Co Go.Conc
section
variable {p:Program} {BB:FuncId->Bool} {Q:Goroutine->World->Prop} {b:Frame} {a:Act} {todo:List Item} {cs:List Frame} {w:World} {dn:Nat}
def aa (hQ:∀g w W,Same w W->Q g w->Q g W)(hf:BB b.fn=true)(hg:dU p todo=true)(h:∀τ d,(stepG p true (G (b.at a todo) cs) (on w τ d)).goes (λg' w' _=>g'.callers≠[]/\∃W,Same W w'/\KTr p BB Q dn g' W)) :
  KTr p BB Q dn (G (b.at a todo) cs) w:=by
 refine KTr.step ⟨hf,ig hg⟩ λτ d=>?_
 have:=h τ d
 cases hs:stepG p true (G (b.at a todo) cs) (on w τ d) with
 |go g' w' es =>
  rw[hs] at this
  obtain⟨h1,W,h2,h3⟩:=this
  exact⟨g',w',es,rfl,h1,h3.same hQ h2⟩
 |_=>rw[hs] at this;exact this.elim
def db (hQ:∀g w W,Same w W->Q g w->Q g W)(hf:BB b.fn=true)(hg:dU p todo=true)(h:∀τ d,(stepG p true (G { b.at a todo with mode:=.returning } cs) (on w τ d)).goes (λg' w' _=>g'.callers≠[]/\∃W,Same W w'/\KTr p BB Q dn g' W)) :
  KTr p BB Q dn (G { b.at a todo with mode:=.returning } cs) w:=by
 refine KTr.step ⟨hf,λo ho=>ig (b:=b) (a:=a) hg o ho⟩ λτ d=>?_
 have:=h τ d
 cases hs:stepG p true (G { b.at a todo with mode:=.returning } cs) (on w τ d) with
 |go g' w' es =>
  rw[hs] at this
  obtain⟨h1,W,h2,h3⟩:=this
  exact⟨g',w',es,rfl,h1,h3.same hQ h2⟩
 |_=>rw[hs] at this;exact this.elim
def mb {f:FuncId}{fn:Func}{c:Code}(args:Array Value)(k:CallKind)(hf:p.funcs[f]?=some fn)(hb:fn.body=some c) :
  Frame.enter p f args k=({ base f with kind:=k }:Frame).at { tmps:=args++Array.replicate (fn.ntmps-args.size) undef,defers:=[] } [.code c]:=by
 simp[Frame.enter,Frame.at,hf,hb,base]
def bY (hQ:∀g w W,Same w W->Q g w->Q g W){ops:Array Oper}{i:Nat}{rest:List Nat}{k:List Item}{o:Oper}{es:Array Event}{v:Value}(hf:BB b.fn=true)(hcs:cs≠[])(ho:ops[i]?=some o)(hw:Region.wanted o (yielded ops a.tmps)=true)(hk:b.kind≠.early)(hs:SpecOp p a w o es v)
  {d':Nat} (hd:deafBehind dn es=d') (h:KTr p BB Q d' (G (b.at (a.put o.dst v) (.inRegion ops rest::k)) cs) w):KTr p BB Q dn (G (b.at a (.inRegion ops (i::rest)::k)) cs) w :=
 .spec hf hcs ho hw hk hs λτ n=>hd▸h.same hQ uj
def hcsM (c:Frame)(cs:List Frame):(c::cs)≠[]:=by simp
def af (W:World)(τ:Tape)(d:Nat)(a:Addr):(on W τ d).cell? a=W.cell? a:=rfl
def ab (W:World)(τ:Tape)(d:Nat):(on W τ d).heap.size=W.heap.size:=rfl
def ae (W:World)(τ:Tape)(d:Nat)(a:Addr):(on W τ d).frozen? a=W.frozen? a:=rfl
def six {args:Array Value}{n:Nat}{q:Addr}(h:args[0]?=some (.pointer (some q)))(hn:n=6):∃t1 t2 t3 t4 t5 tl,args++Array.replicate (n-args.size) undef=(.pointer (some q)::t1::t2::t3::t4::t5::tl:List Value).toArray:=by
 obtain⟨l⟩:=args
 subst hn
 match l,h with
 |t0::l,h =>
  have h0:t0=.pointer (some q):=by simpa using h
  subst h0
  match l with
  |[]=>exact⟨_,_,_,_,_,[],by simp[List.replicate,Array.replicate];exact⟨rfl,rfl,rfl,rfl,rfl⟩⟩
  |[t1]=>exact⟨t1,_,_,_,_,[],by simp[Array.replicate];exact⟨rfl,rfl,rfl,rfl⟩⟩
  |[t1,t2]=>exact⟨t1,t2,_,_,_,[],by simp[Array.replicate];exact⟨rfl,rfl,rfl⟩⟩
  |[t1,t2,t3]=>exact⟨t1,t2,t3,_,_,[],by simp[Array.replicate];exact⟨rfl,rfl⟩⟩
  |[t1,t2,t3,t4]=>exact⟨t1,t2,t3,t4,_,[],by simp[Array.replicate];rfl⟩
  |t1::t2::t3::t4::t5::tl=>exact⟨t1,t2,t3,t4,t5,tl,by simp[Array.replicate]⟩
end
def jz {BB:FuncId->Bool}(hB0:BB 73=true)(hB1:BB 106=true):Held Tryz.prog BB 73 0 1:=by
 intro args q k cs w hk hcs hq hc hz
 obtain⟨bq,oq,sq⟩:=q
 have hsq:sq=none:=by
  cases sq with
  |none=>rfl
  |some s=>simp[World.cell?] at hc;split at hc<;>simp_all
 subst hsq
 generalize hQd:(λ(g:Goroutine) (W:World)=>Same (w.setCell ⟨bq,oq,none⟩ (.int .i32 1)) W/\∃fr,g=Go.Iso.gor fr cs/\fr.fn=73/\fr.kind=k/\fr.mode=.returning/\fr.defers=[]/\fr.oper?=none)=Q
 have hQ:∀g w W,Same w W->Q g w->Q g W:=by
  subst hQd
  rintro g w1 w2 s ⟨h1,h2⟩
  exact⟨h1.trans s,h2⟩
 have hfin:∀(a:Act) W,a.defers=[]->Same (w.setCell ⟨bq,oq,none⟩ (.int .i32 1)) W->Q (G { (({ base 73 with kind:=k }:Frame).at a []) with mode:=.returning } cs) W:=by
  subst hQd
  exact λa W h s=>⟨s,_,rfl,rfl,rfl,rfl,h,rfl⟩
 clear hQd
 obtain⟨t1,t2,t3,t4,t5,tl,ht⟩:=six (n:=Tryz.f73.ntmps) hq Tryz.ntmps73
 rw[mb args k Tryz.func73 rfl,ht]
 clear ht hq
 have hkk:∀a:Act,∀t,(({ base 73 with kind:=k }:Frame).at a t).kind≠.early:=λ_ _=>hk
 change KTr Tryz.prog BB Q 0 (G _ cs) w
 refine aa hQ hB0 (by kernel_rfl) λτ d=>?_
 rw[stepG_region]
 simp only[goes_go,List.size_toArray,List.length_cons,List.length_nil,Nat.reduceAdd,Nat.zero_add,List.range,List.range.loop]
 refine⟨hcs,w,uj,?_⟩
 refine aa hQ hB0 (by kernel_rfl) λτ d=>?_
 refine goes_oper_k rfl rfl hk (λK hK=>?_)
 have q1:=af
 have q2:=ab
 have q3:=ae
 go_simp
 clear q1 q2 q3
 refine hK _ _ ⟨hcs,w,⟨rfl,rfl,rfl⟩,?_⟩
 clear hK K
 try walk_nrm
 try simp only[ab]
 refine aa hQ hB0 (by kernel_rfl) λτ d=>?_
 refine goes_oper_k rfl rfl hk (λK hK=>?_)
 have q1:=af
 have q2:=ab
 have q3:=ae
 go_simp
 clear q1 q2 q3
 refine hK _ _ ⟨hcs,w,⟨rfl,rfl,rfl⟩,?_⟩
 clear hK K
 try walk_nrm
 try simp only[ab]
 refine aa hQ hB0 (by kernel_rfl) λτ d=>?_
 refine goes_oper_k rfl rfl hk (λK hK=>?_)
 have q1:=af
 have q2:=ab
 have q3:=ae
 go_simp
 clear q1 q2 q3
 refine hK _ _ ⟨hcs,w,⟨rfl,rfl,rfl⟩,?_⟩
 clear hK K
 try walk_nrm
 try simp only[ab]
 refine aa hQ hB0 (by kernel_rfl) λτ d=>?_
 refine ay rfl rfl hk rfl Tryz.func106 (by kernel_rfl) (by kernel_rfl) ⟨hcsM _ _,w,uj,?_⟩
 try walk_nrm
 rw[enter_at _ Tryz.func106 rfl]
 simp only[Tryz.ntmps106,List.size_toArray,List.length_cons,List.length_nil,Nat.reduceAdd,Nat.reduceSub,Array.replicate_succ,Array.replicate_zero,List.push_toArray,List.append_toArray,List.nil_append,List.cons_append]
 refine aa hQ hB1 (by kernel_rfl) λτ d=>?_
 rw[stepG_seq]
 simp only[goes_go]
 refine⟨(hcsM _ _),w,uj,?_⟩
 refine aa hQ hB1 (by kernel_rfl) λτ d=>?_
 rw[stepG_region]
 simp only[goes_go,List.size_toArray,List.length_cons,List.length_nil,Nat.reduceAdd,Nat.zero_add,List.range,List.range.loop]
 refine⟨(hcsM _ _),w,uj,?_⟩
 refine bY hQ hB1 (hcsM _ _) rfl rfl (by decide) (SpecOp.mark0 .disable (by simp) rfl Tryz.func89 (by kernel_rfl) (by kernel_rfl) (by kernel_rfl) (by kernel_rfl)) (d':=1) rfl ?_
 try walk_nrm
 refine aa hQ hB1 (by kernel_rfl) λτ d=>?_
 rw[stepG_region_end]
 simp only[goes_go]
 refine⟨(hcsM _ _),w,uj,?_⟩
 refine aa hQ hB1 (by kernel_rfl) λτ d=>?_
 rw[stepG_seq]
 simp only[goes_go]
 refine⟨(hcsM _ _),w,uj,?_⟩
 refine aa hQ hB1 (by kernel_rfl) λτ d=>?_
 rw[stepG_seq]
 simp only[goes_go]
 refine⟨(hcsM _ _),w,uj,?_⟩
 refine aa hQ hB1 (by kernel_rfl) λτ d=>?_
 rw[stepG_region]
 simp only[goes_go,List.size_toArray,List.length_cons,List.length_nil,Nat.reduceAdd,Nat.zero_add,List.range,List.range.loop]
 refine⟨(hcsM _ _),w,uj,?_⟩
 refine aa hQ hB1 (by kernel_rfl) λτ d=>?_
 refine goes_oper_k rfl rfl (by decide) (λK hK=>?_)
 have q1:=af
 have q2:=ab
 have q3:=ae
 go_simp
 clear q1 q2 q3
 refine hK _ _ ⟨(hcsM _ _),w,⟨rfl,rfl,rfl⟩,?_⟩
 clear hK K
 try walk_nrm
 try simp only[ab]
 refine aa hQ hB1 (by kernel_rfl) λτ d=>?_
 refine goes_oper_k rfl rfl (by decide) (λK hK=>?_)
 have q1:=af
 have q2:=ab
 have q3:=ae
 go_simp
 clear q1 q2 q3
 refine hK _ _ ⟨(hcsM _ _),w,⟨rfl,rfl,rfl⟩,?_⟩
 clear hK K
 try walk_nrm
 try simp only[ab]
 refine aa hQ hB1 (by kernel_rfl) λτ d=>?_
 refine goes_oper_k rfl rfl (by decide) (λK hK=>?_)
 have q1:=af
 have q2:=ab
 have q3:=ae
 go_simp
 clear q1 q2 q3
 refine hK _ _ ⟨(hcsM _ _),w,⟨rfl,rfl,rfl⟩,?_⟩
 clear hK K
 try walk_nrm
 try simp only[ab]
 refine aa hQ hB1 (by kernel_rfl) λτ d=>?_
 refine goes_oper_k rfl rfl (by decide) (λK hK=>?_)
 have q1:=af
 have q2:=ab
 have q3:=ae
 have hcas:=run_call_cas_hit (P:=Tryz.prog) Tryz.func126 (by kernel_rfl) (by kernel_rfl) (by kernel_rfl) .i32 (by kernel_rfl) (x:=0) (y:=1) (w:=on w τ d) hc hz
 go_simp
 clear q1 q2 q3
 refine hK _ _ ⟨(hcsM _ _),w.setCell _ _,⟨rfl,rfl,rfl⟩,?_⟩
 clear hK K
 try walk_nrm
 try simp only[ab]
 have hc2:∃u,(w.setCell ⟨bq,oq,none⟩ (.int .i32 1)).cell? ⟨bq,oq,none⟩=some u:=⟨_,World.cell?_setCell_same _ _ _ hc⟩
 refine aa hQ hB1 (by kernel_rfl) λτ d=>?_
 rw[stepG_region_end]
 simp only[goes_go]
 refine⟨(hcsM _ _),_,uj,?_⟩
 refine aa hQ hB1 (by kernel_rfl) λτ d=>?_
 rw[stepG_cond (t:=true) rfl]
 simp only[goes_go,if_true,if_false,Bool.false_eq_true,↓reduceIte]
 refine⟨(hcsM _ _),_,uj,?_⟩
 refine aa hQ hB1 (by kernel_rfl) λτ d=>?_
 rw[stepG_seq]
 simp only[goes_go]
 refine⟨(hcsM _ _),_,uj,?_⟩
 refine aa hQ hB1 (by kernel_rfl) λτ d=>?_
 rw[stepG_cond (t:=true) rfl]
 simp only[goes_go,if_true,if_false,Bool.false_eq_true,↓reduceIte]
 refine⟨(hcsM _ _),_,uj,?_⟩
 refine aa hQ hB1 (by kernel_rfl) λτ d=>?_
 rw[stepG_seq]
 simp only[goes_go]
 refine⟨(hcsM _ _),_,uj,?_⟩
 refine aa hQ hB1 (by kernel_rfl) λτ d=>?_
 rw[stepG_region]
 simp only[goes_go,List.size_toArray,List.length_cons,List.length_nil,Nat.reduceAdd,Nat.zero_add,List.range,List.range.loop]
 refine⟨(hcsM _ _),_,uj,?_⟩
 refine bY hQ hB1 (hcsM _ _) rfl rfl (by decide) (SpecOp.mark0 .enable (by simp) rfl Tryz.func90 (by kernel_rfl) (by kernel_rfl) (by kernel_rfl) (by kernel_rfl)) (d':=0) rfl ?_
 try walk_nrm
 refine aa hQ hB1 (by kernel_rfl) λτ d=>?_
 rw[stepG_region_end]
 simp only[goes_go]
 refine⟨(hcsM _ _),_,uj,?_⟩
 refine aa hQ hB1 (by kernel_rfl) λτ d=>?_
 rw[stepG_region]
 simp only[goes_go,List.size_toArray,List.length_cons,List.length_nil,Nat.reduceAdd,Nat.zero_add,List.range,List.range.loop]
 refine⟨(hcsM _ _),_,uj,?_⟩
 refine aa hQ hB1 (by kernel_rfl) λτ d=>?_
 refine goes_oper_k rfl rfl (by decide) (λK hK=>?_)
 have q1:=af
 have q2:=ab
 have q3:=ae
 go_simp
 clear q1 q2 q3
 refine hK _ _ ⟨(hcsM _ _),_,⟨rfl,rfl,rfl⟩,?_⟩
 clear hK K
 try walk_nrm
 try simp only[ab]
 refine bY hQ hB1 (hcsM _ _) rfl rfl (by decide) (SpecOp.conv (t:=111) rfl (by kernel_rfl) (by kernel_rfl) (by kernel_rfl) rfl hc2) (d':=0) rfl ?_
 try walk_nrm
 refine bY hQ hB1 (hcsM _ _) rfl rfl (by decide) (SpecOp.markAt .acquire (by simp) rfl Tryz.func101 (by kernel_rfl) (by kernel_rfl) (by kernel_rfl) (by kernel_rfl) (by simp[Act.eval]) hc2) (d':=0) rfl ?_
 try walk_nrm
 refine aa hQ hB1 (by kernel_rfl) λτ d=>?_
 rw[stepG_region_end]
 simp only[goes_go]
 refine⟨(hcsM _ _),_,uj,?_⟩
 refine aa hQ hB1 (by kernel_rfl) λτ d=>?_
 rw[stepG_ret']
 simp only[goes_go]
 refine⟨(hcsM _ _),_,uj,?_⟩
 refine db hQ hB1 (by kernel_rfl) λτ d=>?_
 refine goes_leave0 rfl rfl Tryz.func106 rfl ⟨hcs,_,uj,?_⟩
 refine aa hQ hB0 (by kernel_rfl) λτ d=>?_
 rw[stepG_region_end]
 simp only[goes_go]
 refine⟨hcs,_,uj,?_⟩
 refine aa hQ hB0 (by kernel_rfl) λτ d=>?_
 rw[stepG_end]
 simp only[goes_go]
 refine⟨hcs,_,uj,.fin (hfin _ _ rfl ⟨rfl,rfl,rfl⟩)⟩
def gO {BB:FuncId->Bool}(hB0:BB 74=true)(hB1:BB 107=true):Held Tryz.prog BB 74 1 0:=by
 intro args q k cs w hk hcs hq hc hz
 obtain⟨bq,oq,sq⟩:=q
 have hsq:sq=none:=by
  cases sq with
  |none=>rfl
  |some s=>simp[World.cell?] at hc;split at hc<;>simp_all
 subst hsq
 generalize hQd:(λ(g:Goroutine) (W:World)=>Same (w.setCell ⟨bq,oq,none⟩ (.int .i32 0)) W/\∃fr,g=Go.Iso.gor fr cs/\fr.fn=74/\fr.kind=k/\fr.mode=.returning/\fr.defers=[]/\fr.oper?=none)=Q
 have hQ:∀g w W,Same w W->Q g w->Q g W:=by
  subst hQd
  rintro g w1 w2 s ⟨h1,h2⟩
  exact⟨h1.trans s,h2⟩
 have hfin:∀(a:Act) W,a.defers=[]->Same (w.setCell ⟨bq,oq,none⟩ (.int .i32 0)) W->Q (G { (({ base 74 with kind:=k }:Frame).at a []) with mode:=.returning } cs) W:=by
  subst hQd
  exact λa W h s=>⟨s,_,rfl,rfl,rfl,rfl,h,rfl⟩
 clear hQd
 obtain⟨t1,t2,t3,t4,t5,tl,ht⟩:=six (n:=Tryz.f74.ntmps) hq Tryz.ntmps74
 rw[mb args k Tryz.func74 rfl,ht]
 clear ht hq
 have hkk:∀a:Act,∀t,(({ base 74 with kind:=k }:Frame).at a t).kind≠.early:=λ_ _=>hk
 change KTr Tryz.prog BB Q 0 (G _ cs) w
 refine aa hQ hB0 (by kernel_rfl) λτ d=>?_
 rw[stepG_region]
 simp only[goes_go,List.size_toArray,List.length_cons,List.length_nil,Nat.reduceAdd,Nat.zero_add,List.range,List.range.loop]
 refine⟨hcs,w,uj,?_⟩
 refine aa hQ hB0 (by kernel_rfl) λτ d=>?_
 refine goes_oper_k rfl rfl hk (λK hK=>?_)
 have q1:=af
 have q2:=ab
 have q3:=ae
 go_simp
 clear q1 q2 q3
 refine hK _ _ ⟨hcs,w,⟨rfl,rfl,rfl⟩,?_⟩
 clear hK K
 try walk_nrm
 try simp only[ab]
 refine aa hQ hB0 (by kernel_rfl) λτ d=>?_
 refine goes_oper_k rfl rfl hk (λK hK=>?_)
 have q1:=af
 have q2:=ab
 have q3:=ae
 go_simp
 clear q1 q2 q3
 refine hK _ _ ⟨hcs,w,⟨rfl,rfl,rfl⟩,?_⟩
 clear hK K
 try walk_nrm
 try simp only[ab]
 refine aa hQ hB0 (by kernel_rfl) λτ d=>?_
 refine goes_oper_k rfl rfl hk (λK hK=>?_)
 have q1:=af
 have q2:=ab
 have q3:=ae
 go_simp
 clear q1 q2 q3
 refine hK _ _ ⟨hcs,w,⟨rfl,rfl,rfl⟩,?_⟩
 clear hK K
 try walk_nrm
 try simp only[ab]
 refine aa hQ hB0 (by kernel_rfl) λτ d=>?_
 refine ay rfl rfl hk rfl Tryz.func107 (by kernel_rfl) (by kernel_rfl) ⟨hcsM _ _,w,uj,?_⟩
 try walk_nrm
 rw[enter_at _ Tryz.func107 rfl]
 simp only[Tryz.ntmps107,List.size_toArray,List.length_cons,List.length_nil,Nat.reduceAdd,Nat.reduceSub,Array.replicate_succ,Array.replicate_zero,List.push_toArray,List.append_toArray,List.nil_append,List.cons_append]
 refine aa hQ hB1 (by kernel_rfl) λτ d=>?_
 rw[stepG_seq]
 simp only[goes_go]
 refine⟨(hcsM _ _),w,uj,?_⟩
 refine aa hQ hB1 (by kernel_rfl) λτ d=>?_
 rw[stepG_cond (t:=true) rfl]
 simp only[goes_go,if_true,if_false,Bool.false_eq_true,↓reduceIte]
 refine⟨(hcsM _ _),w,uj,?_⟩
 refine aa hQ hB1 (by kernel_rfl) λτ d=>?_
 rw[stepG_seq]
 simp only[goes_go]
 refine⟨(hcsM _ _),w,uj,?_⟩
 refine aa hQ hB1 (by kernel_rfl) λτ d=>?_
 rw[stepG_region]
 simp only[goes_go,List.size_toArray,List.length_cons,List.length_nil,Nat.reduceAdd,Nat.zero_add,List.range,List.range.loop]
 refine⟨(hcsM _ _),w,uj,?_⟩
 refine aa hQ hB1 (by kernel_rfl) λτ d=>?_
 refine goes_oper_k rfl rfl (by decide) (λK hK=>?_)
 have q1:=af
 have q2:=ab
 have q3:=ae
 go_simp
 clear q1 q2 q3
 refine hK _ _ ⟨(hcsM _ _),w,⟨rfl,rfl,rfl⟩,?_⟩
 clear hK K
 try walk_nrm
 try simp only[ab]
 refine aa hQ hB1 (by kernel_rfl) λτ d=>?_
 refine goes_oper_k rfl rfl (by decide) (λK hK=>?_)
 have q1:=af
 have q2:=ab
 have q3:=ae
 go_simp
 clear q1 q2 q3
 refine hK _ _ ⟨(hcsM _ _),w,⟨rfl,rfl,rfl⟩,?_⟩
 clear hK K
 try walk_nrm
 try simp only[ab]
 refine aa hQ hB1 (by kernel_rfl) λτ d=>?_
 refine goes_oper_k rfl rfl (by decide) (λK hK=>?_)
 have q1:=af
 have q2:=ab
 have q3:=ae
 go_simp
 clear q1 q2 q3
 refine hK _ _ ⟨(hcsM _ _),w,⟨rfl,rfl,rfl⟩,?_⟩
 clear hK K
 try walk_nrm
 try simp only[ab]
 refine aa hQ hB1 (by kernel_rfl) λτ d=>?_
 refine goes_oper_k rfl rfl (by decide) (λK hK=>?_)
 have q1:=af
 have q2:=ab
 have q3:=ae
 go_simp
 clear q1 q2 q3
 refine hK _ _ ⟨(hcsM _ _),w,⟨rfl,rfl,rfl⟩,?_⟩
 clear hK K
 try walk_nrm
 try simp only[ab]
 refine aa hQ hB1 (by kernel_rfl) λτ d=>?_
 rw[stepG_region_end]
 simp only[goes_go]
 refine⟨(hcsM _ _),w,uj,?_⟩
 refine aa hQ hB1 (by kernel_rfl) λτ d=>?_
 rw[stepG_seq]
 simp only[goes_go]
 refine⟨(hcsM _ _),w,uj,?_⟩
 refine aa hQ hB1 (by kernel_rfl) λτ d=>?_
 rw[stepG_region]
 simp only[goes_go,List.size_toArray,List.length_cons,List.length_nil,Nat.reduceAdd,Nat.zero_add,List.range,List.range.loop]
 refine⟨(hcsM _ _),w,uj,?_⟩
 refine aa hQ hB1 (by kernel_rfl) λτ d=>?_
 refine goes_oper_k rfl rfl (by decide) (λK hK=>?_)
 have q1:=af
 have q2:=ab
 have q3:=ae
 go_simp
 clear q1 q2 q3
 refine hK _ _ ⟨(hcsM _ _),w,⟨rfl,rfl,rfl⟩,?_⟩
 clear hK K
 try walk_nrm
 try simp only[ab]
 refine bY hQ hB1 (hcsM _ _) rfl rfl (by decide) (SpecOp.conv (t:=111) rfl (by kernel_rfl) (by kernel_rfl) (by kernel_rfl) rfl ⟨_,hc⟩) (d':=0) rfl ?_
 try walk_nrm
 refine bY hQ hB1 (hcsM _ _) rfl rfl (by decide) (SpecOp.markAt .releaseMerge (by simp) rfl Tryz.func88 (by kernel_rfl) (by kernel_rfl) (by kernel_rfl) (by kernel_rfl) (by simp[Act.eval]) ⟨_,hc⟩) (d':=0) rfl ?_
 try walk_nrm
 refine aa hQ hB1 (by kernel_rfl) λτ d=>?_
 rw[stepG_region_end]
 simp only[goes_go]
 refine⟨(hcsM _ _),w,uj,?_⟩
 refine aa hQ hB1 (by kernel_rfl) λτ d=>?_
 rw[stepG_region]
 simp only[goes_go,List.size_toArray,List.length_cons,List.length_nil,Nat.reduceAdd,Nat.zero_add,List.range,List.range.loop]
 refine⟨(hcsM _ _),w,uj,?_⟩
 refine bY hQ hB1 (hcsM _ _) rfl rfl (by decide) (SpecOp.mark0 .disable (by simp) rfl Tryz.func89 (by kernel_rfl) (by kernel_rfl) (by kernel_rfl) (by kernel_rfl)) (d':=1) rfl ?_
 try walk_nrm
 refine aa hQ hB1 (by kernel_rfl) λτ d=>?_
 rw[stepG_region_end]
 simp only[goes_go]
 refine⟨(hcsM _ _),w,uj,?_⟩
 refine aa hQ hB1 (by kernel_rfl) λτ d=>?_
 rw[stepG_seq]
 simp only[goes_go]
 refine⟨(hcsM _ _),w,uj,?_⟩
 refine aa hQ hB1 (by kernel_rfl) λτ d=>?_
 rw[stepG_region]
 simp only[goes_go,List.size_toArray,List.length_cons,List.length_nil,Nat.reduceAdd,Nat.zero_add,List.range,List.range.loop]
 refine⟨(hcsM _ _),w,uj,?_⟩
 refine aa hQ hB1 (by kernel_rfl) λτ d=>?_
 refine goes_oper_k rfl rfl (by decide) (λK hK=>?_)
 have q1:=af
 have q2:=ab
 have q3:=ae
 go_simp
 clear q1 q2 q3
 refine hK _ _ ⟨(hcsM _ _),w,⟨rfl,rfl,rfl⟩,?_⟩
 clear hK K
 try walk_nrm
 try simp only[ab]
 refine aa hQ hB1 (by kernel_rfl) λτ d=>?_
 refine goes_oper_k rfl rfl (by decide) (λK hK=>?_)
 have q1:=af
 have q2:=ab
 have q3:=ae
 go_simp
 clear q1 q2 q3
 refine hK _ _ ⟨(hcsM _ _),w,⟨rfl,rfl,rfl⟩,?_⟩
 clear hK K
 try walk_nrm
 try simp only[ab]
 refine aa hQ hB1 (by kernel_rfl) λτ d=>?_
 refine goes_oper_k rfl rfl (by decide) (λK hK=>?_)
 have q1:=af
 have q2:=ab
 have q3:=ae
 go_simp
 clear q1 q2 q3
 refine hK _ _ ⟨(hcsM _ _),w,⟨rfl,rfl,rfl⟩,?_⟩
 clear hK K
 try walk_nrm
 try simp only[ab]
 refine aa hQ hB1 (by kernel_rfl) λτ d=>?_
 refine goes_oper_k rfl rfl (by decide) (λK hK=>?_)
 have q1:=af
 have q2:=ab
 have q3:=ae
 have hadd:=run_call_add (P:=Tryz.prog) Tryz.func128 (by kernel_rfl) (by kernel_rfl) (by kernel_rfl) .i32 (by kernel_rfl) (x:=1) (y:=-1) (s:=0) (w:=on w τ d) hc hz (by rfl)
 go_simp
 clear q1 q2 q3
 refine hK _ _ ⟨(hcsM _ _),w.setCell _ _,⟨rfl,rfl,rfl⟩,?_⟩
 clear hK K
 try walk_nrm
 try simp only[ab]
 refine aa hQ hB1 (by kernel_rfl) λτ d=>?_
 refine goes_oper_k rfl rfl (by decide) (λK hK=>?_)
 have q1:=af
 have q2:=ab
 have q3:=ae
 go_simp
 clear q1 q2 q3
 refine hK _ _ ⟨(hcsM _ _),_,⟨rfl,rfl,rfl⟩,?_⟩
 clear hK K
 try walk_nrm
 try simp only[ab]
 refine aa hQ hB1 (by kernel_rfl) λτ d=>?_
 rw[stepG_region_end]
 simp only[goes_go]
 refine⟨(hcsM _ _),_,uj,?_⟩
 refine aa hQ hB1 (by kernel_rfl) λτ d=>?_
 rw[stepG_seq]
 simp only[goes_go]
 refine⟨(hcsM _ _),_,uj,?_⟩
 refine aa hQ hB1 (by kernel_rfl) λτ d=>?_
 rw[stepG_seq]
 simp only[goes_go]
 refine⟨(hcsM _ _),_,uj,?_⟩
 refine aa hQ hB1 (by kernel_rfl) λτ d=>?_
 rw[stepG_region]
 simp only[goes_go,List.size_toArray,List.length_cons,List.length_nil,Nat.reduceAdd,Nat.zero_add,List.range,List.range.loop]
 refine⟨(hcsM _ _),_,uj,?_⟩
 refine aa hQ hB1 (by kernel_rfl) λτ d=>?_
 refine goes_oper_k rfl rfl (by decide) (λK hK=>?_)
 have q1:=af
 have q2:=ab
 have q3:=ae
 go_simp
 clear q1 q2 q3
 refine hK _ _ ⟨(hcsM _ _),_,⟨rfl,rfl,rfl⟩,?_⟩
 clear hK K
 try walk_nrm
 try simp only[ab]
 refine aa hQ hB1 (by kernel_rfl) λτ d=>?_
 refine goes_oper_k rfl rfl (by decide) (λK hK=>?_)
 have q1:=af
 have q2:=ab
 have q3:=ae
 go_simp
 clear q1 q2 q3
 refine hK _ _ ⟨(hcsM _ _),_,⟨rfl,rfl,rfl⟩,?_⟩
 clear hK K
 try walk_nrm
 try simp only[ab]
 refine aa hQ hB1 (by kernel_rfl) λτ d=>?_
 rw[stepG_region_end]
 simp only[goes_go]
 refine⟨(hcsM _ _),_,uj,?_⟩
 refine aa hQ hB1 (by kernel_rfl) λτ d=>?_
 rw[stepG_cond (t:=false) rfl]
 simp only[goes_go,if_true,if_false,Bool.false_eq_true,↓reduceIte]
 refine⟨(hcsM _ _),_,uj,?_⟩
 refine aa hQ hB1 (by kernel_rfl) λτ d=>?_
 rw[stepG_skip]
 simp only[goes_go]
 refine⟨(hcsM _ _),_,uj,?_⟩
 refine aa hQ hB1 (by kernel_rfl) λτ d=>?_
 rw[stepG_region]
 simp only[goes_go,List.size_toArray,List.length_cons,List.length_nil,Nat.reduceAdd,Nat.zero_add,List.range,List.range.loop]
 refine⟨(hcsM _ _),_,uj,?_⟩
 refine bY hQ hB1 (hcsM _ _) rfl rfl (by decide) (SpecOp.mark0 .enable (by simp) rfl Tryz.func90 (by kernel_rfl) (by kernel_rfl) (by kernel_rfl) (by kernel_rfl)) (d':=0) rfl ?_
 try walk_nrm
 refine aa hQ hB1 (by kernel_rfl) λτ d=>?_
 rw[stepG_region_end]
 simp only[goes_go]
 refine⟨(hcsM _ _),_,uj,?_⟩
 refine aa hQ hB1 (by kernel_rfl) λτ d=>?_
 rw[stepG_end]
 simp only[goes_go]
 refine⟨(hcsM _ _),_,uj,?_⟩
 refine db hQ hB1 (by kernel_rfl) λτ d=>?_
 refine goes_leave0 rfl rfl Tryz.func107 rfl ⟨hcs,_,uj,?_⟩
 refine aa hQ hB0 (by kernel_rfl) λτ d=>?_
 rw[stepG_region_end]
 simp only[goes_go]
 refine⟨hcs,_,uj,?_⟩
 refine aa hQ hB0 (by kernel_rfl) λτ d=>?_
 rw[stepG_end]
 simp only[goes_go]
 refine⟨hcs,_,uj,.fin (hfin _ _ rfl ⟨rfl,rfl,rfl⟩)⟩
open Go.RowKit Go.Iso Go.Co Go.Conc
def sbl:List FuncId:=[22,24,29,25,26,30,63,23,27,28,31,39,40,41,42,43,44,45,46,47,48,49,50,17,19,51,52,53,54,55,56,57,58,59,60,61,66,18,32,62,68,71,72,64,73,74,33,75,76,77,78,79,80,81,82,83,85,86,87,35,21,20,84,108,109,110,111,112,113,114,115,116,117,118,119,120,37,38,34,36,126,130,131,132,133,134,135,136,137,138,139,140,141,142,65,150,151,152,153,154]
def SBx (f:FuncId):Bool:=sbl.contains f
def put (f:FuncId):Bool:=f==39||f==68||f==73||f==74
def BCx (f:FuncId):Bool:=SBx f&&!put f
def Tryz.bigF:Tryz.prog.info? big=none:=by kernel_rfl
def Sq.bigF:uZ.info? big=none:=by kernel_rfl
noncomputable def PW:Two:=⟨uZ,Tryz.prog.funcs⟩
def kB {p:Nat->Bool}(h:sbl.all p=true):∀f,SBx f=true->p f=true:=λf hf=>(List.all_eq_true.1 h) f (by simpa [SBx] using hf)
def extB (f:FuncId):Bool:=f==71||f==72||f==126
def jc {f:FuncId}(h:(f==13||sqPut f||f==73||f==74)=false):Tryz.prog.funcs[f]?=uZ.funcs[f]?:=by
 rw[Sq.get]
 cases Tryz.prog.funcs[f]? with
 |none=>rfl
 |some fn =>
  simp only[Bool.or_eq_false_iff] at h
  simp only[Option.map_some,sqFn,h.1.1.1,h.1.1.2,h.1.2,h.2,Bool.or_self,Bool.false_eq_true,if_false]
def qh:sbl.all (λf=>fnOk uZ SBx false f||extB f)=true:=by kernel_rfl
def fnOk_x (f:FuncId)(h:SBx f=true):fnOk uZ SBx false f=true\/extB f=true:=by
 have:=kB qh f h
 simpa using this
def j6 {fs:Array Func}{f:FuncId}(h:extB f=true)(hfs:fs[71]?=some Tryz.f71/\fs[72]?=some Tryz.f72/\fs[126]?=some Tryz.f126):ExtOk ⟨uZ,fs⟩ f:=by
 unfold extB at h
 simp only[Bool.or_eq_true,beq_iff_eq] at h
 rcases h with(rfl|rfl)|rfl
 ·exact⟨Tryz.f71,_,Sq.fn Tryz.func71 rfl,hfs.1,by kernel_rfl,by kernel_rfl,by kernel_rfl,by kernel_rfl,.add .i64,by kernel_rfl⟩
 ·exact⟨Tryz.f72,_,Sq.fn Tryz.func72 rfl,hfs.2.1,by kernel_rfl,by kernel_rfl,by kernel_rfl,by kernel_rfl,.load .i64,by kernel_rfl⟩
 ·exact⟨Tryz.f126,_,Sq.fn Tryz.func126 rfl,hfs.2.2,by kernel_rfl,by kernel_rfl,by kernel_rfl,by kernel_rfl,.cas .i32 (by decide),by kernel_rfl⟩
def qU {fs:Array Func} {fn':Func} (h:fs[69]?=some fn') (hn:fn'.name ≠ "runtime.NumGoroutine") (hb:fn'.body.isSome=true) (f:FuncId) (hf:aE SBx f=true):BarOk ⟨uZ,fs⟩ f:=by
 unfold aE at hf
 simp only[Bool.and_eq_true,beq_iff_eq] at hf
 obtain⟨rfl,_⟩:=hf
 exact⟨_,fn',_,Sq.put Tryz.func69 rfl,h,by show Tryz.f69.name≠_;decide,hn,rfl,hb⟩
def tX (H:Hid):Lib (Two.of uZ) SBx H false SBx 0:=ma (λf hf=>(fnOk_x f hf).imp_right λh=>j6 h ⟨Sq.fn Tryz.func71 rfl,Sq.fn Tryz.func72 rfl,Sq.fn Tryz.func126 rfl⟩)
 (qU (Sq.put Tryz.func69 rfl) (by show Tryz.f69.name≠_;decide) rfl) ⟨Nat.le_of_eq Sq.globals_size,Sq.bigF⟩
def rx:sbl.all (λf=>put f||!(f==13||sqPut f||f==73||f==74))=true:=by kernel_rfl
def tY (H:Hid):Lib PW SBx H false BCx 0:=by
 refine gz (λf hf=>?_) (λf hf hb=>?_) (λf hf=>?_) (qU Tryz.func69 (by decide) rfl) ⟨Nat.le_of_eq Sq.globals_size,Sq.bigF⟩
 ·simp only[BCx,Bool.and_eq_true,Bool.not_eq_true'] at hf
  rcases fnOk_x f hf.1 with h|h
  ·refine .inl ⟨h,jc ?_⟩
   have:=kB rx f hf.1
   simpa [hf.2] using this
  ·exact .inr (j6 h ⟨Tryz.func71,Tryz.func72,Tryz.func126⟩)
 ·simp only[BCx,hf,Bool.true_and,Bool.not_eq_false',put,Bool.or_eq_true,beq_iff_eq] at hb
  rcases hb with((rfl|rfl)|rfl)|rfl
  ·exact⟨_,_,Sq.put Tryz.func39 rfl,Tryz.func39,rfl,by show Tryz.f39.name≠_;decide,by decide,rfl,rfl⟩
  ·exact⟨_,_,Sq.put Tryz.func68 rfl,Tryz.func68,rfl,by show Tryz.f68.name≠_;decide,by decide,rfl,rfl⟩
  ·exact⟨_,_,Sq.f73,Tryz.func73,rfl,by show Tryz.f73.name≠_;decide,by decide,rfl,rfl⟩
  ·exact⟨_,_,Sq.f74,Tryz.func74,rfl,by show Tryz.f74.name≠_;decide,by decide,rfl,rfl⟩
 ·simp only[BCx,Bool.and_eq_true] at hf
  exact hf.1
def field_x (v:Value)(w:World):(∃q,v=.pointer (some q)/\(Instr.fieldAt 113 v 1).run uZ w=.ok (.pointer (some q)) w)\/FatalR ((Instr.fieldAt 113 v 1).run uZ w):=by
 by_cases h:∃q,v=.pointer (some q)
 ·obtain⟨q,rfl⟩:=h
  refine .inl ⟨q,rfl,?_⟩
  obtain⟨b,o,sp⟩:=q
  go_simp
 ·refine .inr ?_
  have hs:Instr.sureAddr v=stuck "an address expected (no nilCheck in front?)":=by
   cases v with
   |pointer o=>cases o with
    |none=>rfl
    |some q=>exact absurd ⟨q,rfl⟩ h
   |_=>rfl
  unfold Instr.fieldAt
  rw[hs]
  go_simp
  simp[FatalR,stuck]
  exact trivial
def patch_x (f:FuncId)(fn:Func)(x y:Int)(hf:uZ.funcs[f]?=some fn)(ht:fn.body=some (casBody x y))(hn:3<=fn.ntmps)(hr:fn.results=#[]):∃r o1 o2 s,Patch uZ f x y fn r o1 o2 s:=by
 refine⟨_,_,_,_,hf,ht,hn,hr,⟨rfl,rfl,rfl,rfl⟩,λa w=>?_,λa q w h2 h3 h4=>?_⟩
 ·have e:∀o:Oper,o.op=.fieldAddr 113 (.tmp 0) 1->execOp a.eval o=(do let v<-Instr.fieldAt 113 (a.eval (.tmp 0)) 1;pure (.value v)):=λo h=>by unfold execOp;rw[h]
  rcases field_x (a.eval (.tmp 0)) w with⟨q,h1,h2⟩|h
  ·refine .inl ⟨q,h1,?_⟩
   rw[e _ rfl]
   simp[h2,Result.andThen]
  ·refine .inr ?_
   rw[e _ rfl]
   revert h
   simp only[Sem.run_bind]
   generalize (Instr.fieldAt 113 (a.eval (.tmp 0)) 1).run uZ w=r
   intro h
   cases r with
   |ok _ _=>exact h.elim
   |halt _ _=>exact h
 ·have e : ∀ o : Oper, o.op = .call { callee := .value (.func 126), args := #[.tmp 2, .const (.int .i32 x), .const (.int .i32 y)], argTypes := #[199, 21, 21] } -> execOp a.eval o = callFunc 126 #[.pointer (some q), .int .i32 x, .int .i32 y] := fun o h => by
   unfold execOp;rw[h]
   simp[Act.eval,go_sem] at h2 ⊢
   rw[h2]
  rw[e _ rfl]
  rcases cas_inv (Sq.fn Tryz.func126 rfl) (by kernel_rfl) (by kernel_rfl) (by kernel_rfl) (by kernel_rfl) (x:=x) (y:=y) h3 h4 with⟨z,z1,z2⟩|h
  ·refine .inl ⟨z,z1,z2,λhz=>?_,λhz=>?_⟩
   ·subst hz
    exact run_call_cas_hit (P:=uZ) (Sq.fn Tryz.func126 rfl) (by kernel_rfl) (by kernel_rfl) (by kernel_rfl) .i32 (by kernel_rfl) z1 z2
   ·exact run_call_cas_miss (P:=uZ) (Sq.fn Tryz.func126 rfl) (by kernel_rfl) (by kernel_rfl) (by kernel_rfl) .i32 (by kernel_rfl) z1 z2 hz
  ·exact .inr h
structure Looks (BB:FuncId->Bool):Prop where
 sub:∀f,SBx f=true->BB f=true
 h138:BB 106=true
 h139:BB 107=true
def mc {BB:FuncId->Bool}(hL:Looks BB){f:FuncId}(h:f=73\/f=74):Locks PW BB f:=by
 rcases h with rfl|rfl
 ·obtain⟨r,o1,o2,s,hp⟩:=patch_x 73 uF 0 1 Sq.f73 rfl (by rw[uG];decide) rfl
  exact⟨0,1,_,r,o1,o2,s,Tryz.f73,hp,jz (hL.sub 73 (by decide)) hL.h138,Tryz.func73,rfl⟩
 ·obtain⟨r,o1,o2,s,hp⟩:=patch_x 74 uC 1 0 Sq.f74 rfl (by rw[uE];decide) rfl
  exact⟨1,0,_,r,o1,o2,s,Tryz.f74,hp,gO (hL.sub 74 (by decide)) hL.h139,Tryz.func74,rfl⟩
def sN {BB:FuncId->Bool}{H:Hid}(hL:Looks BB)(hn:H.bl=false:=by rfl):BothK PW SBx BCx BB H 0:=by
 refine⟨tX _,tY _,λf hf hb=>?_,hL.sub,hn⟩
 rcases hf with hf|hf
 ·simp only[BCx,hf,Bool.true_and,Bool.not_eq_false',put,Bool.or_eq_true,beq_iff_eq] at hb
  rcases hb with((rfl|rfl)|rfl)|rfl
  ·exact .inl ⟨_,_,Sq.put Tryz.func39 rfl,rfl⟩
  ·exact .inl ⟨_,_,Sq.put Tryz.func68 rfl,rfl⟩
  ·exact .inr (mc hL (.inl rfl))
  ·exact .inr (mc hL (.inr rfl))
 ·unfold aE at hf
  simp only[Bool.and_eq_true,beq_iff_eq] at hf
  obtain⟨rfl,_⟩:=hf
  exact .inl ⟨_,_,Sq.put Tryz.func69 rfl,rfl⟩
end Go.Proofs.YtjmmlkobmhlikaaGreat
