/- Parts of the proof. -/
import Derived.Test.YtgicaeombogkcaaGreatP08
import Derived.Test.YtgicaeombogkcaaGreatP00
import Derived.Test.YtgicaeombogkcaaGreatP02
import Derived.Test.YtgicaeombogkcaaGreatChecked
import Derived.WalkKit
import Derived.Laws.LoneSync
import Derived.Conc.WgGenW
set_option linter.all false
set_option maxHeartbeats 4000000
set_option maxRecDepth 1000000
namespace Go.Proofs.YtgicaeombogkcaaGreat
open Go.RowKit Go.Iso Go.Co Go.Conc
section
variable {p:Program} {BB:FuncId->Bool} {Q:Goroutine->World->Prop} {b:Frame} {a:Act} {todo:List Item} {cs:List Frame} {w:World} {dn:Nat}
theorem aa (hQ:∀ g w W,Same w W->Q g w->Q g W) (hf:BB b.fn=true) (hg:fB p todo=true) (h:∀ τ d,(stepG p true (G (b.at a todo) cs) (on w τ d)).goes (fun g' w' _=>g'.callers≠[]∧∃ W,Same W w'∧KTr p BB Q dn g' W)) :
  KTr p BB Q dn (G (b.at a todo) cs) w:=by
 refine KTr.step ⟨hf,gD hg⟩ fun τ d=>?_
 have:=h τ d
 cases hs:stepG p true (G (b.at a todo) cs) (on w τ d) with
 | go g' w' es =>
  rw [hs] at this
  obtain ⟨h1,W,h2,h3⟩:=this
  exact ⟨g',w',es,rfl,h1,h3.same hQ h2⟩
 | _=>rw [hs] at this;exact this.elim
theorem cP (hQ:∀ g w W,Same w W->Q g w->Q g W) (hf:BB b.fn=true) (hg:fB p todo=true) (h:∀ τ d,(stepG p true (G { b.at a todo with mode:=.returning } cs) (on w τ d)).goes (fun g' w' _=>g'.callers≠[]∧∃ W,Same W w'∧KTr p BB Q dn g' W)) :
  KTr p BB Q dn (G { b.at a todo with mode:=.returning } cs) w:=by
 refine KTr.step ⟨hf,fun o ho=>gD (b:=b) (a:=a) hg o ho⟩ fun τ d=>?_
 have:=h τ d
 cases hs:stepG p true (G { b.at a todo with mode:=.returning } cs) (on w τ d) with
 | go g' w' es =>
  rw [hs] at this
  obtain ⟨h1,W,h2,h3⟩:=this
  exact ⟨g',w',es,rfl,h1,h3.same hQ h2⟩
 | _=>rw [hs] at this;exact this.elim
theorem lA {f:FuncId} {fn:Func} {c:Code} (args:Array Value) (k:CallKind) (hf:p.funcs[f]?=some fn) (hb:fn.body=some c) :
  Frame.enter p f args k=({ base f with kind:=k }:Frame).at { tmps:=args++Array.replicate (fn.ntmps - args.size) undef,defers:=[] } [.code c]:=by
 simp [Frame.enter,Frame.at,hf,hb,base]
theorem bT (hQ:∀ g w W,Same w W->Q g w->Q g W) {ops:Array Oper} {i:Nat} {rest:List Nat} {k:List Item} {o:Oper} {es:Array Event} {v:Value} (hf:BB b.fn=true) (hcs:cs≠[]) (ho:ops[i]?=some o) (hw:Region.wanted o (yielded ops a.tmps)=true) (hk:b.kind≠.early) (hs:SpecOp p a w o es v)
  {d':Nat} (hd:deafBehind dn es=d') (h:KTr p BB Q d' (G (b.at (a.put o.dst v) (.inRegion ops rest :: k)) cs) w):KTr p BB Q dn (G (b.at a (.inRegion ops (i :: rest) :: k)) cs) w :=
 .spec hf hcs ho hw hk hs fun τ n=>hd▸h.same hQ Same.on_
theorem hcsM (c:Frame) (cs:List Frame):(c :: cs)≠[]:=by simp
theorem af (W:World) (τ:Tape) (d:Nat) (a:Addr):(on W τ d).cell? a=W.cell? a:=rfl
theorem ab (W:World) (τ:Tape) (d:Nat):(on W τ d).heap.size=W.heap.size:=rfl
theorem ae (W:World) (τ:Tape) (d:Nat) (a:Addr):(on W τ d).frozen? a=W.frozen? a:=rfl
theorem six {args:Array Value} {n:Nat} {q:Addr} (h:args[0]?=some (.pointer (some q))) (hn:n=6):∃ t1 t2 t3 t4 t5 tl,args++Array.replicate (n - args.size) undef=(.pointer (some q) :: t1 :: t2 :: t3 :: t4 :: t5 :: tl:List Value).toArray:=by
 obtain ⟨l⟩:=args
 subst hn
 match l,h with
 | t0 :: l,h =>
  have h0:t0=.pointer (some q):=by simpa using h
  subst h0
  match l with
  | []=>exact ⟨_,_,_,_,_,[],by simp [List.replicate,Array.replicate];exact ⟨rfl,rfl,rfl,rfl,rfl⟩⟩
  | [t1]=>exact ⟨t1,_,_,_,_,[],by simp [Array.replicate];exact ⟨rfl,rfl,rfl,rfl⟩⟩
  | [t1,t2]=>exact ⟨t1,t2,_,_,_,[],by simp [Array.replicate];exact ⟨rfl,rfl,rfl⟩⟩
  | [t1,t2,t3]=>exact ⟨t1,t2,t3,_,_,[],by simp [Array.replicate];exact ⟨rfl,rfl⟩⟩
  | [t1,t2,t3,t4]=>exact ⟨t1,t2,t3,t4,_,[],by simp [Array.replicate];rfl⟩
  | t1 :: t2 :: t3 :: t4 :: t5 :: tl=>exact ⟨t1,t2,t3,t4,t5,tl,by simp [Array.replicate]⟩
end
theorem i6 {BB:FuncId->Bool} (hB0:BB 99=true) (hB1:BB 138=true):Held Tryz.prog BB 99 0 1:=by
 intro args q k cs w hk hcs hq hc hz
 obtain ⟨bq,oq,sq⟩:=q
 have hsq:sq=none:=by
  cases sq with
  | none=>rfl
  | some s=>simp [World.cell?] at hc;split at hc<;>simp_all
 subst hsq
 generalize hQd:(fun (g:Goroutine) (W:World)=>Same (w.setCell ⟨bq,oq,none⟩ (.int .i32 1)) W∧∃ fr,g=Go.Iso.gor fr cs∧fr.fn=99∧fr.kind=k∧fr.mode=.returning∧fr.defers=[]∧fr.oper?=none)=Q
 have hQ:∀ g w W,Same w W->Q g w->Q g W:=by
  subst hQd
  rintro g w1 w2 s ⟨h1,h2⟩
  exact ⟨h1.trans s,h2⟩
 have hfin:∀ (a:Act) W,a.defers=[]->Same (w.setCell ⟨bq,oq,none⟩ (.int .i32 1)) W->Q (G { (({ base 99 with kind:=k }:Frame).at a []) with mode:=.returning } cs) W:=by
  subst hQd
  exact fun a W h s=>⟨s,_,rfl,rfl,rfl,rfl,h,rfl⟩
 clear hQd
 obtain ⟨t1,t2,t3,t4,t5,tl,ht⟩:=six (n:=Tryz.f99.ntmps) hq Tryz.ntmps99
 rw [lA args k Tryz.func99 rfl,ht]
 clear ht hq
 have hkk:∀ a:Act,∀ t,(({ base 99 with kind:=k }:Frame).at a t).kind≠.early:=fun _ _=>hk
 change KTr Tryz.prog BB Q 0 (G _ cs) w
 refine aa hQ hB0 (by kernel_rfl) fun τ d=>?_
 rw [stepG_region]
 simp only [goes_go,List.size_toArray,List.length_cons,List.length_nil,Nat.reduceAdd,Nat.zero_add,List.range,List.range.loop]
 refine ⟨hcs,w,Same.on_,?_⟩
 refine aa hQ hB0 (by kernel_rfl) fun τ d=>?_
 refine goes_oper_k rfl rfl hk (fun K hK=>?_)
 have q1:=af
 have q2:=ab
 have q3:=ae
 go_simp
 clear q1 q2 q3
 refine hK _ _ ⟨hcs,w,⟨rfl,rfl,rfl⟩,?_⟩
 clear hK K
 try walk_nrm
 try simp only [ab]
 refine aa hQ hB0 (by kernel_rfl) fun τ d=>?_
 refine goes_oper_k rfl rfl hk (fun K hK=>?_)
 have q1:=af
 have q2:=ab
 have q3:=ae
 go_simp
 clear q1 q2 q3
 refine hK _ _ ⟨hcs,w,⟨rfl,rfl,rfl⟩,?_⟩
 clear hK K
 try walk_nrm
 try simp only [ab]
 refine aa hQ hB0 (by kernel_rfl) fun τ d=>?_
 refine goes_oper_k rfl rfl hk (fun K hK=>?_)
 have q1:=af
 have q2:=ab
 have q3:=ae
 go_simp
 clear q1 q2 q3
 refine hK _ _ ⟨hcs,w,⟨rfl,rfl,rfl⟩,?_⟩
 clear hK K
 try walk_nrm
 try simp only [ab]
 refine aa hQ hB0 (by kernel_rfl) fun τ d=>?_
 refine aw rfl rfl hk rfl Tryz.func138 (by kernel_rfl) (by kernel_rfl) ⟨hcsM _ _,w,Same.on_,?_⟩
 try walk_nrm
 rw [enter_at _ Tryz.func138 rfl]
 simp only [Tryz.ntmps138,List.size_toArray,List.length_cons,List.length_nil,Nat.reduceAdd,Nat.reduceSub,Array.replicate_succ,Array.replicate_zero,List.push_toArray,List.append_toArray,List.nil_append,List.cons_append]
 refine aa hQ hB1 (by kernel_rfl) fun τ d=>?_
 rw [stepG_seq]
 simp only [goes_go]
 refine ⟨(hcsM _ _),w,Same.on_,?_⟩
 refine aa hQ hB1 (by kernel_rfl) fun τ d=>?_
 rw [stepG_region]
 simp only [goes_go,List.size_toArray,List.length_cons,List.length_nil,Nat.reduceAdd,Nat.zero_add,List.range,List.range.loop]
 refine ⟨(hcsM _ _),w,Same.on_,?_⟩
 refine bT hQ hB1 (hcsM _ _) rfl rfl (by decide) (SpecOp.mark0 .disable (by simp) rfl Tryz.func120 (by kernel_rfl) (by kernel_rfl) (by kernel_rfl) (by kernel_rfl)) (d':=1) rfl ?_
 try walk_nrm
 refine aa hQ hB1 (by kernel_rfl) fun τ d=>?_
 rw [stepG_region_end]
 simp only [goes_go]
 refine ⟨(hcsM _ _),w,Same.on_,?_⟩
 refine aa hQ hB1 (by kernel_rfl) fun τ d=>?_
 rw [stepG_seq]
 simp only [goes_go]
 refine ⟨(hcsM _ _),w,Same.on_,?_⟩
 refine aa hQ hB1 (by kernel_rfl) fun τ d=>?_
 rw [stepG_seq]
 simp only [goes_go]
 refine ⟨(hcsM _ _),w,Same.on_,?_⟩
 refine aa hQ hB1 (by kernel_rfl) fun τ d=>?_
 rw [stepG_region]
 simp only [goes_go,List.size_toArray,List.length_cons,List.length_nil,Nat.reduceAdd,Nat.zero_add,List.range,List.range.loop]
 refine ⟨(hcsM _ _),w,Same.on_,?_⟩
 refine aa hQ hB1 (by kernel_rfl) fun τ d=>?_
 refine goes_oper_k rfl rfl (by decide) (fun K hK=>?_)
 have q1:=af
 have q2:=ab
 have q3:=ae
 go_simp
 clear q1 q2 q3
 refine hK _ _ ⟨(hcsM _ _),w,⟨rfl,rfl,rfl⟩,?_⟩
 clear hK K
 try walk_nrm
 try simp only [ab]
 refine aa hQ hB1 (by kernel_rfl) fun τ d=>?_
 refine goes_oper_k rfl rfl (by decide) (fun K hK=>?_)
 have q1:=af
 have q2:=ab
 have q3:=ae
 go_simp
 clear q1 q2 q3
 refine hK _ _ ⟨(hcsM _ _),w,⟨rfl,rfl,rfl⟩,?_⟩
 clear hK K
 try walk_nrm
 try simp only [ab]
 refine aa hQ hB1 (by kernel_rfl) fun τ d=>?_
 refine goes_oper_k rfl rfl (by decide) (fun K hK=>?_)
 have q1:=af
 have q2:=ab
 have q3:=ae
 go_simp
 clear q1 q2 q3
 refine hK _ _ ⟨(hcsM _ _),w,⟨rfl,rfl,rfl⟩,?_⟩
 clear hK K
 try walk_nrm
 try simp only [ab]
 refine aa hQ hB1 (by kernel_rfl) fun τ d=>?_
 refine goes_oper_k rfl rfl (by decide) (fun K hK=>?_)
 have q1:=af
 have q2:=ab
 have q3:=ae
 have hcas:=run_call_cas_hit (P:=Tryz.prog) Tryz.func162 (by kernel_rfl) (by kernel_rfl) (by kernel_rfl) .i32 (by kernel_rfl) (x:=0) (y:=1) (w:=on w τ d) hc hz
 go_simp
 clear q1 q2 q3
 refine hK _ _ ⟨(hcsM _ _),w.setCell _ _,⟨rfl,rfl,rfl⟩,?_⟩
 clear hK K
 try walk_nrm
 try simp only [ab]
 have hc2:∃ u,(w.setCell ⟨bq,oq,none⟩ (.int .i32 1)).cell? ⟨bq,oq,none⟩=some u:=⟨_,World.cell?_setCell_same _ _ _ hc⟩
 refine aa hQ hB1 (by kernel_rfl) fun τ d=>?_
 rw [stepG_region_end]
 simp only [goes_go]
 refine ⟨(hcsM _ _),_,Same.on_,?_⟩
 refine aa hQ hB1 (by kernel_rfl) fun τ d=>?_
 rw [stepG_cond (t:=true) rfl]
 simp only [goes_go,if_true,if_false,Bool.false_eq_true,↓reduceIte]
 refine ⟨(hcsM _ _),_,Same.on_,?_⟩
 refine aa hQ hB1 (by kernel_rfl) fun τ d=>?_
 rw [stepG_seq]
 simp only [goes_go]
 refine ⟨(hcsM _ _),_,Same.on_,?_⟩
 refine aa hQ hB1 (by kernel_rfl) fun τ d=>?_
 rw [stepG_cond (t:=true) rfl]
 simp only [goes_go,if_true,if_false,Bool.false_eq_true,↓reduceIte]
 refine ⟨(hcsM _ _),_,Same.on_,?_⟩
 refine aa hQ hB1 (by kernel_rfl) fun τ d=>?_
 rw [stepG_seq]
 simp only [goes_go]
 refine ⟨(hcsM _ _),_,Same.on_,?_⟩
 refine aa hQ hB1 (by kernel_rfl) fun τ d=>?_
 rw [stepG_region]
 simp only [goes_go,List.size_toArray,List.length_cons,List.length_nil,Nat.reduceAdd,Nat.zero_add,List.range,List.range.loop]
 refine ⟨(hcsM _ _),_,Same.on_,?_⟩
 refine bT hQ hB1 (hcsM _ _) rfl rfl (by decide) (SpecOp.mark0 .enable (by simp) rfl Tryz.func121 (by kernel_rfl) (by kernel_rfl) (by kernel_rfl) (by kernel_rfl)) (d':=0) rfl ?_
 try walk_nrm
 refine aa hQ hB1 (by kernel_rfl) fun τ d=>?_
 rw [stepG_region_end]
 simp only [goes_go]
 refine ⟨(hcsM _ _),_,Same.on_,?_⟩
 refine aa hQ hB1 (by kernel_rfl) fun τ d=>?_
 rw [stepG_region]
 simp only [goes_go,List.size_toArray,List.length_cons,List.length_nil,Nat.reduceAdd,Nat.zero_add,List.range,List.range.loop]
 refine ⟨(hcsM _ _),_,Same.on_,?_⟩
 refine aa hQ hB1 (by kernel_rfl) fun τ d=>?_
 refine goes_oper_k rfl rfl (by decide) (fun K hK=>?_)
 have q1:=af
 have q2:=ab
 have q3:=ae
 go_simp
 clear q1 q2 q3
 refine hK _ _ ⟨(hcsM _ _),_,⟨rfl,rfl,rfl⟩,?_⟩
 clear hK K
 try walk_nrm
 try simp only [ab]
 refine bT hQ hB1 (hcsM _ _) rfl rfl (by decide) (SpecOp.conv (t:=102) rfl (by kernel_rfl) (by kernel_rfl) (by kernel_rfl) rfl hc2) (d':=0) rfl ?_
 try walk_nrm
 refine bT hQ hB1 (hcsM _ _) rfl rfl (by decide) (SpecOp.markAt .acquire (by simp) rfl Tryz.func132 (by kernel_rfl) (by kernel_rfl) (by kernel_rfl) (by kernel_rfl) (by simp [Act.eval]) hc2) (d':=0) rfl ?_
 try walk_nrm
 refine aa hQ hB1 (by kernel_rfl) fun τ d=>?_
 rw [stepG_region_end]
 simp only [goes_go]
 refine ⟨(hcsM _ _),_,Same.on_,?_⟩
 refine aa hQ hB1 (by kernel_rfl) fun τ d=>?_
 rw [stepG_ret']
 simp only [goes_go]
 refine ⟨(hcsM _ _),_,Same.on_,?_⟩
 refine cP hQ hB1 (by kernel_rfl) fun τ d=>?_
 refine goes_leave0 rfl rfl Tryz.func138 rfl ⟨hcs,_,Same.on_,?_⟩
 refine aa hQ hB0 (by kernel_rfl) fun τ d=>?_
 rw [stepG_region_end]
 simp only [goes_go]
 refine ⟨hcs,_,Same.on_,?_⟩
 refine aa hQ hB0 (by kernel_rfl) fun τ d=>?_
 rw [stepG_end]
 simp only [goes_go]
 refine ⟨hcs,_,Same.on_,.fin (hfin _ _ rfl ⟨rfl,rfl,rfl⟩)⟩
theorem gh {BB:FuncId->Bool} (hB0:BB 100=true) (hB1:BB 139=true):Held Tryz.prog BB 100 1 0:=by
 intro args q k cs w hk hcs hq hc hz
 obtain ⟨bq,oq,sq⟩:=q
 have hsq:sq=none:=by
  cases sq with
  | none=>rfl
  | some s=>simp [World.cell?] at hc;split at hc<;>simp_all
 subst hsq
 generalize hQd:(fun (g:Goroutine) (W:World)=>Same (w.setCell ⟨bq,oq,none⟩ (.int .i32 0)) W∧∃ fr,g=Go.Iso.gor fr cs∧fr.fn=100∧fr.kind=k∧fr.mode=.returning∧fr.defers=[]∧fr.oper?=none)=Q
 have hQ:∀ g w W,Same w W->Q g w->Q g W:=by
  subst hQd
  rintro g w1 w2 s ⟨h1,h2⟩
  exact ⟨h1.trans s,h2⟩
 have hfin:∀ (a:Act) W,a.defers=[]->Same (w.setCell ⟨bq,oq,none⟩ (.int .i32 0)) W->Q (G { (({ base 100 with kind:=k }:Frame).at a []) with mode:=.returning } cs) W:=by
  subst hQd
  exact fun a W h s=>⟨s,_,rfl,rfl,rfl,rfl,h,rfl⟩
 clear hQd
 obtain ⟨t1,t2,t3,t4,t5,tl,ht⟩:=six (n:=Tryz.f100.ntmps) hq Tryz.ntmps100
 rw [lA args k Tryz.func100 rfl,ht]
 clear ht hq
 have hkk:∀ a:Act,∀ t,(({ base 100 with kind:=k }:Frame).at a t).kind≠.early:=fun _ _=>hk
 change KTr Tryz.prog BB Q 0 (G _ cs) w
 refine aa hQ hB0 (by kernel_rfl) fun τ d=>?_
 rw [stepG_region]
 simp only [goes_go,List.size_toArray,List.length_cons,List.length_nil,Nat.reduceAdd,Nat.zero_add,List.range,List.range.loop]
 refine ⟨hcs,w,Same.on_,?_⟩
 refine aa hQ hB0 (by kernel_rfl) fun τ d=>?_
 refine goes_oper_k rfl rfl hk (fun K hK=>?_)
 have q1:=af
 have q2:=ab
 have q3:=ae
 go_simp
 clear q1 q2 q3
 refine hK _ _ ⟨hcs,w,⟨rfl,rfl,rfl⟩,?_⟩
 clear hK K
 try walk_nrm
 try simp only [ab]
 refine aa hQ hB0 (by kernel_rfl) fun τ d=>?_
 refine goes_oper_k rfl rfl hk (fun K hK=>?_)
 have q1:=af
 have q2:=ab
 have q3:=ae
 go_simp
 clear q1 q2 q3
 refine hK _ _ ⟨hcs,w,⟨rfl,rfl,rfl⟩,?_⟩
 clear hK K
 try walk_nrm
 try simp only [ab]
 refine aa hQ hB0 (by kernel_rfl) fun τ d=>?_
 refine goes_oper_k rfl rfl hk (fun K hK=>?_)
 have q1:=af
 have q2:=ab
 have q3:=ae
 go_simp
 clear q1 q2 q3
 refine hK _ _ ⟨hcs,w,⟨rfl,rfl,rfl⟩,?_⟩
 clear hK K
 try walk_nrm
 try simp only [ab]
 refine aa hQ hB0 (by kernel_rfl) fun τ d=>?_
 refine aw rfl rfl hk rfl Tryz.func139 (by kernel_rfl) (by kernel_rfl) ⟨hcsM _ _,w,Same.on_,?_⟩
 try walk_nrm
 rw [enter_at _ Tryz.func139 rfl]
 simp only [Tryz.ntmps139,List.size_toArray,List.length_cons,List.length_nil,Nat.reduceAdd,Nat.reduceSub,Array.replicate_succ,Array.replicate_zero,List.push_toArray,List.append_toArray,List.nil_append,List.cons_append]
 refine aa hQ hB1 (by kernel_rfl) fun τ d=>?_
 rw [stepG_seq]
 simp only [goes_go]
 refine ⟨(hcsM _ _),w,Same.on_,?_⟩
 refine aa hQ hB1 (by kernel_rfl) fun τ d=>?_
 rw [stepG_cond (t:=true) rfl]
 simp only [goes_go,if_true,if_false,Bool.false_eq_true,↓reduceIte]
 refine ⟨(hcsM _ _),w,Same.on_,?_⟩
 refine aa hQ hB1 (by kernel_rfl) fun τ d=>?_
 rw [stepG_seq]
 simp only [goes_go]
 refine ⟨(hcsM _ _),w,Same.on_,?_⟩
 refine aa hQ hB1 (by kernel_rfl) fun τ d=>?_
 rw [stepG_region]
 simp only [goes_go,List.size_toArray,List.length_cons,List.length_nil,Nat.reduceAdd,Nat.zero_add,List.range,List.range.loop]
 refine ⟨(hcsM _ _),w,Same.on_,?_⟩
 refine aa hQ hB1 (by kernel_rfl) fun τ d=>?_
 refine goes_oper_k rfl rfl (by decide) (fun K hK=>?_)
 have q1:=af
 have q2:=ab
 have q3:=ae
 go_simp
 clear q1 q2 q3
 refine hK _ _ ⟨(hcsM _ _),w,⟨rfl,rfl,rfl⟩,?_⟩
 clear hK K
 try walk_nrm
 try simp only [ab]
 refine aa hQ hB1 (by kernel_rfl) fun τ d=>?_
 refine goes_oper_k rfl rfl (by decide) (fun K hK=>?_)
 have q1:=af
 have q2:=ab
 have q3:=ae
 go_simp
 clear q1 q2 q3
 refine hK _ _ ⟨(hcsM _ _),w,⟨rfl,rfl,rfl⟩,?_⟩
 clear hK K
 try walk_nrm
 try simp only [ab]
 refine aa hQ hB1 (by kernel_rfl) fun τ d=>?_
 refine goes_oper_k rfl rfl (by decide) (fun K hK=>?_)
 have q1:=af
 have q2:=ab
 have q3:=ae
 go_simp
 clear q1 q2 q3
 refine hK _ _ ⟨(hcsM _ _),w,⟨rfl,rfl,rfl⟩,?_⟩
 clear hK K
 try walk_nrm
 try simp only [ab]
 refine aa hQ hB1 (by kernel_rfl) fun τ d=>?_
 refine goes_oper_k rfl rfl (by decide) (fun K hK=>?_)
 have q1:=af
 have q2:=ab
 have q3:=ae
 go_simp
 clear q1 q2 q3
 refine hK _ _ ⟨(hcsM _ _),w,⟨rfl,rfl,rfl⟩,?_⟩
 clear hK K
 try walk_nrm
 try simp only [ab]
 refine aa hQ hB1 (by kernel_rfl) fun τ d=>?_
 rw [stepG_region_end]
 simp only [goes_go]
 refine ⟨(hcsM _ _),w,Same.on_,?_⟩
 refine aa hQ hB1 (by kernel_rfl) fun τ d=>?_
 rw [stepG_seq]
 simp only [goes_go]
 refine ⟨(hcsM _ _),w,Same.on_,?_⟩
 refine aa hQ hB1 (by kernel_rfl) fun τ d=>?_
 rw [stepG_region]
 simp only [goes_go,List.size_toArray,List.length_cons,List.length_nil,Nat.reduceAdd,Nat.zero_add,List.range,List.range.loop]
 refine ⟨(hcsM _ _),w,Same.on_,?_⟩
 refine aa hQ hB1 (by kernel_rfl) fun τ d=>?_
 refine goes_oper_k rfl rfl (by decide) (fun K hK=>?_)
 have q1:=af
 have q2:=ab
 have q3:=ae
 go_simp
 clear q1 q2 q3
 refine hK _ _ ⟨(hcsM _ _),w,⟨rfl,rfl,rfl⟩,?_⟩
 clear hK K
 try walk_nrm
 try simp only [ab]
 refine bT hQ hB1 (hcsM _ _) rfl rfl (by decide) (SpecOp.conv (t:=102) rfl (by kernel_rfl) (by kernel_rfl) (by kernel_rfl) rfl ⟨_,hc⟩) (d':=0) rfl ?_
 try walk_nrm
 refine bT hQ hB1 (hcsM _ _) rfl rfl (by decide) (SpecOp.markAt .releaseMerge (by simp) rfl Tryz.func119 (by kernel_rfl) (by kernel_rfl) (by kernel_rfl) (by kernel_rfl) (by simp [Act.eval]) ⟨_,hc⟩) (d':=0) rfl ?_
 try walk_nrm
 refine aa hQ hB1 (by kernel_rfl) fun τ d=>?_
 rw [stepG_region_end]
 simp only [goes_go]
 refine ⟨(hcsM _ _),w,Same.on_,?_⟩
 refine aa hQ hB1 (by kernel_rfl) fun τ d=>?_
 rw [stepG_region]
 simp only [goes_go,List.size_toArray,List.length_cons,List.length_nil,Nat.reduceAdd,Nat.zero_add,List.range,List.range.loop]
 refine ⟨(hcsM _ _),w,Same.on_,?_⟩
 refine bT hQ hB1 (hcsM _ _) rfl rfl (by decide) (SpecOp.mark0 .disable (by simp) rfl Tryz.func120 (by kernel_rfl) (by kernel_rfl) (by kernel_rfl) (by kernel_rfl)) (d':=1) rfl ?_
 try walk_nrm
 refine aa hQ hB1 (by kernel_rfl) fun τ d=>?_
 rw [stepG_region_end]
 simp only [goes_go]
 refine ⟨(hcsM _ _),w,Same.on_,?_⟩
 refine aa hQ hB1 (by kernel_rfl) fun τ d=>?_
 rw [stepG_seq]
 simp only [goes_go]
 refine ⟨(hcsM _ _),w,Same.on_,?_⟩
 refine aa hQ hB1 (by kernel_rfl) fun τ d=>?_
 rw [stepG_region]
 simp only [goes_go,List.size_toArray,List.length_cons,List.length_nil,Nat.reduceAdd,Nat.zero_add,List.range,List.range.loop]
 refine ⟨(hcsM _ _),w,Same.on_,?_⟩
 refine aa hQ hB1 (by kernel_rfl) fun τ d=>?_
 refine goes_oper_k rfl rfl (by decide) (fun K hK=>?_)
 have q1:=af
 have q2:=ab
 have q3:=ae
 go_simp
 clear q1 q2 q3
 refine hK _ _ ⟨(hcsM _ _),w,⟨rfl,rfl,rfl⟩,?_⟩
 clear hK K
 try walk_nrm
 try simp only [ab]
 refine aa hQ hB1 (by kernel_rfl) fun τ d=>?_
 refine goes_oper_k rfl rfl (by decide) (fun K hK=>?_)
 have q1:=af
 have q2:=ab
 have q3:=ae
 go_simp
 clear q1 q2 q3
 refine hK _ _ ⟨(hcsM _ _),w,⟨rfl,rfl,rfl⟩,?_⟩
 clear hK K
 try walk_nrm
 try simp only [ab]
 refine aa hQ hB1 (by kernel_rfl) fun τ d=>?_
 refine goes_oper_k rfl rfl (by decide) (fun K hK=>?_)
 have q1:=af
 have q2:=ab
 have q3:=ae
 go_simp
 clear q1 q2 q3
 refine hK _ _ ⟨(hcsM _ _),w,⟨rfl,rfl,rfl⟩,?_⟩
 clear hK K
 try walk_nrm
 try simp only [ab]
 refine aa hQ hB1 (by kernel_rfl) fun τ d=>?_
 refine goes_oper_k rfl rfl (by decide) (fun K hK=>?_)
 have q1:=af
 have q2:=ab
 have q3:=ae
 have hadd:=run_call_add (P:=Tryz.prog) Tryz.func164 (by kernel_rfl) (by kernel_rfl) (by kernel_rfl) .i32 (by kernel_rfl) (x:=1) (y:=-1) (s:=0) (w:=on w τ d) hc hz (by rfl)
 go_simp
 clear q1 q2 q3
 refine hK _ _ ⟨(hcsM _ _),w.setCell _ _,⟨rfl,rfl,rfl⟩,?_⟩
 clear hK K
 try walk_nrm
 try simp only [ab]
 refine aa hQ hB1 (by kernel_rfl) fun τ d=>?_
 refine goes_oper_k rfl rfl (by decide) (fun K hK=>?_)
 have q1:=af
 have q2:=ab
 have q3:=ae
 go_simp
 clear q1 q2 q3
 refine hK _ _ ⟨(hcsM _ _),_,⟨rfl,rfl,rfl⟩,?_⟩
 clear hK K
 try walk_nrm
 try simp only [ab]
 refine aa hQ hB1 (by kernel_rfl) fun τ d=>?_
 rw [stepG_region_end]
 simp only [goes_go]
 refine ⟨(hcsM _ _),_,Same.on_,?_⟩
 refine aa hQ hB1 (by kernel_rfl) fun τ d=>?_
 rw [stepG_seq]
 simp only [goes_go]
 refine ⟨(hcsM _ _),_,Same.on_,?_⟩
 refine aa hQ hB1 (by kernel_rfl) fun τ d=>?_
 rw [stepG_seq]
 simp only [goes_go]
 refine ⟨(hcsM _ _),_,Same.on_,?_⟩
 refine aa hQ hB1 (by kernel_rfl) fun τ d=>?_
 rw [stepG_region]
 simp only [goes_go,List.size_toArray,List.length_cons,List.length_nil,Nat.reduceAdd,Nat.zero_add,List.range,List.range.loop]
 refine ⟨(hcsM _ _),_,Same.on_,?_⟩
 refine aa hQ hB1 (by kernel_rfl) fun τ d=>?_
 refine goes_oper_k rfl rfl (by decide) (fun K hK=>?_)
 have q1:=af
 have q2:=ab
 have q3:=ae
 go_simp
 clear q1 q2 q3
 refine hK _ _ ⟨(hcsM _ _),_,⟨rfl,rfl,rfl⟩,?_⟩
 clear hK K
 try walk_nrm
 try simp only [ab]
 refine aa hQ hB1 (by kernel_rfl) fun τ d=>?_
 refine goes_oper_k rfl rfl (by decide) (fun K hK=>?_)
 have q1:=af
 have q2:=ab
 have q3:=ae
 go_simp
 clear q1 q2 q3
 refine hK _ _ ⟨(hcsM _ _),_,⟨rfl,rfl,rfl⟩,?_⟩
 clear hK K
 try walk_nrm
 try simp only [ab]
 refine aa hQ hB1 (by kernel_rfl) fun τ d=>?_
 rw [stepG_region_end]
 simp only [goes_go]
 refine ⟨(hcsM _ _),_,Same.on_,?_⟩
 refine aa hQ hB1 (by kernel_rfl) fun τ d=>?_
 rw [stepG_cond (t:=false) rfl]
 simp only [goes_go,if_true,if_false,Bool.false_eq_true,↓reduceIte]
 refine ⟨(hcsM _ _),_,Same.on_,?_⟩
 refine aa hQ hB1 (by kernel_rfl) fun τ d=>?_
 rw [stepG_skip]
 simp only [goes_go]
 refine ⟨(hcsM _ _),_,Same.on_,?_⟩
 refine aa hQ hB1 (by kernel_rfl) fun τ d=>?_
 rw [stepG_region]
 simp only [goes_go,List.size_toArray,List.length_cons,List.length_nil,Nat.reduceAdd,Nat.zero_add,List.range,List.range.loop]
 refine ⟨(hcsM _ _),_,Same.on_,?_⟩
 refine bT hQ hB1 (hcsM _ _) rfl rfl (by decide) (SpecOp.mark0 .enable (by simp) rfl Tryz.func121 (by kernel_rfl) (by kernel_rfl) (by kernel_rfl) (by kernel_rfl)) (d':=0) rfl ?_
 try walk_nrm
 refine aa hQ hB1 (by kernel_rfl) fun τ d=>?_
 rw [stepG_region_end]
 simp only [goes_go]
 refine ⟨(hcsM _ _),_,Same.on_,?_⟩
 refine aa hQ hB1 (by kernel_rfl) fun τ d=>?_
 rw [stepG_end]
 simp only [goes_go]
 refine ⟨(hcsM _ _),_,Same.on_,?_⟩
 refine cP hQ hB1 (by kernel_rfl) fun τ d=>?_
 refine goes_leave0 rfl rfl Tryz.func139 rfl ⟨hcs,_,Same.on_,?_⟩
 refine aa hQ hB0 (by kernel_rfl) fun τ d=>?_
 rw [stepG_region_end]
 simp only [goes_go]
 refine ⟨hcs,_,Same.on_,?_⟩
 refine aa hQ hB0 (by kernel_rfl) fun τ d=>?_
 rw [stepG_end]
 simp only [goes_go]
 refine ⟨hcs,_,Same.on_,.fin (hfin _ _ rfl ⟨rfl,rfl,rfl⟩)⟩
open Go.RowKit Go.Iso Go.Co Go.Conc
def sbl:List Nat:=[13,15,17,23,25,27,31,41,42,43,48,49,50,51,52,54,55,56,57,58,59,60,61,64,65,66,67,68,69,70,71,72,77,78,79,80,82,84,85,90,92,95,96,98,99,100,101,102,103,104,105,106,107,108,109,111,112,113,114,115,117,118,137,140,141,142,143,144,145,146,147,148,149,150,151,152,153,154,155,156,162,166,167,168,169,170,171,172,173,174,175,176,177,178,179,187,188,189,190,191]
def SBx (f:FuncId):Bool:=sbl.contains f
def put (f:FuncId):Bool:=f==49||f==92||f==99||f==100
def BCx (f:FuncId):Bool:=SBx f&&!put f
theorem Tryz.bigF:Tryz.prog.info? big=none:=by kernel_rfl
theorem Sq.bigF:Sq.prog.info? big=none:=by kernel_rfl
noncomputable def PW:Two:=⟨Sq.prog,Tryz.prog.funcs⟩
theorem jT {p:Nat->Bool} (h:sbl.all p=true):∀ f,SBx f=true->p f=true:=fun f hf=>(List.all_eq_true.1 h) f (by simpa [SBx] using hf)
def extB (f:FuncId):Bool:=f==95||f==96||f==162
theorem iK {f:FuncId} (h:(f==9||sqPut f||f==99||f==100)=false):Tryz.prog.funcs[f]?=Sq.prog.funcs[f]?:=by
 rw [Sq.get]
 cases Tryz.prog.funcs[f]? with
 | none=>rfl
 | some fn =>
  simp only [Bool.or_eq_false_iff] at h
  simp only [Option.map_some,sqFn,h.1.1.1,h.1.1.2,h.1.2,h.2,Bool.or_self,Bool.false_eq_true,if_false]
theorem pw:sbl.all (fun f=>fnOk Sq.prog SBx false f||extB f)=true:=by kernel_rfl
theorem fnOk_x (f:FuncId) (h:SBx f=true):fnOk Sq.prog SBx false f=true∨extB f=true:=by
 have:=jT pw f h
 simpa using this
theorem jD {fs:Array Func} {f:FuncId} (h:extB f=true) (hfs:fs[95]?=some Tryz.f95∧fs[96]?=some Tryz.f96∧fs[162]?=some Tryz.f162):ExtOk ⟨Sq.prog,fs⟩ f:=by
 unfold extB at h
 simp only [Bool.or_eq_true,beq_iff_eq] at h
 rcases h with (rfl | rfl) | rfl
 ·exact ⟨Tryz.f95,_,Sq.fn Tryz.func95 rfl,hfs.1,by kernel_rfl,by kernel_rfl,by kernel_rfl,by kernel_rfl,.add .i64,by kernel_rfl⟩
 ·exact ⟨Tryz.f96,_,Sq.fn Tryz.func96 rfl,hfs.2.1,by kernel_rfl,by kernel_rfl,by kernel_rfl,by kernel_rfl,.load .i64,by kernel_rfl⟩
 ·exact ⟨Tryz.f162,_,Sq.fn Tryz.func162 rfl,hfs.2.2,by kernel_rfl,by kernel_rfl,by kernel_rfl,by kernel_rfl,.cas .i32 (by decide),by kernel_rfl⟩
theorem qk {fs:Array Func} {fn':Func} (h:fs[93]?=some fn') (hn:fn'.name ≠ "runtime.NumGoroutine") (hb:fn'.body.isSome=true) (f:FuncId) (hf:aB SBx f=true):BarOk ⟨Sq.prog,fs⟩ f:=by
 unfold aB at hf
 simp only [Bool.and_eq_true,beq_iff_eq] at hf
 obtain ⟨rfl,_⟩:=hf
 exact ⟨_,fn',_,Sq.put Tryz.func93 rfl,h,by show Tryz.f93.name≠_;decide,hn,rfl,hb⟩
theorem sQ (H:Hid):Lib (Two.of Sq.prog) SBx H false SBx 0:=lz (fun f hf=>(fnOk_x f hf).imp_right fun h=>jD h ⟨Sq.fn Tryz.func95 rfl,Sq.fn Tryz.func96 rfl,Sq.fn Tryz.func162 rfl⟩)
 (qk (Sq.put Tryz.func93 rfl) (by show Tryz.f93.name≠_;decide) rfl) ⟨Nat.le_of_eq Sq.globals_size,Sq.bigF⟩
theorem qG:sbl.all (fun f=>put f||!(f==9||sqPut f||f==99||f==100))=true:=by kernel_rfl
theorem sR (H:Hid):Lib PW SBx H false BCx 0:=by
 refine fS (fun f hf=>?_) (fun f hf hb=>?_) (fun f hf=>?_) (qk Tryz.func93 (by decide) rfl) ⟨Nat.le_of_eq Sq.globals_size,Sq.bigF⟩
 ·simp only [BCx,Bool.and_eq_true,Bool.not_eq_true'] at hf
  rcases fnOk_x f hf.1 with h | h
  ·refine .inl ⟨h,iK ?_⟩
   have:=jT qG f hf.1
   simpa [hf.2] using this
  ·exact .inr (jD h ⟨Tryz.func95,Tryz.func96,Tryz.func162⟩)
 ·simp only [BCx,hf,Bool.true_and,Bool.not_eq_false',put,Bool.or_eq_true,beq_iff_eq] at hb
  rcases hb with ((rfl | rfl) | rfl) | rfl
  ·exact ⟨_,_,Sq.put Tryz.func49 rfl,Tryz.func49,rfl,by show Tryz.f49.name≠_;decide,by decide,rfl,rfl⟩
  ·exact ⟨_,_,Sq.put Tryz.func92 rfl,Tryz.func92,rfl,by show Tryz.f92.name≠_;decide,by decide,rfl,rfl⟩
  ·exact ⟨_,_,Sq.f99,Tryz.func99,rfl,by show Tryz.f99.name≠_;decide,by decide,rfl,rfl⟩
  ·exact ⟨_,_,Sq.f100,Tryz.func100,rfl,by show Tryz.f100.name≠_;decide,by decide,rfl,rfl⟩
 ·simp only [BCx,Bool.and_eq_true] at hf
  exact hf.1
theorem field_x (v:Value) (w:World):(∃ q,v=.pointer (some q)∧(Instr.fieldAt 104 v 1).run Sq.prog w=.ok (.pointer (some q)) w)∨FatalR ((Instr.fieldAt 104 v 1).run Sq.prog w):=by
 by_cases h:∃ q,v=.pointer (some q)
 ·obtain ⟨q,rfl⟩:=h
  refine .inl ⟨q,rfl,?_⟩
  obtain ⟨b,o,sp⟩:=q
  go_simp
 ·refine .inr ?_
  have hs:Instr.sureAddr v=stuck "an address expected (no nilCheck in front?)":=by
   cases v with
   | pointer o=>cases o with
    | none=>rfl
    | some q=>exact absurd ⟨q,rfl⟩ h
   | _=>rfl
  unfold Instr.fieldAt
  rw [hs]
  go_simp
  simp [FatalR,stuck]
  exact trivial
theorem patch_x (f:FuncId) (fn:Func) (x y:Int) (hf:Sq.prog.funcs[f]?=some fn) (ht:fn.body=some (casBody x y)) (hn:3<=fn.ntmps) (hr:fn.results=#[]):∃ r o1 o2 s,Patch Sq.prog f x y fn r o1 o2 s:=by
 refine ⟨_,_,_,_,hf,ht,hn,hr,⟨rfl,rfl,rfl,rfl⟩,fun a w=>?_,fun a q w h2 h3 h4=>?_⟩
 ·have e:∀ o:Oper,o.op=.fieldAddr 104 (.tmp 0) 1->execOp a.eval o=(do let v<-Instr.fieldAt 104 (a.eval (.tmp 0)) 1;pure (.value v)):=fun o h=>by unfold execOp;rw [h]
  rcases field_x (a.eval (.tmp 0)) w with ⟨q,h1,h2⟩ | h
  ·refine .inl ⟨q,h1,?_⟩
   rw [e _ rfl]
   simp [h2,Result.andThen]
  ·refine .inr ?_
   rw [e _ rfl]
   revert h
   simp only [Sem.run_bind]
   generalize (Instr.fieldAt 104 (a.eval (.tmp 0)) 1).run Sq.prog w=r
   intro h
   cases r with
   | ok _ _=>exact h.elim
   | halt _ _=>exact h
 ·have e : ∀ o : Oper, o.op = .call { callee := .value (.func 162), args := #[.tmp 2, .const (.int .i32 x), .const (.int .i32 y)], argTypes := #[218, 21, 21] } -> execOp a.eval o = callFunc 162 #[.pointer (some q), .int .i32 x, .int .i32 y] := fun o h => by
   unfold execOp;rw [h]
   simp [Act.eval,go_sem] at h2 ⊢
   rw [h2]
  rw [e _ rfl]
  rcases cas_inv (Sq.fn Tryz.func162 rfl) (by kernel_rfl) (by kernel_rfl) (by kernel_rfl) (by kernel_rfl) (x:=x) (y:=y) h3 h4 with ⟨z,z1,z2⟩ | h
  ·refine .inl ⟨z,z1,z2,fun hz=>?_,fun hz=>?_⟩
   ·subst hz
    exact run_call_cas_hit (P:=Sq.prog) (Sq.fn Tryz.func162 rfl) (by kernel_rfl) (by kernel_rfl) (by kernel_rfl) .i32 (by kernel_rfl) z1 z2
   ·exact run_call_cas_miss (P:=Sq.prog) (Sq.fn Tryz.func162 rfl) (by kernel_rfl) (by kernel_rfl) (by kernel_rfl) .i32 (by kernel_rfl) z1 z2 hz
  ·exact .inr h
structure Looks (BB:FuncId->Bool):Prop where
 sub:∀ f,SBx f=true->BB f=true
 h138:BB 138=true
 h139:BB 139=true
theorem lB {BB:FuncId->Bool} (hL:Looks BB) {f:FuncId} (h:f=99∨f=100):Locks PW BB f:=by
 rcases h with rfl | rfl
 ·obtain ⟨r,o1,o2,s,hp⟩:=patch_x 99 Sq.F99 0 1 Sq.f99 rfl (by rw [Sq.nt99];decide) rfl
  exact ⟨0,1,_,r,o1,o2,s,Tryz.f99,hp,i6 (hL.sub 99 (by decide)) hL.h138,Tryz.func99,rfl⟩
 ·obtain ⟨r,o1,o2,s,hp⟩:=patch_x 100 Sq.F100 1 0 Sq.f100 rfl (by rw [Sq.nt100];decide) rfl
  exact ⟨1,0,_,r,o1,o2,s,Tryz.f100,hp,gh (hL.sub 100 (by decide)) hL.h139,Tryz.func100,rfl⟩
theorem rS {BB:FuncId->Bool} {H:Hid} (hL:Looks BB) (hn:H.bl=false:=by rfl):BothK PW SBx BCx BB H 0:=by
 refine ⟨sQ _,sR _,fun f hf hb=>?_,hL.sub,hn⟩
 rcases hf with hf | hf
 ·simp only [BCx,hf,Bool.true_and,Bool.not_eq_false',put,Bool.or_eq_true,beq_iff_eq] at hb
  rcases hb with ((rfl | rfl) | rfl) | rfl
  ·exact .inl ⟨_,_,Sq.put Tryz.func49 rfl,rfl⟩
  ·exact .inl ⟨_,_,Sq.put Tryz.func92 rfl,rfl⟩
  ·exact .inr (lB hL (.inl rfl))
  ·exact .inr (lB hL (.inr rfl))
 ·unfold aB at hf
  simp only [Bool.and_eq_true,beq_iff_eq] at hf
  obtain ⟨rfl,_⟩:=hf
  exact .inl ⟨_,_,Sq.put Tryz.func93 rfl,rfl⟩
end Go.Proofs.YtgicaeombogkcaaGreat
