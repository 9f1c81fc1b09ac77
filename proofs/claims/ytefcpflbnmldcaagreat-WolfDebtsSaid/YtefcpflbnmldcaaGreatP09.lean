/- Parts of the proof. -/
import Derived.Test.YtefcpflbnmldcaaGreatP08
import Derived.Test.YtefcpflbnmldcaaGreatP00
import Derived.Test.YtefcpflbnmldcaaGreatP02
import Derived.Test.YtefcpflbnmldcaaGreatChecked
import Derived.WalkKit
import Derived.Laws.LoneSync
import Derived.Conc.WgGenW
set_option linter.all false
set_option maxHeartbeats 4000000
set_option maxRecDepth 1000000
namespace Go.Proofs.YtefcpflbnmldcaaGreat
open Go.RowKit Go.Iso Go.Co Go.Conc
section
variable {p:Program} {BB:FuncId->Bool} {Q:Goroutine->World->Prop} {b:Frame} {a:Act} {todo:List Item} {cs:List Frame} {w:World} {dn:Nat}
def aa (hQ:∀g w W,Same w W->Q g w->Q g W)(hf:BB b.fn=true)(hg:fE p todo=true)(h:∀τ d,(stepG p true (G (b.at a todo) cs) (on w τ d)).goes (λg' w' _=>g'.callers≠[]/\∃W,Same W w'/\KTr p BB Q dn g' W)) :
  KTr p BB Q dn (G (b.at a todo) cs) w:=by
 refine KTr.step ⟨hf,gN hg⟩ λτ d=>?_
 have:=h τ d
 cases hs:stepG p true (G (b.at a todo) cs) (on w τ d) with
 |go g' w' es =>
  rw[hs] at this
  obtain⟨h1,W,h2,h3⟩:=this
  exact⟨g',w',es,rfl,h1,h3.same hQ h2⟩
 |_=>rw[hs] at this;exact this.elim
def cS (hQ:∀g w W,Same w W->Q g w->Q g W)(hf:BB b.fn=true)(hg:fE p todo=true)(h:∀τ d,(stepG p true (G { b.at a todo with mode:=.returning } cs) (on w τ d)).goes (λg' w' _=>g'.callers≠[]/\∃W,Same W w'/\KTr p BB Q dn g' W)) :
  KTr p BB Q dn (G { b.at a todo with mode:=.returning } cs) w:=by
 refine KTr.step ⟨hf,λo ho=>gN (b:=b) (a:=a) hg o ho⟩ λτ d=>?_
 have:=h τ d
 cases hs:stepG p true (G { b.at a todo with mode:=.returning } cs) (on w τ d) with
 |go g' w' es =>
  rw[hs] at this
  obtain⟨h1,W,h2,h3⟩:=this
  exact⟨g',w',es,rfl,h1,h3.same hQ h2⟩
 |_=>rw[hs] at this;exact this.elim
def lM {f:FuncId}{fn:Func}{c:Code}(args:Array Value)(k:CallKind)(hf:p.funcs[f]?=some fn)(hb:fn.body=some c) :
  Frame.enter p f args k=({ base f with kind:=k }:Frame).at { tmps:=args++Array.replicate (fn.ntmps-args.size) undef,defers:=[] } [.code c]:=by
 simp[Frame.enter,Frame.at,hf,hb,base]
def bU (hQ:∀g w W,Same w W->Q g w->Q g W){ops:Array Oper}{i:Nat}{rest:List Nat}{k:List Item}{o:Oper}{es:Array Event}{v:Value}(hf:BB b.fn=true)(hcs:cs≠[])(ho:ops[i]?=some o)(hw:Region.wanted o (yielded ops a.tmps)=true)(hk:b.kind≠.early)(hs:SpecOp p a w o es v)
  {d':Nat} (hd:deafBehind dn es=d') (h:KTr p BB Q d' (G (b.at (a.put o.dst v) (.inRegion ops rest::k)) cs) w):KTr p BB Q dn (G (b.at a (.inRegion ops (i::rest)::k)) cs) w :=
 .spec hf hcs ho hw hk hs λτ n=>hd▸h.same hQ tU
def hcsM (c:Frame)(cs:List Frame):(c::cs)≠[]:=by simp
def af (W:World)(τ:Tape)(d:Nat)(a:Addr):(on W τ d).cell? a=W.cell? a:=rfl
def ab (W:World)(τ:Tape)(d:Nat):(on W τ d).heap.size=W.heap.size:=rfl
def ae (W:World)(τ:Tape)(d:Nat)(a:Addr):(on W τ d).frozen? a=W.frozen? a:=rfl
def six {args:Array Value}{n:Nat}{q:Addr}(h:args[0]?=some (.pointer (some q)))(hn:n=6):∃t1 t2 t3 t4 t5 tl,args++Array.replicate (n-args.size) undef=(.pointer (some q)::t1::t2::t3::t4::t5::tl:List Value).toArray:=by
 obtain⟨l⟩:=args
 subst hn
 match l,h with
 |t0::l,h =>
  have h0:t0=.pointer (some q):=by simpa using h
  subst h0
  match l with
  |[]=>exact⟨_,_,_,_,_,[],by simp[List.replicate,Array.replicate];exact⟨rfl,rfl,rfl,rfl,rfl⟩⟩
  |[t1]=>exact⟨t1,_,_,_,_,[],by simp[Array.replicate];exact⟨rfl,rfl,rfl,rfl⟩⟩
  |[t1,t2]=>exact⟨t1,t2,_,_,_,[],by simp[Array.replicate];exact⟨rfl,rfl,rfl⟩⟩
  |[t1,t2,t3]=>exact⟨t1,t2,t3,_,_,[],by simp[Array.replicate];exact⟨rfl,rfl⟩⟩
  |[t1,t2,t3,t4]=>exact⟨t1,t2,t3,t4,_,[],by simp[Array.replicate];rfl⟩
  |t1::t2::t3::t4::t5::tl=>exact⟨t1,t2,t3,t4,t5,tl,by simp[Array.replicate]⟩
end
def jg {BB:FuncId->Bool}(hB0:BB 133=true)(hB1:BB 177=true):Held Tryz.prog BB 133 0 1:=by
 intro args q k cs w hk hcs hq hc hz
 obtain⟨bq,oq,sq⟩:=q
 have hsq:sq=none:=by
  cases sq with
  |none=>rfl
  |some s=>simp[World.cell?] at hc;split at hc<;>simp_all
 subst hsq
 generalize hQd:(λ(g:Goroutine) (W:World)=>Same (w.setCell ⟨bq,oq,none⟩ (.int .i32 1)) W/\∃fr,g=Go.Iso.gor fr cs/\fr.fn=133/\fr.kind=k/\fr.mode=.returning/\fr.defers=[]/\fr.oper?=none)=Q
 have hQ:∀g w W,Same w W->Q g w->Q g W:=by
  subst hQd
  rintro g w1 w2 s ⟨h1,h2⟩
  exact⟨h1.trans s,h2⟩
 have hfin:∀(a:Act) W,a.defers=[]->Same (w.setCell ⟨bq,oq,none⟩ (.int .i32 1)) W->Q (G { (({ base 133 with kind:=k }:Frame).at a []) with mode:=.returning } cs) W:=by
  subst hQd
  exact λa W h s=>⟨s,_,rfl,rfl,rfl,rfl,h,rfl⟩
 clear hQd
 obtain⟨t1,t2,t3,t4,t5,tl,ht⟩:=six (n:=Tryz.f133.ntmps) hq Tryz.ntmps133
 rw[lM args k Tryz.func133 rfl,ht]
 clear ht hq
 have hkk:∀a:Act,∀t,(({ base 133 with kind:=k }:Frame).at a t).kind≠.early:=λ_ _=>hk
 change KTr Tryz.prog BB Q 0 (G _ cs) w
 refine aa hQ hB0 (by kernel_rfl) λτ d=>?_
 rw[stepG_region]
 simp only[goes_go,List.size_toArray,List.length_cons,List.length_nil,Nat.reduceAdd,Nat.zero_add,List.range,List.range.loop]
 refine⟨hcs,w,tU,?_⟩
 refine aa hQ hB0 (by kernel_rfl) λτ d=>?_
 refine goes_oper_k rfl rfl hk (λK hK=>?_)
 have q1:=af
 have q2:=ab
 have q3:=ae
 go_simp
 clear q1 q2 q3
 refine hK _ _ ⟨hcs,w,⟨rfl,rfl,rfl⟩,?_⟩
 clear hK K
 try walk_nrm
 try simp only[ab]
 refine aa hQ hB0 (by kernel_rfl) λτ d=>?_
 refine goes_oper_k rfl rfl hk (λK hK=>?_)
 have q1:=af
 have q2:=ab
 have q3:=ae
 go_simp
 clear q1 q2 q3
 refine hK _ _ ⟨hcs,w,⟨rfl,rfl,rfl⟩,?_⟩
 clear hK K
 try walk_nrm
 try simp only[ab]
 refine aa hQ hB0 (by kernel_rfl) λτ d=>?_
 refine goes_oper_k rfl rfl hk (λK hK=>?_)
 have q1:=af
 have q2:=ab
 have q3:=ae
 go_simp
 clear q1 q2 q3
 refine hK _ _ ⟨hcs,w,⟨rfl,rfl,rfl⟩,?_⟩
 clear hK K
 try walk_nrm
 try simp only[ab]
 refine aa hQ hB0 (by kernel_rfl) λτ d=>?_
 refine ax rfl rfl hk rfl Tryz.func177 (by kernel_rfl) (by kernel_rfl) ⟨hcsM _ _,w,tU,?_⟩
 try walk_nrm
 rw[enter_at _ Tryz.func177 rfl]
 simp only[Tryz.ntmps177,List.size_toArray,List.length_cons,List.length_nil,Nat.reduceAdd,Nat.reduceSub,Array.replicate_succ,Array.replicate_zero,List.push_toArray,List.append_toArray,List.nil_append,List.cons_append]
 refine aa hQ hB1 (by kernel_rfl) λτ d=>?_
 rw[stepG_seq]
 simp only[goes_go]
 refine⟨(hcsM _ _),w,tU,?_⟩
 refine aa hQ hB1 (by kernel_rfl) λτ d=>?_
 rw[stepG_region]
 simp only[goes_go,List.size_toArray,List.length_cons,List.length_nil,Nat.reduceAdd,Nat.zero_add,List.range,List.range.loop]
 refine⟨(hcsM _ _),w,tU,?_⟩
 refine bU hQ hB1 (hcsM _ _) rfl rfl (by decide) (SpecOp.mark0 .disable (by simp) rfl Tryz.func160 (by kernel_rfl) (by kernel_rfl) (by kernel_rfl) (by kernel_rfl)) (d':=1) rfl ?_
 try walk_nrm
 refine aa hQ hB1 (by kernel_rfl) λτ d=>?_
 rw[stepG_region_end]
 simp only[goes_go]
 refine⟨(hcsM _ _),w,tU,?_⟩
 refine aa hQ hB1 (by kernel_rfl) λτ d=>?_
 rw[stepG_seq]
 simp only[goes_go]
 refine⟨(hcsM _ _),w,tU,?_⟩
 refine aa hQ hB1 (by kernel_rfl) λτ d=>?_
 rw[stepG_seq]
 simp only[goes_go]
 refine⟨(hcsM _ _),w,tU,?_⟩
 refine aa hQ hB1 (by kernel_rfl) λτ d=>?_
 rw[stepG_region]
 simp only[goes_go,List.size_toArray,List.length_cons,List.length_nil,Nat.reduceAdd,Nat.zero_add,List.range,List.range.loop]
 refine⟨(hcsM _ _),w,tU,?_⟩
 refine aa hQ hB1 (by kernel_rfl) λτ d=>?_
 refine goes_oper_k rfl rfl (by decide) (λK hK=>?_)
 have q1:=af
 have q2:=ab
 have q3:=ae
 go_simp
 clear q1 q2 q3
 refine hK _ _ ⟨(hcsM _ _),w,⟨rfl,rfl,rfl⟩,?_⟩
 clear hK K
 try walk_nrm
 try simp only[ab]
 refine aa hQ hB1 (by kernel_rfl) λτ d=>?_
 refine goes_oper_k rfl rfl (by decide) (λK hK=>?_)
 have q1:=af
 have q2:=ab
 have q3:=ae
 go_simp
 clear q1 q2 q3
 refine hK _ _ ⟨(hcsM _ _),w,⟨rfl,rfl,rfl⟩,?_⟩
 clear hK K
 try walk_nrm
 try simp only[ab]
 refine aa hQ hB1 (by kernel_rfl) λτ d=>?_
 refine goes_oper_k rfl rfl (by decide) (λK hK=>?_)
 have q1:=af
 have q2:=ab
 have q3:=ae
 go_simp
 clear q1 q2 q3
 refine hK _ _ ⟨(hcsM _ _),w,⟨rfl,rfl,rfl⟩,?_⟩
 clear hK K
 try walk_nrm
 try simp only[ab]
 refine aa hQ hB1 (by kernel_rfl) λτ d=>?_
 refine goes_oper_k rfl rfl (by decide) (λK hK=>?_)
 have q1:=af
 have q2:=ab
 have q3:=ae
 have hcas:=run_call_cas_hit (P:=Tryz.prog) Tryz.func198 (by kernel_rfl) (by kernel_rfl) (by kernel_rfl) .i32 (by kernel_rfl) (x:=0) (y:=1) (w:=on w τ d) hc hz
 go_simp
 clear q1 q2 q3
 refine hK _ _ ⟨(hcsM _ _),w.setCell _ _,⟨rfl,rfl,rfl⟩,?_⟩
 clear hK K
 try walk_nrm
 try simp only[ab]
 have hc2:∃u,(w.setCell ⟨bq,oq,none⟩ (.int .i32 1)).cell? ⟨bq,oq,none⟩=some u:=⟨_,World.cell?_setCell_same _ _ _ hc⟩
 refine aa hQ hB1 (by kernel_rfl) λτ d=>?_
 rw[stepG_region_end]
 simp only[goes_go]
 refine⟨(hcsM _ _),_,tU,?_⟩
 refine aa hQ hB1 (by kernel_rfl) λτ d=>?_
 rw[stepG_cond (t:=true) rfl]
 simp only[goes_go,if_true,if_false,Bool.false_eq_true,↓reduceIte]
 refine⟨(hcsM _ _),_,tU,?_⟩
 refine aa hQ hB1 (by kernel_rfl) λτ d=>?_
 rw[stepG_seq]
 simp only[goes_go]
 refine⟨(hcsM _ _),_,tU,?_⟩
 refine aa hQ hB1 (by kernel_rfl) λτ d=>?_
 rw[stepG_cond (t:=true) rfl]
 simp only[goes_go,if_true,if_false,Bool.false_eq_true,↓reduceIte]
 refine⟨(hcsM _ _),_,tU,?_⟩
 refine aa hQ hB1 (by kernel_rfl) λτ d=>?_
 rw[stepG_seq]
 simp only[goes_go]
 refine⟨(hcsM _ _),_,tU,?_⟩
 refine aa hQ hB1 (by kernel_rfl) λτ d=>?_
 rw[stepG_region]
 simp only[goes_go,List.size_toArray,List.length_cons,List.length_nil,Nat.reduceAdd,Nat.zero_add,List.range,List.range.loop]
 refine⟨(hcsM _ _),_,tU,?_⟩
 refine bU hQ hB1 (hcsM _ _) rfl rfl (by decide) (SpecOp.mark0 .enable (by simp) rfl Tryz.func161 (by kernel_rfl) (by kernel_rfl) (by kernel_rfl) (by kernel_rfl)) (d':=0) rfl ?_
 try walk_nrm
 refine aa hQ hB1 (by kernel_rfl) λτ d=>?_
 rw[stepG_region_end]
 simp only[goes_go]
 refine⟨(hcsM _ _),_,tU,?_⟩
 refine aa hQ hB1 (by kernel_rfl) λτ d=>?_
 rw[stepG_region]
 simp only[goes_go,List.size_toArray,List.length_cons,List.length_nil,Nat.reduceAdd,Nat.zero_add,List.range,List.range.loop]
 refine⟨(hcsM _ _),_,tU,?_⟩
 refine aa hQ hB1 (by kernel_rfl) λτ d=>?_
 refine goes_oper_k rfl rfl (by decide) (λK hK=>?_)
 have q1:=af
 have q2:=ab
 have q3:=ae
 go_simp
 clear q1 q2 q3
 refine hK _ _ ⟨(hcsM _ _),_,⟨rfl,rfl,rfl⟩,?_⟩
 clear hK K
 try walk_nrm
 try simp only[ab]
 refine bU hQ hB1 (hcsM _ _) rfl rfl (by decide) (SpecOp.conv (t:=123) rfl (by kernel_rfl) (by kernel_rfl) (by kernel_rfl) rfl hc2) (d':=0) rfl ?_
 try walk_nrm
 refine bU hQ hB1 (hcsM _ _) rfl rfl (by decide) (SpecOp.markAt .acquire (by simp) rfl Tryz.func172 (by kernel_rfl) (by kernel_rfl) (by kernel_rfl) (by kernel_rfl) (by simp[Act.eval]) hc2) (d':=0) rfl ?_
 try walk_nrm
 refine aa hQ hB1 (by kernel_rfl) λτ d=>?_
 rw[stepG_region_end]
 simp only[goes_go]
 refine⟨(hcsM _ _),_,tU,?_⟩
 refine aa hQ hB1 (by kernel_rfl) λτ d=>?_
 rw[stepG_ret']
 simp only[goes_go]
 refine⟨(hcsM _ _),_,tU,?_⟩
 refine cS hQ hB1 (by kernel_rfl) λτ d=>?_
 refine goes_leave0 rfl rfl Tryz.func177 rfl ⟨hcs,_,tU,?_⟩
 refine aa hQ hB0 (by kernel_rfl) λτ d=>?_
 rw[stepG_region_end]
 simp only[goes_go]
 refine⟨hcs,_,tU,?_⟩
 refine aa hQ hB0 (by kernel_rfl) λτ d=>?_
 rw[stepG_end]
 simp only[goes_go]
 refine⟨hcs,_,tU,.fin (hfin _ _ rfl ⟨rfl,rfl,rfl⟩)⟩
def gv {BB:FuncId->Bool}(hB0:BB 134=true)(hB1:BB 178=true):Held Tryz.prog BB 134 1 0:=by
 intro args q k cs w hk hcs hq hc hz
 obtain⟨bq,oq,sq⟩:=q
 have hsq:sq=none:=by
  cases sq with
  |none=>rfl
  |some s=>simp[World.cell?] at hc;split at hc<;>simp_all
 subst hsq
 generalize hQd:(λ(g:Goroutine) (W:World)=>Same (w.setCell ⟨bq,oq,none⟩ (.int .i32 0)) W/\∃fr,g=Go.Iso.gor fr cs/\fr.fn=134/\fr.kind=k/\fr.mode=.returning/\fr.defers=[]/\fr.oper?=none)=Q
 have hQ:∀g w W,Same w W->Q g w->Q g W:=by
  subst hQd
  rintro g w1 w2 s ⟨h1,h2⟩
  exact⟨h1.trans s,h2⟩
 have hfin:∀(a:Act) W,a.defers=[]->Same (w.setCell ⟨bq,oq,none⟩ (.int .i32 0)) W->Q (G { (({ base 134 with kind:=k }:Frame).at a []) with mode:=.returning } cs) W:=by
  subst hQd
  exact λa W h s=>⟨s,_,rfl,rfl,rfl,rfl,h,rfl⟩
 clear hQd
 obtain⟨t1,t2,t3,t4,t5,tl,ht⟩:=six (n:=Tryz.f134.ntmps) hq Tryz.ntmps134
 rw[lM args k Tryz.func134 rfl,ht]
 clear ht hq
 have hkk:∀a:Act,∀t,(({ base 134 with kind:=k }:Frame).at a t).kind≠.early:=λ_ _=>hk
 change KTr Tryz.prog BB Q 0 (G _ cs) w
 refine aa hQ hB0 (by kernel_rfl) λτ d=>?_
 rw[stepG_region]
 simp only[goes_go,List.size_toArray,List.length_cons,List.length_nil,Nat.reduceAdd,Nat.zero_add,List.range,List.range.loop]
 refine⟨hcs,w,tU,?_⟩
 refine aa hQ hB0 (by kernel_rfl) λτ d=>?_
 refine goes_oper_k rfl rfl hk (λK hK=>?_)
 have q1:=af
 have q2:=ab
 have q3:=ae
 go_simp
 clear q1 q2 q3
 refine hK _ _ ⟨hcs,w,⟨rfl,rfl,rfl⟩,?_⟩
 clear hK K
 try walk_nrm
 try simp only[ab]
 refine aa hQ hB0 (by kernel_rfl) λτ d=>?_
 refine goes_oper_k rfl rfl hk (λK hK=>?_)
 have q1:=af
 have q2:=ab
 have q3:=ae
 go_simp
 clear q1 q2 q3
 refine hK _ _ ⟨hcs,w,⟨rfl,rfl,rfl⟩,?_⟩
 clear hK K
 try walk_nrm
 try simp only[ab]
 refine aa hQ hB0 (by kernel_rfl) λτ d=>?_
 refine goes_oper_k rfl rfl hk (λK hK=>?_)
 have q1:=af
 have q2:=ab
 have q3:=ae
 go_simp
 clear q1 q2 q3
 refine hK _ _ ⟨hcs,w,⟨rfl,rfl,rfl⟩,?_⟩
 clear hK K
 try walk_nrm
 try simp only[ab]
 refine aa hQ hB0 (by kernel_rfl) λτ d=>?_
 refine ax rfl rfl hk rfl Tryz.func178 (by kernel_rfl) (by kernel_rfl) ⟨hcsM _ _,w,tU,?_⟩
 try walk_nrm
 rw[enter_at _ Tryz.func178 rfl]
 simp only[Tryz.ntmps178,List.size_toArray,List.length_cons,List.length_nil,Nat.reduceAdd,Nat.reduceSub,Array.replicate_succ,Array.replicate_zero,List.push_toArray,List.append_toArray,List.nil_append,List.cons_append]
 refine aa hQ hB1 (by kernel_rfl) λτ d=>?_
 rw[stepG_seq]
 simp only[goes_go]
 refine⟨(hcsM _ _),w,tU,?_⟩
 refine aa hQ hB1 (by kernel_rfl) λτ d=>?_
 rw[stepG_cond (t:=true) rfl]
 simp only[goes_go,if_true,if_false,Bool.false_eq_true,↓reduceIte]
 refine⟨(hcsM _ _),w,tU,?_⟩
 refine aa hQ hB1 (by kernel_rfl) λτ d=>?_
 rw[stepG_seq]
 simp only[goes_go]
 refine⟨(hcsM _ _),w,tU,?_⟩
 refine aa hQ hB1 (by kernel_rfl) λτ d=>?_
 rw[stepG_region]
 simp only[goes_go,List.size_toArray,List.length_cons,List.length_nil,Nat.reduceAdd,Nat.zero_add,List.range,List.range.loop]
 refine⟨(hcsM _ _),w,tU,?_⟩
 refine aa hQ hB1 (by kernel_rfl) λτ d=>?_
 refine goes_oper_k rfl rfl (by decide) (λK hK=>?_)
 have q1:=af
 have q2:=ab
 have q3:=ae
 go_simp
 clear q1 q2 q3
 refine hK _ _ ⟨(hcsM _ _),w,⟨rfl,rfl,rfl⟩,?_⟩
 clear hK K
 try walk_nrm
 try simp only[ab]
 refine aa hQ hB1 (by kernel_rfl) λτ d=>?_
 refine goes_oper_k rfl rfl (by decide) (λK hK=>?_)
 have q1:=af
 have q2:=ab
 have q3:=ae
 go_simp
 clear q1 q2 q3
 refine hK _ _ ⟨(hcsM _ _),w,⟨rfl,rfl,rfl⟩,?_⟩
 clear hK K
 try walk_nrm
 try simp only[ab]
 refine aa hQ hB1 (by kernel_rfl) λτ d=>?_
 refine goes_oper_k rfl rfl (by decide) (λK hK=>?_)
 have q1:=af
 have q2:=ab
 have q3:=ae
 go_simp
 clear q1 q2 q3
 refine hK _ _ ⟨(hcsM _ _),w,⟨rfl,rfl,rfl⟩,?_⟩
 clear hK K
 try walk_nrm
 try simp only[ab]
 refine aa hQ hB1 (by kernel_rfl) λτ d=>?_
 refine goes_oper_k rfl rfl (by decide) (λK hK=>?_)
 have q1:=af
 have q2:=ab
 have q3:=ae
 go_simp
 clear q1 q2 q3
 refine hK _ _ ⟨(hcsM _ _),w,⟨rfl,rfl,rfl⟩,?_⟩
 clear hK K
 try walk_nrm
 try simp only[ab]
 refine aa hQ hB1 (by kernel_rfl) λτ d=>?_
 rw[stepG_region_end]
 simp only[goes_go]
 refine⟨(hcsM _ _),w,tU,?_⟩
 refine aa hQ hB1 (by kernel_rfl) λτ d=>?_
 rw[stepG_seq]
 simp only[goes_go]
 refine⟨(hcsM _ _),w,tU,?_⟩
 refine aa hQ hB1 (by kernel_rfl) λτ d=>?_
 rw[stepG_region]
 simp only[goes_go,List.size_toArray,List.length_cons,List.length_nil,Nat.reduceAdd,Nat.zero_add,List.range,List.range.loop]
 refine⟨(hcsM _ _),w,tU,?_⟩
 refine aa hQ hB1 (by kernel_rfl) λτ d=>?_
 refine goes_oper_k rfl rfl (by decide) (λK hK=>?_)
 have q1:=af
 have q2:=ab
 have q3:=ae
 go_simp
 clear q1 q2 q3
 refine hK _ _ ⟨(hcsM _ _),w,⟨rfl,rfl,rfl⟩,?_⟩
 clear hK K
 try walk_nrm
 try simp only[ab]
 refine bU hQ hB1 (hcsM _ _) rfl rfl (by decide) (SpecOp.conv (t:=123) rfl (by kernel_rfl) (by kernel_rfl) (by kernel_rfl) rfl ⟨_,hc⟩) (d':=0) rfl ?_
 try walk_nrm
 refine bU hQ hB1 (hcsM _ _) rfl rfl (by decide) (SpecOp.markAt .releaseMerge (by simp) rfl Tryz.func159 (by kernel_rfl) (by kernel_rfl) (by kernel_rfl) (by kernel_rfl) (by simp[Act.eval]) ⟨_,hc⟩) (d':=0) rfl ?_
 try walk_nrm
 refine aa hQ hB1 (by kernel_rfl) λτ d=>?_
 rw[stepG_region_end]
 simp only[goes_go]
 refine⟨(hcsM _ _),w,tU,?_⟩
 refine aa hQ hB1 (by kernel_rfl) λτ d=>?_
 rw[stepG_region]
 simp only[goes_go,List.size_toArray,List.length_cons,List.length_nil,Nat.reduceAdd,Nat.zero_add,List.range,List.range.loop]
 refine⟨(hcsM _ _),w,tU,?_⟩
 refine bU hQ hB1 (hcsM _ _) rfl rfl (by decide) (SpecOp.mark0 .disable (by simp) rfl Tryz.func160 (by kernel_rfl) (by kernel_rfl) (by kernel_rfl) (by kernel_rfl)) (d':=1) rfl ?_
 try walk_nrm
 refine aa hQ hB1 (by kernel_rfl) λτ d=>?_
 rw[stepG_region_end]
 simp only[goes_go]
 refine⟨(hcsM _ _),w,tU,?_⟩
 refine aa hQ hB1 (by kernel_rfl) λτ d=>?_
 rw[stepG_seq]
 simp only[goes_go]
 refine⟨(hcsM _ _),w,tU,?_⟩
 refine aa hQ hB1 (by kernel_rfl) λτ d=>?_
 rw[stepG_region]
 simp only[goes_go,List.size_toArray,List.length_cons,List.length_nil,Nat.reduceAdd,Nat.zero_add,List.range,List.range.loop]
 refine⟨(hcsM _ _),w,tU,?_⟩
 refine aa hQ hB1 (by kernel_rfl) λτ d=>?_
 refine goes_oper_k rfl rfl (by decide) (λK hK=>?_)
 have q1:=af
 have q2:=ab
 have q3:=ae
 go_simp
 clear q1 q2 q3
 refine hK _ _ ⟨(hcsM _ _),w,⟨rfl,rfl,rfl⟩,?_⟩
 clear hK K
 try walk_nrm
 try simp only[ab]
 refine aa hQ hB1 (by kernel_rfl) λτ d=>?_
 refine goes_oper_k rfl rfl (by decide) (λK hK=>?_)
 have q1:=af
 have q2:=ab
 have q3:=ae
 go_simp
 clear q1 q2 q3
 refine hK _ _ ⟨(hcsM _ _),w,⟨rfl,rfl,rfl⟩,?_⟩
 clear hK K
 try walk_nrm
 try simp only[ab]
 refine aa hQ hB1 (by kernel_rfl) λτ d=>?_
 refine goes_oper_k rfl rfl (by decide) (λK hK=>?_)
 have q1:=af
 have q2:=ab
 have q3:=ae
 go_simp
 clear q1 q2 q3
 refine hK _ _ ⟨(hcsM _ _),w,⟨rfl,rfl,rfl⟩,?_⟩
 clear hK K
 try walk_nrm
 try simp only[ab]
 refine aa hQ hB1 (by kernel_rfl) λτ d=>?_
 refine goes_oper_k rfl rfl (by decide) (λK hK=>?_)
 have q1:=af
 have q2:=ab
 have q3:=ae
 have hadd:=run_call_add (P:=Tryz.prog) Tryz.func200 (by kernel_rfl) (by kernel_rfl) (by kernel_rfl) .i32 (by kernel_rfl) (x:=1) (y:=-1) (s:=0) (w:=on w τ d) hc hz (by rfl)
 go_simp
 clear q1 q2 q3
 refine hK _ _ ⟨(hcsM _ _),w.setCell _ _,⟨rfl,rfl,rfl⟩,?_⟩
 clear hK K
 try walk_nrm
 try simp only[ab]
 refine aa hQ hB1 (by kernel_rfl) λτ d=>?_
 refine goes_oper_k rfl rfl (by decide) (λK hK=>?_)
 have q1:=af
 have q2:=ab
 have q3:=ae
 go_simp
 clear q1 q2 q3
 refine hK _ _ ⟨(hcsM _ _),_,⟨rfl,rfl,rfl⟩,?_⟩
 clear hK K
 try walk_nrm
 try simp only[ab]
 refine aa hQ hB1 (by kernel_rfl) λτ d=>?_
 rw[stepG_region_end]
 simp only[goes_go]
 refine⟨(hcsM _ _),_,tU,?_⟩
 refine aa hQ hB1 (by kernel_rfl) λτ d=>?_
 rw[stepG_seq]
 simp only[goes_go]
 refine⟨(hcsM _ _),_,tU,?_⟩
 refine aa hQ hB1 (by kernel_rfl) λτ d=>?_
 rw[stepG_seq]
 simp only[goes_go]
 refine⟨(hcsM _ _),_,tU,?_⟩
 refine aa hQ hB1 (by kernel_rfl) λτ d=>?_
 rw[stepG_region]
 simp only[goes_go,List.size_toArray,List.length_cons,List.length_nil,Nat.reduceAdd,Nat.zero_add,List.range,List.range.loop]
 refine⟨(hcsM _ _),_,tU,?_⟩
 refine aa hQ hB1 (by kernel_rfl) λτ d=>?_
 refine goes_oper_k rfl rfl (by decide) (λK hK=>?_)
 have q1:=af
 have q2:=ab
 have q3:=ae
 go_simp
 clear q1 q2 q3
 refine hK _ _ ⟨(hcsM _ _),_,⟨rfl,rfl,rfl⟩,?_⟩
 clear hK K
 try walk_nrm
 try simp only[ab]
 refine aa hQ hB1 (by kernel_rfl) λτ d=>?_
 refine goes_oper_k rfl rfl (by decide) (λK hK=>?_)
 have q1:=af
 have q2:=ab
 have q3:=ae
 go_simp
 clear q1 q2 q3
 refine hK _ _ ⟨(hcsM _ _),_,⟨rfl,rfl,rfl⟩,?_⟩
 clear hK K
 try walk_nrm
 try simp only[ab]
 refine aa hQ hB1 (by kernel_rfl) λτ d=>?_
 rw[stepG_region_end]
 simp only[goes_go]
 refine⟨(hcsM _ _),_,tU,?_⟩
 refine aa hQ hB1 (by kernel_rfl) λτ d=>?_
 rw[stepG_cond (t:=false) rfl]
 simp only[goes_go,if_true,if_false,Bool.false_eq_true,↓reduceIte]
 refine⟨(hcsM _ _),_,tU,?_⟩
 refine aa hQ hB1 (by kernel_rfl) λτ d=>?_
 rw[stepG_skip]
 simp only[goes_go]
 refine⟨(hcsM _ _),_,tU,?_⟩
 refine aa hQ hB1 (by kernel_rfl) λτ d=>?_
 rw[stepG_region]
 simp only[goes_go,List.size_toArray,List.length_cons,List.length_nil,Nat.reduceAdd,Nat.zero_add,List.range,List.range.loop]
 refine⟨(hcsM _ _),_,tU,?_⟩
 refine bU hQ hB1 (hcsM _ _) rfl rfl (by decide) (SpecOp.mark0 .enable (by simp) rfl Tryz.func161 (by kernel_rfl) (by kernel_rfl) (by kernel_rfl) (by kernel_rfl)) (d':=0) rfl ?_
 try walk_nrm
 refine aa hQ hB1 (by kernel_rfl) λτ d=>?_
 rw[stepG_region_end]
 simp only[goes_go]
 refine⟨(hcsM _ _),_,tU,?_⟩
 refine aa hQ hB1 (by kernel_rfl) λτ d=>?_
 rw[stepG_end]
 simp only[goes_go]
 refine⟨(hcsM _ _),_,tU,?_⟩
 refine cS hQ hB1 (by kernel_rfl) λτ d=>?_
 refine goes_leave0 rfl rfl Tryz.func178 rfl ⟨hcs,_,tU,?_⟩
 refine aa hQ hB0 (by kernel_rfl) λτ d=>?_
 rw[stepG_region_end]
 simp only[goes_go]
 refine⟨hcs,_,tU,?_⟩
 refine aa hQ hB0 (by kernel_rfl) λτ d=>?_
 rw[stepG_end]
 simp only[goes_go]
 refine⟨hcs,_,tU,.fin (hfin _ _ rfl ⟨rfl,rfl,rfl⟩)⟩
open Go.RowKit Go.Iso Go.Co Go.Conc
def sbl:List FuncId:=[24,26,28,34,36,38,56,75,50,76,78,79,80,81,82,84,85,86,87,88,89,90,91,94,95,96,97,98,99,100,101,102,107,108,109,110,116,118,119,49,127,130,131,115,133,134,135,136,137,138,139,140,141,142,143,145,152,153,154,149,113,114,151,179,180,181,182,183,184,185,186,187,188,189,190,191,146,147,148,150,198,202,203,204,205,206,207,208,209,210,211,212,213,214,192,222,223,224,225,226]
def SBx (f:FuncId):Bool:=sbl.contains f
def put (f:FuncId):Bool:=f==79||f==127||f==133||f==134
def BCx (f:FuncId):Bool:=SBx f&&!put f
def Tryz.bigF:Tryz.prog.info? big=none:=by kernel_rfl
def Sq.bigF:uG.info? big=none:=by kernel_rfl
noncomputable def PW:Two:=⟨uG,Tryz.prog.funcs⟩
def j4 {p:Nat->Bool}(h:sbl.all p=true):∀f,SBx f=true->p f=true:=λf hf=>(List.all_eq_true.1 h) f (by simpa [SBx] using hf)
def extB (f:FuncId):Bool:=f==130||f==131||f==198
def iU {f:FuncId}(h:(f==20||sqPut f||f==133||f==134)=false):Tryz.prog.funcs[f]?=uG.funcs[f]?:=by
 rw[Sq.get]
 cases Tryz.prog.funcs[f]? with
 |none=>rfl
 |some fn =>
  simp only[Bool.or_eq_false_iff] at h
  simp only[Option.map_some,sqFn,h.1.1.1,h.1.1.2,h.1.2,h.2,Bool.or_self,Bool.false_eq_true,if_false]
def pP:sbl.all (λf=>fnOk uG SBx false f||extB f)=true:=by kernel_rfl
def fnOk_x (f:FuncId)(h:SBx f=true):fnOk uG SBx false f=true\/extB f=true:=by
 have:=j4 pP f h
 simpa using this
def jJ {fs:Array Func}{f:FuncId}(h:extB f=true)(hfs:fs[130]?=some Tryz.f130/\fs[131]?=some Tryz.f131/\fs[198]?=some Tryz.f198):ExtOk ⟨uG,fs⟩ f:=by
 unfold extB at h
 simp only[Bool.or_eq_true,beq_iff_eq] at h
 rcases h with(rfl|rfl)|rfl
 ·exact⟨Tryz.f130,_,Sq.fn Tryz.func130 rfl,hfs.1,by kernel_rfl,by kernel_rfl,by kernel_rfl,by kernel_rfl,.add .i64,by kernel_rfl⟩
 ·exact⟨Tryz.f131,_,Sq.fn Tryz.func131 rfl,hfs.2.1,by kernel_rfl,by kernel_rfl,by kernel_rfl,by kernel_rfl,.load .i64,by kernel_rfl⟩
 ·exact⟨Tryz.f198,_,Sq.fn Tryz.func198 rfl,hfs.2.2,by kernel_rfl,by kernel_rfl,by kernel_rfl,by kernel_rfl,.cas .i32 (by decide),by kernel_rfl⟩
def qH {fs:Array Func} {fn':Func} (h:fs[128]?=some fn') (hn:fn'.name ≠ "runtime.NumGoroutine") (hb:fn'.body.isSome=true) (f:FuncId) (hf:aC SBx f=true):BarOk ⟨uG,fs⟩ f:=by
 unfold aC at hf
 simp only[Bool.and_eq_true,beq_iff_eq] at hf
 obtain⟨rfl,_⟩:=hf
 exact⟨_,fn',_,Sq.put Tryz.func128 rfl,h,by show Tryz.f128.name≠_;decide,hn,rfl,hb⟩
def tJ (H:Hid):Lib (Two.of uG) SBx H false SBx 0:=lL (λf hf=>(fnOk_x f hf).imp_right λh=>jJ h ⟨Sq.fn Tryz.func130 rfl,Sq.fn Tryz.func131 rfl,Sq.fn Tryz.func198 rfl⟩)
 (qH (Sq.put Tryz.func128 rfl) (by show Tryz.f128.name≠_;decide) rfl) ⟨Nat.le_of_eq Sq.globals_size,Sq.bigF⟩
def re:sbl.all (λf=>put f||!(f==20||sqPut f||f==133||f==134))=true:=by kernel_rfl
def tK (H:Hid):Lib PW SBx H false BCx 0:=by
 refine gd (λf hf=>?_) (λf hf hb=>?_) (λf hf=>?_) (qH Tryz.func128 (by decide) rfl) ⟨Nat.le_of_eq Sq.globals_size,Sq.bigF⟩
 ·simp only[BCx,Bool.and_eq_true,Bool.not_eq_true'] at hf
  rcases fnOk_x f hf.1 with h|h
  ·refine .inl ⟨h,iU ?_⟩
   have:=j4 re f hf.1
   simpa [hf.2] using this
  ·exact .inr (jJ h ⟨Tryz.func130,Tryz.func131,Tryz.func198⟩)
 ·simp only[BCx,hf,Bool.true_and,Bool.not_eq_false',put,Bool.or_eq_true,beq_iff_eq] at hb
  rcases hb with((rfl|rfl)|rfl)|rfl
  ·exact⟨_,_,Sq.put Tryz.func79 rfl,Tryz.func79,rfl,by show Tryz.f79.name≠_;decide,by decide,rfl,rfl⟩
  ·exact⟨_,_,Sq.put Tryz.func127 rfl,Tryz.func127,rfl,by show Tryz.f127.name≠_;decide,by decide,rfl,rfl⟩
  ·exact⟨_,_,Sq.f133,Tryz.func133,rfl,by show Tryz.f133.name≠_;decide,by decide,rfl,rfl⟩
  ·exact⟨_,_,Sq.f134,Tryz.func134,rfl,by show Tryz.f134.name≠_;decide,by decide,rfl,rfl⟩
 ·simp only[BCx,Bool.and_eq_true] at hf
  exact hf.1
def field_x (v:Value)(w:World):(∃q,v=.pointer (some q)/\(Instr.fieldAt 125 v 1).run uG w=.ok (.pointer (some q)) w)\/FatalR ((Instr.fieldAt 125 v 1).run uG w):=by
 by_cases h:∃q,v=.pointer (some q)
 ·obtain⟨q,rfl⟩:=h
  refine .inl ⟨q,rfl,?_⟩
  obtain⟨b,o,sp⟩:=q
  go_simp
 ·refine .inr ?_
  have hs:Instr.sureAddr v=stuck "an address expected (no nilCheck in front?)":=by
   cases v with
   |pointer o=>cases o with
    |none=>rfl
    |some q=>exact absurd ⟨q,rfl⟩ h
   |_=>rfl
  unfold Instr.fieldAt
  rw[hs]
  go_simp
  simp[FatalR,stuck]
  exact trivial
def patch_x (f:FuncId)(fn:Func)(x y:Int)(hf:uG.funcs[f]?=some fn)(ht:fn.body=some (casBody x y))(hn:3<=fn.ntmps)(hr:fn.results=#[]):∃r o1 o2 s,Patch uG f x y fn r o1 o2 s:=by
 refine⟨_,_,_,_,hf,ht,hn,hr,⟨rfl,rfl,rfl,rfl⟩,λa w=>?_,λa q w h2 h3 h4=>?_⟩
 ·have e:∀o:Oper,o.op=.fieldAddr 125 (.tmp 0) 1->execOp a.eval o=(do let v<-Instr.fieldAt 125 (a.eval (.tmp 0)) 1;pure (.value v)):=λo h=>by unfold execOp;rw[h]
  rcases field_x (a.eval (.tmp 0)) w with⟨q,h1,h2⟩|h
  ·refine .inl ⟨q,h1,?_⟩
   rw[e _ rfl]
   simp[h2,Result.andThen]
  ·refine .inr ?_
   rw[e _ rfl]
   revert h
   simp only[Sem.run_bind]
   generalize (Instr.fieldAt 125 (a.eval (.tmp 0)) 1).run uG w=r
   intro h
   cases r with
   |ok _ _=>exact h.elim
   |halt _ _=>exact h
 ·have e : ∀ o : Oper, o.op = .call { callee := .value (.func 198), args := #[.tmp 2, .const (.int .i32 x), .const (.int .i32 y)], argTypes := #[239, 21, 21] } -> execOp a.eval o = callFunc 198 #[.pointer (some q), .int .i32 x, .int .i32 y] := fun o h => by
   unfold execOp;rw[h]
   simp[Act.eval,go_sem] at h2 ⊢
   rw[h2]
  rw[e _ rfl]
  rcases cas_inv (Sq.fn Tryz.func198 rfl) (by kernel_rfl) (by kernel_rfl) (by kernel_rfl) (by kernel_rfl) (x:=x) (y:=y) h3 h4 with⟨z,z1,z2⟩|h
  ·refine .inl ⟨z,z1,z2,λhz=>?_,λhz=>?_⟩
   ·subst hz
    exact run_call_cas_hit (P:=uG) (Sq.fn Tryz.func198 rfl) (by kernel_rfl) (by kernel_rfl) (by kernel_rfl) .i32 (by kernel_rfl) z1 z2
   ·exact run_call_cas_miss (P:=uG) (Sq.fn Tryz.func198 rfl) (by kernel_rfl) (by kernel_rfl) (by kernel_rfl) .i32 (by kernel_rfl) z1 z2 hz
  ·exact .inr h
structure Looks (BB:FuncId->Bool):Prop where
 sub:∀f,SBx f=true->BB f=true
 h138:BB 177=true
 h139:BB 178=true
def lN {BB:FuncId->Bool}(hL:Looks BB){f:FuncId}(h:f=133\/f=134):Locks PW BB f:=by
 rcases h with rfl|rfl
 ·obtain⟨r,o1,o2,s,hp⟩:=patch_x 133 ul 0 1 Sq.f133 rfl (by rw[um];decide) rfl
  exact⟨0,1,_,r,o1,o2,s,Tryz.f133,hp,jg (hL.sub 133 (by decide)) hL.h138,Tryz.func133,rfl⟩
 ·obtain⟨r,o1,o2,s,hp⟩:=patch_x 134 ui 1 0 Sq.f134 rfl (by rw[uk];decide) rfl
  exact⟨1,0,_,r,o1,o2,s,Tryz.f134,hp,gv (hL.sub 134 (by decide)) hL.h139,Tryz.func134,rfl⟩
def sC {BB:FuncId->Bool}{H:Hid}(hL:Looks BB)(hn:H.bl=false:=by rfl):BothK PW SBx BCx BB H 0:=by
 refine⟨tJ _,tK _,λf hf hb=>?_,hL.sub,hn⟩
 rcases hf with hf|hf
 ·simp only[BCx,hf,Bool.true_and,Bool.not_eq_false',put,Bool.or_eq_true,beq_iff_eq] at hb
  rcases hb with((rfl|rfl)|rfl)|rfl
  ·exact .inl ⟨_,_,Sq.put Tryz.func79 rfl,rfl⟩
  ·exact .inl ⟨_,_,Sq.put Tryz.func127 rfl,rfl⟩
  ·exact .inr (lN hL (.inl rfl))
  ·exact .inr (lN hL (.inr rfl))
 ·unfold aC at hf
  simp only[Bool.and_eq_true,beq_iff_eq] at hf
  obtain⟨rfl,_⟩:=hf
  exact .inl ⟨_,_,Sq.put Tryz.func128 rfl,rfl⟩
end Go.Proofs.YtefcpflbnmldcaaGreat
