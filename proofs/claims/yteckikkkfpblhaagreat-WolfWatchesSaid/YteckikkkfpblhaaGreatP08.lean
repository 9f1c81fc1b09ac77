/- Parts of the proof. -/
import Derived.Test.YteckikkkfpblhaaGreatP07
import Derived.Test.YteckikkkfpblhaaGreatP00
import Derived.Test.YteckikkkfpblhaaGreatP02
import Derived.Test.YteckikkkfpblhaaGreatChecked
import Derived.WalkKit
import Derived.Laws.LoneSync
import Derived.Conc.WgGenW
import Derived.Conc.WgGenN3
set_option linter.all false
set_option maxHeartbeats 4000000
set_option maxRecDepth 1000000
namespace Go.Proofs.Ao
open Go.RowKit Go.AW Go.Co Go.Conc
section
variable {p:Program} {BB:FuncId->Bool} {Q:Goroutine->World->Prop} {b:Frame} {a:Act} {todo:List Item} {cs:List Frame} {w:World} {dn:Nat}
def aA (hQ:∀g w W,AR w W->Q g w->Q g W)(hf:BB b.fn=true)(hg:bJ p todo=true)(h:∀τ d,(stepG p true (G (b.at a todo) cs) (on w τ d)).goes (λg' w' _=>g'.callers≠[]/\∃W,AR W w'/\Br p BB Q dn g' W)) :
  Br p BB Q dn (G (b.at a todo) cs) w:=by
 refine Br.step ⟨hf,i8 hg⟩ λτ d=>?_;have:=h τ d;cases hs:stepG p true (G (b.at a todo) cs) (on w τ d) with
 |go g' w' es =>
  rw[hs] at this;obtain⟨h1,W,h2,h3⟩:=this;exact⟨g',w',es,rfl,h1,h3.same hQ h2⟩
 |_=>rw[hs] at this;exact this.elim
def dE (hQ:∀g w W,AR w W->Q g w->Q g W)(hf:BB b.fn=true)(hg:bJ p todo=true)(h:∀τ d,(stepG p true (G { b.at a todo with mode:=.returning } cs) (on w τ d)).goes (λg' w' _=>g'.callers≠[]/\∃W,AR W w'/\Br p BB Q dn g' W)) :
  Br p BB Q dn (G { b.at a todo with mode:=.returning } cs) w:=by
 refine Br.step ⟨hf,λo ho=>i8 (b:=b) (a:=a) hg o ho⟩ λτ d=>?_;have:=h τ d;cases hs:stepG p true (G { b.at a todo with mode:=.returning } cs) (on w τ d) with
 |go g' w' es =>
  rw[hs] at this;obtain⟨h1,W,h2,h3⟩:=this;exact⟨g',w',es,rfl,h1,h3.same hQ h2⟩
 |_=>rw[hs] at this;exact this.elim
def fB {g':Goroutine}(hQ:∀g w W,AR w W->Q g w->Q g W)(hf:BB b.fn=true)(hcs:g'.callers≠[])(hg:bJ p todo=true)(hs:∀w,stepG p true (G (b.at a todo) cs) w=.go g' w)(h:Br p BB Q dn g' w):Br p BB Q dn (G (b.at a todo) cs) w :=
 aA hQ hf hg λτ d=>by rw[hs];simp only[goes_go];exact⟨hcs,w,zC,h⟩
def au {k:List Item}{x y:Code}(hQ:∀g w W,AR w W->Q g w->Q g W)(hf:BB b.fn=true)(hcs:cs≠[])(h:Br p BB Q dn (G (b.at a (.code x::.code y::k)) cs) w)(hg:bJ p (.code (.seq x y)::k)=true:=by kernel_rfl):Br p BB Q dn (G (b.at a (.code (.seq x y)::k)) cs) w :=
 fB hQ hf hcs hg (λ_=>stepG_seq) h
def aB {k:List Item}{ops:Array Oper}(hQ:∀g w W,AR w W->Q g w->Q g W)(hf:BB b.fn=true)(hcs:cs≠[])(h:Br p BB Q dn (G (b.at a k) cs) w)(hg:bJ p (.inRegion ops []::k)=true:=by kernel_rfl):Br p BB Q dn (G (b.at a (.inRegion ops []::k)) cs) w :=
 fB hQ hf hcs hg (λ_=>stepG_region_end) h
def fQ {k:List Item}(hQ:∀g w W,AR w W->Q g w->Q g W)(hf:BB b.fn=true)(hcs:cs≠[])(h:Br p BB Q dn (G (b.at a k) cs) w)(hg:bJ p (.code .skip::k)=true:=by kernel_rfl):Br p BB Q dn (G (b.at a (.code .skip::k)) cs) w :=
 fB hQ hf hcs hg (λ_=>stepG_skip) h
def aC {k:List Item}{i:Nat}{ops:Array Oper}(hQ:∀g w W,AR w W->Q g w->Q g W)(hf:BB b.fn=true)(hcs:cs≠[])(h:Br p BB Q dn (G (b.at a (.inRegion ops (List.range ops.size)::k)) cs) w)(hg:bJ p (.code (.region i ops false)::k)=true:=by kernel_rfl):Br p BB Q dn (G (b.at a (.code (.region i ops false)::k)) cs) w :=
 fB hQ hf hcs hg (λ_=>stepG_region) h
def lP {k:List Item}{c:Operand}{x y:Code}(hQ:∀g w W,AR w W->Q g w->Q g W)(hf:BB b.fn=true)(hcs:cs≠[])(h:Br p BB Q dn (G (b.at a (.code x::k)) cs) w)(hc:a.eval c=.bool true:=by rfl)(hg:bJ p (.code (.cond c x y)::k)=true:=by kernel_rfl):Br p BB Q dn (G (b.at a (.code (.cond c x y)::k)) cs) w :=
 fB hQ hf hcs hg (λ_=>stepG_cond hc) h
def jy {k:List Item}{c:Operand}{x y:Code}(hQ:∀g w W,AR w W->Q g w->Q g W)(hf:BB b.fn=true)(hcs:cs≠[])(h:Br p BB Q dn (G (b.at a (.code y::k)) cs) w)(hc:a.eval c=.bool false:=by rfl)(hg:bJ p (.code (.cond c x y)::k)=true:=by kernel_rfl):Br p BB Q dn (G (b.at a (.code (.cond c x y)::k)) cs) w :=
 fB hQ hf hcs hg (λ_=>stepG_cond hc) h
def ag {k:List Item}{ops:Array Oper}{i:Nat}{rest:List Nat}{o:Oper}(hQ:∀g w W,AR w W->Q g w->Q g W)(hf:BB b.fn=true)(hcs:cs≠[])(ho:ops[i]?=some o)(hw:Region.wanted o (yielded ops a.tmps)=true)
  (h:∀ {τ:Tape} {d:Nat} (K:Act->World->Prop),(∀a' W,Br p BB Q dn (G (b.at a' (.inRegion ops rest::k)) cs) W->∀w',AR W w'->K a' w')->(∀x,(on w τ d).cell? x=w.cell? x)->(on w τ d).heap.size=w.heap.size->(∀x,(on w τ d).frozen? x=w.frozen? x)->uponK o a K ((execOp a.eval o).run p (on w τ d)))
  (hk:b.kind≠.early:=by first|assumption|decide) (hg:bJ p (.inRegion ops (i::rest)::k)=true:=by kernel_rfl):Br p BB Q dn (G (b.at a (.inRegion ops (i::rest)::k)) cs) w :=
 aA hQ hf hg λτ d=>goes_oper_k ho hw hk λK hK=>h K (λ_ W hT w' hs=>hK _ w' ⟨hcs,W,hs,hT⟩) (λ_=>rfl) rfl λ_=>rfl
def nK {f:FuncId}{fn:Func}{c:Code}(args:Array Value)(k:CallKind)(hf:p.funcs[f]?=some fn)(hb:fn.body=some c) :
  Frame.enter p f args k=({ base f with kind:=k }:Frame).at { tmps:=args++Array.replicate (fn.ntmps-args.size) undef,defers:=[] } [.code c]:=by
 simp[Frame.enter,Frame.at,hf,hb,base]
def cJ (hQ:∀g w W,AR w W->Q g w->Q g W){ops:Array Oper}{i:Nat}{rest:List Nat}{k:List Item}{o:Oper}{es:Array Event}{v:Value}(hf:BB b.fn=true)(hcs:cs≠[])(ho:ops[i]?=some o)(hw:Region.wanted o (yielded ops a.tmps)=true)(hk:b.kind≠.early)(hs:Cc p a w o es v)
  {d':Nat} (hd:deafBehind dn es=d') (h:Br p BB Q d' (G (b.at (a.put o.dst v) (.inRegion ops rest::k)) cs) w):Br p BB Q dn (G (b.at a (.inRegion ops (i::rest)::k)) cs) w :=
 .spec hf hcs ho hw hk hs λτ n=>hd▸h.same hQ zC
def AP (c:Frame)(cs:List Frame):(c::cs)≠[]:=by simp
def ab (W:World)(τ:Tape)(d:Nat):(on W τ d).heap.size=W.heap.size:=rfl
def six {args:Array Value}{n:Nat}{q:Addr}(h:args[0]?=some (.pointer (some q)))(hn:n=6):∃t1 t2 t3 t4 t5 tl,args++Array.replicate (n-args.size) undef=(.pointer (some q)::t1::t2::t3::t4::t5::tl:List Value).toArray:=by
 obtain⟨l⟩:=args;subst hn
 match l,h with
 |t0::l,h =>
  have h0:t0=.pointer (some q):=by simpa using h
  subst h0
  match l with
  |[]=>exact⟨_,_,_,_,_,[],by simp[List.replicate,Array.replicate];exact⟨rfl,rfl,rfl,rfl,rfl⟩⟩
  |[t1]=>exact⟨t1,_,_,_,_,[],by simp[Array.replicate];exact⟨rfl,rfl,rfl,rfl⟩⟩
  |[t1,t2]=>exact⟨t1,t2,_,_,_,[],by simp[Array.replicate];exact⟨rfl,rfl,rfl⟩⟩
  |[t1,t2,t3]=>exact⟨t1,t2,t3,_,_,[],by simp[Array.replicate];exact⟨rfl,rfl⟩⟩
  |[t1,t2,t3,t4]=>exact⟨t1,t2,t3,t4,_,[],by simp[Array.replicate];rfl⟩
  |t1::t2::t3::t4::t5::tl=>exact⟨t1,t2,t3,t4,t5,tl,by simp[Array.replicate]⟩
end
def kG {BB:FuncId->Bool}(Mi:BB 79=true)(C7:BB 116=true):Held Tryz.prog BB 79 0 1:=by
 intro args q k cs w hk hcs hq hc hz;obtain⟨bq,oq,sq⟩:=q;have hsq:sq=none:=by
  cases sq with
  |none=>rfl
  |some s=>simp[World.cell?] at hc;split at hc<;>simp_all
 subst hsq;generalize Vp:(λ(g:Goroutine) (W:World)=>AR (w.setCell ⟨bq,oq,none⟩ (.int .i32 1)) W/\∃fr,g=Go.AW.Bx fr cs/\fr.fn=79/\fr.kind=k/\fr.mode=.returning/\fr.defers=[]/\fr.oper?=none)=Q;have hQ:∀g w W,AR w W->Q g w->Q g W:=by
  subst Vp;rintro g w1 w2 s ⟨h1,h2⟩;exact⟨h1.trans s,h2⟩
 have Gi:∀(a:Act) W,a.defers=[]->AR (w.setCell ⟨bq,oq,none⟩ (.int .i32 1)) W->Q (G { (({ base 79 with kind:=k }:Frame).at a []) with mode:=.returning } cs) W:=by
  subst Vp;exact λa W h s=>⟨s,_,rfl,rfl,rfl,rfl,h,rfl⟩
 clear Vp;obtain⟨t1,t2,t3,t4,t5,tl,ht⟩:=six (n:=Tryz.f79.ntmps) hq Tryz.ntmps79;rw[nK args k Tryz.func79 rfl,ht];clear ht hq;have hkk:∀a:Act,∀t,(({ base 79 with kind:=k }:Frame).at a t).kind≠.early:=λ_ _=>hk;change Br Tryz.prog BB Q 0 (G _ cs) w;refine aC hQ Mi hcs ?_;simp only[xB,xz,xF,Nat.reduceAdd,xG,List.range,List.range.loop];refine ag hQ Mi hcs rfl rfl λK hK q1 q2 q3=>?_;go_simp;refine hK _ w ?_ _ ⟨rfl,rfl,rfl⟩
 clear hK K q1 q2 q3
 try walk_nrm
 try simp only[ab]
 refine ag hQ Mi hcs rfl rfl λK hK q1 q2 q3=>?_;go_simp;refine hK _ w ?_ _ ⟨rfl,rfl,rfl⟩;clear hK K q1 q2 q3
 try walk_nrm
 try simp only[ab]
 refine ag hQ Mi hcs rfl rfl λK hK q1 q2 q3=>?_;go_simp;refine hK _ w ?_ _ ⟨rfl,rfl,rfl⟩;clear hK K q1 q2 q3
 try walk_nrm
 try simp only[ab]
 refine aA hQ Mi (by kernel_rfl) λτ d=>?_;refine aG rfl rfl hk rfl Tryz.func116 (by kernel_rfl) (by kernel_rfl) ⟨AP _ _,w,zC,?_⟩
 try walk_nrm
 rw[enter_at _ Tryz.func116 rfl];simp only[Tryz.ntmps116,xB,xz,xF,Nat.reduceAdd,Nat.reduceSub,yi,yj,yv,yn,yD,yt];refine au hQ C7 (AP _ _) ?_;refine aC hQ C7 (AP _ _) ?_;simp only[xB,xz,xF,Nat.reduceAdd,xG,List.range,List.range.loop];refine cJ hQ C7 (AP _ _) rfl rfl (by decide) (Cc.EE .disable (by simp) rfl Tryz.func99 (by kernel_rfl) (by kernel_rfl) (by kernel_rfl) (by kernel_rfl)) (d':=1) rfl ?_
 try walk_nrm
 refine aB hQ C7 (AP _ _) ?_;refine au hQ C7 (AP _ _) ?_;refine au hQ C7 (AP _ _) ?_;refine aC hQ C7 (AP _ _) ?_;simp only[xB,xz,xF,Nat.reduceAdd,xG,List.range,List.range.loop];refine ag hQ C7 (AP _ _) rfl rfl λK hK q1 q2 q3=>?_;go_simp;refine hK _ w ?_ _ ⟨rfl,rfl,rfl⟩;clear hK K q1 q2 q3
 try walk_nrm
 try simp only[ab]
 refine ag hQ C7 (AP _ _) rfl rfl λK hK q1 q2 q3=>?_;go_simp;refine hK _ w ?_ _ ⟨rfl,rfl,rfl⟩;clear hK K q1 q2 q3
 try walk_nrm
 try simp only[ab]
 refine ag hQ C7 (AP _ _) rfl rfl λK hK q1 q2 q3=>?_;go_simp;refine hK _ w ?_ _ ⟨rfl,rfl,rfl⟩;clear hK K q1 q2 q3
 try walk_nrm
 try simp only[ab]
 refine ag hQ C7 (AP _ _) rfl rfl @λτ d K hK q1 q2 q3=>?_;have Yw:=run_call_cas_hit (P:=Tryz.prog) Tryz.func140 (by kernel_rfl) (by kernel_rfl) (by kernel_rfl) .i32 (by kernel_rfl) (x:=0) (y:=1) (w:=on w τ d) hc hz;go_simp;refine hK _ (w.setCell _ _) ?_ _ ⟨rfl,rfl,rfl⟩;clear hK K q1 q2 q3
 try walk_nrm
 try simp only[ab]
 have hc2:∃u,(w.setCell ⟨bq,oq,none⟩ (.int .i32 1)).cell? ⟨bq,oq,none⟩=some u:=⟨_,World.cell?_setCell_same _ _ _ hc⟩;refine aB hQ C7 (AP _ _) ?_;refine lP hQ C7 (AP _ _) ?_;refine au hQ C7 (AP _ _) ?_;refine lP hQ C7 (AP _ _) ?_;refine au hQ C7 (AP _ _) ?_;refine aC hQ C7 (AP _ _) ?_;simp only[xB,xz,xF,Nat.reduceAdd,xG,List.range,List.range.loop];refine cJ hQ C7 (AP _ _) rfl rfl (by decide) (Cc.EE .enable (by simp) rfl Tryz.func100 (by kernel_rfl) (by kernel_rfl) (by kernel_rfl) (by kernel_rfl)) (d':=0) rfl ?_
 try walk_nrm
 refine aB hQ C7 (AP _ _) ?_;refine aC hQ C7 (AP _ _) ?_;simp only[xB,xz,xF,Nat.reduceAdd,xG,List.range,List.range.loop];refine ag hQ C7 (AP _ _) rfl rfl λK hK q1 q2 q3=>?_;go_simp;refine hK _ _ ?_ _ ⟨rfl,rfl,rfl⟩;clear hK K q1 q2 q3
 try walk_nrm
 try simp only[ab]
 refine cJ hQ C7 (AP _ _) rfl rfl (by decide) (Cc.conv (t:=97) rfl (by kernel_rfl) (by kernel_rfl) (by kernel_rfl) rfl hc2) (d':=0) rfl ?_
 try walk_nrm
 refine cJ hQ C7 (AP _ _) rfl rfl (by decide) (Cc.D4 .acquire (by simp) rfl Tryz.func111 (by kernel_rfl) (by kernel_rfl) (by kernel_rfl) (by kernel_rfl) (by simp[Act.eval]) hc2) (d':=0) rfl ?_
 try walk_nrm
 refine aB hQ C7 (AP _ _) ?_;refine aA hQ C7 (by kernel_rfl) λτ d=>?_;rw[stepG_ret'];simp only[goes_go];refine⟨(AP _ _),_,zC,?_⟩;refine dE hQ C7 (by kernel_rfl) λτ d=>?_;refine goes_leave0 rfl rfl Tryz.func116 rfl ⟨hcs,_,zC,?_⟩;refine aB hQ Mi hcs ?_;refine aA hQ Mi (by kernel_rfl) λτ d=>?_;rw[stepG_end];simp only[goes_go];refine⟨hcs,_,zC,.fin (Gi _ _ rfl ⟨rfl,rfl,rfl⟩)⟩
def iO {BB:FuncId->Bool}(Mi:BB 80=true)(C7:BB 117=true):Held Tryz.prog BB 80 1 0:=by
 intro args q k cs w hk hcs hq hc hz;obtain⟨bq,oq,sq⟩:=q;have hsq:sq=none:=by
  cases sq with
  |none=>rfl
  |some s=>simp[World.cell?] at hc;split at hc<;>simp_all
 subst hsq;generalize Vp:(λ(g:Goroutine) (W:World)=>AR (w.setCell ⟨bq,oq,none⟩ (.int .i32 0)) W/\∃fr,g=Go.AW.Bx fr cs/\fr.fn=80/\fr.kind=k/\fr.mode=.returning/\fr.defers=[]/\fr.oper?=none)=Q;have hQ:∀g w W,AR w W->Q g w->Q g W:=by
  subst Vp;rintro g w1 w2 s ⟨h1,h2⟩;exact⟨h1.trans s,h2⟩
 have Gi:∀(a:Act) W,a.defers=[]->AR (w.setCell ⟨bq,oq,none⟩ (.int .i32 0)) W->Q (G { (({ base 80 with kind:=k }:Frame).at a []) with mode:=.returning } cs) W:=by
  subst Vp;exact λa W h s=>⟨s,_,rfl,rfl,rfl,rfl,h,rfl⟩
 clear Vp;obtain⟨t1,t2,t3,t4,t5,tl,ht⟩:=six (n:=Tryz.f80.ntmps) hq Tryz.ntmps80;rw[nK args k Tryz.func80 rfl,ht];clear ht hq;have hkk:∀a:Act,∀t,(({ base 80 with kind:=k }:Frame).at a t).kind≠.early:=λ_ _=>hk;change Br Tryz.prog BB Q 0 (G _ cs) w;refine aC hQ Mi hcs ?_;simp only[xB,xz,xF,Nat.reduceAdd,xG,List.range,List.range.loop];refine ag hQ Mi hcs rfl rfl λK hK q1 q2 q3=>?_;go_simp;refine hK _ w ?_ _ ⟨rfl,rfl,rfl⟩
 clear hK K q1 q2 q3
 try walk_nrm
 try simp only[ab]
 refine ag hQ Mi hcs rfl rfl λK hK q1 q2 q3=>?_;go_simp;refine hK _ w ?_ _ ⟨rfl,rfl,rfl⟩;clear hK K q1 q2 q3
 try walk_nrm
 try simp only[ab]
 refine ag hQ Mi hcs rfl rfl λK hK q1 q2 q3=>?_;go_simp;refine hK _ w ?_ _ ⟨rfl,rfl,rfl⟩;clear hK K q1 q2 q3
 try walk_nrm
 try simp only[ab]
 refine aA hQ Mi (by kernel_rfl) λτ d=>?_;refine aG rfl rfl hk rfl Tryz.func117 (by kernel_rfl) (by kernel_rfl) ⟨AP _ _,w,zC,?_⟩
 try walk_nrm
 rw[enter_at _ Tryz.func117 rfl];simp only[Tryz.ntmps117,xB,xz,xF,Nat.reduceAdd,Nat.reduceSub,yi,yj,yv,yn,yD,yt];refine au hQ C7 (AP _ _) ?_;refine lP hQ C7 (AP _ _) ?_;refine au hQ C7 (AP _ _) ?_;refine aC hQ C7 (AP _ _) ?_;simp only[xB,xz,xF,Nat.reduceAdd,xG,List.range,List.range.loop];refine ag hQ C7 (AP _ _) rfl rfl λK hK q1 q2 q3=>?_;go_simp;refine hK _ w ?_ _ ⟨rfl,rfl,rfl⟩;clear hK K q1 q2 q3
 try walk_nrm
 try simp only[ab]
 refine ag hQ C7 (AP _ _) rfl rfl λK hK q1 q2 q3=>?_;go_simp;refine hK _ w ?_ _ ⟨rfl,rfl,rfl⟩;clear hK K q1 q2 q3
 try walk_nrm
 try simp only[ab]
 refine ag hQ C7 (AP _ _) rfl rfl λK hK q1 q2 q3=>?_;go_simp;refine hK _ w ?_ _ ⟨rfl,rfl,rfl⟩;clear hK K q1 q2 q3
 try walk_nrm
 try simp only[ab]
 refine ag hQ C7 (AP _ _) rfl rfl λK hK q1 q2 q3=>?_;go_simp;refine hK _ w ?_ _ ⟨rfl,rfl,rfl⟩;clear hK K q1 q2 q3
 try walk_nrm
 try simp only[ab]
 refine aB hQ C7 (AP _ _) ?_;refine au hQ C7 (AP _ _) ?_;refine aC hQ C7 (AP _ _) ?_;simp only[xB,xz,xF,Nat.reduceAdd,xG,List.range,List.range.loop];refine ag hQ C7 (AP _ _) rfl rfl λK hK q1 q2 q3=>?_;go_simp;refine hK _ w ?_ _ ⟨rfl,rfl,rfl⟩;clear hK K q1 q2 q3
 try walk_nrm
 try simp only[ab]
 refine cJ hQ C7 (AP _ _) rfl rfl (by decide) (Cc.conv (t:=97) rfl (by kernel_rfl) (by kernel_rfl) (by kernel_rfl) rfl ⟨_,hc⟩) (d':=0) rfl ?_
 try walk_nrm
 refine cJ hQ C7 (AP _ _) rfl rfl (by decide) (Cc.D4 .releaseMerge (by simp) rfl Tryz.func98 (by kernel_rfl) (by kernel_rfl) (by kernel_rfl) (by kernel_rfl) (by simp[Act.eval]) ⟨_,hc⟩) (d':=0) rfl ?_
 try walk_nrm
 refine aB hQ C7 (AP _ _) ?_;refine aC hQ C7 (AP _ _) ?_;simp only[xB,xz,xF,Nat.reduceAdd,xG,List.range,List.range.loop];refine cJ hQ C7 (AP _ _) rfl rfl (by decide) (Cc.EE .disable (by simp) rfl Tryz.func99 (by kernel_rfl) (by kernel_rfl) (by kernel_rfl) (by kernel_rfl)) (d':=1) rfl ?_
 try walk_nrm
 refine aB hQ C7 (AP _ _) ?_;refine au hQ C7 (AP _ _) ?_;refine aC hQ C7 (AP _ _) ?_;simp only[xB,xz,xF,Nat.reduceAdd,xG,List.range,List.range.loop];refine ag hQ C7 (AP _ _) rfl rfl λK hK q1 q2 q3=>?_;go_simp;refine hK _ w ?_ _ ⟨rfl,rfl,rfl⟩;clear hK K q1 q2 q3
 try walk_nrm
 try simp only[ab]
 refine ag hQ C7 (AP _ _) rfl rfl λK hK q1 q2 q3=>?_;go_simp;refine hK _ w ?_ _ ⟨rfl,rfl,rfl⟩;clear hK K q1 q2 q3
 try walk_nrm
 try simp only[ab]
 refine ag hQ C7 (AP _ _) rfl rfl λK hK q1 q2 q3=>?_;go_simp;refine hK _ w ?_ _ ⟨rfl,rfl,rfl⟩;clear hK K q1 q2 q3
 try walk_nrm
 try simp only[ab]
 refine ag hQ C7 (AP _ _) rfl rfl @λτ d K hK q1 q2 q3=>?_;have ac7:=run_call_add (P:=Tryz.prog) Tryz.func142 (by kernel_rfl) (by kernel_rfl) (by kernel_rfl) .i32 (by kernel_rfl) (x:=1) (y:=-1) (s:=0) (w:=on w τ d) hc hz (by rfl);go_simp;refine hK _ (w.setCell _ _) ?_ _ ⟨rfl,rfl,rfl⟩;clear hK K q1 q2 q3
 try walk_nrm
 try simp only[ab]
 refine ag hQ C7 (AP _ _) rfl rfl λK hK q1 q2 q3=>?_;go_simp;refine hK _ _ ?_ _ ⟨rfl,rfl,rfl⟩;clear hK K q1 q2 q3
 try walk_nrm
 try simp only[ab]
 refine aB hQ C7 (AP _ _) ?_;refine au hQ C7 (AP _ _) ?_;refine au hQ C7 (AP _ _) ?_;refine aC hQ C7 (AP _ _) ?_;simp only[xB,xz,xF,Nat.reduceAdd,xG,List.range,List.range.loop];refine ag hQ C7 (AP _ _) rfl rfl λK hK q1 q2 q3=>?_;go_simp;refine hK _ _ ?_ _ ⟨rfl,rfl,rfl⟩;clear hK K q1 q2 q3
 try walk_nrm
 try simp only[ab]
 refine ag hQ C7 (AP _ _) rfl rfl λK hK q1 q2 q3=>?_;go_simp;refine hK _ _ ?_ _ ⟨rfl,rfl,rfl⟩;clear hK K q1 q2 q3
 try walk_nrm
 try simp only[ab]
 refine aB hQ C7 (AP _ _) ?_;refine jy hQ C7 (AP _ _) ?_;refine fQ hQ C7 (AP _ _) ?_;refine aC hQ C7 (AP _ _) ?_;simp only[xB,xz,xF,Nat.reduceAdd,xG,List.range,List.range.loop];refine cJ hQ C7 (AP _ _) rfl rfl (by decide) (Cc.EE .enable (by simp) rfl Tryz.func100 (by kernel_rfl) (by kernel_rfl) (by kernel_rfl) (by kernel_rfl)) (d':=0) rfl ?_
 try walk_nrm
 refine aB hQ C7 (AP _ _) ?_;refine aA hQ C7 (by kernel_rfl) λτ d=>?_;rw[stepG_end];simp only[goes_go];refine⟨(AP _ _),_,zC,?_⟩;refine dE hQ C7 (by kernel_rfl) λτ d=>?_;refine goes_leave0 rfl rfl Tryz.func117 rfl ⟨hcs,_,zC,?_⟩;refine aB hQ Mi hcs ?_;refine aA hQ Mi (by kernel_rfl) λτ d=>?_;rw[stepG_end];simp only[goes_go];refine⟨hcs,_,zC,.fin (Gi _ _ rfl ⟨rfl,rfl,rfl⟩)⟩
def XC:List FuncId:=[19,21,18,22,23,16,71,20,24,25,38,39,40,41,42,43,33,44,36,45,46,47,48,32,49,50,51,52,53,54,55,56,57,58,59,60,72,63,64,61,74,77,78,66,79,80,65,81,82,83,84,85,86,87,88,89,94,95,96,97,90,91,92,118,119,120,121,122,123,124,125,126,127,128,129,130,131,132,133,134,140,144,145,146,147,148,149,150,151,152,153,154,155,156,157,165,166,167,168,169]
def H2 (f:FuncId):Bool:=XC.contains f
def put (f:FuncId):Bool:=f==39||f==74||f==79||f==80
def XD (f:FuncId):Bool:=H2 f&&!put f
def Tryz.J3:Tryz.prog.info? big=none:=by kernel_rfl
def Sq.J3:An.info? big=none:=by kernel_rfl
noncomputable def PW:Ba:=⟨An,Tryz.prog.funcs⟩
def lQ {p:Nat->Bool}(h:XC.all p=true):∀f,H2 f=true->p f=true:=λf hf=>(xY.1 h) f (by simpa [H2] using hf)
def NK (f:FuncId):Bool:=f==77||f==78||f==140
def j6 {f:FuncId}(h:(f==6||GN f||f==79||f==80)=false):Tryz.prog.funcs[f]?=An.funcs[f]?:=by
 rw[Sq.get];cases Tryz.prog.funcs[f]? with
 |none=>rfl
 |some fn =>
  simp only[yR] at h;simp only[yq,OX,h.1.1.1,h.1.1.2,h.1.2,h.2,Bool.or_self,xJ,if_false]
def r7:XC.all (λf=>GX An H2 false f||NK f)=true:=by kernel_rfl
def Pt (f:FuncId)(h:H2 f=true):GX An H2 false f=true\/NK f=true:=by
 have:=lQ r7 f h;simpa using this
def lz {fs:Array Func}{f:FuncId}(h:NK f=true)(hfs:fs[77]?=some Tryz.f77/\fs[78]?=some Tryz.f78/\fs[140]?=some Tryz.f140):KV ⟨An,fs⟩ f:=by
 unfold NK at h;simp only[xO,beq_iff_eq] at h;rcases h with(rfl|rfl)|rfl
 .exact⟨Tryz.f77,_,Sq.fn Tryz.func77 rfl,hfs.1,by kernel_rfl,by kernel_rfl,by kernel_rfl,by kernel_rfl,.add .i64,by kernel_rfl⟩
 .exact⟨Tryz.f78,_,Sq.fn Tryz.func78 rfl,hfs.2.1,by kernel_rfl,by kernel_rfl,by kernel_rfl,by kernel_rfl,.load .i64,by kernel_rfl⟩
 .exact⟨Tryz.f140,_,Sq.fn Tryz.func140 rfl,hfs.2.2,by kernel_rfl,by kernel_rfl,by kernel_rfl,by kernel_rfl,.Gx .i32 (by decide),by kernel_rfl⟩
def tk {fs:Array Func} {DZ:Func} (h:fs[75]?=some DZ) (hn:DZ.name ≠ "runtime.NumGoroutine") (hb:DZ.body.isSome=true) (f:FuncId) (hf:aM H2 f=true):Fy ⟨An,fs⟩ f:=by
 unfold aM at hf;simp only[xC,beq_iff_eq] at hf;obtain⟨rfl,_⟩:=hf;exact⟨_,DZ,_,Sq.put Tryz.func75 rfl,h,by show Tryz.f75.name≠_;decide,hn,rfl,hb⟩
def wR (H:Hid):Lib (Ba.of An) H2 H false H2 0:=nJ (λf hf=>(Pt f hf).imp_right λh=>lz h ⟨Sq.fn Tryz.func77 rfl,Sq.fn Tryz.func78 rfl,Sq.fn Tryz.func140 rfl⟩)
 (tk (Sq.put Tryz.func75 rfl) (by show Tryz.f75.name≠_;decide) rfl) ⟨yl Sq.globals_size,Sq.J3⟩
def tM:XC.all (λf=>put f||!(f==6||GN f||f==79||f==80))=true:=by kernel_rfl
def wS (H:Hid):Lib PW H2 H false XD 0:=by
 refine iz (λf hf=>?_) (λf hf hb=>?_) (λf hf=>?_) (tk Tryz.func75 (by decide) rfl) ⟨yl Sq.globals_size,Sq.J3⟩
 .simp only[XD,xC,yw] at hf;rcases Pt f hf.1 with h|h
  .refine .inl ⟨h,j6 ?_⟩;have:=lQ tM f hf.1;simpa [hf.2] using this
  .exact .inr (lz h ⟨Tryz.func77,Tryz.func78,Tryz.func140⟩)
 .simp only[XD,hf,yN,yQ,put,xO,beq_iff_eq] at hb;rcases hb with((rfl|rfl)|rfl)|rfl
  .exact⟨_,_,Sq.put Tryz.func39 rfl,Tryz.func39,rfl,by show Tryz.f39.name≠_;decide,by decide,rfl,rfl⟩
  .exact⟨_,_,Sq.put Tryz.func74 rfl,Tryz.func74,rfl,by show Tryz.f74.name≠_;decide,by decide,rfl,rfl⟩
  .exact⟨_,_,Sq.f79,Tryz.func79,rfl,by show Tryz.f79.name≠_;decide,by decide,rfl,rfl⟩
  .exact⟨_,_,Sq.f80,Tryz.func80,rfl,by show Tryz.f80.name≠_;decide,by decide,rfl,rfl⟩
 .simp only[XD,xC] at hf;exact hf.1
def SS (v:Value)(w:World):(∃q,v=.pointer (some q)/\(Instr.fieldAt 99 v 1).run An w=.ok (.pointer (some q)) w)\/DJ ((Instr.fieldAt 99 v 1).run An w):=by
 by_cases h:∃q,v=.pointer (some q)
 .obtain⟨q,rfl⟩:=h;refine .inl ⟨q,rfl,?_⟩;obtain⟨b,o,sp⟩:=q;go_simp
 .refine .inr ?_;have hs:Instr.sureAddr v=stuck "an address expected (no nilCheck in front?)":=by
   cases v with
   |pointer o=>cases o with
    |none=>rfl
    |some q=>exact absurd ⟨q,rfl⟩ h
   |_=>rfl
  unfold Instr.fieldAt;rw[hs];go_simp;simp[DJ,stuck];exact trivial
def IG (f:FuncId)(fn:Func)(x y:Int)(hf:An.funcs[f]?=some fn)(ht:fn.body=some (casBody x y))(hn:3<=fn.ntmps)(hr:fn.results=#[]):∃r o1 o2 s,KR An f x y fn r o1 o2 s:=by
 refine⟨_,_,_,_,hf,ht,hn,hr,⟨rfl,rfl,rfl,rfl⟩,λa w=>?_,λa q w h2 h3 h4=>?_⟩
 .have e:∀o:Oper,o.op=.fieldAddr 99 (.tmp 0) 1->execOp a.eval o=(do let v<-Instr.fieldAt 99 (a.eval (.tmp 0)) 1;pure (.value v)):=λo h=>by unfold execOp;rw[h]
  rcases SS (a.eval (.tmp 0)) w with⟨q,h1,h2⟩|h
  .refine .inl ⟨q,h1,?_⟩;rw[e _ rfl];simp[h2,Result.andThen]
  .refine .inr ?_;rw[e _ rfl];revert h;simp only[Sem.run_bind];generalize (Instr.fieldAt 99 (a.eval (.tmp 0)) 1).run An w=r;intro h;cases r with
   |ok _ _=>exact h.elim
   |halt _ _=>exact h
 .have e : ∀ o : Oper, o.op = .call { callee := .value (.func 140), args := #[.tmp 2, .const (.int .i32 x), .const (.int .i32 y)], argTypes := #[203, 21, 21] } -> execOp a.eval o = callFunc 140 #[.pointer (some q), .int .i32 x, .int .i32 y] := fun o h => by
   unfold execOp;rw[h];simp[Act.eval,go_sem] at h2 ⊢;rw[h2]
  rw[e _ rfl];rcases SN (Sq.fn Tryz.func140 rfl) (by kernel_rfl) (by kernel_rfl) (by kernel_rfl) (by kernel_rfl) (x:=x) (y:=y) h3 h4 with⟨z,z1,z2⟩|h
  .refine .inl ⟨z,z1,z2,λhz=>?_,λhz=>?_⟩
   .subst hz;exact run_call_cas_hit (P:=An) (Sq.fn Tryz.func140 rfl) (by kernel_rfl) (by kernel_rfl) (by kernel_rfl) .i32 (by kernel_rfl) z1 z2
   .exact run_call_cas_miss (P:=An) (Sq.fn Tryz.func140 rfl) (by kernel_rfl) (by kernel_rfl) (by kernel_rfl) .i32 (by kernel_rfl) z1 z2 hz
  .exact .inr h
structure MW (BB:FuncId->Bool):Prop where
 sub:∀f,H2 f=true->BB f=true
 Vr:BB 116=true
 Vs:BB 117=true
def nL {BB:FuncId->Bool}(hL:MW BB){f:FuncId}(h:f=79\/f=80):KS PW BB f:=by
 rcases h with rfl|rfl
 .obtain⟨r,o1,o2,s,hp⟩:=IG 79 zV 0 1 Sq.f79 rfl (by rw[zW];decide) rfl;exact⟨0,1,_,r,o1,o2,s,Tryz.f79,hp,kG (hL.sub 79 (by decide)) hL.Vr,Tryz.func79,rfl⟩
 .obtain⟨r,o1,o2,s,hp⟩:=IG 80 zS 1 0 Sq.f80 rfl (by rw[zU];decide) rfl;exact⟨1,0,_,r,o1,o2,s,Tryz.f80,hp,iO (hL.sub 80 (by decide)) hL.Vs,Tryz.func80,rfl⟩
def ve {BB:FuncId->Bool}{H:Hid}(hL:MW BB)(hn:H.bl=false:=by rfl):Fx PW H2 XD BB H 0:=by
 refine⟨wR _,wS _,λf hf hb=>?_,hL.sub,hn⟩;rcases hf with hf|hf
 .simp only[XD,hf,yN,yQ,put,xO,beq_iff_eq] at hb;rcases hb with((rfl|rfl)|rfl)|rfl
  .exact .inl ⟨_,_,Sq.put Tryz.func39 rfl,rfl⟩
  .exact .inl ⟨_,_,Sq.put Tryz.func74 rfl,rfl⟩
  .exact .inr (nL hL (.inl rfl))
  .exact .inr (nL hL (.inr rfl))
 .unfold aM at hf;simp only[xC,beq_iff_eq] at hf;obtain⟨rfl,_⟩:=hf;exact .inl ⟨_,_,Sq.put Tryz.func75 rfl,rfl⟩
def aE:Code->Code
 |.seq a _=>a
 |c=>c
def af:Code->Code
 |.seq _ b=>b
 |c=>c
def Gc:Code->Code
 |.block _ b=>b
 |.loop b=>b
 |c=>c
def Dg:Code->Array Oper
 |.region _ o _=>o
 |_=>#[]
noncomputable def eB:Code:=Tryz.f39.body.getD .skip
noncomputable def eL:Code:=Gc (Gc (af (aE (af (af eB)))))
noncomputable def eI:Code:=Gc (aE (af (af eL)))
noncomputable def o0:Array Oper:=Dg (aE eB)
noncomputable def o1:Array Oper:=Dg (aE (af eB))
noncomputable def o2:Array Oper:=Dg (aE (aE (af (af eB))))
noncomputable def o3:Array Oper:=Dg (aE (Gc (Gc (af (aE (af (af eB)))))))
noncomputable def o4:Array Oper:=Dg (aE (Gc (aE (af (af (Gc (Gc (af (aE (af (af eB)))))))))))
noncomputable def o5:Array Oper:=Dg (aE (af (Gc (aE (af (af (Gc (Gc (af (aE (af (af eB))))))))))))
noncomputable def o6:Array Oper:=Dg (aE (aE (af (af (Gc (aE (af (af (Gc (Gc (af (aE (af (af eB))))))))))))))
noncomputable def o7:Array Oper:=Dg (aE (af (af (af (Gc (aE (af (af (Gc (Gc (af (aE (af (af eB))))))))))))))
noncomputable def o8:Array Oper:=Dg (af (af (af (af (Gc (aE (af (af (Gc (Gc (af (aE (af (af eB))))))))))))))
noncomputable def o9:Array Oper:=Dg (af (af (af (Gc (Gc (af (aE (af (af eB)))))))))
noncomputable def Ir:Array Oper:=Dg (af (af (af eB)))
def wv:Tryz.f39.body=some (.seq (.region 0 o0 false) (.seq (.region 1 o1 false) (.seq (.seq (.region 2 o2 false) (.block 0 (.loop eL))) (.region 10 Ir false)))):=rfl
def wy:eL=.seq (.region 3 o3 false) (.seq (.cond (.tmp 14) .skip (.exit 0)) (.seq (.block 1 eI) (.region 9 o9 false))):=rfl
def wA:eI=.seq (.region 4 o4 false) (.seq (.region 5 o5 false) (.seq (.seq (.region 6 o6 false) (.cond (.tmp 22) (.exit 1) .skip)) (.seq (.region 7 o7 false) (.region 8 o8 false)))):=rfl
def lR {m:Bool}{b:Frame}{a:Act}{k:List Item}{cs:List Frame}{w:World}:stepG Tryz.prog m (G (b.at a (.code eL::k)) cs) w=.go (G (b.at a (.code (.region 3 o3 false)::.code (.seq (.cond (.tmp 14) .skip (.exit 0)) (.seq (.block 1 eI) (.region 9 o9 false)))::k)) cs) w #[]:=by
 rw[wy];exact stepG_seq
def r8 {m:Bool}{b:Frame}{a:Act}{k:List Item}{cs:List Frame}{w:World}:stepG Tryz.prog m (G (b.at a (.code eI::k)) cs) w=.go (G (b.at a (.code (.region 4 o4 false)::.code (.seq (.region 5 o5 false) (.seq (.seq (.region 6 o6 false) (.cond (.tmp 22) (.exit 1) .skip)) (.seq (.region 7 o7 false) (.region 8 o8 false))))::k)) cs) w #[]:=by
 rw[wA];exact stepG_seq
def tN (w:World)(o:Obj)(a:Addr):(w.alloc o).cell? a=if a.block=w.heap.size then(match o with|.cells c _ _=>if a.spot.isSome then none else c[a.off]?|_=>none) else w.cell? a:=by
 show(match(w.heap.push o)[a.block]? with|some (.cells c _ _)=>if a.spot.isSome then none else c[a.off]?|_=>none)=_;rw[yL];by_cases e:a.block=w.heap.size
 .rw[if_pos e,if_pos e];cases o<;>rfl
 .rw[if_neg e,if_neg e];rfl
def aF (w:World)(o:Obj)(b:Nat):(w.alloc o).heap[b]?=if b=w.heap.size then some o else w.heap[b]?:=yL ..
def r9 (c:Frame)(cs:List Frame):(c::cs)≠[]:=by simp
def ql (w:World)(τ:Tape)(d:Nat)(t:TypeId)(z0 z1 z2 z3 z4 y0 y1 y2 y3 y4:Value) :
  AR (w.alloc (.cells #[y0,y1,y2,y3,y4] t)) ((((((on (w.alloc (.cells #[z0,z1,z2,z3,z4] t)) τ d).setCell ⟨w.heap.size,0,none⟩ y0).setCell ⟨w.heap.size,1,none⟩ y1).setCell ⟨w.heap.size,2,none⟩ y2).setCell ⟨w.heap.size,3,none⟩ y3).setCell ⟨w.heap.size,4,none⟩ y4):=by
 refine⟨?_,rfl,rfl⟩;apply Array.ext_getElem?;intro b;simp only[Bi];have e0:(on (w.alloc (.cells #[z0,z1,z2,z3,z4] t)) τ d).heap[b]?=if b=w.heap.size then some (.cells #[z0,z1,z2,z3,z4] t) else w.heap[b]?:=aF w _ b
 rw[e0,aF];by_cases e:b=w.heap.size
 .simp only[if_pos e];rfl
 .simp only[if_neg e]
def aI (w:World)(o:Obj):(w.alloc o).heap.size=w.heap.size+1:=Array.size_push _
def ay (W:World)(τ:Tape)(d:Nat)(a:Addr):(on W τ d).cell? a=W.cell? a:=rfl
def ak (W:World)(τ:Tape)(d:Nat):(on W τ d).heap.size=W.heap.size:=rfl
def aq (W:World)(τ:Tape)(d:Nat)(a:Addr):(on W τ d).frozen? a=W.frozen? a:=rfl
def tO {BB:FuncId->Bool}(hB:BB 39=true){Q:Goroutine->World->Prop}(hQ:∀g w W,AR w W->Q g w->Q g W){cb:Nat}{f:Fn}{fx fc:Array Value}{cs:List Frame}(hcs:cs≠[]){w:World}
  (h:AG Tryz.prog (BO Tryz.prog BB) Q (G ((base 39).at ⟨#[.pointer (some ⟨cb,0,none⟩),.func f fx fc,.pointer (some ⟨w.heap.size,0,none⟩),.pointer (some ⟨w.heap.size+1,0,none⟩),undef,undef,undef,undef,undef,undef,undef,undef,undef,undef,undef,undef,undef,undef,undef,undef,undef,undef,undef,undef,undef,undef,undef],[]⟩ [.inRegion o1 [0],.code (.seq (.seq (.region 2 o2 false) (.block 0 (.loop eL))) (.region 10 Ir false))]) cs) ((w.alloc (.cells #[.pointer (some ⟨cb,0,none⟩)] 69)).alloc (.cells #[.func f fx fc] 90))) :
  AG Tryz.prog (BO Tryz.prog BB) Q (G (Frame.enter Tryz.prog 39 #[.pointer (some ⟨cb,0,none⟩),.func f fx fc] .normal) cs) w:=by
 rw[enter_at _ Tryz.func39 wv];simp only[Tryz.ntmps39,xB,xz,xF,Nat.reduceAdd,Nat.reduceSub,yi,yj,yv,yn,yD,yt];refine AG.own hQ hB (by kernel_rfl) λτ d=>?_;rw[stepG_seq];simp only[goes_go];refine⟨hcs,w,zC,?_⟩;refine AG.own hQ hB (by kernel_rfl) λτ d=>?_;rw[stepG_region];simp only[goes_go,o0,eB,Tryz.f39,Option.getD_some,Dg,aE,af,Gc,xB,xz,xF,Nat.reduceAdd,xG,List.range,List.range.loop];refine⟨hcs,w,zC,?_⟩
 refine AG.own hQ hB (by kernel_rfl) λτ d=>?_;refine goes_oper_k rfl rfl (by decide) (λK hK=>?_);have q1:=ay;have q2:=ak;have q3:=aq;go_simp;clear q1 q2 q3;refine hK _ _ ⟨hcs,w.alloc _,⟨rfl,rfl,rfl⟩,?_⟩;clear hK K
 try walk_nrm
 try simp only[ak]
 refine AG.own hQ hB (by kernel_rfl) λτ d=>?_;refine goes_oper_k rfl rfl (by decide) (λK hK=>?_);have q1:=ay;have q2:=ak;have q3:=aq;go_simp;clear q1 q2 q3;refine hK _ _ ⟨hcs,(w.alloc _).alloc _,⟨rfl,rfl,rfl⟩,?_⟩;clear hK K
 try walk_nrm
 try simp only[ak]
 refine AG.own hQ hB (by kernel_rfl) λτ d=>?_;rw[stepG_region_end];simp only[goes_go];refine⟨hcs,_,zC,?_⟩;refine AG.own hQ hB (by kernel_rfl) λτ d=>?_;rw[stepG_seq];simp only[goes_go];refine⟨hcs,_,zC,?_⟩;refine AG.own hQ hB (by kernel_rfl) λτ d=>?_;rw[stepG_region];have s1:o1.size=1:=rfl;simp only[goes_go,s1,List.range,List.range.loop];refine⟨hcs,_,zC,?_⟩;exact h
def oT {m:Bool}{a:Act}{k:List Item}{cs:List Frame}{W:World} :
  stepG Tryz.prog m (G ((base 39).at a (.inRegion o1 [0]::k)) cs) W=.go (G ((base 39).at (a.put (some 4) (.pointer (some ⟨W.heap.size,0,none⟩))) (.inRegion o1 []::k)) cs) (W.alloc (.cells #[.int .u64 0,.int .u32 0] 133)) #[]:=by
 obtain⟨o,h1,h2,h3,h4⟩:∃o,o1[0]?=some o/\o.op=.alloc 133/\o.dst=some 4/\o.guard=none:=⟨_,rfl,rfl,rfl,rfl⟩;have hr:(execOp a.eval o).run Tryz.prog W=.ok (.value (.pointer (some ⟨W.heap.size,0,none⟩))) (W.alloc (.cells #[.int .u64 0,.int .u32 0] 133)):=by
  unfold execOp;rw[h2];go_simp
 have he:(execOp a.eval o).events Tryz.prog W #[]=#[]:=by
  unfold execOp;rw[h2];simp[go_sem]
 rw[stepG_value h1 (by unfold Region.wanted;rw[h4]) (by decide) hr,h3];have h5:listed Tryz.prog (base 39).fn a o W=#[]:=by unfold listed;rw[he];exact seen_none _ _
 rw[h5]
def tP {BB:FuncId->Bool}(hB:BB 39=true){Q:Goroutine->World->Prop}(hQ:∀g w W,AR w W->Q g w->Q g W){cb sb n c b2 b3 b4:Nat}{p0 p1:Value}{cs:List Frame}(hcs:cs≠[]){w:World}{v0:Value}
  (g1:w.cell? ⟨b2,0,none⟩=some (.pointer (some ⟨cb,0,none⟩))) (g2:w.cell? ⟨cb,2,none⟩=some (.slice (some ⟨sb,0,none⟩) n c)) (g3:w.cell? ⟨cb,0,none⟩=some v0)
  (h:AG Tryz.prog (BO Tryz.prog BB) Q (G ((base 39).at ⟨#[p0,p1,.pointer (some ⟨b2,0,none⟩),.pointer (some ⟨b3,0,none⟩),.pointer (some ⟨b4,0,none⟩),undef,undef,undef,.pointer (some ⟨cb,0,none⟩),.pointer (some ⟨cb,0,none⟩),.pointer (some ⟨cb,2,none⟩),.slice (some ⟨sb,0,none⟩) n c,.int .i64 n,.int .i64 0,undef,undef,undef,undef,undef,undef,undef,undef,undef,undef,undef,undef,undef],[]⟩ [.code eL,.inLoop eL,.inBlock 0,.code (.region 10 Ir false)]) cs) w) :
  AG Tryz.prog (BO Tryz.prog BB) Q (G ((base 39).at ⟨#[p0,p1,.pointer (some ⟨b2,0,none⟩),.pointer (some ⟨b3,0,none⟩),.pointer (some ⟨b4,0,none⟩),undef,undef,undef,undef,undef,undef,undef,undef,undef,undef,undef,undef,undef,undef,undef,undef,undef,undef,undef,undef,undef,undef],[]⟩ [.inRegion o1 [],.code (.seq (.seq (.region 2 o2 false) (.block 0 (.loop eL))) (.region 10 Ir false))]) cs) w:=by
 refine AG.own hQ hB (by kernel_rfl) λτ d=>?_;rw[stepG_region_end];simp only[goes_go];refine⟨hcs,w,zC,?_⟩;refine AG.own hQ hB (by kernel_rfl) λτ d=>?_;rw[stepG_seq];simp only[goes_go];refine⟨hcs,w,zC,?_⟩;refine AG.own hQ hB (by kernel_rfl) λτ d=>?_;rw[stepG_seq];simp only[goes_go];refine⟨hcs,w,zC,?_⟩;refine AG.own hQ hB (by kernel_rfl) λτ d=>?_;rw[stepG_region];simp only[goes_go,o2,eB,Tryz.f39,Option.getD_some,Dg,aE,af,Gc,xB,xz,xF,Nat.reduceAdd,xG,List.range,List.range.loop]
 refine⟨hcs,w,zC,?_⟩;refine AG.own hQ hB (by kernel_rfl) λτ d=>?_;refine goes_oper_k rfl rfl (by decide) (λK hK=>?_);have q1:=ay;have q2:=ak;have q3:=aq;go_simp;clear q1 q2 q3;refine hK _ _ ⟨hcs,w,⟨rfl,rfl,rfl⟩,?_⟩;clear hK K
 try walk_nrm
 try simp only[ak]
 refine AG.own hQ hB (by kernel_rfl) λτ d=>?_;refine goes_oper_k rfl rfl (by decide) (λK hK=>?_);have q1:=ay;have q2:=ak;have q3:=aq;go_simp;clear q1 q2 q3;refine hK _ _ ⟨hcs,w,⟨rfl,rfl,rfl⟩,?_⟩;clear hK K
 try walk_nrm
 try simp only[ak]
 refine AG.own hQ hB (by kernel_rfl) λτ d=>?_;refine goes_oper_k rfl rfl (by decide) (λK hK=>?_);have q1:=ay;have q2:=ak;have q3:=aq;go_simp;clear q1 q2 q3;refine hK _ _ ⟨hcs,w,⟨rfl,rfl,rfl⟩,?_⟩;clear hK K
 try walk_nrm
 try simp only[ak]
 refine AG.own hQ hB (by kernel_rfl) λτ d=>?_;refine goes_oper_k rfl rfl (by decide) (λK hK=>?_);have q1:=ay;have q2:=ak;have q3:=aq;go_simp;clear q1 q2 q3;refine hK _ _ ⟨hcs,w,⟨rfl,rfl,rfl⟩,?_⟩;clear hK K
 try walk_nrm
 try simp only[ak]
 refine AG.own hQ hB (by kernel_rfl) λτ d=>?_;refine goes_oper_k rfl rfl (by decide) (λK hK=>?_);have q1:=ay;have q2:=ak;have q3:=aq;go_simp;clear q1 q2 q3;refine hK _ _ ⟨hcs,w,⟨rfl,rfl,rfl⟩,?_⟩;clear hK K
 try walk_nrm
 try simp only[ak]
 refine AG.own hQ hB (by kernel_rfl) λτ d=>?_;refine goes_oper_k rfl rfl (by decide) (λK hK=>?_);have q1:=ay;have q2:=ak;have q3:=aq;go_simp;clear q1 q2 q3;refine hK _ _ ⟨hcs,w,⟨rfl,rfl,rfl⟩,?_⟩;clear hK K
 try walk_nrm
 try simp only[ak]
 refine AG.own hQ hB (by kernel_rfl) λτ d=>?_;rw[stepG_region_end];simp only[goes_go];refine⟨hcs,w,zC,?_⟩;refine AG.own hQ hB (by kernel_rfl) λτ d=>?_;rw[stepG_block];simp only[goes_go];refine⟨hcs,w,zC,?_⟩;refine AG.own hQ hB (by kernel_rfl) λτ d=>?_;rw[stepG_loop];simp only[goes_go];refine⟨hcs,w,zC,?_⟩;exact h
def vg {BB:FuncId->Bool}(hB:BB 39=true){Q:Goroutine->World->Prop}(hQ:∀g w W,AR w W->Q g w->Q g W){p0 p1 v5 v6 v7 v8 v9 v10 v14 v15 v16 v17 v18 v19 v20 v21 v22 v23 v24 v25 v26:Value}{b2 b3 b4 cb sb n c i:Nat}{cs:List Frame}(hcs:cs≠[]){w:World}{x:Int}(hi:i<n)(g1:w.cell? ⟨b2,0,none⟩=some (.pointer (some ⟨cb,0,none⟩)))(g2:w.cell? ⟨sb,i,none⟩=some (.int .u8 x))(l2:b2<w.heap.size)
  (h:AG Tryz.prog (BO Tryz.prog BB) Q (G (Frame.enter Tryz.prog 72 #[.pointer (some ⟨cb,0,none⟩),.pointer (some ⟨w.heap.size,0,none⟩),.int .i64 0] .normal) (((base 39).at ⟨#[p0,p1,.pointer (some ⟨b2,0,none⟩),.pointer (some ⟨b3,0,none⟩),.pointer (some ⟨b4,0,none⟩),v5,.int .u8 x,.pointer (some ⟨w.heap.size,0,none⟩),v8,v9,v10,.slice (some ⟨sb,0,none⟩) n c,.int .i64 n,.int .i64 i,.bool true,.pointer (some ⟨sb,i,none⟩),.int .u8 x,.int .u8 x,.agg #[.int .u8 x,.int .u8 0,.int .u8 0,.int .u8 0,.int .u8 0],.pointer (some ⟨cb,0,none⟩),v20,v21,v22,v23,v24,v25,v26],[]⟩ [.inRegion o6 [1,2,3],.code (.cond (.tmp 22) (.exit 1) .skip),.code (.seq (.region 7 o7 false) (.region 8 o8 false)),.inBlock 1,.code (.region 9 o9 false),.inLoop eL,.inBlock 0,.code (.region 10 Ir false)])::cs)) (w.alloc (.cells #[.int .u8 x,.int .u8 0,.int .u8 0,.int .u8 0,.int .u8 0] 72))) :
  AG Tryz.prog (BO Tryz.prog BB) Q (G ((base 39).at ⟨#[p0,p1,.pointer (some ⟨b2,0,none⟩),.pointer (some ⟨b3,0,none⟩),.pointer (some ⟨b4,0,none⟩),v5,v6,v7,v8,v9,v10,.slice (some ⟨sb,0,none⟩) n c,.int .i64 n,.int .i64 i,v14,v15,v16,v17,v18,v19,v20,v21,v22,v23,v24,v25,v26],[]⟩ [.code eL,.inLoop eL,.inBlock 0,.code (.region 10 Ir false)]) cs) w:=by
 refine AG.own hQ hB (by kernel_rfl) λτ d=>?_;rw[lR];simp only[goes_go];refine⟨hcs,w,zC,?_⟩;refine AG.own hQ hB (by kernel_rfl) λτ d=>?_;rw[stepG_region];simp only[goes_go,o3,eB,Tryz.f39,Option.getD_some,Dg,aE,af,Gc,xB,xz,xF,Nat.reduceAdd,xG,List.range,List.range.loop];refine⟨hcs,w,zC,?_⟩;refine AG.own hQ hB (by kernel_rfl) λτ d=>?_;refine goes_oper_k rfl rfl (by decide) (λK hK=>?_);have q1:=ay
 have q2:=ak;have q3:=aq;go_simp;clear q1 q2 q3;refine hK _ _ ⟨hcs,w,⟨rfl,rfl,rfl⟩,?_⟩;clear hK K
 try walk_nrm
 try simp only[ak]
 refine AG.own hQ hB (by kernel_rfl) λτ d=>?_;rw[stepG_region_end];simp only[goes_go];refine⟨hcs,w,zC,?_⟩;refine AG.own hQ hB (by kernel_rfl) λτ d=>?_;rw[stepG_seq];simp only[goes_go];refine⟨hcs,w,zC,?_⟩;refine AG.own hQ hB (by kernel_rfl) λτ d=>?_;rw[stepG_cond (t:=true) rfl];simp only[goes_go,if_true,if_false,xJ,↓reduceIte];refine⟨hcs,w,zC,?_⟩;refine AG.own hQ hB (by kernel_rfl) λτ d=>?_
 rw[stepG_skip];simp only[goes_go];refine⟨hcs,w,zC,?_⟩;refine AG.own hQ hB (by kernel_rfl) λτ d=>?_;rw[stepG_seq];simp only[goes_go];refine⟨hcs,w,zC,?_⟩;refine AG.own hQ hB (by kernel_rfl) λτ d=>?_;rw[stepG_block];simp only[goes_go];refine⟨hcs,w,zC,?_⟩;refine AG.own hQ hB (by kernel_rfl) λτ d=>?_;rw[r8];simp only[goes_go];refine⟨hcs,w,zC,?_⟩;refine AG.own hQ hB (by kernel_rfl) λτ d=>?_;rw[stepG_region]
 simp only[goes_go,o4,eB,Tryz.f39,Option.getD_some,Dg,aE,af,Gc,xB,xz,xF,Nat.reduceAdd,xG,List.range,List.range.loop];refine⟨hcs,w,zC,?_⟩;have hi2:((i:Nat):Int).toNat=i:=by omega
 refine AG.own hQ hB (by kernel_rfl) λτ d=>?_;refine goes_oper_k rfl rfl (by decide) (λK hK=>?_);have q1:=ay;have q2:=ak;have q3:=aq;go_simp;clear q1 q2 q3;refine hK _ _ ⟨hcs,w,⟨rfl,rfl,rfl⟩,?_⟩;clear hK K
 try walk_nrm
 try simp only[ak]
 refine AG.own hQ hB (by kernel_rfl) λτ d=>?_;refine goes_oper_k rfl rfl (by decide) (λK hK=>?_);have q1:=ay;have q2:=ak;have q3:=aq;go_simp;clear q1 q2 q3;refine hK _ _ ⟨hcs,w,⟨rfl,rfl,rfl⟩,?_⟩;clear hK K
 try walk_nrm
 try simp only[ak]
 refine AG.own hQ hB (by kernel_rfl) λτ d=>?_;refine goes_oper_k rfl rfl (by decide) (λK hK=>?_);have q1:=ay;have q2:=ak;have q3:=aq;go_simp;clear q1 q2 q3;refine hK _ _ ⟨hcs,w,⟨rfl,rfl,rfl⟩,?_⟩;clear hK K
 try walk_nrm
 try simp only[ak]
 refine AG.own hQ hB (by kernel_rfl) λτ d=>?_;rw[stepG_region_end];simp only[goes_go];refine⟨hcs,w,zC,?_⟩;refine AG.own hQ hB (by kernel_rfl) λτ d=>?_;rw[stepG_seq];simp only[goes_go];refine⟨hcs,w,zC,?_⟩;refine AG.own hQ hB (by kernel_rfl) λτ d=>?_;rw[stepG_region];simp only[goes_go,o5,eB,Tryz.f39,Option.getD_some,Dg,aE,af,Gc,xB,xz,xF,Nat.reduceAdd,xG,List.range,List.range.loop];refine⟨hcs,w,zC,?_⟩
 refine AG.own hQ hB (by kernel_rfl) λτ d=>?_;refine goes_oper_k rfl rfl (by decide) (λK hK=>?_);have q1:=ay;have q2:=ak;have q3:=aq;go_simp;clear q1 q2 q3;refine hK _ _ ⟨hcs,w,⟨rfl,rfl,rfl⟩,?_⟩;clear hK K
 try walk_nrm
 try simp only[ak]
 refine AG.own hQ hB (by kernel_rfl) λτ d=>?_;refine goes_oper_k rfl rfl (by decide) (λK hK=>?_);have q1:=ay;have q2:=ak;have q3:=aq;go_simp;clear q1 q2 q3;refine hK _ _ ⟨hcs,w,⟨rfl,rfl,rfl⟩,?_⟩;clear hK K
 try walk_nrm
 try simp only[ak]
 refine AG.own hQ hB (by kernel_rfl) λτ d=>?_;refine goes_oper_k rfl rfl (by decide) (λK hK=>?_);have q1:=ay;have q2:=ak;have q3:=aq;go_simp;clear q1 q2 q3;refine hK _ _ ⟨hcs,w.alloc _,⟨rfl,rfl,rfl⟩,?_⟩;clear hK K
 try walk_nrm
 try simp only[ak]
 refine AG.own hQ hB (by kernel_rfl) λτ d=>?_;refine goes_oper_k rfl rfl (by decide) (λK hK=>?_);have q1:=ay;have q2:=ak;have q3:=aq;go_simp;clear q1 q2 q3;refine hK _ _ ⟨hcs,_,ql w τ d _ _ _ _ _ _ _ _ _ _ _,?_⟩;clear hK K
 try walk_nrm
 generalize hW:w.alloc (.cells #[.int .u8 x,.int .u8 0,.int .u8 0,.int .u8 0,.int .u8 0] 72)=W at h ⊢;have g3:W.cell? ⟨b2,0,none⟩=some (.pointer (some ⟨cb,0,none⟩)):=by rw[<-hW,<-g1];simp only[tN];rw[if_neg (by omega)]
 clear g1 g2;refine AG.own hQ hB (by kernel_rfl) λτ d=>?_;rw[stepG_region_end];simp only[goes_go];refine⟨hcs,W,zC,?_⟩;refine AG.own hQ hB (by kernel_rfl) λτ d=>?_;rw[stepG_seq];simp only[goes_go];refine⟨hcs,W,zC,?_⟩;refine AG.own hQ hB (by kernel_rfl) λτ d=>?_;rw[stepG_seq];simp only[goes_go];refine⟨hcs,W,zC,?_⟩;refine AG.own hQ hB (by kernel_rfl) λτ d=>?_;rw[stepG_region];simp only[goes_go,o6,eB,Tryz.f39,Option.getD_some,Dg,aE,af,Gc,xB,xz,xF,Nat.reduceAdd,xG,List.range,List.range.loop]
 refine⟨hcs,W,zC,?_⟩;refine AG.own hQ hB (by kernel_rfl) λτ d=>?_;refine goes_oper_k rfl rfl (by decide) (λK hK=>?_);have q1:=ay;have q2:=ak;have q3:=aq;go_simp;clear q1 q2 q3;refine hK _ _ ⟨hcs,W,⟨rfl,rfl,rfl⟩,?_⟩;clear hK K
 try walk_nrm
 try simp only[ak]
 refine AG.own hQ hB (by kernel_rfl) λτ d=>?_;refine aG rfl rfl (by decide) rfl Tryz.func72 (by kernel_rfl) (by kernel_rfl) ⟨r9 _ _,W,zC,?_⟩
 try walk_nrm
 exact h
def tQ {BB:FuncId->Bool}(hB:BB 39=true){Q:Goroutine->World->Prop}(hQ:∀g w W,AR w W->Q g w->Q g W){p0 p1 v5 v6 v7 v8 v9 v10 v14 v15 v16 v17 v18 v19 v20 v21 v22 v23 v24 v25 v26:Value}{b2 b3 b4 cb sb n c i:Nat}{cs:List Frame}(hcs:cs≠[]){w:World}{k:Int}{y1 y2:Value}(hw:IntKind.i64.wrap ((i:Int)+1)=((i+1:Nat):Int))(hk:k≠0)
  (h:AG Tryz.prog (BO Tryz.prog BB) Q (G ((base 39).at ⟨#[p0,p1,.pointer (some ⟨b2,0,none⟩),.pointer (some ⟨b3,0,none⟩),.pointer (some ⟨b4,0,none⟩),v5,v6,v7,v8,v9,v10,.slice (some ⟨sb,0,none⟩) n c,.int .i64 n,.int .i64 ((i+1:Nat):Int),v14,v15,v16,v17,v18,v19,.agg #[.int .i64 k,y1,y2],.int .i64 k,.bool true,v23,v24,.int .i64 ((i+1:Nat):Int),v26],[]⟩ [.code eL,.inLoop eL,.inBlock 0,.code (.region 10 Ir false)]) cs) w) :
  AG Tryz.prog (BO Tryz.prog BB) Q (G ((base 39).at ⟨#[p0,p1,.pointer (some ⟨b2,0,none⟩),.pointer (some ⟨b3,0,none⟩),.pointer (some ⟨b4,0,none⟩),v5,v6,v7,v8,v9,v10,.slice (some ⟨sb,0,none⟩) n c,.int .i64 n,.int .i64 i,v14,v15,v16,v17,v18,v19,.agg #[.int .i64 k,y1,y2],v21,v22,v23,v24,v25,v26],[]⟩ [.inRegion o6 [2,3],.code (.cond (.tmp 22) (.exit 1) .skip),.code (.seq (.region 7 o7 false) (.region 8 o8 false)),.inBlock 1,.code (.region 9 o9 false),.inLoop eL,.inBlock 0,.code (.region 10 Ir false)]) cs) w:=by
 simp only[o6,eB,Tryz.f39,Option.getD_some,Dg,aE,af,Gc];refine AG.own hQ hB (by kernel_rfl) λτ d=>?_;refine goes_oper_k rfl rfl (by decide) (λK hK=>?_);have q1:=ay;have q2:=ak;have q3:=aq;go_simp;clear q1 q2 q3;refine hK _ _ ⟨hcs,w,⟨rfl,rfl,rfl⟩,?_⟩;clear hK K
 try walk_nrm
 try simp only[ak]
 refine AG.own hQ hB (by kernel_rfl) λτ d=>?_;refine goes_oper_k rfl rfl (by decide) (λK hK=>?_);have q1:=ay;have q2:=ak;have q3:=aq;go_simp;clear q1 q2 q3;refine hK _ _ ⟨hcs,w,⟨rfl,rfl,rfl⟩,?_⟩;clear hK K
 try walk_nrm
 try simp only[ak]
 refine AG.own hQ hB (by kernel_rfl) λτ d=>?_;rw[stepG_region_end];simp only[goes_go];refine⟨hcs,w,zC,?_⟩;refine AG.own hQ hB (by kernel_rfl) λτ d=>?_;rw[stepG_cond (t:=true) (by simp[Act.eval,hk])];simp only[goes_go,if_true,if_false,xJ,↓reduceIte];refine⟨hcs,w,zC,?_⟩;refine AG.own hQ hB (by kernel_rfl) λτ d=>?_;rw[stepG_exit rfl];simp only[goes_go];refine⟨hcs,w,zC,?_⟩;refine AG.own hQ hB (by kernel_rfl) λτ d=>?_
 rw[stepG_region];simp only[goes_go,o9,eB,Tryz.f39,Option.getD_some,Dg,aE,af,Gc,xB,xz,xF,Nat.reduceAdd,xG,List.range,List.range.loop];refine⟨hcs,w,zC,?_⟩;refine AG.own hQ hB (by kernel_rfl) λτ d=>?_;refine goes_oper_k rfl rfl (by decide) (λK hK=>?_);have q1:=ay;have q2:=ak;have q3:=aq;go_simp;clear q1 q2 q3;refine hK _ _ ⟨hcs,w,⟨rfl,rfl,rfl⟩,?_⟩;clear hK K
 try walk_nrm
 try simp only[ak]
 try rw[hw]
 refine AG.own hQ hB (by kernel_rfl) λτ d=>?_;refine goes_oper_k rfl rfl (by decide) (λK hK=>?_);have q1:=ay;have q2:=ak;have q3:=aq;go_simp;clear q1 q2 q3;refine hK _ _ ⟨hcs,w,⟨rfl,rfl,rfl⟩,?_⟩;clear hK K
 try walk_nrm
 try simp only[ak]
 refine AG.own hQ hB (by kernel_rfl) λτ d=>?_;rw[stepG_region_end];simp only[goes_go];refine⟨hcs,w,zC,?_⟩;refine AG.own hQ hB (by kernel_rfl) λτ d=>?_;rw[stepG_inLoop];simp only[goes_go];refine⟨hcs,w,zC,?_⟩;simpa [show(k != 0)=true by simp[hk]] using h
def tR {BB:FuncId->Bool}(hB:BB 39=true){Q:Goroutine->World->Prop}(hQ:∀g w W,AR w W->Q g w->Q g W){p0 p1 v5 v6 v7 v8 v9 v10 v14 v15 v16 v17 v18 v19 v20 v21 v22 v23 v24 v25 v26:Value}{b2 b3 b4 cb sb n c i:Nat}{cs:List Frame}(hcs:cs≠[]){w:World}{y1 y2:Value}
  (h:AG Tryz.prog (BO Tryz.prog BB) Q (G (Frame.enter Tryz.prog 73 #[.pointer (some ⟨b4,0,none⟩),.int .i64 1] .normal) (((base 39).at ⟨#[p0,p1,.pointer (some ⟨b2,0,none⟩),.pointer (some ⟨b3,0,none⟩),.pointer (some ⟨b4,0,none⟩),v5,v6,v7,v8,v9,v10,.slice (some ⟨sb,0,none⟩) n c,.int .i64 n,.int .i64 i,v14,v15,v16,v17,v18,v19,.agg #[.int .i64 0,y1,y2],.int .i64 0,.bool false,v23,v24,v25,v26],[]⟩ [.inRegion o7 [0],.code (.region 8 o8 false),.inBlock 1,.code (.region 9 o9 false),.inLoop eL,.inBlock 0,.code (.region 10 Ir false)])::cs)) w) :
  AG Tryz.prog (BO Tryz.prog BB) Q (G ((base 39).at ⟨#[p0,p1,.pointer (some ⟨b2,0,none⟩),.pointer (some ⟨b3,0,none⟩),.pointer (some ⟨b4,0,none⟩),v5,v6,v7,v8,v9,v10,.slice (some ⟨sb,0,none⟩) n c,.int .i64 n,.int .i64 i,v14,v15,v16,v17,v18,v19,.agg #[.int .i64 0,y1,y2],v21,v22,v23,v24,v25,v26],[]⟩ [.inRegion o6 [2,3],.code (.cond (.tmp 22) (.exit 1) .skip),.code (.seq (.region 7 o7 false) (.region 8 o8 false)),.inBlock 1,.code (.region 9 o9 false),.inLoop eL,.inBlock 0,.code (.region 10 Ir false)]) cs) w:=by
 simp only[o6,eB,Tryz.f39,Option.getD_some,Dg,aE,af,Gc];refine AG.own hQ hB (by kernel_rfl) λτ d=>?_;refine goes_oper_k rfl rfl (by decide) (λK hK=>?_);have q1:=ay;have q2:=ak;have q3:=aq;go_simp;clear q1 q2 q3;refine hK _ _ ⟨hcs,w,⟨rfl,rfl,rfl⟩,?_⟩;clear hK K
 try walk_nrm
 try simp only[ak]
 refine AG.own hQ hB (by kernel_rfl) λτ d=>?_;refine goes_oper_k rfl rfl (by decide) (λK hK=>?_);have q1:=ay;have q2:=ak;have q3:=aq;go_simp;clear q1 q2 q3;refine hK _ _ ⟨hcs,w,⟨rfl,rfl,rfl⟩,?_⟩;clear hK K
 try walk_nrm
 try simp only[ak]
 refine AG.own hQ hB (by kernel_rfl) λτ d=>?_;rw[stepG_region_end];simp only[goes_go];refine⟨hcs,w,zC,?_⟩;refine AG.own hQ hB (by kernel_rfl) λτ d=>?_;rw[stepG_cond (t:=false) rfl];simp only[goes_go,if_true,if_false,xJ,↓reduceIte];refine⟨hcs,w,zC,?_⟩;refine AG.own hQ hB (by kernel_rfl) λτ d=>?_;rw[stepG_skip];simp only[goes_go];refine⟨hcs,w,zC,?_⟩;refine AG.own hQ hB (by kernel_rfl) λτ d=>?_
 rw[stepG_seq];simp only[goes_go];refine⟨hcs,w,zC,?_⟩;refine AG.own hQ hB (by kernel_rfl) λτ d=>?_;rw[stepG_region];have s7:o7.size=1:=rfl;simp only[goes_go,s7,List.range,List.range.loop];refine⟨hcs,w,zC,?_⟩;refine AG.own hQ hB (by kernel_rfl) λτ d=>?_;refine aG rfl rfl (by decide) rfl Tryz.func73 (by kernel_rfl) (by kernel_rfl) ⟨r9 _ _,w,zC,?_⟩
 try walk_nrm
 simpa using h
def vi {BB:FuncId->Bool}(hB:BB 39=true){Q:Goroutine->World->Prop}(hQ:∀g w W,AR w W->Q g w->Q g W){p0 p1 v5 v6 v7 v8 v9 v10 v14 v15 v16 v17 v18 v19 v20 v21 v22 v23 v24 v25 v26:Value}{b2 b3 b4 cb sb n c i:Nat}{cs:List Frame}(hcs:cs≠[]){w:World}
  (h:AG Tryz.prog (BO Tryz.prog BB) Q (G ((base 39).at ⟨#[p0,p1,.pointer (some ⟨b2,0,none⟩),.pointer (some ⟨b3,0,none⟩),.pointer (some ⟨b4,0,none⟩),v5,v6,v7,v8,v9,v10,.slice (some ⟨sb,0,none⟩) n c,.int .i64 n,.int .i64 i,v14,v15,v16,v17,v18,v19,v20,v21,v22,v23,.func (.func 74) #[] #[.pointer (some ⟨b4,0,none⟩),.pointer (some ⟨b2,0,none⟩),v7,.pointer (some ⟨b3,0,none⟩)],v25,v26],[]⟩ [.inRegion o8 [1],.inBlock 1,.code (.region 9 o9 false),.inLoop eL,.inBlock 0,.code (.region 10 Ir false)]) cs) w) :
  AG Tryz.prog (BO Tryz.prog BB) Q (G ((base 39).at ⟨#[p0,p1,.pointer (some ⟨b2,0,none⟩),.pointer (some ⟨b3,0,none⟩),.pointer (some ⟨b4,0,none⟩),v5,v6,v7,v8,v9,v10,.slice (some ⟨sb,0,none⟩) n c,.int .i64 n,.int .i64 i,v14,v15,v16,v17,v18,v19,v20,v21,v22,v23,v24,v25,v26],[]⟩ [.inRegion o7 [],.code (.region 8 o8 false),.inBlock 1,.code (.region 9 o9 false),.inLoop eL,.inBlock 0,.code (.region 10 Ir false)]) cs) w:=by
 refine AG.own hQ hB (by kernel_rfl) λτ d=>?_;rw[stepG_region_end];simp only[goes_go];refine⟨hcs,w,zC,?_⟩;refine AG.own hQ hB (by kernel_rfl) λτ d=>?_;rw[stepG_region];have s8:o8.size=2:=rfl;simp only[goes_go,s8,List.range,List.range.loop];refine⟨hcs,w,zC,?_⟩;simp only[o8,eB,Tryz.f39,Option.getD_some,Dg,aE,af,Gc] at h ⊢;refine AG.own hQ hB (by kernel_rfl) λτ d=>?_;refine goes_oper_k rfl rfl (by decide) (λK hK=>?_)
 have q1:=ay;have q2:=ak;have q3:=aq;go_simp;clear q1 q2 q3;refine hK _ _ ⟨hcs,w,⟨rfl,rfl,rfl⟩,?_⟩;clear hK K
 try walk_nrm
 try simp only[ak]
 exact h
def vj {BB:FuncId->Bool}(hB:BB 39=true){Q:Goroutine->World->Prop}(hQ:∀g w W,AR w W->Q g w->Q g W){p0 p1 v5 v6 v7 v8 v9 v10 v14 v15 v16 v17 v18 v19 v20 v21 v22 v23 v24 v25 v26:Value}{b2 b3 b4 cb sb n c i:Nat}{cs:List Frame}(hcs:cs≠[]){w:World}(hw:IntKind.i64.wrap ((i:Int)+1)=((i+1:Nat):Int))
  (h:AG Tryz.prog (BO Tryz.prog BB) Q (G ((base 39).at ⟨#[p0,p1,.pointer (some ⟨b2,0,none⟩),.pointer (some ⟨b3,0,none⟩),.pointer (some ⟨b4,0,none⟩),v5,v6,v7,v8,v9,v10,.slice (some ⟨sb,0,none⟩) n c,.int .i64 n,.int .i64 ((i+1:Nat):Int),v14,v15,v16,v17,v18,v19,v20,v21,v22,v23,v24,.int .i64 ((i+1:Nat):Int),v26],[]⟩ [.code eL,.inLoop eL,.inBlock 0,.code (.region 10 Ir false)]) cs) w) :
  AG Tryz.prog (BO Tryz.prog BB) Q (G ((base 39).at ⟨#[p0,p1,.pointer (some ⟨b2,0,none⟩),.pointer (some ⟨b3,0,none⟩),.pointer (some ⟨b4,0,none⟩),v5,v6,v7,v8,v9,v10,.slice (some ⟨sb,0,none⟩) n c,.int .i64 n,.int .i64 i,v14,v15,v16,v17,v18,v19,v20,v21,v22,v23,v24,v25,v26],[]⟩ [.inRegion o8 [],.inBlock 1,.code (.region 9 o9 false),.inLoop eL,.inBlock 0,.code (.region 10 Ir false)]) cs) w:=by
 refine AG.own hQ hB (by kernel_rfl) λτ d=>?_;rw[stepG_region_end];simp only[goes_go];refine⟨hcs,w,zC,?_⟩;refine AG.own hQ hB (by kernel_rfl) λτ d=>?_;rw[stepG_inBlock];simp only[goes_go];refine⟨hcs,w,zC,?_⟩;refine AG.own hQ hB (by kernel_rfl) λτ d=>?_;rw[stepG_region];simp only[goes_go,o9,eB,Tryz.f39,Option.getD_some,Dg,aE,af,Gc,xB,xz,xF,Nat.reduceAdd,xG,List.range,List.range.loop];refine⟨hcs,w,zC,?_⟩
 refine AG.own hQ hB (by kernel_rfl) λτ d=>?_;refine goes_oper_k rfl rfl (by decide) (λK hK=>?_);have q1:=ay;have q2:=ak;have q3:=aq;go_simp;clear q1 q2 q3;refine hK _ _ ⟨hcs,w,⟨rfl,rfl,rfl⟩,?_⟩;clear hK K
 try walk_nrm
 try simp only[ak]
 try rw[hw]
 refine AG.own hQ hB (by kernel_rfl) λτ d=>?_;refine goes_oper_k rfl rfl (by decide) (λK hK=>?_);have q1:=ay;have q2:=ak;have q3:=aq;go_simp;clear q1 q2 q3;refine hK _ _ ⟨hcs,w,⟨rfl,rfl,rfl⟩,?_⟩;clear hK K
 try walk_nrm
 try simp only[ak]
 refine AG.own hQ hB (by kernel_rfl) λτ d=>?_;rw[stepG_region_end];simp only[goes_go];refine⟨hcs,w,zC,?_⟩;refine AG.own hQ hB (by kernel_rfl) λτ d=>?_;rw[stepG_inLoop];simp only[goes_go];refine⟨hcs,w,zC,?_⟩;exact h
def vm {BB:FuncId->Bool}(hB:BB 39=true){Q:Goroutine->World->Prop}(hQ:∀g w W,AR w W->Q g w->Q g W){p0 p1 v5 v6 v7 v8 v9 v10 v14 v15 v16 v17 v18 v19 v20 v21 v22 v23 v24 v25 v26:Value}{b2 b3 b4 cb sb n c i:Nat}{cs:List Frame}(hcs:cs≠[]){w:World}(hi:¬i<n)
  (h:AG Tryz.prog (BO Tryz.prog BB) Q (G (Frame.enter Tryz.prog 76 #[.pointer (some ⟨b4,0,none⟩)] .normal) (((base 39).at ⟨#[p0,p1,.pointer (some ⟨b2,0,none⟩),.pointer (some ⟨b3,0,none⟩),.pointer (some ⟨b4,0,none⟩),v5,v6,v7,v8,v9,v10,.slice (some ⟨sb,0,none⟩) n c,.int .i64 n,.int .i64 i,.bool false,v15,v16,v17,v18,v19,v20,v21,v22,v23,v24,v25,v26],[]⟩ [.inRegion Ir [0]])::cs)) w) :
  AG Tryz.prog (BO Tryz.prog BB) Q (G ((base 39).at ⟨#[p0,p1,.pointer (some ⟨b2,0,none⟩),.pointer (some ⟨b3,0,none⟩),.pointer (some ⟨b4,0,none⟩),v5,v6,v7,v8,v9,v10,.slice (some ⟨sb,0,none⟩) n c,.int .i64 n,.int .i64 i,v14,v15,v16,v17,v18,v19,v20,v21,v22,v23,v24,v25,v26],[]⟩ [.code eL,.inLoop eL,.inBlock 0,.code (.region 10 Ir false)]) cs) w:=by
 refine AG.own hQ hB (by kernel_rfl) λτ d=>?_;rw[lR];simp only[goes_go];refine⟨hcs,w,zC,?_⟩;refine AG.own hQ hB (by kernel_rfl) λτ d=>?_;rw[stepG_region];simp only[goes_go,o3,eB,Tryz.f39,Option.getD_some,Dg,aE,af,Gc,xB,xz,xF,Nat.reduceAdd,xG,List.range,List.range.loop];refine⟨hcs,w,zC,?_⟩;refine AG.own hQ hB (by kernel_rfl) λτ d=>?_;refine goes_oper_k rfl rfl (by decide) (λK hK=>?_);have q1:=ay
 have q2:=ak;have q3:=aq;go_simp;clear q1 q2 q3;refine hK _ _ ⟨hcs,w,⟨rfl,rfl,rfl⟩,?_⟩;clear hK K
 try walk_nrm
 try simp only[ak]
 refine AG.own hQ hB (by kernel_rfl) λτ d=>?_;rw[stepG_region_end];simp only[goes_go];refine⟨hcs,w,zC,?_⟩;refine AG.own hQ hB (by kernel_rfl) λτ d=>?_;rw[stepG_seq];simp only[goes_go];refine⟨hcs,w,zC,?_⟩;refine AG.own hQ hB (by kernel_rfl) λτ d=>?_;rw[stepG_cond (t:=false) rfl];simp only[goes_go,if_true,if_false,xJ,↓reduceIte];refine⟨hcs,w,zC,?_⟩;refine AG.own hQ hB (by kernel_rfl) λτ d=>?_
 rw[stepG_exit rfl];simp only[goes_go];refine⟨hcs,w,zC,?_⟩;refine AG.own hQ hB (by kernel_rfl) λτ d=>?_;rw[stepG_region];have s10:Ir.size=1:=rfl;simp only[goes_go,s10,List.range,List.range.loop];refine⟨hcs,w,zC,?_⟩;refine AG.own hQ hB (by kernel_rfl) λτ d=>?_;refine aG rfl rfl (by decide) rfl Tryz.func76 (by kernel_rfl) (by kernel_rfl) ⟨r9 _ _,w,zC,?_⟩
 try walk_nrm
 exact h
def vp {BB:FuncId->Bool}(hB:BB 39=true){Q:Goroutine->World->Prop}(hQ:∀g w W,AR w W->Q g w->Q g W){a:Act}(hd:a.defers=[]){cs:List Frame}(hcs:cs≠[]){w:World}
  (h:∀a':Act,a'.defers=[]->Q (G { (base 39).at a' [] with mode:=.returning } cs) w) :
  AG Tryz.prog (BO Tryz.prog BB) Q (G (((base 39).at a [.inRegion Ir [0]]).finish (.tuple #[])) cs) w:=by
 rw[Frame.finish_at];refine AG.own hQ hB (by kernel_rfl) λτ d=>?_;rw[stepG_region_end];simp only[goes_go];refine⟨hcs,w,zC,?_⟩;refine AG.own hQ hB (by kernel_rfl) λτ d=>?_;rw[stepG_end];simp only[goes_go];refine⟨hcs,w,zC,.fin ?_⟩;refine h _ ?_;cases(Ir[0]?.bind (·.dst))<;>exact hd
end Go.Proofs.Ao
namespace Go.Co
open Go.Conc Go.ConcN Go.RowKit Go.Conc.Lib Go.ConcR.Gen Go.ConcN.Gen
open Go.ConcR (KK wgBlock WgAt stA smA rd wr mk Payload Aside2 DC0)
def RL (ty:TypeId)(Wg:Nat)(w w₁:World):Prop:=WgLive ty Wg w->WgLive ty Wg w₁
def RL.refl {ty:TypeId}{Wg:Nat}(w:World):RL ty Wg w w:=id
def RL.trans {ty:TypeId}{Wg:Nat}(a b c:World)(h:RL ty Wg a b)(k:RL ty Wg b c):RL ty Wg a c:=k ∘ h
def rl {ty:TypeId}{Wg:Nat}{w w₁:World}(h:WgLive ty Wg w)(r:RL ty Wg w w₁):WgLive ty Wg w₁:=r h
section
variable (P:Program) (ty:TypeId) (Wg:Nat)
abbrev GW (main:Bool)(Stop:Goroutine->World->Prop)(m:Nat)(g:Goroutine)(w:World):Prop:=Goes P main (RL ty Wg) DC0 Stop m g w
def D3 (g:Goroutine)(w:World):Prop :=
 g.status=.running/\(WgAt ty Wg w 1 0->∃g',stepG P false g w=.go g' (w.setCell (stA Wg) (.int .u64 0)) #[wr (stA Wg)]/\∃m,GW P ty Wg false (AtD4 P ty Wg) m g' (w.setCell (stA Wg) (.int .u64 0)))
def D2 (g:Goroutine)(w:World):Prop :=
 g.status=.running/\(WgAt ty Wg w 1 0->∃g',stepG P false g w=.go g' w #[rd (stA Wg)]/\∃m,GW P ty Wg false (D3 P ty Wg) m g' w)
def D1 (g:Goroutine)(w:World):Prop :=
 g.status=.running/\∀v wt:Nat,wt<=1->v<2147483647->WgAt ty Wg w ((v+1)*KK+wt) 0 ->
  ∃g',stepG P false g w=.go g' (w.setCell (stA Wg) (.int .u64 (v*KK+wt))) #[rd (stA Wg),wr (stA Wg)] /\
   ((v=0/\wt=1)->∃m,GW P ty Wg false (D2 P ty Wg) m g' (w.setCell (stA Wg) (.int .u64 (v*KK+wt))))/\(¬(v=0/\wt=1)->∃q,QuitsD P q 1 g')
def K1 (g:Goroutine)(w:World):Prop :=
 g.status=.running/\∃g',stepG P false g w=.go g' w #[mk .disable]/\∃m,GW P ty Wg false (D1 P ty Wg) m g' w
def R0 (g:Goroutine)(w:World):Prop :=
 g.status=.running/\∃g',stepG P false g w=.go g' w #[mk (.releaseMerge (stA Wg))]/\∃m,GW P ty Wg false (K1 P ty Wg) m g' w
def AKe (Next:Goroutine->World->Prop)(g:Goroutine)(w:World):Prop:=g.status=.running/\∃g',stepG P true g w=.go g' w #[mk .enable]/\∃m,GW P ty Wg true Next m g' w
def ARr (Next:Goroutine->World->Prop)(g:Goroutine)(w:World):Prop:=g.status=.running/\∃g',stepG P true g w=.go g' w #[mk (.read (smA Wg))]/\∃m,GW P ty Wg true (AKe P ty Wg Next) m g' w
def AA1 (Next:Goroutine->World->Prop)(g:Goroutine)(w:World):Prop :=
 g.status=.running/\∀v:Nat,v<2147483647->WgAt ty Wg w (v*KK) 0->∃g',stepG P true g w=.go g' (w.setCell (stA Wg) (.int .u64 ((v+1)*KK))) #[rd (stA Wg),wr (stA Wg)] /\
  (v=0->∃m,GW P ty Wg true (ARr P ty Wg Next) m g' (w.setCell (stA Wg) (.int .u64 ((v+1)*KK))))/\(v≠0->∃m,GW P ty Wg true (AKe P ty Wg Next) m g' (w.setCell (stA Wg) (.int .u64 ((v+1)*KK))))
def AKd (Next:Goroutine->World->Prop)(g:Goroutine)(w:World):Prop:=g.status=.running/\∃g',stepG P true g w=.go g' w #[mk .disable]/\∃m,GW P ty Wg true (AA1 P ty Wg Next) m g' w
def YU (Next:Goroutine->World->Prop)(g:Goroutine)(w:World):Prop:=g.status=.running/\∃g',stepG P true g w=.go g' w #[mk (.acquire (stA Wg))]/\∃m,GW P ty Wg true Next m g' w
def WKe (Next:Goroutine->World->Prop)(g:Goroutine)(w:World):Prop:=g.status=.running/\∃g',stepG P true g w=.go g' w #[mk .enable]/\∃m,GW P ty Wg true (YU P ty Wg Next) m g' w
def W4 (Next:Goroutine->World->Prop)(g:Goroutine)(w:World):Prop:=g.status=.running/\(WgAt ty Wg w 0 0->∃g',stepG P true g w=.go g' w #[rd (stA Wg)]/\∃m,GW P ty Wg true (WKe P ty Wg Next) m g' w)
def W3 (Next:Goroutine->World->Prop)(g:Goroutine)(w:World):Prop :=
 g.status=.running/\g.offers=none/\((∃st,WgAt ty Wg w st 0)->stepG P true g w=.go { g with status:=.blocked } w #[]) /\
  (WgAt ty Wg w 0 1->∃g',stepG P true g w=.go g' (w.setCell (smA Wg) (.int .u32 0)) (semEvents (smA Wg))/\∃m,GW P ty Wg true (W4 P ty Wg Next) m g' (w.setCell (smA Wg) (.int .u32 0)))
def WRw (Next:Goroutine->World->Prop)(g:Goroutine)(w:World):Prop:=g.status=.running/\∃g',stepG P true g w=.go g' w #[mk (.write (smA Wg))]/\∃m,GW P ty Wg true (W3 P ty Wg Next) m g' w
def W2 (D5 Next:Goroutine->World->Prop)(vs:Nat)(g:Goroutine)(w:World):Prop :=
 g.status=.running/\∀v:Nat,v<2147483648->WgAt ty Wg w (v*KK) 0 ->
  (v=vs->∃g',stepG P true g w=.go g' (w.setCell (stA Wg) (.int .u64 (v*KK+1))) #[rd (stA Wg),wr (stA Wg)]/\∃m,GW P ty Wg true (WRw P ty Wg Next) m g' (w.setCell (stA Wg) (.int .u64 (v*KK+1)))) /\
  (v≠vs->∃g',stepG P true g w=.go g' w #[rd (stA Wg)]/\∃m,GW P ty Wg true D5 m g' w)
def W1 (D5 Next:Goroutine->World->Prop)(g:Goroutine)(w:World):Prop :=
 g.status=.running/\∀v:Nat,v<2147483648->WgAt ty Wg w (v*KK) 0->∃g',stepG P true g w=.go g' w #[rd (stA Wg)] /\
  (v=0->∃m,GW P ty Wg true (WKe P ty Wg Next) m g' w)/\(v≠0->∃m,GW P ty Wg true (W2 P ty Wg D5 Next v) m g' w)
def WKd (D5:Goroutine->World->Prop)(g:Goroutine)(w:World):Prop:=g.status=.running/\∃g',stepG P true g w=.go g' w #[mk .disable]/\∃m,GW P ty Wg true D5 m g' w
end
end Go.Co
