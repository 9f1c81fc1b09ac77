/- Parts of the proof. -/
import Derived.Test.YtjcgijifamcggaaGreatP07
import Derived.Test.YtjcgijifamcggaaGreatP00
import Derived.Test.YtjcgijifamcggaaGreatP02
import Derived.Test.YtjcgijifamcggaaGreatChecked
import Derived.WalkKit
import Derived.Laws.LoneSync
import Derived.Conc.WgGenW
import Derived.Conc.WgGenN3
set_option linter.all false
set_option maxHeartbeats 4000000
set_option maxRecDepth 1000000
namespace Go.Proofs.YtjcgijifamcggaaGreat
open Go.RowKit Go.Bl Go.Co Go.Conc
section
variable {p:Program} {BB:FuncId->Bool} {Q:Goroutine->World->Prop} {b:Frame} {a:Act} {todo:List Item} {cs:List Frame} {w:World} {dn:Nat}
def aw (hQ:∀g w W,Bh w W->Q g w->Q g W)(hf:BB b.fn=true)(hg:bC p todo=true)(h:∀τ d,(stepG p true (G (b.at a todo) cs) (on w τ d)).goes (λg' w' _=>g'.callers≠[]/\∃W,Bh W w'/\BN p BB Q dn g' W)) :
  BN p BB Q dn (G (b.at a todo) cs) w:=by
 refine BN.step ⟨hf,iM hg⟩ λτ d=>?_;have:=h τ d;cases hs:stepG p true (G (b.at a todo) cs) (on w τ d) with
 |go g' w' es =>
  rw[hs] at this;obtain⟨h1,W,h2,h3⟩:=this;exact⟨g',w',es,rfl,h1,h3.same hQ h2⟩
 |_=>rw[hs] at this;exact this.elim
def du (hQ:∀g w W,Bh w W->Q g w->Q g W)(hf:BB b.fn=true)(hg:bC p todo=true)(h:∀τ d,(stepG p true (G { b.at a todo with mode:=.returning } cs) (on w τ d)).goes (λg' w' _=>g'.callers≠[]/\∃W,Bh W w'/\BN p BB Q dn g' W)) :
  BN p BB Q dn (G { b.at a todo with mode:=.returning } cs) w:=by
 refine BN.step ⟨hf,λo ho=>iM (b:=b) (a:=a) hg o ho⟩ λτ d=>?_;have:=h τ d;cases hs:stepG p true (G { b.at a todo with mode:=.returning } cs) (on w τ d) with
 |go g' w' es =>
  rw[hs] at this;obtain⟨h1,W,h2,h3⟩:=this;exact⟨g',w',es,rfl,h1,h3.same hQ h2⟩
 |_=>rw[hs] at this;exact this.elim
def fv {g':Goroutine}(hQ:∀g w W,Bh w W->Q g w->Q g W)(hf:BB b.fn=true)(hcs:g'.callers≠[])(hg:bC p todo=true)(hs:∀w,stepG p true (G (b.at a todo) cs) w=.go g' w)(h:BN p BB Q dn g' w):BN p BB Q dn (G (b.at a todo) cs) w :=
 aw hQ hf hg λτ d=>by rw[hs];simp only[goes_go];exact⟨hcs,w,zU,h⟩
def am {k:List Item}{x y:Code}(hQ:∀g w W,Bh w W->Q g w->Q g W)(hf:BB b.fn=true)(hcs:cs≠[])(h:BN p BB Q dn (G (b.at a (.code x::.code y::k)) cs) w)(hg:bC p (.code (.seq x y)::k)=true:=by kernel_rfl):BN p BB Q dn (G (b.at a (.code (.seq x y)::k)) cs) w :=
 fv hQ hf hcs hg (λ_=>stepG_seq) h
def ax {k:List Item}{ops:Array Oper}(hQ:∀g w W,Bh w W->Q g w->Q g W)(hf:BB b.fn=true)(hcs:cs≠[])(h:BN p BB Q dn (G (b.at a k) cs) w)(hg:bC p (.inRegion ops []::k)=true:=by kernel_rfl):BN p BB Q dn (G (b.at a (.inRegion ops []::k)) cs) w :=
 fv hQ hf hcs hg (λ_=>stepG_region_end) h
def fJ {k:List Item}(hQ:∀g w W,Bh w W->Q g w->Q g W)(hf:BB b.fn=true)(hcs:cs≠[])(h:BN p BB Q dn (G (b.at a k) cs) w)(hg:bC p (.code .skip::k)=true:=by kernel_rfl):BN p BB Q dn (G (b.at a (.code .skip::k)) cs) w :=
 fv hQ hf hcs hg (λ_=>stepG_skip) h
def ay {k:List Item}{i:Nat}{ops:Array Oper}(hQ:∀g w W,Bh w W->Q g w->Q g W)(hf:BB b.fn=true)(hcs:cs≠[])(h:BN p BB Q dn (G (b.at a (.inRegion ops (List.range ops.size)::k)) cs) w)(hg:bC p (.code (.region i ops false)::k)=true:=by kernel_rfl):BN p BB Q dn (G (b.at a (.code (.region i ops false)::k)) cs) w :=
 fv hQ hf hcs hg (λ_=>stepG_region) h
def lA {k:List Item}{c:Operand}{x y:Code}(hQ:∀g w W,Bh w W->Q g w->Q g W)(hf:BB b.fn=true)(hcs:cs≠[])(h:BN p BB Q dn (G (b.at a (.code x::k)) cs) w)(hc:a.eval c=.bool true:=by rfl)(hg:bC p (.code (.cond c x y)::k)=true:=by kernel_rfl):BN p BB Q dn (G (b.at a (.code (.cond c x y)::k)) cs) w :=
 fv hQ hf hcs hg (λ_=>stepG_cond hc) h
def jf {k:List Item}{c:Operand}{x y:Code}(hQ:∀g w W,Bh w W->Q g w->Q g W)(hf:BB b.fn=true)(hcs:cs≠[])(h:BN p BB Q dn (G (b.at a (.code y::k)) cs) w)(hc:a.eval c=.bool false:=by rfl)(hg:bC p (.code (.cond c x y)::k)=true:=by kernel_rfl):BN p BB Q dn (G (b.at a (.code (.cond c x y)::k)) cs) w :=
 fv hQ hf hcs hg (λ_=>stepG_cond hc) h
def af {k:List Item}{ops:Array Oper}{i:Nat}{rest:List Nat}{o:Oper}(hQ:∀g w W,Bh w W->Q g w->Q g W)(hf:BB b.fn=true)(hcs:cs≠[])(ho:ops[i]?=some o)(hw:Region.wanted o (yielded ops a.tmps)=true)
  (h:∀ {τ:Tape} {d:Nat} (K:Act->World->Prop),(∀a' W,BN p BB Q dn (G (b.at a' (.inRegion ops rest::k)) cs) W->∀w',Bh W w'->K a' w')->(∀x,(on w τ d).cell? x=w.cell? x)->(on w τ d).heap.size=w.heap.size->(∀x,(on w τ d).frozen? x=w.frozen? x)->uponK o a K ((execOp a.eval o).run p (on w τ d)))
  (hk:b.kind≠.early:=by first|assumption|decide) (hg:bC p (.inRegion ops (i::rest)::k)=true:=by kernel_rfl):BN p BB Q dn (G (b.at a (.inRegion ops (i::rest)::k)) cs) w :=
 aw hQ hf hg λτ d=>goes_oper_k ho hw hk λK hK=>h K (λ_ W hT w' hs=>hK _ w' ⟨hcs,W,hs,hT⟩) (λ_=>rfl) rfl λ_=>rfl
def m9 {f:FuncId}{fn:Func}{c:Code}(args:Array Value)(k:CallKind)(hf:p.funcs[f]?=some fn)(hb:fn.body=some c) :
  Frame.enter p f args k=({ base f with kind:=k }:Frame).at { tmps:=args++Array.replicate (fn.ntmps-args.size) undef,defers:=[] } [.code c]:=by
 simp[Frame.enter,Frame.at,hf,hb,base]
def cm (hQ:∀g w W,Bh w W->Q g w->Q g W){ops:Array Oper}{i:Nat}{rest:List Nat}{k:List Item}{o:Oper}{es:Array Event}{v:Value}(hf:BB b.fn=true)(hcs:cs≠[])(ho:ops[i]?=some o)(hw:Region.wanted o (yielded ops a.tmps)=true)(hk:b.kind≠.early)(hs:Cz p a w o es v)
  {d':Nat} (hd:deafBehind dn es=d') (h:BN p BB Q d' (G (b.at (a.put o.dst v) (.inRegion ops rest::k)) cs) w):BN p BB Q dn (G (b.at a (.inRegion ops (i::rest)::k)) cs) w :=
 .spec hf hcs ho hw hk hs λτ n=>hd▸h.same hQ zU
def Be (c:Frame)(cs:List Frame):(c::cs)≠[]:=by simp
def aa (W:World)(τ:Tape)(d:Nat):(on W τ d).heap.size=W.heap.size:=rfl
def six {args:Array Value}{n:Nat}{q:Addr}(h:args[0]?=some (.pointer (some q)))(hn:n=6):∃t1 t2 t3 t4 t5 tl,args++Array.replicate (n-args.size) undef=(.pointer (some q)::t1::t2::t3::t4::t5::tl:List Value).toArray:=by
 obtain⟨l⟩:=args;subst hn
 match l,h with
 |t0::l,h =>
  have h0:t0=.pointer (some q):=by simpa using h
  subst h0
  match l with
  |[]=>exact⟨_,_,_,_,_,[],by simp[List.replicate,Array.replicate];exact⟨rfl,rfl,rfl,rfl,rfl⟩⟩
  |[t1]=>exact⟨t1,_,_,_,_,[],by simp[Array.replicate];exact⟨rfl,rfl,rfl,rfl⟩⟩
  |[t1,t2]=>exact⟨t1,t2,_,_,_,[],by simp[Array.replicate];exact⟨rfl,rfl,rfl⟩⟩
  |[t1,t2,t3]=>exact⟨t1,t2,t3,_,_,[],by simp[Array.replicate];exact⟨rfl,rfl⟩⟩
  |[t1,t2,t3,t4]=>exact⟨t1,t2,t3,t4,_,[],by simp[Array.replicate];rfl⟩
  |t1::t2::t3::t4::t5::tl=>exact⟨t1,t2,t3,t4,t5,tl,by simp[Array.replicate]⟩
end
def kr {BB:FuncId->Bool}(My:BB 98=true)(Dz:BB 134=true):Held Tryz.prog BB 98 0 1:=by
 intro args q k cs w hk hcs hq hc hz;obtain⟨bq,oq,sq⟩:=q;have hsq:sq=none:=by
  cases sq with
  |none=>rfl
  |some s=>simp[World.cell?] at hc;split at hc<;>simp_all
 subst hsq;generalize VL:(λ(g:Goroutine) (W:World)=>Bh (w.setCell ⟨bq,oq,none⟩ (.int .i32 1)) W/\∃fr,g=Go.Bl.BU fr cs/\fr.fn=98/\fr.kind=k/\fr.mode=.returning/\fr.defers=[]/\fr.oper?=none)=Q;have hQ:∀g w W,Bh w W->Q g w->Q g W:=by
  subst VL;rintro g w1 w2 s ⟨h1,h2⟩;exact⟨h1.trans s,h2⟩
 have FK:∀(a:Act) W,a.defers=[]->Bh (w.setCell ⟨bq,oq,none⟩ (.int .i32 1)) W->Q (G { (({ base 98 with kind:=k }:Frame).at a []) with mode:=.returning } cs) W:=by
  subst VL;exact λa W h s=>⟨s,_,rfl,rfl,rfl,rfl,h,rfl⟩
 clear VL;obtain⟨t1,t2,t3,t4,t5,tl,ht⟩:=six (n:=Tryz.f98.ntmps) hq Tryz.ntmps98;rw[m9 args k Tryz.func98 rfl,ht];clear ht hq;have hkk:∀a:Act,∀t,(({ base 98 with kind:=k }:Frame).at a t).kind≠.early:=λ_ _=>hk;change BN Tryz.prog BB Q 0 (G _ cs) w;refine ay hQ My hcs ?_;simp only[xF,xH,xK,Nat.reduceAdd,xM,List.range,List.range.loop];refine af hQ My hcs rfl rfl λK hK q1 q2 q3=>?_;go_simp;refine hK _ w ?_ _ ⟨rfl,rfl,rfl⟩
 clear hK K q1 q2 q3
 try walk_nrm
 try simp only[aa]
 refine af hQ My hcs rfl rfl λK hK q1 q2 q3=>?_;go_simp;refine hK _ w ?_ _ ⟨rfl,rfl,rfl⟩;clear hK K q1 q2 q3
 try walk_nrm
 try simp only[aa]
 refine af hQ My hcs rfl rfl λK hK q1 q2 q3=>?_;go_simp;refine hK _ w ?_ _ ⟨rfl,rfl,rfl⟩;clear hK K q1 q2 q3
 try walk_nrm
 try simp only[aa]
 refine aw hQ My (by kernel_rfl) λτ d=>?_;refine aB rfl rfl hk rfl Tryz.func134 (by kernel_rfl) (by kernel_rfl) ⟨Be _ _,w,zU,?_⟩
 try walk_nrm
 rw[enter_at _ Tryz.func134 rfl];simp only[Tryz.ntmps134,xF,xH,xK,Nat.reduceAdd,Nat.reduceSub,yj,yk,yx,ym,yI,yF];refine am hQ Dz (Be _ _) ?_;refine ay hQ Dz (Be _ _) ?_;simp only[xF,xH,xK,Nat.reduceAdd,xM,List.range,List.range.loop];refine cm hQ Dz (Be _ _) rfl rfl (by decide) (Cz.E4 .disable (by simp) rfl Tryz.func117 (by kernel_rfl) (by kernel_rfl) (by kernel_rfl) (by kernel_rfl)) (d':=1) rfl ?_
 try walk_nrm
 refine ax hQ Dz (Be _ _) ?_;refine am hQ Dz (Be _ _) ?_;refine am hQ Dz (Be _ _) ?_;refine ay hQ Dz (Be _ _) ?_;simp only[xF,xH,xK,Nat.reduceAdd,xM,List.range,List.range.loop];refine af hQ Dz (Be _ _) rfl rfl λK hK q1 q2 q3=>?_;go_simp;refine hK _ w ?_ _ ⟨rfl,rfl,rfl⟩;clear hK K q1 q2 q3
 try walk_nrm
 try simp only[aa]
 refine af hQ Dz (Be _ _) rfl rfl λK hK q1 q2 q3=>?_;go_simp;refine hK _ w ?_ _ ⟨rfl,rfl,rfl⟩;clear hK K q1 q2 q3
 try walk_nrm
 try simp only[aa]
 refine af hQ Dz (Be _ _) rfl rfl λK hK q1 q2 q3=>?_;go_simp;refine hK _ w ?_ _ ⟨rfl,rfl,rfl⟩;clear hK K q1 q2 q3
 try walk_nrm
 try simp only[aa]
 refine af hQ Dz (Be _ _) rfl rfl @λτ d K hK q1 q2 q3=>?_;have Zb:=run_call_cas_hit (P:=Tryz.prog) Tryz.func149 (by kernel_rfl) (by kernel_rfl) (by kernel_rfl) .i32 (by kernel_rfl) (x:=0) (y:=1) (w:=on w τ d) hc hz;go_simp;refine hK _ (w.setCell _ _) ?_ _ ⟨rfl,rfl,rfl⟩;clear hK K q1 q2 q3
 try walk_nrm
 try simp only[aa]
 have hc2:∃u,(w.setCell ⟨bq,oq,none⟩ (.int .i32 1)).cell? ⟨bq,oq,none⟩=some u:=⟨_,World.cell?_setCell_same _ _ _ hc⟩;refine ax hQ Dz (Be _ _) ?_;refine lA hQ Dz (Be _ _) ?_;refine am hQ Dz (Be _ _) ?_;refine lA hQ Dz (Be _ _) ?_;refine am hQ Dz (Be _ _) ?_;refine ay hQ Dz (Be _ _) ?_;simp only[xF,xH,xK,Nat.reduceAdd,xM,List.range,List.range.loop];refine cm hQ Dz (Be _ _) rfl rfl (by decide) (Cz.E4 .enable (by simp) rfl Tryz.func118 (by kernel_rfl) (by kernel_rfl) (by kernel_rfl) (by kernel_rfl)) (d':=0) rfl ?_
 try walk_nrm
 refine ax hQ Dz (Be _ _) ?_;refine ay hQ Dz (Be _ _) ?_;simp only[xF,xH,xK,Nat.reduceAdd,xM,List.range,List.range.loop];refine af hQ Dz (Be _ _) rfl rfl λK hK q1 q2 q3=>?_;go_simp;refine hK _ _ ?_ _ ⟨rfl,rfl,rfl⟩;clear hK K q1 q2 q3
 try walk_nrm
 try simp only[aa]
 refine cm hQ Dz (Be _ _) rfl rfl (by decide) (Cz.conv (t:=128) rfl (by kernel_rfl) (by kernel_rfl) (by kernel_rfl) rfl hc2) (d':=0) rfl ?_
 try walk_nrm
 refine cm hQ Dz (Be _ _) rfl rfl (by decide) (Cz.Ex .acquire (by simp) rfl Tryz.func129 (by kernel_rfl) (by kernel_rfl) (by kernel_rfl) (by kernel_rfl) (by simp[Act.eval]) hc2) (d':=0) rfl ?_
 try walk_nrm
 refine ax hQ Dz (Be _ _) ?_;refine aw hQ Dz (by kernel_rfl) λτ d=>?_;rw[stepG_ret'];simp only[goes_go];refine⟨(Be _ _),_,zU,?_⟩;refine du hQ Dz (by kernel_rfl) λτ d=>?_;refine goes_leave0 rfl rfl Tryz.func134 rfl ⟨hcs,_,zU,?_⟩;refine ax hQ My hcs ?_;refine aw hQ My (by kernel_rfl) λτ d=>?_;rw[stepG_end];simp only[goes_go];refine⟨hcs,_,zU,.fin (FK _ _ rfl ⟨rfl,rfl,rfl⟩)⟩
def iC {BB:FuncId->Bool}(My:BB 99=true)(Dz:BB 135=true):Held Tryz.prog BB 99 1 0:=by
 intro args q k cs w hk hcs hq hc hz;obtain⟨bq,oq,sq⟩:=q;have hsq:sq=none:=by
  cases sq with
  |none=>rfl
  |some s=>simp[World.cell?] at hc;split at hc<;>simp_all
 subst hsq;generalize VL:(λ(g:Goroutine) (W:World)=>Bh (w.setCell ⟨bq,oq,none⟩ (.int .i32 0)) W/\∃fr,g=Go.Bl.BU fr cs/\fr.fn=99/\fr.kind=k/\fr.mode=.returning/\fr.defers=[]/\fr.oper?=none)=Q;have hQ:∀g w W,Bh w W->Q g w->Q g W:=by
  subst VL;rintro g w1 w2 s ⟨h1,h2⟩;exact⟨h1.trans s,h2⟩
 have FK:∀(a:Act) W,a.defers=[]->Bh (w.setCell ⟨bq,oq,none⟩ (.int .i32 0)) W->Q (G { (({ base 99 with kind:=k }:Frame).at a []) with mode:=.returning } cs) W:=by
  subst VL;exact λa W h s=>⟨s,_,rfl,rfl,rfl,rfl,h,rfl⟩
 clear VL;obtain⟨t1,t2,t3,t4,t5,tl,ht⟩:=six (n:=Tryz.f99.ntmps) hq Tryz.ntmps99;rw[m9 args k Tryz.func99 rfl,ht];clear ht hq;have hkk:∀a:Act,∀t,(({ base 99 with kind:=k }:Frame).at a t).kind≠.early:=λ_ _=>hk;change BN Tryz.prog BB Q 0 (G _ cs) w;refine ay hQ My hcs ?_;simp only[xF,xH,xK,Nat.reduceAdd,xM,List.range,List.range.loop];refine af hQ My hcs rfl rfl λK hK q1 q2 q3=>?_;go_simp;refine hK _ w ?_ _ ⟨rfl,rfl,rfl⟩
 clear hK K q1 q2 q3
 try walk_nrm
 try simp only[aa]
 refine af hQ My hcs rfl rfl λK hK q1 q2 q3=>?_;go_simp;refine hK _ w ?_ _ ⟨rfl,rfl,rfl⟩;clear hK K q1 q2 q3
 try walk_nrm
 try simp only[aa]
 refine af hQ My hcs rfl rfl λK hK q1 q2 q3=>?_;go_simp;refine hK _ w ?_ _ ⟨rfl,rfl,rfl⟩;clear hK K q1 q2 q3
 try walk_nrm
 try simp only[aa]
 refine aw hQ My (by kernel_rfl) λτ d=>?_;refine aB rfl rfl hk rfl Tryz.func135 (by kernel_rfl) (by kernel_rfl) ⟨Be _ _,w,zU,?_⟩
 try walk_nrm
 rw[enter_at _ Tryz.func135 rfl];simp only[Tryz.ntmps135,xF,xH,xK,Nat.reduceAdd,Nat.reduceSub,yj,yk,yx,ym,yI,yF];refine am hQ Dz (Be _ _) ?_;refine lA hQ Dz (Be _ _) ?_;refine am hQ Dz (Be _ _) ?_;refine ay hQ Dz (Be _ _) ?_;simp only[xF,xH,xK,Nat.reduceAdd,xM,List.range,List.range.loop];refine af hQ Dz (Be _ _) rfl rfl λK hK q1 q2 q3=>?_;go_simp;refine hK _ w ?_ _ ⟨rfl,rfl,rfl⟩;clear hK K q1 q2 q3
 try walk_nrm
 try simp only[aa]
 refine af hQ Dz (Be _ _) rfl rfl λK hK q1 q2 q3=>?_;go_simp;refine hK _ w ?_ _ ⟨rfl,rfl,rfl⟩;clear hK K q1 q2 q3
 try walk_nrm
 try simp only[aa]
 refine af hQ Dz (Be _ _) rfl rfl λK hK q1 q2 q3=>?_;go_simp;refine hK _ w ?_ _ ⟨rfl,rfl,rfl⟩;clear hK K q1 q2 q3
 try walk_nrm
 try simp only[aa]
 refine af hQ Dz (Be _ _) rfl rfl λK hK q1 q2 q3=>?_;go_simp;refine hK _ w ?_ _ ⟨rfl,rfl,rfl⟩;clear hK K q1 q2 q3
 try walk_nrm
 try simp only[aa]
 refine ax hQ Dz (Be _ _) ?_;refine am hQ Dz (Be _ _) ?_;refine ay hQ Dz (Be _ _) ?_;simp only[xF,xH,xK,Nat.reduceAdd,xM,List.range,List.range.loop];refine af hQ Dz (Be _ _) rfl rfl λK hK q1 q2 q3=>?_;go_simp;refine hK _ w ?_ _ ⟨rfl,rfl,rfl⟩;clear hK K q1 q2 q3
 try walk_nrm
 try simp only[aa]
 refine cm hQ Dz (Be _ _) rfl rfl (by decide) (Cz.conv (t:=128) rfl (by kernel_rfl) (by kernel_rfl) (by kernel_rfl) rfl ⟨_,hc⟩) (d':=0) rfl ?_
 try walk_nrm
 refine cm hQ Dz (Be _ _) rfl rfl (by decide) (Cz.Ex .releaseMerge (by simp) rfl Tryz.func116 (by kernel_rfl) (by kernel_rfl) (by kernel_rfl) (by kernel_rfl) (by simp[Act.eval]) ⟨_,hc⟩) (d':=0) rfl ?_
 try walk_nrm
 refine ax hQ Dz (Be _ _) ?_;refine ay hQ Dz (Be _ _) ?_;simp only[xF,xH,xK,Nat.reduceAdd,xM,List.range,List.range.loop];refine cm hQ Dz (Be _ _) rfl rfl (by decide) (Cz.E4 .disable (by simp) rfl Tryz.func117 (by kernel_rfl) (by kernel_rfl) (by kernel_rfl) (by kernel_rfl)) (d':=1) rfl ?_
 try walk_nrm
 refine ax hQ Dz (Be _ _) ?_;refine am hQ Dz (Be _ _) ?_;refine ay hQ Dz (Be _ _) ?_;simp only[xF,xH,xK,Nat.reduceAdd,xM,List.range,List.range.loop];refine af hQ Dz (Be _ _) rfl rfl λK hK q1 q2 q3=>?_;go_simp;refine hK _ w ?_ _ ⟨rfl,rfl,rfl⟩;clear hK K q1 q2 q3
 try walk_nrm
 try simp only[aa]
 refine af hQ Dz (Be _ _) rfl rfl λK hK q1 q2 q3=>?_;go_simp;refine hK _ w ?_ _ ⟨rfl,rfl,rfl⟩;clear hK K q1 q2 q3
 try walk_nrm
 try simp only[aa]
 refine af hQ Dz (Be _ _) rfl rfl λK hK q1 q2 q3=>?_;go_simp;refine hK _ w ?_ _ ⟨rfl,rfl,rfl⟩;clear hK K q1 q2 q3
 try walk_nrm
 try simp only[aa]
 refine af hQ Dz (Be _ _) rfl rfl @λτ d K hK q1 q2 q3=>?_;have ad1:=run_call_add (P:=Tryz.prog) Tryz.func151 (by kernel_rfl) (by kernel_rfl) (by kernel_rfl) .i32 (by kernel_rfl) (x:=1) (y:=-1) (s:=0) (w:=on w τ d) hc hz (by rfl);go_simp;refine hK _ (w.setCell _ _) ?_ _ ⟨rfl,rfl,rfl⟩;clear hK K q1 q2 q3
 try walk_nrm
 try simp only[aa]
 refine af hQ Dz (Be _ _) rfl rfl λK hK q1 q2 q3=>?_;go_simp;refine hK _ _ ?_ _ ⟨rfl,rfl,rfl⟩;clear hK K q1 q2 q3
 try walk_nrm
 try simp only[aa]
 refine ax hQ Dz (Be _ _) ?_;refine am hQ Dz (Be _ _) ?_;refine am hQ Dz (Be _ _) ?_;refine ay hQ Dz (Be _ _) ?_;simp only[xF,xH,xK,Nat.reduceAdd,xM,List.range,List.range.loop];refine af hQ Dz (Be _ _) rfl rfl λK hK q1 q2 q3=>?_;go_simp;refine hK _ _ ?_ _ ⟨rfl,rfl,rfl⟩;clear hK K q1 q2 q3
 try walk_nrm
 try simp only[aa]
 refine af hQ Dz (Be _ _) rfl rfl λK hK q1 q2 q3=>?_;go_simp;refine hK _ _ ?_ _ ⟨rfl,rfl,rfl⟩;clear hK K q1 q2 q3
 try walk_nrm
 try simp only[aa]
 refine ax hQ Dz (Be _ _) ?_;refine jf hQ Dz (Be _ _) ?_;refine fJ hQ Dz (Be _ _) ?_;refine ay hQ Dz (Be _ _) ?_;simp only[xF,xH,xK,Nat.reduceAdd,xM,List.range,List.range.loop];refine cm hQ Dz (Be _ _) rfl rfl (by decide) (Cz.E4 .enable (by simp) rfl Tryz.func118 (by kernel_rfl) (by kernel_rfl) (by kernel_rfl) (by kernel_rfl)) (d':=0) rfl ?_
 try walk_nrm
 refine ax hQ Dz (Be _ _) ?_;refine aw hQ Dz (by kernel_rfl) λτ d=>?_;rw[stepG_end];simp only[goes_go];refine⟨(Be _ _),_,zU,?_⟩;refine du hQ Dz (by kernel_rfl) λτ d=>?_;refine goes_leave0 rfl rfl Tryz.func135 rfl ⟨hcs,_,zU,?_⟩;refine ax hQ My hcs ?_;refine aw hQ My (by kernel_rfl) λτ d=>?_;rw[stepG_end];simp only[goes_go];refine⟨hcs,_,zU,.fin (FK _ _ rfl ⟨rfl,rfl,rfl⟩)⟩
def X5:List FuncId:=[30,32,13,8,33,36,73,31,34,35,40,58,59,60,61,62,63,64,65,66,67,68,26,17,18,19,20,21,22,23,24,25,69,70,71,49,53,41,42,72,93,96,97,50,98,99,43,44,45,46,47,48,51,52,54,86,88,89,90,91,100,101,87,74,75,76,77,78,79,80,81,82,83,84,85,107,136,137,138,139,149,102,103,104,105,106,108,109,110,111,112,113,114,115,153,140,141,142,143,154]
def Ig (f:FuncId):Bool:=X5.contains f
def put (f:FuncId):Bool:=f==58||f==93||f==98||f==99
def X6 (f:FuncId):Bool:=Ig f&&!put f
def Tryz.Kn:Tryz.prog.info? big=none:=by kernel_rfl
def Sq.Kn:AG.info? big=none:=by kernel_rfl
noncomputable def PW:Bw:=⟨AG,Tryz.prog.funcs⟩
def lB {p:Nat->Bool}(h:X5.all p=true):∀f,Ig f=true->p f=true:=λf hf=>(yu.1 h) f (by simpa [Ig] using hf)
def NR (f:FuncId):Bool:=f==96||f==97||f==149
def jN {f:FuncId}(h:(f==11||GH f||f==98||f==99)=false):Tryz.prog.funcs[f]?=AG.funcs[f]?:=by
 rw[Sq.get];cases Tryz.prog.funcs[f]? with
 |none=>rfl
 |some fn =>
  simp only[ze] at h;simp only[yC,O1,h.1.1.1,h.1.1.2,h.1.2,h.2,Bool.or_self,xP,if_false]
def rU:X5.all (λf=>Hh AG Ig false f||NR f)=true:=by kernel_rfl
def Px (f:FuncId)(h:Ig f=true):Hh AG Ig false f=true\/NR f=true:=by
 have:=lB rU f h;simpa using this
def kW {fs:Array Func}{f:FuncId}(h:NR f=true)(hfs:fs[96]?=some Tryz.f96/\fs[97]?=some Tryz.f97/\fs[149]?=some Tryz.f149):La ⟨AG,fs⟩ f:=by
 unfold NR at h;simp only[xV,beq_iff_eq] at h;rcases h with(rfl|rfl)|rfl
 .exact⟨Tryz.f96,_,Sq.fn Tryz.func96 rfl,hfs.1,by kernel_rfl,by kernel_rfl,by kernel_rfl,by kernel_rfl,.add .i64,by kernel_rfl⟩
 .exact⟨Tryz.f97,_,Sq.fn Tryz.func97 rfl,hfs.2.1,by kernel_rfl,by kernel_rfl,by kernel_rfl,by kernel_rfl,.load .i64,by kernel_rfl⟩
 .exact⟨Tryz.f149,_,Sq.fn Tryz.func149 rfl,hfs.2.2,by kernel_rfl,by kernel_rfl,by kernel_rfl,by kernel_rfl,.cas .i32 (by decide),by kernel_rfl⟩
def tc {fs:Array Func} {Ew:Func} (h:fs[94]?=some Ew) (hn:Ew.name ≠ "runtime.NumGoroutine") (hb:Ew.body.isSome=true) (f:FuncId) (hf:aI Ig f=true):FY ⟨AG,fs⟩ f:=by
 unfold aI at hf;simp only[xG,beq_iff_eq] at hf;obtain⟨rfl,_⟩:=hf;exact⟨_,Ew,_,Sq.put Tryz.func94 rfl,h,by show Tryz.f94.name≠_;decide,hn,rfl,hb⟩
def wX (H:Hid):Lib (Bw.of AG) Ig H false Ig 0:=m8 (λf hf=>(Px f hf).imp_right λh=>kW h ⟨Sq.fn Tryz.func96 rfl,Sq.fn Tryz.func97 rfl,Sq.fn Tryz.func149 rfl⟩)
 (tc (Sq.put Tryz.func94 rfl) (by show Tryz.f94.name≠_;decide) rfl) ⟨yP Sq.globals_size,Sq.Kn⟩
def tK:X5.all (λf=>put f||!(f==11||GH f||f==98||f==99))=true:=by kernel_rfl
def wY (H:Hid):Lib PW Ig H false X6 0:=by
 refine im (λf hf=>?_) (λf hf hb=>?_) (λf hf=>?_) (tc Tryz.func94 (by decide) rfl) ⟨yP Sq.globals_size,Sq.Kn⟩
 .simp only[X6,xG,yG] at hf;rcases Px f hf.1 with h|h
  .refine .inl ⟨h,jN ?_⟩;have:=lB tK f hf.1;simpa [hf.2] using this
  .exact .inr (kW h ⟨Tryz.func96,Tryz.func97,Tryz.func149⟩)
 .simp only[X6,hf,zG,zc,put,xV,beq_iff_eq] at hb;rcases hb with((rfl|rfl)|rfl)|rfl
  .exact⟨_,_,Sq.put Tryz.func58 rfl,Tryz.func58,rfl,by show Tryz.f58.name≠_;decide,by decide,rfl,rfl⟩
  .exact⟨_,_,Sq.put Tryz.func93 rfl,Tryz.func93,rfl,by show Tryz.f93.name≠_;decide,by decide,rfl,rfl⟩
  .exact⟨_,_,Sq.f98,Tryz.func98,rfl,by show Tryz.f98.name≠_;decide,by decide,rfl,rfl⟩
  .exact⟨_,_,Sq.f99,Tryz.func99,rfl,by show Tryz.f99.name≠_;decide,by decide,rfl,rfl⟩
 .simp only[X6,xG] at hf;exact hf.1
def Tf (v:Value)(w:World):(∃q,v=.pointer (some q)/\(Instr.fieldAt 130 v 1).run AG w=.ok (.pointer (some q)) w)\/El ((Instr.fieldAt 130 v 1).run AG w):=by
 by_cases h:∃q,v=.pointer (some q)
 .obtain⟨q,rfl⟩:=h;refine .inl ⟨q,rfl,?_⟩;obtain⟨b,o,sp⟩:=q;go_simp
 .refine .inr ?_;have hs:Instr.sureAddr v=stuck "an address expected (no nilCheck in front?)":=by
   cases v with
   |pointer o=>cases o with
    |none=>rfl
    |some q=>exact absurd ⟨q,rfl⟩ h
   |_=>rfl
  unfold Instr.fieldAt;rw[hs];go_simp;simp[El,stuck];exact trivial
def I2 (f:FuncId)(fn:Func)(x y:Int)(hf:AG.funcs[f]?=some fn)(ht:fn.body=some (casBody x y))(hn:3<=fn.ntmps)(hr:fn.results=#[]):∃r o1 o2 s,K8 AG f x y fn r o1 o2 s:=by
 refine⟨_,_,_,_,hf,ht,hn,hr,⟨rfl,rfl,rfl,rfl⟩,λa w=>?_,λa q w h2 h3 h4=>?_⟩
 .have e:∀o:Oper,o.op=.fieldAddr 130 (.tmp 0) 1->execOp a.eval o=(do let v<-Instr.fieldAt 130 (a.eval (.tmp 0)) 1;pure (.value v)):=λo h=>by unfold execOp;rw[h]
  rcases Tf (a.eval (.tmp 0)) w with⟨q,h1,h2⟩|h
  .refine .inl ⟨q,h1,?_⟩;rw[e _ rfl];simp[h2,Result.andThen]
  .refine .inr ?_;rw[e _ rfl];revert h;simp only[Sem.run_bind];generalize (Instr.fieldAt 130 (a.eval (.tmp 0)) 1).run AG w=r;intro h;cases r with
   |ok _ _=>exact h.elim
   |halt _ _=>exact h
 .have e : ∀ o : Oper, o.op = .call { callee := .value (.func 149), args := #[.tmp 2, .const (.int .i32 x), .const (.int .i32 y)], argTypes := #[216, 21, 21] } -> execOp a.eval o = callFunc 149 #[.pointer (some q), .int .i32 x, .int .i32 y] := fun o h => by
   unfold execOp;rw[h];simp[Act.eval,go_sem] at h2 ⊢;rw[h2]
  rw[e _ rfl];rcases Tc (Sq.fn Tryz.func149 rfl) (by kernel_rfl) (by kernel_rfl) (by kernel_rfl) (by kernel_rfl) (x:=x) (y:=y) h3 h4 with⟨z,z1,z2⟩|h
  .refine .inl ⟨z,z1,z2,λhz=>?_,λhz=>?_⟩
   .subst hz;exact run_call_cas_hit (P:=AG) (Sq.fn Tryz.func149 rfl) (by kernel_rfl) (by kernel_rfl) (by kernel_rfl) .i32 (by kernel_rfl) z1 z2
   .exact run_call_cas_miss (P:=AG) (Sq.fn Tryz.func149 rfl) (by kernel_rfl) (by kernel_rfl) (by kernel_rfl) .i32 (by kernel_rfl) z1 z2 hz
  .exact .inr h
structure M8 (BB:FuncId->Bool):Prop where
 sub:∀f,Ig f=true->BB f=true
 VM:BB 134=true
 VN:BB 135=true
def na {BB:FuncId->Bool}(hL:M8 BB){f:FuncId}(h:f=98\/f=99):K9 PW BB f:=by
 rcases h with rfl|rfl
 .obtain⟨r,o1,o2,s,hp⟩:=I2 98 An 0 1 Sq.f98 rfl (by rw[Ao];decide) rfl;exact⟨0,1,_,r,o1,o2,s,Tryz.f98,hp,kr (hL.sub 98 (by decide)) hL.VM,Tryz.func98,rfl⟩
 .obtain⟨r,o1,o2,s,hp⟩:=I2 99 Aj 1 0 Sq.f99 rfl (by rw[Am];decide) rfl;exact⟨1,0,_,r,o1,o2,s,Tryz.f99,hp,iC (hL.sub 99 (by decide)) hL.VN,Tryz.func99,rfl⟩
def vg {BB:FuncId->Bool}{H:Hid}(hL:M8 BB)(hn:H.bl=false:=by rfl):FX PW Ig X6 BB H 0:=by
 refine⟨wX _,wY _,λf hf hb=>?_,hL.sub,hn⟩;rcases hf with hf|hf
 .simp only[X6,hf,zG,zc,put,xV,beq_iff_eq] at hb;rcases hb with((rfl|rfl)|rfl)|rfl
  .exact .inl ⟨_,_,Sq.put Tryz.func58 rfl,rfl⟩
  .exact .inl ⟨_,_,Sq.put Tryz.func93 rfl,rfl⟩
  .exact .inr (na hL (.inl rfl))
  .exact .inr (na hL (.inr rfl))
 .unfold aI at hf;simp only[xG,beq_iff_eq] at hf;obtain⟨rfl,_⟩:=hf;exact .inl ⟨_,_,Sq.put Tryz.func94 rfl,rfl⟩
def az:Code->Code
 |.seq a _=>a
 |c=>c
def ae:Code->Code
 |.seq _ b=>b
 |c=>c
def Gx:Code->Code
 |.block _ b=>b
 |.loop b=>b
 |c=>c
def DN:Code->Array Oper
 |.region _ o _=>o
 |_=>#[]
noncomputable def eB:Code:=Tryz.f58.body.getD .skip
noncomputable def eL:Code:=Gx (Gx (ae (az (ae (ae eB)))))
noncomputable def eI:Code:=Gx (az (ae (ae eL)))
noncomputable def o0:Array Oper:=DN (az eB)
noncomputable def o1:Array Oper:=DN (az (ae eB))
noncomputable def o2:Array Oper:=DN (az (az (ae (ae eB))))
noncomputable def o3:Array Oper:=DN (az (Gx (Gx (ae (az (ae (ae eB)))))))
noncomputable def o4:Array Oper:=DN (az (Gx (az (ae (ae (Gx (Gx (ae (az (ae (ae eB)))))))))))
noncomputable def o5:Array Oper:=DN (az (ae (Gx (az (ae (ae (Gx (Gx (ae (az (ae (ae eB))))))))))))
noncomputable def o6:Array Oper:=DN (az (az (ae (ae (Gx (az (ae (ae (Gx (Gx (ae (az (ae (ae eB))))))))))))))
noncomputable def o7:Array Oper:=DN (az (ae (ae (ae (Gx (az (ae (ae (Gx (Gx (ae (az (ae (ae eB))))))))))))))
noncomputable def o8:Array Oper:=DN (ae (ae (ae (ae (Gx (az (ae (ae (Gx (Gx (ae (az (ae (ae eB))))))))))))))
noncomputable def o9:Array Oper:=DN (ae (ae (ae (Gx (Gx (ae (az (ae (ae eB)))))))))
noncomputable def II:Array Oper:=DN (ae (ae (ae eB)))
def wF:Tryz.f58.body=some (.seq (.region 0 o0 false) (.seq (.region 1 o1 false) (.seq (.seq (.region 2 o2 false) (.block 0 (.loop eL))) (.region 10 II false)))):=rfl
def wG:eL=.seq (.region 3 o3 false) (.seq (.cond (.tmp 14) .skip (.exit 0)) (.seq (.block 1 eI) (.region 9 o9 false))):=rfl
def wH:eI=.seq (.region 4 o4 false) (.seq (.region 5 o5 false) (.seq (.seq (.region 6 o6 false) (.cond (.tmp 22) (.exit 1) .skip)) (.seq (.region 7 o7 false) (.region 8 o8 false)))):=rfl
def lC {m:Bool}{b:Frame}{a:Act}{k:List Item}{cs:List Frame}{w:World}:stepG Tryz.prog m (G (b.at a (.code eL::k)) cs) w=.go (G (b.at a (.code (.region 3 o3 false)::.code (.seq (.cond (.tmp 14) .skip (.exit 0)) (.seq (.block 1 eI) (.region 9 o9 false)))::k)) cs) w #[]:=by
 rw[wG];exact stepG_seq
def rV {m:Bool}{b:Frame}{a:Act}{k:List Item}{cs:List Frame}{w:World}:stepG Tryz.prog m (G (b.at a (.code eI::k)) cs) w=.go (G (b.at a (.code (.region 4 o4 false)::.code (.seq (.region 5 o5 false) (.seq (.seq (.region 6 o6 false) (.cond (.tmp 22) (.exit 1) .skip)) (.seq (.region 7 o7 false) (.region 8 o8 false))))::k)) cs) w #[]:=by
 rw[wH];exact stepG_seq
def tL (w:World)(o:Obj)(a:Addr):(w.alloc o).cell? a=if a.block=w.heap.size then(match o with|.cells c _ _=>if a.spot.isSome then none else c[a.off]?|_=>none) else w.cell? a:=by
 show(match(w.heap.push o)[a.block]? with|some (.cells c _ _)=>if a.spot.isSome then none else c[a.off]?|_=>none)=_;rw[yY];by_cases e:a.block=w.heap.size
 .rw[if_pos e,if_pos e];cases o<;>rfl
 .rw[if_neg e,if_neg e];rfl
def aA (w:World)(o:Obj)(b:Nat):(w.alloc o).heap[b]?=if b=w.heap.size then some o else w.heap[b]?:=yY ..
def rW (c:Frame)(cs:List Frame):(c::cs)≠[]:=by simp
def pT (w:World)(τ:Tape)(d:Nat)(t:TypeId)(z0 z1 z2 z3 z4 y0 y1 y2 y3 y4:Value) :
  Bh (w.alloc (.cells #[y0,y1,y2,y3,y4] t)) ((((((on (w.alloc (.cells #[z0,z1,z2,z3,z4] t)) τ d).setCell ⟨w.heap.size,0,none⟩ y0).setCell ⟨w.heap.size,1,none⟩ y1).setCell ⟨w.heap.size,2,none⟩ y2).setCell ⟨w.heap.size,3,none⟩ y3).setCell ⟨w.heap.size,4,none⟩ y4):=by
 refine⟨?_,rfl,rfl⟩;apply Array.ext_getElem?;intro b;simp only[BG];have e0:(on (w.alloc (.cells #[z0,z1,z2,z3,z4] t)) τ d).heap[b]?=if b=w.heap.size then some (.cells #[z0,z1,z2,z3,z4] t) else w.heap[b]?:=aA w _ b
 rw[e0,aA];by_cases e:b=w.heap.size
 .simp only[if_pos e];rfl
 .simp only[if_neg e]
def aE (w:World)(o:Obj):(w.alloc o).heap.size=w.heap.size+1:=Array.size_push _
def ar (W:World)(τ:Tape)(d:Nat)(a:Addr):(on W τ d).cell? a=W.cell? a:=rfl
def ai (W:World)(τ:Tape)(d:Nat):(on W τ d).heap.size=W.heap.size:=rfl
def ak (W:World)(τ:Tape)(d:Nat)(a:Addr):(on W τ d).frozen? a=W.frozen? a:=rfl
def tM {BB:FuncId->Bool}(hB:BB 58=true){Q:Goroutine->World->Prop}(hQ:∀g w W,Bh w W->Q g w->Q g W){cb:Nat}{f:Fn}{fx fc:Array Value}{cs:List Frame}(hcs:cs≠[]){w:World}
  (h:AZ Tryz.prog (B8 Tryz.prog BB) Q (G ((base 58).at ⟨#[.pointer (some ⟨cb,0,none⟩),.func f fx fc,.pointer (some ⟨w.heap.size,0,none⟩),.pointer (some ⟨w.heap.size+1,0,none⟩),undef,undef,undef,undef,undef,undef,undef,undef,undef,undef,undef,undef,undef,undef,undef,undef,undef,undef,undef,undef,undef,undef,undef],[]⟩ [.inRegion o1 [0],.code (.seq (.seq (.region 2 o2 false) (.block 0 (.loop eL))) (.region 10 II false))]) cs) ((w.alloc (.cells #[.pointer (some ⟨cb,0,none⟩)] 49)).alloc (.cells #[.func f fx fc] 119))) :
  AZ Tryz.prog (B8 Tryz.prog BB) Q (G (Frame.enter Tryz.prog 58 #[.pointer (some ⟨cb,0,none⟩),.func f fx fc] .normal) cs) w:=by
 rw[enter_at _ Tryz.func58 wF];simp only[Tryz.ntmps58,xF,xH,xK,Nat.reduceAdd,Nat.reduceSub,yj,yk,yx,ym,yI,yF];refine AZ.own hQ hB (by kernel_rfl) λτ d=>?_;rw[stepG_seq];simp only[goes_go];refine⟨hcs,w,zU,?_⟩;refine AZ.own hQ hB (by kernel_rfl) λτ d=>?_;rw[stepG_region];simp only[goes_go,o0,eB,Tryz.f58,Option.getD_some,DN,az,ae,Gx,xF,xH,xK,Nat.reduceAdd,xM,List.range,List.range.loop];refine⟨hcs,w,zU,?_⟩
 refine AZ.own hQ hB (by kernel_rfl) λτ d=>?_;refine goes_oper_k rfl rfl (by decide) (λK hK=>?_);have q1:=ar;have q2:=ai;have q3:=ak;go_simp;clear q1 q2 q3;refine hK _ _ ⟨hcs,w.alloc _,⟨rfl,rfl,rfl⟩,?_⟩;clear hK K
 try walk_nrm
 try simp only[ai]
 refine AZ.own hQ hB (by kernel_rfl) λτ d=>?_;refine goes_oper_k rfl rfl (by decide) (λK hK=>?_);have q1:=ar;have q2:=ai;have q3:=ak;go_simp;clear q1 q2 q3;refine hK _ _ ⟨hcs,(w.alloc _).alloc _,⟨rfl,rfl,rfl⟩,?_⟩;clear hK K
 try walk_nrm
 try simp only[ai]
 refine AZ.own hQ hB (by kernel_rfl) λτ d=>?_;rw[stepG_region_end];simp only[goes_go];refine⟨hcs,_,zU,?_⟩;refine AZ.own hQ hB (by kernel_rfl) λτ d=>?_;rw[stepG_seq];simp only[goes_go];refine⟨hcs,_,zU,?_⟩;refine AZ.own hQ hB (by kernel_rfl) λτ d=>?_;rw[stepG_region];have s1:o1.size=1:=rfl;simp only[goes_go,s1,List.range,List.range.loop];refine⟨hcs,_,zU,?_⟩;exact h
def ot {m:Bool}{a:Act}{k:List Item}{cs:List Frame}{W:World} :
  stepG Tryz.prog m (G ((base 58).at a (.inRegion o1 [0]::k)) cs) W=.go (G ((base 58).at (a.put (some 4) (.pointer (some ⟨W.heap.size,0,none⟩))) (.inRegion o1 []::k)) cs) (W.alloc (.cells #[.int .u64 0,.int .u32 0] 159)) #[]:=by
 obtain⟨o,h1,h2,h3,h4⟩:∃o,o1[0]?=some o/\o.op=.alloc 159/\o.dst=some 4/\o.guard=none:=⟨_,rfl,rfl,rfl,rfl⟩;have hr:(execOp a.eval o).run Tryz.prog W=.ok (.value (.pointer (some ⟨W.heap.size,0,none⟩))) (W.alloc (.cells #[.int .u64 0,.int .u32 0] 159)):=by
  unfold execOp;rw[h2];go_simp
 have he:(execOp a.eval o).events Tryz.prog W #[]=#[]:=by
  unfold execOp;rw[h2];simp[go_sem]
 rw[stepG_value h1 (by unfold Region.wanted;rw[h4]) (by decide) hr,h3];have h5:listed Tryz.prog (base 58).fn a o W=#[]:=by unfold listed;rw[he];exact seen_none _ _
 rw[h5]
def tN {BB:FuncId->Bool}(hB:BB 58=true){Q:Goroutine->World->Prop}(hQ:∀g w W,Bh w W->Q g w->Q g W){cb sb n c b2 b3 b4:Nat}{p0 p1:Value}{cs:List Frame}(hcs:cs≠[]){w:World}{v0:Value}
  (g1:w.cell? ⟨b2,0,none⟩=some (.pointer (some ⟨cb,0,none⟩))) (g2:w.cell? ⟨cb,2,none⟩=some (.slice (some ⟨sb,0,none⟩) n c)) (g3:w.cell? ⟨cb,0,none⟩=some v0)
  (h:AZ Tryz.prog (B8 Tryz.prog BB) Q (G ((base 58).at ⟨#[p0,p1,.pointer (some ⟨b2,0,none⟩),.pointer (some ⟨b3,0,none⟩),.pointer (some ⟨b4,0,none⟩),undef,undef,undef,.pointer (some ⟨cb,0,none⟩),.pointer (some ⟨cb,0,none⟩),.pointer (some ⟨cb,2,none⟩),.slice (some ⟨sb,0,none⟩) n c,.int .i64 n,.int .i64 0,undef,undef,undef,undef,undef,undef,undef,undef,undef,undef,undef,undef,undef],[]⟩ [.code eL,.inLoop eL,.inBlock 0,.code (.region 10 II false)]) cs) w) :
  AZ Tryz.prog (B8 Tryz.prog BB) Q (G ((base 58).at ⟨#[p0,p1,.pointer (some ⟨b2,0,none⟩),.pointer (some ⟨b3,0,none⟩),.pointer (some ⟨b4,0,none⟩),undef,undef,undef,undef,undef,undef,undef,undef,undef,undef,undef,undef,undef,undef,undef,undef,undef,undef,undef,undef,undef,undef],[]⟩ [.inRegion o1 [],.code (.seq (.seq (.region 2 o2 false) (.block 0 (.loop eL))) (.region 10 II false))]) cs) w:=by
 refine AZ.own hQ hB (by kernel_rfl) λτ d=>?_;rw[stepG_region_end];simp only[goes_go];refine⟨hcs,w,zU,?_⟩;refine AZ.own hQ hB (by kernel_rfl) λτ d=>?_;rw[stepG_seq];simp only[goes_go];refine⟨hcs,w,zU,?_⟩;refine AZ.own hQ hB (by kernel_rfl) λτ d=>?_;rw[stepG_seq];simp only[goes_go];refine⟨hcs,w,zU,?_⟩;refine AZ.own hQ hB (by kernel_rfl) λτ d=>?_;rw[stepG_region];simp only[goes_go,o2,eB,Tryz.f58,Option.getD_some,DN,az,ae,Gx,xF,xH,xK,Nat.reduceAdd,xM,List.range,List.range.loop]
 refine⟨hcs,w,zU,?_⟩;refine AZ.own hQ hB (by kernel_rfl) λτ d=>?_;refine goes_oper_k rfl rfl (by decide) (λK hK=>?_);have q1:=ar;have q2:=ai;have q3:=ak;go_simp;clear q1 q2 q3;refine hK _ _ ⟨hcs,w,⟨rfl,rfl,rfl⟩,?_⟩;clear hK K
 try walk_nrm
 try simp only[ai]
 refine AZ.own hQ hB (by kernel_rfl) λτ d=>?_;refine goes_oper_k rfl rfl (by decide) (λK hK=>?_);have q1:=ar;have q2:=ai;have q3:=ak;go_simp;clear q1 q2 q3;refine hK _ _ ⟨hcs,w,⟨rfl,rfl,rfl⟩,?_⟩;clear hK K
 try walk_nrm
 try simp only[ai]
 refine AZ.own hQ hB (by kernel_rfl) λτ d=>?_;refine goes_oper_k rfl rfl (by decide) (λK hK=>?_);have q1:=ar;have q2:=ai;have q3:=ak;go_simp;clear q1 q2 q3;refine hK _ _ ⟨hcs,w,⟨rfl,rfl,rfl⟩,?_⟩;clear hK K
 try walk_nrm
 try simp only[ai]
 refine AZ.own hQ hB (by kernel_rfl) λτ d=>?_;refine goes_oper_k rfl rfl (by decide) (λK hK=>?_);have q1:=ar;have q2:=ai;have q3:=ak;go_simp;clear q1 q2 q3;refine hK _ _ ⟨hcs,w,⟨rfl,rfl,rfl⟩,?_⟩;clear hK K
 try walk_nrm
 try simp only[ai]
 refine AZ.own hQ hB (by kernel_rfl) λτ d=>?_;refine goes_oper_k rfl rfl (by decide) (λK hK=>?_);have q1:=ar;have q2:=ai;have q3:=ak;go_simp;clear q1 q2 q3;refine hK _ _ ⟨hcs,w,⟨rfl,rfl,rfl⟩,?_⟩;clear hK K
 try walk_nrm
 try simp only[ai]
 refine AZ.own hQ hB (by kernel_rfl) λτ d=>?_;refine goes_oper_k rfl rfl (by decide) (λK hK=>?_);have q1:=ar;have q2:=ai;have q3:=ak;go_simp;clear q1 q2 q3;refine hK _ _ ⟨hcs,w,⟨rfl,rfl,rfl⟩,?_⟩;clear hK K
 try walk_nrm
 try simp only[ai]
 refine AZ.own hQ hB (by kernel_rfl) λτ d=>?_;rw[stepG_region_end];simp only[goes_go];refine⟨hcs,w,zU,?_⟩;refine AZ.own hQ hB (by kernel_rfl) λτ d=>?_;rw[stepG_block];simp only[goes_go];refine⟨hcs,w,zU,?_⟩;refine AZ.own hQ hB (by kernel_rfl) λτ d=>?_;rw[stepG_loop];simp only[goes_go];refine⟨hcs,w,zU,?_⟩;exact h
def vi {BB:FuncId->Bool}(hB:BB 58=true){Q:Goroutine->World->Prop}(hQ:∀g w W,Bh w W->Q g w->Q g W){p0 p1 v5 v6 v7 v8 v9 v10 v14 v15 v16 v17 v18 v19 v20 v21 v22 v23 v24 v25 v26:Value}{b2 b3 b4 cb sb n c i:Nat}{cs:List Frame}(hcs:cs≠[]){w:World}{x:Int}(hi:i<n)(g1:w.cell? ⟨b2,0,none⟩=some (.pointer (some ⟨cb,0,none⟩)))(g2:w.cell? ⟨sb,i,none⟩=some (.int .u8 x))(l2:b2<w.heap.size)
  (h:AZ Tryz.prog (B8 Tryz.prog BB) Q (G (Frame.enter Tryz.prog 53 #[.pointer (some ⟨cb,0,none⟩),.pointer (some ⟨w.heap.size,0,none⟩),.int .i64 0] .normal) (((base 58).at ⟨#[p0,p1,.pointer (some ⟨b2,0,none⟩),.pointer (some ⟨b3,0,none⟩),.pointer (some ⟨b4,0,none⟩),v5,.int .u8 x,.pointer (some ⟨w.heap.size,0,none⟩),v8,v9,v10,.slice (some ⟨sb,0,none⟩) n c,.int .i64 n,.int .i64 i,.bool true,.pointer (some ⟨sb,i,none⟩),.int .u8 x,.int .u8 x,.agg #[.int .u8 x,.int .u8 0,.int .u8 0,.int .u8 0,.int .u8 0],.pointer (some ⟨cb,0,none⟩),v20,v21,v22,v23,v24,v25,v26],[]⟩ [.inRegion o6 [1,2,3],.code (.cond (.tmp 22) (.exit 1) .skip),.code (.seq (.region 7 o7 false) (.region 8 o8 false)),.inBlock 1,.code (.region 9 o9 false),.inLoop eL,.inBlock 0,.code (.region 10 II false)])::cs)) (w.alloc (.cells #[.int .u8 x,.int .u8 0,.int .u8 0,.int .u8 0,.int .u8 0] 52))) :
  AZ Tryz.prog (B8 Tryz.prog BB) Q (G ((base 58).at ⟨#[p0,p1,.pointer (some ⟨b2,0,none⟩),.pointer (some ⟨b3,0,none⟩),.pointer (some ⟨b4,0,none⟩),v5,v6,v7,v8,v9,v10,.slice (some ⟨sb,0,none⟩) n c,.int .i64 n,.int .i64 i,v14,v15,v16,v17,v18,v19,v20,v21,v22,v23,v24,v25,v26],[]⟩ [.code eL,.inLoop eL,.inBlock 0,.code (.region 10 II false)]) cs) w:=by
 refine AZ.own hQ hB (by kernel_rfl) λτ d=>?_;rw[lC];simp only[goes_go];refine⟨hcs,w,zU,?_⟩;refine AZ.own hQ hB (by kernel_rfl) λτ d=>?_;rw[stepG_region];simp only[goes_go,o3,eB,Tryz.f58,Option.getD_some,DN,az,ae,Gx,xF,xH,xK,Nat.reduceAdd,xM,List.range,List.range.loop];refine⟨hcs,w,zU,?_⟩;refine AZ.own hQ hB (by kernel_rfl) λτ d=>?_;refine goes_oper_k rfl rfl (by decide) (λK hK=>?_);have q1:=ar
 have q2:=ai;have q3:=ak;go_simp;clear q1 q2 q3;refine hK _ _ ⟨hcs,w,⟨rfl,rfl,rfl⟩,?_⟩;clear hK K
 try walk_nrm
 try simp only[ai]
 refine AZ.own hQ hB (by kernel_rfl) λτ d=>?_;rw[stepG_region_end];simp only[goes_go];refine⟨hcs,w,zU,?_⟩;refine AZ.own hQ hB (by kernel_rfl) λτ d=>?_;rw[stepG_seq];simp only[goes_go];refine⟨hcs,w,zU,?_⟩;refine AZ.own hQ hB (by kernel_rfl) λτ d=>?_;rw[stepG_cond (t:=true) rfl];simp only[goes_go,if_true,if_false,xP,↓reduceIte];refine⟨hcs,w,zU,?_⟩;refine AZ.own hQ hB (by kernel_rfl) λτ d=>?_
 rw[stepG_skip];simp only[goes_go];refine⟨hcs,w,zU,?_⟩;refine AZ.own hQ hB (by kernel_rfl) λτ d=>?_;rw[stepG_seq];simp only[goes_go];refine⟨hcs,w,zU,?_⟩;refine AZ.own hQ hB (by kernel_rfl) λτ d=>?_;rw[stepG_block];simp only[goes_go];refine⟨hcs,w,zU,?_⟩;refine AZ.own hQ hB (by kernel_rfl) λτ d=>?_;rw[rV];simp only[goes_go];refine⟨hcs,w,zU,?_⟩;refine AZ.own hQ hB (by kernel_rfl) λτ d=>?_;rw[stepG_region]
 simp only[goes_go,o4,eB,Tryz.f58,Option.getD_some,DN,az,ae,Gx,xF,xH,xK,Nat.reduceAdd,xM,List.range,List.range.loop];refine⟨hcs,w,zU,?_⟩;have Sx:((i:Nat):Int).toNat=i:=by omega
 refine AZ.own hQ hB (by kernel_rfl) λτ d=>?_;refine goes_oper_k rfl rfl (by decide) (λK hK=>?_);have q1:=ar;have q2:=ai;have q3:=ak;go_simp;clear q1 q2 q3;refine hK _ _ ⟨hcs,w,⟨rfl,rfl,rfl⟩,?_⟩;clear hK K
 try walk_nrm
 try simp only[ai]
 refine AZ.own hQ hB (by kernel_rfl) λτ d=>?_;refine goes_oper_k rfl rfl (by decide) (λK hK=>?_);have q1:=ar;have q2:=ai;have q3:=ak;go_simp;clear q1 q2 q3;refine hK _ _ ⟨hcs,w,⟨rfl,rfl,rfl⟩,?_⟩;clear hK K
 try walk_nrm
 try simp only[ai]
 refine AZ.own hQ hB (by kernel_rfl) λτ d=>?_;refine goes_oper_k rfl rfl (by decide) (λK hK=>?_);have q1:=ar;have q2:=ai;have q3:=ak;go_simp;clear q1 q2 q3;refine hK _ _ ⟨hcs,w,⟨rfl,rfl,rfl⟩,?_⟩;clear hK K
 try walk_nrm
 try simp only[ai]
 refine AZ.own hQ hB (by kernel_rfl) λτ d=>?_;rw[stepG_region_end];simp only[goes_go];refine⟨hcs,w,zU,?_⟩;refine AZ.own hQ hB (by kernel_rfl) λτ d=>?_;rw[stepG_seq];simp only[goes_go];refine⟨hcs,w,zU,?_⟩;refine AZ.own hQ hB (by kernel_rfl) λτ d=>?_;rw[stepG_region];simp only[goes_go,o5,eB,Tryz.f58,Option.getD_some,DN,az,ae,Gx,xF,xH,xK,Nat.reduceAdd,xM,List.range,List.range.loop];refine⟨hcs,w,zU,?_⟩
 refine AZ.own hQ hB (by kernel_rfl) λτ d=>?_;refine goes_oper_k rfl rfl (by decide) (λK hK=>?_);have q1:=ar;have q2:=ai;have q3:=ak;go_simp;clear q1 q2 q3;refine hK _ _ ⟨hcs,w,⟨rfl,rfl,rfl⟩,?_⟩;clear hK K
 try walk_nrm
 try simp only[ai]
 refine AZ.own hQ hB (by kernel_rfl) λτ d=>?_;refine goes_oper_k rfl rfl (by decide) (λK hK=>?_);have q1:=ar;have q2:=ai;have q3:=ak;go_simp;clear q1 q2 q3;refine hK _ _ ⟨hcs,w,⟨rfl,rfl,rfl⟩,?_⟩;clear hK K
 try walk_nrm
 try simp only[ai]
 refine AZ.own hQ hB (by kernel_rfl) λτ d=>?_;refine goes_oper_k rfl rfl (by decide) (λK hK=>?_);have q1:=ar;have q2:=ai;have q3:=ak;go_simp;clear q1 q2 q3;refine hK _ _ ⟨hcs,w.alloc _,⟨rfl,rfl,rfl⟩,?_⟩;clear hK K
 try walk_nrm
 try simp only[ai]
 refine AZ.own hQ hB (by kernel_rfl) λτ d=>?_;refine goes_oper_k rfl rfl (by decide) (λK hK=>?_);have q1:=ar;have q2:=ai;have q3:=ak;go_simp;clear q1 q2 q3;refine hK _ _ ⟨hcs,_,pT w τ d _ _ _ _ _ _ _ _ _ _ _,?_⟩;clear hK K
 try walk_nrm
 generalize hW:w.alloc (.cells #[.int .u8 x,.int .u8 0,.int .u8 0,.int .u8 0,.int .u8 0] 52)=W at h ⊢;have g3:W.cell? ⟨b2,0,none⟩=some (.pointer (some ⟨cb,0,none⟩)):=by rw[<-hW,<-g1];simp only[tL];rw[if_neg (by omega)]
 clear g1 g2;refine AZ.own hQ hB (by kernel_rfl) λτ d=>?_;rw[stepG_region_end];simp only[goes_go];refine⟨hcs,W,zU,?_⟩;refine AZ.own hQ hB (by kernel_rfl) λτ d=>?_;rw[stepG_seq];simp only[goes_go];refine⟨hcs,W,zU,?_⟩;refine AZ.own hQ hB (by kernel_rfl) λτ d=>?_;rw[stepG_seq];simp only[goes_go];refine⟨hcs,W,zU,?_⟩;refine AZ.own hQ hB (by kernel_rfl) λτ d=>?_;rw[stepG_region];simp only[goes_go,o6,eB,Tryz.f58,Option.getD_some,DN,az,ae,Gx,xF,xH,xK,Nat.reduceAdd,xM,List.range,List.range.loop]
 refine⟨hcs,W,zU,?_⟩;refine AZ.own hQ hB (by kernel_rfl) λτ d=>?_;refine goes_oper_k rfl rfl (by decide) (λK hK=>?_);have q1:=ar;have q2:=ai;have q3:=ak;go_simp;clear q1 q2 q3;refine hK _ _ ⟨hcs,W,⟨rfl,rfl,rfl⟩,?_⟩;clear hK K
 try walk_nrm
 try simp only[ai]
 refine AZ.own hQ hB (by kernel_rfl) λτ d=>?_;refine aB rfl rfl (by decide) rfl Tryz.func53 (by kernel_rfl) (by kernel_rfl) ⟨rW _ _,W,zU,?_⟩
 try walk_nrm
 exact h
def tO {BB:FuncId->Bool}(hB:BB 58=true){Q:Goroutine->World->Prop}(hQ:∀g w W,Bh w W->Q g w->Q g W){p0 p1 v5 v6 v7 v8 v9 v10 v14 v15 v16 v17 v18 v19 v20 v21 v22 v23 v24 v25 v26:Value}{b2 b3 b4 cb sb n c i:Nat}{cs:List Frame}(hcs:cs≠[]){w:World}{k:Int}{y1 y2:Value}(hw:IntKind.i64.wrap ((i:Int)+1)=((i+1:Nat):Int))(hk:k≠0)
  (h:AZ Tryz.prog (B8 Tryz.prog BB) Q (G ((base 58).at ⟨#[p0,p1,.pointer (some ⟨b2,0,none⟩),.pointer (some ⟨b3,0,none⟩),.pointer (some ⟨b4,0,none⟩),v5,v6,v7,v8,v9,v10,.slice (some ⟨sb,0,none⟩) n c,.int .i64 n,.int .i64 ((i+1:Nat):Int),v14,v15,v16,v17,v18,v19,.agg #[.int .i64 k,y1,y2],.int .i64 k,.bool true,v23,v24,.int .i64 ((i+1:Nat):Int),v26],[]⟩ [.code eL,.inLoop eL,.inBlock 0,.code (.region 10 II false)]) cs) w) :
  AZ Tryz.prog (B8 Tryz.prog BB) Q (G ((base 58).at ⟨#[p0,p1,.pointer (some ⟨b2,0,none⟩),.pointer (some ⟨b3,0,none⟩),.pointer (some ⟨b4,0,none⟩),v5,v6,v7,v8,v9,v10,.slice (some ⟨sb,0,none⟩) n c,.int .i64 n,.int .i64 i,v14,v15,v16,v17,v18,v19,.agg #[.int .i64 k,y1,y2],v21,v22,v23,v24,v25,v26],[]⟩ [.inRegion o6 [2,3],.code (.cond (.tmp 22) (.exit 1) .skip),.code (.seq (.region 7 o7 false) (.region 8 o8 false)),.inBlock 1,.code (.region 9 o9 false),.inLoop eL,.inBlock 0,.code (.region 10 II false)]) cs) w:=by
 simp only[o6,eB,Tryz.f58,Option.getD_some,DN,az,ae,Gx];refine AZ.own hQ hB (by kernel_rfl) λτ d=>?_;refine goes_oper_k rfl rfl (by decide) (λK hK=>?_);have q1:=ar;have q2:=ai;have q3:=ak;go_simp;clear q1 q2 q3;refine hK _ _ ⟨hcs,w,⟨rfl,rfl,rfl⟩,?_⟩;clear hK K
 try walk_nrm
 try simp only[ai]
 refine AZ.own hQ hB (by kernel_rfl) λτ d=>?_;refine goes_oper_k rfl rfl (by decide) (λK hK=>?_);have q1:=ar;have q2:=ai;have q3:=ak;go_simp;clear q1 q2 q3;refine hK _ _ ⟨hcs,w,⟨rfl,rfl,rfl⟩,?_⟩;clear hK K
 try walk_nrm
 try simp only[ai]
 refine AZ.own hQ hB (by kernel_rfl) λτ d=>?_;rw[stepG_region_end];simp only[goes_go];refine⟨hcs,w,zU,?_⟩;refine AZ.own hQ hB (by kernel_rfl) λτ d=>?_;rw[stepG_cond (t:=true) (by simp[Act.eval,hk])];simp only[goes_go,if_true,if_false,xP,↓reduceIte];refine⟨hcs,w,zU,?_⟩;refine AZ.own hQ hB (by kernel_rfl) λτ d=>?_;rw[stepG_exit rfl];simp only[goes_go];refine⟨hcs,w,zU,?_⟩;refine AZ.own hQ hB (by kernel_rfl) λτ d=>?_
 rw[stepG_region];simp only[goes_go,o9,eB,Tryz.f58,Option.getD_some,DN,az,ae,Gx,xF,xH,xK,Nat.reduceAdd,xM,List.range,List.range.loop];refine⟨hcs,w,zU,?_⟩;refine AZ.own hQ hB (by kernel_rfl) λτ d=>?_;refine goes_oper_k rfl rfl (by decide) (λK hK=>?_);have q1:=ar;have q2:=ai;have q3:=ak;go_simp;clear q1 q2 q3;refine hK _ _ ⟨hcs,w,⟨rfl,rfl,rfl⟩,?_⟩;clear hK K
 try walk_nrm
 try simp only[ai]
 try rw[hw]
 refine AZ.own hQ hB (by kernel_rfl) λτ d=>?_;refine goes_oper_k rfl rfl (by decide) (λK hK=>?_);have q1:=ar;have q2:=ai;have q3:=ak;go_simp;clear q1 q2 q3;refine hK _ _ ⟨hcs,w,⟨rfl,rfl,rfl⟩,?_⟩;clear hK K
 try walk_nrm
 try simp only[ai]
 refine AZ.own hQ hB (by kernel_rfl) λτ d=>?_;rw[stepG_region_end];simp only[goes_go];refine⟨hcs,w,zU,?_⟩;refine AZ.own hQ hB (by kernel_rfl) λτ d=>?_;rw[stepG_inLoop];simp only[goes_go];refine⟨hcs,w,zU,?_⟩;simpa [show(k != 0)=true by simp[hk]] using h
def tP {BB:FuncId->Bool}(hB:BB 58=true){Q:Goroutine->World->Prop}(hQ:∀g w W,Bh w W->Q g w->Q g W){p0 p1 v5 v6 v7 v8 v9 v10 v14 v15 v16 v17 v18 v19 v20 v21 v22 v23 v24 v25 v26:Value}{b2 b3 b4 cb sb n c i:Nat}{cs:List Frame}(hcs:cs≠[]){w:World}{y1 y2:Value}
  (h:AZ Tryz.prog (B8 Tryz.prog BB) Q (G (Frame.enter Tryz.prog 92 #[.pointer (some ⟨b4,0,none⟩),.int .i64 1] .normal) (((base 58).at ⟨#[p0,p1,.pointer (some ⟨b2,0,none⟩),.pointer (some ⟨b3,0,none⟩),.pointer (some ⟨b4,0,none⟩),v5,v6,v7,v8,v9,v10,.slice (some ⟨sb,0,none⟩) n c,.int .i64 n,.int .i64 i,v14,v15,v16,v17,v18,v19,.agg #[.int .i64 0,y1,y2],.int .i64 0,.bool false,v23,v24,v25,v26],[]⟩ [.inRegion o7 [0],.code (.region 8 o8 false),.inBlock 1,.code (.region 9 o9 false),.inLoop eL,.inBlock 0,.code (.region 10 II false)])::cs)) w) :
  AZ Tryz.prog (B8 Tryz.prog BB) Q (G ((base 58).at ⟨#[p0,p1,.pointer (some ⟨b2,0,none⟩),.pointer (some ⟨b3,0,none⟩),.pointer (some ⟨b4,0,none⟩),v5,v6,v7,v8,v9,v10,.slice (some ⟨sb,0,none⟩) n c,.int .i64 n,.int .i64 i,v14,v15,v16,v17,v18,v19,.agg #[.int .i64 0,y1,y2],v21,v22,v23,v24,v25,v26],[]⟩ [.inRegion o6 [2,3],.code (.cond (.tmp 22) (.exit 1) .skip),.code (.seq (.region 7 o7 false) (.region 8 o8 false)),.inBlock 1,.code (.region 9 o9 false),.inLoop eL,.inBlock 0,.code (.region 10 II false)]) cs) w:=by
 simp only[o6,eB,Tryz.f58,Option.getD_some,DN,az,ae,Gx];refine AZ.own hQ hB (by kernel_rfl) λτ d=>?_;refine goes_oper_k rfl rfl (by decide) (λK hK=>?_);have q1:=ar;have q2:=ai;have q3:=ak;go_simp;clear q1 q2 q3;refine hK _ _ ⟨hcs,w,⟨rfl,rfl,rfl⟩,?_⟩;clear hK K
 try walk_nrm
 try simp only[ai]
 refine AZ.own hQ hB (by kernel_rfl) λτ d=>?_;refine goes_oper_k rfl rfl (by decide) (λK hK=>?_);have q1:=ar;have q2:=ai;have q3:=ak;go_simp;clear q1 q2 q3;refine hK _ _ ⟨hcs,w,⟨rfl,rfl,rfl⟩,?_⟩;clear hK K
 try walk_nrm
 try simp only[ai]
 refine AZ.own hQ hB (by kernel_rfl) λτ d=>?_;rw[stepG_region_end];simp only[goes_go];refine⟨hcs,w,zU,?_⟩;refine AZ.own hQ hB (by kernel_rfl) λτ d=>?_;rw[stepG_cond (t:=false) rfl];simp only[goes_go,if_true,if_false,xP,↓reduceIte];refine⟨hcs,w,zU,?_⟩;refine AZ.own hQ hB (by kernel_rfl) λτ d=>?_;rw[stepG_skip];simp only[goes_go];refine⟨hcs,w,zU,?_⟩;refine AZ.own hQ hB (by kernel_rfl) λτ d=>?_
 rw[stepG_seq];simp only[goes_go];refine⟨hcs,w,zU,?_⟩;refine AZ.own hQ hB (by kernel_rfl) λτ d=>?_;rw[stepG_region];have s7:o7.size=1:=rfl;simp only[goes_go,s7,List.range,List.range.loop];refine⟨hcs,w,zU,?_⟩;refine AZ.own hQ hB (by kernel_rfl) λτ d=>?_;refine aB rfl rfl (by decide) rfl Tryz.func92 (by kernel_rfl) (by kernel_rfl) ⟨rW _ _,w,zU,?_⟩
 try walk_nrm
 simpa using h
def vj {BB:FuncId->Bool}(hB:BB 58=true){Q:Goroutine->World->Prop}(hQ:∀g w W,Bh w W->Q g w->Q g W){p0 p1 v5 v6 v7 v8 v9 v10 v14 v15 v16 v17 v18 v19 v20 v21 v22 v23 v24 v25 v26:Value}{b2 b3 b4 cb sb n c i:Nat}{cs:List Frame}(hcs:cs≠[]){w:World}
  (h:AZ Tryz.prog (B8 Tryz.prog BB) Q (G ((base 58).at ⟨#[p0,p1,.pointer (some ⟨b2,0,none⟩),.pointer (some ⟨b3,0,none⟩),.pointer (some ⟨b4,0,none⟩),v5,v6,v7,v8,v9,v10,.slice (some ⟨sb,0,none⟩) n c,.int .i64 n,.int .i64 i,v14,v15,v16,v17,v18,v19,v20,v21,v22,v23,.func (.func 93) #[] #[.pointer (some ⟨b4,0,none⟩),.pointer (some ⟨b2,0,none⟩),v7,.pointer (some ⟨b3,0,none⟩)],v25,v26],[]⟩ [.inRegion o8 [1],.inBlock 1,.code (.region 9 o9 false),.inLoop eL,.inBlock 0,.code (.region 10 II false)]) cs) w) :
  AZ Tryz.prog (B8 Tryz.prog BB) Q (G ((base 58).at ⟨#[p0,p1,.pointer (some ⟨b2,0,none⟩),.pointer (some ⟨b3,0,none⟩),.pointer (some ⟨b4,0,none⟩),v5,v6,v7,v8,v9,v10,.slice (some ⟨sb,0,none⟩) n c,.int .i64 n,.int .i64 i,v14,v15,v16,v17,v18,v19,v20,v21,v22,v23,v24,v25,v26],[]⟩ [.inRegion o7 [],.code (.region 8 o8 false),.inBlock 1,.code (.region 9 o9 false),.inLoop eL,.inBlock 0,.code (.region 10 II false)]) cs) w:=by
 refine AZ.own hQ hB (by kernel_rfl) λτ d=>?_;rw[stepG_region_end];simp only[goes_go];refine⟨hcs,w,zU,?_⟩;refine AZ.own hQ hB (by kernel_rfl) λτ d=>?_;rw[stepG_region];have s8:o8.size=2:=rfl;simp only[goes_go,s8,List.range,List.range.loop];refine⟨hcs,w,zU,?_⟩;simp only[o8,eB,Tryz.f58,Option.getD_some,DN,az,ae,Gx] at h ⊢;refine AZ.own hQ hB (by kernel_rfl) λτ d=>?_;refine goes_oper_k rfl rfl (by decide) (λK hK=>?_)
 have q1:=ar;have q2:=ai;have q3:=ak;go_simp;clear q1 q2 q3;refine hK _ _ ⟨hcs,w,⟨rfl,rfl,rfl⟩,?_⟩;clear hK K
 try walk_nrm
 try simp only[ai]
 exact h
def vm {BB:FuncId->Bool}(hB:BB 58=true){Q:Goroutine->World->Prop}(hQ:∀g w W,Bh w W->Q g w->Q g W){p0 p1 v5 v6 v7 v8 v9 v10 v14 v15 v16 v17 v18 v19 v20 v21 v22 v23 v24 v25 v26:Value}{b2 b3 b4 cb sb n c i:Nat}{cs:List Frame}(hcs:cs≠[]){w:World}(hw:IntKind.i64.wrap ((i:Int)+1)=((i+1:Nat):Int))
  (h:AZ Tryz.prog (B8 Tryz.prog BB) Q (G ((base 58).at ⟨#[p0,p1,.pointer (some ⟨b2,0,none⟩),.pointer (some ⟨b3,0,none⟩),.pointer (some ⟨b4,0,none⟩),v5,v6,v7,v8,v9,v10,.slice (some ⟨sb,0,none⟩) n c,.int .i64 n,.int .i64 ((i+1:Nat):Int),v14,v15,v16,v17,v18,v19,v20,v21,v22,v23,v24,.int .i64 ((i+1:Nat):Int),v26],[]⟩ [.code eL,.inLoop eL,.inBlock 0,.code (.region 10 II false)]) cs) w) :
  AZ Tryz.prog (B8 Tryz.prog BB) Q (G ((base 58).at ⟨#[p0,p1,.pointer (some ⟨b2,0,none⟩),.pointer (some ⟨b3,0,none⟩),.pointer (some ⟨b4,0,none⟩),v5,v6,v7,v8,v9,v10,.slice (some ⟨sb,0,none⟩) n c,.int .i64 n,.int .i64 i,v14,v15,v16,v17,v18,v19,v20,v21,v22,v23,v24,v25,v26],[]⟩ [.inRegion o8 [],.inBlock 1,.code (.region 9 o9 false),.inLoop eL,.inBlock 0,.code (.region 10 II false)]) cs) w:=by
 refine AZ.own hQ hB (by kernel_rfl) λτ d=>?_;rw[stepG_region_end];simp only[goes_go];refine⟨hcs,w,zU,?_⟩;refine AZ.own hQ hB (by kernel_rfl) λτ d=>?_;rw[stepG_inBlock];simp only[goes_go];refine⟨hcs,w,zU,?_⟩;refine AZ.own hQ hB (by kernel_rfl) λτ d=>?_;rw[stepG_region];simp only[goes_go,o9,eB,Tryz.f58,Option.getD_some,DN,az,ae,Gx,xF,xH,xK,Nat.reduceAdd,xM,List.range,List.range.loop];refine⟨hcs,w,zU,?_⟩
 refine AZ.own hQ hB (by kernel_rfl) λτ d=>?_;refine goes_oper_k rfl rfl (by decide) (λK hK=>?_);have q1:=ar;have q2:=ai;have q3:=ak;go_simp;clear q1 q2 q3;refine hK _ _ ⟨hcs,w,⟨rfl,rfl,rfl⟩,?_⟩;clear hK K
 try walk_nrm
 try simp only[ai]
 try rw[hw]
 refine AZ.own hQ hB (by kernel_rfl) λτ d=>?_;refine goes_oper_k rfl rfl (by decide) (λK hK=>?_);have q1:=ar;have q2:=ai;have q3:=ak;go_simp;clear q1 q2 q3;refine hK _ _ ⟨hcs,w,⟨rfl,rfl,rfl⟩,?_⟩;clear hK K
 try walk_nrm
 try simp only[ai]
 refine AZ.own hQ hB (by kernel_rfl) λτ d=>?_;rw[stepG_region_end];simp only[goes_go];refine⟨hcs,w,zU,?_⟩;refine AZ.own hQ hB (by kernel_rfl) λτ d=>?_;rw[stepG_inLoop];simp only[goes_go];refine⟨hcs,w,zU,?_⟩;exact h
def vp {BB:FuncId->Bool}(hB:BB 58=true){Q:Goroutine->World->Prop}(hQ:∀g w W,Bh w W->Q g w->Q g W){p0 p1 v5 v6 v7 v8 v9 v10 v14 v15 v16 v17 v18 v19 v20 v21 v22 v23 v24 v25 v26:Value}{b2 b3 b4 cb sb n c i:Nat}{cs:List Frame}(hcs:cs≠[]){w:World}(hi:¬i<n)
  (h:AZ Tryz.prog (B8 Tryz.prog BB) Q (G (Frame.enter Tryz.prog 95 #[.pointer (some ⟨b4,0,none⟩)] .normal) (((base 58).at ⟨#[p0,p1,.pointer (some ⟨b2,0,none⟩),.pointer (some ⟨b3,0,none⟩),.pointer (some ⟨b4,0,none⟩),v5,v6,v7,v8,v9,v10,.slice (some ⟨sb,0,none⟩) n c,.int .i64 n,.int .i64 i,.bool false,v15,v16,v17,v18,v19,v20,v21,v22,v23,v24,v25,v26],[]⟩ [.inRegion II [0]])::cs)) w) :
  AZ Tryz.prog (B8 Tryz.prog BB) Q (G ((base 58).at ⟨#[p0,p1,.pointer (some ⟨b2,0,none⟩),.pointer (some ⟨b3,0,none⟩),.pointer (some ⟨b4,0,none⟩),v5,v6,v7,v8,v9,v10,.slice (some ⟨sb,0,none⟩) n c,.int .i64 n,.int .i64 i,v14,v15,v16,v17,v18,v19,v20,v21,v22,v23,v24,v25,v26],[]⟩ [.code eL,.inLoop eL,.inBlock 0,.code (.region 10 II false)]) cs) w:=by
 refine AZ.own hQ hB (by kernel_rfl) λτ d=>?_;rw[lC];simp only[goes_go];refine⟨hcs,w,zU,?_⟩;refine AZ.own hQ hB (by kernel_rfl) λτ d=>?_;rw[stepG_region];simp only[goes_go,o3,eB,Tryz.f58,Option.getD_some,DN,az,ae,Gx,xF,xH,xK,Nat.reduceAdd,xM,List.range,List.range.loop];refine⟨hcs,w,zU,?_⟩;refine AZ.own hQ hB (by kernel_rfl) λτ d=>?_;refine goes_oper_k rfl rfl (by decide) (λK hK=>?_);have q1:=ar
 have q2:=ai;have q3:=ak;go_simp;clear q1 q2 q3;refine hK _ _ ⟨hcs,w,⟨rfl,rfl,rfl⟩,?_⟩;clear hK K
 try walk_nrm
 try simp only[ai]
 refine AZ.own hQ hB (by kernel_rfl) λτ d=>?_;rw[stepG_region_end];simp only[goes_go];refine⟨hcs,w,zU,?_⟩;refine AZ.own hQ hB (by kernel_rfl) λτ d=>?_;rw[stepG_seq];simp only[goes_go];refine⟨hcs,w,zU,?_⟩;refine AZ.own hQ hB (by kernel_rfl) λτ d=>?_;rw[stepG_cond (t:=false) rfl];simp only[goes_go,if_true,if_false,xP,↓reduceIte];refine⟨hcs,w,zU,?_⟩;refine AZ.own hQ hB (by kernel_rfl) λτ d=>?_
 rw[stepG_exit rfl];simp only[goes_go];refine⟨hcs,w,zU,?_⟩;refine AZ.own hQ hB (by kernel_rfl) λτ d=>?_;rw[stepG_region];have s10:II.size=1:=rfl;simp only[goes_go,s10,List.range,List.range.loop];refine⟨hcs,w,zU,?_⟩;refine AZ.own hQ hB (by kernel_rfl) λτ d=>?_;refine aB rfl rfl (by decide) rfl Tryz.func95 (by kernel_rfl) (by kernel_rfl) ⟨rW _ _,w,zU,?_⟩
 try walk_nrm
 exact h
def vy {BB:FuncId->Bool}(hB:BB 58=true){Q:Goroutine->World->Prop}(hQ:∀g w W,Bh w W->Q g w->Q g W){a:Act}(hd:a.defers=[]){cs:List Frame}(hcs:cs≠[]){w:World}
  (h:∀a':Act,a'.defers=[]->Q (G { (base 58).at a' [] with mode:=.returning } cs) w) :
  AZ Tryz.prog (B8 Tryz.prog BB) Q (G (((base 58).at a [.inRegion II [0]]).finish (.tuple #[])) cs) w:=by
 rw[Frame.finish_at];refine AZ.own hQ hB (by kernel_rfl) λτ d=>?_;rw[stepG_region_end];simp only[goes_go];refine⟨hcs,w,zU,?_⟩;refine AZ.own hQ hB (by kernel_rfl) λτ d=>?_;rw[stepG_end];simp only[goes_go];refine⟨hcs,w,zU,.fin ?_⟩;refine h _ ?_;cases(II[0]?.bind (·.dst))<;>exact hd
end Go.Proofs.YtjcgijifamcggaaGreat
namespace Go.Co
open Go.Conc Go.ConcN Go.RowKit Go.Conc.Lib Go.ConcR.Gen Go.ConcN.Gen
open Go.ConcR (KK wgBlock WgAt stA smA rd wr mk Payload Aside2 DC0)
def RL (ty:TypeId)(Wg:Nat)(w w₁:World):Prop:=WgLive ty Wg w->WgLive ty Wg w₁
def RL.refl {ty:TypeId}{Wg:Nat}(w:World):RL ty Wg w w:=id
def RL.trans {ty:TypeId}{Wg:Nat}(a b c:World)(h:RL ty Wg a b)(k:RL ty Wg b c):RL ty Wg a c:=k ∘ h
def rl {ty:TypeId}{Wg:Nat}{w w₁:World}(h:WgLive ty Wg w)(r:RL ty Wg w w₁):WgLive ty Wg w₁:=r h
section
variable (P:Program) (ty:TypeId) (Wg:Nat)
abbrev GW (main:Bool)(Stop:Goroutine->World->Prop)(m:Nat)(g:Goroutine)(w:World):Prop:=Goes P main (RL ty Wg) DC0 Stop m g w
def D3 (g:Goroutine)(w:World):Prop :=
 g.status=.running/\(WgAt ty Wg w 1 0->∃g',stepG P false g w=.go g' (w.setCell (stA Wg) (.int .u64 0)) #[wr (stA Wg)]/\∃m,GW P ty Wg false (AtD4 P ty Wg) m g' (w.setCell (stA Wg) (.int .u64 0)))
def D2 (g:Goroutine)(w:World):Prop :=
 g.status=.running/\(WgAt ty Wg w 1 0->∃g',stepG P false g w=.go g' w #[rd (stA Wg)]/\∃m,GW P ty Wg false (D3 P ty Wg) m g' w)
def D1 (g:Goroutine)(w:World):Prop :=
 g.status=.running/\∀v wt:Nat,wt<=1->v<2147483647->WgAt ty Wg w ((v+1)*KK+wt) 0 ->
  ∃g',stepG P false g w=.go g' (w.setCell (stA Wg) (.int .u64 (v*KK+wt))) #[rd (stA Wg),wr (stA Wg)] /\
   ((v=0/\wt=1)->∃m,GW P ty Wg false (D2 P ty Wg) m g' (w.setCell (stA Wg) (.int .u64 (v*KK+wt))))/\(¬(v=0/\wt=1)->∃q,QuitsD P q 1 g')
def K1 (g:Goroutine)(w:World):Prop :=
 g.status=.running/\∃g',stepG P false g w=.go g' w #[mk .disable]/\∃m,GW P ty Wg false (D1 P ty Wg) m g' w
def R0 (g:Goroutine)(w:World):Prop :=
 g.status=.running/\∃g',stepG P false g w=.go g' w #[mk (.releaseMerge (stA Wg))]/\∃m,GW P ty Wg false (K1 P ty Wg) m g' w
def AKe (Next:Goroutine->World->Prop)(g:Goroutine)(w:World):Prop:=g.status=.running/\∃g',stepG P true g w=.go g' w #[mk .enable]/\∃m,GW P ty Wg true Next m g' w
def ARr (Next:Goroutine->World->Prop)(g:Goroutine)(w:World):Prop:=g.status=.running/\∃g',stepG P true g w=.go g' w #[mk (.read (smA Wg))]/\∃m,GW P ty Wg true (AKe P ty Wg Next) m g' w
def AA1 (Next:Goroutine->World->Prop)(g:Goroutine)(w:World):Prop :=
 g.status=.running/\∀v:Nat,v<2147483647->WgAt ty Wg w (v*KK) 0->∃g',stepG P true g w=.go g' (w.setCell (stA Wg) (.int .u64 ((v+1)*KK))) #[rd (stA Wg),wr (stA Wg)] /\
  (v=0->∃m,GW P ty Wg true (ARr P ty Wg Next) m g' (w.setCell (stA Wg) (.int .u64 ((v+1)*KK))))/\(v≠0->∃m,GW P ty Wg true (AKe P ty Wg Next) m g' (w.setCell (stA Wg) (.int .u64 ((v+1)*KK))))
def AKd (Next:Goroutine->World->Prop)(g:Goroutine)(w:World):Prop:=g.status=.running/\∃g',stepG P true g w=.go g' w #[mk .disable]/\∃m,GW P ty Wg true (AA1 P ty Wg Next) m g' w
def Zx (Next:Goroutine->World->Prop)(g:Goroutine)(w:World):Prop:=g.status=.running/\∃g',stepG P true g w=.go g' w #[mk (.acquire (stA Wg))]/\∃m,GW P ty Wg true Next m g' w
def WKe (Next:Goroutine->World->Prop)(g:Goroutine)(w:World):Prop:=g.status=.running/\∃g',stepG P true g w=.go g' w #[mk .enable]/\∃m,GW P ty Wg true (Zx P ty Wg Next) m g' w
def W4 (Next:Goroutine->World->Prop)(g:Goroutine)(w:World):Prop:=g.status=.running/\(WgAt ty Wg w 0 0->∃g',stepG P true g w=.go g' w #[rd (stA Wg)]/\∃m,GW P ty Wg true (WKe P ty Wg Next) m g' w)
def W3 (Next:Goroutine->World->Prop)(g:Goroutine)(w:World):Prop :=
 g.status=.running/\g.offers=none/\((∃st,WgAt ty Wg w st 0)->stepG P true g w=.go { g with status:=.blocked } w #[]) /\
  (WgAt ty Wg w 0 1->∃g',stepG P true g w=.go g' (w.setCell (smA Wg) (.int .u32 0)) (semEvents (smA Wg))/\∃m,GW P ty Wg true (W4 P ty Wg Next) m g' (w.setCell (smA Wg) (.int .u32 0)))
def WRw (Next:Goroutine->World->Prop)(g:Goroutine)(w:World):Prop:=g.status=.running/\∃g',stepG P true g w=.go g' w #[mk (.write (smA Wg))]/\∃m,GW P ty Wg true (W3 P ty Wg Next) m g' w
def W2 (Ey Next:Goroutine->World->Prop)(vs:Nat)(g:Goroutine)(w:World):Prop :=
 g.status=.running/\∀v:Nat,v<2147483648->WgAt ty Wg w (v*KK) 0 ->
  (v=vs->∃g',stepG P true g w=.go g' (w.setCell (stA Wg) (.int .u64 (v*KK+1))) #[rd (stA Wg),wr (stA Wg)]/\∃m,GW P ty Wg true (WRw P ty Wg Next) m g' (w.setCell (stA Wg) (.int .u64 (v*KK+1)))) /\
  (v≠vs->∃g',stepG P true g w=.go g' w #[rd (stA Wg)]/\∃m,GW P ty Wg true Ey m g' w)
def W1 (Ey Next:Goroutine->World->Prop)(g:Goroutine)(w:World):Prop :=
 g.status=.running/\∀v:Nat,v<2147483648->WgAt ty Wg w (v*KK) 0->∃g',stepG P true g w=.go g' w #[rd (stA Wg)] /\
  (v=0->∃m,GW P ty Wg true (WKe P ty Wg Next) m g' w)/\(v≠0->∃m,GW P ty Wg true (W2 P ty Wg Ey Next v) m g' w)
def WKd (Ey:Goroutine->World->Prop)(g:Goroutine)(w:World):Prop:=g.status=.running/\∃g',stepG P true g w=.go g' w #[mk .disable]/\∃m,GW P ty Wg true Ey m g' w
end
end Go.Co
