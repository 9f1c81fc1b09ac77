/- Parts of the proof. -/
import Derived.Test.YtghipmneleifpaaGreatP06
import Derived.Test.YtghipmneleifpaaGreatP05
import Derived.Test.YtghipmneleifpaaGreatP00
import Derived.Test.YtghipmneleifpaaGreatP10
import Derived.Test.YtghipmneleifpaaGreatChecked
import Derived.WalkKit
import Derived.Laws.LoneSync
import Derived.Conc.WgGenW
set_option linter.all false
set_option maxHeartbeats 4000000
set_option maxRecDepth 1000000
open Go.Value renaming pointer->a6,int->cf,slice->cr
open Go.Proofs.Tryz renaming prog->a7,f45->b9,func143->cq,func83->cU,func45->c0,func119->df,func120->dr,func87->ea,func88->eb,func85->ed,func86->ek,func82->eo,func102->eC,func103->eF,f143->eT
open List.range renaming loop->a8
open Go.Conc renaming goes_go->bb,goes_oper_k->bc,stepG_region_end->bk,stepG_region->bs,stepG_seq->b5,stepG_cond->cF,stepG_end->dS,stepG_skip->ez,enter_at->eH
open Option renaming some->bh,none->bo
open List renaming range->bn
open Bool renaming false->br,true->bW
open Go renaming World->bw,FuncId->bA,Goroutine->b6,Frame->b8,Value->cE,run_call_cas_hit->dy,Item->er,Code->eA,Oper->eG
open Array renaming replicate->bD
open Go.IntKind renaming i64->b7
open Go.Instr renaming fieldAt->cu
open Go.Frame renaming enter->cw
open Go.Obj renaming cells->cK
namespace Go.Sq
open Go.Proofs
open Go.RowKit Go.Ct Go.Co Go.Conc
section
variable {p:Program} {BB:bA->Bool} {Q:b6->bw->Prop} {b:b8} {a:Act} {todo:List er} {cs:List b8} {w:bw} {dn:Nat}
def ay (hQ:∀g w W,Cs w W->Q g w->Q g W)(hf:BB b.fn=bW)(hg:bM p todo=bW)(h:∀τ d,(stepG p bW (G (b.at a todo) cs) (on w τ d)).goes (λg' w' _=>g'.callers≠[]/\∃W,Cs W w'/\C1 p BB Q dn g' W)) :
  C1 p BB Q dn (G (b.at a todo) cs) w:=by
 refine C1.step ⟨hf,jo hg⟩ λτ d=>?_;have:=h τ d;cases hs:stepG p bW (G (b.at a todo) cs) (on w τ d) with
 |go g' w' es =>
  rw[hs] at this;obtain⟨h1,W,h2,h3⟩:=this;exact⟨g',w',es,rfl,h1,h3.same hQ h2⟩
 |_=>rw[hs] at this;exact this.elim
def dN (hQ:∀g w W,Cs w W->Q g w->Q g W)(hf:BB b.fn=bW)(hg:bM p todo=bW)(h:∀τ d,(stepG p bW (G { b.at a todo with mode:=.returning } cs) (on w τ d)).goes (λg' w' _=>g'.callers≠[]/\∃W,Cs W w'/\C1 p BB Q dn g' W)) :
  C1 p BB Q dn (G { b.at a todo with mode:=.returning } cs) w:=by
 refine C1.step ⟨hf,λo ho=>jo (b:=b) (a:=a) hg o ho⟩ λτ d=>?_;have:=h τ d;cases hs:stepG p bW (G { b.at a todo with mode:=.returning } cs) (on w τ d) with
 |go g' w' es =>
  rw[hs] at this;obtain⟨h1,W,h2,h3⟩:=this;exact⟨g',w',es,rfl,h1,h3.same hQ h2⟩
 |_=>rw[hs] at this;exact this.elim
def fO {g':b6}(hQ:∀g w W,Cs w W->Q g w->Q g W)(hf:BB b.fn=bW)(hcs:g'.callers≠[])(hg:bM p todo=bW)(hs:∀w,stepG p bW (G (b.at a todo) cs) w=.go g' w)(h:C1 p BB Q dn g' w):C1 p BB Q dn (G (b.at a todo) cs) w :=
 ay hQ hf hg λτ d=>by rw[hs];simp only[bb];exact⟨hcs,w,Bm,h⟩
def au {k:List er}{x y:eA}(hQ:∀g w W,Cs w W->Q g w->Q g W)(hf:BB b.fn=bW)(hcs:cs≠[])(h:C1 p BB Q dn (G (b.at a (.code x::.code y::k)) cs) w)(hg:bM p (.code (.seq x y)::k)=true:=by kernel_rfl):C1 p BB Q dn (G (b.at a (.code (.seq x y)::k)) cs) w :=
 fO hQ hf hcs hg (λ_=>b5) h
def aA {k:List er}{ops:Array eG}(hQ:∀g w W,Cs w W->Q g w->Q g W)(hf:BB b.fn=bW)(hcs:cs≠[])(h:C1 p BB Q dn (G (b.at a k) cs) w)(hg:bM p (.inRegion ops []::k)=true:=by kernel_rfl):C1 p BB Q dn (G (b.at a (.inRegion ops []::k)) cs) w :=
 fO hQ hf hcs hg (λ_=>bk) h
def gi {k:List er}(hQ:∀g w W,Cs w W->Q g w->Q g W)(hf:BB b.fn=bW)(hcs:cs≠[])(h:C1 p BB Q dn (G (b.at a k) cs) w)(hg:bM p (.code .skip::k)=true:=by kernel_rfl):C1 p BB Q dn (G (b.at a (.code .skip::k)) cs) w :=
 fO hQ hf hcs hg (λ_=>ez) h
def aB {k:List er}{i:Nat}{ops:Array eG}(hQ:∀g w W,Cs w W->Q g w->Q g W)(hf:BB b.fn=bW)(hcs:cs≠[])(h:C1 p BB Q dn (G (b.at a (.inRegion ops (bn ops.size)::k)) cs) w)(hg:bM p (.code (.region i ops br)::k)=true:=by kernel_rfl):C1 p BB Q dn (G (b.at a (.code (.region i ops br)::k)) cs) w :=
 fO hQ hf hcs hg (λ_=>bs) h
def mn {k:List er}{c:Operand}{x y:eA}(hQ:∀g w W,Cs w W->Q g w->Q g W)(hf:BB b.fn=bW)(hcs:cs≠[])(h:C1 p BB Q dn (G (b.at a (.code x::k)) cs) w)(hc:a.eval c=.bool true:=by rfl)(hg:bM p (.code (.cond c x y)::k)=true:=by kernel_rfl):C1 p BB Q dn (G (b.at a (.code (.cond c x y)::k)) cs) w :=
 fO hQ hf hcs hg (λ_=>cF hc) h
def jN {k:List er}{c:Operand}{x y:eA}(hQ:∀g w W,Cs w W->Q g w->Q g W)(hf:BB b.fn=bW)(hcs:cs≠[])(h:C1 p BB Q dn (G (b.at a (.code y::k)) cs) w)(hc:a.eval c=.bool false:=by rfl)(hg:bM p (.code (.cond c x y)::k)=true:=by kernel_rfl):C1 p BB Q dn (G (b.at a (.code (.cond c x y)::k)) cs) w :=
 fO hQ hf hcs hg (λ_=>cF hc) h
def ag {k:List er}{ops:Array eG}{i:Nat}{rest:List Nat}{o:eG}(hQ:∀g w W,Cs w W->Q g w->Q g W)(hf:BB b.fn=bW)(hcs:cs≠[])(ho:ops[i]?=bh o)(hw:Region.wanted o (yielded ops a.tmps)=bW)
  (h:∀ {τ:Tape} {d:Nat} (K:Act->bw->Prop),(∀a' W,C1 p BB Q dn (G (b.at a' (.inRegion ops rest::k)) cs) W->∀w',Cs W w'->K a' w')->(∀x,(on w τ d).cell? x=w.cell? x)->(on w τ d).heap.size=w.heap.size->(∀x,(on w τ d).frozen? x=w.frozen? x)->uponK o a K ((execOp a.eval o).run p (on w τ d)))
  (hk:b.kind≠.early:=by first|assumption|decide) (hg:bM p (.inRegion ops (i::rest)::k)=true:=by kernel_rfl):C1 p BB Q dn (G (b.at a (.inRegion ops (i::rest)::k)) cs) w :=
 ay hQ hf hg λτ d=>bc ho hw hk λK hK=>h K (λ_ W hT w' hs=>hK _ w' ⟨hcs,W,hs,hT⟩) (λ_=>rfl) rfl λ_=>rfl
def ox {f:bA}{fn:Func}{c:eA}(args:Array cE)(k:CallKind)(hf:p.funcs[f]?=bh fn)(hb:fn.body=bh c) :
  cw p f args k=({ base f with kind:=k }:b8).at { tmps:=args++bD (fn.ntmps-args.size) undef,defers:=[] } [.code c]:=by
 simp[cw,Frame.at,hf,hb,base]
def cJ (hQ:∀g w W,Cs w W->Q g w->Q g W){ops:Array eG}{i:Nat}{rest:List Nat}{k:List er}{o:eG}{es:Array Event}{v:cE}(hf:BB b.fn=bW)(hcs:cs≠[])(ho:ops[i]?=bh o)(hw:Region.wanted o (yielded ops a.tmps)=bW)(hk:b.kind≠.early)(hs:DU p a w o es v)
  {d':Nat} (hd:deafBehind dn es=d') (h:C1 p BB Q d' (G (b.at (a.put o.dst v) (.inRegion ops rest::k)) cs) w):C1 p BB Q dn (G (b.at a (.inRegion ops (i::rest)::k)) cs) w :=
 .spec hf hcs ho hw hk hs λτ n=>hd▸h.same hQ Bm
def Cp (c:b8)(cs:List b8):(c::cs)≠[]:=by simp
def ab (W:bw)(τ:Tape)(d:Nat):(on W τ d).heap.size=W.heap.size:=rfl
def six {args:Array cE}{n:Nat}{q:Addr}(h:args[0]?=bh (.pointer (bh q)))(hn:n=6):∃t1 t2 t3 t4 t5 tl,args++bD (n-args.size) undef=(.pointer (bh q)::t1::t2::t3::t4::t5::tl:List cE).toArray:=by
 obtain⟨l⟩:=args;subst hn
 match l,h with
 |t0::l,h =>
  have h0:t0=.pointer (bh q):=by simpa using h
  subst h0
  match l with
  |[]=>exact⟨_,_,_,_,_,[],by simp[List.replicate,bD];exact⟨rfl,rfl,rfl,rfl,rfl⟩⟩
  |[t1]=>exact⟨t1,_,_,_,_,[],by simp[bD];exact⟨rfl,rfl,rfl,rfl⟩⟩
  |[t1,t2]=>exact⟨t1,t2,_,_,_,[],by simp[bD];exact⟨rfl,rfl,rfl⟩⟩
  |[t1,t2,t3]=>exact⟨t1,t2,t3,_,_,[],by simp[bD];exact⟨rfl,rfl⟩⟩
  |[t1,t2,t3,t4]=>exact⟨t1,t2,t3,t4,_,[],by simp[bD];rfl⟩
  |t1::t2::t3::t4::t5::tl=>exact⟨t1,t2,t3,t4,t5,tl,by simp[bD]⟩
end
def lf {BB:bA->Bool}(Oi:BB 87=bW)(EL:BB 119=bW):Held a7 BB 87 0 1:=by
 intro args q k cs w hk hcs hq hc hz;obtain⟨bq,oq,sq⟩:=q;have hsq:sq=none:=by
  cases sq with
  |none=>rfl
  |some s=>simp[World.cell?] at hc;split at hc<;>simp_all
 subst hsq;generalize ZQ:(λ(g:b6) (W:bw)=>Cs (w.setCell ⟨bq,oq,bo⟩ (.int .i32 1)) W/\∃fr,g=Go.Ct.C6 fr cs/\fr.fn=87/\fr.kind=k/\fr.mode=.returning/\fr.defers=[]/\fr.oper?=bo)=Q;have hQ:∀g w W,Cs w W->Q g w->Q g W:=by
  subst ZQ;rintro g w1 w2 s ⟨h1,h2⟩;exact⟨h1.trans s,h2⟩
 have Ie:∀(a:Act) W,a.defers=[]->Cs (w.setCell ⟨bq,oq,bo⟩ (.int .i32 1)) W->Q (G { (({ base 87 with kind:=k }:b8).at a []) with mode:=.returning } cs) W:=by
  subst ZQ;exact λa W h s=>⟨s,_,rfl,rfl,rfl,rfl,h,rfl⟩
 obtain⟨t1,t2,t3,t4,t5,tl,ht⟩:=six (n:=Tryz.f87.ntmps) hq Tryz.ntmps87;rw[ox args k ea rfl,ht];change C1 a7 BB Q 0 (G _ cs) w;refine aB hQ Oi hcs ?_;simp only[yX,yV,zb,Nat.reduceAdd,yZ,bn,a8];refine ag hQ Oi hcs rfl rfl λK hK q1 q2 q3=>?_;go_simp;refine hK _ w ?_ _ ⟨rfl,rfl,rfl⟩;refine ag hQ Oi hcs rfl rfl λK hK q1 q2 q3=>?_;go_simp;refine hK _ w ?_ _ ⟨rfl,rfl,rfl⟩
 refine ag hQ Oi hcs rfl rfl λK hK q1 q2 q3=>?_;go_simp;refine hK _ w ?_ _ ⟨rfl,rfl,rfl⟩;refine ay hQ Oi (by kernel_rfl) λτ d=>?_;refine aF rfl rfl hk rfl df (by kernel_rfl) (by kernel_rfl) ⟨Cp _ _,w,Bm,?_⟩;rw[eH _ df rfl];simp only[Tryz.ntmps119,yX,yV,zb,Nat.reduceAdd,Nat.reduceSub,zM,zN,zX,zR,Ab,zV];refine au hQ EL (Cp _ _) ?_;refine aB hQ EL (Cp _ _) ?_;simp only[yX,yV,zb,Nat.reduceAdd,yZ,bn,a8]
 refine cJ hQ EL (Cp _ _) rfl rfl (by decide) (DU.F8 .disable (by simp) rfl eC (by kernel_rfl) (by kernel_rfl) (by kernel_rfl) (by kernel_rfl)) (d':=1) rfl ?_;refine aA hQ EL (Cp _ _) ?_
 iterate 2 refine au hQ EL (Cp _ _) ?_
 refine aB hQ EL (Cp _ _) ?_;simp only[yX,yV,zb,Nat.reduceAdd,yZ,bn,a8];refine ag hQ EL (Cp _ _) rfl rfl λK hK q1 q2 q3=>?_;go_simp;refine hK _ w ?_ _ ⟨rfl,rfl,rfl⟩
 try simp only[ab]
 refine ag hQ EL (Cp _ _) rfl rfl λK hK q1 q2 q3=>?_;go_simp;refine hK _ w ?_ _ ⟨rfl,rfl,rfl⟩;clear hK K q1 q2 q3
 try walk_nrm
 try simp only[ab]
 refine ag hQ EL (Cp _ _) rfl rfl λK hK q1 q2 q3=>?_;go_simp;refine hK _ w ?_ _ ⟨rfl,rfl,rfl⟩;clear hK K q1 q2 q3
 try walk_nrm
 try simp only[ab]
 refine ag hQ EL (Cp _ _) rfl rfl @λτ d K hK q1 q2 q3=>?_;have aaS:=dy (P:=a7) cq (by kernel_rfl) (by kernel_rfl) (by kernel_rfl) .i32 (by kernel_rfl) (x:=0) (y:=1) (w:=on w τ d) hc hz;go_simp;refine hK _ (w.setCell _ _) ?_ _ ⟨rfl,rfl,rfl⟩;clear hK K q1 q2 q3
 try walk_nrm
 try simp only[ab]
 have hc2:∃u,(w.setCell ⟨bq,oq,bo⟩ (.int .i32 1)).cell? ⟨bq,oq,bo⟩=bh u:=⟨_,World.cell?_setCell_same _ _ _ hc⟩;refine aA hQ EL (Cp _ _) ?_;refine mn hQ EL (Cp _ _) ?_;refine au hQ EL (Cp _ _) ?_;refine mn hQ EL (Cp _ _) ?_;refine au hQ EL (Cp _ _) ?_;refine aB hQ EL (Cp _ _) ?_;simp only[yX,yV,zb,Nat.reduceAdd,yZ,bn,a8];refine cJ hQ EL (Cp _ _) rfl rfl (by decide) (DU.F8 .enable (by simp) rfl eF (by kernel_rfl) (by kernel_rfl) (by kernel_rfl) (by kernel_rfl)) (d':=0) rfl ?_
 try walk_nrm
 refine aA hQ EL (Cp _ _) ?_;refine aB hQ EL (Cp _ _) ?_;simp only[yX,yV,zb,Nat.reduceAdd,yZ,bn,a8];refine ag hQ EL (Cp _ _) rfl rfl λK hK q1 q2 q3=>?_;go_simp;refine hK _ _ ?_ _ ⟨rfl,rfl,rfl⟩;clear hK K q1 q2 q3
 try walk_nrm
 try simp only[ab]
 refine cJ hQ EL (Cp _ _) rfl rfl (by decide) (DU.conv (t:=105) rfl (by kernel_rfl) (by kernel_rfl) (by kernel_rfl) rfl hc2) (d':=0) rfl ?_
 try walk_nrm
 refine cJ hQ EL (Cp _ _) rfl rfl (by decide) (DU.Fx .acquire (by simp) rfl Tryz.func114 (by kernel_rfl) (by kernel_rfl) (by kernel_rfl) (by kernel_rfl) (by simp[Act.eval]) hc2) (d':=0) rfl ?_
 try walk_nrm
 refine aA hQ EL (Cp _ _) ?_;refine ay hQ EL (by kernel_rfl) λτ d=>?_;rw[stepG_ret'];simp only[bb];refine⟨(Cp _ _),_,Bm,?_⟩;refine dN hQ EL (by kernel_rfl) λτ d=>?_;refine goes_leave0 rfl rfl df rfl ⟨hcs,_,Bm,?_⟩;refine aA hQ Oi hcs ?_;refine ay hQ Oi (by kernel_rfl) λτ d=>?_;rw[dS];simp only[bb];refine⟨hcs,_,Bm,.fin (Ie _ _ rfl ⟨rfl,rfl,rfl⟩)⟩
def iZ {BB:bA->Bool}(Oi:BB 88=bW)(EL:BB 120=bW):Held a7 BB 88 1 0:=by
 intro args q k cs w hk hcs hq hc hz;obtain⟨bq,oq,sq⟩:=q;have hsq:sq=none:=by
  cases sq with
  |none=>rfl
  |some s=>simp[World.cell?] at hc;split at hc<;>simp_all
 subst hsq;generalize ZQ:(λ(g:b6) (W:bw)=>Cs (w.setCell ⟨bq,oq,bo⟩ (.int .i32 0)) W/\∃fr,g=Go.Ct.C6 fr cs/\fr.fn=88/\fr.kind=k/\fr.mode=.returning/\fr.defers=[]/\fr.oper?=bo)=Q;have hQ:∀g w W,Cs w W->Q g w->Q g W:=by
  subst ZQ;rintro g w1 w2 s ⟨h1,h2⟩;exact⟨h1.trans s,h2⟩
 have Ie:∀(a:Act) W,a.defers=[]->Cs (w.setCell ⟨bq,oq,bo⟩ (.int .i32 0)) W->Q (G { (({ base 88 with kind:=k }:b8).at a []) with mode:=.returning } cs) W:=by
  subst ZQ;exact λa W h s=>⟨s,_,rfl,rfl,rfl,rfl,h,rfl⟩
 clear ZQ;obtain⟨t1,t2,t3,t4,t5,tl,ht⟩:=six (n:=Tryz.f88.ntmps) hq Tryz.ntmps88;rw[ox args k eb rfl,ht];clear ht hq;have hkk:∀a:Act,∀t,(({ base 88 with kind:=k }:b8).at a t).kind≠.early:=λ_ _=>hk;change C1 a7 BB Q 0 (G _ cs) w;refine aB hQ Oi hcs ?_;simp only[yX,yV,zb,Nat.reduceAdd,yZ,bn,a8];refine ag hQ Oi hcs rfl rfl λK hK q1 q2 q3=>?_;go_simp;refine hK _ w ?_ _ ⟨rfl,rfl,rfl⟩
 clear hK K q1 q2 q3
 try walk_nrm
 try simp only[ab]
 refine ag hQ Oi hcs rfl rfl λK hK q1 q2 q3=>?_;go_simp;refine hK _ w ?_ _ ⟨rfl,rfl,rfl⟩;clear hK K q1 q2 q3
 try walk_nrm
 try simp only[ab]
 refine ag hQ Oi hcs rfl rfl λK hK q1 q2 q3=>?_;go_simp;refine hK _ w ?_ _ ⟨rfl,rfl,rfl⟩;clear hK K q1 q2 q3
 try walk_nrm
 try simp only[ab]
 refine ay hQ Oi (by kernel_rfl) λτ d=>?_;refine aF rfl rfl hk rfl dr (by kernel_rfl) (by kernel_rfl) ⟨Cp _ _,w,Bm,?_⟩
 try walk_nrm
 rw[eH _ dr rfl];simp only[Tryz.ntmps120,yX,yV,zb,Nat.reduceAdd,Nat.reduceSub,zM,zN,zX,zR,Ab,zV];refine au hQ EL (Cp _ _) ?_;refine mn hQ EL (Cp _ _) ?_;refine au hQ EL (Cp _ _) ?_;refine aB hQ EL (Cp _ _) ?_;simp only[yX,yV,zb,Nat.reduceAdd,yZ,bn,a8];refine ag hQ EL (Cp _ _) rfl rfl λK hK q1 q2 q3=>?_;go_simp;refine hK _ w ?_ _ ⟨rfl,rfl,rfl⟩;clear hK K q1 q2 q3
 try walk_nrm
 try simp only[ab]
 refine ag hQ EL (Cp _ _) rfl rfl λK hK q1 q2 q3=>?_;go_simp;refine hK _ w ?_ _ ⟨rfl,rfl,rfl⟩;clear hK K q1 q2 q3
 try walk_nrm
 try simp only[ab]
 refine ag hQ EL (Cp _ _) rfl rfl λK hK q1 q2 q3=>?_;go_simp;refine hK _ w ?_ _ ⟨rfl,rfl,rfl⟩;clear hK K q1 q2 q3
 try walk_nrm
 try simp only[ab]
 refine ag hQ EL (Cp _ _) rfl rfl λK hK q1 q2 q3=>?_;go_simp;refine hK _ w ?_ _ ⟨rfl,rfl,rfl⟩;clear hK K q1 q2 q3
 try walk_nrm
 try simp only[ab]
 refine aA hQ EL (Cp _ _) ?_;refine au hQ EL (Cp _ _) ?_;refine aB hQ EL (Cp _ _) ?_;simp only[yX,yV,zb,Nat.reduceAdd,yZ,bn,a8];refine ag hQ EL (Cp _ _) rfl rfl λK hK q1 q2 q3=>?_;go_simp;refine hK _ w ?_ _ ⟨rfl,rfl,rfl⟩;clear hK K q1 q2 q3
 try walk_nrm
 try simp only[ab]
 refine cJ hQ EL (Cp _ _) rfl rfl (by decide) (DU.conv (t:=105) rfl (by kernel_rfl) (by kernel_rfl) (by kernel_rfl) rfl ⟨_,hc⟩) (d':=0) rfl ?_
 try walk_nrm
 refine cJ hQ EL (Cp _ _) rfl rfl (by decide) (DU.Fx .releaseMerge (by simp) rfl Tryz.func101 (by kernel_rfl) (by kernel_rfl) (by kernel_rfl) (by kernel_rfl) (by simp[Act.eval]) ⟨_,hc⟩) (d':=0) rfl ?_
 try walk_nrm
 refine aA hQ EL (Cp _ _) ?_;refine aB hQ EL (Cp _ _) ?_;simp only[yX,yV,zb,Nat.reduceAdd,yZ,bn,a8];refine cJ hQ EL (Cp _ _) rfl rfl (by decide) (DU.F8 .disable (by simp) rfl eC (by kernel_rfl) (by kernel_rfl) (by kernel_rfl) (by kernel_rfl)) (d':=1) rfl ?_
 try walk_nrm
 refine aA hQ EL (Cp _ _) ?_;refine au hQ EL (Cp _ _) ?_;refine aB hQ EL (Cp _ _) ?_;simp only[yX,yV,zb,Nat.reduceAdd,yZ,bn,a8];refine ag hQ EL (Cp _ _) rfl rfl λK hK q1 q2 q3=>?_;go_simp;refine hK _ w ?_ _ ⟨rfl,rfl,rfl⟩;clear hK K q1 q2 q3
 try walk_nrm
 try simp only[ab]
 refine ag hQ EL (Cp _ _) rfl rfl λK hK q1 q2 q3=>?_;go_simp;refine hK _ w ?_ _ ⟨rfl,rfl,rfl⟩;clear hK K q1 q2 q3
 try walk_nrm
 try simp only[ab]
 refine ag hQ EL (Cp _ _) rfl rfl λK hK q1 q2 q3=>?_;go_simp;refine hK _ w ?_ _ ⟨rfl,rfl,rfl⟩;clear hK K q1 q2 q3
 try walk_nrm
 try simp only[ab]
 refine ag hQ EL (Cp _ _) rfl rfl @λτ d K hK q1 q2 q3=>?_;have afF:=run_call_add (P:=a7) Tryz.func145 (by kernel_rfl) (by kernel_rfl) (by kernel_rfl) .i32 (by kernel_rfl) (x:=1) (y:=-1) (s:=0) (w:=on w τ d) hc hz (by rfl);go_simp;refine hK _ (w.setCell _ _) ?_ _ ⟨rfl,rfl,rfl⟩;clear hK K q1 q2 q3
 try walk_nrm
 try simp only[ab]
 refine ag hQ EL (Cp _ _) rfl rfl λK hK q1 q2 q3=>?_;go_simp;refine hK _ _ ?_ _ ⟨rfl,rfl,rfl⟩;clear hK K q1 q2 q3
 try walk_nrm
 try simp only[ab]
 refine aA hQ EL (Cp _ _) ?_
 iterate 2 refine au hQ EL (Cp _ _) ?_
 refine aB hQ EL (Cp _ _) ?_;simp only[yX,yV,zb,Nat.reduceAdd,yZ,bn,a8];refine ag hQ EL (Cp _ _) rfl rfl λK hK q1 q2 q3=>?_;go_simp;refine hK _ _ ?_ _ ⟨rfl,rfl,rfl⟩;clear hK K q1 q2 q3
 try walk_nrm
 try simp only[ab]
 refine ag hQ EL (Cp _ _) rfl rfl λK hK q1 q2 q3=>?_;go_simp;refine hK _ _ ?_ _ ⟨rfl,rfl,rfl⟩;clear hK K q1 q2 q3
 try walk_nrm
 try simp only[ab]
 refine aA hQ EL (Cp _ _) ?_;refine jN hQ EL (Cp _ _) ?_;refine gi hQ EL (Cp _ _) ?_;refine aB hQ EL (Cp _ _) ?_;simp only[yX,yV,zb,Nat.reduceAdd,yZ,bn,a8];refine cJ hQ EL (Cp _ _) rfl rfl (by decide) (DU.F8 .enable (by simp) rfl eF (by kernel_rfl) (by kernel_rfl) (by kernel_rfl) (by kernel_rfl)) (d':=0) rfl ?_
 try walk_nrm
 refine aA hQ EL (Cp _ _) ?_;refine ay hQ EL (by kernel_rfl) λτ d=>?_;rw[dS];simp only[bb];refine⟨(Cp _ _),_,Bm,?_⟩;refine dN hQ EL (by kernel_rfl) λτ d=>?_;refine goes_leave0 rfl rfl dr rfl ⟨hcs,_,Bm,?_⟩;refine aA hQ Oi hcs ?_;refine ay hQ Oi (by kernel_rfl) λτ d=>?_;rw[dS];simp only[bb];refine⟨hcs,_,Bm,.fin (Ie _ _ rfl ⟨rfl,rfl,rfl⟩)⟩
def ZR:List FuncId:=[19,21,18,22,23,26,15,20,24,25,44,45,46,47,48,49,50,51,52,53,54,55,56,34,39,57,58,59,60,61,62,63,64,65,66,67,35,38,40,68,82,85,86,76,87,88,72,89,90,91,92,93,94,95,96,97,73,74,75,77,98,99,100,121,122,123,124,125,126,127,128,129,130,131,132,133,134,135,136,137,143,147,148,149,150,151,152,153,154,155,156,157,158,159,160,168,169,170,171,172]
def JC (f:bA):Bool:=ZR.contains f
def put (f:bA):Bool:=f==45||f==82||f==87||f==88
def ZT (f:bA):Bool:=JC f&&!put f
def Tryz.LR:Tryz.prog.info? big=none:=by kernel_rfl
def Sq.LR:B1.info? big=none:=by kernel_rfl
noncomputable def PW:CL:=⟨B1,Tryz.prog.funcs⟩
def mo {p:Nat->Bool}(h:ZR.all p=bW):∀f,JC f=bW->p f=true:=λf hf=>(zE.1 h) f (by simpa [JC] using hf)
def PY (f:bA):Bool:=f==85||f==86||f==143
def kF {f:bA}(h:(f==6||Im f||f==87||f==88)=br):Tryz.prog.funcs[f]?=B1.funcs[f]?:=by
 rw[Sq.get];cases Tryz.prog.funcs[f]? with
 |none=>rfl
 |some fn =>
  simp only[Au] at h;simp only[zT,QZ,h.1.1.1,h.1.1.2,h.1.2,h.2,Bool.or_self,zg,if_false]
def s6:ZR.all (λf=>I1 B1 JC br f||PY f)=true:=by kernel_rfl
def Rv (f:bA)(h:JC f=bW):I1 B1 JC br f=bW\/PY f=true:=by
 have:=mo s6 f h;simpa using this
def lU {fs:Array Func}{f:bA}(h:PY f=bW)(hfs:fs[85]?=bh Tryz.f85/\fs[86]?=bh Tryz.f86/\fs[143]?=bh eT):MG ⟨B1,fs⟩ f:=by
 unfold PY at h;simp only[zk,beq_iff_eq] at h;rcases h with(rfl|rfl)|rfl
 .exact⟨Tryz.f85,_,Sq.fn ed rfl,hfs.1,by kernel_rfl,by kernel_rfl,by kernel_rfl,by kernel_rfl,.add b7,by kernel_rfl⟩
 .exact⟨Tryz.f86,_,Sq.fn ek rfl,hfs.2.1,by kernel_rfl,by kernel_rfl,by kernel_rfl,by kernel_rfl,.load b7,by kernel_rfl⟩
 .exact⟨eT,_,Sq.fn cq rfl,hfs.2.2,by kernel_rfl,by kernel_rfl,by kernel_rfl,by kernel_rfl,.GU .i32 (by decide),by kernel_rfl⟩
def ur {fs:Array Func} {Fw:Func} (h:fs[83]?=bh Fw) (hn:Fw.name ≠ "runtime.NumGoroutine") (hb:Fw.body.isSome=bW) (f:bA) (hf:aO JC f=bW):G8 ⟨B1,fs⟩ f:=by
 unfold aO at hf;simp only[yY,beq_iff_eq] at hf;obtain⟨rfl,_⟩:=hf;exact⟨_,Fw,_,Sq.put cU rfl,h,by show Tryz.f83.name≠_;decide,hn,rfl,hb⟩
def yv (H:Hid):Lib (CL.of B1) JC H br JC 0:=ow (λf hf=>(Rv f hf).imp_right λh=>lU h ⟨Sq.fn ed rfl,Sq.fn ek rfl,Sq.fn cq rfl⟩)
 (ur (Sq.put cU rfl) (by show Tryz.f83.name≠_;decide) rfl) ⟨zP Sq.globals_size,Sq.LR⟩
def uL:ZR.all (λf=>put f||!(f==6||Im f||f==87||f==88))=true:=by kernel_rfl
def yw (H:Hid):Lib PW JC H br ZT 0:=by
 refine iI (λf hf=>?_) (λf hf hb=>?_) (λf hf=>?_) (ur cU (by decide) rfl) ⟨zP Sq.globals_size,Sq.LR⟩
 .simp only[ZT,yY,zY] at hf;rcases Rv f hf.1 with h|h
  .refine .inl ⟨h,kF ?_⟩;have:=mo uL f hf.1;simpa [hf.2] using this
  .exact .inr (lU h ⟨ed,ek,cq⟩)
 .simp only[ZT,hf,Ap,As,put,zk,beq_iff_eq] at hb;rcases hb with((rfl|rfl)|rfl)|rfl
  .exact⟨_,_,Sq.put c0 rfl,c0,rfl,by show Tryz.f45.name≠_;decide,by decide,rfl,rfl⟩
  .exact⟨_,_,Sq.put eo rfl,eo,rfl,by show Tryz.f82.name≠_;decide,by decide,rfl,rfl⟩
  .exact⟨_,_,Sq.f87,ea,rfl,by show Tryz.f87.name≠_;decide,by decide,rfl,rfl⟩
  .exact⟨_,_,Sq.f88,eb,rfl,by show Tryz.f88.name≠_;decide,by decide,rfl,rfl⟩
 .simp only[ZT,yY] at hf;exact hf.1
def UZ (v:cE)(w:bw):(∃q,v=.pointer (bh q)/\(cu 107 v 1).run B1 w=.ok (.pointer (bh q)) w)\/Ff ((cu 107 v 1).run B1 w):=by
 by_cases h:∃q,v=.pointer (bh q)
 .obtain⟨q,rfl⟩:=h;refine .inl ⟨q,rfl,?_⟩;obtain⟨b,o,sp⟩:=q;go_simp
 .refine .inr ?_;have hs:Instr.sureAddr v=stuck "an address expected (no nilCheck in front?)":=by
   cases v with
   |pointer o=>cases o with
    |none=>rfl
    |some q=>exact absurd ⟨q,rfl⟩ h
   |_=>rfl
  unfold cu;rw[hs];go_simp;simp[Ff,stuck];exact trivial
def Ke (f:bA)(fn:Func)(x y:Int)(hf:B1.funcs[f]?=bh fn)(ht:fn.body=bh (casBody x y))(hn:3<=fn.ntmps)(hr:fn.results=#[]):∃r o1 o2 s,ME B1 f x y fn r o1 o2 s:=by
 refine⟨_,_,_,_,hf,ht,hn,hr,⟨rfl,rfl,rfl,rfl⟩,λa w=>?_,λa q w h2 h3 h4=>?_⟩
 .have e:∀o:eG,o.op=.fieldAddr 107 (.tmp 0) 1->execOp a.eval o=(do let v<-cu 107 (a.eval (.tmp 0)) 1;pure (.value v)):=λo h=>by unfold execOp;rw[h]
  rcases UZ (a.eval (.tmp 0)) w with⟨q,h1,h2⟩|h
  .refine .inl ⟨q,h1,?_⟩;rw[e _ rfl];simp[h2,Result.andThen]
  .refine .inr ?_;rw[e _ rfl];revert h;simp only[Sem.run_bind];generalize (cu 107 (a.eval (.tmp 0)) 1).run B1 w=r;intro h;cases r with
   |ok _ _=>exact h.elim
   |halt _ _=>exact h
 .have e : ∀ o : eG, o.op = .call { callee := .value (.func 143), args := #[.tmp 2, .const (.int .i32 x), .const (.int .i32 y)], argTypes := #[207, 21, 21] } -> execOp a.eval o = callFunc 143 #[.pointer (bh q), .int .i32 x, .int .i32 y] := fun o h => by
   unfold execOp;rw[h];simp[Act.eval,go_sem] at h2 ⊢;rw[h2]
  rw[e _ rfl];rcases UW (Sq.fn cq rfl) (by kernel_rfl) (by kernel_rfl) (by kernel_rfl) (by kernel_rfl) (x:=x) (y:=y) h3 h4 with⟨z,z1,z2⟩|h
  .refine .inl ⟨z,z1,z2,λhz=>?_,λhz=>?_⟩
   .subst hz;exact dy (P:=B1) (Sq.fn cq rfl) (by kernel_rfl) (by kernel_rfl) (by kernel_rfl) .i32 (by kernel_rfl) z1 z2
   .exact run_call_cas_miss (P:=B1) (Sq.fn cq rfl) (by kernel_rfl) (by kernel_rfl) (by kernel_rfl) .i32 (by kernel_rfl) z1 z2 hz
  .exact .inr h
structure Pe (BB:bA->Bool):Prop where
 sub:∀f,JC f=bW->BB f=bW
 X1:BB 119=bW
 X2:BB 120=bW
def oy {BB:bA->Bool}(hL:Pe BB){f:bA}(h:f=87\/f=88):MF PW BB f:=by
 rcases h with rfl|rfl
 .obtain⟨r,o1,o2,s,hp⟩:=Ke 87 BH 0 1 Sq.f87 rfl (by rw[BI];decide) rfl;exact⟨0,1,_,r,o1,o2,s,Tryz.f87,hp,lf (hL.sub 87 (by decide)) hL.X1,ea,rfl⟩
 .obtain⟨r,o1,o2,s,hp⟩:=Ke 88 BE 1 0 Sq.f88 rfl (by rw[BG];decide) rfl;exact⟨1,0,_,r,o1,o2,s,Tryz.f88,hp,iZ (hL.sub 88 (by decide)) hL.X2,eb,rfl⟩
def wP {BB:bA->Bool}{H:Hid}(hL:Pe BB)(hn:H.bl=false:=by rfl):G7 PW JC ZT BB H 0:=by
 refine⟨yv _,yw _,λf hf hb=>?_,hL.sub,hn⟩;rcases hf with hf|hf
 .simp only[ZT,hf,Ap,As,put,zk,beq_iff_eq] at hb;rcases hb with((rfl|rfl)|rfl)|rfl
  .exact .inl ⟨_,_,Sq.put c0 rfl,rfl⟩
  .exact .inl ⟨_,_,Sq.put eo rfl,rfl⟩
  .exact .inr (oy hL (.inl rfl))
  .exact .inr (oy hL (.inr rfl))
 .unfold aO at hf;simp only[yY,beq_iff_eq] at hf;obtain⟨rfl,_⟩:=hf;exact .inl ⟨_,_,Sq.put cU rfl,rfl⟩
def aD:eA->eA
 |.seq a _=>a
 |c=>c
def af:eA->eA
 |.seq _ b=>b
 |c=>c
def H6:eA->eA
 |.block _ b=>b
 |.loop b=>b
 |c=>c
def EP:eA->Array eG
 |.region _ o _=>o
 |_=>#[]
noncomputable def eB:Code:=Tryz.f45.body.getD .skip
noncomputable def eL:Code:=H6 (H6 (af (aD (af (af eB)))))
noncomputable def eI:Code:=H6 (aD (af (af eL)))
noncomputable def o0:Array Oper:=EP (aD eB)
noncomputable def o1:Array Oper:=EP (aD (af eB))
noncomputable def o2:Array Oper:=EP (aD (aD (af (af eB))))
noncomputable def o3:Array Oper:=EP (aD (H6 (H6 (af (aD (af (af eB)))))))
noncomputable def o4:Array Oper:=EP (aD (H6 (aD (af (af (H6 (H6 (af (aD (af (af eB)))))))))))
noncomputable def o5:Array Oper:=EP (aD (af (H6 (aD (af (af (H6 (H6 (af (aD (af (af eB))))))))))))
noncomputable def o6:Array Oper:=EP (aD (aD (af (af (H6 (aD (af (af (H6 (H6 (af (aD (af (af eB))))))))))))))
noncomputable def o7:Array Oper:=EP (aD (af (af (af (H6 (aD (af (af (H6 (H6 (af (aD (af (af eB))))))))))))))
noncomputable def o8:Array Oper:=EP (af (af (af (af (H6 (aD (af (af (H6 (H6 (af (aD (af (af eB))))))))))))))
noncomputable def o9:Array Oper:=EP (af (af (af (H6 (H6 (af (aD (af (af eB)))))))))
noncomputable def J1:Array Oper:=EP (af (af (af eB)))
def yd:Tryz.f45.body=bh (.seq (.region 0 o0 br) (.seq (.region 1 o1 br) (.seq (.seq (.region 2 o2 br) (.block 0 (.loop eL))) (.region 10 J1 br)))):=rfl
def ye:eL=.seq (.region 3 o3 br) (.seq (.cond (.tmp 14) .skip (.exit 0)) (.seq (.block 1 eI) (.region 9 o9 br))):=rfl
def yf:eI=.seq (.region 4 o4 br) (.seq (.region 5 o5 br) (.seq (.seq (.region 6 o6 br) (.cond (.tmp 22) (.exit 1) .skip)) (.seq (.region 7 o7 br) (.region 8 o8 br)))):=rfl
def mp {m:Bool}{b:b8}{a:Act}{k:List er}{cs:List b8}{w:bw}:stepG a7 m (G (b.at a (.code eL::k)) cs) w=.go (G (b.at a (.code (.region 3 o3 br)::.code (.seq (.cond (.tmp 14) .skip (.exit 0)) (.seq (.block 1 eI) (.region 9 o9 br)))::k)) cs) w #[]:=by
 rw[ye];exact b5
def ta {m:Bool}{b:b8}{a:Act}{k:List er}{cs:List b8}{w:bw}:stepG a7 m (G (b.at a (.code eI::k)) cs) w=.go (G (b.at a (.code (.region 4 o4 br)::.code (.seq (.region 5 o5 br) (.seq (.seq (.region 6 o6 br) (.cond (.tmp 22) (.exit 1) .skip)) (.seq (.region 7 o7 br) (.region 8 o8 br))))::k)) cs) w #[]:=by
 rw[yf];exact b5
def uM (w:bw)(o:Obj)(a:Addr):(w.alloc o).cell? a=if a.block=w.heap.size then(match o with|.cells c _ _=>if a.spot.isSome then bo else c[a.off]?|_=>bo) else w.cell? a:=by
 show(match(w.heap.push o)[a.block]? with|some (.cells c _ _)=>if a.spot.isSome then bo else c[a.off]?|_=>bo)=_;rw[Al];by_cases e:a.block=w.heap.size
 .rw[if_pos e,if_pos e];cases o<;>rfl
 .rw[if_neg e,if_neg e];rfl
def aE (w:bw)(o:Obj)(b:Nat):(w.alloc o).heap[b]?=if b=w.heap.size then bh o else w.heap[b]?:=Al ..
def tc (c:b8)(cs:List b8):(c::cs)≠[]:=by simp
def qV (w:bw)(τ:Tape)(d:Nat)(t:TypeId)(z0 z1 z2 z3 z4 y0 y1 y2 y3 y4:cE) :
  Cs (w.alloc (cK #[y0,y1,y2,y3,y4] t)) ((((((on (w.alloc (cK #[z0,z1,z2,z3,z4] t)) τ d).setCell ⟨w.heap.size,0,bo⟩ y0).setCell ⟨w.heap.size,1,bo⟩ y1).setCell ⟨w.heap.size,2,bo⟩ y2).setCell ⟨w.heap.size,3,bo⟩ y3).setCell ⟨w.heap.size,4,bo⟩ y4):=by
 refine⟨?_,rfl,rfl⟩;apply Array.ext_getElem?;intro b;simp only[CW];have e0:(on (w.alloc (cK #[z0,z1,z2,z3,z4] t)) τ d).heap[b]?=if b=w.heap.size then bh (cK #[z0,z1,z2,z3,z4] t) else w.heap[b]?:=aE w _ b
 rw[e0,aE];by_cases e:b=w.heap.size
 .simp only[if_pos e];rfl
 .simp only[if_neg e]
def aI (w:bw)(o:Obj):(w.alloc o).heap.size=w.heap.size+1:=Array.size_push _
def aC (W:bw)(τ:Tape)(d:Nat)(a:Addr):(on W τ d).cell? a=W.cell? a:=rfl
def ao (W:bw)(τ:Tape)(d:Nat):(on W τ d).heap.size=W.heap.size:=rfl
def ar (W:bw)(τ:Tape)(d:Nat)(a:Addr):(on W τ d).frozen? a=W.frozen? a:=rfl
def uN {BB:bA->Bool}(hB:BB 45=bW){Q:b6->bw->Prop}(hQ:∀g w W,Cs w W->Q g w->Q g W){cb:Nat}{f:Fn}{fx fc:Array cE}{cs:List b8}(hcs:cs≠[]){w:bw}
  (h:Ch a7 (Dk a7 BB) Q (G ((base 45).at ⟨#[.pointer (bh ⟨cb,0,bo⟩),.func f fx fc,.pointer (bh ⟨w.heap.size,0,bo⟩),.pointer (bh ⟨w.heap.size+1,0,bo⟩),undef,undef,undef,undef,undef,undef,undef,undef,undef,undef,undef,undef,undef,undef,undef,undef,undef,undef,undef,undef,undef,undef,undef],[]⟩ [.inRegion o1 [0],.code (.seq (.seq (.region 2 o2 br) (.block 0 (.loop eL))) (.region 10 J1 br))]) cs) ((w.alloc (cK #[.pointer (bh ⟨cb,0,bo⟩)] 73)).alloc (cK #[.func f fx fc] 96))) :
  Ch a7 (Dk a7 BB) Q (G (cw a7 45 #[.pointer (bh ⟨cb,0,bo⟩),.func f fx fc] .normal) cs) w:=by
 rw[eH _ c0 yd];simp only[Tryz.ntmps45,yX,yV,zb,Nat.reduceAdd,Nat.reduceSub,zM,zN,zX,zR,Ab,zV];refine Ch.own hQ hB (by kernel_rfl) λτ d=>?_;rw[b5];simp only[bb];refine⟨hcs,w,Bm,?_⟩;refine Ch.own hQ hB (by kernel_rfl) λτ d=>?_;rw[bs];simp only[bb,o0,eB,b9,zc,EP,aD,af,H6,yX,yV,zb,Nat.reduceAdd,yZ,bn,a8];refine⟨hcs,w,Bm,?_⟩;refine Ch.own hQ hB (by kernel_rfl) λτ d=>?_
 refine bc rfl rfl (by decide) (λK hK=>?_);have q1:=aC;have q2:=ao;have q3:=ar;go_simp;refine hK _ _ ⟨hcs,w.alloc _,⟨rfl,rfl,rfl⟩,?_⟩;refine Ch.own hQ hB (by kernel_rfl) λτ d=>?_;refine bc rfl rfl (by decide) (λK hK=>?_);go_simp;refine hK _ _ ⟨hcs,(w.alloc _).alloc _,⟨rfl,rfl,rfl⟩,?_⟩;refine Ch.own hQ hB (by kernel_rfl) λτ d=>?_;rw[bk];simp only[bb];refine⟨hcs,_,Bm,?_⟩
 refine Ch.own hQ hB (by kernel_rfl) λτ d=>?_;rw[b5];simp only[bb];refine⟨hcs,_,Bm,?_⟩;refine Ch.own hQ hB (by kernel_rfl) λτ d=>?_;rw[bs];have s1:o1.size=1:=rfl;simp only[bb,s1,bn,a8];refine⟨hcs,_,Bm,?_⟩;exact h
def pE {m:Bool}{a:Act}{k:List er}{cs:List b8}{W:bw} :
  stepG a7 m (G ((base 45).at a (.inRegion o1 [0]::k)) cs) W=.go (G ((base 45).at (a.put (bh 4) (.pointer (bh ⟨W.heap.size,0,bo⟩))) (.inRegion o1 []::k)) cs) (W.alloc (cK #[.int .u64 0,.int .u32 0] 145)) #[]:=by
 obtain⟨o,h1,h2,h3,h4⟩:∃o,o1[0]?=bh o/\o.op=.alloc 145/\o.dst=bh 4/\o.guard=none:=⟨_,rfl,rfl,rfl,rfl⟩;have hr:(execOp a.eval o).run a7 W=.ok (.value (.pointer (bh ⟨W.heap.size,0,bo⟩))) (W.alloc (cK #[.int .u64 0,.int .u32 0] 145)):=by
  unfold execOp;rw[h2];go_simp
 have he:(execOp a.eval o).events a7 W #[]=#[]:=by
  unfold execOp;rw[h2];simp[go_sem]
 rw[stepG_value h1 (by unfold Region.wanted;rw[h4]) (by decide) hr,h3];have h5:listed a7 (base 45).fn a o W=#[]:=by unfold listed;rw[he];exact seen_none _ _
 rw[h5]
def uO {BB:bA->Bool}(hB:BB 45=bW){Q:b6->bw->Prop}(hQ:∀g w W,Cs w W->Q g w->Q g W){cb sb n c b2 b3 b4:Nat}{p0 p1:cE}{cs:List b8}(hcs:cs≠[]){w:bw}{v0:cE}
  (g1:w.cell? ⟨b2,0,bo⟩=bh (.pointer (bh ⟨cb,0,bo⟩))) (g2:w.cell? ⟨cb,2,bo⟩=bh (.slice (bh ⟨sb,0,bo⟩) n c)) (g3:w.cell? ⟨cb,0,bo⟩=bh v0)
  (h:Ch a7 (Dk a7 BB) Q (G ((base 45).at ⟨#[p0,p1,.pointer (bh ⟨b2,0,bo⟩),.pointer (bh ⟨b3,0,bo⟩),.pointer (bh ⟨b4,0,bo⟩),undef,undef,undef,.pointer (bh ⟨cb,0,bo⟩),.pointer (bh ⟨cb,0,bo⟩),.pointer (bh ⟨cb,2,bo⟩),.slice (bh ⟨sb,0,bo⟩) n c,cf b7 n,cf b7 0,undef,undef,undef,undef,undef,undef,undef,undef,undef,undef,undef,undef,undef],[]⟩ [.code eL,.inLoop eL,.inBlock 0,.code (.region 10 J1 br)]) cs) w) :
  Ch a7 (Dk a7 BB) Q (G ((base 45).at ⟨#[p0,p1,.pointer (bh ⟨b2,0,bo⟩),.pointer (bh ⟨b3,0,bo⟩),.pointer (bh ⟨b4,0,bo⟩),undef,undef,undef,undef,undef,undef,undef,undef,undef,undef,undef,undef,undef,undef,undef,undef,undef,undef,undef,undef,undef,undef],[]⟩ [.inRegion o1 [],.code (.seq (.seq (.region 2 o2 br) (.block 0 (.loop eL))) (.region 10 J1 br))]) cs) w:=by
 refine Ch.own hQ hB (by kernel_rfl) λτ d=>?_;rw[bk];simp only[bb];refine⟨hcs,w,Bm,?_⟩;refine Ch.own hQ hB (by kernel_rfl) λτ d=>?_;rw[b5];simp only[bb];refine⟨hcs,w,Bm,?_⟩;refine Ch.own hQ hB (by kernel_rfl) λτ d=>?_;rw[b5];simp only[bb];refine⟨hcs,w,Bm,?_⟩;refine Ch.own hQ hB (by kernel_rfl) λτ d=>?_;rw[bs];simp only[bb,o2,eB,b9,zc,EP,aD,af,H6,yX,yV,zb,Nat.reduceAdd,yZ,bn,a8]
 refine⟨hcs,w,Bm,?_⟩;refine Ch.own hQ hB (by kernel_rfl) λτ d=>?_;refine bc rfl rfl (by decide) (λK hK=>?_);have q1:=aC;have q2:=ao;have q3:=ar;go_simp;refine hK _ _ ⟨hcs,w,⟨rfl,rfl,rfl⟩,?_⟩;refine Ch.own hQ hB (by kernel_rfl) λτ d=>?_;refine bc rfl rfl (by decide) (λK hK=>?_);have q1:=aC;have q2:=ao;have q3:=ar;go_simp;refine hK _ _ ⟨hcs,w,⟨rfl,rfl,rfl⟩,?_⟩;refine Ch.own hQ hB (by kernel_rfl) λτ d=>?_
 refine bc rfl rfl (by decide) (λK hK=>?_);have q1:=aC;have q2:=ao;have q3:=ar;go_simp;refine hK _ _ ⟨hcs,w,⟨rfl,rfl,rfl⟩,?_⟩;refine Ch.own hQ hB (by kernel_rfl) λτ d=>?_;refine bc rfl rfl (by decide) (λK hK=>?_);have q1:=aC;have q2:=ao;have q3:=ar;go_simp;refine hK _ _ ⟨hcs,w,⟨rfl,rfl,rfl⟩,?_⟩;refine Ch.own hQ hB (by kernel_rfl) λτ d=>?_;refine bc rfl rfl (by decide) (λK hK=>?_)
 have q1:=aC;have q2:=ao;have q3:=ar;go_simp;refine hK _ _ ⟨hcs,w,⟨rfl,rfl,rfl⟩,?_⟩;refine Ch.own hQ hB (by kernel_rfl) λτ d=>?_;refine bc rfl rfl (by decide) (λK hK=>?_);go_simp;refine hK _ _ ⟨hcs,w,⟨rfl,rfl,rfl⟩,?_⟩;refine Ch.own hQ hB (by kernel_rfl) λτ d=>?_;rw[bk];simp only[bb];refine⟨hcs,w,Bm,?_⟩;refine Ch.own hQ hB (by kernel_rfl) λτ d=>?_;rw[stepG_block];simp only[bb]
 refine⟨hcs,w,Bm,?_⟩;refine Ch.own hQ hB (by kernel_rfl) λτ d=>?_;rw[stepG_loop];simp only[bb];refine⟨hcs,w,Bm,?_⟩;exact h
def wQ {BB:bA->Bool}(hB:BB 45=bW){Q:b6->bw->Prop}(hQ:∀g w W,Cs w W->Q g w->Q g W){p0 p1 v5 v6 v7 v8 v9 v10 v14 v15 v16 v17 v18 v19 v20 v21 v22 v23 v24 v25 v26:cE}{b2 b3 b4 cb sb n c i:Nat}{cs:List b8}(hcs:cs≠[]){w:bw}{x:Int}(hi:i<n)(g1:w.cell? ⟨b2,0,bo⟩=bh (.pointer (bh ⟨cb,0,bo⟩)))(g2:w.cell? ⟨sb,i,bo⟩=bh (.int .u8 x))(l2:b2<w.heap.size)
  (h:Ch a7 (Dk a7 BB) Q (G (cw a7 35 #[.pointer (bh ⟨cb,0,bo⟩),.pointer (bh ⟨w.heap.size,0,bo⟩),cf b7 0] .normal) (((base 45).at ⟨#[p0,p1,.pointer (bh ⟨b2,0,bo⟩),.pointer (bh ⟨b3,0,bo⟩),.pointer (bh ⟨b4,0,bo⟩),v5,.int .u8 x,.pointer (bh ⟨w.heap.size,0,bo⟩),v8,v9,v10,.slice (bh ⟨sb,0,bo⟩) n c,cf b7 n,cf b7 i,.bool bW,.pointer (bh ⟨sb,i,bo⟩),.int .u8 x,.int .u8 x,.agg #[.int .u8 x,.int .u8 0,.int .u8 0,.int .u8 0,.int .u8 0],.pointer (bh ⟨cb,0,bo⟩),v20,v21,v22,v23,v24,v25,v26],[]⟩ [.inRegion o6 [1,2,3],.code (.cond (.tmp 22) (.exit 1) .skip),.code (.seq (.region 7 o7 br) (.region 8 o8 br)),.inBlock 1,.code (.region 9 o9 br),.inLoop eL,.inBlock 0,.code (.region 10 J1 br)])::cs)) (w.alloc (cK #[.int .u8 x,.int .u8 0,.int .u8 0,.int .u8 0,.int .u8 0] 76))) :
  Ch a7 (Dk a7 BB) Q (G ((base 45).at ⟨#[p0,p1,.pointer (bh ⟨b2,0,bo⟩),.pointer (bh ⟨b3,0,bo⟩),.pointer (bh ⟨b4,0,bo⟩),v5,v6,v7,v8,v9,v10,.slice (bh ⟨sb,0,bo⟩) n c,cf b7 n,cf b7 i,v14,v15,v16,v17,v18,v19,v20,v21,v22,v23,v24,v25,v26],[]⟩ [.code eL,.inLoop eL,.inBlock 0,.code (.region 10 J1 br)]) cs) w:=by
 refine Ch.own hQ hB (by kernel_rfl) λτ d=>?_;rw[mp];simp only[bb];refine⟨hcs,w,Bm,?_⟩;refine Ch.own hQ hB (by kernel_rfl) λτ d=>?_;rw[bs];simp only[bb,o3,eB,b9,zc,EP,aD,af,H6,yX,yV,zb,Nat.reduceAdd,yZ,bn,a8];refine⟨hcs,w,Bm,?_⟩;refine Ch.own hQ hB (by kernel_rfl) λτ d=>?_;refine bc rfl rfl (by decide) (λK hK=>?_);have q1:=aC;have q2:=ao
 have q3:=ar;go_simp;clear q1 q2 q3;refine hK _ _ ⟨hcs,w,⟨rfl,rfl,rfl⟩,?_⟩;clear hK K
 try walk_nrm
 try simp only[ao]
 refine Ch.own hQ hB (by kernel_rfl) λτ d=>?_;rw[bk];simp only[bb];refine⟨hcs,w,Bm,?_⟩;refine Ch.own hQ hB (by kernel_rfl) λτ d=>?_;rw[b5];simp only[bb];refine⟨hcs,w,Bm,?_⟩;refine Ch.own hQ hB (by kernel_rfl) λτ d=>?_;rw[cF (t:=bW) rfl];simp only[bb,if_true,if_false,zg,↓reduceIte];refine⟨hcs,w,Bm,?_⟩;refine Ch.own hQ hB (by kernel_rfl) λτ d=>?_
 rw[ez];simp only[bb];refine⟨hcs,w,Bm,?_⟩;refine Ch.own hQ hB (by kernel_rfl) λτ d=>?_;rw[b5];simp only[bb];refine⟨hcs,w,Bm,?_⟩;refine Ch.own hQ hB (by kernel_rfl) λτ d=>?_;rw[stepG_block];simp only[bb];refine⟨hcs,w,Bm,?_⟩;refine Ch.own hQ hB (by kernel_rfl) λτ d=>?_;rw[ta];simp only[bb];refine⟨hcs,w,Bm,?_⟩;refine Ch.own hQ hB (by kernel_rfl) λτ d=>?_;rw[bs]
 simp only[bb,o4,eB,b9,zc,EP,aD,af,H6,yX,yV,zb,Nat.reduceAdd,yZ,bn,a8];refine⟨hcs,w,Bm,?_⟩;have Uv:((i:Nat):Int).toNat=i:=by omega
 refine Ch.own hQ hB (by kernel_rfl) λτ d=>?_;refine bc rfl rfl (by decide) (λK hK=>?_);have q1:=aC;have q2:=ao;have q3:=ar;go_simp;clear q1 q2 q3;refine hK _ _ ⟨hcs,w,⟨rfl,rfl,rfl⟩,?_⟩;clear hK K
 try walk_nrm
 try simp only[ao]
 refine Ch.own hQ hB (by kernel_rfl) λτ d=>?_;refine bc rfl rfl (by decide) (λK hK=>?_);have q1:=aC;have q2:=ao;have q3:=ar;go_simp;clear q1 q2 q3;refine hK _ _ ⟨hcs,w,⟨rfl,rfl,rfl⟩,?_⟩;clear hK K
 try walk_nrm
 try simp only[ao]
 refine Ch.own hQ hB (by kernel_rfl) λτ d=>?_;refine bc rfl rfl (by decide) (λK hK=>?_);have q1:=aC;have q2:=ao;have q3:=ar;go_simp;clear q1 q2 q3;refine hK _ _ ⟨hcs,w,⟨rfl,rfl,rfl⟩,?_⟩;clear hK K
 try walk_nrm
 try simp only[ao]
 refine Ch.own hQ hB (by kernel_rfl) λτ d=>?_;rw[bk];simp only[bb];refine⟨hcs,w,Bm,?_⟩;refine Ch.own hQ hB (by kernel_rfl) λτ d=>?_;rw[b5];simp only[bb];refine⟨hcs,w,Bm,?_⟩;refine Ch.own hQ hB (by kernel_rfl) λτ d=>?_;rw[bs];simp only[bb,o5,eB,b9,zc,EP,aD,af,H6,yX,yV,zb,Nat.reduceAdd,yZ,bn,a8];refine⟨hcs,w,Bm,?_⟩;refine Ch.own hQ hB (by kernel_rfl) λτ d=>?_
 refine bc rfl rfl (by decide) (λK hK=>?_);have q1:=aC;have q2:=ao;have q3:=ar;go_simp;clear q1 q2 q3;refine hK _ _ ⟨hcs,w,⟨rfl,rfl,rfl⟩,?_⟩;clear hK K
 try walk_nrm
 try simp only[ao]
 refine Ch.own hQ hB (by kernel_rfl) λτ d=>?_;refine bc rfl rfl (by decide) (λK hK=>?_);have q1:=aC;have q2:=ao;have q3:=ar;go_simp;clear q1 q2 q3;refine hK _ _ ⟨hcs,w,⟨rfl,rfl,rfl⟩,?_⟩;clear hK K
 try walk_nrm
 try simp only[ao]
 refine Ch.own hQ hB (by kernel_rfl) λτ d=>?_;refine bc rfl rfl (by decide) (λK hK=>?_);have q1:=aC;have q2:=ao;have q3:=ar;go_simp;clear q1 q2 q3;refine hK _ _ ⟨hcs,w.alloc _,⟨rfl,rfl,rfl⟩,?_⟩;clear hK K
 try walk_nrm
 try simp only[ao]
 refine Ch.own hQ hB (by kernel_rfl) λτ d=>?_;refine bc rfl rfl (by decide) (λK hK=>?_);have q1:=aC;have q2:=ao;have q3:=ar;go_simp;clear q1 q2 q3;refine hK _ _ ⟨hcs,_,qV w τ d _ _ _ _ _ _ _ _ _ _ _,?_⟩;clear hK K
 try walk_nrm
 generalize hW:w.alloc (cK #[.int .u8 x,.int .u8 0,.int .u8 0,.int .u8 0,.int .u8 0] 76)=W at h ⊢;have g3:W.cell? ⟨b2,0,bo⟩=bh (.pointer (bh ⟨cb,0,bo⟩)):=by rw[<-hW,<-g1];simp only[uM];rw[if_neg (by omega)]
 clear g1 g2;refine Ch.own hQ hB (by kernel_rfl) λτ d=>?_;rw[bk];simp only[bb];refine⟨hcs,W,Bm,?_⟩;refine Ch.own hQ hB (by kernel_rfl) λτ d=>?_;rw[b5];simp only[bb];refine⟨hcs,W,Bm,?_⟩;refine Ch.own hQ hB (by kernel_rfl) λτ d=>?_;rw[b5];simp only[bb];refine⟨hcs,W,Bm,?_⟩;refine Ch.own hQ hB (by kernel_rfl) λτ d=>?_;rw[bs];simp only[bb,o6,eB,b9,zc,EP,aD,af,H6,yX,yV,zb,Nat.reduceAdd,yZ,bn,a8]
 refine⟨hcs,W,Bm,?_⟩;refine Ch.own hQ hB (by kernel_rfl) λτ d=>?_;refine bc rfl rfl (by decide) (λK hK=>?_);have q1:=aC;have q2:=ao;have q3:=ar;go_simp;clear q1 q2 q3;refine hK _ _ ⟨hcs,W,⟨rfl,rfl,rfl⟩,?_⟩;clear hK K
 try walk_nrm
 try simp only[ao]
 refine Ch.own hQ hB (by kernel_rfl) λτ d=>?_;refine aF rfl rfl (by decide) rfl Tryz.func35 (by kernel_rfl) (by kernel_rfl) ⟨tc _ _,W,Bm,?_⟩
 try walk_nrm
 exact h
def uP {BB:bA->Bool}(hB:BB 45=bW){Q:b6->bw->Prop}(hQ:∀g w W,Cs w W->Q g w->Q g W){p0 p1 v5 v6 v7 v8 v9 v10 v14 v15 v16 v17 v18 v19 v20 v21 v22 v23 v24 v25 v26:cE}{b2 b3 b4 cb sb n c i:Nat}{cs:List b8}(hcs:cs≠[]){w:bw}{k:Int}{y1 y2:cE}(hw:IntKind.i64.wrap ((i:Int)+1)=((i+1:Nat):Int))(hk:k≠0)
  (h:Ch a7 (Dk a7 BB) Q (G ((base 45).at ⟨#[p0,p1,.pointer (bh ⟨b2,0,bo⟩),.pointer (bh ⟨b3,0,bo⟩),.pointer (bh ⟨b4,0,bo⟩),v5,v6,v7,v8,v9,v10,.slice (bh ⟨sb,0,bo⟩) n c,cf b7 n,cf b7 ((i+1:Nat):Int),v14,v15,v16,v17,v18,v19,.agg #[cf b7 k,y1,y2],cf b7 k,.bool bW,v23,v24,cf b7 ((i+1:Nat):Int),v26],[]⟩ [.code eL,.inLoop eL,.inBlock 0,.code (.region 10 J1 br)]) cs) w) :
  Ch a7 (Dk a7 BB) Q (G ((base 45).at ⟨#[p0,p1,.pointer (bh ⟨b2,0,bo⟩),.pointer (bh ⟨b3,0,bo⟩),.pointer (bh ⟨b4,0,bo⟩),v5,v6,v7,v8,v9,v10,.slice (bh ⟨sb,0,bo⟩) n c,cf b7 n,cf b7 i,v14,v15,v16,v17,v18,v19,.agg #[cf b7 k,y1,y2],v21,v22,v23,v24,v25,v26],[]⟩ [.inRegion o6 [2,3],.code (.cond (.tmp 22) (.exit 1) .skip),.code (.seq (.region 7 o7 br) (.region 8 o8 br)),.inBlock 1,.code (.region 9 o9 br),.inLoop eL,.inBlock 0,.code (.region 10 J1 br)]) cs) w:=by
 simp only[o6,eB,b9,zc,EP,aD,af,H6];refine Ch.own hQ hB (by kernel_rfl) λτ d=>?_;refine bc rfl rfl (by decide) (λK hK=>?_);have q1:=aC;have q2:=ao;have q3:=ar;go_simp;clear q1 q2 q3;refine hK _ _ ⟨hcs,w,⟨rfl,rfl,rfl⟩,?_⟩;clear hK K
 try walk_nrm
 try simp only[ao]
 refine Ch.own hQ hB (by kernel_rfl) λτ d=>?_;refine bc rfl rfl (by decide) (λK hK=>?_);have q1:=aC;have q2:=ao;have q3:=ar;go_simp;clear q1 q2 q3;refine hK _ _ ⟨hcs,w,⟨rfl,rfl,rfl⟩,?_⟩;clear hK K
 try walk_nrm
 try simp only[ao]
 refine Ch.own hQ hB (by kernel_rfl) λτ d=>?_;rw[bk];simp only[bb];refine⟨hcs,w,Bm,?_⟩;refine Ch.own hQ hB (by kernel_rfl) λτ d=>?_;rw[cF (t:=bW) (by simp[Act.eval,hk])];simp only[bb,if_true,if_false,zg,↓reduceIte];refine⟨hcs,w,Bm,?_⟩;refine Ch.own hQ hB (by kernel_rfl) λτ d=>?_;rw[stepG_exit rfl];simp only[bb];refine⟨hcs,w,Bm,?_⟩;refine Ch.own hQ hB (by kernel_rfl) λτ d=>?_
 rw[bs];simp only[bb,o9,eB,b9,zc,EP,aD,af,H6,yX,yV,zb,Nat.reduceAdd,yZ,bn,a8];refine⟨hcs,w,Bm,?_⟩;refine Ch.own hQ hB (by kernel_rfl) λτ d=>?_;refine bc rfl rfl (by decide) (λK hK=>?_);have q1:=aC;have q2:=ao;have q3:=ar;go_simp;clear q1 q2 q3;refine hK _ _ ⟨hcs,w,⟨rfl,rfl,rfl⟩,?_⟩;clear hK K
 try walk_nrm
 try simp only[ao]
 try rw[hw]
 refine Ch.own hQ hB (by kernel_rfl) λτ d=>?_;refine bc rfl rfl (by decide) (λK hK=>?_);have q1:=aC;have q2:=ao;have q3:=ar;go_simp;clear q1 q2 q3;refine hK _ _ ⟨hcs,w,⟨rfl,rfl,rfl⟩,?_⟩;clear hK K
 try walk_nrm
 try simp only[ao]
 refine Ch.own hQ hB (by kernel_rfl) λτ d=>?_;rw[bk];simp only[bb];refine⟨hcs,w,Bm,?_⟩;refine Ch.own hQ hB (by kernel_rfl) λτ d=>?_;rw[stepG_inLoop];simp only[bb];refine⟨hcs,w,Bm,?_⟩;simpa [show(k != 0)=bW by simp[hk]] using h
def uQ {BB:bA->Bool}(hB:BB 45=bW){Q:b6->bw->Prop}(hQ:∀g w W,Cs w W->Q g w->Q g W){p0 p1 v5 v6 v7 v8 v9 v10 v14 v15 v16 v17 v18 v19 v20 v21 v22 v23 v24 v25 v26:cE}{b2 b3 b4 cb sb n c i:Nat}{cs:List b8}(hcs:cs≠[]){w:bw}{y1 y2:cE}
  (h:Ch a7 (Dk a7 BB) Q (G (cw a7 81 #[.pointer (bh ⟨b4,0,bo⟩),cf b7 1] .normal) (((base 45).at ⟨#[p0,p1,.pointer (bh ⟨b2,0,bo⟩),.pointer (bh ⟨b3,0,bo⟩),.pointer (bh ⟨b4,0,bo⟩),v5,v6,v7,v8,v9,v10,.slice (bh ⟨sb,0,bo⟩) n c,cf b7 n,cf b7 i,v14,v15,v16,v17,v18,v19,.agg #[cf b7 0,y1,y2],cf b7 0,.bool br,v23,v24,v25,v26],[]⟩ [.inRegion o7 [0],.code (.region 8 o8 br),.inBlock 1,.code (.region 9 o9 br),.inLoop eL,.inBlock 0,.code (.region 10 J1 br)])::cs)) w) :
  Ch a7 (Dk a7 BB) Q (G ((base 45).at ⟨#[p0,p1,.pointer (bh ⟨b2,0,bo⟩),.pointer (bh ⟨b3,0,bo⟩),.pointer (bh ⟨b4,0,bo⟩),v5,v6,v7,v8,v9,v10,.slice (bh ⟨sb,0,bo⟩) n c,cf b7 n,cf b7 i,v14,v15,v16,v17,v18,v19,.agg #[cf b7 0,y1,y2],v21,v22,v23,v24,v25,v26],[]⟩ [.inRegion o6 [2,3],.code (.cond (.tmp 22) (.exit 1) .skip),.code (.seq (.region 7 o7 br) (.region 8 o8 br)),.inBlock 1,.code (.region 9 o9 br),.inLoop eL,.inBlock 0,.code (.region 10 J1 br)]) cs) w:=by
 simp only[o6,eB,b9,zc,EP,aD,af,H6];refine Ch.own hQ hB (by kernel_rfl) λτ d=>?_;refine bc rfl rfl (by decide) (λK hK=>?_);have q1:=aC;have q2:=ao;have q3:=ar;go_simp;clear q1 q2 q3;refine hK _ _ ⟨hcs,w,⟨rfl,rfl,rfl⟩,?_⟩;clear hK K
 try walk_nrm
 try simp only[ao]
 refine Ch.own hQ hB (by kernel_rfl) λτ d=>?_;refine bc rfl rfl (by decide) (λK hK=>?_);have q1:=aC;have q2:=ao;have q3:=ar;go_simp;clear q1 q2 q3;refine hK _ _ ⟨hcs,w,⟨rfl,rfl,rfl⟩,?_⟩;clear hK K
 try walk_nrm
 try simp only[ao]
 refine Ch.own hQ hB (by kernel_rfl) λτ d=>?_;rw[bk];simp only[bb];refine⟨hcs,w,Bm,?_⟩;refine Ch.own hQ hB (by kernel_rfl) λτ d=>?_;rw[cF (t:=br) rfl];simp only[bb,if_true,if_false,zg,↓reduceIte];refine⟨hcs,w,Bm,?_⟩;refine Ch.own hQ hB (by kernel_rfl) λτ d=>?_;rw[ez];simp only[bb];refine⟨hcs,w,Bm,?_⟩;refine Ch.own hQ hB (by kernel_rfl) λτ d=>?_
 rw[b5];simp only[bb];refine⟨hcs,w,Bm,?_⟩;refine Ch.own hQ hB (by kernel_rfl) λτ d=>?_;rw[bs];have s7:o7.size=1:=rfl;simp only[bb,s7,bn,a8];refine⟨hcs,w,Bm,?_⟩;refine Ch.own hQ hB (by kernel_rfl) λτ d=>?_;refine aF rfl rfl (by decide) rfl Tryz.func81 (by kernel_rfl) (by kernel_rfl) ⟨tc _ _,w,Bm,?_⟩
 try walk_nrm
 simpa using h
def wR {BB:bA->Bool}(hB:BB 45=bW){Q:b6->bw->Prop}(hQ:∀g w W,Cs w W->Q g w->Q g W){p0 p1 v5 v6 v7 v8 v9 v10 v14 v15 v16 v17 v18 v19 v20 v21 v22 v23 v24 v25 v26:cE}{b2 b3 b4 cb sb n c i:Nat}{cs:List b8}(hcs:cs≠[]){w:bw}
  (h:Ch a7 (Dk a7 BB) Q (G ((base 45).at ⟨#[p0,p1,.pointer (bh ⟨b2,0,bo⟩),.pointer (bh ⟨b3,0,bo⟩),.pointer (bh ⟨b4,0,bo⟩),v5,v6,v7,v8,v9,v10,.slice (bh ⟨sb,0,bo⟩) n c,cf b7 n,cf b7 i,v14,v15,v16,v17,v18,v19,v20,v21,v22,v23,.func (.func 82) #[] #[.pointer (bh ⟨b4,0,bo⟩),.pointer (bh ⟨b2,0,bo⟩),v7,.pointer (bh ⟨b3,0,bo⟩)],v25,v26],[]⟩ [.inRegion o8 [1],.inBlock 1,.code (.region 9 o9 br),.inLoop eL,.inBlock 0,.code (.region 10 J1 br)]) cs) w) :
  Ch a7 (Dk a7 BB) Q (G ((base 45).at ⟨#[p0,p1,.pointer (bh ⟨b2,0,bo⟩),.pointer (bh ⟨b3,0,bo⟩),.pointer (bh ⟨b4,0,bo⟩),v5,v6,v7,v8,v9,v10,.slice (bh ⟨sb,0,bo⟩) n c,cf b7 n,cf b7 i,v14,v15,v16,v17,v18,v19,v20,v21,v22,v23,v24,v25,v26],[]⟩ [.inRegion o7 [],.code (.region 8 o8 br),.inBlock 1,.code (.region 9 o9 br),.inLoop eL,.inBlock 0,.code (.region 10 J1 br)]) cs) w:=by
 refine Ch.own hQ hB (by kernel_rfl) λτ d=>?_;rw[bk];simp only[bb];refine⟨hcs,w,Bm,?_⟩;refine Ch.own hQ hB (by kernel_rfl) λτ d=>?_;rw[bs];have s8:o8.size=2:=rfl;simp only[bb,s8,bn,a8];refine⟨hcs,w,Bm,?_⟩;simp only[o8,eB,b9,zc,EP,aD,af,H6] at h ⊢;refine Ch.own hQ hB (by kernel_rfl) λτ d=>?_;refine bc rfl rfl (by decide) (λK hK=>?_)
 have q1:=aC;have q2:=ao;have q3:=ar;go_simp;clear q1 q2 q3;refine hK _ _ ⟨hcs,w,⟨rfl,rfl,rfl⟩,?_⟩;clear hK K
 try walk_nrm
 try simp only[ao]
 exact h
def wS {BB:bA->Bool}(hB:BB 45=bW){Q:b6->bw->Prop}(hQ:∀g w W,Cs w W->Q g w->Q g W){p0 p1 v5 v6 v7 v8 v9 v10 v14 v15 v16 v17 v18 v19 v20 v21 v22 v23 v24 v25 v26:cE}{b2 b3 b4 cb sb n c i:Nat}{cs:List b8}(hcs:cs≠[]){w:bw}(hw:IntKind.i64.wrap ((i:Int)+1)=((i+1:Nat):Int))
  (h:Ch a7 (Dk a7 BB) Q (G ((base 45).at ⟨#[p0,p1,.pointer (bh ⟨b2,0,bo⟩),.pointer (bh ⟨b3,0,bo⟩),.pointer (bh ⟨b4,0,bo⟩),v5,v6,v7,v8,v9,v10,.slice (bh ⟨sb,0,bo⟩) n c,cf b7 n,cf b7 ((i+1:Nat):Int),v14,v15,v16,v17,v18,v19,v20,v21,v22,v23,v24,cf b7 ((i+1:Nat):Int),v26],[]⟩ [.code eL,.inLoop eL,.inBlock 0,.code (.region 10 J1 br)]) cs) w) :
  Ch a7 (Dk a7 BB) Q (G ((base 45).at ⟨#[p0,p1,.pointer (bh ⟨b2,0,bo⟩),.pointer (bh ⟨b3,0,bo⟩),.pointer (bh ⟨b4,0,bo⟩),v5,v6,v7,v8,v9,v10,.slice (bh ⟨sb,0,bo⟩) n c,cf b7 n,cf b7 i,v14,v15,v16,v17,v18,v19,v20,v21,v22,v23,v24,v25,v26],[]⟩ [.inRegion o8 [],.inBlock 1,.code (.region 9 o9 br),.inLoop eL,.inBlock 0,.code (.region 10 J1 br)]) cs) w:=by
 refine Ch.own hQ hB (by kernel_rfl) λτ d=>?_;rw[bk];simp only[bb];refine⟨hcs,w,Bm,?_⟩;refine Ch.own hQ hB (by kernel_rfl) λτ d=>?_;rw[stepG_inBlock];simp only[bb];refine⟨hcs,w,Bm,?_⟩;refine Ch.own hQ hB (by kernel_rfl) λτ d=>?_;rw[bs];simp only[bb,o9,eB,b9,zc,EP,aD,af,H6,yX,yV,zb,Nat.reduceAdd,yZ,bn,a8];refine⟨hcs,w,Bm,?_⟩
 refine Ch.own hQ hB (by kernel_rfl) λτ d=>?_;refine bc rfl rfl (by decide) (λK hK=>?_);have q1:=aC;have q2:=ao;have q3:=ar;go_simp;clear q1 q2 q3;refine hK _ _ ⟨hcs,w,⟨rfl,rfl,rfl⟩,?_⟩;clear hK K
 try walk_nrm
 try simp only[ao]
 try rw[hw]
 refine Ch.own hQ hB (by kernel_rfl) λτ d=>?_;refine bc rfl rfl (by decide) (λK hK=>?_);have q1:=aC;have q2:=ao;have q3:=ar;go_simp;clear q1 q2 q3;refine hK _ _ ⟨hcs,w,⟨rfl,rfl,rfl⟩,?_⟩;clear hK K
 try walk_nrm
 try simp only[ao]
 refine Ch.own hQ hB (by kernel_rfl) λτ d=>?_;rw[bk];simp only[bb];refine⟨hcs,w,Bm,?_⟩;refine Ch.own hQ hB (by kernel_rfl) λτ d=>?_;rw[stepG_inLoop];simp only[bb];refine⟨hcs,w,Bm,?_⟩;exact h
def wT {BB:bA->Bool}(hB:BB 45=bW){Q:b6->bw->Prop}(hQ:∀g w W,Cs w W->Q g w->Q g W){p0 p1 v5 v6 v7 v8 v9 v10 v14 v15 v16 v17 v18 v19 v20 v21 v22 v23 v24 v25 v26:cE}{b2 b3 b4 cb sb n c i:Nat}{cs:List b8}(hcs:cs≠[]){w:bw}(hi:¬i<n)
  (h:Ch a7 (Dk a7 BB) Q (G (cw a7 84 #[.pointer (bh ⟨b4,0,bo⟩)] .normal) (((base 45).at ⟨#[p0,p1,.pointer (bh ⟨b2,0,bo⟩),.pointer (bh ⟨b3,0,bo⟩),.pointer (bh ⟨b4,0,bo⟩),v5,v6,v7,v8,v9,v10,.slice (bh ⟨sb,0,bo⟩) n c,cf b7 n,cf b7 i,.bool br,v15,v16,v17,v18,v19,v20,v21,v22,v23,v24,v25,v26],[]⟩ [.inRegion J1 [0]])::cs)) w) :
  Ch a7 (Dk a7 BB) Q (G ((base 45).at ⟨#[p0,p1,.pointer (bh ⟨b2,0,bo⟩),.pointer (bh ⟨b3,0,bo⟩),.pointer (bh ⟨b4,0,bo⟩),v5,v6,v7,v8,v9,v10,.slice (bh ⟨sb,0,bo⟩) n c,cf b7 n,cf b7 i,v14,v15,v16,v17,v18,v19,v20,v21,v22,v23,v24,v25,v26],[]⟩ [.code eL,.inLoop eL,.inBlock 0,.code (.region 10 J1 br)]) cs) w:=by
 refine Ch.own hQ hB (by kernel_rfl) λτ d=>?_;rw[mp];simp only[bb];refine⟨hcs,w,Bm,?_⟩;refine Ch.own hQ hB (by kernel_rfl) λτ d=>?_;rw[bs];simp only[bb,o3,eB,b9,zc,EP,aD,af,H6,yX,yV,zb,Nat.reduceAdd,yZ,bn,a8];refine⟨hcs,w,Bm,?_⟩;refine Ch.own hQ hB (by kernel_rfl) λτ d=>?_;refine bc rfl rfl (by decide) (λK hK=>?_);have q1:=aC;have q2:=ao
 have q3:=ar;go_simp;clear q1 q2 q3;refine hK _ _ ⟨hcs,w,⟨rfl,rfl,rfl⟩,?_⟩;clear hK K
 try walk_nrm
 try simp only[ao]
 refine Ch.own hQ hB (by kernel_rfl) λτ d=>?_;rw[bk];simp only[bb];refine⟨hcs,w,Bm,?_⟩;refine Ch.own hQ hB (by kernel_rfl) λτ d=>?_;rw[b5];simp only[bb];refine⟨hcs,w,Bm,?_⟩;refine Ch.own hQ hB (by kernel_rfl) λτ d=>?_;rw[cF (t:=br) rfl];simp only[bb,if_true,if_false,zg,↓reduceIte];refine⟨hcs,w,Bm,?_⟩;refine Ch.own hQ hB (by kernel_rfl) λτ d=>?_
 rw[stepG_exit rfl];simp only[bb];refine⟨hcs,w,Bm,?_⟩;refine Ch.own hQ hB (by kernel_rfl) λτ d=>?_;rw[bs];have s10:J1.size=1:=rfl;simp only[bb,s10,bn,a8];refine⟨hcs,w,Bm,?_⟩;refine Ch.own hQ hB (by kernel_rfl) λτ d=>?_;refine aF rfl rfl (by decide) rfl Tryz.func84 (by kernel_rfl) (by kernel_rfl) ⟨tc _ _,w,Bm,?_⟩
 try walk_nrm
 exact h
def wU {BB:bA->Bool}(hB:BB 45=bW){Q:b6->bw->Prop}(hQ:∀g w W,Cs w W->Q g w->Q g W){a:Act}(hd:a.defers=[]){cs:List b8}(hcs:cs≠[]){w:bw}
  (h:∀a':Act,a'.defers=[]->Q (G { (base 45).at a' [] with mode:=.returning } cs) w) :
  Ch a7 (Dk a7 BB) Q (G (((base 45).at a [.inRegion J1 [0]]).finish (.tuple #[])) cs) w:=by
 rw[Frame.finish_at];refine Ch.own hQ hB (by kernel_rfl) λτ d=>?_;rw[bk];simp only[bb];refine⟨hcs,w,Bm,?_⟩;refine Ch.own hQ hB (by kernel_rfl) λτ d=>?_;rw[dS];simp only[bb];refine⟨hcs,w,Bm,.fin ?_⟩;refine h _ ?_;cases(J1[0]?.bind (·.dst))<;>exact hd
end Go.Sq
