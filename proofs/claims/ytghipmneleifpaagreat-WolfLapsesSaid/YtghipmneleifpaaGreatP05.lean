/- Parts of the proof. -/
import Derived.Test.YtghipmneleifpaaGreatP04
import Derived.Test.YtghipmneleifpaaGreatP00
import GoSem.Extern.Atomic
import Derived.Conc.CrowdTrace
set_option linter.all false
open Go.Extern.Atomic renaming touchesFrozen->a6,read->bb,casT->bD,update->b9,loadT->cf
open Bool renaming false->a7,true->a8
open Option renaming some->bc,none->b7
open Go renaming Goroutine->bh,World->bn,FuncId->bo,Value->bw,unsupported->bA,Frame->bW,Program->b5,IntKind->cw,callFunc->df,frozen->dr,Code->ed,Addr->ek,doReturn->ez
open Go.Value renaming pointer->bk,bool->cu
open Go.Result renaming andThen->bq,ok->eT
open Go.Frame renaming enter->br,todo->eC,mode->eG
open Classical renaming choose_spec->bs,choose->cr
open Go.Conc renaming getElem?_append_cases->b6,noRace_append->cK,stepG_region_end->dn,stepG_value->dy
open Go.Sem renaming run->b8,runT_fst->er
open Option.some renaming injEq->cq,inj->e7
open Go.Mode renaming atomic->cE
open Array renaming sizeOf_getElem->cF,getD->c0,replicate->dS,ofFn->eH
open SizeOf renaming sizeOf->cU
namespace Go.Ct
open Go.Conc
def Fatal:Halt->Prop
 |.stuck _=>True
 |.unsupported u=>∀g,u≠.initOrder g
 |_=>False
def Ff {α:Type}:Result α->Prop
 |.halt h _=>Fatal h
 |_=>False
section
variable {p:b5}
def UW {c:bo} {fc:Func} (hf:p.funcs[c]?=bc fc) (hname:(fc.name == "runtime.NumGoroutine")=a7) (hb:fc.body.isNone=a8) (hn:Extern.findNext fc=b7) (he:Extern.find fc=bc (bD (.int .i32)))
  {a:ek} {w:bn} {x y:Int} (h1:∃s,w.farLoad p a a8=.error (.stuck s)) (h2:∀t u,w.heap[a.block]?≠bc (.view t u)) :
  (∃z,w.cell? a=bc (.int .i32 z)/\w.frozen? a=a7)\/Ff ((df c #[.pointer (bc a),.int .i32 x,.int .i32 y]).run p w):=by
 obtain⟨s,h1⟩:=h1;rw[run_callFunc_extern hf hname hb hn he]
 have e0:(bD (.int .i32) #[.pointer (bc a),.int .i32 x,.int .i32 y])=(do
  let a'<-asAddr (.pointer (bc a))
  if<-a6 a' then bA (.unsafePointer "a write to bytes that a string shares")
  let eq<-match Extern.Atomic.T.int .i32,<-bb (.int .i32) a',Value.int .i32 x with
   |_,.int _ x,.int _ y=>pure (x==y)
   |.ptr,.pointer x,.pointer y=>samePointer x y
   |.int _,.pointer (bc _),.int _ 0|.int _,.int _ 0,.pointer (bc _)=>pure a7
   |.int _,.pointer (bc _),_|.int _,_,.pointer (bc _)=>bA .addressObserved
   |_,_,_=>stuck "atomic.CompareAndSwap: old is no T"
  if eq then store a' (.int .i32 y) .atomic
  pure (cu eq)):=rfl
 rw[e0];by_cases hv:∃o,w.shape? a.block=b7/\w.heap[a.block]?=o/\(o=b7\/∃c t f,o=bc (.cells c t f))
 .obtain⟨o,q1,q2,q3⟩:=hv;refine .inr ?_;rcases q3 with rfl|⟨c,t,f,rfl⟩
  .simp[a6,asAddr,viewAt,shape,getObj,b8,q1,q2,bq,Ff,Fatal,stuck,bA]
  .simp[a6,asAddr,viewAt,shape,getObj,b8,q1,q2,bq,Ff,Fatal,stuck,bA]
 have MD:(viewAt a.block).run p w=.ok b7 w:=by
  cases hs:w.shape? a.block with
  |some z=>simp[viewAt,shape,b8,hs,bq]
  |none =>
   cases ho:w.heap[a.block]? with
   |none=>exact absurd ⟨_,hs,ho,.inl rfl⟩ hv
   |some o =>
    cases o with
    |cells c t f=>exact absurd ⟨_,hs,ho,.inr ⟨_,_,_,rfl⟩⟩ hv
    |view t u=>exact absurd ho (h2 t u)
    |_=>simp[viewAt,shape,getObj,b8,hs,ho,bq]
 cases hz:w.frozen? a with
 |true=>exact .inr (by simp[a6,asAddr,MD,hz,frozen,b8,bq,Ff,Fatal,stuck,bA])
 |false =>
  cases hc:w.cell? a with
  |none =>
   have hl:(load a .atomic).run p w=.halt (.stuck s) w:=by
    have:(cE==cE)=true:=rfl;simp[load,b8,hc,this,h1]
   exact .inr (by simp[a6,bb,asAddr,MD,hz,frozen,b8,hl,bq,Ff,Fatal,stuck,bA])
  |some v =>
   have hl:(load a .atomic).run p w=.ok v w:=by simp[load,b8,hc]
   cases v with
   |int k z =>
    by_cases hk:k=.i32
    .subst hk;exact .inl ⟨z,rfl,rfl⟩
    .have E5:¬IntKind.i32=k:=λe=>hk e.symm;exact .inr (by simp[a6,bb,asAddr,MD,hz,frozen,b8,hl,E5,bq,Ff,Fatal,stuck,bA])
   |pointer q=>cases q<;>exact .inr (by simp[a6,bb,asAddr,MD,hz,frozen,b8,hl,bq,Ff,Fatal,stuck,bA])
   |_=>exact .inr (by simp[a6,bb,asAddr,MD,hz,frozen,b8,hl,bq,Ff,Fatal,stuck,bA])
def jL {main:Bool}{b:bW}{a:Act}{ops:Array Oper}{i:Nat}{rest:List Nat}{k:List Item}{cs:List bW}{w:bn}{o:Oper}(ho:ops[i]?=bc o)(hw:Region.wanted o (yielded ops a.tmps)=a8)(hk:b.kind≠.early)
  (h:Ff ((execOp a.eval o).run p w)) {g':bh} {w':bn} {es:Array Event}:stepG p main (C6 (b.at a (.inRegion ops (i::rest)::k)) cs) w≠.go g' w' es:=by
 intro e;have e':=(stepG_oper (P:=p) (main:=main) (b:=b) (a:=a) (k:=k) (cs:=cs) (w:=w) ho hw).symm.trans e;have E5:(b.kind==CallKind.early)=false:=by simpa using hk
 unfold stepG.apply at e';rw[<-er p _ w #[]] at h;simp only[if_true,Frame.at,E5,zg,if_false] at e';revert e' h;rcases(execOp a.eval o).runT p w #[] with⟨r,es⟩
 intro h e';cases r with
 |ok v w'=>exact h.elim
 |halt x w' =>
  cases x with
  |stuck s=>cases e'
  |unsupported u =>
   cases u with
   |initOrder g=>exact absurd rfl (h g)
   |_=>cases e'
  |_=>exact h.elim
structure ME (p:b5)(f:bo)(x y:Int)(fn:Func)(r:Nat)(o1 o2:Oper)(s:String):Prop where
 func:p.funcs[f]?=bc fn
 text:fn.body=bc (.seq (.region r #[o1,o2] a7) (.cond (.tmp 1) .ret (.refuse s)))
 room:3<=fn.ntmps
 res:fn.results=#[]
 free:o1.guard=b7/\o1.dst=bc 2/\o2.guard=b7/\o2.dst=bc 1
 one:∀(a:Act) w,(∃q,a.eval (.tmp 0)=.pointer (bc q)/\(execOp a.eval o1).run p w=.ok (.value (.pointer (bc q))) w)\/Ff ((execOp a.eval o1).run p w)
 two:∀(a:Act) q w,a.eval (.tmp 2)=.pointer (bc q)->(∃s,w.farLoad p q a8=.error (.stuck s))->(∀t u,w.heap[q.block]?≠bc (.view t u)) ->
  (∃z,w.cell? q=bc (.int .i32 z)/\w.frozen? q=a7/\(z=x->(execOp a.eval o2).run p w=.ok (.value (.bool a8)) (w.setCell q (.int .i32 y)))/\(z≠x->(execOp a.eval o2).run p w=.ok (.value (.bool a7)) w))\/Ff ((execOp a.eval o2).run p w)
variable {f:bo} {x y:Int} {fn:Func} {r:Nat} {o1 o2:Oper} {s:String} {args:Array bw} {k:CallKind} {cs:List bW} {w:bn}
def nH (h:ME p f x y fn r o1 o2 s):br p f args k={ base f with kind:=k }.at { tmps:=args++dS (fn.ntmps-args.size) undef,defers:=[] } [.code (.seq (.region r #[o1,o2] a7) (.cond (.tmp 1) .ret (.refuse s)))]:=by
 simp[br,Frame.at,h.func,h.text,base]
def bm {o:Oper}{ops:Array Oper}{t:Array bw}(h:o.guard=b7):Region.wanted o (yielded ops t)=true:=by unfold Region.wanted;rw[h]
def Kl (h:ME p f x y fn r o1 o2 s)(hk:k≠.early){Ev Qa:bh->bn->Prop}(hE:∀g w W,Cs w W->Ev g w->Ev g W)(hQ:∀g w W,Cs w W->Qa g w->Qa g W)(hC:∀g w,g.frame.fn=f->¬Qa g w)
  (IZ:∀q,args[0]?=bc (.pointer (bc q))->(∃s,w.farLoad p q a8=.error (.stuck s))/\∀t u,w.heap[q.block]?≠bc (.view t u))
  (hr:Ch p Ev Qa (C6 (br p f args k) cs) w) :
  ∃q fr,args[0]?=bc (.pointer (bc q))/\w.cell? q=bc (.int .i32 x)/\w.frozen? q=a7/\fr.fn=f/\fr.kind=k/\fr.mode=.returning/\fr.defers=[] /\
   Walk p (λg=>∀w,¬Qa g w) (C6 (br p f args k) cs) w (C6 fr cs) (w.setCell q (.int .i32 y)):=by
 rw[nH h] at hr ⊢;generalize hT:args++dS (fn.ntmps-args.size) undef=T at hr ⊢;have hTs:3<=T.size:=by rw[<-hT];simp;have:=h.room;omega
 generalize hb:({ base f with kind:=k }:bW)=b at hr ⊢;have Iz:b.kind≠.early:=by rw[<-hb];exact hk
 have hbf:b.fn=f:=by rw[<-hb];rfl
 obtain⟨f1,f2,f3,f4⟩:=h.free;have C:∀(a:Act) t,∀w,¬Qa (C6 (b.at a t) cs) w:=λa t w=>hC _ _ hbf;have w2 : ∀ {w2 : bn} {g2 : bh}, Walk p (fun g => ∀ w, ¬ Qa g w) (C6 (b.at ⟨T, []⟩ [.inRegion #[o1, o2] [0, 1], .code (.cond (.tmp 1) .ret (.refuse s))]) cs) w g2 w2 ->
   Walk p (λg=>∀w,¬Qa g w) (C6 (b.at ⟨T,[]⟩ [.code (.seq (.region r #[o1,o2] a7) (.cond (.tmp 1) .ret (.refuse s)))]) cs) w g2 w2:=λz =>
  .step (C _ _) stepG_seq (.step (C _ _) stepG_region z)
 have hr2:=hr.descend hE hQ (λg w c=>c w) ⟨rfl,rfl,rfl⟩ (w2 .refl);rcases h.one ⟨T,[]⟩ w with⟨q,q1,q2⟩|XZ
 rotate_left
 .exfalso;cases hr2 with
  |fin h=>exact C _ _ _ h
  |next ng nw _ h2 _ =>
   obtain⟨⟨es,e⟩,_⟩:=h2 w.tape w.drawn;exact jL (o:=o1) rfl (bm f1) Iz XZ e
 have hq:args[0]?=bc (.pointer (bc q)):=by
  have e0:T.getD 0 undef=.pointer (bc q):=q1;rw[<-hT] at e0;by_cases hz:0<args.size
  .have h9:0<args.size+(fn.ntmps-args.size):=by omega
   simpa [c0,Array.getElem_append,hz,h9] using e0
  .exfalso;have:args=#[]:=Array.eq_empty_of_size_eq_zero (by omega);subst this;simp[c0] at e0;simp[undef] at e0
 obtain⟨n1,n2⟩:=IZ q hq;have e2:stepG p a8 (C6 (b.at ⟨T,[]⟩ [.inRegion #[o1,o2] [0,1],.code (.cond (.tmp 1) .ret (.refuse s))]) cs) w=.go (C6 (b.at ((Act.mk T []).put o1.dst (.pointer (bc q))) [.inRegion #[o1,o2] [1],.code (.cond (.tmp 1) .ret (.refuse s))]) cs) w (listed p b.fn ⟨T,[]⟩ o1 w) :=
  dy (o:=o1) rfl (bm f1) Iz q2
 rw[f2] at e2;generalize hA:(Act.mk T []).put (bc 2) (.pointer (bc q))=A at e2;have hA2:A.eval (.tmp 2)=.pointer (bc q):=by
  rw[<-hA];show(T.setIfInBounds 2 _).getD 2 undef=_;have:2<T.size:=hTs;simp[c0,this]
 have hAd:A.defers=[]:=by rw[<-hA];rfl
 have Og:A.tmps.size=T.size:=by rw[<-hA];exact Array.size_setIfInBounds
 have hr3:=hr2.descend (C:=λg=>∀w,¬Qa g w) hE hQ (λg w c=>c w) ⟨rfl,rfl,rfl⟩ (.step (C _ _) e2 .refl);rcases h.two A q w hA2 n1 n2 with⟨z,z1,z2,z3,z4⟩|XZ
 rotate_left
 .exfalso;cases hr3 with
  |fin h=>exact C _ _ _ h
  |next ng nw _ h2 _ =>
   obtain⟨⟨es,e⟩,_⟩:=h2 w.tape w.drawn;exact jL (o:=o2) rfl (bm f3) Iz XZ e
 have hT1:∀v,(A.put (bc 1) v).eval (.tmp 1)=v:=λv=>by
  show(A.tmps.setIfInBounds 1 v).getD 1 undef=v;have:1<A.tmps.size:=by rw[Og];omega
  simp[c0,this]
 by_cases UX:z=x
 .have e3 : stepG p a8 (C6 (b.at A [.inRegion #[o1, o2] [1], .code (.cond (.tmp 1) .ret (.refuse s))]) cs) w = .go (C6 (b.at (A.put o2.dst (.bool a8)) [.inRegion #[o1, o2] [], .code (.cond (.tmp 1) .ret (.refuse s))]) cs) (w.setCell q (.int .i32 y)) (listed p b.fn A o2 w) :=
   dy (o:=o2) rfl (bm f3) Iz (z3 UX)
  rw[f4] at e3;subst UX;refine⟨q,_,hq,z1,z2,?_,?_,?_,?_,w2 (.step (C _ _) e2 (.step (C _ _) e3 (.step (C _ _) dn (.step (C _ _) (stepG_cond (t:=a8) (hT1 _)) (.step (C _ _) stepG_ret' .refl)))))⟩
  .exact hbf
  .show b.kind=k;rw[<-hb]
  .rfl
  .exact hAd
 .exfalso;have e3:stepG p a8 (C6 (b.at A [.inRegion #[o1,o2] [1],.code (.cond (.tmp 1) .ret (.refuse s))]) cs) w=.go (C6 (b.at (A.put o2.dst (.bool a7)) [.inRegion #[o1,o2] [],.code (.cond (.tmp 1) .ret (.refuse s))]) cs) w (listed p b.fn A o2 w) :=
   dy (o:=o2) rfl (bm f3) Iz (z4 UX)
  rw[f4] at e3;have hr4:=hr3.descend (C:=λg=>∀w,¬Qa g w) hE hQ (λg w c=>c w) ⟨rfl,rfl,rfl⟩ (.step (C _ _) e3 (.step (C _ _) dn (.step (C _ _) (stepG_cond (t:=a7) (hT1 _)) .refl)));cases hr4 with
  |fin h=>exact C _ _ _ h
  |next ng nw _ h2 _ =>
   obtain⟨⟨es,e⟩,_⟩:=h2 w.tape w.drawn;simp[stepG,Go.Conc.G,Frame.at,stepG.exec] at e
end
def mj {p:b5}{main:Bool}{fr:bW}{cs:List bW}{w:bn}{fn:Func}(hm:fr.mode=.returning)(hd:fr.defers=[])(hf:p.funcs[fr.fn]?=bc fn)(hr:fn.results=#[]) :
  stepG p main (C6 fr cs) w=GStep.after #[] (ez p main fr cs b7 (.tuple #[]) w):=by
 obtain⟨f1,tmps,todo,defers,mode,kind,round⟩:=fr;dsimp only at hm hd hf;subst hm hd;unfold stepG C6;dsimp only;unfold unwind;dsimp only;rw[hf];dsimp only;have e:(results fn tmps).runT p w #[]=(.ok (.tuple #[]) w,#[]):=Prod.ext ((er ..).trans (results_none hr _ _ _)) (events_results_none hr _ _);rw[e];simp only[seen_none]
section
variable {S:DT} {Ck:ed->Prop} {G:Nat} {β:Cm}
def sV {w:bn}(hw:CV S Ck G β w w)(hi:β.Q0){q:ek}{u:bw}(hc:w.cell? q=bc u){v:bw}(hv:B6 S β v v):CV S Ck G β (w.setCell q v) (w.setCell q v):=by
 have X0:∀b,b=q.block->w.heap[b]?≠bc (.coro b7):=by
  intro b e h;subst e;unfold World.cell? at hc;rw[h] at hc;cases hc
 refine⟨hw.DG,by rw[bu];exact hw.room,λb B hb hh=>?_,λb B hb hh=>?_,λb hb=>by rw[bu];exact hw.old b hb,rfl⟩
 .obtain⟨o,O,k1,k2,k3⟩:=hw.D8 b B hb hh;have:=hi _ _ hb;subst this;rw[k1] at k2;cases k2;rw[CW];by_cases e:b=q.block
  .rw[if_pos e,k1];refine⟨_,_,rfl,rfl,?_⟩;cases k3 with
   |@cells c C t f F h1 h2 =>
    simp only[GP];split
    .exact .cells h1 h2
    .exact .cells (h1.set _ hv) h2
   |loop a b c d e f=>exact .loop a b c d e f
   |number o s l h=>exact .number o s l h
   |taken=>exact .taken
   |defs h=>exact .defs h
  .rw[if_neg e];exact⟨_,_,k1,k1,k3⟩
 .have:=hi _ _ hb;subst this;have h:=hw.Ej _ _ hb hh;rw[CW];by_cases e:b=q.block
  .exact absurd h.1 (X0 _ e)
  .rw[if_neg e];exact h
end
def Walk.split {p:b5}{C:bh->Prop}{g1 g2:bh}{w1 w2:bn}(h:Walk p C g1 w1 g2 w2):(g1=g2/\w1=w2)\/∃g w es,C g1/\stepG p a8 g1 w1=.go g w es/\Walk p C g w g2 w2:=by
 cases h with
 |refl=>exact .inl ⟨rfl,rfl⟩
 |step c e k=>exact .inr ⟨_,_,_,c,e,k⟩
def Walk.trans {p:b5}{C:bh->Prop}{g1 g2 g3:bh}{w1 w2 w3:bn}(h:Walk p C g1 w1 g2 w2)(k:Walk p C g2 w2 g3 w3):Walk p C g1 w1 g3 w3:=by
 induction h with
 |refl=>exact k
 |step c e _ ih=>exact .step c e (ih k)
section
variable {P:CL} {CI BC BB:bo->Bool} {H:Hid} {G:Nat}
def Held (p:b5)(BB:bo->Bool)(f:bo)(x y:Int):Prop:=∀(args:Array bw) (q:ek) (k:CallKind) (cs:List bW) (w:bn),k≠.early->cs≠[]->args[0]?=bc (.pointer (bc q))->w.cell? q=bc (.int .i32 x)->w.frozen? q=a7 ->
 C1 p BB (λg W=>Cs (w.setCell q (.int .i32 y)) W/\∃fr,g=C6 fr cs/\fr.fn=f/\fr.kind=k/\fr.mode=.returning/\fr.defers=[]/\fr.oper?=b7) 0 (C6 (br p f args k) cs) w
def MF (P:CL)(BB:bo->Bool)(f:bo):Prop:=∃x y fn r o1 o2 s Fw,ME P.a f x y fn r o1 o2 s/\Held P.b BB f x y/\P.fs[f]?=bc Fw/\Fw.results=#[]
def ml (P:CL)(CI BC BB:bo->Bool):Prop:=∀f,CI f=a8\/aO CI f=a8->BC f=a7->(∃fn s,P.a.funcs[f]?=bc fn/\fn.body=bc (.refuse s))\/MF P BB f
def I0 (P:CL)(CI BC:bo->Bool)(H:Hid)(G:Nat)(T:List bW)(Qa:bh->bn->Prop)(H5:bh)(w':bn):Prop :=
 ∃g' w0 B8,Qa g' w0/\Cs w0 w'/\KU H B8/\El P CI H a7 BC T B8 g' H5/\CV (SP CI H) (CK P.a CI a7) G B8 w0 w0
def I0.same {T:List bW}{Qa:bh->bn->Prop}(g:bh)(w W:bn)(s:Cs w W)(x:I0 P CI BC H G T Qa g w):I0 P CI BC H G T Qa g W:=by
 obtain⟨g1,w0,DJ,x1,x2,x3⟩:=x;exact⟨g1,w0,DJ,x1,x2.trans s,x3⟩
def Ch.abb (Lc:Lib P CI H a7 BC G)(hst:ml P CI BC BB)(hb:∀f,CI f=a8->BB f=a8){Qa:bh->bn->Prop}(hQ:∀g w W,Cs w W->Qa g w->Qa g W)(hQl:∀g w f,Qa g w->BC f=a7->MF P BB f->g.frame.fn≠f)(hE:∀g w W,Cs w W->Self P.a CI H G g w->Self P.a CI H G g W)
  {c:bW} {cs:List bW} {g:bh} {w:bn} (h:Ch P.a (Self P.a CI H G) Qa g w) :
  ∀ {g':bh} {w1 w':bn},Cs w w1->Walk P.a (λg=>∀w,¬Qa g w) g w1 g' w'->∀ {β:Cm} {g2:bh},KU H β->El P CI H a7 BC (c::cs) β g' g2->CV (SP CI H) (CK P.a CI a7) G β w' w' ->
  C1 P.b BB (I0 P CI BC H G (c::cs) Qa) 0 g2 w':=by
 induction h with
 |@fin g w hq =>
  intro g' w1 w' hs hk β g2 hi hg hw;cases hk with
  |refl=>exact .fin ⟨_,_,_,hQ _ _ _ hs hq,⟨rfl,rfl,rfl⟩,hi,hg,hw⟩
  |step hc _ _=>exact absurd hq (hc w)
 |@next g w ng nw h1 h2 h3 ih =>
  intro g' w1 w' hs hk β g2 hi hg hw;cases hk with
  |step hc e E5 =>
   obtain⟨⟨es',e'⟩,_⟩:=h2 w1.tape w1.drawn;rw[<-hs.eq,e] at e';cases e';exact ih _ _ ⟨rfl,rfl,rfl⟩ E5 hi hg hw
  |refl =>
  have eon:∀τ n,on w1 τ n=on w τ n:=λτ n=>by rw[hs.eq];rfl
  have hrun:Ch P.a (Self P.a CI H G) Qa g w1:=(Ch.next ng nw h1 h2 h3).same hE hQ hs;have O7:∀τ n,(∃es,stepG P.a a8 g (on w1 τ n)=.go (ng τ n) (nw τ n) es)/\(ng τ n).callers≠[]:=λτ n=>by rw[eon];exact h2 τ n
  have ih':∀τ n {g':bh} {w2 w':bn},Cs (nw τ n) w2->Walk P.a (λg=>∀w,¬Qa g w) (ng τ n) w2 g' w'->∀ {β:Cm} {g2:bh},KU H β->El P CI H a7 BC (c::cs) β g' g2->CV (SP CI H) (CK P.a CI a7) G β w' w' ->
   C1 P.b BB (I0 P CI BC H G (c::cs) Qa) 0 g2 w':=λτ n=>ih τ n
  have eg:=hg.C6;have DL:=hg.top;have hcs:=hg.callers;have e2:g2=C6 g2.frame g2.callers:=by
   obtain⟨x1,x2,x3,x4,x5⟩:=g2;obtain⟨_,_,⟨_,s1⟩,⟨_,d1⟩,⟨_,o1⟩⟩:=hg;dsimp only at *;subst s1 d1 o1
   rfl
  generalize hf:g.frame=fr at DL eg;generalize hF:g2.frame=FR at DL e2;generalize g.callers=CSa at eg hcs;generalize g2.callers=ZP at e2 hcs;subst eg e2;cases DL with
  |on FD =>
   have eF:fr=FR:=Cq.id (P:=CL.of P.a) hi FD
   have Rt:Dk P.b BB (C6 FR ZP) w1:=⟨by show BB FR.fn=a8;rw[<-eF];exact hb _ FD.late.2,λo ho=>by
    have Oh:FR.oper?=bc o:=ho;rw[<-eF] at Oh
    exact cA FD (λf h=>(Lc.nm f h).2) (λ_=>rfl) o Oh⟩
   refine C1.step Rt λτ d=>?_;obtain⟨⟨es,e⟩,hn⟩:=O7 τ d;have hw':CV (SP CI H) (CK P.a CI a7) G β (on w1 τ d) (on w1 τ d):=hw.same rfl rfl rfl;have:=dM (P:=P) (main:=a8) (main2:=a8) Lc hg FD (λ_=>qQ FD) hw' (n:=(nw τ d).drawn) (λ_ _ _=>rfl) (by rw[e];exact Ba _ _);rw[e] at this;rcases this with⟨h0,_⟩|⟨B8,H5,W',ES,k1,k2,k3⟩
   .exact absurd h0 hn
   obtain⟨i1,i2⟩:=k3.same hi rfl;have hr:=ih' τ d ⟨rfl,rfl,rfl⟩ .refl i1 k2 (k3.rel.same rfl i2 rfl);refine⟨H5,W',ES,k1,lT k2.callers,hr.same I0.same ⟨i2.symm,?_,?_⟩⟩
   .rw[k3.OS,k3.os]
   .rw[k3.OUT,k3.out]
  |@stop f a A k s1 s2 s3 s4 =>
   have eA:a=A:=s4.id hi;subst eA;rcases hst f s1 s2 with⟨fn,s,q1,q2⟩|⟨x,y,fn,r,o1,o2,s,Fw,hp,Ww,hf',NJ⟩
   .exfalso;obtain⟨⟨es,e⟩,_⟩:=O7 w1.tape w1.drawn;exact iY q1 q2 _ _ _ _ _ e
   have s0:CI f=true:=by
    rcases s1 with s1|s1
    .exact s1
    .exfalso;obtain⟨fn9,s9,z1,z2⟩:=Lc.bars f s1;rw[hp.func] at z1;cases z1;rw[hp.text] at z2;cases z2
   have IZ:∀ww,CV (SP CI H) (CK P.a CI a7) G β ww ww->∀q:ek,a[0]?=bc (.pointer (bc q))->(∃s,ww.farLoad P.a q a8=.error (.stuck s))/\∀t u,ww.heap[q.block]?≠bc (.view t u):=by
    intro ww hw q hq;have hv:B6 (SP CI H) β (.pointer (bc q)) (.pointer (bc q)):=s4.at_ 0 _ _ hq hq;obtain⟨B,KX,hB⟩:=LQ hv;have hB2:q.block=B:=hi.2 _ _ KX;subst hB2;refine⟨(O6 (P:=P) hw ⟨KX,rfl,rfl⟩).1 a8,λt u hu=>?_⟩;cases hh:(SP CI H).hid q.block with
    |true=>rw[(hw.Ej _ _ KX hh).1] at hu;cases hu
    |false =>
     obtain⟨o,O,k1,k2,k3⟩:=hw.D8 _ _ KX hh;rw[hu] at k1;cases k1;cases k3
   have ZM:∀g w,g.frame.fn=f->¬Qa g w:=λg w e hq=>hQl g w f hq s2 ⟨x,y,fn,r,o1,o2,s,Fw,hp,Ww,hf',NJ⟩ e;obtain⟨q,fr,hq,hc,hz,_⟩:=Kl hp s3 hE hQ ZM (IZ _ hw) hrun;have hCS:ZP≠[]:=lT hcs;have af5:CSa≠[]:=by cases hcs<;>simp
   refine((Ww a q k ZP w1 s3 hCS hq hc hz).bind λgB WB hB=>?_);obtain⟨hs2,FR,rfl,t1,t2,t3,t4,t5⟩:=hB
   refine C1.step ⟨by show BB FR.fn=a8;rw[t1];exact hb f s0,λo ho=>by
    have Oh:FR.oper?=bc o:=ho
    rw[t5] at Oh;cases Oh⟩ λτ n=>?_
   have XW:CV (SP CI H) (CK P.a CI a7) G β (on w1 τ n) (on w1 τ n):=hw.same rfl rfl rfl;obtain⟨q',fr,hq',hc',hz',r1,r2,r3,r4,Wx⟩:=Kl hp s3 hE hQ ZM (IZ _ XW) (hrun.same hE hQ Bm);have eq:q'=q:=by rw[hq] at hq';cases hq';rfl
   subst eq;have hw2:CV (SP CI H) (CK P.a CI a7) G β ((on w1 τ n).setCell q' (.int .i32 y)) ((on w1 τ n).setCell q' (.int .i32 y)):=sV XW hi.2 hc' (.int _ _);have abd:Ch P.a (Self P.a CI H G) Qa (C6 fr CSa) ((on w1 τ n).setCell q' (.int .i32 y)):=(hrun.same hE hQ Bm).descend (C:=λg=>∀w,¬Qa g w) hE hQ (λg w c=>c w) ⟨rfl,rfl,rfl⟩ Wx;have eWB:on WB τ n=(on w1 τ n).setCell q' (.int .i32 y):=by rw[hs2.eq];rfl
   rw[eWB];cases abd with
   |fin h=>exact absurd h (ZM _ _ r1)
   |next ng2 nw2 _ h2b _ =>
    obtain⟨⟨es,e⟩,hn⟩:=h2b τ n;have af6:on ((on w1 τ n).setCell q' (.int .i32 y)) τ n=(on w1 τ n).setCell q' (.int .i32 y):=rfl;rw[af6] at e;have ea:=mj (main:=a8) (cs:=CSa) (w:=(on w1 τ n).setCell q' (.int .i32 y)) r3 r4 (by rw[r1];exact hp.func) hp.res;have eb:=mj (p:=P.b) (main:=a8) (cs:=ZP) (w:=(on w1 τ n).setCell q' (.int .i32 y)) t3 t4 (by rw[t1];exact hf') NJ;have:=eW (P:=P) (BB:=BC) (main:=a8) (main2:=a8) (fr:=fr) (FR:=FR) (r2.trans t2.symm) (by rw[r2];exact s3) hcs af5 (v:=.tuple #[]) (V:=.tuple #[]) (.tuple rfl (by simp)) (Fin.refl hw2) #[]
    rw[<-ea,e,<-show GStep.after #[] (ez P.b a8 FR ZP b7 (.tuple #[]) ((on w1 τ n).setCell q' (.int .i32 y)))=GStep.after ([]:List Event).toArray (ez P.b a8 FR ZP b7 (.tuple #[]) ((on w1 τ n).setCell q' (.int .i32 y))) from rfl,<-eb] at this;rcases this with⟨h0,_⟩|⟨B8,H5,W',ES,k1,k2,k3⟩
    .exact absurd h0 hn
    obtain⟨i1,i2⟩:=k3.same hi rfl;have hr:C1 P.b BB (I0 P CI BC H G (c::cs) Qa) 0 H5 (nw2 τ n):=by
     have PV:Walk P.a (λg=>∀w,¬Qa g w) (C6 fr CSa) ((on w1 τ n).setCell q' (.int .i32 y)) (ng2 τ n) (nw2 τ n):=.step (λw=>ZM _ w r1) e .refl;have rel:=k3.rel.same rfl i2 rfl;rcases Wx.split with⟨e0,_⟩|⟨ga,wa,esa,_,e1,rest⟩
     .exfalso;have:=congrArg (λg:bh=>g.frame.mode) e0;rw[show(C6 fr CSa).frame.mode=.returning from r3] at this;cases this
     .obtain⟨⟨Wq,e1'⟩,_⟩:=O7 τ n;rw[e1] at e1';cases e1';exact ih' τ n ⟨rfl,rfl,rfl⟩ (rest.trans PV) i1 k2 rel
    refine⟨H5,W',ES,k1,lT k2.callers,hr.same I0.same ⟨i2.symm,?_,?_⟩⟩
    .rw[k3.OS,k3.os]
    .rw[k3.OUT,k3.out]
end
section
variable {P:CL} {CI BC BB:bo->Bool} {H:Hid} {G:Nat} {Q:bh->bn->Prop}
structure G7 (P:CL)(CI BC BB:bo->Bool)(H:Hid)(G:Nat):Prop where
 la:Lib (CL.of P.a) CI H a7 CI G
 lc:Lib P CI H a7 BC G
 ref:ml P CI BC BB
 sub:∀f,CI f=a8->BB f=a8
 nb:H.bl=a7
def sW {K0:Nat->Prop}{w:bn}{Ck:ed->Prop}(DN:∀b,K0 b->G<=b)(hroom:G<=w.heap.size)(Jk:∀b,K0 b->H b=a8->H.C8=a8/\w.heap[b]?=bc (.coro b7))(hold:∀b,H b=a8->b<w.heap.size)
  (Er:∀b,K0 b->H b=a7->∃o,w.heap[b]?=bc o/\C5 (SP CI H) Ck (CX K0) o o):CV (SP CI H) Ck G (CX K0) w w:=by
 refine⟨⟨λh1 h2=>h1.2.symm.trans h2.2,λh1 h2=>h1.2.trans h2.2.symm,λ{b B} h=>⟨DN b h.1,h.2▸DN b h.1⟩⟩,⟨hroom,hroom⟩,λb B hb hh=>?_,λb B hb hh=>?_,hold,rfl⟩
 .obtain⟨hb,rfl⟩:=hb;obtain⟨o,h1,h2⟩:=Er b hb hh;exact⟨o,o,h1,h1,h2⟩
 .obtain⟨hb,rfl⟩:=hb;obtain⟨h1,h2⟩:=Jk b hb hh;exact⟨h2,(λh=>absurd (h1.symm.trans h) (by decide)),λ_=>h2⟩
def G7.run (B:G7 P CI BC BB H G){Qa:bh->bn->Prop}(hQ:∀g w W,Cs w W->Qa g w->Qa g W)(hQl:∀g w f,Qa g w->BC f=a7->MF P BB f->g.frame.fn≠f){fr:bW}{C:bW}{cs:List bW}{K0:Nat->Prop}{w:bn}{F:bW}(ha:ED (CL.of P.a) CI H a7 CI (CX K0) fr fr)(hc:ED P CI H a7 BC (CX K0) fr F)
  (DN:∀b,K0 b->G<=b) (hroom:G<=w.heap.size) (Jk:∀b,K0 b->H b=a8->H.C8=a8/\w.heap[b]?=bc (.coro b7)) (hold:∀b,H b=a8->b<w.heap.size) (Er:∀b,K0 b->H b=a7->∃o,w.heap[b]?=bc o/\C5 (SP CI H) (CK P.a CI a7) (CX K0) o o)
  (h:Self P.a CI H G (C6 fr [bad]) w->Ch P.a (Self P.a CI H G) Qa (C6 fr [bad]) w) :
  C1 P.b BB (I0 P CI BC H G (C::cs) Qa) 0 (C6 F (C::cs)) w:=by
 have hi:KU H (CX K0):=⟨B.nb,λ_ _ h=>h.2⟩;have hw:=sW (Ck:=CK P.a CI a7) DN hroom Jk hold Er;have hs:Self P.a CI H G (C6 fr [bad]) w:=⟨_,hi,⟨ha,.base,⟨rfl,rfl⟩,⟨rfl,rfl⟩,⟨rfl,rfl⟩⟩,hw⟩;exact(h hs).abb B.lc B.ref B.sub hQ hQl (λ_ _ _ s h=>h.same s) ⟨rfl,rfl,rfl⟩ .refl hi ⟨hc,.base,⟨rfl,rfl⟩,⟨rfl,rfl⟩,⟨rfl,rfl⟩⟩ hw
def G7.fn (B:G7 P CI BC BB H G){f:bo}(hf:CI f=a8)(Uy:BC f=a8){K0:Nat->Prop}{w:bn}{args:Array bw}{C:bW}{cs:List bW}(hne:cs≠[])
  (DN:∀b,K0 b->G<=b) (hroom:G<=w.heap.size) (Es:Ca (SP CI H) (CX K0) args args)
  (Jk:∀b,K0 b->H b=a8->H.C8=a8/\w.heap[b]?=bc (.coro b7)) (hold:∀b,H b=a8->b<w.heap.size) (Er:∀b,K0 b->H b=a7->∃o,w.heap[b]?=bc o/\C5 (SP CI H) (CK P.a CI a7) (CX K0) o o)
  (hQ:∀g w W,Cs w W->Q g w->Q g W) {R:bw->bn->Prop}
  (hc:∀τ d,Calls P.a f args (on w τ d) (λe w'=>∃v,e=.returned v/\R v w'))
  (h:∀v w',R v w'->C1 P.b BB Q 0 (C6 (C.finish v) cs) w') :
  C1 P.b BB Q 0 (C6 (br P.b f args .normal) (C::cs)) w:=by
 have h1:=B.run (Qa:=Left P.a f R) Left.same (λg w f' hl hf' _ e=>by
  obtain⟨_,_,fr,_,_,rfl,e2,_⟩:=hl;have e3:fr.fn=f':=e;rw[e2] at e3;rw[<-e3,Uy] at hf'
  cases hf') (C:=C) (cs:=cs) (Dg B.la (.inl hf) Es .normal (by decide)) (Dg B.lc (.inl hf) Es .normal (by decide)) DN hroom Jk hold Er λhs=>Gl B.la hs hc
 refine h1.bind λg2 w' hq=>?_;obtain⟨g',w0,B8,q1,q2,q3,q4,q5⟩:=hq;have XY:=q1;obtain⟨wl,vl,fr,l1,l2,l3,l4,l5⟩:=XY;have O5:BB g'.frame.fn=true:=B.sub _ (by rw[l3];show CI fr.fn=a8;rw[l4];exact hf);have FD:=q4.top.Hh (by rw[l3];show BC fr.fn=a8;rw[l4];exact Uy);have eF:g'.frame=g2.frame:=Cq.id (P:=CL.of P.a) q3 FD;refine C1.step ⟨by rw[<-eF];exact O5,λo ho=>?_⟩ λτ d=>?_
 .rw[<-eF] at ho;exact cA FD (λf h=>(B.lc.nm f h).2) (λ_=>rfl) o ho
 .have hw':CV (SP CI H) (CK P.a CI a7) G B8 w0 (on w' τ d):=q5.same rfl q2.1 (by rw[show(on w' τ d).os=w'.os from rfl,q2.2.1]);obtain⟨v,wa,wb,V,W',ES,Dq,e1,e2,e3,e4,e5,e6⟩:=leave (P:=P) B.lc (main2:=a8) q1 Uy q4 hw';obtain⟨i1,i2⟩:=e6.same q3 q2.1.symm;have eV:=e5.id i1;subst eV;refine⟨_,W',ES,e4,hne,(h v wa e2).same hQ ⟨?_,?_,?_⟩⟩
  .rw[<-i2,e3.1,<-e1.1]
  .rw[e6.OS,show(on w' τ d).os=w'.os from rfl,q2.2.1,e1.2.1]
  .rw[e6.OUT,show(on w' τ d).output=w'.output from rfl,q2.2.2,e1.2.2]
def G7.fnK (B:G7 P CI BC BB H G){f:bo}(hf:CI f=a8)(Uy:BC f=a8){K0:Nat->Prop}{w:bn}{args:Array bw}{C:bW}{cs:List bW}(hne:cs≠[])
  (DN:∀b,K0 b->G<=b) (hroom:G<=w.heap.size) (Es:Ca (SP CI H) (CX K0) args args)
  (Jk:∀b,K0 b->H b=a8->H.C8=a8/\w.heap[b]?=bc (.coro b7)) (hold:∀b,H b=a8->b<w.heap.size) (Er:∀b,K0 b->H b=a7->∃o,w.heap[b]?=bc o/\C5 (SP CI H) (CK P.a CI a7) (CX K0) o o)
  (hQ:∀g w W,Cs w W->Q g w->Q g W) {R:bw->bn->Prop}
  (hc:∀τ d,Calls P.a f args (on w τ d) (λe w'=>∃v,e=.returned v/\R v w'))
  (h:∀v w' (K':Nat->Prop),R v w'->B6 (SP CI H) (CX K') v v->(∀b,K' b->G<=b)->(∀b,K' b->H b=a7->∃o,w'.heap[b]?=bc o/\C5 (SP CI H) (CK P.a CI a7) (CX K') o o)->C1 P.b BB Q 0 (C6 (C.finish v) cs) w') :
  C1 P.b BB Q 0 (C6 (br P.b f args .normal) (C::cs)) w:=by
 have h1:=B.run (Qa:=Left P.a f R) Left.same (λg w f' hl hf' _ e=>by
  obtain⟨_,_,fr,_,_,rfl,e2,_⟩:=hl;have e3:fr.fn=f':=e;rw[e2] at e3;rw[<-e3,Uy] at hf'
  cases hf') (C:=C) (cs:=cs) (Dg B.la (.inl hf) Es .normal (by decide)) (Dg B.lc (.inl hf) Es .normal (by decide)) DN hroom Jk hold Er λhs=>Gl B.la hs hc
 refine h1.bind λg2 w' hq=>?_;obtain⟨g',w0,B8,q1,q2,q3,q4,q5⟩:=hq;have XY:=q1;obtain⟨wl,vl,fr,l1,l2,l3,l4,l5⟩:=XY;have O5:BB g'.frame.fn=true:=B.sub _ (by rw[l3];show CI fr.fn=a8;rw[l4];exact hf);have FD:=q4.top.Hh (by rw[l3];show BC fr.fn=a8;rw[l4];exact Uy);have eF:g'.frame=g2.frame:=Cq.id (P:=CL.of P.a) q3 FD;refine C1.step ⟨by rw[<-eF];exact O5,λo ho=>?_⟩ λτ d=>?_
 .rw[<-eF] at ho;exact cA FD (λf h=>(B.lc.nm f h).2) (λ_=>rfl) o ho
 .have hw':CV (SP CI H) (CK P.a CI a7) G B8 w0 (on w' τ d):=q5.same rfl q2.1 (by rw[show(on w' τ d).os=w'.os from rfl,q2.2.1]);obtain⟨v,wa,wb,V,W',ES,Dq,e1,e2,e3,e4,e5,e6⟩:=leave (P:=P) B.lc (main2:=a8) q1 Uy q4 hw';obtain⟨i1,i2⟩:=e6.same q3 q2.1.symm;have eV:=e5.id i1;subst eV;have C0:Dq.le (CX λb=>Dq b b):=λb B hb=>by
   have:=i1.2 _ _ hb;subst this;exact⟨hb,rfl⟩
  have af7:∀b,Dq b b->H b=a7->∃o,wa.heap[b]?=bc o/\C5 (SP CI H) (CK P.a CI a7) (CX λb=>Dq b b) o o:=λb hb hh=>by
   obtain⟨o,O,k1,k2,k3⟩:=e6.rel.D8 b b hb hh;have eo:O=o:=by
    rw[<-i2,k1] at k2;exact(e7 k2).symm
   subst eo;exact⟨O,by rw[e1.1,<-e3.1];exact k1,k3.mono C0⟩
  refine⟨_,W',ES,e4,hne,(h v wa (λb=>Dq b b) e2 (e5.mono C0) (λb hb=>(e6.rel.DG.lo hb).1) af7).same hQ ⟨?_,?_,?_⟩⟩
  .rw[<-i2,e3.1,<-e1.1]
  .rw[e6.OS,show(on w' τ d).os=w'.os from rfl,q2.2.1,e1.2.1]
  .rw[e6.OUT,show(on w' τ d).output=w'.output from rfl,q2.2.2,e1.2.2]
def G7.seg (B:G7 P CI BC BB H G){b:bW}{a:Act}{c:ed}{k:List Item}{C:bW}{cs:List bW}{K0:Nat->Prop}{w:bn}
  (J0:Cq P.a CI H a7 (CX K0) (b.at a (.code c::k)) (b.at a (.code c::k)))
  (DN:∀b,K0 b->G<=b) (hroom:G<=w.heap.size) (Jk:∀b,K0 b->H b=a8->H.C8=a8/\w.heap[b]?=bc (.coro b7)) (hold:∀b,H b=a8->b<w.heap.size) (Er:∀b,K0 b->H b=a7->∃o,w.heap[b]?=bc o/\C5 (SP CI H) (CK P.a CI a7) (CX K0) o o)
  (hk:∀s,k≠[.code (.refuse s)]) (FA:∀f x y fn r o1 o2 s,ME P.a f x y fn r o1 o2 s->∀c,fn.body=bc c->k≠[.code c]) (hbl:BC b.fn=a8\/∃fn s,P.a.funcs[b.fn]?=bc fn/\fn.body=bc (.refuse s)) (hQ:∀g w W,Cs w W->Q g w->Q g W) {N:Exit->Act->bn->Prop}
  (hc:∀τ d,c.wp P.a (λe a' w'=>(e=.normal\/e=.ret)/\N e a' w') a (on w τ d))
  (h1:∀a' w',N .normal a' w'->C1 P.b BB Q 0 (C6 (b.at a' k) (C::cs)) w')
  (h2:∀a' w' todo,N .ret a' w'->(∀o,({ b.at a' todo with mode:=.returning }:bW).oper?=bc o->aL P.b o.op=a8)->C1 P.b BB Q 0 (C6 { b.at a' todo with mode:=.returning } (C::cs)) w') :
  C1 P.b BB Q 0 (C6 (b.at a (.code c::k)) (C::cs)) w:=by
 have h0:=B.run (Qa:=GR b k [bad] N) GR.same (λg w f' hl hf' hlk e=>by
  obtain⟨a',w0,_,h⟩:=hl;have e3:b.fn=f':=by rcases h with⟨_,rfl⟩|⟨_,_,rfl⟩<;>exact e
  rcases hbl with h|⟨fn,s,r1,r2⟩
  .rw[e3,hf'] at h;cases h
  .obtain⟨x,y,fn2,r,o1,o2,s2,fn3,hp,_⟩:=hlk;have:=hp.func;rw[<-e3,r1] at this;cases this;have:=hp.text;rw[r2] at this
   cases this) (C:=C) (cs:=cs) (.on J0) (.on J0) DN hroom Jk hold Er λhs=>Od (N:=N) B.la (by simp) hs hc
 refine h0.bind λg2 w' hq=>?_;obtain⟨g',w0,B8,q1,q2,q3,q4,q5⟩:=hq;have Wu:∀g2:bh,g'.callers=[bad]->El P CI H a7 BC (C::cs) B8 g' g2->g2.callers=C::cs:=by
  intro g2 e1 e2;have:=e2.callers;rw[e1] at this;generalize g2.callers=X at this;cases this with
  |base=>rfl
  |cons _ h=>exact absurd rfl h.ne
 have FD:Cq P.a CI H a7 B8 g'.frame g2.frame:=by
  have DL:=q4.top;obtain⟨a',wl,l1,l2⟩:=q1;generalize hf:g'.frame=fr at DL ⊢;generalize g2.frame=FR at DL ⊢;cases DL with
  |on h=>exact h
  |@stop f A A' kd s1 s2 s3 s4 =>
   exfalso;rcases B.ref f s1 s2 with⟨fn,s,r1,r2⟩|⟨x,y,fn,r,o1,o2,s,fn3,hp,_⟩
   rotate_left
   .rcases l2 with⟨_,rfl⟩|⟨_,todo,rfl⟩
    .have e : k = [.code (.seq (.region r #[o1, o2] a7) (.cond (.tmp 1) .ret (.refuse s)))] := by
      have:=congrArg eC hf;simpa [Go.Ct.C6,br,hp.func,hp.text,Frame.at] using this
     exact FA f x y fn r o1 o2 s hp _ hp.text e
    .have:=congrArg eG hf;simp[Go.Ct.C6,br] at this
   rcases l2 with⟨_,rfl⟩|⟨_,todo,rfl⟩
   .have : k = [.code (.refuse s)] := by
     have:=congrArg eC hf;simpa [Go.Ct.C6,br,r1,r2,Frame.at] using this
    exact hk s this
   .have:=congrArg eG hf;simp[Go.Ct.C6,br] at this
 have eF:g'.frame=g2.frame:=Cq.id (P:=CL.of P.a) q3 FD;have e2:g2=C6 g2.frame g2.callers:=by
  obtain⟨x1,x2,x3,x4,x5⟩:=g2;obtain⟨_,_,⟨_,s1⟩,⟨_,d1⟩,⟨_,o1⟩⟩:=q4;dsimp only at *;subst s1 d1 o1
  rfl
 obtain⟨a',wl,l1,l2⟩:=q1;rcases l2 with⟨l3,l4⟩|⟨l3,todo,l4⟩
 .have:=Wu g2 (by rw[l4];rfl) q4;rw[e2,this,<-eF,l4];exact(h1 a' wl l3).same hQ (l1.trans q2)
 .have:=Wu g2 (by rw[l4];rfl) q4;have hpl:∀o,g'.frame.oper?=bc o->aL P.b o.op=true:=λo ho=>cA FD (λf h=>(B.lc.nm f h).2) (λ_=>rfl) o ho;rw[l4] at hpl;rw[e2,this,<-eF,l4];exact(h2 a' wl todo l3 hpl).same hQ (l1.trans q2)
end
section
variable {P:CL} {S:DT} {Ck:ed->Prop} {G:Nat} {β:Cm}
def qR {α FK:Type}{m:Sem α}{M:Sem FK}{R:Cm->α->FK->Prop}(h:∀w W,CV S Ck G β w W->∀es,∃s w' es',m.runT P.a w es=(.halt (.stuck s) w',es')):Cf P S Ck G β m M R:=by
 intro w W n hw ht Dt DD _;obtain⟨s,w',es',e⟩:=h w W hw Dt;rw[e];trivial
def pC (f:bo):Cf P S Ck G β (mark (.extern f)) (mark (.extern f)) (λ_ _ _=>True):=by
 intro w W n hw ht Dt DD _;have e1:(mark (.extern f)).runT P.a w Dt=(.ok () w,Dt.push ⟨.mark (.extern f),a7,a8⟩):=rfl;have e2:(mark (.extern f)).runT P.b W DD=(.ok () W,DD.push ⟨.mark (.extern f),a7,a8⟩):=rfl;rw[e1,e2];exact⟨β,(),W,[⟨.mark (.extern f),a7,a8⟩],by simp,trivial,{ Fin.refl hw with evs:=λ_ E hE=>by cases Ah.1 hE;exact .mark (.extern f) }⟩
def ld (k:cw){a A:ek}(h:C9 β a A):Cf P S Ck G β (bb (.int k) a) (bb (.int k) A) (λB8 v V=>B6 S B8 v V):=by
 unfold bb;refine B4 (iG h .atomic) ?_;intro DJ v V _ hv;cases hv with
 |int k' n =>
  split
  .rename_i k2 k3 _ e1 e2;cases e1;cases e2;split
   .exact B5 (.int _ _)
   .exact Cb (by intro g e;cases e)
  all_goals simp_all
 |ptr o s hb =>
  cases k<;>first|exact B5 (.ptr o s hb)|exact Cb (by intro g e;cases e)
 |_=>cases k<;>exact Cb (by intro g e;cases e)
def pD {k:cw}(hk:k≠.u64){a A:ek}(h:C9 β a A):Cf P S Ck G β (bb (.int k) a) (bb (.int k) A) (λ_ v V=>∃n,v=.int k n/\V=.int k n):=by
 unfold bb;refine B4 (iG h .atomic) ?_;intro DJ v V _ hv;cases hv with
 |int k' n =>
  split
  .rename_i k2 k3 _ e1 e2;cases e1;cases e2;split
   .rename_i e;subst e;exact B5 ⟨n,rfl,rfl⟩
   .exact Cb (by intro g e;cases e)
  all_goals simp_all
 |ptr o s hb =>
  cases k<;>first|exact absurd rfl hk|exact Cb (by intro g e;cases e)
 |_=>cases k<;>exact Cb (by intro g e;cases e)
def qS (k:cw){x X:Array bw}(h:Ca S β x X):Cf P S Ck G β (cf (.int k) x) (cf (.int k) X) (λB8 v V=>B6 S B8 v V):=by
 have hl:=h.toList;obtain⟨l⟩:=x;obtain⟨L⟩:=X;simp only at hl;cases hl with
 |nil=>exact B9
 |cons ha hr =>
  cases hr with
  |cons _ _=>exact B9
  |nil =>
   refine B4 (dX ha) ?_;intro DJ a A _ hA;exact ld k hA
def sX (k:cw){x X:Array bw}(h:Ca S β x X):Cf P S Ck G β (b9 (Op.intArith .add) k a8 x) (b9 (Op.intArith .add) k a8 X) (λB8 v V=>B6 S B8 v V):=by
 have hl:=h.toList;obtain⟨l⟩:=x;obtain⟨L⟩:=X;simp only at hl;cases hl with
 |nil=>exact B9
 |cons ha hr =>
  cases hr with
  |nil=>exact B9
  |cons hb hr =>
   cases hr with
   |cons _ _=>exact B9
   |nil =>
    refine B4 (dX ha) ?_;intro DJ a A QL hA;refine B4 (ld k hA) ?_;intro Dq v V Ri hv;refine B4 (eO hv) ?_;rintro Eu n _ UY rfl;refine B4 (eO ((((hb.mono QL).mono Ri)).mono UY)) ?_;rintro Ka m _ Wy rfl;refine B4 (R:=λB8 a A=>B6 S B8 a A) (B5 (.int _ _)) ?_;intro La z Z le5 hz;refine B4 (jg ((((hA.mono Ri).mono UY).mono Wy).mono le5) .atomic hz) ?_;intro UT _ _ le6 _
    exact B5 (hz.mono le6)
def qT {a A:ek}(h:C9 β a A)(hh:S.hid a.block=a7):Cf P S Ck G β (dr a) (dr A) (λ_ x X=>x=a7->X=a7):=by
 intro w W n hw ht Dt DD _;have e1:(dr a).runT P.a w Dt=(.ok (w.frozen? a) w,Dt):=rfl;have e2:(dr A).runT P.b W DD=(.ok (W.frozen? A) W,DD):=rfl;rw[e1,e2];refine⟨β,W.frozen? A,W,[],by simp,λhz=>?_,Fin.refl hw⟩;obtain⟨o,O,h1,h2,h3⟩:=hw.D8 _ _ h.block hh;rw[ba,h1] at hz;rw[ba,h2];cases h3 with
 |cells ha hf =>
  simp only[zT,zc,frz] at hz ⊢;rw[<-h.off];refine Bool.eq_false_iff.2 λhc=>?_;simp only[yY,decide_eq_true_eq,Bool.decide_and] at hc;obtain⟨p,q⟩:=hf _ hc.1 hc.2;simp[p,q] at hz
 |_=>rfl
def sY {w W:bn}(hw:CV S Ck G β w W){a A:ek}(h:C9 β a A)(hh:S.hid a.block=a8):w.cell? a=none:=by
 unfold World.cell?;rw[(hw.Ej _ _ h.block hh).1]
def sZ {a A:ek}(h:C9 β a A)(hh:S.hid a.block=a7):Cf P S Ck G β (a6 a) (a6 A) (λ_ x X=>x=a7->X=a7):=by
 unfold a6;refine B4 (gS h.block) ?_;rintro DJ _ _ hle ⟨rfl,rfl⟩;exact qT (h.mono hle) hh
def PX {w W:bn}(hw:CV S Ck G β w W){a A:ek}(h:C9 β a A)(hh:S.hid a.block=a8)(es:Array Event):∃es',(a6 a).runT P.a w es=(.ok a7 w,es'):=by
 have e0:(shape a.block).runT P.a w es=(.ok b7 w,es):=by
  show(eT (w.shape? a.block) w,es)=_;unfold World.shape?;rw[(hw.Ej _ _ h.block hh).1]
 have e1:(viewAt a.block).runT P.a w es=(.ok b7 w,es.push ⟨.obj a.block,a7,a7⟩):=by
  unfold viewAt;rw[aj,e0];simp only[AB,zg,if_false];rw[aj];have:(Go.getObj a.block).runT P.a w es=(.ok (.coro b7) w,es.push ⟨.obj a.block,a7,a7⟩):=by
   simp only[Go.getObj,Sem.runT,(hw.Ej _ _ h.block hh).1];rfl
  rw[this]
  rfl
 refine⟨es.push ⟨.obj a.block,a7,a7⟩,?_⟩;unfold a6;rw[aj,e1];show(eT (w.frozen? a) w,_)=_;rw[ba,(hw.Ej _ _ h.block hh).1]
 rfl
def s5 {k:cw}(hk:k≠.u64){x X:Array bw}(h:Ca S β x X):Cf P S Ck G β (bD (.int k) x) (bD (.int k) X) (λB8 v V=>B6 S B8 v V):=by
 have hl:=h.toList;obtain⟨l⟩:=x;obtain⟨L⟩:=X;simp only at hl;cases hl with
 |nil=>exact B9
 |cons ha hr =>
  cases hr with
  |nil=>exact B9
  |cons hb hr =>
   cases hr with
   |nil=>exact B9
   |cons hc hr =>
    cases hr with
    |cons _ _=>exact B9
    |nil =>
     refine B4 (dX ha) ?_;intro DJ a A QL hA;cases hh:S.hid a.block with
     |true =>
      refine qR λw W hw es=>?_;obtain⟨Wq,e1⟩:=PX (P:=P) hw hA hh es;obtain⟨s,hs⟩:=(O6 (P:=P) hw hA).1 a8;have e2:∀es,(bb (.int k) a).runT P.a w es=(.halt (.stuck s) w,es):=λes=>by
       unfold bb;rw[aj];have:(Go.load a .atomic).runT P.a w es=(.halt (.stuck s) w,es):=by
        simp only[Go.load,Sem.runT,sY hw hA hh];have:(cE==cE)=true:=rfl;rw[this,hs]
       rw[this]
      refine⟨s,w,Wq,?_⟩;rw[aj,e1];simp only[zg,if_false];rw[aj];have e3:(pure PUnit.unit:Sem PUnit).runT P.a w Wq=(.ok PUnit.unit w,Wq):=rfl
      first
       |(rw[e3];simp only;rw[aj,aj,e2])
       |(rw[aj,e2])
       |(rw[e2])
     |false =>
      refine B4 (sZ hA hh) ?_;intro Dq z Z Ri hz;cases z with
      |true=>exact Cb (by intro g e;cases e)
      |false =>
       rw[hz rfl];simp only[zg,if_false];refine B4 (pD hk (hA.mono Ri)) ?_;rintro Eu v V UY ⟨n1,rfl,rfl⟩;have hA3:=(hA.mono Ri).mono UY;have hb3:=((hb.mono QL).mono Ri).mono UY;have hc3:=((hc.mono QL).mono Ri).mono UY;have fin:∀(Ka:Cm) (q:Bool),Eu.le Ka->∀ {c C:bw},B6 S Eu c C->Cf P S Ck G Ka (do if q=a8 then do store a c .atomic;pure (cu q) else pure (cu q)) (do if q=a8 then do store A C .atomic;pure (cu q) else pure (cu q)) (λB8 v V=>B6 S B8 v V):=by
        intro Ka q Wy c C hcc;cases q with
        |false=>exact B5 (.bool _)
        |true =>
         refine B4 (jg (hA3.mono Wy) .atomic (hcc.mono Wy)) ?_;intro La _ _ _ _;exact B5 (.bool _)
       cases hb3 with
       |int k2 n2 =>
        refine B4 (m:=pure (n1==n2)) (R:=λ_ a A=>a=A) (B5 rfl) ?_;rintro Ka q _ Wy rfl;exact fin Ka q Wy hc3
       |ptr o s hb =>
        cases n1 with
        |ofNat m =>
         cases m with
         |zero =>
          refine B4 (m:=pure a7) (R:=λ_ a A=>a=A) (B5 rfl) ?_;rintro Ka q _ Wy rfl;exact fin Ka q Wy hc3
         |succ m=>exact B4 (R:=λ_ _ _=>False) (Cb (u:=.addressObserved) (by intro g e;cases e)) (λ_ _ _ _ h=>h.elim)
        |negSucc m=>exact B4 (R:=λ_ _ _=>False) (Cb (u:=.addressObserved) (by intro g e;cases e)) (λ_ _ _ _ h=>h.elim)
       |blank _ _ =>
        cases n1 with
        |ofNat m=>cases m<;>exact EO ((show Dead P (stuck "atomic.CompareAndSwap: old is no T":Sem Bool) from λw es=>.inl ⟨_,_,_,rfl⟩).bind _)
        |negSucc m=>exact EO ((show Dead P (stuck "atomic.CompareAndSwap: old is no T":Sem Bool) from λw es=>.inl ⟨_,_,_,rfl⟩).bind _)
       |_ =>
        cases n1 with
        |ofNat m=>cases m<;>exact B4 (R:=λ_ _ _=>False) (B9 (s := "atomic.CompareAndSwap: old is no T")) (λ_ _ _ _ h=>h.elim)
        |negSucc m=>exact B4 (R:=λ_ _ _=>False) (B9 (s := "atomic.CompareAndSwap: old is no T")) (λ_ _ _ _ h=>h.elim)
end
def I1 (p:b5)(SB:bo->Bool)(lets:Bool)(f:bo):Bool:=match p.funcs[f]? with
 |some fn=>fn.name != "runtime.NumGoroutine"&&match fn.body with
  |some c=>codeOk p SB lets a8 c
  |none=>a7
 |none=>a7
def DY {p:b5}{SB:bo->Bool}{lets:Bool}{f:bo}(this:I1 p SB lets f=a8):∃fn c,p.funcs[f]?=bc fn/\fn.name ≠ "runtime.NumGoroutine"/\fn.body=bc c/\codeOk p SB lets a8 c=true:=by
 unfold I1 at this;cases hq:p.funcs[f]? with
 |none=>rw[hq] at this;cases this
 |some fn =>
  rw[hq] at this;cases hb:fn.body with
  |none=>simp[hb] at this
  |some c=>simp[hb] at this;exact⟨fn,c,rfl,this.1,hb,this.2⟩
def G8 (P:CL)(f:bo):Prop:=∃fn Fw s,P.a.funcs[f]?=bc fn/\P.fs[f]?=bc Fw/\fn.name ≠ "runtime.NumGoroutine"/\Fw.name ≠ "runtime.NumGoroutine"/\fn.body=bc (.refuse s)/\Fw.body.isSome=a8
def en {P:CL}{S:DT}{Ck:ed->Prop}{G:Nat}{β:Cm}{f:bo}(h:G8 P f)(hf:S.fn f){a A:Array bw}(ha:Ca S β a A):Cf P S Ck G β (df f a) (df f A) (Gk S Ck):=by
 obtain⟨fn,Fw,s,h1,h2,h3,h4,h5,h6⟩:=h;exact bT h1 h2 h3 h4 (by rw[h5];rfl) h6 hf ha
def G8.bars {P:CL}{f:bo}(h:G8 P f):∃fn s,P.a.funcs[f]?=bc fn/\fn.body=bc (.refuse s):=by
 obtain⟨fn,Fw,s,h1,h2,h3,h4,h5,h6⟩:=h;exact⟨fn,s,h1,h5⟩
def wO {p:b5}{SB:bo->Bool}{H:Hid}{Gn:Nat}(h:∀f,SB f=a8->I1 p SB a7 f=a8)(Ru:∀f,aO SB f=a8->G8 (CL.of p) f)(hg:p.globals.size<=Gn/\p.info? big=b7):Lib (CL.of p) SB H a7 SB Gn:=by
 refine⟨⟨hg.2,λf hf β a A ha=>?_⟩,λf hf=>?_,λf hf=>?_,hg.1,λf hf=>?_,λ_ h=>h,λf hf=>(Ru f hf).bars⟩
 .have Gx:=hf;rcases hf with hf|hf
  .obtain⟨fn,c,h1,h2,h3,_⟩:=DY (h f hf);exact bT (P:=CL.of p) h1 h1 h2 h2 (by rw[h3];rfl) (by rw[h3];rfl) Gx ha
  .exact en (Ru f hf) Gx ha
 .obtain⟨fn,c,h1,_,h3,h4⟩:=DY (h f hf);exact⟨fn,c,h1,by rw[h3];rfl,h4,h1⟩
 .obtain⟨fn,c,h1,_,_,_⟩:=DY (h f hf);exact⟨fn,fn,h1,h1,rfl⟩
 .obtain⟨fn,c,h1,_,h3,_⟩:=DY (h f hf);have:=aW h1 (by rw[h3];rfl);exact⟨this,this⟩
def uK {P:CL}{SB BB:bo->Bool}{H:Hid}{lets:Bool}{Gn:Nat}(h:∀f,BB f=a8->I1 P.a SB lets f=a8)(same:∀f,BB f=a8->P.fs[f]?=P.a.funcs[f]?)
  (stops:∀f,SB f=a8->BB f=a7->∃fn Fw,P.a.funcs[f]?=bc fn/\P.fs[f]?=bc Fw/\fn.results=Fw.results/\fn.name ≠ "runtime.NumGoroutine"/\Fw.name ≠ "runtime.NumGoroutine"/\fn.body.isSome=a8/\Fw.body.isSome=a8)
  (sub:∀f,BB f=a8->SB f=a8) (Ru:∀f,aO SB f=a8->G8 P f) (hg:P.a.globals.size<=Gn/\P.a.info? big=b7):Lib P SB H lets BB Gn:=by
 refine⟨⟨hg.2,λf hf β a A ha=>?_⟩,λf hf=>?_,λf hf=>?_,hg.1,λf hf=>?_,sub,λf hf=>(Ru f hf).bars⟩
 .have Gx:=hf;rcases hf with hf|hf
  rotate_left
  .exact en (Ru f hf) Gx ha
  cases hb:BB f with
  |true =>
   obtain⟨fn,c,h1,h2,h3,_⟩:=DY (h f hb);exact bT h1 ((same f hb).trans h1) h2 h2 (by rw[h3];rfl) (by rw[h3];rfl) Gx ha
  |false =>
   obtain⟨fn,Fw,h1,h2,_,h3,h4,h5,h6⟩:=stops f hf hb;exact bT h1 h2 h3 h4 h5 h6 Gx ha
 .obtain⟨fn,c,h1,_,h3,h4⟩:=DY (h f hf);exact⟨fn,c,h1,by rw[h3];rfl,h4,(same f hf).trans h1⟩
 .cases hb:BB f with
  |true =>
   obtain⟨fn,c,h1,_,_,_⟩:=DY (h f hb);exact⟨fn,fn,h1,(same f hb).trans h1,rfl⟩
  |false =>
   obtain⟨fn,Fw,h1,h2,h3,_⟩:=stops f hf hb;exact⟨fn,Fw,h1,h2,h3⟩
 .cases hb:BB f with
  |true =>
   obtain⟨fn,c,h1,_,h3,_⟩:=DY (h f hb);exact⟨aW h1 (by rw[h3];rfl),aW (p:=P.b) ((same f hb).trans h1) (by rw[h3];rfl)⟩
  |false =>
   obtain⟨fn,Fw,h1,h2,_,_,_,h5,h6⟩:=stops f hf hb;exact⟨aW h1 h5,aW (p:=P.b) h2 h6⟩
inductive Km:(Array bw->Sem bw)->Prop
 |load (k:cw):Km (cf (.int k))
 |add (k:cw):Km (b9 (Op.intArith .add) k a8)
 |GU (k:cw):k≠.u64->Km (bD (.int k))
section
variable {P:CL} {S:DT} {Ck:ed->Prop} {G:Nat} {β:Cm}
def qU {e:Array bw->Sem bw}(h:Km e){a A:Array bw}(ha:Ca S β a A):Cf P S Ck G β (e a) (e A) (λB8 v V=>B6 S B8 v V):=by
 cases h with
 |load k=>exact qS k ha
 |add k=>exact sX k ha
 |GU k hk=>exact s5 hk ha
def MG (P:CL)(f:bo):Prop:=∃fn e,P.a.funcs[f]?=bc fn/\P.fs[f]?=bc fn/\(fn.name == "runtime.NumGoroutine")=a7/\fn.body.isNone=a8/\Extern.findNext fn=b7/\Extern.find fn=bc e/\Km e/\jn fn.name=a7
def jM {f:bo}(h:MG P f){a A:Array bw}(ha:Ca S β a A):Cf P S Ck G β (df f a) (df f A) (Gk S Ck):=by
 obtain⟨fn,e,h1,h2,h3,h4,h5,h6,h7,_⟩:=h;refine B4 aR ?_;rintro DJ p p' hle ⟨hp,hp'⟩;subst p p';rw[h1,show P.b.funcs[f]?=bc fn from h2];simp only[h3,h4,h5,h6,zg,if_false,if_true];refine B4 (pC f) ?_;intro Dq _ _ Ri _;refine B4 (qU h7 ((ha.mono hle).mono Ri)) ?_;intro Eu v V _ hv;exact B5 (.value hv)
def ow {p:b5}{SB:bo->Bool}{H:Hid}{Gn:Nat}(h:∀f,SB f=a8->I1 p SB a7 f=a8\/MG (CL.of p) f)(Ru:∀f,aO SB f=a8->G8 (CL.of p) f)(hg:p.globals.size<=Gn/\p.info? big=b7):Lib (CL.of p) SB H a7 SB Gn:=by
 refine⟨⟨hg.2,λf hf β a A ha=>?_⟩,λf hf=>?_,λf hf=>?_,hg.1,λf hf=>?_,λ_ h=>h,λf hf=>(Ru f hf).bars⟩
 .have Gx:=hf;rcases hf with hf|hf
  rotate_left
  .exact en (Ru f hf) Gx ha
  rcases h f hf with h0|h0
  .obtain⟨fn,c,h1,h2,h3,_⟩:=DY h0;exact bT (P:=CL.of p) h1 h1 h2 h2 (by rw[h3];rfl) (by rw[h3];rfl) Gx ha
  .exact jM h0 ha
 .rcases h f hf with h0|⟨fn,e,h1,h2,_,h4,_⟩
  .obtain⟨fn,c,h1,_,h3,h4⟩:=DY h0;exact⟨fn,c,h1,by rw[h3];rfl,h4,h1⟩
  .refine⟨fn,_,h1,rfl,?_,h2⟩;have:fn.body=none:=by simpa using h4
   rw[this];rfl
 .rcases h f hf with h0|⟨fn,e,h1,h2,_⟩
  .obtain⟨fn,c,h1,_,_,_⟩:=DY h0;exact⟨fn,fn,h1,h1,rfl⟩
  .exact⟨fn,fn,h1,h2,rfl⟩
 .rcases h f hf with h0|⟨fn,e,h1,h2,_,_,_,_,_,h8⟩
  .obtain⟨fn,c,h1,_,h3,_⟩:=DY h0;have:=aW h1 (by rw[h3];rfl);exact⟨this,this⟩
  .exact⟨dT h1 h8,dT (p:=(CL.of p).b) h2 h8⟩
def iI {P:CL}{SB BB:bo->Bool}{H:Hid}{lets:Bool}{Gn:Nat}(h:∀f,BB f=a8->(I1 P.a SB lets f=a8/\P.fs[f]?=P.a.funcs[f]?)\/MG P f)
  (stops:∀f,SB f=a8->BB f=a7->∃fn Fw,P.a.funcs[f]?=bc fn/\P.fs[f]?=bc Fw/\fn.results=Fw.results/\fn.name ≠ "runtime.NumGoroutine"/\Fw.name ≠ "runtime.NumGoroutine"/\fn.body.isSome=a8/\Fw.body.isSome=a8)
  (sub:∀f,BB f=a8->SB f=a8) (Ru:∀f,aO SB f=a8->G8 P f) (hg:P.a.globals.size<=Gn/\P.a.info? big=b7):Lib P SB H lets BB Gn:=by
 refine⟨⟨hg.2,λf hf β a A ha=>?_⟩,λf hf=>?_,λf hf=>?_,hg.1,λf hf=>?_,sub,λf hf=>(Ru f hf).bars⟩
 .have Gx:=hf;rcases hf with hf|hf
  rotate_left
  .exact en (Ru f hf) Gx ha
  cases hb:BB f with
  |true =>
   rcases h f hb with⟨h0,hs⟩|h0
   .obtain⟨fn,c,h1,h2,h3,_⟩:=DY h0;exact bT h1 (hs.trans h1) h2 h2 (by rw[h3];rfl) (by rw[h3];rfl) Gx ha
   .exact jM h0 ha
  |false =>
   obtain⟨fn,Fw,h1,h2,_,h3,h4,h5,h6⟩:=stops f hf hb;exact bT h1 h2 h3 h4 h5 h6 Gx ha
 .rcases h f hf with⟨h0,hs⟩|⟨fn,e,h1,h2,_,h4,_⟩
  .obtain⟨fn,c,h1,_,h3,h4⟩:=DY h0;exact⟨fn,c,h1,by rw[h3];rfl,h4,hs.trans h1⟩
  .refine⟨fn,_,h1,rfl,?_,h2⟩;have:fn.body=none:=by simpa using h4
   rw[this];rfl
 .cases hb:BB f with
  |true =>
   rcases h f hb with⟨h0,hs⟩|⟨fn,e,h1,h2,_⟩
   .obtain⟨fn,c,h1,_,_,_⟩:=DY h0;exact⟨fn,fn,h1,hs.trans h1,rfl⟩
   .exact⟨fn,fn,h1,h2,rfl⟩
  |false =>
   obtain⟨fn,Fw,h1,h2,h3,_⟩:=stops f hf hb;exact⟨fn,Fw,h1,h2,h3⟩
 .cases hb:BB f with
  |true =>
   rcases h f hb with⟨h0,hs⟩|⟨fn,e,h1,h2,_,_,_,_,_,h8⟩
   .obtain⟨fn,c,h1,_,h3,_⟩:=DY h0;exact⟨aW h1 (by rw[h3];rfl),aW (p:=P.b) (hs.trans h1) (by rw[h3];rfl)⟩
   .exact⟨dT h1 h8,dT (p:=P.b) h2 h8⟩
  |false =>
   obtain⟨fn,Fw,h1,h2,_,_,_,h5,h6⟩:=stops f hf hb;exact⟨aW h1 h5,aW (p:=P.b) h2 h6⟩
end
open Go.ConcN
structure TI (Sh:Loc->Prop)(Wr Rd:Nat->Loc->Prop)(N:Nat)(t:Trace):Prop where
 quiet:Quiet Sh t
 own:∀k,k<N->∀l,Wr k l->Perm t k l
 rd:∀k,k<N->∀l,Rd k l->PermW t k l
 nr:∀said,¬Race said t
 gs:∀(i:Nat) (op:MemOp),t[i]?=bc op->op.g<N
def ib (t:Trace)(l:Loc):Prop:=∀i a,touchAt t i=bc a->a.loc≠l
section
variable {Sh:Loc->Prop} {Wr Rd Wr' Rd':Nat->Loc->Prop} {N k:Nat} {t u:Trace}
def OkOp (Sh:Loc->Prop)(Wr Rd:Nat->Loc->Prop)(k:Nat)(op:MemOp):Prop :=
 op.g=k/\∀x,op.act.touch?=bc x->x.loc.isMemory=a7\/(Sh x.loc/\x.kind≠.plain/\(x.kind=.said->k=0))\/(¬Sh x.loc/\(x.write=a8->Wr k x.loc)/\(x.write=a7->Rd k x.loc))
def TI.app (h:TI Sh Wr Rd N t)(hk:k<N)(hu:∀op∈u,OkOp Sh Wr' Rd' k op)
  (others:∀j,j≠k->∀l,(Wr' j l->Wr j l)/\(Rd' j l->Rd j l)) (abf:∀l,Wr' k l->Wr k l\/ib t l) (abg:∀l,Rd' k l->Rd k l\/ib t l)
  (sh:∀j l,Sh l->¬Wr' j l/\¬Rd' j l) (mem:∀l,(Sh l\/∃j,Wr' j l\/Rd' j l)->l.isMemory=a8) (apart:∀j,j≠k->j<N->∀l,(Wr' k l->¬Rd' j l/\¬Wr' j l)/\(Rd' k l->¬Wr' j l)):TI Sh Wr' Rd' N (t++u):=by
 have perm:∀l,Wr' k l->Perm t k l:=λl hl=>(abf l hl).elim (h.own k hk l) λhf i a ha e=>absurd e (hf i a ha);have Wz:∀l,Rd' k l->PermW t k l:=λl hl=>(abg l hl).elim (h.rd k hk l) λhf i a ha e=>absurd e (hf i a ha);refine⟨h.quiet.app λop hop x hx hs=>?_,λj hj l hl=>?_,λj hj l hl=>?_,λsaid=>?_,λi op hi=>?_⟩
 .rcases(hu op hop).2 x hx with hm|⟨_,h1,h2⟩|⟨hn,_⟩
  .rw[mem _ (.inl hs)] at hm;cases hm
  .exact⟨h1,λe=>(hu op hop).1.trans (h2 e)⟩
  .exact absurd hs hn
 .by_cases e:j=k
  .subst e;exact(perm l hl).app λop hop _ _ _=>(hu op hop).1
  .refine(h.own j hj l ((others j e l).1 hl)).app λop hop b hb e'=>?_;rcases(hu op hop).2 b hb with hm|⟨hs,_⟩|⟨_,h1,h2⟩
   .rw[e',mem _ (.inr ⟨j,.inl hl⟩)] at hm;cases hm
   .exact absurd hl (sh j l (e'▸hs)).1
   .cases hw:b.write with
    |true=>exact absurd hl ((apart j e hj l).1 (e'▸h1 hw)).2
    |false=>exact absurd hl ((apart j e hj l).2 (e'▸h2 hw))
 .by_cases e:j=k
  .subst e;exact(Wz l hl).app λop hop _ _ _ _=>(hu op hop).1
  .refine(h.rd j hj l ((others j e l).2 hl)).app λop hop b hb e' hw=>?_;rcases(hu op hop).2 b hb with hm|⟨hs,_⟩|⟨_,h1,_⟩
   .rw[e',mem _ (.inr ⟨j,.inr hl⟩)] at hm;cases hm
   .exact absurd hl (sh j l (e'▸hs)).2
   .exact absurd hl ((apart j e hj l).1 (e'▸h1 hw)).1
 .refine cK (h.nr said) (λop hop=>(hu op hop).1) (λi a ha op hop b hb hc=>?_);rcases(hu op hop).2 b hb with hm|⟨hs,h1,h2⟩|⟨_,h1,h2⟩
  .have:=hc.2.1;rw[hc.1,hm] at this;cases this
  .exact h.quiet.known hs h1 h2 i a ha hc
  .cases KW:b.write with
   |true=>exact perm b.loc (h1 KW) i a ha hc.1
   |false=>exact Wz b.loc (h2 KW) i a ha hc.1 (hc.2.2.1.resolve_right (by simp[KW]))
 .rcases b6 hi with⟨_,hi'⟩|⟨_,hiu⟩
  .exact h.gs i op hi'
  .rw[(hu op hiu).1];exact hk
def TI.mono (h:TI Sh Wr Rd N t)(hw:∀k l,Wr' k l->Wr k l)(hr:∀k l,Rd' k l->Rd k l):TI Sh Wr' Rd' N t :=
 ⟨h.quiet,λk hk l hl=>h.own k hk l (hw k l hl),λk hk l hl=>h.rd k hk l (hr k l hl),h.nr,h.gs⟩
def TI.fork (h:TI Sh Wr Rd N t){x y:MemOp}(hN:0<N)(hx:x.g=0/\x.act=.go N)(hy:y.g=N/\y.act=.start)(h0:Deaf t 0=0)
  (others:∀j,j<N->∀l,(Wr' j l->Wr j l)/\(Rd' j l->Rd j l)) (child:∀l,(Wr' N l->Wr 0 l)/\(Rd' N l->Rd 0 l)):TI Sh Wr' Rd' (N+1) (t++#[x,y]):=by
 have hk:Deaf t N=0:=Deaf_absent λi op hi e=>by have:=h.gs i op hi;omega
 have Mi:∀op∈#[x,y],∀b,op.act.touch?=bc b->False:=by
  intro op hop b hb;simp only[z8,yT,yQ,or_false] at hop;rcases hop with rfl|rfl
  .rw[hx.2] at hb;cases hb
  .rw[hy.2] at hb;cases hb
 have old:∀ {i:Nat} {a:Touch},touchAt (t++#[x,y]) i=bc a->touchAt t i=bc a:=by
  intro i a ha;obtain⟨z,hz,hza⟩:=touch_of ha;rcases b6 hz with⟨_,hz'⟩|⟨_,hzu⟩
  .rw[touchAt_of hz'];exact hza
  .exact(Mi z hzu a hza).elim
 refine⟨h.quiet.app λop hop b hb _=>(Mi op hop b hb).elim,λk hkN l hl=>?_,λk hkN l hl=>?_,λsaid=>?_,λi op hi=>?_⟩
 .rcases zC k N with hlt|GK
  .exact(h.own k hlt l ((others k hlt l).1 hl)).app λop hop b hb _=>(Mi op hop b hb).elim
  .obtain rfl:k=N:=by omega
   exact λi a ha e=>fork_knows hx hy h0 hk (h.own 0 hN l ((child l).1 hl) i a (old ha) e)
 .rcases zC k N with hlt|GK
  .exact(h.rd k hlt l ((others k hlt l).2 hl)).app λop hop b hb _ _=>(Mi op hop b hb).elim
  .obtain rfl:k=N:=by omega
   exact λi a ha e hw=>fork_knows hx hy h0 hk (h.rd 0 hN l ((child l).2 hl) i a (old ha) e hw)
 .have e:t++#[x,y]=(t++#[x])++#[y]:=by apply Array.ext';simp
  rw[e];refine cK (g:=N) (cK (g:=0) (h.nr said) (λop hop=>by simp at hop;rw[hop];exact hx.1) (λi a _ op hop b hb _=>(Mi op (by simp at hop ⊢;exact .inl hop) b hb).elim))
   (λop hop=>by simp at hop;rw[hop];exact hy.1) (λi a _ op hop b hb _=>(Mi op (by simp at hop ⊢;exact .inr hop) b hb).elim)
 .rcases b6 hi with⟨_,hi'⟩|⟨_,hiu⟩
  .have:=h.gs i op hi';omega
  .simp only[z8,yT,yQ,or_false] at hiu;rcases hiu with rfl|rfl
   .rw[hx.1];omega
   .rw[hy.1];omega
end
inductive One {α:Type}(R:α->α->Prop):List α->List α->Prop
 |head {x y:α} {l:List α}:R x y->One R (x::l) (y::l)
 |tail {a:α} {l l':List α}:One R l l'->One R (a::l) (a::l')
def One.cons {α:Type}{R:α->α->Prop}{a:α}(ha:Acc R a):∀ {l:List α},Acc (One R) l->Acc (One R) (a::l):=by
 induction ha with
 |intro a _ iha =>
  intro l hl
  induction hl with
  |intro l hl ihl =>
   refine .intro _ λm hm=>?_;cases hm with
   |head h=>exact iha _ h (.intro l hl)
   |tail h=>exact ihl _ h
def One.acc {α:Type}{R:α->α->Prop}:∀ {l:List α},(∀x∈l,Acc R x)->Acc (One R) l
 |[],_=>.intro _ λm hm=>by cases hm
 |a::l,h=>One.cons (h a (by simp)) (One.acc λx hx=>h x (by simp[hx]))
def One.set {α:Type}{R:α->α->Prop}:∀ {l:List α} {i:Nat} {x y:α},l[i]?=bc y->R x y->One R (l.set i x) l
 |_::_,0,_,_,h,r=>by
  simp only[zr,cq] at h;subst h;exact .head r
 |_::l,i+1,_,_,h,r=>by
  simp only[zz] at h;exact .tail (One.set h r)
def iw (P:b5)(l C:ed)(N:Act->bn->Prop)(a:Act)(w:bn):Prop :=
 ∀(b:bW) (k:List Item) (cs:List bW),∃a' w',N a' w'/\Steps P (lone (b.at a (.code C::k)) cs w) (lone (b.at a' (.code l::k)) cs w')
def i5 {P:b5}{l:ed}{N:Act->bn->Prop}{a:Act}{w:bn}(h:N a w):iw P l l N a w:=λ_ _ _=>⟨a,w,h,.refl _ _⟩
def j8 {P:b5}{l c r:ed}{N:Act->bn->Prop}{a:Act}{w:bn}(h:c.wp P (Exit.then (iw P l r N) λ_ _ _=>False) a w):iw P l (.seq c r) N a w:=λb k cs=>by
 obtain⟨e,a1,w1,hq,MC⟩:=h b (.code r::k) cs;cases e with
 |normal =>
  obtain⟨a2,w2,hn,hs⟩:=hq b k cs;exact⟨a2,w2,hn,.head step_seq (Steps.trans MC hs)⟩
 |_=>exact hq.elim
def mL:∀(n:Nat) (V:bw),cU V<=n->∃v,(∀(S:DT) (β:Cm),S.hid.bl=a8->B6 S β v V)/\∀(S:DT) (β:Cm),B6 S β v v:=by
 intro n
 induction n with
 |zero=>intro V h;cases V<;>simp at h
 |succ n ih =>
  intro V h;have un:n8 V=a8->∃v,(∀(S:DT) (β:Cm),S.hid.bl=a8->B6 S β v V)/\∀(S:DT) (β:Cm),B6 S β v v:=λhb=>⟨hole,λS β h=>.blank (.inr h) hb,λS β=>.blank (.inl rfl) rfl⟩;cases V with
  |agg X =>
   have hx:∀i:_root_.Fin X.size,∃v,(∀(S:DT) (β:Cm),S.hid.bl=a8->B6 S β v X[i])/\∀(S:DT) (β:Cm),B6 S β v v:=λi=>ih _ (by
    have:=cF X i.1 i.2;simp at h;simp only[Fin.getElem_fin]
    omega)
   refine⟨.agg (eH λi=>cr (hx i)),λS β hb=>.agg (by simp) λi v V h1 h2=>?_,λS β=>.agg rfl λi v V h1 h2=>?_⟩
   .obtain⟨hi,rfl⟩:=yK.1 h2;obtain⟨_,rfl⟩:=yK.1 h1;rw[Bi];exact(bs (hx ⟨i,hi⟩)).1 S β hb
   .rw[h1] at h2;cases h2;obtain⟨hi,rfl⟩:=yK.1 h1;rw[Bi];exact(bs (hx _)).2 S β
  |tuple X =>
   have hx:∀i:_root_.Fin X.size,∃v,(∀(S:DT) (β:Cm),S.hid.bl=a8->B6 S β v X[i])/\∀(S:DT) (β:Cm),B6 S β v v:=λi=>ih _ (by
    have:=cF X i.1 i.2;simp at h;simp only[Fin.getElem_fin]
    omega)
   refine⟨.tuple (eH λi=>cr (hx i)),λS β hb=>.tuple (by simp) λi v V h1 h2=>?_,λS β=>.tuple rfl λi v V h1 h2=>?_⟩
   .obtain⟨hi,rfl⟩:=yK.1 h2;obtain⟨_,rfl⟩:=yK.1 h1;rw[Bi];exact(bs (hx ⟨i,hi⟩)).1 S β hb
   .rw[h1] at h2;cases h2;obtain⟨hi,rfl⟩:=yK.1 h1;rw[Bi];exact(bs (hx _)).2 S β
  |pointer a=>cases a with
   |none=>exact⟨.pointer b7,λ_ _ _=>.FJ,λ_ _=>.FJ⟩
   |some a=>exact un rfl
  |bool b=>exact⟨.bool b,λ_ _ _=>.bool b,λ_ _=>.bool b⟩
  |int k n=>exact⟨.int k n,λ_ _ _=>.int k n,λ_ _=>.int k n⟩
  |string s=>exact⟨.string s,λ_ _ _=>.string s,λ_ _=>.string s⟩
  |nilIface=>exact⟨.nilIface,λ_ _ _=>.nilIface,λ_ _=>.nilIface⟩
  |nilFunc=>exact⟨.nilFunc,λ_ _ _=>.nilFunc,λ_ _=>.nilFunc⟩
  |func f x c=>cases f with
   |method n=>exact⟨hm,λ_ _ h=>.C3 (.inr h),λ_ _=>.C3 (.inl rfl)⟩
   |_=>exact un rfl
  |_=>exact un rfl
noncomputable def fU (V:bw):Value:=cr (mL (cU V) V (yL _))
def i6 (V:bw):(∀(S:DT) (β:Cm),S.hid.bl=a8->B6 S β (fU V) V)/\∀(S:DT) (β:Cm),B6 S β (fU V) (fU V):=bs (mL (cU V) V (yL _))
noncomputable def cC (k:Nat->Bool)(C:Array bw):Array Value:=C.mapIdx λi V=>if k i then V else fU V
def ix (k:Nat->Bool)(C:Array bw):(cC k C).size=C.size:=by simp[cC]
def fK (k:Nat->Bool)(C:Array bw)(i:Nat):(cC k C)[i]?=(C[i]?).map λV=>if k i then V else fU V:=by simp[cC]
def lQ {k:Nat->Bool}{C:Array bw}{i:Nat}(h:k i=a8):(cC k C)[i]?=C[i]?:=by
 rw[fK];simp[h]
def nO {S:DT}{β:Cm}{k:Nat->Bool}{C:Array bw}(hb:S.hid.bl=a8)(h:∀i v,k i=a8->C[i]?=bc v->B6 S β v v):Ca S β (cC k C) C:=by
 refine⟨ix _ _,λi v V h1 h2=>?_⟩;rw[fK,h2] at h1;simp only[zT,cq] at h1;subst h1;split
 .exact h i V ‹_› h2
 .exact(i6 V).1 S β hb
def mM {S:DT}{β:Cm}{k:Nat->Bool}{C:Array bw}(h:∀i v,k i=a8->C[i]?=bc v->B6 S β v v):Ca S β (cC k C) (cC k C):=by
 refine⟨rfl,λi v V h1 h2=>?_⟩;rw[h1] at h2;cases h2;rw[fK] at h1;cases hC:C[i]? with
 |none=>rw[hC] at h1;cases h1
 |some V =>
  rw[hC] at h1;simp only[zT,cq] at h1;subst h1;split
  .exact h i V ‹_› hC
  .exact(i6 V).2 S β
noncomputable def iM (k:Nat->Bool):Obj->Obj
 |.cells C t f=>.cells (cC k C) t (0,max C.size f.2)
 |o=>o
noncomputable def bH (K:Nat->Bool)(k:Nat->Nat->Bool)(W:bn):World:={ W with heap:=W.heap.mapIdx λb o=>if K b then iM (k b) o else o }
section
variable {K:Nat->Bool} {k:Nat->Nat->Bool} {W:bn}
def nP:(bH K k W).heap.size=W.heap.size:=by simp[bH]
def j9 (b:Nat):(bH K k W).heap[b]?=(W.heap[b]?).map λo=>if K b then iM (k b) o else o:=by simp[bH]
def fg {b:Nat}(hb:K b=a8){C:Array bw}{t:TypeId}{f:Nat×Nat}(h:W.heap[b]?=bc (.cells C t f)):(bH K k W).heap[b]?=bc (.cells (cC (k b) C) t (0,max C.size f.2)):=by
 rw[j9,h];simp[hb,iM]
def nQ {b o:Nat}(h:K b=a8->k b o=a8):(bH K k W).cell? ⟨b,o,b7⟩=W.cell? ⟨b,o,b7⟩:=by
 unfold World.cell?;dsimp only;rw[j9];cases hb:K b with
 |false=>cases W.heap[b]?<;>simp
 |true =>
  cases hW:W.heap[b]? with
  |none=>rfl
  |some o' =>
   cases o' with
   |cells C t f=>simp[iM,lQ (h hb)]
   |_=>rfl
def rS {b:Nat}(hb:K b=a8){C:Array bw}{t:TypeId}{f:Nat×Nat}(h:W.heap[b]?=bc (.cells C t f)):Ro (bH K k W) b :=
 ⟨_,_,_,fg hb h,λi hi=>by
  rw[ix] at hi
  exact⟨zf _,yO hi (Nat.le_max_left _ _)⟩⟩
def LC (S:DT)(K:Nat->Bool)(k:Nat->Nat->Bool)(W:bn):Prop:=∀b,K b=a8->∃C t f,W.heap[b]?=bc (.cells C t f)/\∀i v,k b i=a8->C[i]?=bc v->B6 S (CX λb=>K b=a8) v v
def nR {S:DT}{Ck:ed->Prop}(hb:S.hid.bl=a8)(hh:∀b,S.hid b=a7)(h:LC S K k W):CV S Ck 0 (CX λb=>K b=a8) (bH K k W) W:=by
 refine⟨⟨λh1 h2=>h1.2.symm.trans h2.2,λh1 h2=>h1.2.trans h2.2.symm,λ_=>⟨zf _,zf _⟩⟩,⟨zf _,zf _⟩,λb B hB _=>?_,λb B _ h=>?_,λb h=>?_,rfl⟩
 .obtain⟨hk,rfl⟩:=hB;obtain⟨C,t,f,h1,h2⟩:=h b hk;exact⟨_,_,fg hk h1,h1,.cells (nO hb h2) λi _ hi=>⟨zf _,yO hi (Nat.le_max_right _ _)⟩⟩
 .rw[hh] at h;cases h
 .rw[hh] at h;cases h
def Nr {S:DT}{Ck:ed->Prop}(h:LC S K k W):∀b,K b=a8->∃o,(bH K k W).heap[b]?=bc o/\C5 S Ck (CX λb=>K b=a8) o o:=λb hk=>by
 obtain⟨C,t,f,h1,h2⟩:=h b hk;exact⟨_,fg hk h1,.cells (mM h2) λi h1 h2=>⟨h1,h2⟩⟩
end
def Hid.nb:Hid:=⟨λ_=>a7,a7,a8⟩
end Go.Ct
