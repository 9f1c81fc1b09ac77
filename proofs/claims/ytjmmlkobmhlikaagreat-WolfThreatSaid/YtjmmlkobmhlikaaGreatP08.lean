/- Parts of the proof. -/
import Derived.Test.YtjmmlkobmhlikaaGreatP07
import GoSem.Extern.Atomic
import Derived.Conc.Walk
import Derived.Conc.Own4
set_option linter.all false
namespace Go.Iso
open Go.Conc
def Fatal:Halt->Prop
 |.stuck _=>True
 |.unsupported u=>∀g,u≠.initOrder g
 |_=>False
def FatalR {α:Type}:Result α->Prop
 |.halt h _=>Fatal h
 |_=>False
section
variable {p:Program}
def cas_inv {c:FuncId} {fc:Func} (hf:p.funcs[c]?=some fc) (hname:(fc.name == "runtime.NumGoroutine")=false) (hb:fc.body.isNone=true) (hn:Extern.findNext fc=none) (he:Extern.find fc=some (Extern.Atomic.casT (.int .i32)))
  {a:Addr} {w:World} {x y:Int} (h1:∃s,w.farLoad p a true=.error (.stuck s)) (h2:∀t u,w.heap[a.block]?≠some (.view t u)) :
  (∃z,w.cell? a=some (.int .i32 z)/\w.frozen? a=false)\/FatalR ((callFunc c #[.pointer (some a),.int .i32 x,.int .i32 y]).run p w):=by
 obtain⟨s,h1⟩:=h1
 rw[run_callFunc_extern hf hname hb hn he]
 have e0:(Extern.Atomic.casT (.int .i32) #[.pointer (some a),.int .i32 x,.int .i32 y])=(do
  let a'<-asAddr (.pointer (some a))
  if<-Extern.Atomic.touchesFrozen a' then unsupported (.unsafePointer "a write to bytes that a string shares")
  let eq<-match Extern.Atomic.T.int .i32,<-Extern.Atomic.read (.int .i32) a',Value.int .i32 x with
   |_,.int _ x,.int _ y=>pure (x==y)
   |.ptr,.pointer x,.pointer y=>samePointer x y
   |.int _,.pointer (some _),.int _ 0|.int _,.int _ 0,.pointer (some _)=>pure false
   |.int _,.pointer (some _),_|.int _,_,.pointer (some _)=>unsupported .addressObserved
   |_,_,_=>stuck "atomic.CompareAndSwap: old is no T"
  if eq then store a' (.int .i32 y) .atomic
  pure (Value.bool eq)):=rfl
 rw[e0]
 by_cases hv:∃o,w.shape? a.block=none/\w.heap[a.block]?=o/\(o=none\/∃c t f,o=some (.cells c t f))
 ·obtain⟨o,q1,q2,q3⟩:=hv
  refine .inr ?_
  rcases q3 with rfl|⟨c,t,f,rfl⟩
  ·simp[Extern.Atomic.touchesFrozen,asAddr,viewAt,shape,getObj,Sem.run,q1,q2,Result.andThen,FatalR,Fatal,stuck,unsupported]
  ·simp[Extern.Atomic.touchesFrozen,asAddr,viewAt,shape,getObj,Sem.run,q1,q2,Result.andThen,FatalR,Fatal,stuck,unsupported]
 have hview:(viewAt a.block).run p w=.ok none w:=by
  cases hs:w.shape? a.block with
  |some z=>simp[viewAt,shape,Sem.run,hs,Result.andThen]
  |none =>
   cases ho:w.heap[a.block]? with
   |none=>exact absurd ⟨_,hs,ho,.inl rfl⟩ hv
   |some o =>
    cases o with
    |cells c t f=>exact absurd ⟨_,hs,ho,.inr ⟨_,_,_,rfl⟩⟩ hv
    |view t u=>exact absurd ho (h2 t u)
    |_=>simp[viewAt,shape,getObj,Sem.run,hs,ho,Result.andThen]
 cases hz:w.frozen? a with
 |true=>exact .inr (by simp[Extern.Atomic.touchesFrozen,asAddr,hview,hz,frozen,Sem.run,Result.andThen,FatalR,Fatal,stuck,unsupported])
 |false =>
  cases hc:w.cell? a with
  |none =>
   have hl:(load a .atomic).run p w=.halt (.stuck s) w:=by
    have:(Mode.atomic==Mode.atomic)=true:=rfl
    simp[load,Sem.run,hc,this,h1]
   exact .inr (by simp[Extern.Atomic.touchesFrozen,Extern.Atomic.read,asAddr,hview,hz,frozen,Sem.run,hl,Result.andThen,FatalR,Fatal,stuck,unsupported])
  |some v =>
   have hl:(load a .atomic).run p w=.ok v w:=by simp[load,Sem.run,hc]
   cases v with
   |int k z =>
    by_cases hk:k=.i32
    ·subst hk;exact .inl ⟨z,rfl,rfl⟩
    ·have hk':¬IntKind.i32=k:=λe=>hk e.symm
     exact .inr (by simp[Extern.Atomic.touchesFrozen,Extern.Atomic.read,asAddr,hview,hz,frozen,Sem.run,hl,hk',Result.andThen,FatalR,Fatal,stuck,unsupported])
   |pointer q=>cases q<;>exact .inr (by simp[Extern.Atomic.touchesFrozen,Extern.Atomic.read,asAddr,hview,hz,frozen,Sem.run,hl,Result.andThen,FatalR,Fatal,stuck,unsupported])
   |_=>exact .inr (by simp[Extern.Atomic.touchesFrozen,Extern.Atomic.read,asAddr,hview,hz,frozen,Sem.run,hl,Result.andThen,FatalR,Fatal,stuck,unsupported])
def iI {main:Bool}{b:Frame}{a:Act}{ops:Array Oper}{i:Nat}{rest:List Nat}{k:List Item}{cs:List Frame}{w:World}{o:Oper}(ho:ops[i]?=some o)(hw:Region.wanted o (yielded ops a.tmps)=true)(hk:b.kind≠.early)
  (h:FatalR ((execOp a.eval o).run p w)) {g':Goroutine} {w':World} {es:Array Event}:stepG p main (gor (b.at a (.inRegion ops (i::rest)::k)) cs) w≠.go g' w' es:=by
 intro e
 have e':=(stepG_oper (P:=p) (main:=main) (b:=b) (a:=a) (k:=k) (cs:=cs) (w:=w) ho hw).symm.trans e
 have hk':(b.kind==CallKind.early)=false:=by simpa using hk
 unfold stepG.apply at e'
 rw[<-Sem.runT_fst p _ w #[]] at h
 simp only[if_true,Frame.at,hk',Bool.false_eq_true,if_false] at e'
 revert e' h
 rcases(execOp a.eval o).runT p w #[] with⟨r,es⟩
 intro h e'
 cases r with
 |ok v w'=>exact h.elim
 |halt x w' =>
  cases x with
  |stuck s=>cases e'
  |unsupported u =>
   cases u with
   |initOrder g=>exact absurd rfl (h g)
   |_=>cases e'
  |_=>exact h.elim
structure Patch (p:Program)(f:FuncId)(x y:Int)(fn:Func)(r:Nat)(o1 o2:Oper)(s:String):Prop where
 func:p.funcs[f]?=some fn
 text:fn.body=some (.seq (.region r #[o1,o2] false) (.cond (.tmp 1) .ret (.refuse s)))
 room:3<=fn.ntmps
 res:fn.results=#[]
 free:o1.guard=none/\o1.dst=some 2/\o2.guard=none/\o2.dst=some 1
 one:∀(a:Act) w,(∃q,a.eval (.tmp 0)=.pointer (some q)/\(execOp a.eval o1).run p w=.ok (.value (.pointer (some q))) w)\/FatalR ((execOp a.eval o1).run p w)
 two:∀(a:Act) q w,a.eval (.tmp 2)=.pointer (some q)->(∃s,w.farLoad p q true=.error (.stuck s))->(∀t u,w.heap[q.block]?≠some (.view t u)) ->
  (∃z,w.cell? q=some (.int .i32 z)/\w.frozen? q=false/\(z=x->(execOp a.eval o2).run p w=.ok (.value (.bool true)) (w.setCell q (.int .i32 y)))/\(z≠x->(execOp a.eval o2).run p w=.ok (.value (.bool false)) w))\/FatalR ((execOp a.eval o2).run p w)
variable {f:FuncId} {x y:Int} {fn:Func} {r:Nat} {o1 o2:Oper} {s:String} {args:Array Value} {k:CallKind} {cs:List Frame} {w:World}
def lB (h:Patch p f x y fn r o1 o2 s):Frame.enter p f args k={ base f with kind:=k }.at { tmps:=args++Array.replicate (fn.ntmps-args.size) undef,defers:=[] } [.code (.seq (.region r #[o1,o2] false) (.cond (.tmp 1) .ret (.refuse s)))]:=by
 simp[Frame.enter,Frame.at,h.func,h.text,base]
def bE {o:Oper}{ops:Array Oper}{t:Array Value}(h:o.guard=none):Region.wanted o (yielded ops t)=true:=by unfold Region.wanted;rw[h]
def patch_walk (h:Patch p f x y fn r o1 o2 s)(hk:k≠.early){Ev Qa:Goroutine->World->Prop}(hE:∀g w W,Same w W->Ev g w->Ev g W)(hQ:∀g w W,Same w W->Qa g w->Qa g W)(hC:∀g w,g.frame.fn=f->¬Qa g w)
  (hfar:∀q,args[0]?=some (.pointer (some q))->(∃s,w.farLoad p q true=.error (.stuck s))/\∀t u,w.heap[q.block]?≠some (.view t u))
  (hr:Runs p Ev Qa (gor (Frame.enter p f args k) cs) w) :
  ∃q fr,args[0]?=some (.pointer (some q))/\w.cell? q=some (.int .i32 x)/\w.frozen? q=false/\fr.fn=f/\fr.kind=k/\fr.mode=.returning/\fr.defers=[] /\
   Walk p (λg=>∀w,¬Qa g w) (gor (Frame.enter p f args k) cs) w (gor fr cs) (w.setCell q (.int .i32 y)):=by
 rw[lB h] at hr ⊢
 generalize hT:args++Array.replicate (fn.ntmps-args.size) undef=T at hr ⊢
 have hTs:3<=T.size:=by rw[<-hT];simp;have:=h.room;omega
 generalize hb:({ base f with kind:=k }:Frame)=b at hr ⊢
 have hbk:b.kind≠.early:=by rw[<-hb];exact hk
 have hbf:b.fn=f:=by rw[<-hb];rfl
 obtain⟨f1,f2,f3,f4⟩:=h.free
 have C:∀(a:Act) t,∀w,¬Qa (gor (b.at a t) cs) w:=λa t w=>hC _ _ hbf
 have w2 : ∀ {w2 : World} {g2 : Goroutine}, Walk p (fun g => ∀ w, ¬ Qa g w) (gor (b.at ⟨T, []⟩ [.inRegion #[o1, o2] [0, 1], .code (.cond (.tmp 1) .ret (.refuse s))]) cs) w g2 w2 ->
   Walk p (λg=>∀w,¬Qa g w) (gor (b.at ⟨T,[]⟩ [.code (.seq (.region r #[o1,o2] false) (.cond (.tmp 1) .ret (.refuse s)))]) cs) w g2 w2:=λz =>
  .step (C _ _) stepG_seq (.step (C _ _) stepG_region z)
 have hr2:=hr.descend hE hQ (λg w c=>c w) ⟨rfl,rfl,rfl⟩ (w2 .refl)
 rcases h.one ⟨T,[]⟩ w with⟨q,q1,q2⟩|hbad
 rotate_left
 ·exfalso
  cases hr2 with
  |fin h=>exact C _ _ _ h
  |next ng nw _ h2 _ =>
   obtain⟨⟨es,e⟩,_⟩:=h2 w.tape w.drawn
   exact iI (o:=o1) rfl (bE f1) hbk hbad e
 have hq:args[0]?=some (.pointer (some q)):=by
  have e0:T.getD 0 undef=.pointer (some q):=q1
  rw[<-hT] at e0
  by_cases hz:0<args.size
  ·have h9:0<args.size+(fn.ntmps-args.size):=by omega
   simpa [Array.getD,Array.getElem_append,hz,h9] using e0
  ·exfalso
   have:args=#[]:=Array.eq_empty_of_size_eq_zero (by omega)
   subst this
   have h3:=h.room
   simp[Array.getD] at e0
   have h0:0<fn.ntmps:=by omega
   simp[undef] at e0
 obtain⟨n1,n2⟩:=hfar q hq
 have e2:stepG p true (gor (b.at ⟨T,[]⟩ [.inRegion #[o1,o2] [0,1],.code (.cond (.tmp 1) .ret (.refuse s))]) cs) w=.go (gor (b.at ((Act.mk T []).put o1.dst (.pointer (some q))) [.inRegion #[o1,o2] [1],.code (.cond (.tmp 1) .ret (.refuse s))]) cs) w (listed p b.fn ⟨T,[]⟩ o1 w) :=
  stepG_value (o:=o1) rfl (bE f1) hbk q2
 rw[f2] at e2
 generalize hA:(Act.mk T []).put (some 2) (.pointer (some q))=A at e2
 have hA2:A.eval (.tmp 2)=.pointer (some q):=by
  rw[<-hA]
  show(T.setIfInBounds 2 _).getD 2 undef=_
  have:2<T.size:=hTs
  simp[Array.getD,this]
 have hAd:A.defers=[]:=by rw[<-hA];rfl
 have hAs:A.tmps.size=T.size:=by rw[<-hA];exact Array.size_setIfInBounds
 have hr3:=hr2.descend (C:=λg=>∀w,¬Qa g w) hE hQ (λg w c=>c w) ⟨rfl,rfl,rfl⟩ (.step (C _ _) e2 .refl)
 rcases h.two A q w hA2 n1 n2 with⟨z,z1,z2,z3,z4⟩|hbad
 rotate_left
 ·exfalso
  cases hr3 with
  |fin h=>exact C _ _ _ h
  |next ng nw _ h2 _ =>
   obtain⟨⟨es,e⟩,_⟩:=h2 w.tape w.drawn
   exact iI (o:=o2) rfl (bE f3) hbk hbad e
 have hT1:∀v,(A.put (some 1) v).eval (.tmp 1)=v:=λv=>by
  show(A.tmps.setIfInBounds 1 v).getD 1 undef=v
  have:1<A.tmps.size:=by rw[hAs];omega
  simp[Array.getD,this]
 by_cases hzx:z=x
 ·have e3 : stepG p true (gor (b.at A [.inRegion #[o1, o2] [1], .code (.cond (.tmp 1) .ret (.refuse s))]) cs) w = .go (gor (b.at (A.put o2.dst (.bool true)) [.inRegion #[o1, o2] [], .code (.cond (.tmp 1) .ret (.refuse s))]) cs) (w.setCell q (.int .i32 y)) (listed p b.fn A o2 w) :=
   stepG_value (o:=o2) rfl (bE f3) hbk (z3 hzx)
  rw[f4] at e3
  subst hzx
  refine⟨q,_,hq,z1,z2,?_,?_,?_,?_,w2 (.step (C _ _) e2 (.step (C _ _) e3 (.step (C _ _) stepG_region_end (.step (C _ _) (stepG_cond (t:=true) (hT1 _)) (.step (C _ _) stepG_ret' .refl)))))⟩
  ·exact hbf
  ·show b.kind=k;rw[<-hb]
  ·rfl
  ·exact hAd
 ·exfalso
  have e3:stepG p true (gor (b.at A [.inRegion #[o1,o2] [1],.code (.cond (.tmp 1) .ret (.refuse s))]) cs) w=.go (gor (b.at (A.put o2.dst (.bool false)) [.inRegion #[o1,o2] [],.code (.cond (.tmp 1) .ret (.refuse s))]) cs) w (listed p b.fn A o2 w) :=
   stepG_value (o:=o2) rfl (bE f3) hbk (z4 hzx)
  rw[f4] at e3
  have hr4:=hr3.descend (C:=λg=>∀w,¬Qa g w) hE hQ (λg w c=>c w) ⟨rfl,rfl,rfl⟩ (.step (C _ _) e3 (.step (C _ _) stepG_region_end (.step (C _ _) (stepG_cond (t:=false) (hT1 _)) .refl)))
  cases hr4 with
  |fin h=>exact C _ _ _ h
  |next ng nw _ h2 _ =>
   obtain⟨⟨es,e⟩,_⟩:=h2 w.tape w.drawn
   simp[stepG,Go.Conc.G,Frame.at,stepG.exec] at e
end
def ky {p:Program}{main:Bool}{fr:Frame}{cs:List Frame}{w:World}{fn:Func}(hm:fr.mode=.returning)(hd:fr.defers=[])(hf:p.funcs[fr.fn]?=some fn)(hr:fn.results=#[]) :
  stepG p main (gor fr cs) w=GStep.after #[] (doReturn p main fr cs none (.tuple #[]) w):=by
 obtain⟨f1,tmps,todo,defers,mode,kind,round⟩:=fr
 dsimp only at hm hd hf
 subst hm hd
 unfold stepG gor
 dsimp only
 unfold unwind
 dsimp only
 rw[hf]
 dsimp only
 have e:(results fn tmps).runT p w #[]=(.ok (.tuple #[]) w,#[]):=Prod.ext ((Sem.runT_fst ..).trans (results_none hr _ _ _)) (events_results_none hr _ _)
 rw[e]
 simp only[seen_none]
section
variable {S:Par} {Ck:Code->Prop} {G:Nat} {β:Bij}
def p8 {w:World}(hw:WRel S Ck G β w w)(hi:β.isId){q:Addr}{u:Value}(hc:w.cell? q=some u){v:Value}(hv:VRel S β v v):WRel S Ck G β (w.setCell q v) (w.setCell q v):=by
 have hnc:∀b,b=q.block->w.heap[b]?≠some (.coro none):=by
  intro b e h
  subst e
  unfold World.cell? at hc
  rw[h] at hc
  cases hc
 refine⟨hw.fine,by rw[aX];exact hw.room,λb B hb hh=>?_,λb B hb hh=>?_,λb hb=>by rw[aX];exact hw.old b hb,rfl⟩
 ·obtain⟨o,O,k1,k2,k3⟩:=hw.objs b B hb hh
  have:=hi _ _ hb
  subst this
  rw[k1] at k2
  cases k2
  rw[setCell_get]
  by_cases e:b=q.block
  ·rw[if_pos e,k1]
   refine⟨_,_,rfl,rfl,?_⟩
   cases k3 with
   |@cells c C t f F h1 h2 =>
    simp only[cellPut]
    split
    ·exact .cells h1 h2
    ·exact .cells (h1.set _ hv) h2
   |loop a b c d e f=>exact .loop a b c d e f
   |number o s l h=>exact .number o s l h
   |taken=>exact .taken
   |defs h=>exact .defs h
  ·rw[if_neg e]
   exact⟨_,_,k1,k1,k3⟩
 ·have:=hi _ _ hb
  subst this
  have h:=hw.hids _ _ hb hh
  rw[setCell_get]
  by_cases e:b=q.block
  ·exact absurd h.1 (hnc _ e)
  ·rw[if_neg e];exact h
end
def Walk.split {p:Program}{C:Goroutine->Prop}{g1 g2:Goroutine}{w1 w2:World}(h:Walk p C g1 w1 g2 w2):(g1=g2/\w1=w2)\/∃g w es,C g1/\stepG p true g1 w1=.go g w es/\Walk p C g w g2 w2:=by
 cases h with
 |refl=>exact .inl ⟨rfl,rfl⟩
 |step c e k=>exact .inr ⟨_,_,_,c,e,k⟩
def Walk.trans {p:Program}{C:Goroutine->Prop}{g1 g2 g3:Goroutine}{w1 w2 w3:World}(h:Walk p C g1 w1 g2 w2)(k:Walk p C g2 w2 g3 w3):Walk p C g1 w1 g3 w3:=by
 induction h with
 |refl=>exact k
 |step c e _ ih=>exact .step c e (ih k)
section
variable {P:Two} {SB0 BC BB:FuncId->Bool} {H:Hid} {G:Nat}
def Held (p:Program)(BB:FuncId->Bool)(f:FuncId)(x y:Int):Prop:=∀(args:Array Value) (q:Addr) (k:CallKind) (cs:List Frame) (w:World),k≠.early->cs≠[]->args[0]?=some (.pointer (some q))->w.cell? q=some (.int .i32 x)->w.frozen? q=false ->
 KTr p BB (λg W=>Same (w.setCell q (.int .i32 y)) W/\∃fr,g=gor fr cs/\fr.fn=f/\fr.kind=k/\fr.mode=.returning/\fr.defers=[]/\fr.oper?=none) 0 (gor (Frame.enter p f args k) cs) w
def Locks (P:Two)(BB:FuncId->Bool)(f:FuncId):Prop:=∃x y fn r o1 o2 s fn',Patch P.a f x y fn r o1 o2 s/\Held P.b BB f x y/\P.fs[f]?=some fn'/\fn'.results=#[]
def kz (P:Two)(SB0 BC BB:FuncId->Bool):Prop:=∀f,SB0 f=true\/aE SB0 f=true->BC f=false->(∃fn s,P.a.funcs[f]?=some fn/\fn.body=some (.refuse s))\/Locks P BB f
def SwapQ (P:Two)(SB0 BC:FuncId->Bool)(H:Hid)(G:Nat)(T:List Frame)(Qa:Goroutine->World->Prop)(g2':Goroutine)(w':World):Prop :=
 ∃g' w0 β',Qa g' w0/\Same w0 w'/\IdB H β'/\GRel P SB0 H false BC T β' g' g2'/\WRel (SP SB0 H) (CK P.a SB0 false) G β' w0 w0
def SwapQ.same {T:List Frame}{Qa:Goroutine->World->Prop}(g:Goroutine)(w W:World)(s:Same w W)(x:SwapQ P SB0 BC H G T Qa g w):SwapQ P SB0 BC H G T Qa g W:=by
 obtain⟨g1,w0,β1,x1,x2,x3⟩:=x
 exact⟨g1,w0,β1,x1,x2.trans s,x3⟩
def Runs.swapK (Lc:Lib P SB0 H false BC G)(hst:kz P SB0 BC BB)(hb:∀f,SB0 f=true->BB f=true){Qa:Goroutine->World->Prop}(hQ:∀g w W,Same w W->Qa g w->Qa g W)(hQl:∀g w f,Qa g w->BC f=false->Locks P BB f->g.frame.fn≠f)(hE:∀g w W,Same w W->Self P.a SB0 H G g w->Self P.a SB0 H G g W)
  {c:Frame} {cs:List Frame} {g:Goroutine} {w:World} (h:Runs P.a (Self P.a SB0 H G) Qa g w) :
  ∀ {g':Goroutine} {w1 w':World},Same w w1->Walk P.a (λg=>∀w,¬Qa g w) g w1 g' w'->∀ {β:Bij} {g2:Goroutine},IdB H β->GRel P SB0 H false BC (c::cs) β g' g2->WRel (SP SB0 H) (CK P.a SB0 false) G β w' w' ->
  KTr P.b BB (SwapQ P SB0 BC H G (c::cs) Qa) 0 g2 w':=by
 induction h with
 |@fin g w hq =>
  intro g' w1 w' hs hk β g2 hi hg hw
  cases hk with
  |refl=>exact .fin ⟨_,_,_,hQ _ _ _ hs hq,⟨rfl,rfl,rfl⟩,hi,hg,hw⟩
  |step hc _ _=>exact absurd hq (hc w)
 |@next g w ng nw h1 h2 h3 ih =>
  intro g' w1 w' hs hk β g2 hi hg hw
  cases hk with
  |step hc e hk' =>
   obtain⟨⟨es',e'⟩,_⟩:=h2 w1.tape w1.drawn
   rw[<-hs.eq,e] at e'
   cases e'
   exact ih _ _ ⟨rfl,rfl,rfl⟩ hk' hi hg hw
  |refl =>
  have eon:∀τ n,on w1 τ n=on w τ n:=λτ n=>by rw[hs.eq];rfl
  have hrun:Runs P.a (Self P.a SB0 H G) Qa g w1:=(Runs.next ng nw h1 h2 h3).same hE hQ hs
  have h2':∀τ n,(∃es,stepG P.a true g (on w1 τ n)=.go (ng τ n) (nw τ n) es)/\(ng τ n).callers≠[]:=λτ n=>by rw[eon];exact h2 τ n
  have ih':∀τ n {g':Goroutine} {w2 w':World},Same (nw τ n) w2->Walk P.a (λg=>∀w,¬Qa g w) (ng τ n) w2 g' w'->∀ {β:Bij} {g2:Goroutine},IdB H β->GRel P SB0 H false BC (c::cs) β g' g2->WRel (SP SB0 H) (CK P.a SB0 false) G β w' w' ->
   KTr P.b BB (SwapQ P SB0 BC H G (c::cs) Qa) 0 g2 w':=λτ n=>ih τ n
  clear ih h2 h3 h1
  have eg:=hg.gor
  have htop:=hg.top
  have hcs:=hg.callers
  have e2:g2=gor g2.frame g2.callers:=by
   obtain⟨x1,x2,x3,x4,x5⟩:=g2
   obtain⟨_,_,⟨_,s1⟩,⟨_,d1⟩,⟨_,o1⟩⟩:=hg
   dsimp only at *
   subst s1 d1 o1
   rfl
  generalize hf:g.frame=fr at htop eg
  generalize hF:g2.frame=FR at htop e2
  generalize g.callers=CSa at eg hcs
  generalize g2.callers=CSb at e2 hcs
  subst eg e2
  cases htop with
  |on hon =>
   have eF:fr=FR:=FrRel.id (P:=Two.of P.a) hi hon
   have hfine:Fine P.b BB (gor FR CSb) w1:=⟨by show BB FR.fn=true;rw[<-eF];exact hb _ hon.late.2,λo ho=>by
    have ho':FR.oper?=some o:=ho
    rw[<-eF] at ho'
    exact bT hon (λf h=>(Lc.nm f h).2) (λ_=>rfl) o ho'⟩
   refine KTr.step hfine λτ d=>?_
   obtain⟨⟨es,e⟩,hn⟩:=h2' τ d
   have hw':WRel (SP SB0 H) (CK P.a SB0 false) G β (on w1 τ d) (on w1 τ d):=hw.same rfl rfl rfl
   have:=da (P:=P) (main:=true) (main2:=true) Lc hg hon (λ_=>ox hon) hw' (n:=(nw τ d).drawn) (λ_ _ _=>rfl) (by rw[e];exact Nat.le_add_left _ _)
   rw[e] at this
   rcases this with⟨h0,_⟩|⟨β',g2',W',ES,k1,k2,k3⟩
   ·exact absurd h0 hn
   obtain⟨i1,i2⟩:=k3.same hi rfl
   have hr:=ih' τ d ⟨rfl,rfl,rfl⟩ .refl i1 k2 (k3.rel.same rfl i2 rfl)
   refine⟨g2',W',ES,k1,j5 k2.callers,hr.same SwapQ.same ⟨i2.symm,?_,?_⟩⟩
   ·rw[k3.OS,k3.os]
   ·rw[k3.OUT,k3.out]
  |@stop f a A k s1 s2 s3 s4 =>
   have eA:a=A:=s4.id hi
   subst eA
   rcases hst f s1 s2 with⟨fn,s,q1,q2⟩|⟨x,y,fn,r,o1,o2,s,fn',hp,hheld,hf',hr'⟩
   ·exfalso
    obtain⟨⟨es,e⟩,_⟩:=h2' w1.tape w1.drawn
    exact gN q1 q2 _ _ _ _ _ e
   have s0:SB0 f=true:=by
    rcases s1 with s1|s1
    ·exact s1
    ·exfalso
     obtain⟨fn9,s9,z1,z2⟩:=Lc.bars f s1
     rw[hp.func] at z1
     cases z1
     rw[hp.text] at z2
     cases z2
   have hfar:∀ww,WRel (SP SB0 H) (CK P.a SB0 false) G β ww ww->∀q:Addr,a[0]?=some (.pointer (some q))->(∃s,ww.farLoad P.a q true=.error (.stuck s))/\∀t u,ww.heap[q.block]?≠some (.view t u):=by
    intro ww hw q hq
    have hv:VRel (SP SB0 H) β (.pointer (some q)) (.pointer (some q)):=s4.at_ 0 _ _ hq hq
    obtain⟨B,hbB,hB⟩:=ptr_inv hv
    have hB2:q.block=B:=hi.2 _ _ hbB
    subst hB2
    refine⟨(noFar (P:=P) hw ⟨hbB,rfl,rfl⟩).1 true,λt u hu=>?_⟩
    cases hh:(SP SB0 H).hid q.block with
    |true=>rw[(hw.hids _ _ hbB hh).1] at hu;cases hu
    |false =>
     obtain⟨o,O,k1,k2,k3⟩:=hw.objs _ _ hbB hh
     rw[hu] at k1
     cases k1
     cases k3
   have hnf:∀g w,g.frame.fn=f->¬Qa g w:=λg w e hq=>hQl g w f hq s2 ⟨x,y,fn,r,o1,o2,s,fn',hp,hheld,hf',hr'⟩ e
   obtain⟨q,fr,hq,hc,hz,_⟩:=patch_walk hp s3 hE hQ hnf (hfar _ hw) hrun
   have hCS:CSb≠[]:=j5 hcs
   have hCSa:CSa≠[]:=by cases hcs<;>simp
   refine((hheld a q k CSb w1 s3 hCS hq hc hz).bind λgB WB hB=>?_)
   obtain⟨hs2,FR,rfl,t1,t2,t3,t4,t5⟩:=hB
   refine KTr.step ⟨by show BB FR.fn=true;rw[t1];exact hb f s0,λo ho=>by
    have ho':FR.oper?=some o:=ho
    rw[t5] at ho';cases ho'⟩ λτ n=>?_
   have hwn:WRel (SP SB0 H) (CK P.a SB0 false) G β (on w1 τ n) (on w1 τ n):=hw.same rfl rfl rfl
   obtain⟨q',fr,hq',hc',hz',r1,r2,r3,r4,hwalk⟩:=patch_walk hp s3 hE hQ hnf (hfar _ hwn) (hrun.same hE hQ uj)
   have eq:q'=q:=by rw[hq] at hq';cases hq';rfl
   subst eq
   have hv:VRel (SP SB0 H) β (.pointer (some q')) (.pointer (some q')):=s4.at_ 0 _ _ hq hq
   have hw2:WRel (SP SB0 H) (CK P.a SB0 false) G β ((on w1 τ n).setCell q' (.int .i32 y)) ((on w1 τ n).setCell q' (.int .i32 y)):=p8 hwn hi.2 hc' (.int _ _)
   have hlast:Runs P.a (Self P.a SB0 H G) Qa (gor fr CSa) ((on w1 τ n).setCell q' (.int .i32 y)):=(hrun.same hE hQ uj).descend (C:=λg=>∀w,¬Qa g w) hE hQ (λg w c=>c w) ⟨rfl,rfl,rfl⟩ hwalk
   have eWB:on WB τ n=(on w1 τ n).setCell q' (.int .i32 y):=by rw[hs2.eq];rfl
   rw[eWB]
   cases hlast with
   |fin h=>exact absurd h (hnf _ _ r1)
   |next ng2 nw2 _ h2b _ =>
    obtain⟨⟨es,e⟩,hn⟩:=h2b τ n
    have eon2:on ((on w1 τ n).setCell q' (.int .i32 y)) τ n=(on w1 τ n).setCell q' (.int .i32 y):=rfl
    rw[eon2] at e
    have ea:=ky (main:=true) (cs:=CSa) (w:=(on w1 τ n).setCell q' (.int .i32 y)) r3 r4 (by rw[r1];exact hp.func) hp.res
    have eb:=ky (p:=P.b) (main:=true) (cs:=CSb) (w:=(on w1 τ n).setCell q' (.int .i32 y)) t3 t4 (by rw[t1];exact hf') hr'
    have:=dS (P:=P) (BB:=BC) (main:=true) (main2:=true) (fr:=fr) (FR:=FR) (r2.trans t2.symm) (by rw[r2];exact s3) hcs hCSa (v:=.tuple #[]) (V:=.tuple #[]) (.tuple rfl (by simp)) (Fin.refl hw2) #[]
    rw[<-ea,e,<-show GStep.after #[] (doReturn P.b true FR CSb none (.tuple #[]) ((on w1 τ n).setCell q' (.int .i32 y)))=GStep.after ([]:List Event).toArray (doReturn P.b true FR CSb none (.tuple #[]) ((on w1 τ n).setCell q' (.int .i32 y))) from rfl,<-eb] at this
    rcases this with⟨h0,_⟩|⟨β',g2',W',ES,k1,k2,k3⟩
    ·exact absurd h0 hn
    obtain⟨i1,i2⟩:=k3.same hi rfl
    have hr:KTr P.b BB (SwapQ P SB0 BC H G (c::cs) Qa) 0 g2' (nw2 τ n):=by
     have hlastwalk:Walk P.a (λg=>∀w,¬Qa g w) (gor fr CSa) ((on w1 τ n).setCell q' (.int .i32 y)) (ng2 τ n) (nw2 τ n):=.step (λw=>hnf _ w r1) e .refl
     have rel:=k3.rel.same rfl i2 rfl
     rcases hwalk.split with⟨e0,_⟩|⟨ga,wa,esa,_,e1,rest⟩
     ·exfalso
      have:=congrArg (λg:Goroutine=>g.frame.mode) e0
      rw[show(gor fr CSa).frame.mode=.returning from r3] at this
      cases this
     ·obtain⟨⟨es1,e1'⟩,_⟩:=h2' τ n
      rw[e1] at e1'
      cases e1'
      exact ih' τ n ⟨rfl,rfl,rfl⟩ (rest.trans hlastwalk) i1 k2 rel
    refine⟨g2',W',ES,k1,j5 k2.callers,hr.same SwapQ.same ⟨i2.symm,?_,?_⟩⟩
    ·rw[k3.OS,k3.os]
    ·rw[k3.OUT,k3.out]
end
section
variable {P:Two} {SB0 BC BB:FuncId->Bool} {H:Hid} {G:Nat} {Q:Goroutine->World->Prop}
structure BothK (P:Two)(SB0 BC BB:FuncId->Bool)(H:Hid)(G:Nat):Prop where
 la:Lib (Two.of P.a) SB0 H false SB0 G
 lc:Lib P SB0 H false BC G
 ref:kz P SB0 BC BB
 sub:∀f,SB0 f=true->BB f=true
 nb:H.bl=false
def qa {K0:Nat->Prop}{w:World}{Ck:Code->Prop}(hlo:∀b,K0 b->G<=b)(hroom:G<=w.heap.size)(hhid:∀b,K0 b->H b=true->H.twin=true/\w.heap[b]?=some (.coro none))(hold:∀b,H b=true->b<w.heap.size)
  (hobj:∀b,K0 b->H b=false->∃o,w.heap[b]?=some o/\ORel (SP SB0 H) Ck (idOn K0) o o):WRel (SP SB0 H) Ck G (idOn K0) w w:=by
 refine⟨⟨λh1 h2=>h1.2.symm.trans h2.2,λh1 h2=>h1.2.trans h2.2.symm,λ{b B} h=>⟨hlo b h.1,h.2▸hlo b h.1⟩⟩,⟨hroom,hroom⟩,λb B hb hh=>?_,λb B hb hh=>?_,hold,rfl⟩
 ·obtain⟨hb,rfl⟩:=hb
  obtain⟨o,h1,h2⟩:=hobj b hb hh
  exact⟨o,o,h1,h1,h2⟩
 ·obtain⟨hb,rfl⟩:=hb
  obtain⟨h1,h2⟩:=hhid b hb hh
  exact⟨h2,(λh=>absurd (h1.symm.trans h) (by decide)),λ_=>h2⟩
def BothK.run (B:BothK P SB0 BC BB H G){Qa:Goroutine->World->Prop}(hQ:∀g w W,Same w W->Qa g w->Qa g W)(hQl:∀g w f,Qa g w->BC f=false->Locks P BB f->g.frame.fn≠f){fr:Frame}{C:Frame}{cs:List Frame}{K0:Nat->Prop}{w:World}{F:Frame}(ha:TopRel (Two.of P.a) SB0 H false SB0 (idOn K0) fr fr)(hc:TopRel P SB0 H false BC (idOn K0) fr F)
  (hlo:∀b,K0 b->G<=b) (hroom:G<=w.heap.size) (hhid:∀b,K0 b->H b=true->H.twin=true/\w.heap[b]?=some (.coro none)) (hold:∀b,H b=true->b<w.heap.size) (hobj:∀b,K0 b->H b=false->∃o,w.heap[b]?=some o/\ORel (SP SB0 H) (CK P.a SB0 false) (idOn K0) o o)
  (h:Self P.a SB0 H G (gor fr [bad]) w->Runs P.a (Self P.a SB0 H G) Qa (gor fr [bad]) w) :
  KTr P.b BB (SwapQ P SB0 BC H G (C::cs) Qa) 0 (gor F (C::cs)) w:=by
 have hi:IdB H (idOn K0):=⟨B.nb,λ_ _ h=>h.2⟩
 have hw:=qa (Ck:=CK P.a SB0 false) hlo hroom hhid hold hobj
 have hs:Self P.a SB0 H G (gor fr [bad]) w:=⟨_,hi,⟨ha,.base,⟨rfl,rfl⟩,⟨rfl,rfl⟩,⟨rfl,rfl⟩⟩,hw⟩
 exact(h hs).swapK B.lc B.ref B.sub hQ hQl (λ_ _ _ s h=>h.same s) ⟨rfl,rfl,rfl⟩ .refl hi ⟨hc,.base,⟨rfl,rfl⟩,⟨rfl,rfl⟩,⟨rfl,rfl⟩⟩ hw
def BothK.fn (B:BothK P SB0 BC BB H G){f:FuncId}(hf:SB0 f=true)(hfc:BC f=true){K0:Nat->Prop}{w:World}{args:Array Value}{C:Frame}{cs:List Frame}(hne:cs≠[])
  (hlo:∀b,K0 b->G<=b) (hroom:G<=w.heap.size) (hargs:AsRel (SP SB0 H) (idOn K0) args args)
  (hhid:∀b,K0 b->H b=true->H.twin=true/\w.heap[b]?=some (.coro none)) (hold:∀b,H b=true->b<w.heap.size) (hobj:∀b,K0 b->H b=false->∃o,w.heap[b]?=some o/\ORel (SP SB0 H) (CK P.a SB0 false) (idOn K0) o o)
  (hQ:∀g w W,Same w W->Q g w->Q g W) {R:Value->World->Prop}
  (hc:∀τ d,Calls P.a f args (on w τ d) (λe w'=>∃v,e=.returned v/\R v w'))
  (h:∀v w',R v w'->KTr P.b BB Q 0 (gor (C.finish v) cs) w') :
  KTr P.b BB Q 0 (gor (Frame.enter P.b f args .normal) (C::cs)) w:=by
 have h1:=B.run (Qa:=Left P.a f R) Left.same (λg w f' hl hf' _ e=>by
  obtain⟨_,_,fr,_,_,rfl,e2,_⟩:=hl
  have e3:fr.fn=f':=e
  rw[e2] at e3
  rw[<-e3,hfc] at hf'
  cases hf') (C:=C) (cs:=cs) (enter_rel B.la (.inl hf) hargs .normal (by decide)) (enter_rel B.lc (.inl hf) hargs .normal (by decide)) hlo hroom hhid hold hobj λhs=>runs_of_calls B.la hs hc
 refine h1.bind λg2 w' hq=>?_
 obtain⟨g',w0,β',q1,q2,q3,q4,q5⟩:=hq
 have q1':=q1
 obtain⟨wl,vl,fr,l1,l2,l3,l4,l5⟩:=q1'
 have hbb:BB g'.frame.fn=true:=B.sub _ (by rw[l3];show SB0 fr.fn=true;rw[l4];exact hf)
 have hon:=q4.top.on_of (by rw[l3];show BC fr.fn=true;rw[l4];exact hfc)
 have eF:g'.frame=g2.frame:=FrRel.id (P:=Two.of P.a) q3 hon
 refine KTr.step ⟨by rw[<-eF];exact hbb,λo ho=>?_⟩ λτ d=>?_
 ·rw[<-eF] at ho
  exact bT hon (λf h=>(B.lc.nm f h).2) (λ_=>rfl) o ho
 ·have hw':WRel (SP SB0 H) (CK P.a SB0 false) G β' w0 (on w' τ d):=q5.same rfl q2.1 (by rw[show(on w' τ d).os=w'.os from rfl,q2.2.1])
  obtain⟨v,wa,wb,V,W',ES,β2,e1,e2,e3,e4,e5,e6⟩:=leave (P:=P) B.lc (main2:=true) q1 hfc q4 hw'
  obtain⟨i1,i2⟩:=e6.same q3 q2.1.symm
  have eV:=e5.id i1
  subst eV
  refine⟨_,W',ES,e4,hne,(h v wa e2).same hQ ⟨?_,?_,?_⟩⟩
  ·rw[<-i2,e3.1,<-e1.1]
  ·rw[e6.OS,show(on w' τ d).os=w'.os from rfl,q2.2.1,e1.2.1]
  ·rw[e6.OUT,show(on w' τ d).output=w'.output from rfl,q2.2.2,e1.2.2]
def BothK.fnK (B:BothK P SB0 BC BB H G){f:FuncId}(hf:SB0 f=true)(hfc:BC f=true){K0:Nat->Prop}{w:World}{args:Array Value}{C:Frame}{cs:List Frame}(hne:cs≠[])
  (hlo:∀b,K0 b->G<=b) (hroom:G<=w.heap.size) (hargs:AsRel (SP SB0 H) (idOn K0) args args)
  (hhid:∀b,K0 b->H b=true->H.twin=true/\w.heap[b]?=some (.coro none)) (hold:∀b,H b=true->b<w.heap.size) (hobj:∀b,K0 b->H b=false->∃o,w.heap[b]?=some o/\ORel (SP SB0 H) (CK P.a SB0 false) (idOn K0) o o)
  (hQ:∀g w W,Same w W->Q g w->Q g W) {R:Value->World->Prop}
  (hc:∀τ d,Calls P.a f args (on w τ d) (λe w'=>∃v,e=.returned v/\R v w'))
  (h:∀v w' (K':Nat->Prop),R v w'->VRel (SP SB0 H) (idOn K') v v->(∀b,K' b->G<=b)->(∀b,K' b->H b=false->∃o,w'.heap[b]?=some o/\ORel (SP SB0 H) (CK P.a SB0 false) (idOn K') o o)->KTr P.b BB Q 0 (gor (C.finish v) cs) w') :
  KTr P.b BB Q 0 (gor (Frame.enter P.b f args .normal) (C::cs)) w:=by
 have h1:=B.run (Qa:=Left P.a f R) Left.same (λg w f' hl hf' _ e=>by
  obtain⟨_,_,fr,_,_,rfl,e2,_⟩:=hl
  have e3:fr.fn=f':=e
  rw[e2] at e3
  rw[<-e3,hfc] at hf'
  cases hf') (C:=C) (cs:=cs) (enter_rel B.la (.inl hf) hargs .normal (by decide)) (enter_rel B.lc (.inl hf) hargs .normal (by decide)) hlo hroom hhid hold hobj λhs=>runs_of_calls B.la hs hc
 refine h1.bind λg2 w' hq=>?_
 obtain⟨g',w0,β',q1,q2,q3,q4,q5⟩:=hq
 have q1':=q1
 obtain⟨wl,vl,fr,l1,l2,l3,l4,l5⟩:=q1'
 have hbb:BB g'.frame.fn=true:=B.sub _ (by rw[l3];show SB0 fr.fn=true;rw[l4];exact hf)
 have hon:=q4.top.on_of (by rw[l3];show BC fr.fn=true;rw[l4];exact hfc)
 have eF:g'.frame=g2.frame:=FrRel.id (P:=Two.of P.a) q3 hon
 refine KTr.step ⟨by rw[<-eF];exact hbb,λo ho=>?_⟩ λτ d=>?_
 ·rw[<-eF] at ho
  exact bT hon (λf h=>(B.lc.nm f h).2) (λ_=>rfl) o ho
 ·have hw':WRel (SP SB0 H) (CK P.a SB0 false) G β' w0 (on w' τ d):=q5.same rfl q2.1 (by rw[show(on w' τ d).os=w'.os from rfl,q2.2.1])
  obtain⟨v,wa,wb,V,W',ES,β2,e1,e2,e3,e4,e5,e6⟩:=leave (P:=P) B.lc (main2:=true) q1 hfc q4 hw'
  obtain⟨i1,i2⟩:=e6.same q3 q2.1.symm
  have eV:=e5.id i1
  subst eV
  have hle2:β2.le (idOn λb=>β2 b b):=λb B hb=>by
   have:=i1.2 _ _ hb
   subst this
   exact⟨hb,rfl⟩
  have hob2:∀b,β2 b b->H b=false->∃o,wa.heap[b]?=some o/\ORel (SP SB0 H) (CK P.a SB0 false) (idOn λb=>β2 b b) o o:=λb hb hh=>by
   obtain⟨o,O,k1,k2,k3⟩:=e6.rel.objs b b hb hh
   have eo:O=o:=by
    rw[<-i2,k1] at k2
    exact(Option.some.inj k2).symm
   subst eo
   exact⟨O,by rw[e1.1,<-e3.1];exact k1,k3.mono hle2⟩
  refine⟨_,W',ES,e4,hne,(h v wa (λb=>β2 b b) e2 (e5.mono hle2) (λb hb=>(e6.rel.fine.lo hb).1) hob2).same hQ ⟨?_,?_,?_⟩⟩
  ·rw[<-i2,e3.1,<-e1.1]
  ·rw[e6.OS,show(on w' τ d).os=w'.os from rfl,q2.2.1,e1.2.1]
  ·rw[e6.OUT,show(on w' τ d).output=w'.output from rfl,q2.2.2,e1.2.2]
def BothK.seg (B:BothK P SB0 BC BB H G){b:Frame}{a:Act}{c:Code}{k:List Item}{C:Frame}{cs:List Frame}{K0:Nat->Prop}{w:World}
  (hfr:FrRel P.a SB0 H false (idOn K0) (b.at a (.code c::k)) (b.at a (.code c::k)))
  (hlo:∀b,K0 b->G<=b) (hroom:G<=w.heap.size) (hhid:∀b,K0 b->H b=true->H.twin=true/\w.heap[b]?=some (.coro none)) (hold:∀b,H b=true->b<w.heap.size) (hobj:∀b,K0 b->H b=false->∃o,w.heap[b]?=some o/\ORel (SP SB0 H) (CK P.a SB0 false) (idOn K0) o o)
  (hk:∀s,k≠[.code (.refuse s)]) (hkl:∀f x y fn r o1 o2 s,Patch P.a f x y fn r o1 o2 s->∀c,fn.body=some c->k≠[.code c]) (hbl:BC b.fn=true\/∃fn s,P.a.funcs[b.fn]?=some fn/\fn.body=some (.refuse s)) (hQ:∀g w W,Same w W->Q g w->Q g W) {N:Exit->Act->World->Prop}
  (hc:∀τ d,c.wp P.a (λe a' w'=>(e=.normal\/e=.ret)/\N e a' w') a (on w τ d))
  (h1:∀a' w',N .normal a' w'->KTr P.b BB Q 0 (gor (b.at a' k) (C::cs)) w')
  (h2:∀a' w' todo,N .ret a' w'->(∀o,({ b.at a' todo with mode:=.returning }:Frame).oper?=some o->aB P.b o.op=true)->KTr P.b BB Q 0 (gor { b.at a' todo with mode:=.returning } (C::cs)) w') :
  KTr P.b BB Q 0 (gor (b.at a (.code c::k)) (C::cs)) w:=by
 have h0:=B.run (Qa:=SegEnds b k [bad] N) SegEnds.same (λg w f' hl hf' hlk e=>by
  obtain⟨a',w0,_,h⟩:=hl
  have e3:b.fn=f':=by rcases h with⟨_,rfl⟩|⟨_,_,rfl⟩<;>exact e
  rcases hbl with h|⟨fn,s,r1,r2⟩
  ·rw[e3,hf'] at h;cases h
  ·obtain⟨x,y,fn2,r,o1,o2,s2,fn3,hp,_⟩:=hlk
   have:=hp.func
   rw[<-e3,r1] at this
   cases this
   have:=hp.text
   rw[r2] at this
   cases this) (C:=C) (cs:=cs) (.on hfr) (.on hfr) hlo hroom hhid hold hobj λhs=>runs_of_wp (N:=N) B.la (by simp) hs hc
 refine h0.bind λg2 w' hq=>?_
 obtain⟨g',w0,β',q1,q2,q3,q4,q5⟩:=hq
 have ecs:∀g2:Goroutine,g'.callers=[bad]->GRel P SB0 H false BC (C::cs) β' g' g2->g2.callers=C::cs:=by
  intro g2 e1 e2
  have:=e2.callers
  rw[e1] at this
  generalize g2.callers=X at this
  cases this with
  |base=>rfl
  |cons _ h=>exact absurd rfl h.ne
 have hon:FrRel P.a SB0 H false β' g'.frame g2.frame:=by
  have htop:=q4.top
  obtain⟨a',wl,l1,l2⟩:=q1
  generalize hf:g'.frame=fr at htop ⊢
  generalize g2.frame=FR at htop ⊢
  cases htop with
  |on h=>exact h
  |@stop f A A' kd s1 s2 s3 s4 =>
   exfalso
   rcases B.ref f s1 s2 with⟨fn,s,r1,r2⟩|⟨x,y,fn,r,o1,o2,s,fn3,hp,_⟩
   rotate_left
   ·rcases l2 with⟨_,rfl⟩|⟨_,todo,rfl⟩
    ·have e : k = [.code (.seq (.region r #[o1, o2] false) (.cond (.tmp 1) .ret (.refuse s)))] := by
      have:=congrArg Frame.todo hf
      simpa [Go.Iso.gor,Frame.enter,hp.func,hp.text,Frame.at] using this
     exact hkl f x y fn r o1 o2 s hp _ hp.text e
    ·have:=congrArg Frame.mode hf
     simp[Go.Iso.gor,Frame.enter] at this
   rcases l2 with⟨_,rfl⟩|⟨_,todo,rfl⟩
   ·have : k = [.code (.refuse s)] := by
     have:=congrArg Frame.todo hf
     simpa [Go.Iso.gor,Frame.enter,r1,r2,Frame.at] using this
    exact hk s this
   ·have:=congrArg Frame.mode hf
    simp[Go.Iso.gor,Frame.enter] at this
 have eF:g'.frame=g2.frame:=FrRel.id (P:=Two.of P.a) q3 hon
 have eG:=q4.gor
 have e2:g2=gor g2.frame g2.callers:=by
  obtain⟨x1,x2,x3,x4,x5⟩:=g2
  obtain⟨_,_,⟨_,s1⟩,⟨_,d1⟩,⟨_,o1⟩⟩:=q4
  dsimp only at *
  subst s1 d1 o1
  rfl
 obtain⟨a',wl,l1,l2⟩:=q1
 rcases l2 with⟨l3,l4⟩|⟨l3,todo,l4⟩
 ·have:=ecs g2 (by rw[l4];rfl) q4
  rw[e2,this,<-eF,l4]
  exact(h1 a' wl l3).same hQ (l1.trans q2)
 ·have:=ecs g2 (by rw[l4];rfl) q4
  have hpl:∀o,g'.frame.oper?=some o->aB P.b o.op=true:=λo ho=>bT hon (λf h=>(B.lc.nm f h).2) (λ_=>rfl) o ho
  rw[l4] at hpl
  rw[e2,this,<-eF,l4]
  exact(h2 a' wl todo l3 hpl).same hQ (l1.trans q2)
end
section
variable {P:Two} {S:Par} {Ck:Code->Prop} {G:Nat} {β:Bij}
def oy {α α':Type}{m:Sem α}{M:Sem α'}{R:Bij->α->α'->Prop}(h:∀w W,WRel S Ck G β w W->∀es,∃s w' es',m.runT P.a w es=(.halt (.stuck s) w',es')):SRel P S Ck G β m M R:=by
 intro w W n hw ht es0 ES0 _
 obtain⟨s,w',es',e⟩:=h w W hw es0
 rw[e];trivial
def mU (f:FuncId):SRel P S Ck G β (mark (.extern f)) (mark (.extern f)) (λ_ _ _=>True):=by
 intro w W n hw ht es0 ES0 _
 have e1:(mark (.extern f)).runT P.a w es0=(.ok () w,es0.push ⟨.mark (.extern f),false,true⟩):=rfl
 have e2:(mark (.extern f)).runT P.b W ES0=(.ok () W,ES0.push ⟨.mark (.extern f),false,true⟩):=rfl
 rw[e1,e2]
 exact⟨β,(),W,[⟨.mark (.extern f),false,true⟩],by simp,trivial,{ Fin.refl hw with evs:=λ_ E hE=>by cases List.mem_singleton.1 hE;exact .mark (.extern f) }⟩
def jy (k:IntKind){a A:Addr}(h:ARel β a A):SRel P S Ck G β (Extern.Atomic.read (.int k) a) (Extern.Atomic.read (.int k) A) (λβ' v V=>VRel S β' v V):=by
 unfold Extern.Atomic.read
 refine sr_bind (gy h .atomic) ?_
 intro β1 v V _ hv
 cases hv with
 |int k' n =>
  split
  ·rename_i k2 k3 _ e1 e2
   cases e1;cases e2
   split
   ·exact sr_pure (.int _ _)
   ·exact sr_unsupported (by intro g e;cases e)
  all_goals simp_all
 |ptr o s hb =>
  cases k<;>first|exact sr_pure (.ptr o s hb)|exact sr_unsupported (by intro g e;cases e)
 |_=>cases k<;>exact sr_unsupported (by intro g e;cases e)
def mV {k:IntKind}(hk:k≠.u64){a A:Addr}(h:ARel β a A):SRel P S Ck G β (Extern.Atomic.read (.int k) a) (Extern.Atomic.read (.int k) A) (λ_ v V=>∃n,v=.int k n/\V=.int k n):=by
 unfold Extern.Atomic.read
 refine sr_bind (gy h .atomic) ?_
 intro β1 v V _ hv
 cases hv with
 |int k' n =>
  split
  ·rename_i k2 k3 _ e1 e2
   cases e1;cases e2
   split
   ·rename_i e;subst e;exact sr_pure ⟨n,rfl,rfl⟩
   ·exact sr_unsupported (by intro g e;cases e)
  all_goals simp_all
 |ptr o s hb =>
  cases k<;>first|exact absurd rfl hk|exact sr_unsupported (by intro g e;cases e)
 |_=>cases k<;>exact sr_unsupported (by intro g e;cases e)
def oz (k:IntKind){x X:Array Value}(h:AsRel S β x X):SRel P S Ck G β (Extern.Atomic.loadT (.int k) x) (Extern.Atomic.loadT (.int k) X) (λβ' v V=>VRel S β' v V):=by
 have hl:=h.toList
 obtain⟨l⟩:=x
 obtain⟨L⟩:=X
 simp only at hl
 cases hl with
 |nil=>exact sr_stuck
 |cons ha hr =>
  cases hr with
  |cons _ _=>exact sr_stuck
  |nil =>
   refine sr_bind (dp ha) ?_
   intro β1 a A _ hA
   exact jy k hA
def qc (k:IntKind){x X:Array Value}(h:AsRel S β x X):SRel P S Ck G β (Extern.Atomic.update (Op.intArith .add) k true x) (Extern.Atomic.update (Op.intArith .add) k true X) (λβ' v V=>VRel S β' v V):=by
 have hl:=h.toList
 obtain⟨l⟩:=x
 obtain⟨L⟩:=X
 simp only at hl
 cases hl with
 |nil=>exact sr_stuck
 |cons ha hr =>
  cases hr with
  |nil=>exact sr_stuck
  |cons hb hr =>
   cases hr with
   |cons _ _=>exact sr_stuck
   |nil =>
    refine sr_bind (dp ha) ?_
    intro β1 a A le1 hA
    refine sr_bind (jy k hA) ?_
    intro β2 v V le2 hv
    refine sr_bind (dN hv) ?_
    rintro β3 n _ le3 rfl
    refine sr_bind (dN ((((hb.mono le1).mono le2)).mono le3)) ?_
    rintro β4 m _ le4 rfl
    refine sr_bind (R:=λβ' a A=>VRel S β' a A) (sr_pure (.int _ _)) ?_
    intro β5 z Z le5 hz
    refine sr_bind (gZ ((((hA.mono le2).mono le3).mono le4).mono le5) .atomic hz) ?_
    intro β6 _ _ le6 _
    exact sr_pure (hz.mono le6)
def oA {a A:Addr}(h:ARel β a A)(hh:S.hid a.block=false):SRel P S Ck G β (Go.frozen a) (Go.frozen A) (λ_ x X=>x=false->X=false):=by
 intro w W n hw ht es0 ES0 _
 have e1:(Go.frozen a).runT P.a w es0=(.ok (w.frozen? a) w,es0):=rfl
 have e2:(Go.frozen A).runT P.b W ES0=(.ok (W.frozen? A) W,ES0):=rfl
 rw[e1,e2]
 refine⟨β,W.frozen? A,W,[],by simp,λhz=>?_,Fin.refl hw⟩
 obtain⟨o,O,h1,h2,h3⟩:=hw.objs _ _ h.block hh
 rw[aS,h1] at hz
 rw[aS,h2]
 cases h3 with
 |cells ha hf =>
  simp only[Option.map_some,Option.getD_some,frz] at hz ⊢
  rw[<-h.off]
  refine Bool.eq_false_iff.2 λhc=>?_
  simp only[Bool.and_eq_true,decide_eq_true_eq,Bool.decide_and] at hc
  obtain⟨p,q⟩:=hf _ hc.1 hc.2
  simp[p,q] at hz
 |_=>rfl
def qd {w W:World}(hw:WRel S Ck G β w W){a A:Addr}(h:ARel β a A)(hh:S.hid a.block=true):w.cell? a=none:=by
 unfold World.cell?
 rw[(hw.hids _ _ h.block hh).1]
def qe {a A:Addr}(h:ARel β a A)(hh:S.hid a.block=false):SRel P S Ck G β (Extern.Atomic.touchesFrozen a) (Extern.Atomic.touchesFrozen A) (λ_ x X=>x=false->X=false):=by
 unfold Extern.Atomic.touchesFrozen
 refine sr_bind (fL h.block) ?_
 rintro β1 _ _ hle ⟨rfl,rfl⟩
 exact oA (h.mono hle) hh
def touch_hid {w W:World}(hw:WRel S Ck G β w W){a A:Addr}(h:ARel β a A)(hh:S.hid a.block=true)(es:Array Event):∃es',(Extern.Atomic.touchesFrozen a).runT P.a w es=(.ok false w,es'):=by
 have e0:(shape a.block).runT P.a w es=(.ok none w,es):=by
  show(Result.ok (w.shape? a.block) w,es)=_
  unfold World.shape?;rw[(hw.hids _ _ h.block hh).1]
 have e1:(viewAt a.block).runT P.a w es=(.ok none w,es.push ⟨.obj a.block,false,false⟩):=by
  unfold viewAt
  rw[aj,e0]
  simp only[Option.isSome_none,Bool.false_eq_true,if_false]
  rw[aj]
  have:(Go.getObj a.block).runT P.a w es=(.ok (.coro none) w,es.push ⟨.obj a.block,false,false⟩):=by
   simp only[Go.getObj,Sem.runT,(hw.hids _ _ h.block hh).1];rfl
  rw[this]
  rfl
 refine⟨es.push ⟨.obj a.block,false,false⟩,?_⟩
 unfold Extern.Atomic.touchesFrozen
 rw[aj,e1]
 show(Result.ok (w.frozen? a) w,_)=_
 rw[aS,(hw.hids _ _ h.block hh).1]
 rfl
def qg {k:IntKind}(hk:k≠.u64){x X:Array Value}(h:AsRel S β x X):SRel P S Ck G β (Extern.Atomic.casT (.int k) x) (Extern.Atomic.casT (.int k) X) (λβ' v V=>VRel S β' v V):=by
 have hl:=h.toList
 obtain⟨l⟩:=x
 obtain⟨L⟩:=X
 simp only at hl
 cases hl with
 |nil=>exact sr_stuck
 |cons ha hr =>
  cases hr with
  |nil=>exact sr_stuck
  |cons hb hr =>
   cases hr with
   |nil=>exact sr_stuck
   |cons hc hr =>
    cases hr with
    |cons _ _=>exact sr_stuck
    |nil =>
     refine sr_bind (dp ha) ?_
     intro β1 a A le1 hA
     cases hh:S.hid a.block with
     |true =>
      refine oy λw W hw es=>?_
      obtain⟨es1,e1⟩:=touch_hid (P:=P) hw hA hh es
      obtain⟨s,hs⟩:=(noFar (P:=P) hw hA).1 true
      have e2:∀es,(Extern.Atomic.read (.int k) a).runT P.a w es=(.halt (.stuck s) w,es):=λes=>by
       unfold Extern.Atomic.read
       rw[aj]
       have:(Go.load a .atomic).runT P.a w es=(.halt (.stuck s) w,es):=by
        simp only[Go.load,Sem.runT,qd hw hA hh]
        have:(Mode.atomic==Mode.atomic)=true:=rfl
        rw[this,hs]
       rw[this]
      refine⟨s,w,es1,?_⟩
      rw[aj,e1]
      simp only[Bool.false_eq_true,if_false]
      rw[aj]
      have e3:(pure PUnit.unit:Sem PUnit).runT P.a w es1=(.ok PUnit.unit w,es1):=rfl
      first
       |(rw[e3];simp only;rw[aj,aj,e2])
       |(rw[aj,e2])
       |(rw[e2])
     |false =>
      refine sr_bind (qe hA hh) ?_
      intro β2 z Z le2 hz
      cases z with
      |true=>exact sr_unsupported (by intro g e;cases e)
      |false =>
       rw[hz rfl]
       simp only[Bool.false_eq_true,if_false]
       refine sr_bind (mV hk (hA.mono le2)) ?_
       rintro β3 v V le3 ⟨n1,rfl,rfl⟩
       have hA3:=(hA.mono le2).mono le3
       have hb3:=((hb.mono le1).mono le2).mono le3
       have hc3:=((hc.mono le1).mono le2).mono le3
       have fin:∀(β4:Bij) (q:Bool),β3.le β4->∀ {c C:Value},VRel S β3 c C->SRel P S Ck G β4 (do if q=true then do store a c .atomic;pure (Value.bool q) else pure (Value.bool q)) (do if q=true then do store A C .atomic;pure (Value.bool q) else pure (Value.bool q)) (λβ' v V=>VRel S β' v V):=by
        intro β4 q le4 c C hcc
        cases q with
        |false=>exact sr_pure (.bool _)
        |true =>
         refine sr_bind (gZ (hA3.mono le4) .atomic (hcc.mono le4)) ?_
         intro β5 _ _ _ _
         exact sr_pure (.bool _)
       have eqs:∀(q:Bool),SRel P S Ck G β3 (pure q:Sem Bool) (pure q:Sem Bool) (λ_ a A=>a=A):=λq=>sr_pure rfl
       cases hb3 with
       |int k2 n2 =>
        refine sr_bind (m:=pure (n1==n2)) (R:=λ_ a A=>a=A) (sr_pure rfl) ?_
        rintro β4 q _ le4 rfl
        exact fin β4 q le4 hc3
       |ptr o s hb =>
        cases n1 with
        |ofNat m =>
         cases m with
         |zero =>
          refine sr_bind (m:=pure false) (R:=λ_ a A=>a=A) (sr_pure rfl) ?_
          rintro β4 q _ le4 rfl
          exact fin β4 q le4 hc3
         |succ m=>exact sr_bind (R:=λ_ _ _=>False) (sr_unsupported (u:=.addressObserved) (by intro g e;cases e)) (λ_ _ _ _ h=>h.elim)
        |negSucc m=>exact sr_bind (R:=λ_ _ _=>False) (sr_unsupported (u:=.addressObserved) (by intro g e;cases e)) (λ_ _ _ _ h=>h.elim)
       |blank _ _ =>
        cases n1 with
        |ofNat m=>cases m<;>exact sr_of_dead ((show Dead P (stuck "atomic.CompareAndSwap: old is no T":Sem Bool) from λw es=>.inl ⟨_,_,_,rfl⟩).bind _)
        |negSucc m=>exact sr_of_dead ((show Dead P (stuck "atomic.CompareAndSwap: old is no T":Sem Bool) from λw es=>.inl ⟨_,_,_,rfl⟩).bind _)
       |_ =>
        cases n1 with
        |ofNat m=>cases m<;>exact sr_bind (R:=λ_ _ _=>False) (sr_stuck (s := "atomic.CompareAndSwap: old is no T")) (λ_ _ _ _ h=>h.elim)
        |negSucc m=>exact sr_bind (R:=λ_ _ _=>False) (sr_stuck (s := "atomic.CompareAndSwap: old is no T")) (λ_ _ _ _ h=>h.elim)
end
def fnOk (p:Program)(SB:FuncId->Bool)(lets:Bool)(f:FuncId):Bool:=match p.funcs[f]? with
 |some fn=>fn.name != "runtime.NumGoroutine"&&match fn.body with
  |some c=>codeOk p SB lets true c
  |none=>false
 |none=>false
def fnOk_of {p:Program}{SB:FuncId->Bool}{lets:Bool}{f:FuncId}(this:fnOk p SB lets f=true):∃fn c,p.funcs[f]?=some fn/\fn.name ≠ "runtime.NumGoroutine"/\fn.body=some c/\codeOk p SB lets true c=true:=by
 unfold fnOk at this
 cases hq:p.funcs[f]? with
 |none=>rw[hq] at this;cases this
 |some fn =>
  rw[hq] at this
  cases hb:fn.body with
  |none=>simp[hb] at this
  |some c=>simp[hb] at this;exact⟨fn,c,rfl,this.1,hb,this.2⟩
def BarOk (P:Two)(f:FuncId):Prop:=∃fn fn' s,P.a.funcs[f]?=some fn/\P.fs[f]?=some fn'/\fn.name ≠ "runtime.NumGoroutine"/\fn'.name ≠ "runtime.NumGoroutine"/\fn.body=some (.refuse s)/\fn'.body.isSome=true
def dD {P:Two}{S:Par}{Ck:Code->Prop}{G:Nat}{β:Bij}{f:FuncId}(h:BarOk P f)(hf:S.fn f){a A:Array Value}(ha:AsRel S β a A):SRel P S Ck G β (callFunc f a) (callFunc f A) (NRel S Ck):=by
 obtain⟨fn,fn',s,h1,h2,h3,h4,h5,h6⟩:=h
 exact bC h1 h2 h3 h4 (by rw[h5];rfl) h6 hf ha
def BarOk.bars {P:Two}{f:FuncId}(h:BarOk P f):∃fn s,P.a.funcs[f]?=some fn/\fn.body=some (.refuse s):=by
 obtain⟨fn,fn',s,h1,h2,h3,h4,h5,h6⟩:=h
 exact⟨fn,s,h1,h5⟩
def sM {p:Program}{SB:FuncId->Bool}{H:Hid}{Gn:Nat}(h:∀f,SB f=true->fnOk p SB false f=true)(bar:∀f,aE SB f=true->BarOk (Two.of p) f)(hg:p.globals.size<=Gn/\p.info? big=none):Lib (Two.of p) SB H false SB Gn:=by
 refine⟨⟨hg.2,λf hf β a A ha=>?_⟩,λf hf=>?_,λf hf=>?_,hg.1,λf hf=>?_,λ_ h=>h,λf hf=>(bar f hf).bars⟩
 ·have hf0:=hf
  rcases hf with hf|hf
  ·obtain⟨fn,c,h1,h2,h3,_⟩:=fnOk_of (h f hf)
   exact bC (P:=Two.of p) h1 h1 h2 h2 (by rw[h3];rfl) (by rw[h3];rfl) hf0 ha
  ·exact dD (bar f hf) hf0 ha
 ·obtain⟨fn,c,h1,_,h3,h4⟩:=fnOk_of (h f hf)
  exact⟨fn,c,h1,by rw[h3];rfl,h4,h1⟩
 ·obtain⟨fn,c,h1,_,_,_⟩:=fnOk_of (h f hf)
  exact⟨fn,fn,h1,h1,rfl⟩
 ·obtain⟨fn,c,h1,_,h3,_⟩:=fnOk_of (h f hf)
  have:=aN h1 (by rw[h3];rfl)
  exact⟨this,this⟩
def rv {P:Two}{SB BB:FuncId->Bool}{H:Hid}{lets:Bool}{Gn:Nat}(h:∀f,BB f=true->fnOk P.a SB lets f=true)(same:∀f,BB f=true->P.fs[f]?=P.a.funcs[f]?)
  (stops:∀f,SB f=true->BB f=false->∃fn fn',P.a.funcs[f]?=some fn/\P.fs[f]?=some fn'/\fn.results=fn'.results/\fn.name ≠ "runtime.NumGoroutine"/\fn'.name ≠ "runtime.NumGoroutine"/\fn.body.isSome=true/\fn'.body.isSome=true)
  (sub:∀f,BB f=true->SB f=true) (bar:∀f,aE SB f=true->BarOk P f) (hg:P.a.globals.size<=Gn/\P.a.info? big=none):Lib P SB H lets BB Gn:=by
 refine⟨⟨hg.2,λf hf β a A ha=>?_⟩,λf hf=>?_,λf hf=>?_,hg.1,λf hf=>?_,sub,λf hf=>(bar f hf).bars⟩
 ·have hf0:=hf
  rcases hf with hf|hf
  rotate_left
  ·exact dD (bar f hf) hf0 ha
  cases hb:BB f with
  |true =>
   obtain⟨fn,c,h1,h2,h3,_⟩:=fnOk_of (h f hb)
   exact bC h1 ((same f hb).trans h1) h2 h2 (by rw[h3];rfl) (by rw[h3];rfl) hf0 ha
  |false =>
   obtain⟨fn,fn',h1,h2,_,h3,h4,h5,h6⟩:=stops f hf hb
   exact bC h1 h2 h3 h4 h5 h6 hf0 ha
 ·obtain⟨fn,c,h1,_,h3,h4⟩:=fnOk_of (h f hf)
  exact⟨fn,c,h1,by rw[h3];rfl,h4,(same f hf).trans h1⟩
 ·cases hb:BB f with
  |true =>
   obtain⟨fn,c,h1,_,_,_⟩:=fnOk_of (h f hb)
   exact⟨fn,fn,h1,(same f hb).trans h1,rfl⟩
  |false =>
   obtain⟨fn,fn',h1,h2,h3,_⟩:=stops f hf hb
   exact⟨fn,fn',h1,h2,h3⟩
 ·cases hb:BB f with
  |true =>
   obtain⟨fn,c,h1,_,h3,_⟩:=fnOk_of (h f hb)
   exact⟨aN h1 (by rw[h3];rfl),aN (p:=P.b) ((same f hb).trans h1) (by rw[h3];rfl)⟩
  |false =>
   obtain⟨fn,fn',h1,h2,_,_,_,h5,h6⟩:=stops f hf hb
   exact⟨aN h1 h5,aN (p:=P.b) h2 h6⟩
inductive AtomFn:(Array Value->Sem Value)->Prop
 |load (k:IntKind):AtomFn (Extern.Atomic.loadT (.int k))
 |add (k:IntKind):AtomFn (Extern.Atomic.update (Op.intArith .add) k true)
 |cas (k:IntKind):k≠.u64->AtomFn (Extern.Atomic.casT (.int k))
section
variable {P:Two} {S:Par} {Ck:Code->Prop} {G:Nat} {β:Bij}
def oB {e:Array Value->Sem Value}(h:AtomFn e){a A:Array Value}(ha:AsRel S β a A):SRel P S Ck G β (e a) (e A) (λβ' v V=>VRel S β' v V):=by
 cases h with
 |load k=>exact oz k ha
 |add k=>exact qc k ha
 |cas k hk=>exact qg hk ha
def ExtOk (P:Two)(f:FuncId):Prop:=∃fn e,P.a.funcs[f]?=some fn/\P.fs[f]?=some fn/\(fn.name == "runtime.NumGoroutine")=false/\fn.body.isNone=true/\Extern.findNext fn=none/\Extern.find fn=some e/\AtomFn e/\ie fn.name=false
def iJ {f:FuncId}(h:ExtOk P f){a A:Array Value}(ha:AsRel S β a A):SRel P S Ck G β (callFunc f a) (callFunc f A) (NRel S Ck):=by
 obtain⟨fn,e,h1,h2,h3,h4,h5,h6,h7,_⟩:=h
 refine sr_bind aJ ?_
 rintro β1 p p' hle ⟨hp,hp'⟩
 subst p p'
 rw[h1,show P.b.funcs[f]?=some fn from h2]
 simp only[h3,h4,h5,h6,Bool.false_eq_true,if_false,if_true]
 refine sr_bind (mU f) ?_
 intro β2 _ _ le2 _
 refine sr_bind (oB h7 ((ha.mono hle).mono le2)) ?_
 intro β3 v V _ hv
 exact sr_pure (.value hv)
def ma {p:Program}{SB:FuncId->Bool}{H:Hid}{Gn:Nat}(h:∀f,SB f=true->fnOk p SB false f=true\/ExtOk (Two.of p) f)(bar:∀f,aE SB f=true->BarOk (Two.of p) f)(hg:p.globals.size<=Gn/\p.info? big=none):Lib (Two.of p) SB H false SB Gn:=by
 refine⟨⟨hg.2,λf hf β a A ha=>?_⟩,λf hf=>?_,λf hf=>?_,hg.1,λf hf=>?_,λ_ h=>h,λf hf=>(bar f hf).bars⟩
 ·have hf0:=hf
  rcases hf with hf|hf
  rotate_left
  ·exact dD (bar f hf) hf0 ha
  rcases h f hf with h0|h0
  ·obtain⟨fn,c,h1,h2,h3,_⟩:=fnOk_of h0
   exact bC (P:=Two.of p) h1 h1 h2 h2 (by rw[h3];rfl) (by rw[h3];rfl) hf0 ha
  ·exact iJ h0 ha
 ·rcases h f hf with h0|⟨fn,e,h1,h2,_,h4,_⟩
  ·obtain⟨fn,c,h1,_,h3,h4⟩:=fnOk_of h0
   exact⟨fn,c,h1,by rw[h3];rfl,h4,h1⟩
  ·refine⟨fn,_,h1,rfl,?_,h2⟩
   have:fn.body=none:=by simpa using h4
   rw[this];rfl
 ·rcases h f hf with h0|⟨fn,e,h1,h2,_⟩
  ·obtain⟨fn,c,h1,_,_,_⟩:=fnOk_of h0
   exact⟨fn,fn,h1,h1,rfl⟩
  ·exact⟨fn,fn,h1,h2,rfl⟩
 ·rcases h f hf with h0|⟨fn,e,h1,h2,_,_,_,_,_,h8⟩
  ·obtain⟨fn,c,h1,_,h3,_⟩:=fnOk_of h0
   have:=aN h1 (by rw[h3];rfl)
   exact⟨this,this⟩
  ·exact⟨di h1 h8,di (p:=(Two.of p).b) h2 h8⟩
def gz {P:Two}{SB BB:FuncId->Bool}{H:Hid}{lets:Bool}{Gn:Nat}(h:∀f,BB f=true->(fnOk P.a SB lets f=true/\P.fs[f]?=P.a.funcs[f]?)\/ExtOk P f)
  (stops:∀f,SB f=true->BB f=false->∃fn fn',P.a.funcs[f]?=some fn/\P.fs[f]?=some fn'/\fn.results=fn'.results/\fn.name ≠ "runtime.NumGoroutine"/\fn'.name ≠ "runtime.NumGoroutine"/\fn.body.isSome=true/\fn'.body.isSome=true)
  (sub:∀f,BB f=true->SB f=true) (bar:∀f,aE SB f=true->BarOk P f) (hg:P.a.globals.size<=Gn/\P.a.info? big=none):Lib P SB H lets BB Gn:=by
 refine⟨⟨hg.2,λf hf β a A ha=>?_⟩,λf hf=>?_,λf hf=>?_,hg.1,λf hf=>?_,sub,λf hf=>(bar f hf).bars⟩
 ·have hf0:=hf
  rcases hf with hf|hf
  rotate_left
  ·exact dD (bar f hf) hf0 ha
  cases hb:BB f with
  |true =>
   rcases h f hb with⟨h0,hs⟩|h0
   ·obtain⟨fn,c,h1,h2,h3,_⟩:=fnOk_of h0
    exact bC h1 (hs.trans h1) h2 h2 (by rw[h3];rfl) (by rw[h3];rfl) hf0 ha
   ·exact iJ h0 ha
  |false =>
   obtain⟨fn,fn',h1,h2,_,h3,h4,h5,h6⟩:=stops f hf hb
   exact bC h1 h2 h3 h4 h5 h6 hf0 ha
 ·rcases h f hf with⟨h0,hs⟩|⟨fn,e,h1,h2,_,h4,_⟩
  ·obtain⟨fn,c,h1,_,h3,h4⟩:=fnOk_of h0
   exact⟨fn,c,h1,by rw[h3];rfl,h4,hs.trans h1⟩
  ·refine⟨fn,_,h1,rfl,?_,h2⟩
   have:fn.body=none:=by simpa using h4
   rw[this];rfl
 ·cases hb:BB f with
  |true =>
   rcases h f hb with⟨h0,hs⟩|⟨fn,e,h1,h2,_⟩
   ·obtain⟨fn,c,h1,_,_,_⟩:=fnOk_of h0
    exact⟨fn,fn,h1,hs.trans h1,rfl⟩
   ·exact⟨fn,fn,h1,h2,rfl⟩
  |false =>
   obtain⟨fn,fn',h1,h2,h3,_⟩:=stops f hf hb
   exact⟨fn,fn',h1,h2,h3⟩
 ·cases hb:BB f with
  |true =>
   rcases h f hb with⟨h0,hs⟩|⟨fn,e,h1,h2,_,_,_,_,_,h8⟩
   ·obtain⟨fn,c,h1,_,h3,_⟩:=fnOk_of h0
    exact⟨aN h1 (by rw[h3];rfl),aN (p:=P.b) (hs.trans h1) (by rw[h3];rfl)⟩
   ·exact⟨di h1 h8,di (p:=P.b) h2 h8⟩
  |false =>
   obtain⟨fn,fn',h1,h2,_,_,_,h5,h6⟩:=stops f hf hb
   exact⟨aN h1 h5,aN (p:=P.b) h2 h6⟩
end
end Go.Iso
namespace Go.Co
open Go.Iso Go.Conc
def dU (p:Program):List Item->Bool
 |.inRegion ops (i::_)::_=>match ops[i]? with
  |some o=>aB p o.op
  |none=>true
 |_=>true
section
variable {p:Program} {BB:FuncId->Bool} {Q:Goroutine->World->Prop} {b:Frame} {a:Act} {todo:List Item} {cs:List Frame} {w:World}
def ig (h:dU p todo=true):∀o,(b.at a todo).oper?=some o->aB p o.op=true:=by
 intro o ho
 unfold Frame.oper? Frame.at at ho
 dsimp only at ho
 match todo,h,ho with
 |.inRegion ops (i::rest)::k,h,ho =>
  simp only[dU] at h
  have ho':ops[i]?=some o:=ho
  rw[ho'] at h
  exact h
 |[],_,ho=>cases ho
 |.inRegion ops []::k,_,ho=>cases ho
 |.code c::k,_,ho=>cases ho
 |.inBlock i::k,_,ho=>cases ho
 |.inLoop c::k,_,ho=>cases ho
 |.inScope c::k,_,ho=>cases ho
 |.inRangeFunc l::k,_,ho=>cases ho
 |.endRangeFunc l::k,_,ho=>cases ho
 |.beginRound::k,_,ho=>cases ho
 |.call _ _ _ _::k,_,ho=>cases ho
def Runs.own (hQ:∀g w W,Same w W->Q g w->Q g W)(hf:BB b.fn=true)(hg:dU p todo=true)(h:∀τ d,(stepG p true (G (b.at a todo) cs) (on w τ d)).goes (λg' w' _=>g'.callers≠[]/\∃W,Same W w'/\Runs p (Fine p BB) Q g' W)) :
  Runs p (Fine p BB) Q (G (b.at a todo) cs) w:=by
 refine Runs.step ⟨hf,ig hg⟩ λτ d=>?_
 have:=h τ d
 cases hs:stepG p true (G (b.at a todo) cs) (on w τ d) with
 |go g' w' es =>
  rw[hs] at this
  obtain⟨h1,W,h2,h3⟩:=this
  exact⟨g',w',es,rfl,h1,h3.same (λ_ _ _ _ x=>x) hQ h2⟩
 |_=>rw[hs] at this;exact this.elim
end
open Go.Iso Go.Conc
section
variable {P:Program} {main:Bool} {b:Frame} {a:Act} {k:List Item} {cs:List Frame} {w:World}
def ay {ops:Array Oper}{i:Nat}{rest:List Nat}{o:Oper}{K:Goroutine->World->Array Event->Prop}{f:FuncId}{fn:Func}{args:Array Operand}{ats:Array TypeId}
  (ho:ops[i]?=some o) (hw:Region.wanted o (yielded ops a.tmps)=true) (hk:b.kind≠.early) (hop:o.op=.call { callee:=.value (.func f),args,argTypes:=ats })
  (hf:P.funcs[f]?=some fn) (hname:(fn.name == "runtime.NumGoroutine")=false) (hb:fn.body.isNone=false)
  (h:K (G (Frame.enter P f (args.map a.eval) .normal) (b.at a (.inRegion ops (i::rest)::k)::cs)) w #[]) :
  (stepG P main (G (b.at a (.inRegion ops (i::rest)::k)) cs) w).goes K:=by
 rw[stepG_enter ho hw hk (run_call_body hop hf hname hb)]
 have:listed P b.fn a o w=#[]:=by unfold listed;rw[events_call_body hop hf hname hb];exact seen_none P _
 rw[this]
 exact h
end
end Go.Co
