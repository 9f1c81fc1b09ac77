/- Parts of the proof. -/
import Derived.Test.YteckikkkfpblhaaGreatP06
import Derived.Test.YteckikkkfpblhaaGreatP00
import GoSem.Extern.Atomic
import Derived.Conc.Walk
import Derived.Conc.Own4
set_option linter.all false
namespace Go.AW
open Go.Conc
def Fatal:Halt->Prop
 |.stuck _=>True
 |.unsupported u=>∀g,u≠.initOrder g
 |_=>False
def DJ {α:Type}:Result α->Prop
 |.halt h _=>Fatal h
 |_=>False
section
variable {p:Program}
def SN {c:FuncId} {fc:Func} (hf:p.funcs[c]?=some fc) (hname:(fc.name == "runtime.NumGoroutine")=false) (hb:fc.body.isNone=true) (hn:Extern.findNext fc=none) (he:Extern.find fc=some (Extern.Atomic.casT (.int .i32)))
  {a:Addr} {w:World} {x y:Int} (h1:∃s,w.farLoad p a true=.error (.stuck s)) (h2:∀t u,w.heap[a.block]?≠some (.view t u)) :
  (∃z,w.cell? a=some (.int .i32 z)/\w.frozen? a=false)\/DJ ((callFunc c #[.pointer (some a),.int .i32 x,.int .i32 y]).run p w):=by
 obtain⟨s,h1⟩:=h1;rw[run_callFunc_extern hf hname hb hn he]
 have e0:(Extern.Atomic.casT (.int .i32) #[.pointer (some a),.int .i32 x,.int .i32 y])=(do
  let a'<-asAddr (.pointer (some a))
  if<-Extern.Atomic.touchesFrozen a' then unsupported (.unsafePointer "a write to bytes that a string shares")
  let eq<-match Extern.Atomic.T.int .i32,<-Extern.Atomic.read (.int .i32) a',Value.int .i32 x with
   |_,.int _ x,.int _ y=>pure (x==y)
   |.ptr,.pointer x,.pointer y=>samePointer x y
   |.int _,.pointer (some _),.int _ 0|.int _,.int _ 0,.pointer (some _)=>pure false
   |.int _,.pointer (some _),_|.int _,_,.pointer (some _)=>unsupported .addressObserved
   |_,_,_=>stuck "atomic.CompareAndSwap: old is no T"
  if eq then store a' (.int .i32 y) .atomic
  pure (Value.bool eq)):=rfl
 rw[e0];by_cases hv:∃o,w.shape? a.block=none/\w.heap[a.block]?=o/\(o=none\/∃c t f,o=some (.cells c t f))
 .obtain⟨o,q1,q2,q3⟩:=hv;refine .inr ?_;rcases q3 with rfl|⟨c,t,f,rfl⟩
  .simp[Extern.Atomic.touchesFrozen,asAddr,viewAt,shape,getObj,Sem.run,q1,q2,Result.andThen,DJ,Fatal,stuck,unsupported]
  .simp[Extern.Atomic.touchesFrozen,asAddr,viewAt,shape,getObj,Sem.run,q1,q2,Result.andThen,DJ,Fatal,stuck,unsupported]
 have KQ:(viewAt a.block).run p w=.ok none w:=by
  cases hs:w.shape? a.block with
  |some z=>simp[viewAt,shape,Sem.run,hs,Result.andThen]
  |none =>
   cases ho:w.heap[a.block]? with
   |none=>exact absurd ⟨_,hs,ho,.inl rfl⟩ hv
   |some o =>
    cases o with
    |cells c t f=>exact absurd ⟨_,hs,ho,.inr ⟨_,_,_,rfl⟩⟩ hv
    |view t u=>exact absurd ho (h2 t u)
    |_=>simp[viewAt,shape,getObj,Sem.run,hs,ho,Result.andThen]
 cases hz:w.frozen? a with
 |true=>exact .inr (by simp[Extern.Atomic.touchesFrozen,asAddr,KQ,hz,frozen,Sem.run,Result.andThen,DJ,Fatal,stuck,unsupported])
 |false =>
  cases hc:w.cell? a with
  |none =>
   have hl:(load a .atomic).run p w=.halt (.stuck s) w:=by
    have:(Mode.atomic==Mode.atomic)=true:=rfl;simp[load,Sem.run,hc,this,h1]
   exact .inr (by simp[Extern.Atomic.touchesFrozen,Extern.Atomic.read,asAddr,KQ,hz,frozen,Sem.run,hl,Result.andThen,DJ,Fatal,stuck,unsupported])
  |some v =>
   have hl:(load a .atomic).run p w=.ok v w:=by simp[load,Sem.run,hc]
   cases v with
   |int k z =>
    by_cases hk:k=.i32
    .subst hk;exact .inl ⟨z,rfl,rfl⟩
    .have DO:¬IntKind.i32=k:=λe=>hk e.symm;exact .inr (by simp[Extern.Atomic.touchesFrozen,Extern.Atomic.read,asAddr,KQ,hz,frozen,Sem.run,hl,DO,Result.andThen,DJ,Fatal,stuck,unsupported])
   |pointer q=>cases q<;>exact .inr (by simp[Extern.Atomic.touchesFrozen,Extern.Atomic.read,asAddr,KQ,hz,frozen,Sem.run,hl,Result.andThen,DJ,Fatal,stuck,unsupported])
   |_=>exact .inr (by simp[Extern.Atomic.touchesFrozen,Extern.Atomic.read,asAddr,KQ,hz,frozen,Sem.run,hl,Result.andThen,DJ,Fatal,stuck,unsupported])
def jv {main:Bool}{b:Frame}{a:Act}{ops:Array Oper}{i:Nat}{rest:List Nat}{k:List Item}{cs:List Frame}{w:World}{o:Oper}(ho:ops[i]?=some o)(hw:Region.wanted o (yielded ops a.tmps)=true)(hk:b.kind≠.early)
  (h:DJ ((execOp a.eval o).run p w)) {g':Goroutine} {w':World} {es:Array Event}:stepG p main (Bx (b.at a (.inRegion ops (i::rest)::k)) cs) w≠.go g' w' es:=by
 intro e;have e':=(stepG_oper (P:=p) (main:=main) (b:=b) (a:=a) (k:=k) (cs:=cs) (w:=w) ho hw).symm.trans e;have DO:(b.kind==CallKind.early)=false:=by simpa using hk
 unfold stepG.apply at e';rw[<-Sem.runT_fst p _ w #[]] at h;simp only[if_true,Frame.at,DO,xJ,if_false] at e';revert e' h;rcases(execOp a.eval o).runT p w #[] with⟨r,es⟩
 intro h e';cases r with
 |ok v w'=>exact h.elim
 |halt x w' =>
  cases x with
  |stuck s=>cases e'
  |unsupported u =>
   cases u with
   |initOrder g=>exact absurd rfl (h g)
   |_=>cases e'
  |_=>exact h.elim
structure KR (p:Program)(f:FuncId)(x y:Int)(fn:Func)(r:Nat)(o1 o2:Oper)(s:String):Prop where
 func:p.funcs[f]?=some fn
 text:fn.body=some (.seq (.region r #[o1,o2] false) (.cond (.tmp 1) .ret (.refuse s)))
 room:3<=fn.ntmps
 res:fn.results=#[]
 free:o1.guard=none/\o1.dst=some 2/\o2.guard=none/\o2.dst=some 1
 one:∀(a:Act) w,(∃q,a.eval (.tmp 0)=.pointer (some q)/\(execOp a.eval o1).run p w=.ok (.value (.pointer (some q))) w)\/DJ ((execOp a.eval o1).run p w)
 two:∀(a:Act) q w,a.eval (.tmp 2)=.pointer (some q)->(∃s,w.farLoad p q true=.error (.stuck s))->(∀t u,w.heap[q.block]?≠some (.view t u)) ->
  (∃z,w.cell? q=some (.int .i32 z)/\w.frozen? q=false/\(z=x->(execOp a.eval o2).run p w=.ok (.value (.bool true)) (w.setCell q (.int .i32 y)))/\(z≠x->(execOp a.eval o2).run p w=.ok (.value (.bool false)) w))\/DJ ((execOp a.eval o2).run p w)
variable {f:FuncId} {x y:Int} {fn:Func} {r:Nat} {o1 o2:Oper} {s:String} {args:Array Value} {k:CallKind} {cs:List Frame} {w:World}
def mV (h:KR p f x y fn r o1 o2 s):Frame.enter p f args k={ base f with kind:=k }.at { tmps:=args++Array.replicate (fn.ntmps-args.size) undef,defers:=[] } [.code (.seq (.region r #[o1,o2] false) (.cond (.tmp 1) .ret (.refuse s)))]:=by
 simp[Frame.enter,Frame.at,h.func,h.text,base]
def bi {o:Oper}{ops:Array Oper}{t:Array Value}(h:o.guard=none):Region.wanted o (yielded ops t)=true:=by unfold Region.wanted;rw[h]
def IQ (h:KR p f x y fn r o1 o2 s)(hk:k≠.early){Ev Qa:Goroutine->World->Prop}(hE:∀g w W,AR w W->Ev g w->Ev g W)(hQ:∀g w W,AR w W->Qa g w->Qa g W)(hC:∀g w,g.frame.fn=f->¬Qa g w)
  (GU:∀q,args[0]?=some (.pointer (some q))->(∃s,w.farLoad p q true=.error (.stuck s))/\∀t u,w.heap[q.block]?≠some (.view t u))
  (hr:AG p Ev Qa (Bx (Frame.enter p f args k) cs) w) :
  ∃q fr,args[0]?=some (.pointer (some q))/\w.cell? q=some (.int .i32 x)/\w.frozen? q=false/\fr.fn=f/\fr.kind=k/\fr.mode=.returning/\fr.defers=[] /\
   Walk p (λg=>∀w,¬Qa g w) (Bx (Frame.enter p f args k) cs) w (Bx fr cs) (w.setCell q (.int .i32 y)):=by
 rw[mV h] at hr ⊢;generalize hT:args++Array.replicate (fn.ntmps-args.size) undef=T at hr ⊢;have hTs:3<=T.size:=by rw[<-hT];simp;have:=h.room;omega
 generalize hb:({ base f with kind:=k }:Frame)=b at hr ⊢;have Gw:b.kind≠.early:=by rw[<-hb];exact hk
 have hbf:b.fn=f:=by rw[<-hb];rfl
 obtain⟨f1,f2,f3,f4⟩:=h.free;have C:∀(a:Act) t,∀w,¬Qa (Bx (b.at a t) cs) w:=λa t w=>hC _ _ hbf;have w2 : ∀ {w2 : World} {g2 : Goroutine}, Walk p (fun g => ∀ w, ¬ Qa g w) (Bx (b.at ⟨T, []⟩ [.inRegion #[o1, o2] [0, 1], .code (.cond (.tmp 1) .ret (.refuse s))]) cs) w g2 w2 ->
   Walk p (λg=>∀w,¬Qa g w) (Bx (b.at ⟨T,[]⟩ [.code (.seq (.region r #[o1,o2] false) (.cond (.tmp 1) .ret (.refuse s)))]) cs) w g2 w2:=λz =>
  .step (C _ _) stepG_seq (.step (C _ _) stepG_region z)
 have hr2:=hr.descend hE hQ (λg w c=>c w) ⟨rfl,rfl,rfl⟩ (w2 .refl);rcases h.one ⟨T,[]⟩ w with⟨q,q1,q2⟩|Vm
 rotate_left
 .exfalso;cases hr2 with
  |fin h=>exact C _ _ _ h
  |next ng nw _ h2 _ =>
   obtain⟨⟨es,e⟩,_⟩:=h2 w.tape w.drawn;exact jv (o:=o1) rfl (bi f1) Gw Vm e
 have hq:args[0]?=some (.pointer (some q)):=by
  have e0:T.getD 0 undef=.pointer (some q):=q1;rw[<-hT] at e0;by_cases hz:0<args.size
  .have h9:0<args.size+(fn.ntmps-args.size):=by omega
   simpa [Array.getD,Array.getElem_append,hz,h9] using e0
  .exfalso;have:args=#[]:=Array.eq_empty_of_size_eq_zero (by omega);subst this;have h3:=h.room;simp[Array.getD] at e0;have h0:0<fn.ntmps:=by omega
   simp[undef] at e0
 obtain⟨n1,n2⟩:=GU q hq;have e2:stepG p true (Bx (b.at ⟨T,[]⟩ [.inRegion #[o1,o2] [0,1],.code (.cond (.tmp 1) .ret (.refuse s))]) cs) w=.go (Bx (b.at ((Act.mk T []).put o1.dst (.pointer (some q))) [.inRegion #[o1,o2] [1],.code (.cond (.tmp 1) .ret (.refuse s))]) cs) w (listed p b.fn ⟨T,[]⟩ o1 w) :=
  stepG_value (o:=o1) rfl (bi f1) Gw q2
 rw[f2] at e2;generalize hA:(Act.mk T []).put (some 2) (.pointer (some q))=A at e2;have hA2:A.eval (.tmp 2)=.pointer (some q):=by
  rw[<-hA];show(T.setIfInBounds 2 _).getD 2 undef=_;have:2<T.size:=hTs;simp[Array.getD,this]
 have hAd:A.defers=[]:=by rw[<-hA];rfl
 have Mh:A.tmps.size=T.size:=by rw[<-hA];exact Array.size_setIfInBounds
 have hr3:=hr2.descend (C:=λg=>∀w,¬Qa g w) hE hQ (λg w c=>c w) ⟨rfl,rfl,rfl⟩ (.step (C _ _) e2 .refl);rcases h.two A q w hA2 n1 n2 with⟨z,z1,z2,z3,z4⟩|Vm
 rotate_left
 .exfalso;cases hr3 with
  |fin h=>exact C _ _ _ h
  |next ng nw _ h2 _ =>
   obtain⟨⟨es,e⟩,_⟩:=h2 w.tape w.drawn;exact jv (o:=o2) rfl (bi f3) Gw Vm e
 have hT1:∀v,(A.put (some 1) v).eval (.tmp 1)=v:=λv=>by
  show(A.tmps.setIfInBounds 1 v).getD 1 undef=v;have:1<A.tmps.size:=by rw[Mh];omega
  simp[Array.getD,this]
 by_cases SQ:z=x
 .have e3 : stepG p true (Bx (b.at A [.inRegion #[o1, o2] [1], .code (.cond (.tmp 1) .ret (.refuse s))]) cs) w = .go (Bx (b.at (A.put o2.dst (.bool true)) [.inRegion #[o1, o2] [], .code (.cond (.tmp 1) .ret (.refuse s))]) cs) (w.setCell q (.int .i32 y)) (listed p b.fn A o2 w) :=
   stepG_value (o:=o2) rfl (bi f3) Gw (z3 SQ)
  rw[f4] at e3;subst SQ;refine⟨q,_,hq,z1,z2,?_,?_,?_,?_,w2 (.step (C _ _) e2 (.step (C _ _) e3 (.step (C _ _) stepG_region_end (.step (C _ _) (stepG_cond (t:=true) (hT1 _)) (.step (C _ _) stepG_ret' .refl)))))⟩
  .exact hbf
  .show b.kind=k;rw[<-hb]
  .rfl
  .exact hAd
 .exfalso;have e3:stepG p true (Bx (b.at A [.inRegion #[o1,o2] [1],.code (.cond (.tmp 1) .ret (.refuse s))]) cs) w=.go (Bx (b.at (A.put o2.dst (.bool false)) [.inRegion #[o1,o2] [],.code (.cond (.tmp 1) .ret (.refuse s))]) cs) w (listed p b.fn A o2 w) :=
   stepG_value (o:=o2) rfl (bi f3) Gw (z4 SQ)
  rw[f4] at e3;have hr4:=hr3.descend (C:=λg=>∀w,¬Qa g w) hE hQ (λg w c=>c w) ⟨rfl,rfl,rfl⟩ (.step (C _ _) e3 (.step (C _ _) stepG_region_end (.step (C _ _) (stepG_cond (t:=false) (hT1 _)) .refl)));cases hr4 with
  |fin h=>exact C _ _ _ h
  |next ng nw _ h2 _ =>
   obtain⟨⟨es,e⟩,_⟩:=h2 w.tape w.drawn;simp[stepG,Go.Conc.G,Frame.at,stepG.exec] at e
end
def lN {p:Program}{main:Bool}{fr:Frame}{cs:List Frame}{w:World}{fn:Func}(hm:fr.mode=.returning)(hd:fr.defers=[])(hf:p.funcs[fr.fn]?=some fn)(hr:fn.results=#[]) :
  stepG p main (Bx fr cs) w=GStep.after #[] (doReturn p main fr cs none (.tuple #[]) w):=by
 obtain⟨f1,tmps,todo,defers,mode,kind,round⟩:=fr;dsimp only at hm hd hf;subst hm hd;unfold stepG Bx;dsimp only;unfold unwind;dsimp only;rw[hf];dsimp only;have e:(results fn tmps).runT p w #[]=(.ok (.tuple #[]) w,#[]):=Prod.ext ((Sem.runT_fst ..).trans (results_none hr _ _ _)) (events_results_none hr _ _);rw[e];simp only[seen_none]
section
variable {S:Cb} {Ck:Code->Prop} {G:Nat} {β:AO}
def rV {w:World}(hw:Bg S Ck G β w w)(hi:β.OY){q:Addr}{u:Value}(hc:w.cell? q=some u){v:Value}(hv:Aw S β v v):Bg S Ck G β (w.setCell q v) (w.setCell q v):=by
 have Vo:∀b,b=q.block->w.heap[b]?≠some (.coro none):=by
  intro b e h;subst e;unfold World.cell? at hc;rw[h] at hc;cases hc
 refine⟨hw.B6,by rw[bp];exact hw.room,λb B hb hh=>?_,λb B hb hh=>?_,λb hb=>by rw[bp];exact hw.old b hb,rfl⟩
 .obtain⟨o,O,k1,k2,k3⟩:=hw.Cq b B hb hh;have:=hi _ _ hb;subst this;rw[k1] at k2;cases k2;rw[Bi];by_cases e:b=q.block
  .rw[if_pos e,k1];refine⟨_,_,rfl,rfl,?_⟩;cases k3 with
   |@cells c C t f F h1 h2 =>
    simp only[Fg];split
    .exact .cells h1 h2
    .exact .cells (h1.set _ hv) h2
   |loop a b c d e f=>exact .loop a b c d e f
   |number o s l h=>exact .number o s l h
   |taken=>exact .taken
   |defs h=>exact .defs h
  .rw[if_neg e];exact⟨_,_,k1,k1,k3⟩
 .have:=hi _ _ hb;subst this;have h:=hw.CG _ _ hb hh;rw[Bi];by_cases e:b=q.block
  .exact absurd h.1 (Vo _ e)
  .rw[if_neg e];exact h
end
def Walk.split {p:Program}{C:Goroutine->Prop}{g1 g2:Goroutine}{w1 w2:World}(h:Walk p C g1 w1 g2 w2):(g1=g2/\w1=w2)\/∃g w es,C g1/\stepG p true g1 w1=.go g w es/\Walk p C g w g2 w2:=by
 cases h with
 |refl=>exact .inl ⟨rfl,rfl⟩
 |step c e k=>exact .inr ⟨_,_,_,c,e,k⟩
def Walk.trans {p:Program}{C:Goroutine->Prop}{g1 g2 g3:Goroutine}{w1 w2 w3:World}(h:Walk p C g1 w1 g2 w2)(k:Walk p C g2 w2 g3 w3):Walk p C g1 w1 g3 w3:=by
 induction h with
 |refl=>exact k
 |step c e _ ih=>exact .step c e (ih k)
section
variable {P:Ba} {AZ BC BB:FuncId->Bool} {H:Hid} {G:Nat}
def Held (p:Program)(BB:FuncId->Bool)(f:FuncId)(x y:Int):Prop:=∀(args:Array Value) (q:Addr) (k:CallKind) (cs:List Frame) (w:World),k≠.early->cs≠[]->args[0]?=some (.pointer (some q))->w.cell? q=some (.int .i32 x)->w.frozen? q=false ->
 Br p BB (λg W=>AR (w.setCell q (.int .i32 y)) W/\∃fr,g=Bx fr cs/\fr.fn=f/\fr.kind=k/\fr.mode=.returning/\fr.defers=[]/\fr.oper?=none) 0 (Bx (Frame.enter p f args k) cs) w
def KS (P:Ba)(BB:FuncId->Bool)(f:FuncId):Prop:=∃x y fn r o1 o2 s DZ,KR P.a f x y fn r o1 o2 s/\Held P.b BB f x y/\P.fs[f]?=some DZ/\DZ.results=#[]
def lO (P:Ba)(AZ BC BB:FuncId->Bool):Prop:=∀f,AZ f=true\/aM AZ f=true->BC f=false->(∃fn s,P.a.funcs[f]?=some fn/\fn.body=some (.refuse s))\/KS P BB f
def GV (P:Ba)(AZ BC:FuncId->Bool)(H:Hid)(G:Nat)(T:List Frame)(Qa:Goroutine->World->Prop)(Gb:Goroutine)(w':World):Prop :=
 ∃g' w0 Ax,Qa g' w0/\AR w0 w'/\Jo H Ax/\CI P AZ H false BC T Ax g' Gb/\Bg (SP AZ H) (CK P.a AZ false) G Ax w0 w0
def GV.same {T:List Frame}{Qa:Goroutine->World->Prop}(g:Goroutine)(w W:World)(s:AR w W)(x:GV P AZ BC H G T Qa g w):GV P AZ BC H G T Qa g W:=by
 obtain⟨g1,w0,B7,x1,x2,x3⟩:=x;exact⟨g1,w0,B7,x1,x2.trans s,x3⟩
def AG.YR (Lc:Lib P AZ H false BC G)(hst:lO P AZ BC BB)(hb:∀f,AZ f=true->BB f=true){Qa:Goroutine->World->Prop}(hQ:∀g w W,AR w W->Qa g w->Qa g W)(hQl:∀g w f,Qa g w->BC f=false->KS P BB f->g.frame.fn≠f)(hE:∀g w W,AR w W->Self P.a AZ H G g w->Self P.a AZ H G g W)
  {c:Frame} {cs:List Frame} {g:Goroutine} {w:World} (h:AG P.a (Self P.a AZ H G) Qa g w) :
  ∀ {g':Goroutine} {w1 w':World},AR w w1->Walk P.a (λg=>∀w,¬Qa g w) g w1 g' w'->∀ {β:AO} {g2:Goroutine},Jo H β->CI P AZ H false BC (c::cs) β g' g2->Bg (SP AZ H) (CK P.a AZ false) G β w' w' ->
  Br P.b BB (GV P AZ BC H G (c::cs) Qa) 0 g2 w':=by
 induction h with
 |@fin g w hq =>
  intro g' w1 w' hs hk β g2 hi hg hw;cases hk with
  |refl=>exact .fin ⟨_,_,_,hQ _ _ _ hs hq,⟨rfl,rfl,rfl⟩,hi,hg,hw⟩
  |step hc _ _=>exact absurd hq (hc w)
 |@next g w ng nw h1 h2 h3 ih =>
  intro g' w1 w' hs hk β g2 hi hg hw;cases hk with
  |step hc e DO =>
   obtain⟨⟨es',e'⟩,_⟩:=h2 w1.tape w1.drawn;rw[<-hs.eq,e] at e';cases e';exact ih _ _ ⟨rfl,rfl,rfl⟩ DO hi hg hw
  |refl =>
  have eon:∀τ n,on w1 τ n=on w τ n:=λτ n=>by rw[hs.eq];rfl
  have hrun:AG P.a (Self P.a AZ H G) Qa g w1:=(AG.next ng nw h1 h2 h3).same hE hQ hs;have MQ:∀τ n,(∃es,stepG P.a true g (on w1 τ n)=.go (ng τ n) (nw τ n) es)/\(ng τ n).callers≠[]:=λτ n=>by rw[eon];exact h2 τ n
  have ih':∀τ n {g':Goroutine} {w2 w':World},AR (nw τ n) w2->Walk P.a (λg=>∀w,¬Qa g w) (ng τ n) w2 g' w'->∀ {β:AO} {g2:Goroutine},Jo H β->CI P AZ H false BC (c::cs) β g' g2->Bg (SP AZ H) (CK P.a AZ false) G β w' w' ->
   Br P.b BB (GV P AZ BC H G (c::cs) Qa) 0 g2 w':=λτ n=>ih τ n
  clear ih h2 h3 h1;have eg:=hg.Bx;have B9:=hg.top;have hcs:=hg.callers;have e2:g2=Bx g2.frame g2.callers:=by
   obtain⟨x1,x2,x3,x4,x5⟩:=g2;obtain⟨_,_,⟨_,s1⟩,⟨_,d1⟩,⟨_,o1⟩⟩:=hg;dsimp only at *;subst s1 d1 o1
   rfl
  generalize hf:g.frame=fr at B9 eg;generalize hF:g2.frame=FR at B9 e2;generalize g.callers=YS at eg hcs;generalize g2.callers=XB at e2 hcs;subst eg e2;cases B9 with
  |on DW =>
   have eF:fr=FR:=AQ.id (P:=Ba.of P.a) hi DW
   have Pq:BO P.b BB (Bx FR XB) w1:=⟨by show BB FR.fn=true;rw[<-eF];exact hb _ DW.late.2,λo ho=>by
    have LP:FR.oper?=some o:=ho;rw[<-eF] at LP
    exact cz DW (λf h=>(Lc.nm f h).2) (λ_=>rfl) o LP⟩
   refine Br.step Pq λτ d=>?_;obtain⟨⟨es,e⟩,hn⟩:=MQ τ d;have hw':Bg (SP AZ H) (CK P.a AZ false) G β (on w1 τ d) (on w1 τ d):=hw.same rfl rfl rfl;have:=dD (P:=P) (main:=true) (main2:=true) Lc hg DW (λ_=>qg DW) hw' (n:=(nw τ d).drawn) (λ_ _ _=>rfl) (by rw[e];exact zu _ _);rw[e] at this;rcases this with⟨h0,_⟩|⟨Ax,Gb,W',ES,k1,k2,k3⟩
   .exact absurd h0 hn
   obtain⟨i1,i2⟩:=k3.same hi rfl;have hr:=ih' τ d ⟨rfl,rfl,rfl⟩ .refl i1 k2 (k3.rel.same rfl i2 rfl);refine⟨Gb,W',ES,k1,ly k2.callers,hr.same GV.same ⟨i2.symm,?_,?_⟩⟩
   .rw[k3.OS,k3.os]
   .rw[k3.OUT,k3.out]
  |@stop f a A k s1 s2 s3 s4 =>
   have eA:a=A:=s4.id hi;subst eA;rcases hst f s1 s2 with⟨fn,s,q1,q2⟩|⟨x,y,fn,r,o1,o2,s,DZ,hp,Ua,hf',KU⟩
   .exfalso;obtain⟨⟨es,e⟩,_⟩:=MQ w1.tape w1.drawn;exact iN q1 q2 _ _ _ _ _ e
   have s0:AZ f=true:=by
    rcases s1 with s1|s1
    .exact s1
    .exfalso;obtain⟨fn9,s9,z1,z2⟩:=Lc.bars f s1;rw[hp.func] at z1;cases z1;rw[hp.text] at z2;cases z2
   have GU:∀ww,Bg (SP AZ H) (CK P.a AZ false) G β ww ww->∀q:Addr,a[0]?=some (.pointer (some q))->(∃s,ww.farLoad P.a q true=.error (.stuck s))/\∀t u,ww.heap[q.block]?≠some (.view t u):=by
    intro ww hw q hq;have hv:Aw (SP AZ H) β (.pointer (some q)) (.pointer (some q)):=s4.at_ 0 _ _ hq hq;obtain⟨B,Jq,hB⟩:=J2 hv;have hB2:q.block=B:=hi.2 _ _ Jq;subst hB2;refine⟨(MP (P:=P) hw ⟨Jq,rfl,rfl⟩).1 true,λt u hu=>?_⟩;cases hh:(SP AZ H).hid q.block with
    |true=>rw[(hw.CG _ _ Jq hh).1] at hu;cases hu
    |false =>
     obtain⟨o,O,k1,k2,k3⟩:=hw.Cq _ _ Jq hh;rw[hu] at k1;cases k1;cases k3
   have Xy:∀g w,g.frame.fn=f->¬Qa g w:=λg w e hq=>hQl g w f hq s2 ⟨x,y,fn,r,o1,o2,s,DZ,hp,Ua,hf',KU⟩ e;obtain⟨q,fr,hq,hc,hz,_⟩:=IQ hp s3 hE hQ Xy (GU _ hw) hrun;have hCS:XB≠[]:=ly hcs;have ady:YS≠[]:=by cases hcs<;>simp
   refine((Ua a q k XB w1 s3 hCS hq hc hz).bind λgB WB hB=>?_);obtain⟨hs2,FR,rfl,t1,t2,t3,t4,t5⟩:=hB
   refine Br.step ⟨by show BB FR.fn=true;rw[t1];exact hb f s0,λo ho=>by
    have LP:FR.oper?=some o:=ho
    rw[t5] at LP;cases LP⟩ λτ n=>?_
   have Vh:Bg (SP AZ H) (CK P.a AZ false) G β (on w1 τ n) (on w1 τ n):=hw.same rfl rfl rfl;obtain⟨q',fr,hq',hc',hz',r1,r2,r3,r4,Ub⟩:=IQ hp s3 hE hQ Xy (GU _ Vh) (hrun.same hE hQ zC);have eq:q'=q:=by rw[hq] at hq';cases hq';rfl
   subst eq;have hv:Aw (SP AZ H) β (.pointer (some q')) (.pointer (some q')):=s4.at_ 0 _ _ hq hq;have hw2:Bg (SP AZ H) (CK P.a AZ false) G β ((on w1 τ n).setCell q' (.int .i32 y)) ((on w1 τ n).setCell q' (.int .i32 y)):=rV Vh hi.2 hc' (.int _ _);have YT:AG P.a (Self P.a AZ H G) Qa (Bx fr YS) ((on w1 τ n).setCell q' (.int .i32 y)):=(hrun.same hE hQ zC).descend (C:=λg=>∀w,¬Qa g w) hE hQ (λg w c=>c w) ⟨rfl,rfl,rfl⟩ Ub
   have eWB:on WB τ n=(on w1 τ n).setCell q' (.int .i32 y):=by rw[hs2.eq];rfl
   rw[eWB];cases YT with
   |fin h=>exact absurd h (Xy _ _ r1)
   |next ng2 nw2 _ h2b _ =>
    obtain⟨⟨es,e⟩,hn⟩:=h2b τ n;have adz:on ((on w1 τ n).setCell q' (.int .i32 y)) τ n=(on w1 τ n).setCell q' (.int .i32 y):=rfl;rw[adz] at e;have ea:=lN (main:=true) (cs:=YS) (w:=(on w1 τ n).setCell q' (.int .i32 y)) r3 r4 (by rw[r1];exact hp.func) hp.res;have eb:=lN (p:=P.b) (main:=true) (cs:=XB) (w:=(on w1 τ n).setCell q' (.int .i32 y)) t3 t4 (by rw[t1];exact hf') KU;have:=eE (P:=P) (BB:=BC) (main:=true) (main2:=true) (fr:=fr) (FR:=FR) (r2.trans t2.symm) (by rw[r2];exact s3) hcs ady (v:=.tuple #[]) (V:=.tuple #[]) (.tuple rfl (by simp)) (Fin.refl hw2) #[]
    rw[<-ea,e,<-show GStep.after #[] (doReturn P.b true FR XB none (.tuple #[]) ((on w1 τ n).setCell q' (.int .i32 y)))=GStep.after ([]:List Event).toArray (doReturn P.b true FR XB none (.tuple #[]) ((on w1 τ n).setCell q' (.int .i32 y))) from rfl,<-eb] at this;rcases this with⟨h0,_⟩|⟨Ax,Gb,W',ES,k1,k2,k3⟩
    .exact absurd h0 hn
    obtain⟨i1,i2⟩:=k3.same hi rfl;have hr:Br P.b BB (GV P AZ BC H G (c::cs) Qa) 0 Gb (nw2 τ n):=by
     have NI:Walk P.a (λg=>∀w,¬Qa g w) (Bx fr YS) ((on w1 τ n).setCell q' (.int .i32 y)) (ng2 τ n) (nw2 τ n):=.step (λw=>Xy _ w r1) e .refl;have rel:=k3.rel.same rfl i2 rfl;rcases Ub.split with⟨e0,_⟩|⟨ga,wa,esa,_,e1,rest⟩
     .exfalso;have:=congrArg (λg:Goroutine=>g.frame.mode) e0;rw[show(Bx fr YS).frame.mode=.returning from r3] at this;cases this
     .obtain⟨⟨T2,e1'⟩,_⟩:=MQ τ n;rw[e1] at e1';cases e1';exact ih' τ n ⟨rfl,rfl,rfl⟩ (rest.trans NI) i1 k2 rel
    refine⟨Gb,W',ES,k1,ly k2.callers,hr.same GV.same ⟨i2.symm,?_,?_⟩⟩
    .rw[k3.OS,k3.os]
    .rw[k3.OUT,k3.out]
end
section
variable {P:Ba} {AZ BC BB:FuncId->Bool} {H:Hid} {G:Nat} {Q:Goroutine->World->Prop}
structure Fx (P:Ba)(AZ BC BB:FuncId->Bool)(H:Hid)(G:Nat):Prop where
 la:Lib (Ba.of P.a) AZ H false AZ G
 lc:Lib P AZ H false BC G
 ref:lO P AZ BC BB
 sub:∀f,AZ f=true->BB f=true
 nb:H.bl=false
def rW {K0:Nat->Prop}{w:World}{Ck:Code->Prop}(BU:∀b,K0 b->G<=b)(hroom:G<=w.heap.size)(Hg:∀b,K0 b->H b=true->H.BA=true/\w.heap[b]?=some (.coro none))(hold:∀b,H b=true->b<w.heap.size)
  (CU:∀b,K0 b->H b=false->∃o,w.heap[b]?=some o/\Bw (SP AZ H) Ck (Bn K0) o o):Bg (SP AZ H) Ck G (Bn K0) w w:=by
 refine⟨⟨λh1 h2=>h1.2.symm.trans h2.2,λh1 h2=>h1.2.trans h2.2.symm,λ{b B} h=>⟨BU b h.1,h.2▸BU b h.1⟩⟩,⟨hroom,hroom⟩,λb B hb hh=>?_,λb B hb hh=>?_,hold,rfl⟩
 .obtain⟨hb,rfl⟩:=hb;obtain⟨o,h1,h2⟩:=CU b hb hh;exact⟨o,o,h1,h1,h2⟩
 .obtain⟨hb,rfl⟩:=hb;obtain⟨h1,h2⟩:=Hg b hb hh;exact⟨h2,(λh=>absurd (h1.symm.trans h) (by decide)),λ_=>h2⟩
def Fx.run (B:Fx P AZ BC BB H G){Qa:Goroutine->World->Prop}(hQ:∀g w W,AR w W->Qa g w->Qa g W)(hQl:∀g w f,Qa g w->BC f=false->KS P BB f->g.frame.fn≠f){fr:Frame}{C:Frame}{cs:List Frame}{K0:Nat->Prop}{w:World}{F:Frame}(ha:C5 (Ba.of P.a) AZ H false AZ (Bn K0) fr fr)(hc:C5 P AZ H false BC (Bn K0) fr F)
  (BU:∀b,K0 b->G<=b) (hroom:G<=w.heap.size) (Hg:∀b,K0 b->H b=true->H.BA=true/\w.heap[b]?=some (.coro none)) (hold:∀b,H b=true->b<w.heap.size) (CU:∀b,K0 b->H b=false->∃o,w.heap[b]?=some o/\Bw (SP AZ H) (CK P.a AZ false) (Bn K0) o o)
  (h:Self P.a AZ H G (Bx fr [bad]) w->AG P.a (Self P.a AZ H G) Qa (Bx fr [bad]) w) :
  Br P.b BB (GV P AZ BC H G (C::cs) Qa) 0 (Bx F (C::cs)) w:=by
 have hi:Jo H (Bn K0):=⟨B.nb,λ_ _ h=>h.2⟩;have hw:=rW (Ck:=CK P.a AZ false) BU hroom Hg hold CU;have hs:Self P.a AZ H G (Bx fr [bad]) w:=⟨_,hi,⟨ha,.base,⟨rfl,rfl⟩,⟨rfl,rfl⟩,⟨rfl,rfl⟩⟩,hw⟩;exact(h hs).YR B.lc B.ref B.sub hQ hQl (λ_ _ _ s h=>h.same s) ⟨rfl,rfl,rfl⟩ .refl hi ⟨hc,.base,⟨rfl,rfl⟩,⟨rfl,rfl⟩,⟨rfl,rfl⟩⟩ hw
def Fx.fn (B:Fx P AZ BC BB H G){f:FuncId}(hf:AZ f=true)(Sd:BC f=true){K0:Nat->Prop}{w:World}{args:Array Value}{C:Frame}{cs:List Frame}(hne:cs≠[])
  (BU:∀b,K0 b->G<=b) (hroom:G<=w.heap.size) (C8:AA (SP AZ H) (Bn K0) args args)
  (Hg:∀b,K0 b->H b=true->H.BA=true/\w.heap[b]?=some (.coro none)) (hold:∀b,H b=true->b<w.heap.size) (CU:∀b,K0 b->H b=false->∃o,w.heap[b]?=some o/\Bw (SP AZ H) (CK P.a AZ false) (Bn K0) o o)
  (hQ:∀g w W,AR w W->Q g w->Q g W) {R:Value->World->Prop}
  (hc:∀τ d,Calls P.a f args (on w τ d) (λe w'=>∃v,e=.returned v/\R v w'))
  (h:∀v w',R v w'->Br P.b BB Q 0 (Bx (C.finish v) cs) w') :
  Br P.b BB Q 0 (Bx (Frame.enter P.b f args .normal) (C::cs)) w:=by
 have h1:=B.run (Qa:=Left P.a f R) Left.same (λg w f' hl hf' _ e=>by
  obtain⟨_,_,fr,_,_,rfl,e2,_⟩:=hl;have e3:fr.fn=f':=e;rw[e2] at e3;rw[<-e3,Sd] at hf'
  cases hf') (C:=C) (cs:=cs) (BK B.la (.inl hf) C8 .normal (by decide)) (BK B.lc (.inl hf) C8 .normal (by decide)) BU hroom Hg hold CU λhs=>EO B.la hs hc
 refine h1.bind λg2 w' hq=>?_;obtain⟨g',w0,Ax,q1,q2,q3,q4,q5⟩:=hq;have T9:=q1;obtain⟨wl,vl,fr,l1,l2,l3,l4,l5⟩:=T9;have OB:BB g'.frame.fn=true:=B.sub _ (by rw[l3];show AZ fr.fn=true;rw[l4];exact hf);have DW:=q4.top.FL (by rw[l3];show BC fr.fn=true;rw[l4];exact Sd);have eF:g'.frame=g2.frame:=AQ.id (P:=Ba.of P.a) q3 DW;refine Br.step ⟨by rw[<-eF];exact OB,λo ho=>?_⟩ λτ d=>?_
 .rw[<-eF] at ho;exact cz DW (λf h=>(B.lc.nm f h).2) (λ_=>rfl) o ho
 .have hw':Bg (SP AZ H) (CK P.a AZ false) G Ax w0 (on w' τ d):=q5.same rfl q2.1 (by rw[show(on w' τ d).os=w'.os from rfl,q2.2.1]);obtain⟨v,wa,wb,V,W',ES,BS,e1,e2,e3,e4,e5,e6⟩:=leave (P:=P) B.lc (main2:=true) q1 Sd q4 hw';obtain⟨i1,i2⟩:=e6.same q3 q2.1.symm;have eV:=e5.id i1;subst eV;refine⟨_,W',ES,e4,hne,(h v wa e2).same hQ ⟨?_,?_,?_⟩⟩
  .rw[<-i2,e3.1,<-e1.1]
  .rw[e6.OS,show(on w' τ d).os=w'.os from rfl,q2.2.1,e1.2.1]
  .rw[e6.OUT,show(on w' τ d).output=w'.output from rfl,q2.2.2,e1.2.2]
def Fx.fnK (B:Fx P AZ BC BB H G){f:FuncId}(hf:AZ f=true)(Sd:BC f=true){K0:Nat->Prop}{w:World}{args:Array Value}{C:Frame}{cs:List Frame}(hne:cs≠[])
  (BU:∀b,K0 b->G<=b) (hroom:G<=w.heap.size) (C8:AA (SP AZ H) (Bn K0) args args)
  (Hg:∀b,K0 b->H b=true->H.BA=true/\w.heap[b]?=some (.coro none)) (hold:∀b,H b=true->b<w.heap.size) (CU:∀b,K0 b->H b=false->∃o,w.heap[b]?=some o/\Bw (SP AZ H) (CK P.a AZ false) (Bn K0) o o)
  (hQ:∀g w W,AR w W->Q g w->Q g W) {R:Value->World->Prop}
  (hc:∀τ d,Calls P.a f args (on w τ d) (λe w'=>∃v,e=.returned v/\R v w'))
  (h:∀v w' (K':Nat->Prop),R v w'->Aw (SP AZ H) (Bn K') v v->(∀b,K' b->G<=b)->(∀b,K' b->H b=false->∃o,w'.heap[b]?=some o/\Bw (SP AZ H) (CK P.a AZ false) (Bn K') o o)->Br P.b BB Q 0 (Bx (C.finish v) cs) w') :
  Br P.b BB Q 0 (Bx (Frame.enter P.b f args .normal) (C::cs)) w:=by
 have h1:=B.run (Qa:=Left P.a f R) Left.same (λg w f' hl hf' _ e=>by
  obtain⟨_,_,fr,_,_,rfl,e2,_⟩:=hl;have e3:fr.fn=f':=e;rw[e2] at e3;rw[<-e3,Sd] at hf'
  cases hf') (C:=C) (cs:=cs) (BK B.la (.inl hf) C8 .normal (by decide)) (BK B.lc (.inl hf) C8 .normal (by decide)) BU hroom Hg hold CU λhs=>EO B.la hs hc
 refine h1.bind λg2 w' hq=>?_;obtain⟨g',w0,Ax,q1,q2,q3,q4,q5⟩:=hq;have T9:=q1;obtain⟨wl,vl,fr,l1,l2,l3,l4,l5⟩:=T9;have OB:BB g'.frame.fn=true:=B.sub _ (by rw[l3];show AZ fr.fn=true;rw[l4];exact hf);have DW:=q4.top.FL (by rw[l3];show BC fr.fn=true;rw[l4];exact Sd);have eF:g'.frame=g2.frame:=AQ.id (P:=Ba.of P.a) q3 DW;refine Br.step ⟨by rw[<-eF];exact OB,λo ho=>?_⟩ λτ d=>?_
 .rw[<-eF] at ho;exact cz DW (λf h=>(B.lc.nm f h).2) (λ_=>rfl) o ho
 .have hw':Bg (SP AZ H) (CK P.a AZ false) G Ax w0 (on w' τ d):=q5.same rfl q2.1 (by rw[show(on w' τ d).os=w'.os from rfl,q2.2.1]);obtain⟨v,wa,wb,V,W',ES,BS,e1,e2,e3,e4,e5,e6⟩:=leave (P:=P) B.lc (main2:=true) q1 Sd q4 hw';obtain⟨i1,i2⟩:=e6.same q3 q2.1.symm;have eV:=e5.id i1;subst eV;have Bp:BS.le (Bn λb=>BS b b):=λb B hb=>by
   have:=i1.2 _ _ hb;subst this;exact⟨hb,rfl⟩
  have adA:∀b,BS b b->H b=false->∃o,wa.heap[b]?=some o/\Bw (SP AZ H) (CK P.a AZ false) (Bn λb=>BS b b) o o:=λb hb hh=>by
   obtain⟨o,O,k1,k2,k3⟩:=e6.rel.Cq b b hb hh;have eo:O=o:=by
    rw[<-i2,k1] at k2;exact(Option.some.inj k2).symm
   subst eo;exact⟨O,by rw[e1.1,<-e3.1];exact k1,k3.mono Bp⟩
  refine⟨_,W',ES,e4,hne,(h v wa (λb=>BS b b) e2 (e5.mono Bp) (λb hb=>(e6.rel.B6.lo hb).1) adA).same hQ ⟨?_,?_,?_⟩⟩
  .rw[<-i2,e3.1,<-e1.1]
  .rw[e6.OS,show(on w' τ d).os=w'.os from rfl,q2.2.1,e1.2.1]
  .rw[e6.OUT,show(on w' τ d).output=w'.output from rfl,q2.2.2,e1.2.2]
def Fx.seg (B:Fx P AZ BC BB H G){b:Frame}{a:Act}{c:Code}{k:List Item}{C:Frame}{cs:List Frame}{K0:Nat->Prop}{w:World}
  (Iq:AQ P.a AZ H false (Bn K0) (b.at a (.code c::k)) (b.at a (.code c::k)))
  (BU:∀b,K0 b->G<=b) (hroom:G<=w.heap.size) (Hg:∀b,K0 b->H b=true->H.BA=true/\w.heap[b]?=some (.coro none)) (hold:∀b,H b=true->b<w.heap.size) (CU:∀b,K0 b->H b=false->∃o,w.heap[b]?=some o/\Bw (SP AZ H) (CK P.a AZ false) (Bn K0) o o)
  (hk:∀s,k≠[.code (.refuse s)]) (D6:∀f x y fn r o1 o2 s,KR P.a f x y fn r o1 o2 s->∀c,fn.body=some c->k≠[.code c]) (hbl:BC b.fn=true\/∃fn s,P.a.funcs[b.fn]?=some fn/\fn.body=some (.refuse s)) (hQ:∀g w W,AR w W->Q g w->Q g W) {N:Exit->Act->World->Prop}
  (hc:∀τ d,c.wp P.a (λe a' w'=>(e=.normal\/e=.ret)/\N e a' w') a (on w τ d))
  (h1:∀a' w',N .normal a' w'->Br P.b BB Q 0 (Bx (b.at a' k) (C::cs)) w')
  (h2:∀a' w' todo,N .ret a' w'->(∀o,({ b.at a' todo with mode:=.returning }:Frame).oper?=some o->aJ P.b o.op=true)->Br P.b BB Q 0 (Bx { b.at a' todo with mode:=.returning } (C::cs)) w') :
  Br P.b BB Q 0 (Bx (b.at a (.code c::k)) (C::cs)) w:=by
 have h0:=B.run (Qa:=Fi b k [bad] N) Fi.same (λg w f' hl hf' hlk e=>by
  obtain⟨a',w0,_,h⟩:=hl;have e3:b.fn=f':=by rcases h with⟨_,rfl⟩|⟨_,_,rfl⟩<;>exact e
  rcases hbl with h|⟨fn,s,r1,r2⟩
  .rw[e3,hf'] at h;cases h
  .obtain⟨x,y,fn2,r,o1,o2,s2,fn3,hp,_⟩:=hlk;have:=hp.func;rw[<-e3,r1] at this;cases this;have:=hp.text;rw[r2] at this
   cases this) (C:=C) (cs:=cs) (.on Iq) (.on Iq) BU hroom Hg hold CU λhs=>Mf (N:=N) B.la (by simp) hs hc
 refine h0.bind λg2 w' hq=>?_;obtain⟨g',w0,Ax,q1,q2,q3,q4,q5⟩:=hq;have T6:∀g2:Goroutine,g'.callers=[bad]->CI P AZ H false BC (C::cs) Ax g' g2->g2.callers=C::cs:=by
  intro g2 e1 e2;have:=e2.callers;rw[e1] at this;generalize g2.callers=X at this;cases this with
  |base=>rfl
  |cons _ h=>exact absurd rfl h.ne
 have DW:AQ P.a AZ H false Ax g'.frame g2.frame:=by
  have B9:=q4.top;obtain⟨a',wl,l1,l2⟩:=q1;generalize hf:g'.frame=fr at B9 ⊢;generalize g2.frame=FR at B9 ⊢;cases B9 with
  |on h=>exact h
  |@stop f A A' kd s1 s2 s3 s4 =>
   exfalso;rcases B.ref f s1 s2 with⟨fn,s,r1,r2⟩|⟨x,y,fn,r,o1,o2,s,fn3,hp,_⟩
   rotate_left
   .rcases l2 with⟨_,rfl⟩|⟨_,todo,rfl⟩
    .have e : k = [.code (.seq (.region r #[o1, o2] false) (.cond (.tmp 1) .ret (.refuse s)))] := by
      have:=congrArg Frame.todo hf;simpa [Go.AW.Bx,Frame.enter,hp.func,hp.text,Frame.at] using this
     exact D6 f x y fn r o1 o2 s hp _ hp.text e
    .have:=congrArg Frame.mode hf;simp[Go.AW.Bx,Frame.enter] at this
   rcases l2 with⟨_,rfl⟩|⟨_,todo,rfl⟩
   .have : k = [.code (.refuse s)] := by
     have:=congrArg Frame.todo hf;simpa [Go.AW.Bx,Frame.enter,r1,r2,Frame.at] using this
    exact hk s this
   .have:=congrArg Frame.mode hf;simp[Go.AW.Bx,Frame.enter] at this
 have eF:g'.frame=g2.frame:=AQ.id (P:=Ba.of P.a) q3 DW;have eG:=q4.Bx;have e2:g2=Bx g2.frame g2.callers:=by
  obtain⟨x1,x2,x3,x4,x5⟩:=g2;obtain⟨_,_,⟨_,s1⟩,⟨_,d1⟩,⟨_,o1⟩⟩:=q4;dsimp only at *;subst s1 d1 o1
  rfl
 obtain⟨a',wl,l1,l2⟩:=q1;rcases l2 with⟨l3,l4⟩|⟨l3,todo,l4⟩
 .have:=T6 g2 (by rw[l4];rfl) q4;rw[e2,this,<-eF,l4];exact(h1 a' wl l3).same hQ (l1.trans q2)
 .have:=T6 g2 (by rw[l4];rfl) q4;have hpl:∀o,g'.frame.oper?=some o->aJ P.b o.op=true:=λo ho=>cz DW (λf h=>(B.lc.nm f h).2) (λ_=>rfl) o ho;rw[l4] at hpl;rw[e2,this,<-eF,l4];exact(h2 a' wl todo l3 hpl).same hQ (l1.trans q2)
end
section
variable {P:Ba} {S:Cb} {Ck:Code->Prop} {G:Nat} {β:AO}
def qh {α Ej:Type}{m:Sem α}{M:Sem Ej}{R:AO->α->Ej->Prop}(h:∀w W,Bg S Ck G β w W->∀es,∃s w' es',m.runT P.a w es=(.halt (.stuck s) w',es')):AE P S Ck G β m M R:=by
 intro w W n hw ht BV B5 _;obtain⟨s,w',es',e⟩:=h w W hw BV;rw[e];trivial
def oR (f:FuncId):AE P S Ck G β (mark (.extern f)) (mark (.extern f)) (λ_ _ _=>True):=by
 intro w W n hw ht BV B5 _;have e1:(mark (.extern f)).runT P.a w BV=(.ok () w,BV.push ⟨.mark (.extern f),false,true⟩):=rfl;have e2:(mark (.extern f)).runT P.b W B5=(.ok () W,B5.push ⟨.mark (.extern f),false,true⟩):=rfl;rw[e1,e2];exact⟨β,(),W,[⟨.mark (.extern f),false,true⟩],by simp,trivial,{ Fin.refl hw with evs:=λ_ E hE=>by cases yG.1 hE;exact .mark (.extern f) }⟩
def kF (k:IntKind){a A:Addr}(h:BF β a A):AE P S Ck G β (Extern.Atomic.read (.int k) a) (Extern.Atomic.read (.int k) A) (λAx v V=>Aw S Ax v V):=by
 unfold Extern.Atomic.read;refine Ar (ix h .atomic) ?_;intro B7 v V _ hv;cases hv with
 |int k' n =>
  split
  .rename_i k2 k3 _ e1 e2;cases e1;cases e2;split
   .exact Au (.int _ _)
   .exact AB (by intro g e;cases e)
  all_goals simp_all
 |ptr o s hb =>
  cases k<;>first|exact Au (.ptr o s hb)|exact AB (by intro g e;cases e)
 |_=>cases k<;>exact AB (by intro g e;cases e)
def oS {k:IntKind}(hk:k≠.u64){a A:Addr}(h:BF β a A):AE P S Ck G β (Extern.Atomic.read (.int k) a) (Extern.Atomic.read (.int k) A) (λ_ v V=>∃n,v=.int k n/\V=.int k n):=by
 unfold Extern.Atomic.read;refine Ar (ix h .atomic) ?_;intro B7 v V _ hv;cases hv with
 |int k' n =>
  split
  .rename_i k2 k3 _ e1 e2;cases e1;cases e2;split
   .rename_i e;subst e;exact Au ⟨n,rfl,rfl⟩
   .exact AB (by intro g e;cases e)
  all_goals simp_all
 |ptr o s hb =>
  cases k<;>first|exact absurd rfl hk|exact AB (by intro g e;cases e)
 |_=>cases k<;>exact AB (by intro g e;cases e)
def qi (k:IntKind){x X:Array Value}(h:AA S β x X):AE P S Ck G β (Extern.Atomic.loadT (.int k) x) (Extern.Atomic.loadT (.int k) X) (λAx v V=>Aw S Ax v V):=by
 have hl:=h.toList;obtain⟨l⟩:=x;obtain⟨L⟩:=X;simp only at hl;cases hl with
 |nil=>exact Az
 |cons ha hr =>
  cases hr with
  |cons _ _=>exact Az
  |nil =>
   refine Ar (dM ha) ?_;intro B7 a A _ hA;exact kF k hA
def rX (k:IntKind){x X:Array Value}(h:AA S β x X):AE P S Ck G β (Extern.Atomic.update (Op.intArith .add) k true x) (Extern.Atomic.update (Op.intArith .add) k true X) (λAx v V=>Aw S Ax v V):=by
 have hl:=h.toList;obtain⟨l⟩:=x;obtain⟨L⟩:=X;simp only at hl;cases hl with
 |nil=>exact Az
 |cons ha hr =>
  cases hr with
  |nil=>exact Az
  |cons hb hr =>
   cases hr with
   |cons _ _=>exact Az
   |nil =>
    refine Ar (dM ha) ?_;intro B7 a A OC hA;refine Ar (kF k hA) ?_;intro BS v V Pe hv;refine Ar (et hv) ?_;rintro CQ n _ SR rfl;refine Ar (et ((((hb.mono OC).mono Pe)).mono SR)) ?_;rintro ID m _ Uc rfl;refine Ar (R:=λAx a A=>Aw S Ax a A) (Au (.int _ _)) ?_;intro JA z Z le5 hz;refine Ar (iZ ((((hA.mono Pe).mono SR).mono Uc).mono le5) .atomic hz) ?_;intro SL _ _ le6 _
    exact Au (hz.mono le6)
def qj {a A:Addr}(h:BF β a A)(hh:S.hid a.block=false):AE P S Ck G β (Go.frozen a) (Go.frozen A) (λ_ x X=>x=false->X=false):=by
 intro w W n hw ht BV B5 _;have e1:(Go.frozen a).runT P.a w BV=(.ok (w.frozen? a) w,BV):=rfl;have e2:(Go.frozen A).runT P.b W B5=(.ok (W.frozen? A) W,B5):=rfl;rw[e1,e2];refine⟨β,W.frozen? A,W,[],by simp,λhz=>?_,Fin.refl hw⟩;obtain⟨o,O,h1,h2,h3⟩:=hw.Cq _ _ h.block hh;rw[aZ,h1] at hz;rw[aZ,h2];cases h3 with
 |cells ha hf =>
  simp only[yq,Option.getD_some,YB] at hz ⊢;rw[<-h.off];refine Bool.eq_false_iff.2 λhc=>?_;simp only[xC,decide_eq_true_eq,Bool.decide_and] at hc;obtain⟨p,q⟩:=hf _ hc.1 hc.2;simp[p,q] at hz
 |_=>rfl
def rY {w W:World}(hw:Bg S Ck G β w W){a A:Addr}(h:BF β a A)(hh:S.hid a.block=true):w.cell? a=none:=by
 unfold World.cell?;rw[(hw.CG _ _ h.block hh).1]
def rZ {a A:Addr}(h:BF β a A)(hh:S.hid a.block=false):AE P S Ck G β (Extern.Atomic.touchesFrozen a) (Extern.Atomic.touchesFrozen A) (λ_ x X=>x=false->X=false):=by
 unfold Extern.Atomic.touchesFrozen;refine Ar (gF h.block) ?_;rintro B7 _ _ hle ⟨rfl,rfl⟩;exact qj (h.mono hle) hh
def NJ {w W:World}(hw:Bg S Ck G β w W){a A:Addr}(h:BF β a A)(hh:S.hid a.block=true)(es:Array Event):∃es',(Extern.Atomic.touchesFrozen a).runT P.a w es=(.ok false w,es'):=by
 have e0:(shape a.block).runT P.a w es=(.ok none w,es):=by
  show(Result.ok (w.shape? a.block) w,es)=_;unfold World.shape?;rw[(hw.CG _ _ h.block hh).1]
 have e1:(viewAt a.block).runT P.a w es=(.ok none w,es.push ⟨.obj a.block,false,false⟩):=by
  unfold viewAt;rw[aj,e0];simp only[yW,xJ,if_false];rw[aj];have:(Go.getObj a.block).runT P.a w es=(.ok (.coro none) w,es.push ⟨.obj a.block,false,false⟩):=by
   simp only[Go.getObj,Sem.runT,(hw.CG _ _ h.block hh).1];rfl
  rw[this]
  rfl
 refine⟨es.push ⟨.obj a.block,false,false⟩,?_⟩;unfold Extern.Atomic.touchesFrozen;rw[aj,e1];show(Result.ok (w.frozen? a) w,_)=_;rw[aZ,(hw.CG _ _ h.block hh).1]
 rfl
def r6 {k:IntKind}(hk:k≠.u64){x X:Array Value}(h:AA S β x X):AE P S Ck G β (Extern.Atomic.casT (.int k) x) (Extern.Atomic.casT (.int k) X) (λAx v V=>Aw S Ax v V):=by
 have hl:=h.toList;obtain⟨l⟩:=x;obtain⟨L⟩:=X;simp only at hl;cases hl with
 |nil=>exact Az
 |cons ha hr =>
  cases hr with
  |nil=>exact Az
  |cons hb hr =>
   cases hr with
   |nil=>exact Az
   |cons hc hr =>
    cases hr with
    |cons _ _=>exact Az
    |nil =>
     refine Ar (dM ha) ?_;intro B7 a A OC hA;cases hh:S.hid a.block with
     |true =>
      refine qh λw W hw es=>?_;obtain⟨T2,e1⟩:=NJ (P:=P) hw hA hh es;obtain⟨s,hs⟩:=(MP (P:=P) hw hA).1 true;have e2:∀es,(Extern.Atomic.read (.int k) a).runT P.a w es=(.halt (.stuck s) w,es):=λes=>by
       unfold Extern.Atomic.read;rw[aj];have:(Go.load a .atomic).runT P.a w es=(.halt (.stuck s) w,es):=by
        simp only[Go.load,Sem.runT,rY hw hA hh];have:(Mode.atomic==Mode.atomic)=true:=rfl;rw[this,hs]
       rw[this]
      refine⟨s,w,T2,?_⟩;rw[aj,e1];simp only[xJ,if_false];rw[aj];have e3:(pure PUnit.unit:Sem PUnit).runT P.a w T2=(.ok PUnit.unit w,T2):=rfl
      first
       |(rw[e3];simp only;rw[aj,aj,e2])
       |(rw[aj,e2])
       |(rw[e2])
     |false =>
      refine Ar (rZ hA hh) ?_;intro BS z Z Pe hz;cases z with
      |true=>exact AB (by intro g e;cases e)
      |false =>
       rw[hz rfl];simp only[xJ,if_false];refine Ar (oS hk (hA.mono Pe)) ?_;rintro CQ v V SR ⟨n1,rfl,rfl⟩;have hA3:=(hA.mono Pe).mono SR;have hb3:=((hb.mono OC).mono Pe).mono SR;have hc3:=((hc.mono OC).mono Pe).mono SR;have fin:∀(ID:AO) (q:Bool),CQ.le ID->∀ {c C:Value},Aw S CQ c C->AE P S Ck G ID (do if q=true then do store a c .atomic;pure (Value.bool q) else pure (Value.bool q)) (do if q=true then do store A C .atomic;pure (Value.bool q) else pure (Value.bool q)) (λAx v V=>Aw S Ax v V):=by
        intro ID q Uc c C hcc;cases q with
        |false=>exact Au (.bool _)
        |true =>
         refine Ar (iZ (hA3.mono Uc) .atomic (hcc.mono Uc)) ?_;intro JA _ _ _ _;exact Au (.bool _)
       have eqs:∀(q:Bool),AE P S Ck G CQ (pure q:Sem Bool) (pure q:Sem Bool) (λ_ a A=>a=A):=λq=>Au rfl;cases hb3 with
       |int k2 n2 =>
        refine Ar (m:=pure (n1==n2)) (R:=λ_ a A=>a=A) (Au rfl) ?_;rintro ID q _ Uc rfl;exact fin ID q Uc hc3
       |ptr o s hb =>
        cases n1 with
        |ofNat m =>
         cases m with
         |zero =>
          refine Ar (m:=pure false) (R:=λ_ a A=>a=A) (Au rfl) ?_;rintro ID q _ Uc rfl;exact fin ID q Uc hc3
         |succ m=>exact Ar (R:=λ_ _ _=>False) (AB (u:=.addressObserved) (by intro g e;cases e)) (λ_ _ _ _ h=>h.elim)
        |negSucc m=>exact Ar (R:=λ_ _ _=>False) (AB (u:=.addressObserved) (by intro g e;cases e)) (λ_ _ _ _ h=>h.elim)
       |blank _ _ =>
        cases n1 with
        |ofNat m=>cases m<;>exact Df ((show Dead P (stuck "atomic.CompareAndSwap: old is no T":Sem Bool) from λw es=>.inl ⟨_,_,_,rfl⟩).bind _)
        |negSucc m=>exact Df ((show Dead P (stuck "atomic.CompareAndSwap: old is no T":Sem Bool) from λw es=>.inl ⟨_,_,_,rfl⟩).bind _)
       |_ =>
        cases n1 with
        |ofNat m=>cases m<;>exact Ar (R:=λ_ _ _=>False) (Az (s := "atomic.CompareAndSwap: old is no T")) (λ_ _ _ _ h=>h.elim)
        |negSucc m=>exact Ar (R:=λ_ _ _=>False) (Az (s := "atomic.CompareAndSwap: old is no T")) (λ_ _ _ _ h=>h.elim)
end
def GX (p:Program)(SB:FuncId->Bool)(lets:Bool)(f:FuncId):Bool:=match p.funcs[f]? with
 |some fn=>fn.name != "runtime.NumGoroutine"&&match fn.body with
  |some c=>codeOk p SB lets true c
  |none=>false
 |none=>false
def Cg {p:Program}{SB:FuncId->Bool}{lets:Bool}{f:FuncId}(this:GX p SB lets f=true):∃fn c,p.funcs[f]?=some fn/\fn.name ≠ "runtime.NumGoroutine"/\fn.body=some c/\codeOk p SB lets true c=true:=by
 unfold GX at this;cases hq:p.funcs[f]? with
 |none=>rw[hq] at this;cases this
 |some fn =>
  rw[hq] at this;cases hb:fn.body with
  |none=>simp[hb] at this
  |some c=>simp[hb] at this;exact⟨fn,c,rfl,this.1,hb,this.2⟩
def Fy (P:Ba)(f:FuncId):Prop:=∃fn DZ s,P.a.funcs[f]?=some fn/\P.fs[f]?=some DZ/\fn.name ≠ "runtime.NumGoroutine"/\DZ.name ≠ "runtime.NumGoroutine"/\fn.body=some (.refuse s)/\DZ.body.isSome=true
def dX {P:Ba}{S:Cb}{Ck:Code->Prop}{G:Nat}{β:AO}{f:FuncId}(h:Fy P f)(hf:S.fn f){a A:Array Value}(ha:AA S β a A):AE P S Ck G β (callFunc f a) (callFunc f A) (EN S Ck):=by
 obtain⟨fn,DZ,s,h1,h2,h3,h4,h5,h6⟩:=h;exact bS h1 h2 h3 h4 (by rw[h5];rfl) h6 hf ha
def Fy.bars {P:Ba}{f:FuncId}(h:Fy P f):∃fn s,P.a.funcs[f]?=some fn/\fn.body=some (.refuse s):=by
 obtain⟨fn,DZ,s,h1,h2,h3,h4,h5,h6⟩:=h;exact⟨fn,s,h1,h5⟩
def vc {p:Program}{SB:FuncId->Bool}{H:Hid}{Gn:Nat}(h:∀f,SB f=true->GX p SB false f=true)(Ps:∀f,aM SB f=true->Fy (Ba.of p) f)(hg:p.globals.size<=Gn/\p.info? big=none):Lib (Ba.of p) SB H false SB Gn:=by
 refine⟨⟨hg.2,λf hf β a A ha=>?_⟩,λf hf=>?_,λf hf=>?_,hg.1,λf hf=>?_,λ_ h=>h,λf hf=>(Ps f hf).bars⟩
 .have F8:=hf;rcases hf with hf|hf
  .obtain⟨fn,c,h1,h2,h3,_⟩:=Cg (h f hf);exact bS (P:=Ba.of p) h1 h1 h2 h2 (by rw[h3];rfl) (by rw[h3];rfl) F8 ha
  .exact dX (Ps f hf) F8 ha
 .obtain⟨fn,c,h1,_,h3,h4⟩:=Cg (h f hf);exact⟨fn,c,h1,by rw[h3];rfl,h4,h1⟩
 .obtain⟨fn,c,h1,_,_,_⟩:=Cg (h f hf);exact⟨fn,fn,h1,h1,rfl⟩
 .obtain⟨fn,c,h1,_,h3,_⟩:=Cg (h f hf);have:=aU h1 (by rw[h3];rfl);exact⟨this,this⟩
def tL {P:Ba}{SB BB:FuncId->Bool}{H:Hid}{lets:Bool}{Gn:Nat}(h:∀f,BB f=true->GX P.a SB lets f=true)(same:∀f,BB f=true->P.fs[f]?=P.a.funcs[f]?)
  (stops:∀f,SB f=true->BB f=false->∃fn DZ,P.a.funcs[f]?=some fn/\P.fs[f]?=some DZ/\fn.results=DZ.results/\fn.name ≠ "runtime.NumGoroutine"/\DZ.name ≠ "runtime.NumGoroutine"/\fn.body.isSome=true/\DZ.body.isSome=true)
  (sub:∀f,BB f=true->SB f=true) (Ps:∀f,aM SB f=true->Fy P f) (hg:P.a.globals.size<=Gn/\P.a.info? big=none):Lib P SB H lets BB Gn:=by
 refine⟨⟨hg.2,λf hf β a A ha=>?_⟩,λf hf=>?_,λf hf=>?_,hg.1,λf hf=>?_,sub,λf hf=>(Ps f hf).bars⟩
 .have F8:=hf;rcases hf with hf|hf
  rotate_left
  .exact dX (Ps f hf) F8 ha
  cases hb:BB f with
  |true =>
   obtain⟨fn,c,h1,h2,h3,_⟩:=Cg (h f hb);exact bS h1 ((same f hb).trans h1) h2 h2 (by rw[h3];rfl) (by rw[h3];rfl) F8 ha
  |false =>
   obtain⟨fn,DZ,h1,h2,_,h3,h4,h5,h6⟩:=stops f hf hb;exact bS h1 h2 h3 h4 h5 h6 F8 ha
 .obtain⟨fn,c,h1,_,h3,h4⟩:=Cg (h f hf);exact⟨fn,c,h1,by rw[h3];rfl,h4,(same f hf).trans h1⟩
 .cases hb:BB f with
  |true =>
   obtain⟨fn,c,h1,_,_,_⟩:=Cg (h f hb);exact⟨fn,fn,h1,(same f hb).trans h1,rfl⟩
  |false =>
   obtain⟨fn,DZ,h1,h2,h3,_⟩:=stops f hf hb;exact⟨fn,DZ,h1,h2,h3⟩
 .cases hb:BB f with
  |true =>
   obtain⟨fn,c,h1,_,h3,_⟩:=Cg (h f hb);exact⟨aU h1 (by rw[h3];rfl),aU (p:=P.b) ((same f hb).trans h1) (by rw[h3];rfl)⟩
  |false =>
   obtain⟨fn,DZ,h1,h2,_,_,_,h5,h6⟩:=stops f hf hb;exact⟨aU h1 h5,aU (p:=P.b) h2 h6⟩
inductive IU:(Array Value->Sem Value)->Prop
 |load (k:IntKind):IU (Extern.Atomic.loadT (.int k))
 |add (k:IntKind):IU (Extern.Atomic.update (Op.intArith .add) k true)
 |Gx (k:IntKind):k≠.u64->IU (Extern.Atomic.casT (.int k))
section
variable {P:Ba} {S:Cb} {Ck:Code->Prop} {G:Nat} {β:AO}
def qk {e:Array Value->Sem Value}(h:IU e){a A:Array Value}(ha:AA S β a A):AE P S Ck G β (e a) (e A) (λAx v V=>Aw S Ax v V):=by
 cases h with
 |load k=>exact qi k ha
 |add k=>exact rX k ha
 |Gx k hk=>exact r6 hk ha
def KV (P:Ba)(f:FuncId):Prop:=∃fn e,P.a.funcs[f]?=some fn/\P.fs[f]?=some fn/\(fn.name == "runtime.NumGoroutine")=false/\fn.body.isNone=true/\Extern.findNext fn=none/\Extern.find fn=some e/\IU e/\i7 fn.name=false
def jw {f:FuncId}(h:KV P f){a A:Array Value}(ha:AA S β a A):AE P S Ck G β (callFunc f a) (callFunc f A) (EN S Ck):=by
 obtain⟨fn,e,h1,h2,h3,h4,h5,h6,h7,_⟩:=h;refine Ar aQ ?_;rintro B7 p p' hle ⟨hp,YH⟩;subst p p';rw[h1,show P.b.funcs[f]?=some fn from h2];simp only[h3,h4,h5,h6,xJ,if_false,if_true];refine Ar (oR f) ?_;intro BS _ _ Pe _;refine Ar (qk h7 ((ha.mono hle).mono Pe)) ?_;intro CQ v V _ hv;exact Au (.value hv)
def nJ {p:Program}{SB:FuncId->Bool}{H:Hid}{Gn:Nat}(h:∀f,SB f=true->GX p SB false f=true\/KV (Ba.of p) f)(Ps:∀f,aM SB f=true->Fy (Ba.of p) f)(hg:p.globals.size<=Gn/\p.info? big=none):Lib (Ba.of p) SB H false SB Gn:=by
 refine⟨⟨hg.2,λf hf β a A ha=>?_⟩,λf hf=>?_,λf hf=>?_,hg.1,λf hf=>?_,λ_ h=>h,λf hf=>(Ps f hf).bars⟩
 .have F8:=hf;rcases hf with hf|hf
  rotate_left
  .exact dX (Ps f hf) F8 ha
  rcases h f hf with h0|h0
  .obtain⟨fn,c,h1,h2,h3,_⟩:=Cg h0;exact bS (P:=Ba.of p) h1 h1 h2 h2 (by rw[h3];rfl) (by rw[h3];rfl) F8 ha
  .exact jw h0 ha
 .rcases h f hf with h0|⟨fn,e,h1,h2,_,h4,_⟩
  .obtain⟨fn,c,h1,_,h3,h4⟩:=Cg h0;exact⟨fn,c,h1,by rw[h3];rfl,h4,h1⟩
  .refine⟨fn,_,h1,rfl,?_,h2⟩;have:fn.body=none:=by simpa using h4
   rw[this];rfl
 .rcases h f hf with h0|⟨fn,e,h1,h2,_⟩
  .obtain⟨fn,c,h1,_,_,_⟩:=Cg h0;exact⟨fn,fn,h1,h1,rfl⟩
  .exact⟨fn,fn,h1,h2,rfl⟩
 .rcases h f hf with h0|⟨fn,e,h1,h2,_,_,_,_,_,h8⟩
  .obtain⟨fn,c,h1,_,h3,_⟩:=Cg h0;have:=aU h1 (by rw[h3];rfl);exact⟨this,this⟩
  .exact⟨dJ h1 h8,dJ (p:=(Ba.of p).b) h2 h8⟩
def iz {P:Ba}{SB BB:FuncId->Bool}{H:Hid}{lets:Bool}{Gn:Nat}(h:∀f,BB f=true->(GX P.a SB lets f=true/\P.fs[f]?=P.a.funcs[f]?)\/KV P f)
  (stops:∀f,SB f=true->BB f=false->∃fn DZ,P.a.funcs[f]?=some fn/\P.fs[f]?=some DZ/\fn.results=DZ.results/\fn.name ≠ "runtime.NumGoroutine"/\DZ.name ≠ "runtime.NumGoroutine"/\fn.body.isSome=true/\DZ.body.isSome=true)
  (sub:∀f,BB f=true->SB f=true) (Ps:∀f,aM SB f=true->Fy P f) (hg:P.a.globals.size<=Gn/\P.a.info? big=none):Lib P SB H lets BB Gn:=by
 refine⟨⟨hg.2,λf hf β a A ha=>?_⟩,λf hf=>?_,λf hf=>?_,hg.1,λf hf=>?_,sub,λf hf=>(Ps f hf).bars⟩
 .have F8:=hf;rcases hf with hf|hf
  rotate_left
  .exact dX (Ps f hf) F8 ha
  cases hb:BB f with
  |true =>
   rcases h f hb with⟨h0,hs⟩|h0
   .obtain⟨fn,c,h1,h2,h3,_⟩:=Cg h0;exact bS h1 (hs.trans h1) h2 h2 (by rw[h3];rfl) (by rw[h3];rfl) F8 ha
   .exact jw h0 ha
  |false =>
   obtain⟨fn,DZ,h1,h2,_,h3,h4,h5,h6⟩:=stops f hf hb;exact bS h1 h2 h3 h4 h5 h6 F8 ha
 .rcases h f hf with⟨h0,hs⟩|⟨fn,e,h1,h2,_,h4,_⟩
  .obtain⟨fn,c,h1,_,h3,h4⟩:=Cg h0;exact⟨fn,c,h1,by rw[h3];rfl,h4,hs.trans h1⟩
  .refine⟨fn,_,h1,rfl,?_,h2⟩;have:fn.body=none:=by simpa using h4
   rw[this];rfl
 .cases hb:BB f with
  |true =>
   rcases h f hb with⟨h0,hs⟩|⟨fn,e,h1,h2,_⟩
   .obtain⟨fn,c,h1,_,_,_⟩:=Cg h0;exact⟨fn,fn,h1,hs.trans h1,rfl⟩
   .exact⟨fn,fn,h1,h2,rfl⟩
  |false =>
   obtain⟨fn,DZ,h1,h2,h3,_⟩:=stops f hf hb;exact⟨fn,DZ,h1,h2,h3⟩
 .cases hb:BB f with
  |true =>
   rcases h f hb with⟨h0,hs⟩|⟨fn,e,h1,h2,_,_,_,_,_,h8⟩
   .obtain⟨fn,c,h1,_,h3,_⟩:=Cg h0;exact⟨aU h1 (by rw[h3];rfl),aU (p:=P.b) (hs.trans h1) (by rw[h3];rfl)⟩
   .exact⟨dJ h1 h8,dJ (p:=P.b) h2 h8⟩
  |false =>
   obtain⟨fn,DZ,h1,h2,_,_,_,h5,h6⟩:=stops f hf hb;exact⟨aU h1 h5,aU (p:=P.b) h2 h6⟩
end
end Go.AW
namespace Go.Co
open Go.AW Go.Conc
def bJ (p:Program):List Item->Bool
 |.inRegion ops (i::_)::_=>match ops[i]? with
  |some o=>aJ p o.op
  |none=>true
 |_=>true
section
variable {p:Program} {BB:FuncId->Bool} {Q:Goroutine->World->Prop} {b:Frame} {a:Act} {todo:List Item} {cs:List Frame} {w:World}
def i8 (h:bJ p todo=true):∀o,(b.at a todo).oper?=some o->aJ p o.op=true:=by
 intro o ho;unfold Frame.oper? Frame.at at ho;dsimp only at ho
 match todo,h,ho with
 |.inRegion ops (i::rest)::k,h,ho =>
  simp only[bJ] at h;have LP:ops[i]?=some o:=ho;rw[LP] at h;exact h
 |[],_,ho=>cases ho
 |.inRegion ops []::k,_,ho=>cases ho
 |.code c::k,_,ho=>cases ho
 |.inBlock i::k,_,ho=>cases ho
 |.inLoop c::k,_,ho=>cases ho
 |.inScope c::k,_,ho=>cases ho
 |.inRangeFunc l::k,_,ho=>cases ho
 |.endRangeFunc l::k,_,ho=>cases ho
 |.beginRound::k,_,ho=>cases ho
 |.call _ _ _ _::k,_,ho=>cases ho
def AG.own (hQ:∀g w W,AR w W->Q g w->Q g W)(hf:BB b.fn=true)(hg:bJ p todo=true)(h:∀τ d,(stepG p true (G (b.at a todo) cs) (on w τ d)).goes (λg' w' _=>g'.callers≠[]/\∃W,AR W w'/\AG p (BO p BB) Q g' W)) :
  AG p (BO p BB) Q (G (b.at a todo) cs) w:=by
 refine AG.step ⟨hf,i8 hg⟩ λτ d=>?_;have:=h τ d;cases hs:stepG p true (G (b.at a todo) cs) (on w τ d) with
 |go g' w' es =>
  rw[hs] at this;obtain⟨h1,W,h2,h3⟩:=this;exact⟨g',w',es,rfl,h1,h3.same (λ_ _ _ _ x=>x) hQ h2⟩
 |_=>rw[hs] at this;exact this.elim
end
section
variable {P:Program} {main:Bool} {b:Frame} {a:Act} {k:List Item} {cs:List Frame} {w:World}
def aG {ops:Array Oper}{i:Nat}{rest:List Nat}{o:Oper}{K:Goroutine->World->Array Event->Prop}{f:FuncId}{fn:Func}{args:Array Operand}{ats:Array TypeId}
  (ho:ops[i]?=some o) (hw:Region.wanted o (yielded ops a.tmps)=true) (hk:b.kind≠.early) (hop:o.op=.call { callee:=.value (.func f),args,argTypes:=ats })
  (hf:P.funcs[f]?=some fn) (hname:(fn.name == "runtime.NumGoroutine")=false) (hb:fn.body.isNone=false)
  (h:K (G (Frame.enter P f (args.map a.eval) .normal) (b.at a (.inRegion ops (i::rest)::k)::cs)) w #[]) :
  (stepG P main (G (b.at a (.inRegion ops (i::rest)::k)) cs) w).goes K:=by
 rw[stepG_enter ho hw hk (run_call_body hop hf hname hb)];have:listed P b.fn a o w=#[]:=by unfold listed;rw[events_call_body hop hf hname hb];exact seen_none P _
 rw[this];exact h
end
end Go.Co
