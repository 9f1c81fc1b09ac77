/- Parts of the proof. -/
import Derived.Test.YtjcgijifamcggaaGreatP06
import Derived.Test.YtjcgijifamcggaaGreatP00
import GoSem.Extern.Atomic
import Derived.Conc.Walk
import Derived.Conc.Own4
set_option linter.all false
namespace Go.Bl
open Go.Conc
def Fatal:Halt->Prop
 |.stuck _=>True
 |.unsupported u=>∀g,u≠.initOrder g
 |_=>False
def El {α:Type}:Result α->Prop
 |.halt h _=>Fatal h
 |_=>False
section
variable {p:Program}
def Tc {c:FuncId} {fc:Func} (hf:p.funcs[c]?=some fc) (hname:(fc.name == "runtime.NumGoroutine")=false) (hb:fc.body.isNone=true) (hn:Extern.findNext fc=none) (he:Extern.find fc=some (Extern.Atomic.casT (.int .i32)))
  {a:Addr} {w:World} {x y:Int} (h1:∃s,w.farLoad p a true=.error (.stuck s)) (h2:∀t u,w.heap[a.block]?≠some (.view t u)) :
  (∃z,w.cell? a=some (.int .i32 z)/\w.frozen? a=false)\/El ((callFunc c #[.pointer (some a),.int .i32 x,.int .i32 y]).run p w):=by
 obtain⟨s,h1⟩:=h1;rw[run_callFunc_extern hf hname hb hn he]
 have e0:(Extern.Atomic.casT (.int .i32) #[.pointer (some a),.int .i32 x,.int .i32 y])=(do
  let a'<-asAddr (.pointer (some a))
  if<-Extern.Atomic.touchesFrozen a' then unsupported (.unsafePointer "a write to bytes that a string shares")
  let eq<-match Extern.Atomic.T.int .i32,<-Extern.Atomic.read (.int .i32) a',Value.int .i32 x with
   |_,.int _ x,.int _ y=>pure (x==y)
   |.ptr,.pointer x,.pointer y=>samePointer x y
   |.int _,.pointer (some _),.int _ 0|.int _,.int _ 0,.pointer (some _)=>pure false
   |.int _,.pointer (some _),_|.int _,_,.pointer (some _)=>unsupported .addressObserved
   |_,_,_=>stuck "atomic.CompareAndSwap: old is no T"
  if eq then store a' (.int .i32 y) .atomic
  pure (Value.bool eq)):=rfl
 rw[e0];by_cases hv:∃o,w.shape? a.block=none/\w.heap[a.block]?=o/\(o=none\/∃c t f,o=some (.cells c t f))
 .obtain⟨o,q1,q2,q3⟩:=hv;refine .inr ?_;rcases q3 with rfl|⟨c,t,f,rfl⟩
  .simp[Extern.Atomic.touchesFrozen,asAddr,viewAt,shape,getObj,Sem.run,q1,q2,Result.andThen,El,Fatal,stuck,unsupported]
  .simp[Extern.Atomic.touchesFrozen,asAddr,viewAt,shape,getObj,Sem.run,q1,q2,Result.andThen,El,Fatal,stuck,unsupported]
 have K7:(viewAt a.block).run p w=.ok none w:=by
  cases hs:w.shape? a.block with
  |some z=>simp[viewAt,shape,Sem.run,hs,Result.andThen]
  |none =>
   cases ho:w.heap[a.block]? with
   |none=>exact absurd ⟨_,hs,ho,.inl rfl⟩ hv
   |some o =>
    cases o with
    |cells c t f=>exact absurd ⟨_,hs,ho,.inr ⟨_,_,_,rfl⟩⟩ hv
    |view t u=>exact absurd ho (h2 t u)
    |_=>simp[viewAt,shape,getObj,Sem.run,hs,ho,Result.andThen]
 cases hz:w.frozen? a with
 |true=>exact .inr (by simp[Extern.Atomic.touchesFrozen,asAddr,K7,hz,frozen,Sem.run,Result.andThen,El,Fatal,stuck,unsupported])
 |false =>
  cases hc:w.cell? a with
  |none =>
   have hl:(load a .atomic).run p w=.halt (.stuck s) w:=by
    have:(Mode.atomic==Mode.atomic)=true:=rfl;simp[load,Sem.run,hc,this,h1]
   exact .inr (by simp[Extern.Atomic.touchesFrozen,Extern.Atomic.read,asAddr,K7,hz,frozen,Sem.run,hl,Result.andThen,El,Fatal,stuck,unsupported])
  |some v =>
   have hl:(load a .atomic).run p w=.ok v w:=by simp[load,Sem.run,hc]
   cases v with
   |int k z =>
    by_cases hk:k=.i32
    .subst hk;exact .inl ⟨z,rfl,rfl⟩
    .have Eo:¬IntKind.i32=k:=λe=>hk e.symm;exact .inr (by simp[Extern.Atomic.touchesFrozen,Extern.Atomic.read,asAddr,K7,hz,frozen,Sem.run,hl,Eo,Result.andThen,El,Fatal,stuck,unsupported])
   |pointer q=>cases q<;>exact .inr (by simp[Extern.Atomic.touchesFrozen,Extern.Atomic.read,asAddr,K7,hz,frozen,Sem.run,hl,Result.andThen,El,Fatal,stuck,unsupported])
   |_=>exact .inr (by simp[Extern.Atomic.touchesFrozen,Extern.Atomic.read,asAddr,K7,hz,frozen,Sem.run,hl,Result.andThen,El,Fatal,stuck,unsupported])
def jd {main:Bool}{b:Frame}{a:Act}{ops:Array Oper}{i:Nat}{rest:List Nat}{k:List Item}{cs:List Frame}{w:World}{o:Oper}(ho:ops[i]?=some o)(hw:Region.wanted o (yielded ops a.tmps)=true)(hk:b.kind≠.early)
  (h:El ((execOp a.eval o).run p w)) {g':Goroutine} {w':World} {es:Array Event}:stepG p main (BU (b.at a (.inRegion ops (i::rest)::k)) cs) w≠.go g' w' es:=by
 intro e;have e':=(stepG_oper (P:=p) (main:=main) (b:=b) (a:=a) (k:=k) (cs:=cs) (w:=w) ho hw).symm.trans e;have Eo:(b.kind==CallKind.early)=false:=by simpa using hk
 unfold stepG.apply at e';rw[<-Sem.runT_fst p _ w #[]] at h;simp only[if_true,Frame.at,Eo,xP,if_false] at e';revert e' h;rcases(execOp a.eval o).runT p w #[] with⟨r,es⟩
 intro h e';cases r with
 |ok v w'=>exact h.elim
 |halt x w' =>
  cases x with
  |stuck s=>cases e'
  |unsupported u =>
   cases u with
   |initOrder g=>exact absurd rfl (h g)
   |_=>cases e'
  |_=>exact h.elim
structure K8 (p:Program)(f:FuncId)(x y:Int)(fn:Func)(r:Nat)(o1 o2:Oper)(s:String):Prop where
 func:p.funcs[f]?=some fn
 text:fn.body=some (.seq (.region r #[o1,o2] false) (.cond (.tmp 1) .ret (.refuse s)))
 room:3<=fn.ntmps
 res:fn.results=#[]
 free:o1.guard=none/\o1.dst=some 2/\o2.guard=none/\o2.dst=some 1
 one:∀(a:Act) w,(∃q,a.eval (.tmp 0)=.pointer (some q)/\(execOp a.eval o1).run p w=.ok (.value (.pointer (some q))) w)\/El ((execOp a.eval o1).run p w)
 two:∀(a:Act) q w,a.eval (.tmp 2)=.pointer (some q)->(∃s,w.farLoad p q true=.error (.stuck s))->(∀t u,w.heap[q.block]?≠some (.view t u)) ->
  (∃z,w.cell? q=some (.int .i32 z)/\w.frozen? q=false/\(z=x->(execOp a.eval o2).run p w=.ok (.value (.bool true)) (w.setCell q (.int .i32 y)))/\(z≠x->(execOp a.eval o2).run p w=.ok (.value (.bool false)) w))\/El ((execOp a.eval o2).run p w)
variable {f:FuncId} {x y:Int} {fn:Func} {r:Nat} {o1 o2:Oper} {s:String} {args:Array Value} {k:CallKind} {cs:List Frame} {w:World}
def mB (h:K8 p f x y fn r o1 o2 s):Frame.enter p f args k={ base f with kind:=k }.at { tmps:=args++Array.replicate (fn.ntmps-args.size) undef,defers:=[] } [.code (.seq (.region r #[o1,o2] false) (.cond (.tmp 1) .ret (.refuse s)))]:=by
 simp[Frame.enter,Frame.at,h.func,h.text,base]
def be {o:Oper}{ops:Array Oper}{t:Array Value}(h:o.guard=none):Region.wanted o (yielded ops t)=true:=by unfold Region.wanted;rw[h]
def Jb (h:K8 p f x y fn r o1 o2 s)(hk:k≠.early){Ev Qa:Goroutine->World->Prop}(hE:∀g w W,Bh w W->Ev g w->Ev g W)(hQ:∀g w W,Bh w W->Qa g w->Qa g W)(hC:∀g w,g.frame.fn=f->¬Qa g w)
  (Hf:∀q,args[0]?=some (.pointer (some q))->(∃s,w.farLoad p q true=.error (.stuck s))/\∀t u,w.heap[q.block]?≠some (.view t u))
  (hr:AZ p Ev Qa (BU (Frame.enter p f args k) cs) w) :
  ∃q fr,args[0]?=some (.pointer (some q))/\w.cell? q=some (.int .i32 x)/\w.frozen? q=false/\fr.fn=f/\fr.kind=k/\fr.mode=.returning/\fr.defers=[] /\
   Walk p (λg=>∀w,¬Qa g w) (BU (Frame.enter p f args k) cs) w (BU fr cs) (w.setCell q (.int .i32 y)):=by
 rw[mB h] at hr ⊢;generalize hT:args++Array.replicate (fn.ntmps-args.size) undef=T at hr ⊢;have hTs:3<=T.size:=by rw[<-hT];simp;have:=h.room;omega
 generalize hb:({ base f with kind:=k }:Frame)=b at hr ⊢;have F4:b.kind≠.early:=by rw[<-hb];exact hk
 have hbf:b.fn=f:=by rw[<-hb];rfl
 obtain⟨f1,f2,f3,f4⟩:=h.free;have C:∀(a:Act) t,∀w,¬Qa (BU (b.at a t) cs) w:=λa t w=>hC _ _ hbf;have w2 : ∀ {w2 : World} {g2 : Goroutine}, Walk p (fun g => ∀ w, ¬ Qa g w) (BU (b.at ⟨T, []⟩ [.inRegion #[o1, o2] [0, 1], .code (.cond (.tmp 1) .ret (.refuse s))]) cs) w g2 w2 ->
   Walk p (λg=>∀w,¬Qa g w) (BU (b.at ⟨T,[]⟩ [.code (.seq (.region r #[o1,o2] false) (.cond (.tmp 1) .ret (.refuse s)))]) cs) w g2 w2:=λz =>
  .step (C _ _) stepG_seq (.step (C _ _) stepG_region z)
 have hr2:=hr.descend hE hQ (λg w c=>c w) ⟨rfl,rfl,rfl⟩ (w2 .refl);rcases h.one ⟨T,[]⟩ w with⟨q,q1,q2⟩|VJ
 rotate_left
 .exfalso;cases hr2 with
  |fin h=>exact C _ _ _ h
  |next ng nw _ h2 _ =>
   obtain⟨⟨es,e⟩,_⟩:=h2 w.tape w.drawn;exact jd (o:=o1) rfl (be f1) F4 VJ e
 have hq:args[0]?=some (.pointer (some q)):=by
  have e0:T.getD 0 undef=.pointer (some q):=q1;rw[<-hT] at e0;by_cases hz:0<args.size
  .have h9:0<args.size+(fn.ntmps-args.size):=by omega
   simpa [Array.getD,Array.getElem_append,hz,h9] using e0
  .exfalso;have:args=#[]:=Array.eq_empty_of_size_eq_zero (by omega);subst this;have h3:=h.room;simp[Array.getD] at e0;have h0:0<fn.ntmps:=by omega
   simp[undef] at e0
 obtain⟨n1,n2⟩:=Hf q hq;have e2:stepG p true (BU (b.at ⟨T,[]⟩ [.inRegion #[o1,o2] [0,1],.code (.cond (.tmp 1) .ret (.refuse s))]) cs) w=.go (BU (b.at ((Act.mk T []).put o1.dst (.pointer (some q))) [.inRegion #[o1,o2] [1],.code (.cond (.tmp 1) .ret (.refuse s))]) cs) w (listed p b.fn ⟨T,[]⟩ o1 w) :=
  stepG_value (o:=o1) rfl (be f1) F4 q2
 rw[f2] at e2;generalize hA:(Act.mk T []).put (some 2) (.pointer (some q))=A at e2;have hA2:A.eval (.tmp 2)=.pointer (some q):=by
  rw[<-hA];show(T.setIfInBounds 2 _).getD 2 undef=_;have:2<T.size:=hTs;simp[Array.getD,this]
 have hAd:A.defers=[]:=by rw[<-hA];rfl
 have Mx:A.tmps.size=T.size:=by rw[<-hA];exact Array.size_setIfInBounds
 have hr3:=hr2.descend (C:=λg=>∀w,¬Qa g w) hE hQ (λg w c=>c w) ⟨rfl,rfl,rfl⟩ (.step (C _ _) e2 .refl);rcases h.two A q w hA2 n1 n2 with⟨z,z1,z2,z3,z4⟩|VJ
 rotate_left
 .exfalso;cases hr3 with
  |fin h=>exact C _ _ _ h
  |next ng nw _ h2 _ =>
   obtain⟨⟨es,e⟩,_⟩:=h2 w.tape w.drawn;exact jd (o:=o2) rfl (be f3) F4 VJ e
 have hT1:∀v,(A.put (some 1) v).eval (.tmp 1)=v:=λv=>by
  show(A.tmps.setIfInBounds 1 v).getD 1 undef=v;have:1<A.tmps.size:=by rw[Mx];omega
  simp[Array.getD,this]
 by_cases Td:z=x
 .have e3 : stepG p true (BU (b.at A [.inRegion #[o1, o2] [1], .code (.cond (.tmp 1) .ret (.refuse s))]) cs) w = .go (BU (b.at (A.put o2.dst (.bool true)) [.inRegion #[o1, o2] [], .code (.cond (.tmp 1) .ret (.refuse s))]) cs) (w.setCell q (.int .i32 y)) (listed p b.fn A o2 w) :=
   stepG_value (o:=o2) rfl (be f3) F4 (z3 Td)
  rw[f4] at e3;subst Td;refine⟨q,_,hq,z1,z2,?_,?_,?_,?_,w2 (.step (C _ _) e2 (.step (C _ _) e3 (.step (C _ _) stepG_region_end (.step (C _ _) (stepG_cond (t:=true) (hT1 _)) (.step (C _ _) stepG_ret' .refl)))))⟩
  .exact hbf
  .show b.kind=k;rw[<-hb]
  .rfl
  .exact hAd
 .exfalso;have e3:stepG p true (BU (b.at A [.inRegion #[o1,o2] [1],.code (.cond (.tmp 1) .ret (.refuse s))]) cs) w=.go (BU (b.at (A.put o2.dst (.bool false)) [.inRegion #[o1,o2] [],.code (.cond (.tmp 1) .ret (.refuse s))]) cs) w (listed p b.fn A o2 w) :=
   stepG_value (o:=o2) rfl (be f3) F4 (z4 Td)
  rw[f4] at e3;have hr4:=hr3.descend (C:=λg=>∀w,¬Qa g w) hE hQ (λg w c=>c w) ⟨rfl,rfl,rfl⟩ (.step (C _ _) e3 (.step (C _ _) stepG_region_end (.step (C _ _) (stepG_cond (t:=false) (hT1 _)) .refl)));cases hr4 with
  |fin h=>exact C _ _ _ h
  |next ng nw _ h2 _ =>
   obtain⟨⟨es,e⟩,_⟩:=h2 w.tape w.drawn;simp[stepG,Go.Conc.G,Frame.at,stepG.exec] at e
end
def ly {p:Program}{main:Bool}{fr:Frame}{cs:List Frame}{w:World}{fn:Func}(hm:fr.mode=.returning)(hd:fr.defers=[])(hf:p.funcs[fr.fn]?=some fn)(hr:fn.results=#[]) :
  stepG p main (BU fr cs) w=GStep.after #[] (doReturn p main fr cs none (.tuple #[]) w):=by
 obtain⟨f1,tmps,todo,defers,mode,kind,round⟩:=fr;dsimp only at hm hd hf;subst hm hd;unfold stepG BU;dsimp only;unfold unwind;dsimp only;rw[hf];dsimp only;have e:(results fn tmps).runT p w #[]=(.ok (.tuple #[]) w,#[]):=Prod.ext ((Sem.runT_fst ..).trans (results_none hr _ _ _)) (events_results_none hr _ _);rw[e];simp only[seen_none]
section
variable {S:CF} {Ck:Code->Prop} {G:Nat} {β:Bc}
def rO {w:World}(hw:BF S Ck G β w w)(hi:β.O3){q:Addr}{u:Value}(hc:w.cell? q=some u){v:Value}(hv:AO S β v v):BF S Ck G β (w.setCell q v) (w.setCell q v):=by
 have VK:∀b,b=q.block->w.heap[b]?≠some (.coro none):=by
  intro b e h;subst e;unfold World.cell? at hc;rw[h] at hc;cases hc
 refine⟨hw.Cn,by rw[bi];exact hw.room,λb B hb hh=>?_,λb B hb hh=>?_,λb hb=>by rw[bi];exact hw.old b hb,rfl⟩
 .obtain⟨o,O,k1,k2,k3⟩:=hw.CQ b B hb hh;have:=hi _ _ hb;subst this;rw[k1] at k2;cases k2;rw[BG];by_cases e:b=q.block
  .rw[if_pos e,k1];refine⟨_,_,rfl,rfl,?_⟩;cases k3 with
   |@cells c C t f F h1 h2 =>
    simp only[FI];split
    .exact .cells h1 h2
    .exact .cells (h1.set _ hv) h2
   |loop a b c d e f=>exact .loop a b c d e f
   |number o s l h=>exact .number o s l h
   |taken=>exact .taken
   |defs h=>exact .defs h
  .rw[if_neg e];exact⟨_,_,k1,k1,k3⟩
 .have:=hi _ _ hb;subst this;have h:=hw.Db _ _ hb hh;rw[BG];by_cases e:b=q.block
  .exact absurd h.1 (VK _ e)
  .rw[if_neg e];exact h
end
def Walk.split {p:Program}{C:Goroutine->Prop}{g1 g2:Goroutine}{w1 w2:World}(h:Walk p C g1 w1 g2 w2):(g1=g2/\w1=w2)\/∃g w es,C g1/\stepG p true g1 w1=.go g w es/\Walk p C g w g2 w2:=by
 cases h with
 |refl=>exact .inl ⟨rfl,rfl⟩
 |step c e k=>exact .inr ⟨_,_,_,c,e,k⟩
def Walk.trans {p:Program}{C:Goroutine->Prop}{g1 g2 g3:Goroutine}{w1 w2 w3:World}(h:Walk p C g1 w1 g2 w2)(k:Walk p C g2 w2 g3 w3):Walk p C g1 w1 g3 w3:=by
 induction h with
 |refl=>exact k
 |step c e _ ih=>exact .step c e (ih k)
section
variable {P:Bw} {Bu BC BB:FuncId->Bool} {H:Hid} {G:Nat}
def Held (p:Program)(BB:FuncId->Bool)(f:FuncId)(x y:Int):Prop:=∀(args:Array Value) (q:Addr) (k:CallKind) (cs:List Frame) (w:World),k≠.early->cs≠[]->args[0]?=some (.pointer (some q))->w.cell? q=some (.int .i32 x)->w.frozen? q=false ->
 BN p BB (λg W=>Bh (w.setCell q (.int .i32 y)) W/\∃fr,g=BU fr cs/\fr.fn=f/\fr.kind=k/\fr.mode=.returning/\fr.defers=[]/\fr.oper?=none) 0 (BU (Frame.enter p f args k) cs) w
def K9 (P:Bw)(BB:FuncId->Bool)(f:FuncId):Prop:=∃x y fn r o1 o2 s Ew,K8 P.a f x y fn r o1 o2 s/\Held P.b BB f x y/\P.fs[f]?=some Ew/\Ew.results=#[]
def lz (P:Bw)(Bu BC BB:FuncId->Bool):Prop:=∀f,Bu f=true\/aI Bu f=true->BC f=false->(∃fn s,P.a.funcs[f]?=some fn/\fn.body=some (.refuse s))\/K9 P BB f
def Hg (P:Bw)(Bu BC:FuncId->Bool)(H:Hid)(G:Nat)(T:List Frame)(Qa:Goroutine->World->Prop)(Gw:Goroutine)(w':World):Prop :=
 ∃g' w0 AQ,Qa g' w0/\Bh w0 w'/\JE H AQ/\Dc P Bu H false BC T AQ g' Gw/\BF (SP Bu H) (CK P.a Bu false) G AQ w0 w0
def Hg.same {T:List Frame}{Qa:Goroutine->World->Prop}(g:Goroutine)(w W:World)(s:Bh w W)(x:Hg P Bu BC H G T Qa g w):Hg P Bu BC H G T Qa g W:=by
 obtain⟨g1,w0,Cp,x1,x2,x3⟩:=x;exact⟨g1,w0,Cp,x1,x2.trans s,x3⟩
def AZ.Zu (Lc:Lib P Bu H false BC G)(hst:lz P Bu BC BB)(hb:∀f,Bu f=true->BB f=true){Qa:Goroutine->World->Prop}(hQ:∀g w W,Bh w W->Qa g w->Qa g W)(hQl:∀g w f,Qa g w->BC f=false->K9 P BB f->g.frame.fn≠f)(hE:∀g w W,Bh w W->Self P.a Bu H G g w->Self P.a Bu H G g W)
  {c:Frame} {cs:List Frame} {g:Goroutine} {w:World} (h:AZ P.a (Self P.a Bu H G) Qa g w) :
  ∀ {g':Goroutine} {w1 w':World},Bh w w1->Walk P.a (λg=>∀w,¬Qa g w) g w1 g' w'->∀ {β:Bc} {g2:Goroutine},JE H β->Dc P Bu H false BC (c::cs) β g' g2->BF (SP Bu H) (CK P.a Bu false) G β w' w' ->
  BN P.b BB (Hg P Bu BC H G (c::cs) Qa) 0 g2 w':=by
 induction h with
 |@fin g w hq =>
  intro g' w1 w' hs hk β g2 hi hg hw;cases hk with
  |refl=>exact .fin ⟨_,_,_,hQ _ _ _ hs hq,⟨rfl,rfl,rfl⟩,hi,hg,hw⟩
  |step hc _ _=>exact absurd hq (hc w)
 |@next g w ng nw h1 h2 h3 ih =>
  intro g' w1 w' hs hk β g2 hi hg hw;cases hk with
  |step hc e Eo =>
   obtain⟨⟨es',e'⟩,_⟩:=h2 w1.tape w1.drawn;rw[<-hs.eq,e] at e';cases e';exact ih _ _ ⟨rfl,rfl,rfl⟩ Eo hi hg hw
  |refl =>
  have eon:∀τ n,on w1 τ n=on w τ n:=λτ n=>by rw[hs.eq];rfl
  have hrun:AZ P.a (Self P.a Bu H G) Qa g w1:=(AZ.next ng nw h1 h2 h3).same hE hQ hs;have Pf:∀τ n,(∃es,stepG P.a true g (on w1 τ n)=.go (ng τ n) (nw τ n) es)/\(ng τ n).callers≠[]:=λτ n=>by rw[eon];exact h2 τ n
  have ih':∀τ n {g':Goroutine} {w2 w':World},Bh (nw τ n) w2->Walk P.a (λg=>∀w,¬Qa g w) (ng τ n) w2 g' w'->∀ {β:Bc} {g2:Goroutine},JE H β->Dc P Bu H false BC (c::cs) β g' g2->BF (SP Bu H) (CK P.a Bu false) G β w' w' ->
   BN P.b BB (Hg P Bu BC H G (c::cs) Qa) 0 g2 w':=λτ n=>ih τ n
  clear ih h2 h3 h1;have eg:=hg.BU;have Cs:=hg.top;have hcs:=hg.callers;have e2:g2=BU g2.frame g2.callers:=by
   obtain⟨x1,x2,x3,x4,x5⟩:=g2;obtain⟨_,_,⟨_,s1⟩,⟨_,d1⟩,⟨_,o1⟩⟩:=hg;dsimp only at *;subst s1 d1 o1
   rfl
  generalize hf:g.frame=fr at Cs eg;generalize hF:g2.frame=FR at Cs e2;generalize g.callers=Zv at eg hcs;generalize g2.callers=X2 at e2 hcs;subst eg e2;cases Cs with
  |on ED =>
   have eF:fr=FR:=Bf.id (P:=Bw.of P.a) hi ED
   have Pv:B8 P.b BB (BU FR X2) w1:=⟨by show BB FR.fn=true;rw[<-eF];exact hb _ ED.late.2,λo ho=>by
    have Mb:FR.oper?=some o:=ho;rw[<-eF] at Mb
    exact cg ED (λf h=>(Lc.nm f h).2) (λ_=>rfl) o Mb⟩
   refine BN.step Pv λτ d=>?_;obtain⟨⟨es,e⟩,hn⟩:=Pf τ d;have hw':BF (SP Bu H) (CK P.a Bu false) G β (on w1 τ d) (on w1 τ d):=hw.same rfl rfl rfl;have:=dt (P:=P) (main:=true) (main2:=true) Lc hg ED (λ_=>pO ED) hw' (n:=(nw τ d).drawn) (λ_ _ _=>rfl) (by rw[e];exact zK _ _);rw[e] at this;rcases this with⟨h0,_⟩|⟨AQ,Gw,W',ES,k1,k2,k3⟩
   .exact absurd h0 hn
   obtain⟨i1,i2⟩:=k3.same hi rfl;have hr:=ih' τ d ⟨rfl,rfl,rfl⟩ .refl i1 k2 (k3.rel.same rfl i2 rfl);refine⟨Gw,W',ES,k1,kV k2.callers,hr.same Hg.same ⟨i2.symm,?_,?_⟩⟩
   .rw[k3.OS,k3.os]
   .rw[k3.OUT,k3.out]
  |@stop f a A k s1 s2 s3 s4 =>
   have eA:a=A:=s4.id hi;subst eA;rcases hst f s1 s2 with⟨fn,s,q1,q2⟩|⟨x,y,fn,r,o1,o2,s,Ew,hp,Uu,hf',M7⟩
   .exfalso;obtain⟨⟨es,e⟩,_⟩:=Pf w1.tape w1.drawn;exact iB q1 q2 _ _ _ _ _ e
   have s0:Bu f=true:=by
    rcases s1 with s1|s1
    .exact s1
    .exfalso;obtain⟨fn9,s9,z1,z2⟩:=Lc.bars f s1;rw[hp.func] at z1;cases z1;rw[hp.text] at z2;cases z2
   have Hf:∀ww,BF (SP Bu H) (CK P.a Bu false) G β ww ww->∀q:Addr,a[0]?=some (.pointer (some q))->(∃s,ww.farLoad P.a q true=.error (.stuck s))/\∀t u,ww.heap[q.block]?≠some (.view t u):=by
    intro ww hw q hq;have hv:AO (SP Bu H) β (.pointer (some q)) (.pointer (some q)):=s4.at_ 0 _ _ hq hq;obtain⟨B,JB,hB⟩:=Km hv;have hB2:q.block=B:=hi.2 _ _ JB;subst hB2;refine⟨(MX (P:=P) hw ⟨JB,rfl,rfl⟩).1 true,λt u hu=>?_⟩;cases hh:(SP Bu H).hid q.block with
    |true=>rw[(hw.Db _ _ JB hh).1] at hu;cases hu
    |false =>
     obtain⟨o,O,k1,k2,k3⟩:=hw.CQ _ _ JB hh;rw[hu] at k1;cases k1;cases k3
   have X0:∀g w,g.frame.fn=f->¬Qa g w:=λg w e hq=>hQl g w f hq s2 ⟨x,y,fn,r,o1,o2,s,Ew,hp,Uu,hf',M7⟩ e;obtain⟨q,fr,hq,hc,hz,_⟩:=Jb hp s3 hE hQ X0 (Hf _ hw) hrun;have hCS:X2≠[]:=kV hcs;have aes:Zv≠[]:=by cases hcs<;>simp
   refine((Uu a q k X2 w1 s3 hCS hq hc hz).bind λgB WB hB=>?_);obtain⟨hs2,FR,rfl,t1,t2,t3,t4,t5⟩:=hB
   refine BN.step ⟨by show BB FR.fn=true;rw[t1];exact hb f s0,λo ho=>by
    have Mb:FR.oper?=some o:=ho
    rw[t5] at Mb;cases Mb⟩ λτ n=>?_
   have VH:BF (SP Bu H) (CK P.a Bu false) G β (on w1 τ n) (on w1 τ n):=hw.same rfl rfl rfl;obtain⟨q',fr,hq',hc',hz',r1,r2,r3,r4,Uv⟩:=Jb hp s3 hE hQ X0 (Hf _ VH) (hrun.same hE hQ zU);have eq:q'=q:=by rw[hq] at hq';cases hq';rfl
   subst eq;have hv:AO (SP Bu H) β (.pointer (some q')) (.pointer (some q')):=s4.at_ 0 _ _ hq hq;have hw2:BF (SP Bu H) (CK P.a Bu false) G β ((on w1 τ n).setCell q' (.int .i32 y)) ((on w1 τ n).setCell q' (.int .i32 y)):=rO VH hi.2 hc' (.int _ _);have Zw:AZ P.a (Self P.a Bu H G) Qa (BU fr Zv) ((on w1 τ n).setCell q' (.int .i32 y)):=(hrun.same hE hQ zU).descend (C:=λg=>∀w,¬Qa g w) hE hQ (λg w c=>c w) ⟨rfl,rfl,rfl⟩ Uv
   have eWB:on WB τ n=(on w1 τ n).setCell q' (.int .i32 y):=by rw[hs2.eq];rfl
   rw[eWB];cases Zw with
   |fin h=>exact absurd h (X0 _ _ r1)
   |next ng2 nw2 _ h2b _ =>
    obtain⟨⟨es,e⟩,hn⟩:=h2b τ n;have aet:on ((on w1 τ n).setCell q' (.int .i32 y)) τ n=(on w1 τ n).setCell q' (.int .i32 y):=rfl;rw[aet] at e;have ea:=ly (main:=true) (cs:=Zv) (w:=(on w1 τ n).setCell q' (.int .i32 y)) r3 r4 (by rw[r1];exact hp.func) hp.res;have eb:=ly (p:=P.b) (main:=true) (cs:=X2) (w:=(on w1 τ n).setCell q' (.int .i32 y)) t3 t4 (by rw[t1];exact hf') M7;have:=et (P:=P) (BB:=BC) (main:=true) (main2:=true) (fr:=fr) (FR:=FR) (r2.trans t2.symm) (by rw[r2];exact s3) hcs aes (v:=.tuple #[]) (V:=.tuple #[]) (.tuple rfl (by simp)) (Fin.refl hw2) #[]
    rw[<-ea,e,<-show GStep.after #[] (doReturn P.b true FR X2 none (.tuple #[]) ((on w1 τ n).setCell q' (.int .i32 y)))=GStep.after ([]:List Event).toArray (doReturn P.b true FR X2 none (.tuple #[]) ((on w1 τ n).setCell q' (.int .i32 y))) from rfl,<-eb] at this;rcases this with⟨h0,_⟩|⟨AQ,Gw,W',ES,k1,k2,k3⟩
    .exact absurd h0 hn
    obtain⟨i1,i2⟩:=k3.same hi rfl;have hr:BN P.b BB (Hg P Bu BC H G (c::cs) Qa) 0 Gw (nw2 τ n):=by
     have NP:Walk P.a (λg=>∀w,¬Qa g w) (BU fr Zv) ((on w1 τ n).setCell q' (.int .i32 y)) (ng2 τ n) (nw2 τ n):=.step (λw=>X0 _ w r1) e .refl;have rel:=k3.rel.same rfl i2 rfl;rcases Uv.split with⟨e0,_⟩|⟨ga,wa,esa,_,e1,rest⟩
     .exfalso;have:=congrArg (λg:Goroutine=>g.frame.mode) e0;rw[show(BU fr Zv).frame.mode=.returning from r3] at this;cases this
     .obtain⟨⟨Uo,e1'⟩,_⟩:=Pf τ n;rw[e1] at e1';cases e1';exact ih' τ n ⟨rfl,rfl,rfl⟩ (rest.trans NP) i1 k2 rel
    refine⟨Gw,W',ES,k1,kV k2.callers,hr.same Hg.same ⟨i2.symm,?_,?_⟩⟩
    .rw[k3.OS,k3.os]
    .rw[k3.OUT,k3.out]
end
section
variable {P:Bw} {Bu BC BB:FuncId->Bool} {H:Hid} {G:Nat} {Q:Goroutine->World->Prop}
structure FX (P:Bw)(Bu BC BB:FuncId->Bool)(H:Hid)(G:Nat):Prop where
 la:Lib (Bw.of P.a) Bu H false Bu G
 lc:Lib P Bu H false BC G
 ref:lz P Bu BC BB
 sub:∀f,Bu f=true->BB f=true
 nb:H.bl=false
def rP {K0:Nat->Prop}{w:World}{Ck:Code->Prop}(C7:∀b,K0 b->G<=b)(hroom:G<=w.heap.size)(Hw:∀b,K0 b->H b=true->H.BX=true/\w.heap[b]?=some (.coro none))(hold:∀b,H b=true->b<w.heap.size)
  (Dj:∀b,K0 b->H b=false->∃o,w.heap[b]?=some o/\BS (SP Bu H) Ck (BK K0) o o):BF (SP Bu H) Ck G (BK K0) w w:=by
 refine⟨⟨λh1 h2=>h1.2.symm.trans h2.2,λh1 h2=>h1.2.trans h2.2.symm,λ{b B} h=>⟨C7 b h.1,h.2▸C7 b h.1⟩⟩,⟨hroom,hroom⟩,λb B hb hh=>?_,λb B hb hh=>?_,hold,rfl⟩
 .obtain⟨hb,rfl⟩:=hb;obtain⟨o,h1,h2⟩:=Dj b hb hh;exact⟨o,o,h1,h1,h2⟩
 .obtain⟨hb,rfl⟩:=hb;obtain⟨h1,h2⟩:=Hw b hb hh;exact⟨h2,(λh=>absurd (h1.symm.trans h) (by decide)),λ_=>h2⟩
def FX.run (B:FX P Bu BC BB H G){Qa:Goroutine->World->Prop}(hQ:∀g w W,Bh w W->Qa g w->Qa g W)(hQl:∀g w f,Qa g w->BC f=false->K9 P BB f->g.frame.fn≠f){fr:Frame}{C:Frame}{cs:List Frame}{K0:Nat->Prop}{w:World}{F:Frame}(ha:Dy (Bw.of P.a) Bu H false Bu (BK K0) fr fr)(hc:Dy P Bu H false BC (BK K0) fr F)
  (C7:∀b,K0 b->G<=b) (hroom:G<=w.heap.size) (Hw:∀b,K0 b->H b=true->H.BX=true/\w.heap[b]?=some (.coro none)) (hold:∀b,H b=true->b<w.heap.size) (Dj:∀b,K0 b->H b=false->∃o,w.heap[b]?=some o/\BS (SP Bu H) (CK P.a Bu false) (BK K0) o o)
  (h:Self P.a Bu H G (BU fr [bad]) w->AZ P.a (Self P.a Bu H G) Qa (BU fr [bad]) w) :
  BN P.b BB (Hg P Bu BC H G (C::cs) Qa) 0 (BU F (C::cs)) w:=by
 have hi:JE H (BK K0):=⟨B.nb,λ_ _ h=>h.2⟩;have hw:=rP (Ck:=CK P.a Bu false) C7 hroom Hw hold Dj;have hs:Self P.a Bu H G (BU fr [bad]) w:=⟨_,hi,⟨ha,.base,⟨rfl,rfl⟩,⟨rfl,rfl⟩,⟨rfl,rfl⟩⟩,hw⟩;exact(h hs).Zu B.lc B.ref B.sub hQ hQl (λ_ _ _ s h=>h.same s) ⟨rfl,rfl,rfl⟩ .refl hi ⟨hc,.base,⟨rfl,rfl⟩,⟨rfl,rfl⟩,⟨rfl,rfl⟩⟩ hw
def FX.fn (B:FX P Bu BC BB H G){f:FuncId}(hf:Bu f=true)(SA:BC f=true){K0:Nat->Prop}{w:World}{args:Array Value}{C:Frame}{cs:List Frame}(hne:cs≠[])
  (C7:∀b,K0 b->G<=b) (hroom:G<=w.heap.size) (DU:AU (SP Bu H) (BK K0) args args)
  (Hw:∀b,K0 b->H b=true->H.BX=true/\w.heap[b]?=some (.coro none)) (hold:∀b,H b=true->b<w.heap.size) (Dj:∀b,K0 b->H b=false->∃o,w.heap[b]?=some o/\BS (SP Bu H) (CK P.a Bu false) (BK K0) o o)
  (hQ:∀g w W,Bh w W->Q g w->Q g W) {R:Value->World->Prop}
  (hc:∀τ d,Calls P.a f args (on w τ d) (λe w'=>∃v,e=.returned v/\R v w'))
  (h:∀v w',R v w'->BN P.b BB Q 0 (BU (C.finish v) cs) w') :
  BN P.b BB Q 0 (BU (Frame.enter P.b f args .normal) (C::cs)) w:=by
 have h1:=B.run (Qa:=Left P.a f R) Left.same (λg w f' hl hf' _ e=>by
  obtain⟨_,_,fr,_,_,rfl,e2,_⟩:=hl;have e3:fr.fn=f':=e;rw[e2] at e3;rw[<-e3,SA] at hf'
  cases hf') (C:=C) (cs:=cs) (B5 B.la (.inl hf) DU .normal (by decide)) (B5 B.lc (.inl hf) DU .normal (by decide)) C7 hroom Hw hold Dj λhs=>Ff B.la hs hc
 refine h1.bind λg2 w' hq=>?_;obtain⟨g',w0,AQ,q1,q2,q3,q4,q5⟩:=hq;have Ut:=q1;obtain⟨wl,vl,fr,l1,l2,l3,l4,l5⟩:=Ut;have OI:BB g'.frame.fn=true:=B.sub _ (by rw[l3];show Bu fr.fn=true;rw[l4];exact hf);have ED:=q4.top.Gb (by rw[l3];show BC fr.fn=true;rw[l4];exact SA);have eF:g'.frame=g2.frame:=Bf.id (P:=Bw.of P.a) q3 ED;refine BN.step ⟨by rw[<-eF];exact OI,λo ho=>?_⟩ λτ d=>?_
 .rw[<-eF] at ho;exact cg ED (λf h=>(B.lc.nm f h).2) (λ_=>rfl) o ho
 .have hw':BF (SP Bu H) (CK P.a Bu false) G AQ w0 (on w' τ d):=q5.same rfl q2.1 (by rw[show(on w' τ d).os=w'.os from rfl,q2.2.1]);obtain⟨v,wa,wb,V,W',ES,Cb,e1,e2,e3,e4,e5,e6⟩:=leave (P:=P) B.lc (main2:=true) q1 SA q4 hw';obtain⟨i1,i2⟩:=e6.same q3 q2.1.symm;have eV:=e5.id i1;subst eV;refine⟨_,W',ES,e4,hne,(h v wa e2).same hQ ⟨?_,?_,?_⟩⟩
  .rw[<-i2,e3.1,<-e1.1]
  .rw[e6.OS,show(on w' τ d).os=w'.os from rfl,q2.2.1,e1.2.1]
  .rw[e6.OUT,show(on w' τ d).output=w'.output from rfl,q2.2.2,e1.2.2]
def FX.fnK (B:FX P Bu BC BB H G){f:FuncId}(hf:Bu f=true)(SA:BC f=true){K0:Nat->Prop}{w:World}{args:Array Value}{C:Frame}{cs:List Frame}(hne:cs≠[])
  (C7:∀b,K0 b->G<=b) (hroom:G<=w.heap.size) (DU:AU (SP Bu H) (BK K0) args args)
  (Hw:∀b,K0 b->H b=true->H.BX=true/\w.heap[b]?=some (.coro none)) (hold:∀b,H b=true->b<w.heap.size) (Dj:∀b,K0 b->H b=false->∃o,w.heap[b]?=some o/\BS (SP Bu H) (CK P.a Bu false) (BK K0) o o)
  (hQ:∀g w W,Bh w W->Q g w->Q g W) {R:Value->World->Prop}
  (hc:∀τ d,Calls P.a f args (on w τ d) (λe w'=>∃v,e=.returned v/\R v w'))
  (h:∀v w' (K':Nat->Prop),R v w'->AO (SP Bu H) (BK K') v v->(∀b,K' b->G<=b)->(∀b,K' b->H b=false->∃o,w'.heap[b]?=some o/\BS (SP Bu H) (CK P.a Bu false) (BK K') o o)->BN P.b BB Q 0 (BU (C.finish v) cs) w') :
  BN P.b BB Q 0 (BU (Frame.enter P.b f args .normal) (C::cs)) w:=by
 have h1:=B.run (Qa:=Left P.a f R) Left.same (λg w f' hl hf' _ e=>by
  obtain⟨_,_,fr,_,_,rfl,e2,_⟩:=hl;have e3:fr.fn=f':=e;rw[e2] at e3;rw[<-e3,SA] at hf'
  cases hf') (C:=C) (cs:=cs) (B5 B.la (.inl hf) DU .normal (by decide)) (B5 B.lc (.inl hf) DU .normal (by decide)) C7 hroom Hw hold Dj λhs=>Ff B.la hs hc
 refine h1.bind λg2 w' hq=>?_;obtain⟨g',w0,AQ,q1,q2,q3,q4,q5⟩:=hq;have Ut:=q1;obtain⟨wl,vl,fr,l1,l2,l3,l4,l5⟩:=Ut;have OI:BB g'.frame.fn=true:=B.sub _ (by rw[l3];show Bu fr.fn=true;rw[l4];exact hf);have ED:=q4.top.Gb (by rw[l3];show BC fr.fn=true;rw[l4];exact SA);have eF:g'.frame=g2.frame:=Bf.id (P:=Bw.of P.a) q3 ED;refine BN.step ⟨by rw[<-eF];exact OI,λo ho=>?_⟩ λτ d=>?_
 .rw[<-eF] at ho;exact cg ED (λf h=>(B.lc.nm f h).2) (λ_=>rfl) o ho
 .have hw':BF (SP Bu H) (CK P.a Bu false) G AQ w0 (on w' τ d):=q5.same rfl q2.1 (by rw[show(on w' τ d).os=w'.os from rfl,q2.2.1]);obtain⟨v,wa,wb,V,W',ES,Cb,e1,e2,e3,e4,e5,e6⟩:=leave (P:=P) B.lc (main2:=true) q1 SA q4 hw';obtain⟨i1,i2⟩:=e6.same q3 q2.1.symm;have eV:=e5.id i1;subst eV;have BM:Cb.le (BK λb=>Cb b b):=λb B hb=>by
   have:=i1.2 _ _ hb;subst this;exact⟨hb,rfl⟩
  have aeu:∀b,Cb b b->H b=false->∃o,wa.heap[b]?=some o/\BS (SP Bu H) (CK P.a Bu false) (BK λb=>Cb b b) o o:=λb hb hh=>by
   obtain⟨o,O,k1,k2,k3⟩:=e6.rel.CQ b b hb hh;have eo:O=o:=by
    rw[<-i2,k1] at k2;exact(Option.some.inj k2).symm
   subst eo;exact⟨O,by rw[e1.1,<-e3.1];exact k1,k3.mono BM⟩
  refine⟨_,W',ES,e4,hne,(h v wa (λb=>Cb b b) e2 (e5.mono BM) (λb hb=>(e6.rel.Cn.lo hb).1) aeu).same hQ ⟨?_,?_,?_⟩⟩
  .rw[<-i2,e3.1,<-e1.1]
  .rw[e6.OS,show(on w' τ d).os=w'.os from rfl,q2.2.1,e1.2.1]
  .rw[e6.OUT,show(on w' τ d).output=w'.output from rfl,q2.2.2,e1.2.2]
def FX.seg (B:FX P Bu BC BB H G){b:Frame}{a:Act}{c:Code}{k:List Item}{C:Frame}{cs:List Frame}{K0:Nat->Prop}{w:World}
  (IH:Bf P.a Bu H false (BK K0) (b.at a (.code c::k)) (b.at a (.code c::k)))
  (C7:∀b,K0 b->G<=b) (hroom:G<=w.heap.size) (Hw:∀b,K0 b->H b=true->H.BX=true/\w.heap[b]?=some (.coro none)) (hold:∀b,H b=true->b<w.heap.size) (Dj:∀b,K0 b->H b=false->∃o,w.heap[b]?=some o/\BS (SP Bu H) (CK P.a Bu false) (BK K0) o o)
  (hk:∀s,k≠[.code (.refuse s)]) (FD:∀f x y fn r o1 o2 s,K8 P.a f x y fn r o1 o2 s->∀c,fn.body=some c->k≠[.code c]) (hbl:BC b.fn=true\/∃fn s,P.a.funcs[b.fn]?=some fn/\fn.body=some (.refuse s)) (hQ:∀g w W,Bh w W->Q g w->Q g W) {N:Exit->Act->World->Prop}
  (hc:∀τ d,c.wp P.a (λe a' w'=>(e=.normal\/e=.ret)/\N e a' w') a (on w τ d))
  (h1:∀a' w',N .normal a' w'->BN P.b BB Q 0 (BU (b.at a' k) (C::cs)) w')
  (h2:∀a' w' todo,N .ret a' w'->(∀o,({ b.at a' todo with mode:=.returning }:Frame).oper?=some o->aF P.b o.op=true)->BN P.b BB Q 0 (BU { b.at a' todo with mode:=.returning } (C::cs)) w') :
  BN P.b BB Q 0 (BU (b.at a (.code c::k)) (C::cs)) w:=by
 have h0:=B.run (Qa:=FJ b k [bad] N) FJ.same (λg w f' hl hf' hlk e=>by
  obtain⟨a',w0,_,h⟩:=hl;have e3:b.fn=f':=by rcases h with⟨_,rfl⟩|⟨_,_,rfl⟩<;>exact e
  rcases hbl with h|⟨fn,s,r1,r2⟩
  .rw[e3,hf'] at h;cases h
  .obtain⟨x,y,fn2,r,o1,o2,s2,fn3,hp,_⟩:=hlk;have:=hp.func;rw[<-e3,r1] at this;cases this;have:=hp.text;rw[r2] at this
   cases this) (C:=C) (cs:=cs) (.on IH) (.on IH) C7 hroom Hw hold Dj λhs=>Mv (N:=N) B.la (by simp) hs hc
 refine h0.bind λg2 w' hq=>?_;obtain⟨g',w0,AQ,q1,q2,q3,q4,q5⟩:=hq;have Ur:∀g2:Goroutine,g'.callers=[bad]->Dc P Bu H false BC (C::cs) AQ g' g2->g2.callers=C::cs:=by
  intro g2 e1 e2;have:=e2.callers;rw[e1] at this;generalize g2.callers=X at this;cases this with
  |base=>rfl
  |cons _ h=>exact absurd rfl h.ne
 have ED:Bf P.a Bu H false AQ g'.frame g2.frame:=by
  have Cs:=q4.top;obtain⟨a',wl,l1,l2⟩:=q1;generalize hf:g'.frame=fr at Cs ⊢;generalize g2.frame=FR at Cs ⊢;cases Cs with
  |on h=>exact h
  |@stop f A A' kd s1 s2 s3 s4 =>
   exfalso;rcases B.ref f s1 s2 with⟨fn,s,r1,r2⟩|⟨x,y,fn,r,o1,o2,s,fn3,hp,_⟩
   rotate_left
   .rcases l2 with⟨_,rfl⟩|⟨_,todo,rfl⟩
    .have e : k = [.code (.seq (.region r #[o1, o2] false) (.cond (.tmp 1) .ret (.refuse s)))] := by
      have:=congrArg Frame.todo hf;simpa [Go.Bl.BU,Frame.enter,hp.func,hp.text,Frame.at] using this
     exact FD f x y fn r o1 o2 s hp _ hp.text e
    .have:=congrArg Frame.mode hf;simp[Go.Bl.BU,Frame.enter] at this
   rcases l2 with⟨_,rfl⟩|⟨_,todo,rfl⟩
   .have : k = [.code (.refuse s)] := by
     have:=congrArg Frame.todo hf;simpa [Go.Bl.BU,Frame.enter,r1,r2,Frame.at] using this
    exact hk s this
   .have:=congrArg Frame.mode hf;simp[Go.Bl.BU,Frame.enter] at this
 have eF:g'.frame=g2.frame:=Bf.id (P:=Bw.of P.a) q3 ED;have eG:=q4.BU;have e2:g2=BU g2.frame g2.callers:=by
  obtain⟨x1,x2,x3,x4,x5⟩:=g2;obtain⟨_,_,⟨_,s1⟩,⟨_,d1⟩,⟨_,o1⟩⟩:=q4;dsimp only at *;subst s1 d1 o1
  rfl
 obtain⟨a',wl,l1,l2⟩:=q1;rcases l2 with⟨l3,l4⟩|⟨l3,todo,l4⟩
 .have:=Ur g2 (by rw[l4];rfl) q4;rw[e2,this,<-eF,l4];exact(h1 a' wl l3).same hQ (l1.trans q2)
 .have:=Ur g2 (by rw[l4];rfl) q4;have hpl:∀o,g'.frame.oper?=some o->aF P.b o.op=true:=λo ho=>cg ED (λf h=>(B.lc.nm f h).2) (λ_=>rfl) o ho;rw[l4] at hpl;rw[e2,this,<-eF,l4];exact(h2 a' wl todo l3 hpl).same hQ (l1.trans q2)
end
section
variable {P:Bw} {S:CF} {Ck:Code->Prop} {G:Nat} {β:Bc}
def pP {α EJ:Type}{m:Sem α}{M:Sem EJ}{R:Bc->α->EJ->Prop}(h:∀w W,BF S Ck G β w W->∀es,∃s w' es',m.runT P.a w es=(.halt (.stuck s) w',es')):AX P S Ck G β m M R:=by
 intro w W n hw ht Ce Cm _;obtain⟨s,w',es',e⟩:=h w W hw Ce;rw[e];trivial
def ol (f:FuncId):AX P S Ck G β (mark (.extern f)) (mark (.extern f)) (λ_ _ _=>True):=by
 intro w W n hw ht Ce Cm _;have e1:(mark (.extern f)).runT P.a w Ce=(.ok () w,Ce.push ⟨.mark (.extern f),false,true⟩):=rfl;have e2:(mark (.extern f)).runT P.b W Cm=(.ok () W,Cm.push ⟨.mark (.extern f),false,true⟩):=rfl;rw[e1,e2];exact⟨β,(),W,[⟨.mark (.extern f),false,true⟩],by simp,trivial,{ Fin.refl hw with evs:=λ_ E hE=>by cases yT.1 hE;exact .mark (.extern f) }⟩
def km (k:IntKind){a A:Addr}(h:BZ β a A):AX P S Ck G β (Extern.Atomic.read (.int k) a) (Extern.Atomic.read (.int k) A) (λAQ v V=>AO S AQ v V):=by
 unfold Extern.Atomic.read;refine AJ (ij h .atomic) ?_;intro Cp v V _ hv;cases hv with
 |int k' n =>
  split
  .rename_i k2 k3 _ e1 e2;cases e1;cases e2;split
   .exact AL (.int _ _)
   .exact AV (by intro g e;cases e)
  all_goals simp_all
 |ptr o s hb =>
  cases k<;>first|exact AL (.ptr o s hb)|exact AV (by intro g e;cases e)
 |_=>cases k<;>exact AV (by intro g e;cases e)
def om {k:IntKind}(hk:k≠.u64){a A:Addr}(h:BZ β a A):AX P S Ck G β (Extern.Atomic.read (.int k) a) (Extern.Atomic.read (.int k) A) (λ_ v V=>∃n,v=.int k n/\V=.int k n):=by
 unfold Extern.Atomic.read;refine AJ (ij h .atomic) ?_;intro Cp v V _ hv;cases hv with
 |int k' n =>
  split
  .rename_i k2 k3 _ e1 e2;cases e1;cases e2;split
   .rename_i e;subst e;exact AL ⟨n,rfl,rfl⟩
   .exact AV (by intro g e;cases e)
  all_goals simp_all
 |ptr o s hb =>
  cases k<;>first|exact absurd rfl hk|exact AV (by intro g e;cases e)
 |_=>cases k<;>exact AV (by intro g e;cases e)
def pQ (k:IntKind){x X:Array Value}(h:AU S β x X):AX P S Ck G β (Extern.Atomic.loadT (.int k) x) (Extern.Atomic.loadT (.int k) X) (λAQ v V=>AO S AQ v V):=by
 have hl:=h.toList;obtain⟨l⟩:=x;obtain⟨L⟩:=X;simp only at hl;cases hl with
 |nil=>exact AR
 |cons ha hr =>
  cases hr with
  |cons _ _=>exact AR
  |nil =>
   refine AJ (dE ha) ?_;intro Cp a A _ hA;exact km k hA
def rQ (k:IntKind){x X:Array Value}(h:AU S β x X):AX P S Ck G β (Extern.Atomic.update (Op.intArith .add) k true x) (Extern.Atomic.update (Op.intArith .add) k true X) (λAQ v V=>AO S AQ v V):=by
 have hl:=h.toList;obtain⟨l⟩:=x;obtain⟨L⟩:=X;simp only at hl;cases hl with
 |nil=>exact AR
 |cons ha hr =>
  cases hr with
  |nil=>exact AR
  |cons hb hr =>
   cases hr with
   |cons _ _=>exact AR
   |nil =>
    refine AJ (dE ha) ?_;intro Cp a A OL hA;refine AJ (km k hA) ?_;intro Cb v V Pm hv;refine AJ (ef hv) ?_;rintro Dh n _ Te rfl;refine AJ (ef ((((hb.mono OL).mono Pm)).mono Te)) ?_;rintro I0 m _ Uw rfl;refine AJ (R:=λAQ a A=>AO S AQ a A) (AL (.int _ _)) ?_;intro JQ z Z le5 hz;refine AJ (iG ((((hA.mono Pm).mono Te).mono Uw).mono le5) .atomic hz) ?_;intro Ta _ _ le6 _
    exact AL (hz.mono le6)
def pR {a A:Addr}(h:BZ β a A)(hh:S.hid a.block=false):AX P S Ck G β (Go.frozen a) (Go.frozen A) (λ_ x X=>x=false->X=false):=by
 intro w W n hw ht Ce Cm _;have e1:(Go.frozen a).runT P.a w Ce=(.ok (w.frozen? a) w,Ce):=rfl;have e2:(Go.frozen A).runT P.b W Cm=(.ok (W.frozen? A) W,Cm):=rfl;rw[e1,e2];refine⟨β,W.frozen? A,W,[],by simp,λhz=>?_,Fin.refl hw⟩;obtain⟨o,O,h1,h2,h3⟩:=hw.CQ _ _ h.block hh;rw[aT,h1] at hz;rw[aT,h2];cases h3 with
 |cells ha hf =>
  simp only[yC,Option.getD_some,Zg] at hz ⊢;rw[<-h.off];refine Bool.eq_false_iff.2 λhc=>?_;simp only[xG,decide_eq_true_eq,Bool.decide_and] at hc;obtain⟨p,q⟩:=hf _ hc.1 hc.2;simp[p,q] at hz
 |_=>rfl
def rR {w W:World}(hw:BF S Ck G β w W){a A:Addr}(h:BZ β a A)(hh:S.hid a.block=true):w.cell? a=none:=by
 unfold World.cell?;rw[(hw.Db _ _ h.block hh).1]
def rS {a A:Addr}(h:BZ β a A)(hh:S.hid a.block=false):AX P S Ck G β (Extern.Atomic.touchesFrozen a) (Extern.Atomic.touchesFrozen A) (λ_ x X=>x=false->X=false):=by
 unfold Extern.Atomic.touchesFrozen;refine AJ (gu h.block) ?_;rintro Cp _ _ hle ⟨rfl,rfl⟩;exact pR (h.mono hle) hh
def NQ {w W:World}(hw:BF S Ck G β w W){a A:Addr}(h:BZ β a A)(hh:S.hid a.block=true)(es:Array Event):∃es',(Extern.Atomic.touchesFrozen a).runT P.a w es=(.ok false w,es'):=by
 have e0:(shape a.block).runT P.a w es=(.ok none w,es):=by
  show(Result.ok (w.shape? a.block) w,es)=_;unfold World.shape?;rw[(hw.Db _ _ h.block hh).1]
 have e1:(viewAt a.block).runT P.a w es=(.ok none w,es.push ⟨.obj a.block,false,false⟩):=by
  unfold viewAt;rw[ah,e0];simp only[zm,xP,if_false];rw[ah];have:(Go.getObj a.block).runT P.a w es=(.ok (.coro none) w,es.push ⟨.obj a.block,false,false⟩):=by
   simp only[Go.getObj,Sem.runT,(hw.Db _ _ h.block hh).1];rfl
  rw[this]
  rfl
 refine⟨es.push ⟨.obj a.block,false,false⟩,?_⟩;unfold Extern.Atomic.touchesFrozen;rw[ah,e1];show(Result.ok (w.frozen? a) w,_)=_;rw[aT,(hw.Db _ _ h.block hh).1]
 rfl
def rT {k:IntKind}(hk:k≠.u64){x X:Array Value}(h:AU S β x X):AX P S Ck G β (Extern.Atomic.casT (.int k) x) (Extern.Atomic.casT (.int k) X) (λAQ v V=>AO S AQ v V):=by
 have hl:=h.toList;obtain⟨l⟩:=x;obtain⟨L⟩:=X;simp only at hl;cases hl with
 |nil=>exact AR
 |cons ha hr =>
  cases hr with
  |nil=>exact AR
  |cons hb hr =>
   cases hr with
   |nil=>exact AR
   |cons hc hr =>
    cases hr with
    |cons _ _=>exact AR
    |nil =>
     refine AJ (dE ha) ?_;intro Cp a A OL hA;cases hh:S.hid a.block with
     |true =>
      refine pP λw W hw es=>?_;obtain⟨Uo,e1⟩:=NQ (P:=P) hw hA hh es;obtain⟨s,hs⟩:=(MX (P:=P) hw hA).1 true;have e2:∀es,(Extern.Atomic.read (.int k) a).runT P.a w es=(.halt (.stuck s) w,es):=λes=>by
       unfold Extern.Atomic.read;rw[ah];have:(Go.load a .atomic).runT P.a w es=(.halt (.stuck s) w,es):=by
        simp only[Go.load,Sem.runT,rR hw hA hh];have:(Mode.atomic==Mode.atomic)=true:=rfl;rw[this,hs]
       rw[this]
      refine⟨s,w,Uo,?_⟩;rw[ah,e1];simp only[xP,if_false];rw[ah];have e3:(pure PUnit.unit:Sem PUnit).runT P.a w Uo=(.ok PUnit.unit w,Uo):=rfl
      first
       |(rw[e3];simp only;rw[ah,ah,e2])
       |(rw[ah,e2])
       |(rw[e2])
     |false =>
      refine AJ (rS hA hh) ?_;intro Cb z Z Pm hz;cases z with
      |true=>exact AV (by intro g e;cases e)
      |false =>
       rw[hz rfl];simp only[xP,if_false];refine AJ (om hk (hA.mono Pm)) ?_;rintro Dh v V Te ⟨n1,rfl,rfl⟩;have hA3:=(hA.mono Pm).mono Te;have hb3:=((hb.mono OL).mono Pm).mono Te;have hc3:=((hc.mono OL).mono Pm).mono Te;have fin:∀(I0:Bc) (q:Bool),Dh.le I0->∀ {c C:Value},AO S Dh c C->AX P S Ck G I0 (do if q=true then do store a c .atomic;pure (Value.bool q) else pure (Value.bool q)) (do if q=true then do store A C .atomic;pure (Value.bool q) else pure (Value.bool q)) (λAQ v V=>AO S AQ v V):=by
        intro I0 q Uw c C hcc;cases q with
        |false=>exact AL (.bool _)
        |true =>
         refine AJ (iG (hA3.mono Uw) .atomic (hcc.mono Uw)) ?_;intro JQ _ _ _ _;exact AL (.bool _)
       have eqs:∀(q:Bool),AX P S Ck G Dh (pure q:Sem Bool) (pure q:Sem Bool) (λ_ a A=>a=A):=λq=>AL rfl;cases hb3 with
       |int k2 n2 =>
        refine AJ (m:=pure (n1==n2)) (R:=λ_ a A=>a=A) (AL rfl) ?_;rintro I0 q _ Uw rfl;exact fin I0 q Uw hc3
       |ptr o s hb =>
        cases n1 with
        |ofNat m =>
         cases m with
         |zero =>
          refine AJ (m:=pure false) (R:=λ_ a A=>a=A) (AL rfl) ?_;rintro I0 q _ Uw rfl;exact fin I0 q Uw hc3
         |succ m=>exact AJ (R:=λ_ _ _=>False) (AV (u:=.addressObserved) (by intro g e;cases e)) (λ_ _ _ _ h=>h.elim)
        |negSucc m=>exact AJ (R:=λ_ _ _=>False) (AV (u:=.addressObserved) (by intro g e;cases e)) (λ_ _ _ _ h=>h.elim)
       |blank _ _ =>
        cases n1 with
        |ofNat m=>cases m<;>exact DL ((show Dead P (stuck "atomic.CompareAndSwap: old is no T":Sem Bool) from λw es=>.inl ⟨_,_,_,rfl⟩).bind _)
        |negSucc m=>exact DL ((show Dead P (stuck "atomic.CompareAndSwap: old is no T":Sem Bool) from λw es=>.inl ⟨_,_,_,rfl⟩).bind _)
       |_ =>
        cases n1 with
        |ofNat m=>cases m<;>exact AJ (R:=λ_ _ _=>False) (AR (s := "atomic.CompareAndSwap: old is no T")) (λ_ _ _ _ h=>h.elim)
        |negSucc m=>exact AJ (R:=λ_ _ _=>False) (AR (s := "atomic.CompareAndSwap: old is no T")) (λ_ _ _ _ h=>h.elim)
end
def Hh (p:Program)(SB:FuncId->Bool)(lets:Bool)(f:FuncId):Bool:=match p.funcs[f]? with
 |some fn=>fn.name != "runtime.NumGoroutine"&&match fn.body with
  |some c=>codeOk p SB lets true c
  |none=>false
 |none=>false
def CI {p:Program}{SB:FuncId->Bool}{lets:Bool}{f:FuncId}(this:Hh p SB lets f=true):∃fn c,p.funcs[f]?=some fn/\fn.name ≠ "runtime.NumGoroutine"/\fn.body=some c/\codeOk p SB lets true c=true:=by
 unfold Hh at this;cases hq:p.funcs[f]? with
 |none=>rw[hq] at this;cases this
 |some fn =>
  rw[hq] at this;cases hb:fn.body with
  |none=>simp[hb] at this
  |some c=>simp[hb] at this;exact⟨fn,c,rfl,this.1,hb,this.2⟩
def FY (P:Bw)(f:FuncId):Prop:=∃fn Ew s,P.a.funcs[f]?=some fn/\P.fs[f]?=some Ew/\fn.name ≠ "runtime.NumGoroutine"/\Ew.name ≠ "runtime.NumGoroutine"/\fn.body=some (.refuse s)/\Ew.body.isSome=true
def dN {P:Bw}{S:CF}{Ck:Code->Prop}{G:Nat}{β:Bc}{f:FuncId}(h:FY P f)(hf:S.fn f){a A:Array Value}(ha:AU S β a A):AX P S Ck G β (callFunc f a) (callFunc f A) (Fe S Ck):=by
 obtain⟨fn,Ew,s,h1,h2,h3,h4,h5,h6⟩:=h;exact bJ h1 h2 h3 h4 (by rw[h5];rfl) h6 hf ha
def FY.bars {P:Bw}{f:FuncId}(h:FY P f):∃fn s,P.a.funcs[f]?=some fn/\fn.body=some (.refuse s):=by
 obtain⟨fn,Ew,s,h1,h2,h3,h4,h5,h6⟩:=h;exact⟨fn,s,h1,h5⟩
def ve {p:Program}{SB:FuncId->Bool}{H:Hid}{Gn:Nat}(h:∀f,SB f=true->Hh p SB false f=true)(Pw:∀f,aI SB f=true->FY (Bw.of p) f)(hg:p.globals.size<=Gn/\p.info? big=none):Lib (Bw.of p) SB H false SB Gn:=by
 refine⟨⟨hg.2,λf hf β a A ha=>?_⟩,λf hf=>?_,λf hf=>?_,hg.1,λf hf=>?_,λ_ h=>h,λf hf=>(Pw f hf).bars⟩
 .have Gt:=hf;rcases hf with hf|hf
  .obtain⟨fn,c,h1,h2,h3,_⟩:=CI (h f hf);exact bJ (P:=Bw.of p) h1 h1 h2 h2 (by rw[h3];rfl) (by rw[h3];rfl) Gt ha
  .exact dN (Pw f hf) Gt ha
 .obtain⟨fn,c,h1,_,h3,h4⟩:=CI (h f hf);exact⟨fn,c,h1,by rw[h3];rfl,h4,h1⟩
 .obtain⟨fn,c,h1,_,_,_⟩:=CI (h f hf);exact⟨fn,fn,h1,h1,rfl⟩
 .obtain⟨fn,c,h1,_,h3,_⟩:=CI (h f hf);have:=aO h1 (by rw[h3];rfl);exact⟨this,this⟩
def tJ {P:Bw}{SB BB:FuncId->Bool}{H:Hid}{lets:Bool}{Gn:Nat}(h:∀f,BB f=true->Hh P.a SB lets f=true)(same:∀f,BB f=true->P.fs[f]?=P.a.funcs[f]?)
  (stops:∀f,SB f=true->BB f=false->∃fn Ew,P.a.funcs[f]?=some fn/\P.fs[f]?=some Ew/\fn.results=Ew.results/\fn.name ≠ "runtime.NumGoroutine"/\Ew.name ≠ "runtime.NumGoroutine"/\fn.body.isSome=true/\Ew.body.isSome=true)
  (sub:∀f,BB f=true->SB f=true) (Pw:∀f,aI SB f=true->FY P f) (hg:P.a.globals.size<=Gn/\P.a.info? big=none):Lib P SB H lets BB Gn:=by
 refine⟨⟨hg.2,λf hf β a A ha=>?_⟩,λf hf=>?_,λf hf=>?_,hg.1,λf hf=>?_,sub,λf hf=>(Pw f hf).bars⟩
 .have Gt:=hf;rcases hf with hf|hf
  rotate_left
  .exact dN (Pw f hf) Gt ha
  cases hb:BB f with
  |true =>
   obtain⟨fn,c,h1,h2,h3,_⟩:=CI (h f hb);exact bJ h1 ((same f hb).trans h1) h2 h2 (by rw[h3];rfl) (by rw[h3];rfl) Gt ha
  |false =>
   obtain⟨fn,Ew,h1,h2,_,h3,h4,h5,h6⟩:=stops f hf hb;exact bJ h1 h2 h3 h4 h5 h6 Gt ha
 .obtain⟨fn,c,h1,_,h3,h4⟩:=CI (h f hf);exact⟨fn,c,h1,by rw[h3];rfl,h4,(same f hf).trans h1⟩
 .cases hb:BB f with
  |true =>
   obtain⟨fn,c,h1,_,_,_⟩:=CI (h f hb);exact⟨fn,fn,h1,(same f hb).trans h1,rfl⟩
  |false =>
   obtain⟨fn,Ew,h1,h2,h3,_⟩:=stops f hf hb;exact⟨fn,Ew,h1,h2,h3⟩
 .cases hb:BB f with
  |true =>
   obtain⟨fn,c,h1,_,h3,_⟩:=CI (h f hb);exact⟨aO h1 (by rw[h3];rfl),aO (p:=P.b) ((same f hb).trans h1) (by rw[h3];rfl)⟩
  |false =>
   obtain⟨fn,Ew,h1,h2,_,_,_,h5,h6⟩:=stops f hf hb;exact⟨aO h1 h5,aO (p:=P.b) h2 h6⟩
inductive Jc:(Array Value->Sem Value)->Prop
 |load (k:IntKind):Jc (Extern.Atomic.loadT (.int k))
 |add (k:IntKind):Jc (Extern.Atomic.update (Op.intArith .add) k true)
 |cas (k:IntKind):k≠.u64->Jc (Extern.Atomic.casT (.int k))
section
variable {P:Bw} {S:CF} {Ck:Code->Prop} {G:Nat} {β:Bc}
def pS {e:Array Value->Sem Value}(h:Jc e){a A:Array Value}(ha:AU S β a A):AX P S Ck G β (e a) (e A) (λAQ v V=>AO S AQ v V):=by
 cases h with
 |load k=>exact pQ k ha
 |add k=>exact rQ k ha
 |cas k hk=>exact rT hk ha
def La (P:Bw)(f:FuncId):Prop:=∃fn e,P.a.funcs[f]?=some fn/\P.fs[f]?=some fn/\(fn.name == "runtime.NumGoroutine")=false/\fn.body.isNone=true/\Extern.findNext fn=none/\Extern.find fn=some e/\Jc e/\iL fn.name=false
def je {f:FuncId}(h:La P f){a A:Array Value}(ha:AU S β a A):AX P S Ck G β (callFunc f a) (callFunc f A) (Fe S Ck):=by
 obtain⟨fn,e,h1,h2,h3,h4,h5,h6,h7,_⟩:=h;refine AJ aL ?_;rintro Cp p p' hle ⟨hp,Zk⟩;subst p p';rw[h1,show P.b.funcs[f]?=some fn from h2];simp only[h3,h4,h5,h6,xP,if_false,if_true];refine AJ (ol f) ?_;intro Cb _ _ Pm _;refine AJ (pS h7 ((ha.mono hle).mono Pm)) ?_;intro Dh v V _ hv;exact AL (.value hv)
def m8 {p:Program}{SB:FuncId->Bool}{H:Hid}{Gn:Nat}(h:∀f,SB f=true->Hh p SB false f=true\/La (Bw.of p) f)(Pw:∀f,aI SB f=true->FY (Bw.of p) f)(hg:p.globals.size<=Gn/\p.info? big=none):Lib (Bw.of p) SB H false SB Gn:=by
 refine⟨⟨hg.2,λf hf β a A ha=>?_⟩,λf hf=>?_,λf hf=>?_,hg.1,λf hf=>?_,λ_ h=>h,λf hf=>(Pw f hf).bars⟩
 .have Gt:=hf;rcases hf with hf|hf
  rotate_left
  .exact dN (Pw f hf) Gt ha
  rcases h f hf with h0|h0
  .obtain⟨fn,c,h1,h2,h3,_⟩:=CI h0;exact bJ (P:=Bw.of p) h1 h1 h2 h2 (by rw[h3];rfl) (by rw[h3];rfl) Gt ha
  .exact je h0 ha
 .rcases h f hf with h0|⟨fn,e,h1,h2,_,h4,_⟩
  .obtain⟨fn,c,h1,_,h3,h4⟩:=CI h0;exact⟨fn,c,h1,by rw[h3];rfl,h4,h1⟩
  .refine⟨fn,_,h1,rfl,?_,h2⟩;have:fn.body=none:=by simpa using h4
   rw[this];rfl
 .rcases h f hf with h0|⟨fn,e,h1,h2,_⟩
  .obtain⟨fn,c,h1,_,_,_⟩:=CI h0;exact⟨fn,fn,h1,h1,rfl⟩
  .exact⟨fn,fn,h1,h2,rfl⟩
 .rcases h f hf with h0|⟨fn,e,h1,h2,_,_,_,_,_,h8⟩
  .obtain⟨fn,c,h1,_,h3,_⟩:=CI h0;have:=aO h1 (by rw[h3];rfl);exact⟨this,this⟩
  .exact⟨dA h1 h8,dA (p:=(Bw.of p).b) h2 h8⟩
def im {P:Bw}{SB BB:FuncId->Bool}{H:Hid}{lets:Bool}{Gn:Nat}(h:∀f,BB f=true->(Hh P.a SB lets f=true/\P.fs[f]?=P.a.funcs[f]?)\/La P f)
  (stops:∀f,SB f=true->BB f=false->∃fn Ew,P.a.funcs[f]?=some fn/\P.fs[f]?=some Ew/\fn.results=Ew.results/\fn.name ≠ "runtime.NumGoroutine"/\Ew.name ≠ "runtime.NumGoroutine"/\fn.body.isSome=true/\Ew.body.isSome=true)
  (sub:∀f,BB f=true->SB f=true) (Pw:∀f,aI SB f=true->FY P f) (hg:P.a.globals.size<=Gn/\P.a.info? big=none):Lib P SB H lets BB Gn:=by
 refine⟨⟨hg.2,λf hf β a A ha=>?_⟩,λf hf=>?_,λf hf=>?_,hg.1,λf hf=>?_,sub,λf hf=>(Pw f hf).bars⟩
 .have Gt:=hf;rcases hf with hf|hf
  rotate_left
  .exact dN (Pw f hf) Gt ha
  cases hb:BB f with
  |true =>
   rcases h f hb with⟨h0,hs⟩|h0
   .obtain⟨fn,c,h1,h2,h3,_⟩:=CI h0;exact bJ h1 (hs.trans h1) h2 h2 (by rw[h3];rfl) (by rw[h3];rfl) Gt ha
   .exact je h0 ha
  |false =>
   obtain⟨fn,Ew,h1,h2,_,h3,h4,h5,h6⟩:=stops f hf hb;exact bJ h1 h2 h3 h4 h5 h6 Gt ha
 .rcases h f hf with⟨h0,hs⟩|⟨fn,e,h1,h2,_,h4,_⟩
  .obtain⟨fn,c,h1,_,h3,h4⟩:=CI h0;exact⟨fn,c,h1,by rw[h3];rfl,h4,hs.trans h1⟩
  .refine⟨fn,_,h1,rfl,?_,h2⟩;have:fn.body=none:=by simpa using h4
   rw[this];rfl
 .cases hb:BB f with
  |true =>
   rcases h f hb with⟨h0,hs⟩|⟨fn,e,h1,h2,_⟩
   .obtain⟨fn,c,h1,_,_,_⟩:=CI h0;exact⟨fn,fn,h1,hs.trans h1,rfl⟩
   .exact⟨fn,fn,h1,h2,rfl⟩
  |false =>
   obtain⟨fn,Ew,h1,h2,h3,_⟩:=stops f hf hb;exact⟨fn,Ew,h1,h2,h3⟩
 .cases hb:BB f with
  |true =>
   rcases h f hb with⟨h0,hs⟩|⟨fn,e,h1,h2,_,_,_,_,_,h8⟩
   .obtain⟨fn,c,h1,_,h3,_⟩:=CI h0;exact⟨aO h1 (by rw[h3];rfl),aO (p:=P.b) (hs.trans h1) (by rw[h3];rfl)⟩
   .exact⟨dA h1 h8,dA (p:=P.b) h2 h8⟩
  |false =>
   obtain⟨fn,Ew,h1,h2,_,_,_,h5,h6⟩:=stops f hf hb;exact⟨aO h1 h5,aO (p:=P.b) h2 h6⟩
end
end Go.Bl
namespace Go.Co
open Go.Bl Go.Conc
def bC (p:Program):List Item->Bool
 |.inRegion ops (i::_)::_=>match ops[i]? with
  |some o=>aF p o.op
  |none=>true
 |_=>true
section
variable {p:Program} {BB:FuncId->Bool} {Q:Goroutine->World->Prop} {b:Frame} {a:Act} {todo:List Item} {cs:List Frame} {w:World}
def iM (h:bC p todo=true):∀o,(b.at a todo).oper?=some o->aF p o.op=true:=by
 intro o ho;unfold Frame.oper? Frame.at at ho;dsimp only at ho
 match todo,h,ho with
 |.inRegion ops (i::rest)::k,h,ho =>
  simp only[bC] at h;have Mb:ops[i]?=some o:=ho;rw[Mb] at h;exact h
 |[],_,ho=>cases ho
 |.inRegion ops []::k,_,ho=>cases ho
 |.code c::k,_,ho=>cases ho
 |.inBlock i::k,_,ho=>cases ho
 |.inLoop c::k,_,ho=>cases ho
 |.inScope c::k,_,ho=>cases ho
 |.inRangeFunc l::k,_,ho=>cases ho
 |.endRangeFunc l::k,_,ho=>cases ho
 |.beginRound::k,_,ho=>cases ho
 |.call _ _ _ _::k,_,ho=>cases ho
def AZ.own (hQ:∀g w W,Bh w W->Q g w->Q g W)(hf:BB b.fn=true)(hg:bC p todo=true)(h:∀τ d,(stepG p true (G (b.at a todo) cs) (on w τ d)).goes (λg' w' _=>g'.callers≠[]/\∃W,Bh W w'/\AZ p (B8 p BB) Q g' W)) :
  AZ p (B8 p BB) Q (G (b.at a todo) cs) w:=by
 refine AZ.step ⟨hf,iM hg⟩ λτ d=>?_;have:=h τ d;cases hs:stepG p true (G (b.at a todo) cs) (on w τ d) with
 |go g' w' es =>
  rw[hs] at this;obtain⟨h1,W,h2,h3⟩:=this;exact⟨g',w',es,rfl,h1,h3.same (λ_ _ _ _ x=>x) hQ h2⟩
 |_=>rw[hs] at this;exact this.elim
end
section
variable {P:Program} {main:Bool} {b:Frame} {a:Act} {k:List Item} {cs:List Frame} {w:World}
def aB {ops:Array Oper}{i:Nat}{rest:List Nat}{o:Oper}{K:Goroutine->World->Array Event->Prop}{f:FuncId}{fn:Func}{args:Array Operand}{ats:Array TypeId}
  (ho:ops[i]?=some o) (hw:Region.wanted o (yielded ops a.tmps)=true) (hk:b.kind≠.early) (hop:o.op=.call { callee:=.value (.func f),args,argTypes:=ats })
  (hf:P.funcs[f]?=some fn) (hname:(fn.name == "runtime.NumGoroutine")=false) (hb:fn.body.isNone=false)
  (h:K (G (Frame.enter P f (args.map a.eval) .normal) (b.at a (.inRegion ops (i::rest)::k)::cs)) w #[]) :
  (stepG P main (G (b.at a (.inRegion ops (i::rest)::k)) cs) w).goes K:=by
 rw[stepG_enter ho hw hk (run_call_body hop hf hname hb)];have:listed P b.fn a o w=#[]:=by unfold listed;rw[events_call_body hop hf hname hb];exact seen_none P _
 rw[this];exact h
end
end Go.Co
