/- Parts of the proof. -/
import Derived.Test.YtgicaeombogkcaaGreatP05
set_option linter.all false
namespace Go.Iso
def Mild {α:Type}:Result α×Array Event->Prop
 | (.ok _ _,_)=>True
 | (.halt (.panic _) _,_)=>True
 | (.halt (.stuck _) _,_)=>True
 | (.halt (.unsupported u) _,_)=>∀ g,u≠.initOrder g
 | _=>False
section
variable {P:Two} {S:Par} {Ck:Code->Prop} {G:Nat} {β:Bij}
theorem SRel.mild {α α':Type} {m:Sem α} {M:Sem α'} {R:Bij->α->α'->Prop} (h:SRel P S Ck G β m M R) {w W:World} (hw:WRel S Ck G β w W) (es0:Array Event):Mild (m.runT P.a w es0):=by
 have hw':WRel S Ck G β w { W with tape:=fun i q=>w.tape (w.drawn+(i - W.drawn)) q }:=⟨hw.fine,hw.room,hw.objs,hw.hids,hw.old,hw.env⟩
 have hd:=drawn_mono P.a m w es0
 have:=h w { W with tape:=fun i q=>w.tape (w.drawn+(i - W.drawn)) q } ((world (m.runT P.a w es0).1).drawn - w.drawn) hw' (fun i _ q=>by
  show w.tape (w.drawn+i) q=w.tape (w.drawn+(W.drawn+i - W.drawn)) q
  rw [show W.drawn+i - W.drawn=i from by omega]) es0 #[] (by omega)
 revert this
 generalize m.runT P.a w es0=r
 obtain ⟨r,es⟩:=r
 cases r with
 | ok a w'=>exact fun _=>trivial
 | halt x w'=>cases x with
  | panic v=>exact fun _=>trivial
  | stuck s=>exact fun _=>trivial
  | unsupported u=>exact id
  | _=>exact id
theorem SRel.some {α α':Type} {m:Sem α} {M:Sem α'} {R:Bij->α->α'->Prop} (h:SRel P S Ck G β m M R) {w W:World} (hw:WRel S Ck G β w W) {es0 es:Array Event} {a:α} {w':World} (hr:m.runT P.a w es0=(.ok a w',es)):∃ β' A,R β' a A:=by
 have hw':WRel S Ck G β w { W with tape:=fun i q=>w.tape (w.drawn+(i - W.drawn)) q }:=⟨hw.fine,hw.room,hw.objs,hw.hids,hw.old,hw.env⟩
 have hd:=drawn_mono P.a m w es0
 have:=h w { W with tape:=fun i q=>w.tape (w.drawn+(i - W.drawn)) q } ((world (m.runT P.a w es0).1).drawn - w.drawn) hw' (fun i _ q=>by
  show w.tape (w.drawn+i) q=w.tape (w.drawn+(W.drawn+i - W.drawn)) q
  rw [show W.drawn+i - W.drawn=i from by omega]) es0 #[] (by omega)
 rw [hr] at this
 obtain ⟨β',A,_,_,_,h,_⟩:=this
 exact ⟨β',A,h⟩
end
def aC:GStep->World
 | .go _ w _ | .comm _ _ _ _ w _ | .spawn _ _ w _ | .count _ w _ | .timer _ _ w _ | .alone _ _ w _ | .newcoro _ _ _ w _ | .coroswitch _ _ _ w _ | .collect _ w _ | .watch _ w _ | .ended _ w _=>w
section
variable (P:Two) (SB:FuncId->Bool) (H:Hid) (lets:Bool) (BB:FuncId->Bool) (T:List Frame) (G:Nat)
def Gone (g:Goroutine):Prop:=(∃ fr,g={ frame:=fr,callers:=[],status:=.running,dying:=none })∧∀ (P:Program) (w:World),∃ o w' es,stepG P true g w=.ended o w' es
theorem dead_bad:Gone { frame:=bad,callers:=[],status:=.running,dying:=none }:=⟨⟨_,rfl⟩,fun _ _=>⟨_,_,_,rfl⟩⟩
theorem mn (l:List PanicEntry):Gone { frame:=bad.raise l,callers:=[],status:=.running,dying:=none }:=⟨⟨_,rfl⟩,fun _ _=>⟨_,_,_,rfl⟩⟩
def StepRel (β:Bij) (w W:World):GStep->GStep->Prop
 | .go g w' _,s=>(g.callers=[]∧Gone g)∨∃ β' g2 W' ES,s=.go g2 W' ES∧GRel P SB H lets BB T β' g g2∧Fin (SP SB H) (CK P.a SB lets) G β β' w W w' W' ES.toList
 | .ended _ _ _,_=>True
 | _,_=>False
end
section
variable {P:Two} {SB:FuncId->Bool} {H:Hid} {lets:Bool} {BB:FuncId->Bool} {T:List Frame} {β β':Bij} {Gn:Nat}
structure Lib (P:Two) (SB:FuncId->Bool) (H:Hid) (lets:Bool) (BB:FuncId->Bool) (Gn:Nat):Prop where
 calls:CallsOk P (SP SB H) (CK P.a SB lets) Gn
 body:∀ f,BB f=true->∃ fn c,P.a.funcs[f]?=some fn∧fn.body.getD (.refuse "unsupported: a function without a Go body is entered")=c∧codeOk P.a SB lets true c=true∧P.fs[f]?=some fn
 like:∀ f,SB f=true->∃ fn fn',P.a.funcs[f]?=some fn∧P.fs[f]?=some fn'∧fn.results=fn'.results
 glob:P.a.globals.size<=Gn
 nm:∀ f,SB f=true->cH P.a f=false∧cH P.b f=false
 sub:∀ f,BB f=true->SB f=true
 bars:∀ f,aB SB f=true->∃ fn s,P.a.funcs[f]?=some fn∧fn.body=some (.refuse s)
theorem enter_rel (L:Lib P SB H lets BB Gn) {f:FuncId} (hf:SB f=true∨aB SB f=true) {a A:Array Value} (h:AsRel (SP SB H) β a A) (k:CallKind) (hk:k≠.early) :
  TopRel P SB H lets BB β (Frame.enter P.a f a k) (Frame.enter P.b f A k):=by
 cases hb:BB f with
 | false=>exact .stop hf hb hk h
 | true =>
  obtain ⟨fn,c,h1,h2,h3,h4⟩:=L.body f hb
  have h4':P.b.funcs[f]?=some fn:=h4
  refine .on ⟨rfl,?_,?_,.nil,.run,rfl,⟨hk,L.sub f hb⟩,.none⟩
  ·unfold Frame.enter
   dsimp only
   rw [h.size,h1,h4']
   exact h.append (AsRel.replicate (.tuple rfl (by simp)) _)
  ·unfold Frame.enter
   simp only [h1,h4',h2,Option.bind_some,Option.getD_some]
   exact .cons (.code h3) .nil
theorem cY {l L:Nat} (hl:β l L) (hh:H l=false) (f:FuncId) (hf:SB f=true) {x X:Array Value} (hx:AsRel (SP SB H) β x X) {s5 bo:Code} (h1:codeOk P.a SB lets false s5=true) (h2:codeOk P.a SB lets false bo=true) (k:CallKind) (hk:k≠.early) :
  FrRel P.a SB H lets β (Frame.round l f x s5 bo k) (Frame.round L f X s5 bo k) :=
 ⟨rfl,hx,.cons (.code h1) (.cons .beginRound (.cons (.code h2) .nil)),.nil,.run,rfl,⟨hk,hf⟩,.some hl hh⟩
theorem aS {f F:Frame} (h:FrRel P.a SB H lets β f F) {v V:Value} (hv:VRel (SP SB H) β v V):FrRel P.a SB H lets β (f.finish v) (F.finish V):=by
 obtain ⟨fn,tmps,todo,defers,mode,kind,round⟩:=f
 obtain ⟨fn',tmps',todo',defers',mode',kind',round'⟩:=F
 obtain ⟨h1,h2,h3,h4,h5,h6,h7,h8⟩:=h
 dsimp only at *
 unfold Frame.finish
 cases h3 with
 | nil=>exact ⟨h1,h2,.nil,h4,h5,h6,h7,h8⟩
 | @cons i I l L hi hl =>
  have h3':LRel (IRel P.a SB H lets round.isNone β) (i :: l) (I :: L):=.cons hi hl
  cases hi with
  | inRegion ho =>
   rename_i ops todo
   cases todo with
   | nil=>exact ⟨h1,h2,h3',h4,h5,h6,h7,h8⟩
   | cons j rest =>
    refine ⟨h1,?_,.cons (.inRegion ho) hl,h4,h5,h6,h7,h8⟩
    dsimp only
    cases (ops[j]?).bind (·.dst) with
    | none=>exact h2
    | some d=>exact h2.set d hv
  | inRangeFunc a b=>exact ⟨h1,h2,.cons (.endRangeFunc a b) hl,h4,h5,h6,h7,h8⟩
  | beginRound=>exact ⟨h1,h2,hl,h4,h5,h6,h7,h8⟩
  | code c=>exact ⟨h1,h2,h3',h4,h5,h6,h7,h8⟩
  | inBlock id=>exact ⟨h1,h2,h3',h4,h5,h6,h7,h8⟩
  | inLoop c=>exact ⟨h1,h2,h3',h4,h5,h6,h7,h8⟩
  | inScope c=>exact ⟨h1,h2,h3',h4,h5,h6,h7,h8⟩
  | endRangeFunc a b=>exact ⟨h1,h2,h3',h4,h5,h6,h7,h8⟩
theorem bS {f F:Frame} (h:FrRel P.a SB H lets β f F) {l L:List PanicEntry} (hl:LRel (PRel SB H β) l L):FrRel P.a SB H lets β (f.raise l) (F.raise L):=by
 obtain ⟨fn,tmps,todo,defers,mode,kind,round⟩:=f
 obtain ⟨fn',tmps',todo',defers',mode',kind',round'⟩:=F
 obtain ⟨h1,h2,h3,h4,h5,h6,h7,h8⟩:=h
 dsimp only at *
 unfold Frame.raise
 cases h5 with
 | run=>exact ⟨h1,h2,h3,h4,.panicking hl,h6,h7,h8⟩
 | returning=>exact ⟨h1,h2,h3,h4,.panicking hl,h6,h7,h8⟩
 | panicking hc=>exact ⟨h1,h2,h3,h4,.panicking (hl.append hc),h6,h7,h8⟩
theorem aD {f F:Frame} {cs CS:List Frame} (h:FrRel P.a SB H lets β f F) (hc:CsRel P.a SB H lets T β cs CS) :
  GRel P SB H lets BB T β { frame:=f,callers:=cs,status:=.running,dying:=none } { frame:=F,callers:=CS,status:=.running,dying:=none } :=
 ⟨.on h,hc,⟨rfl,rfl⟩,⟨rfl,rfl⟩,⟨rfl,rfl⟩⟩
theorem Fin.seen {w W w' W':World} {ES:List Event} (h:Fin (SP SB H) (CK P.a SB lets) Gn β β' w W w' W' ES) (fn:FuncId):Fin (SP SB H) (CK P.a SB lets) Gn β β' w W w' W' (seen P.b fn ES.toArray).toList :=
 { h with evs:=fun ht E hE=>h.evs ht E (by have:=mem_seen (p:=P.b) (fn:=fn) (E:=E) (es:=ES.toArray) (by simpa using hE);simpa using this) }
theorem fy (L:Lib P SB H lets BB Gn) {fr FR:Frame} {cs CS:List Frame} (hf:FrRel P.a SB H lets β fr FR) (hc:CsRel P.a SB H lets T β cs CS) {m M:Sem Next}
  (hm:SRel P (SP SB H) (CK P.a SB lets) Gn β m M (NRel (SP SB H) (CK P.a SB lets))) {w W:World} {n:Nat} (hw:WRel (SP SB H) (CK P.a SB lets) Gn β w W) (ht:TRel n w W)
  (hb:(aC (stepG.apply P.a true fr cs none m w)).drawn<=w.drawn+n) :
  StepRel P SB H lets BB T Gn β w W (stepG.apply P.a true fr cs none m w) (stepG.apply P.b true FR CS none M W):=by
 have hmild:=hm.mild hw #[]
 have hkd:fr.kind=FR.kind:=hf.kind
 have le1:(fr.kind==.early)=false:=by simpa using hf.late.1
 have le2:(FR.kind==.early)=false:=by rw [<- hkd];exact le1
 have hE:=hm w W n hw ht #[] #[]
 have hsome:=fun (a:Next) (w':World) (es:Array Event) (e:m.runT P.a w #[]=(.ok a w',es))=>hm.some hw e
 have hkc:∀ {d:Deferred} {b:Bool} {r:String} {x:Array Value} {k:List Item},fr.todo=.call d b r x :: k->False:=by
  intro d b r x k h
  have:=hf.todo
  rw [h] at this
  generalize FR.todo=T at this
  cases this with
  | cons hi _=>cases hi
 have hkc':∀ {d:Deferred} {b:Bool} {r:String} {x:Array Value} {k:List Item},FR.todo=.call d b r x :: k->False:=by
  intro d b r x k h
  have:=hf.todo
  rw [h] at this
  generalize fr.todo=T at this
  cases this with
  | cons hi _=>cases hi
 unfold stepG.apply at hb ⊢
 simp only [if_true,le1,le2,Bool.false_eq_true,if_false] at hb ⊢
 rcases hr:m.runT P.a w #[] with ⟨r,es⟩
 rw [hr] at hE hmild hb
 cases r with
 | ok x w' =>
  obtain ⟨_,_,hx⟩:=hsome x w' es hr
  have hbw:w'.drawn<=w.drawn+n:=by cases hx<;>exact hb
  obtain ⟨β',X,W',ES,e1,e2,e3⟩:=hE hbw
  rw [e1]
  simp only [Array.empty_append]
  have hf':=hf.mono e3.le
  have hc':=hc.mono fun _ _ (r:FrRel P.a SB H lets β _ _)=>r.mono e3.le
  have e3':=e3.seen (P:=P) (SB:=SB) (H:=H) (lets:=lets) FR.fn
  cases e2 with
  | value hv=>exact Or.inr ⟨β',_,W',_,rfl,aD (aS hf' hv) hc',by simpa using e3'⟩
  | skip=>exact Or.inr ⟨β',_,W',_,rfl,aD (aS hf' (.tuple rfl (by simp))) hc',by simpa using e3'⟩
  | enter hs ha =>
   refine Or.inr ⟨β',_,W',_,rfl,⟨?_,.cons hf' hc',⟨rfl,rfl⟩,⟨rfl,rfl⟩,⟨rfl,rfl⟩⟩,by simpa using e3'⟩
   split
   ·exact (hkc ‹_›).elim
   ·split
    ·exact (hkc' ‹_›).elim
    ·exact enter_rel L hs ha .normal (by simp)
  | round hl hh hx h1 h2=>exact Or.inr ⟨β',_,W',_,rfl,aD (cY hl hh.1 _ hh.2 (by assumption) h1 h2 .normal (by simp)) (.cons hf' hc'),by simpa using e3'⟩
  | defer hd=>exact Or.inr ⟨β',_,W',_,rfl,aD (aS (f:={ fr with defers:=_ :: fr.defers }) (F:={ FR with defers:=_ :: FR.defers }) ⟨hf'.fn,hf'.tmps,hf'.todo,.cons hd hf'.defers,hf'.mode,hf'.kind,hf'.late,hf'.round⟩ (.tuple rfl (by simp))) hc',by simpa using e3'⟩
 | halt x w' =>
  cases x with
  | panic v =>
   obtain ⟨β',X,W',ES,e1,e2,e3⟩:=hE hb
   rw [e1]
   simp only [Array.empty_append]
   have hf':=hf.mono e3.le
   have hc':=hc.mono fun _ _ (r:FrRel P.a SB H lets β _ _)=>r.mono e3.le
   have e3':=e3.seen (P:=P) (SB:=SB) (H:=H) (lets:=lets) FR.fn
   exact Or.inr ⟨β',_,W',_,rfl,aD (bS hf' (.cons (.mk _ _ e2) .nil)) hc',by simpa using e3'⟩
  | stuck s=>trivial
  | unsupported u =>
   cases u with
   | initOrder g=>exact absurd rfl (hmild g)
   | _=>trivial
  | _=>exact hmild.elim
end
section
variable {P:Two} {S:Par} {Ck:Code->Prop} {G:Nat} {β:Bij}
theorem jM (fn:FuncId) (hfn:S.fr fn) {x X:Array Value} (hx:AsRel S β x X) (ps:Array Tmp) {s5 bo:Code} (h1:Ck s5) (h2:Ck bo) {o O:Option Nat} (ho:(o=none∧O=none)∨∃ l L,o=some l∧O=some L∧β l L∧S.hid l=false) :
  SRel P S Ck G β (Instr.enterLoop fn x ps s5 bo o) (Instr.enterLoop fn X ps s5 bo O) (fun β' r R=>β' r.1 R.1∧S.hid r.1=false∧LRel (DRel S β') r.2 R.2):=by
 have fin : ∀ (β' : Bij) (d D : Nat) (m M : List Deferred), β.le β' -> β' d D -> S.hid d = false -> LRel (DRel S β') m M -> SRel P S Ck G β' (do
   pure (<- newObj (.loop { state:=.ready,pending:=none,fn,tmps:=x,params:=ps,assign:=s5,body:=bo,defers:=d }),m):Sem (Nat×List Deferred)) (do
   pure (<- newObj (.loop { state:=.ready,pending:=none,fn,tmps:=X,params:=ps,assign:=s5,body:=bo,defers:=D }),M):Sem (Nat×List Deferred)) (fun β' r R=>β' r.1 R.1∧S.hid r.1=false∧LRel (DRel S β') r.2 R.2):=by
  intro β' d D m M hle hd hk hm
  refine sr_bind (gP (.loop ⟨hfn,fun c e=>by cases e⟩ h1 h2 (hx.mono hle) hd hk) (fun i=>ORel.id (S:=S) (Ck:=Ck) i (.loop ⟨hfn,fun c e=>by cases e⟩ h1 h2 (hx.mono hle) hd hk) (by simp))) ?_
  rintro β2 b B hle2 ⟨hb,hb'⟩
  exact sr_pure ⟨hb,hb',hm.mono fun _ _=>DRel.mono hle2⟩
 unfold Instr.enterLoop
 rcases ho with ⟨rfl,rfl⟩ | ⟨l,L,rfl,rfl,hl,hk⟩
 ·refine sr_bind (gP (.defs .nil) (fun _=>rfl)) ?_
  rintro β2 b B hle2 ⟨hb,hb'⟩
  refine sr_bind (sr_pure (R:=fun β' (a A:Nat×List Deferred)=>β2.le β'∧a=(b,[{ target:=.collected b,args:=#[] }])∧A=(B,[{ target:=.collected B,args:=#[] }])) ⟨β2.le_refl,rfl,rfl⟩) ?_
  rintro β3 a A hle3 ⟨_,rfl,rfl⟩
  exact fin β3 _ _ _ _ (Bij.le_trans hle2 hle3) (hle3 _ _ hb) hb' (.cons (.collected (hle3 _ _ hb) hb') .nil)
 ·refine sr_bind (cC hl hk) ?_
  rintro β2 r R hle2 ⟨_,_,_,_,_,_,_,_,_,_,hd,hdk⟩
  refine sr_bind (sr_pure (R:=fun β' (a A:Nat×List Deferred)=>β2.le β'∧a=(r.defers,[])∧A=(R.defers,[])) ⟨β2.le_refl,rfl,rfl⟩) ?_
  rintro β3 a A hle3 ⟨_,rfl,rfl⟩
  exact fin β3 _ _ _ _ (Bij.le_trans hle2 hle3) (hle3 _ _ hd) hdk .nil
theorem iI {β:Bij} {r R:Loop} (h:r.state=R.state∧r.pending=R.pending∧(S.fr r.fn∧∀ c,r.pending=some c->Ck c)∧r.fn=R.fn∧AsRel S β r.tmps R.tmps∧r.params=R.params∧r.assign=R.assign∧r.body=R.body∧Ck r.assign∧Ck r.body∧β r.defers R.defers∧S.hid r.defers=false)
  (st:LoopState) (pe:Option Code) (hp:S.fr r.fn∧∀ c,pe=some c->Ck c):ORel S Ck β (.loop { r with state:=st,pending:=pe }) (.loop { R with state:=st,pending:=pe }):=by
 obtain ⟨h1,h2,h3,h4,h5,h6,h7,h8,h9,h10,h11,h12⟩:=h
 rw [<- h4,<- h6,<- h7,<- h8]
 exact .loop hp h9 h10 h5 h11 h12
theorem js {l L:Nat} (hl:β l L) (hk:S.hid l=false):SRel P S Ck G β (Instr.beginRound l) (Instr.beginRound L) (fun _ _ _=>True):=by
 refine sr_bind (cC hl hk) ?_
 intro β2 r R hle2 h
 have hst:=h.1
 have hpe:=h.2.1
 have ho:=iI h .busy r.pending h.2.2.1
 rw [show ({ R with state:=LoopState.busy,pending:=r.pending }:Loop)={ R with state:=.busy } from by rw [hpe]] at ho
 refine sr_bind (dR (hle2 _ _ hl) hk ho rfl) ?_
 intro β3 _ _ _ _
 rw [hst]
 cases R.state with
 | ready=>exact sr_pure trivial
 | _=>exact ar (.error _) trivial
theorem kN {l L:Nat} (hl:β l L) (hk:S.hid l=false) (j:Option Code) (hj:∀ c,j=some c->Ck c):SRel P S Ck G β (Instr.endRound l j) (Instr.endRound L j) (fun β' v V=>VRel S β' v V):=by
 refine sr_bind (cC hl hk) ?_
 intro β2 r R hle2 h
 refine sr_bind (dR (hle2 _ _ hl) hk (iI h _ j ⟨h.2.2.1.1,hj⟩) rfl) ?_
 intro β3 _ _ _ _
 exact sr_pure (.bool _)
theorem mo {l L:Nat} (hl:β l L) (hk:S.hid l=false):SRel P S Ck G β (Instr.endLoop l) (Instr.endLoop L) (fun _ a A=>a=A∧∀ c,a=some c->Ck c):=by
 refine sr_bind (cC hl hk) ?_
 intro β2 r R hle2 h
 have hst:=h.1
 have hpe:=h.2.1
 have ho:=iI h .exhausted r.pending h.2.2.1
 rw [show ({ R with state:=LoopState.exhausted,pending:=r.pending }:Loop)={ R with state:=.exhausted } from by rw [hpe]] at ho
 have main : ∀ β3, β2.le β3 -> SRel P S Ck G β3 (do
   setObj l (.loop { r with state:=.exhausted })
   pure r.pending:Sem (Option Code)) (do
   setObj L (.loop { R with state:=.exhausted })
   pure R.pending:Sem (Option Code)) (fun _ a A=>a=A∧∀ c,a=some c->Ck c):=by
  intro β3 hle3
  refine sr_bind (dR (hle3 _ _ (hle2 _ _ hl)) hk (ho.mono hle3) rfl) ?_
  intro β4 _ _ _ _
  exact sr_pure ⟨hpe,h.2.2.1.2⟩
 rw [hst]
 by_cases hb:(R.state==.busy)=true
 ·simp only [hb,if_true]
  exact sr_bind (R:=fun _ _ _=>False) (ar (.error _) trivial) (fun _ _ _ _ h=>h.elim)
 ·simp only [hb,if_false,Bool.false_eq_true]
  exact main β2 β2.le_refl
theorem gV {b B:Nat} (hb:β b B) (hk:S.hid b=false):SRel P S Ck G β (Instr.takeDeferred b) (Instr.takeDeferred B) (fun β' l L=>LRel (DRel S β') l L):=by
 refine sr_bind (dQ hb hk) ?_
 intro β3 o O hle3 ho
 cases ho with
 | defs hds =>
  refine sr_bind (dR (hle3 _ _ hb) hk .taken rfl) ?_
  intro β4 _ _ hle4 _
  exact sr_pure (hds.mono fun _ _=>DRel.mono hle4)
 | _=>exact fun _ _ _ _ _ _ _ _=>trivial
theorem gd {α γ:Type} {f F:α->Sem γ} {R:Bij->γ->γ->Prop} (hR:∀ β β',β.le β'->∀ a A,R β a A->R β' a A):∀ (l:List α) (β:Bij),(∀ x∈l,∀ β',β.le β'->SRel P S Ck G β' (f x) (F x) R) ->
  SRel P S Ck G β (l.mapM f) (l.mapM F) (fun β' a A=>LRel (R β') a A)
 | [],β,_=>by simp only [List.mapM_nil];exact sr_pure .nil
 | x :: l,β,h=>by
  simp only [List.mapM_cons]
  refine sr_bind (h x (by simp) β β.le_refl) ?_
  intro β1 a A hle1 ha
  refine sr_bind (gd hR l β1 fun y hy β' hle=>h y (by simp [hy]) β' (Bij.le_trans hle1 hle)) ?_
  intro β2 b B hle2 hb
  exact sr_pure (.cons (hR _ _ hle2 _ _ ha) hb)
theorem gW (fn:Func) {x X:Array Value} (hx:AsRel S β x X):SRel P S Ck G β (results fn x) (results fn X) (fun β' v V=>VRel S β' v V):=by
 unfold results
 rw [Array.mapM_eq_mapM_toList,Array.mapM_eq_mapM_toList]
 have hu:∀ β,VRel S β undef undef:=fun β=>.tuple rfl (by simp)
 have h := gd (P := P) (S := S) (Ck := Ck) (G := G) (f := fun (r : ResultVar) => match r with
   | .tmp t=>pure (x.getD t undef)
   | .cell a t=>do loadVar t (<- asAddr (x.getD a undef))) (F:=fun (r:ResultVar)=>match r with
   | .tmp t=>pure (X.getD t undef)
   | .cell a t=>do loadVar t (<- asAddr (X.getD a undef))) (R:=fun β' v V=>VRel S β' v V) (fun _ _ h _ _ r=>r.mono h) fn.results.toList β (fun r _ β' hle=>by
    cases r with
    | tmp t=>exact sr_pure ((hx.mono hle).getD t (hu _))
    | cell a t =>
     refine sr_bind (cX ((hx.mono hle).getD a (hu _))) ?_
     intro β2 p Q _ hp
     exact gQ t hp)
 refine sr_bind (R:=fun β' a A=>AsRel S β' a A) ?_ ?_
 ·refine sr_bind h ?_
  intro β2 l L _ hl
  exact sr_pure hl.toArray
 ·intro β2 v V _ hv
  refine sr_pure ?_
  have hs:=hv.size
  by_cases h1:v.size=1
  ·have h2:V.size=1:=by omega
   rw [dif_pos h1,dif_pos h2]
   exact hv.at_ 0 _ _ (Array.getElem?_eq_getElem _) (Array.getElem?_eq_getElem _)
  ·have h2:¬ V.size=1:=by omega
   rw [dif_neg h1,dif_neg h2]
   exact hv.tuple
end
section
variable {P:Two} {SB:FuncId->Bool} {H:Hid} {lets:Bool} {BB:FuncId->Bool} {T:List Frame} {β β':Bij} {Gn:Nat} {main main2:Bool}
theorem ge {x X:Array Value} (h:AsRel (SP SB H) β x X) (ops:Array Oper) (j:Nat):yielded ops x j=yielded ops X j:=by
 unfold yielded
 cases ((ops[j]?).bind (·.dst)) with
 | none=>rfl
 | some d =>
  simp only [Option.bind_some]
  cases hx:x[d]? with
  | none=>rw [h.get_none hx]
  | some v =>
   obtain ⟨V,hV,hr⟩:=h.get? hx
   rw [hV]
   cases hr with
   | blank _ hb=>cases V<;>first | rfl | (cases hb;done)
   | _=>rfl
theorem mp {l L:List PanicEntry} (h:LRel (PRel SB H β) l L):LRel (PRel SB H β) (l.dropWhile (!·.goexit)) (L.dropWhile (!·.goexit)):=by
 induction h with
 | nil=>exact .nil
 | @cons a A l L ha hl ih =>
  cases ha with
  | mk r g hv =>
   cases g with
   | false=>simpa using ih
   | true=>simpa using LRel.cons (.mk r true hv) hl
theorem dE {fr FR:Frame} {cs CS:List Frame} (hk:fr.kind=FR.kind) (hl:fr.kind≠.early) (hc:CsRel P.a SB H lets T β cs CS) (hne:cs≠[]) {v V:Value} (hv:VRel (SP SB H) β v V) {w W w' W':World} {β0:Bij} {ES:List Event}
  (hf:Fin (SP SB H) (CK P.a SB lets) Gn β0 β w W w' W' ES) (es:Array Event) :
  StepRel P SB H lets BB T Gn β0 w W (GStep.after es (doReturn P.a main fr cs none v w')) (GStep.after ES.toArray (doReturn P.b main2 FR CS none V W')):=by
 cases hc with
 | base =>
  unfold doReturn
  cases fr.kind<;>exact Or.inl ⟨rfl,dead_bad⟩
 | @cons c C cs CS h1 h2 =>
  unfold doReturn
  rw [<- hk]
  cases hkd:fr.kind with
  | normal=>exact Or.inr ⟨β,_,W',_,rfl,aD (aS h1 hv) h2,by simpa using hf⟩
  | wrapped=>exact Or.inr ⟨β,_,W',_,rfl,aD (aS h1 hv) h2,by simpa using hf⟩
  | early=>exact absurd hkd hl
  | _ =>
   refine Or.inr ⟨β,_,W',_,rfl,aD ?_ h2,by simpa using hf⟩
   obtain ⟨fn,tmps,todo,defers,mode,kind,round⟩:=c
   obtain ⟨fn',tmps',todo',defers',mode',kind',round'⟩:=C
   obtain ⟨a1,a2,a3,a4,a5,a6,a7,a8⟩:=h1
   dsimp only at *
   cases a5 with
   | run=>exact ⟨a1,a2,a3,a4,.run,a6,a7,a8⟩
   | returning=>exact ⟨a1,a2,a3,a4,.returning,a6,a7,a8⟩
   | panicking hch =>
    cases hch with
    | nil=>exact ⟨a1,a2,a3,a4,.panicking .nil,a6,a7,a8⟩
    | @cons p Q l L hp hl =>
     cases hp with
     | mk r g hv' =>
      cases r with
      | false=>exact ⟨a1,a2,a3,a4,.panicking (.cons (.mk false g hv') hl),a6,a7,a8⟩
      | true =>
       have:=mp hl
       dsimp only
       revert this
       generalize l.dropWhile (!·.goexit)=d
       generalize L.dropWhile (!·.goexit)=D
       intro hd
       cases hd with
       | nil=>exact ⟨a1,a2,a3,a4,.returning,a6,a7,a8⟩
       | cons x y=>exact ⟨a1,a2,a3,a4,.panicking (.cons x y),a6,a7,a8⟩
theorem bH (L:Lib P SB H lets BB Gn) {fr FR:Frame} {cs CS:List Frame} (hf:FrRel P.a SB H lets β fr FR) (hc:CsRel P.a SB H lets T β cs CS) {d D:Deferred} (hd:DRel (SP SB H) β d D) {w W:World} {n:Nat} (hw:WRel (SP SB H) (CK P.a SB lets) Gn β w W) (ht:TRel n w W)
  (hb:(aC (callDeferred P.a fr cs none d w)).drawn<=w.drawn+n) :
  StepRel P SB H lets BB T Gn β w W (callDeferred P.a fr cs none d w) (callDeferred P.b FR CS none D W):=by
 have hm:=fv L.calls hd
 have hE:=hm w W n hw ht #[] #[]
 have hmild:=hm.mild hw #[]
 have hsome:=fun (a:Next) (w':World) (es:Array Event) (e:(invoke d.target d.args).runT P.a w #[]=(.ok a w',es))=>hm.some hw e
 unfold callDeferred at hb ⊢
 cases hd with
 | @fn fn1 fn2 cap1 cap2 ar1 ar2 a b c =>
  simp only [Bool.false_and,Bool.false_eq_true,if_false] at hb ⊢
  dsimp only at hE hsome
  rcases hr2:(invoke (Target.fn fn1 cap1) ar1).runT P.a w #[] with ⟨r,es⟩
  simp only [hr2] at hb hE hmild ⊢
  cases r with
  | ok x w' =>
   obtain ⟨_,_,hx⟩:=hsome x w' es hr2
   have hbw:w'.drawn<=w.drawn+n:=by cases hx<;>exact hb
   obtain ⟨β',X,W',ES,e1,e2,e3⟩:=hE hbw
   simp only [e1,Array.empty_append]
   have hf':=hf.mono e3.le
   have hc':=hc.mono fun _ _ (r:FrRel P.a SB H lets β _ _)=>r.mono e3.le
   have e3':=e3.seen (P:=P) (SB:=SB) (H:=H) (lets:=lets) FR.fn
   cases e2 with
   | value hv=>exact Or.inr ⟨β',_,W',_,rfl,aD hf' hc',by simpa using e3'⟩
   | skip=>exact Or.inr ⟨β',_,W',_,rfl,aD hf' hc',by simpa using e3'⟩
   | enter hs ha=>exact Or.inr ⟨β',_,W',_,rfl,⟨enter_rel L hs ha .deferred (by simp),.cons hf' hc',⟨rfl,rfl⟩,⟨rfl,rfl⟩,⟨rfl,rfl⟩⟩,by simpa using e3'⟩
   | round hl hh hx h1 h2=>exact Or.inr ⟨β',_,W',_,rfl,aD (cY hl hh.1 _ hh.2 (by assumption) h1 h2 .deferred (by simp)) (.cons hf' hc'),by simpa using e3'⟩
   | defer hd=>exact Or.inr ⟨β',_,W',_,rfl,aD hf' hc',by simpa using e3'⟩
  | halt x w' =>
   cases x with
   | panic v =>
    obtain ⟨β',X,W',ES,e1,e2,e3⟩:=hE hb
    simp only [e1,Array.empty_append]
    have hf':=hf.mono e3.le
    have hc':=hc.mono fun _ _ (r:FrRel P.a SB H lets β _ _)=>r.mono e3.le
    have e3':=e3.seen (P:=P) (SB:=SB) (H:=H) (lets:=lets) FR.fn
    exact Or.inr ⟨β',_,W',_,rfl,aD (bS hf' (.cons (.mk _ _ e2) .nil)) hc',by simpa using e3'⟩
   | stuck s=>trivial
   | unsupported u=>trivial
   | _=>exact hmild.elim
 | blankM a A h1 h2 h3 =>
  subst h2
  have hq:=fZ L.calls.big a w #[]
  unfold hd at hq ⊢
  simp only [Bool.false_and,Bool.false_eq_true,if_false] at hq ⊢
  rcases hq with ⟨s,w',es',e⟩ | ⟨u,w',es',e,_⟩
  ·simp only [e];trivial
  ·simp only [e];trivial
 | @collected r1 r2 a b =>
  simp only [Bool.false_and,Bool.false_eq_true,if_false] at hb ⊢
  dsimp only at hE hsome
  rcases hr2:(invoke (Target.collected r1) #[]).runT P.a w #[] with ⟨r,es⟩
  simp only [hr2] at hb hE hmild ⊢
  cases r with
  | ok x w' =>
   obtain ⟨_,_,hx⟩:=hsome x w' es hr2
   have hbw:w'.drawn<=w.drawn+n:=by cases hx<;>exact hb
   obtain ⟨β',X,W',ES,e1,e2,e3⟩:=hE hbw
   simp only [e1,Array.empty_append]
   have hf':=hf.mono e3.le
   have hc':=hc.mono fun _ _ (r:FrRel P.a SB H lets β _ _)=>r.mono e3.le
   have e3':=e3.seen (P:=P) (SB:=SB) (H:=H) (lets:=lets) FR.fn
   cases e2 with
   | value hv=>exact Or.inr ⟨β',_,W',_,rfl,aD hf' hc',by simpa using e3'⟩
   | skip=>exact Or.inr ⟨β',_,W',_,rfl,aD hf' hc',by simpa using e3'⟩
   | enter hs ha=>exact Or.inr ⟨β',_,W',_,rfl,⟨enter_rel L hs ha .deferred (by simp),.cons hf' hc',⟨rfl,rfl⟩,⟨rfl,rfl⟩,⟨rfl,rfl⟩⟩,by simpa using e3'⟩
   | round hl hh hx h1 h2=>exact Or.inr ⟨β',_,W',_,rfl,aD (cY hl hh.1 _ hh.2 (by assumption) h1 h2 .deferred (by simp)) (.cons hf' hc'),by simpa using e3'⟩
   | defer hd=>exact Or.inr ⟨β',_,W',_,rfl,aD hf' hc',by simpa using e3'⟩
  | halt x w' =>
   cases x with
   | panic v =>
    obtain ⟨β',X,W',ES,e1,e2,e3⟩:=hE hb
    simp only [e1,Array.empty_append]
    have hf':=hf.mono e3.le
    have hc':=hc.mono fun _ _ (r:FrRel P.a SB H lets β _ _)=>r.mono e3.le
    have e3':=e3.seen (P:=P) (SB:=SB) (H:=H) (lets:=lets) FR.fn
    exact Or.inr ⟨β',_,W',_,rfl,aD (bS hf' (.cons (.mk _ _ e2) .nil)) hc',by simpa using e3'⟩
   | stuck s=>trivial
   | unsupported u=>trivial
   | _=>exact hmild.elim
 | @nil ar1 ar2 a =>
  have hmode:=hf.mode
  cases hm:fr.mode with
  | panicking l =>
   simp only [Bool.and_self,if_true]
   trivial
  | run =>
   have hM:FR.mode=.run:=by
    rw [hm] at hmode
    generalize FR.mode=q at hmode
    cases hmode;rfl
   simp only [hm,hM,Bool.and_false,Bool.false_eq_true,if_false] at hb ⊢
   dsimp only at hE hsome
   rcases hr2:(invoke Target.nil ar1).runT P.a w #[] with ⟨r,es⟩
   simp only [hr2] at hb hE hmild ⊢
   cases r with
   | ok x w' =>
    obtain ⟨_,_,hx⟩:=hsome x w' es hr2
    have hbw:w'.drawn<=w.drawn+n:=by cases hx<;>exact hb
    obtain ⟨β',X,W',ES,e1,e2,e3⟩:=hE hbw
    simp only [e1,Array.empty_append]
    have hf':=hf.mono e3.le
    have hc':=hc.mono fun _ _ (r:FrRel P.a SB H lets β _ _)=>r.mono e3.le
    have e3':=e3.seen (P:=P) (SB:=SB) (H:=H) (lets:=lets) FR.fn
    cases e2 with
    | value hv=>exact Or.inr ⟨β',_,W',_,rfl,aD hf' hc',by simpa using e3'⟩
    | skip=>exact Or.inr ⟨β',_,W',_,rfl,aD hf' hc',by simpa using e3'⟩
    | enter hs ha=>exact Or.inr ⟨β',_,W',_,rfl,⟨enter_rel L hs ha .deferred (by simp),.cons hf' hc',⟨rfl,rfl⟩,⟨rfl,rfl⟩,⟨rfl,rfl⟩⟩,by simpa using e3'⟩
    | round hl hh hx h1 h2=>exact Or.inr ⟨β',_,W',_,rfl,aD (cY hl hh.1 _ hh.2 (by assumption) h1 h2 .deferred (by simp)) (.cons hf' hc'),by simpa using e3'⟩
    | defer hd=>exact Or.inr ⟨β',_,W',_,rfl,aD hf' hc',by simpa using e3'⟩
   | halt x w' =>
    cases x with
    | panic v =>
     obtain ⟨β',X,W',ES,e1,e2,e3⟩:=hE hb
     simp only [e1,Array.empty_append]
     have hf':=hf.mono e3.le
     have hc':=hc.mono fun _ _ (r:FrRel P.a SB H lets β _ _)=>r.mono e3.le
     have e3':=e3.seen (P:=P) (SB:=SB) (H:=H) (lets:=lets) FR.fn
     exact Or.inr ⟨β',_,W',_,rfl,aD (bS hf' (.cons (.mk _ _ e2) .nil)) hc',by simpa using e3'⟩
    | stuck s=>trivial
     | unsupported u=>trivial
    | _=>exact hmild.elim
  | returning =>
   have hM:FR.mode=.returning:=by
    rw [hm] at hmode
    generalize FR.mode=q at hmode
    cases hmode;rfl
   simp only [hm,hM,Bool.and_false,Bool.false_eq_true,if_false] at hb ⊢
   dsimp only at hE hsome
   rcases hr2:(invoke Target.nil ar1).runT P.a w #[] with ⟨r,es⟩
   simp only [hr2] at hb hE hmild ⊢
   cases r with
   | ok x w' =>
    obtain ⟨_,_,hx⟩:=hsome x w' es hr2
    have hbw:w'.drawn<=w.drawn+n:=by cases hx<;>exact hb
    obtain ⟨β',X,W',ES,e1,e2,e3⟩:=hE hbw
    simp only [e1,Array.empty_append]
    have hf':=hf.mono e3.le
    have hc':=hc.mono fun _ _ (r:FrRel P.a SB H lets β _ _)=>r.mono e3.le
    have e3':=e3.seen (P:=P) (SB:=SB) (H:=H) (lets:=lets) FR.fn
    cases e2 with
    | value hv=>exact Or.inr ⟨β',_,W',_,rfl,aD hf' hc',by simpa using e3'⟩
    | skip=>exact Or.inr ⟨β',_,W',_,rfl,aD hf' hc',by simpa using e3'⟩
    | enter hs ha=>exact Or.inr ⟨β',_,W',_,rfl,⟨enter_rel L hs ha .deferred (by simp),.cons hf' hc',⟨rfl,rfl⟩,⟨rfl,rfl⟩,⟨rfl,rfl⟩⟩,by simpa using e3'⟩
    | round hl hh hx h1 h2=>exact Or.inr ⟨β',_,W',_,rfl,aD (cY hl hh.1 _ hh.2 (by assumption) h1 h2 .deferred (by simp)) (.cons hf' hc'),by simpa using e3'⟩
    | defer hd=>exact Or.inr ⟨β',_,W',_,rfl,aD hf' hc',by simpa using e3'⟩
   | halt x w' =>
    cases x with
    | panic v =>
     obtain ⟨β',X,W',ES,e1,e2,e3⟩:=hE hb
     simp only [e1,Array.empty_append]
     have hf':=hf.mono e3.le
     have hc':=hc.mono fun _ _ (r:FrRel P.a SB H lets β _ _)=>r.mono e3.le
     have e3':=e3.seen (P:=P) (SB:=SB) (H:=H) (lets:=lets) FR.fn
     exact Or.inr ⟨β',_,W',_,rfl,aD (bS hf' (.cons (.mk _ _ e2) .nil)) hc',by simpa using e3'⟩
    | stuck s=>trivial
     | unsupported u=>trivial
    | _=>exact hmild.elim
theorem gX (L:Lib P SB H lets BB Gn) {fr FR:Frame} {cs CS:List Frame} (hf:FrRel P.a SB H lets β fr FR) (hc:CsRel P.a SB H lets T β cs CS) {w W:World} {n:Nat} (hw:WRel (SP SB H) (CK P.a SB lets) Gn β w W) (ht:TRel n w W)
  (hb:(aC (unwind P.a main fr cs none w)).drawn<=w.drawn+n) :
  StepRel P SB H lets BB T Gn β w W (unwind P.a main fr cs none w) (unwind P.b main2 FR CS none W):=by
 obtain ⟨fn,tmps,todo,defers,mode,kind,round⟩:=fr
 obtain ⟨fn',tmps',todo',defers',mode',kind',round'⟩:=FR
 obtain ⟨a1,a2,a3,a4,a5,a6,a7,a8⟩:=hf
 dsimp only at a1 a2 a3 a4 a5 a6 a7 a8
 subst a1 a6
 cases a4 with
 | @cons d D ds DS hd hds =>
  have hf':FrRel P.a SB H lets β ⟨fn,tmps,todo,ds,mode,kind,round⟩ ⟨fn,tmps',todo',DS,mode',kind,round'⟩:=⟨rfl,a2,a3,hds,a5,rfl,a7,a8⟩
  cases hd with
  | fn x y z=>exact bH L hf' hc (.fn x y z) hw ht hb
  | nil x=>exact bH L hf' hc (.nil x) hw ht hb
  | blankM a A h1 h2 h3 =>
   subst h2
   rcases h3 with rfl | ⟨h3,n,c,x,rfl⟩
   ·exact bH L hf' hc (.blankM a A h1 rfl (.inl rfl)) hw ht hb
   ·exact bH L hf' hc (.blankM a A h1 rfl (.inr ⟨h3,n,c,x,rfl⟩)) hw ht hb
  | @collected r1 r2 x y =>
   have hm:=gV (P:=P) (Ck:=CK P.a SB lets) (G:=Gn) (S:=SP SB H) x y
   have hE:=hm w W n hw ht #[] #[]
   have hmild:=hm.mild hw #[]
   unfold unwind at hb ⊢
   dsimp only at hb ⊢
   rcases hr:(Instr.takeDeferred r1).runT P.a w #[] with ⟨r,es⟩
   rw [hr] at hb hE hmild
   cases r with
   | ok l w' =>
    obtain ⟨β',X,W',ES,e1,e2,e3⟩:=hE hb
    simp only [e1,Array.empty_append]
    have hf2:=hf'.mono e3.le
    have hc':=hc.mono fun _ _ (r:FrRel P.a SB H lets β _ _)=>r.mono e3.le
    have e3':=e3.seen (P:=P) (SB:=SB) (H:=H) (lets:=lets) fn
    exact Or.inr ⟨β',_,W',_,rfl,aD ⟨rfl,hf2.tmps,hf2.todo,e2.append hf2.defers,hf2.mode,rfl,a7,hf2.round⟩ hc',by simpa using e3'⟩
   | halt x w'=>trivial
 | nil =>
  cases a5 with
  | run=>trivial
  | @panicking ch CH hch =>
   unfold unwind
   dsimp only
   obtain ⟨f,f',g1,g2,_⟩:=L.like fn a7.2
   have g2':P.b.funcs[fn]?=some f':=g2
   have q1:Frame.catches P.a ⟨fn,tmps,todo,[],.panicking ch,kind,round⟩=false:=by
    unfold Frame.catches
    dsimp only
    rw [g1]
   have q2:Frame.catches P.b ⟨fn,tmps',todo',[],.panicking CH,kind,round'⟩=false:=by
    unfold Frame.catches
    dsimp only
    rw [g2']
   simp only [q1,q2,Bool.false_eq_true,if_false]
   cases hc with
   | base=>exact Or.inl ⟨rfl,mn _⟩
   | cons h1 h2=>exact Or.inr ⟨β,_,W,_,rfl,aD (bS h1 hch) h2,by simpa using Fin.refl hw⟩
  | returning =>
   have hne:cs≠[]:=hc.ne
   unfold unwind at hb ⊢
   dsimp only at hb ⊢
   obtain ⟨f,f',g1,g2,g3⟩:=L.like fn a7.2
   have g2':P.b.funcs[fn]?=some f':=g2
   have g4:results f' tmps'=results f tmps':=by unfold results;rw [g3]
   have hm:=gW (P:=P) (Ck:=CK P.a SB lets) (G:=Gn) (S:=SP SB H) f a2
   have hE:=hm w W n hw ht #[] #[]
   have hmild:=hm.mild hw #[]
   rw [g1] at hb ⊢
   rw [g2']
   dsimp only at hb ⊢
   rw [g4]
   rcases hr:(results f tmps).runT P.a w #[] with ⟨r,es⟩
   rw [hr] at hb hE hmild
   cases r with
   | ok v w' =>
    have hbw:w'.drawn<=w.drawn+n:=by
     have:∀ cs,(aC (GStep.after (seen P.a fn es) (doReturn P.a main ⟨fn,tmps,todo,[],.returning,kind,round⟩ cs none v w')))=w'∨cs=[]:=by
      intro cs
      cases cs with
      | nil=>exact .inr rfl
      | cons c cs =>
       refine .inl ?_
       unfold doReturn
       cases kind<;>rfl
     rcases this cs with h | h
     ·rw [<- h];exact hb
     ·exact absurd h hne
    obtain ⟨β',X,W',ES,e1,e2,e3⟩:=hE hbw
    simp only [e1,Array.empty_append]
    have hc':=hc.mono fun _ _ (r:FrRel P.a SB H lets β _ _)=>r.mono e3.le
    have e3':=e3.seen (P:=P) (SB:=SB) (H:=H) (lets:=lets) fn
    have:=dE (P:=P) (main:=main) (main2:=main2) (BB:=BB) (fr:=⟨fn,tmps,todo,[],.returning,kind,round⟩) (FR:=⟨fn,tmps',todo',[],.returning,kind,round'⟩) rfl a7.1 hc' hne e2 e3' (seen P.a fn es)
    simpa using this
   | halt x w'=>cases x<;>trivial
end
section
variable {P:Two} {SB:FuncId->Bool} {H:Hid} {lets:Bool} {BB:FuncId->Bool} {T:List Frame} {β β':Bij} {Gn:Nat} {main main2:Bool}
theorem ba {ad:Bool}:∀ {c:Code},codeOk P.a SB lets false c=true->codeOk P.a SB lets ad c=true
 | .skip,_ | .exit _,_ | .label _,_ | .goto _,_ | .ret,_ | .refuse _,_=>rfl
 | .region _ ops _,h=>by
  cases ad with
  | false=>exact h
  | true =>
   simp only [codeOk,Bool.and_eq_true,Array.all_eq_true_iff_forall_mem] at h ⊢
   refine ⟨?_,h.2⟩
   intro o ho
   have:=h.1 o ho
   unfold bK at this ⊢
   simp only [Bool.or_eq_true,Bool.and_eq_true] at this ⊢
   rcases this with h1 | h1
   ·exact .inl ⟨h1.1,.inl trivial⟩
   ·exact .inr h1
 | .seq a b,h=>by
  simp only [codeOk,Bool.and_eq_true] at h ⊢
  exact ⟨ba h.1,ba h.2⟩
 | .cond c a b,h=>by
  simp only [codeOk,Bool.and_eq_true] at h ⊢
  exact ⟨⟨h.1.1,ba h.1.2⟩,ba h.2⟩
 | .block _ b,h=>by simp only [codeOk] at h ⊢;exact ba h
 | .loop b,h=>by simp only [codeOk] at h ⊢;exact ba h
 | .scope b,h=>by simp only [codeOk] at h ⊢;exact ba h
 | .rangeFunc f ps s5 bo,h=>by simp only [codeOk] at h ⊢;exact h
def NotGo (p:Program) (SB:FuncId->Bool) (fr:Frame):Prop:=∀ o,fr.oper?=some o->goOk p SB o.op=false
theorem nG {o O:Option Nat} (h:ONRel H β o O):o.isNone=O.isNone:=by cases h<;>rfl
section
variable {fn:FuncId} {tmps tmps':Array Value} {todo todo':List Item} {defers defers':List Deferred} {kind:CallKind} {round round':Option Nat} {cs CS:List Frame} {w W:World} {n:Nat}
theorem aW {mode mode':FrameMode} (a2:AsRel (SP SB H) β tmps tmps') (a3:LRel (IRel P.a SB H lets round.isNone β) todo todo') (a4:LRel (DRel (SP SB H) β) defers defers') (a5:MRel SB H β mode mode') (a7:kind≠.early∧SB fn=true) (a8:ONRel H β round round')
  (hc:CsRel P.a SB H lets T β cs CS) (hw:WRel (SP SB H) (CK P.a SB lets) Gn β w W) :
  StepRel P SB H lets BB T Gn β w W (.go { frame:=⟨fn,tmps,todo,defers,mode,kind,round⟩,callers:=cs,status:=.running,dying:=none } w #[]) (.go { frame:=⟨fn,tmps',todo',defers',mode',kind,round'⟩,callers:=CS,status:=.running,dying:=none } W #[]) :=
 Or.inr ⟨β,_,W,_,rfl,aD ⟨rfl,a2,a3,a4,a5,rfl,a7,a8⟩ hc,by simpa using Fin.refl hw⟩
theorem cI (j:Option Code) (hj:∀ c,j=some c->codeOk P.a SB lets false c=true) (a7:kind≠.early∧SB fn=true) {l L:Nat} (hl:β l L) (hh:H l=false)
  (hc:CsRel P.a SB H lets T β cs CS) (hne:cs≠[]) (hw:WRel (SP SB H) (CK P.a SB lets) Gn β w W) (ht:TRel n w W)
  (hb : (aC (GStep.after (seen P.a fn ((Instr.endRound l j).runT P.a w #[]).2) (match ((Instr.endRound l j).runT P.a w #[]).1 with
    | .ok v w=>doReturn P.a main ⟨fn,tmps,todo,defers,.run,kind,round⟩ cs none v w
    | .halt _ w=>.ended (.stuck "range over a function: no such loop" (Frame.pos P.a ⟨fn,tmps,todo,defers,.run,kind,round⟩)) w))).drawn<=w.drawn+n) :
  StepRel P SB H lets BB T Gn β w W (GStep.after (seen P.a fn ((Instr.endRound l j).runT P.a w #[]).2) (match ((Instr.endRound l j).runT P.a w #[]).1 with
    | .ok v w=>doReturn P.a main ⟨fn,tmps,todo,defers,.run,kind,round⟩ cs none v w
    | .halt _ w=>.ended (.stuck "range over a function: no such loop" (Frame.pos P.a ⟨fn,tmps,todo,defers,.run,kind,round⟩)) w))
   (GStep.after (seen P.b fn ((Instr.endRound L j).runT P.b W #[]).2) (match ((Instr.endRound L j).runT P.b W #[]).1 with
    | .ok v w=>doReturn P.b main2 ⟨fn,tmps',todo',defers',.run,kind,round'⟩ CS none v w
    | .halt _ w=>.ended (.stuck "range over a function: no such loop" (Frame.pos P.b ⟨fn,tmps',todo',defers',.run,kind,round'⟩)) w)):=by
 have hm:=kN (P:=P) (Ck:=CK P.a SB lets) (G:=Gn) (S:=SP SB H) hl hh j hj
 have hE:=hm w W n hw ht #[] #[]
 rcases hr:(Instr.endRound l j).runT P.a w #[] with ⟨r,es⟩
 rw [hr] at hb hE
 cases r with
 | ok v w' =>
  have hbw:w'.drawn<=w.drawn+n:=by
   have:∀ cs,(aC (GStep.after (seen P.a fn es) (doReturn P.a main ⟨fn,tmps,todo,defers,.run,kind,round⟩ cs none v w')))=w'∨cs=[]:=by
    intro cs
    cases cs with
    | nil=>exact .inr rfl
    | cons c cs =>
     refine .inl ?_
     unfold doReturn
     cases kind<;>rfl
   rcases this cs with h | h
   ·rw [<- h];exact hb
   ·exact absurd h hne
  obtain ⟨β',X,W',ES,e1,e2,e3⟩:=hE hbw
  simp only [e1,Array.empty_append]
  have hc':=hc.mono fun _ _ (r:FrRel P.a SB H lets β _ _)=>r.mono e3.le
  have e3':=e3.seen (P:=P) (SB:=SB) (H:=H) (lets:=lets) fn
  have:=dE (P:=P) (main:=main) (main2:=main2) (BB:=BB) (fr:=⟨fn,tmps,todo,defers,.run,kind,round⟩) (FR:=⟨fn,tmps',todo',defers',.run,kind,round'⟩) rfl a7.1 hc' hne e2 e3' (seen P.a fn es)
  simpa using this
 | halt x w'=>trivial
end
theorem _root_.Go.Iso.SRel.some2 {S:Par} {Ck:Code->Prop} {α α':Type} {m:Sem α} {M:Sem α'} {R:Bij->α->α'->Prop} (h:SRel P S Ck Gn β m M R) {w W:World} (hw:WRel S Ck Gn β w W) {es0 es:Array Event} {a:α} {w':World} (hr:m.runT P.a w es0=(.ok a w',es)):∃ β' A W',R β' a A∧β.le β'∧WRel S Ck Gn β' w' W':=by
 have hw':WRel S Ck Gn β w { W with tape:=fun i q=>w.tape (w.drawn+(i - W.drawn)) q }:=⟨hw.fine,hw.room,hw.objs,hw.hids,hw.old,hw.env⟩
 have hd:=drawn_mono P.a m w es0
 have:=h w { W with tape:=fun i q=>w.tape (w.drawn+(i - W.drawn)) q } ((world (m.runT P.a w es0).1).drawn - w.drawn) hw' (fun i _ q=>by
  show w.tape (w.drawn+i) q=w.tape (w.drawn+(W.drawn+i - W.drawn)) q
  rw [show W.drawn+i - W.drawn=i from by omega]) es0 #[] (by omega)
 rw [hr] at this
 obtain ⟨β',A,W',_,_,h,hf⟩:=this
 exact ⟨β',A,W',h,hf.le,hf.rel⟩
theorem kO {fr:Frame} {cs:List Frame} {m M:Sem Next} (hm:SRel P (SP SB H) (CK P.a SB lets) Gn β m M (NRel (SP SB H) (CK P.a SB lets))) {w W:World} (hw:WRel (SP SB H) (CK P.a SB lets) Gn β w W) :
  w.drawn<=(aC (stepG.apply P.a true fr cs none m w)).drawn:=by
 have h0:=drawn_mono P.a m w #[]
 have hmild:=hm.mild hw #[]
 have hsome:=fun (a:Next) (w':World) (es:Array Event) (e:m.runT P.a w #[]=(.ok a w',es))=>hm.some hw e
 unfold stepG.apply
 simp only [if_true]
 rcases hr:m.runT P.a w #[] with ⟨r,es⟩
 rw [hr] at hmild h0
 cases r with
 | ok x w' =>
  obtain ⟨_,_,hx⟩:=hsome x w' es hr
  cases hx<;>exact h0
 | halt x w' =>
  cases x with
  | panic v=>exact h0
  | stuck s=>exact h0
  | unsupported u =>
   cases u with
   | initOrder g=>exact absurd rfl (hmild g)
   | _=>exact h0
  | _=>exact hmild.elim
theorem StepRel.after {w W w' W':World} {ES:List Event} (hf:Fin (SP SB H) (CK P.a SB lets) Gn β β' w W w' W' ES) {s S:GStep} (h:StepRel P SB H lets BB T Gn β' w' W' s S) (es:Array Event):StepRel P SB H lets BB T Gn β w W (GStep.after es s) (GStep.after ES.toArray S):=by
 cases s with
 | go g w2 es2 =>
  rcases h with h | ⟨β2,g2,W2,ES2,rfl,h2,h3⟩
  ·exact Or.inl h
  refine Or.inr ⟨β2,g2,W2,_,rfl,h2,?_⟩
  have:=hf.trans h3
  simpa using this
 | ended o w es=>trivial
 | _=>exact h.elim
theorem pm (L:Lib P SB H lets BB Gn) {fr FR:Frame} {cs CS:List Frame} (hf:FrRel P.a SB H lets β fr FR) (hm:fr.mode=.run) (hc:CsRel P.a SB H lets T β cs CS) (hgo:NotGo P.a SB fr) {w W:World} {n:Nat} (hw:WRel (SP SB H) (CK P.a SB lets) Gn β w W) (ht:TRel n w W)
  (hb:(aC (stepG.exec P.a main true fr cs none w)).drawn<=w.drawn+n) :
  StepRel P SB H lets BB T Gn β w W (stepG.exec P.a main true fr cs none w) (stepG.exec P.b main2 true FR CS none W):=by
 obtain ⟨fn,tmps,todo,defers,mode,kind,round⟩:=fr
 obtain ⟨fn',tmps',todo',defers',mode',kind',round'⟩:=FR
 have hf0:=hf
 obtain ⟨a1,a2,a3,a4,a5,a6,a7,a8⟩:=hf
 dsimp only at a1 a2 a3 a4 a5 a6 a7 a8 hm
 subst a1 a6 hm
 cases a5
 cases a3 with
 | nil =>
  cases a8 with
  | none =>
   simp only [stepG.exec] at hb ⊢
   exact aW a2 .nil a4 .returning a7 .none hc hw
  | @some l L' hl hh =>
   have hne:cs≠[]:=hc.ne
   simp only [stepG.exec] at hb ⊢
   exact cI none (fun c e=>by cases e) a7 hl hh hc hne hw ht hb
 | @cons i I l L' hi hl =>
  cases hi with
  | @code c hco =>
   have leave : ∀ (j : Option Code), (∀ c, j = some c -> codeOk P.a SB lets false c = true) -> (∀ c, j = some c -> c ≠ .ret -> round ≠ none) ->
     stepG.exec P.a main true ⟨fn,tmps,.code c :: l,defers,.run,kind,round⟩ cs none w=stepG.exec P.a main true ⟨fn,tmps,.code c :: l,defers,.run,kind,round⟩ cs none w->True:=fun _ _ _ _=>trivial
   clear leave
   cases c with
   | skip=>exact aW a2 hl a4 .run a7 a8 hc hw
   | label l0=>exact aW a2 hl a4 .run a7 a8 hc hw
   | refuse s=>trivial
   | ret =>
    cases a8 with
    | none=>exact aW a2 (.cons (.code hco) hl) a4 .returning a7 .none hc hw
    | @some l0 L0 hl0 hh =>
     have hne:cs≠[]:=hc.ne
     exact cI (some .ret) (fun c e=>by cases e;rfl) a7 hl0 hh hc hne hw ht hb
   | seq a b =>
    simp only [codeOk,Bool.and_eq_true] at hco
    exact aW a2 (.cons (.code hco.1) (.cons (.code hco.2) hl)) a4 .run a7 a8 hc hw
   | cond x a b =>
    simp only [codeOk,Bool.and_eq_true] at hco
    have hx:=hf0.eval hco.1.1
    simp only [stepG.exec] at hb ⊢
    revert hx
    generalize Frame.eval ⟨fn,tmps,.code (.cond x a b) :: l,defers,.run,kind,round⟩ x=v
    generalize Frame.eval ⟨fn,tmps',.code (.cond x a b) :: L',defers',.run,kind,round'⟩ x=V
    intro hx
    cases hx with
    | bool t =>
     cases t with
     | true=>exact aW a2 (.cons (.code hco.1.2) hl) a4 .run a7 a8 hc hw
     | false=>exact aW a2 (.cons (.code hco.2) hl) a4 .run a7 a8 hc hw
    | _=>trivial
   | block id b=>exact aW a2 (.cons (.code hco) (.cons (.inBlock id) hl)) a4 .run a7 a8 hc hw
   | loop b=>exact aW a2 (.cons (.code hco) (.cons (.inLoop hco) hl)) a4 .run a7 a8 hc hw
   | scope b=>exact aW a2 (.cons (.code hco) (.cons (.inScope hco) hl)) a4 .run a7 a8 hc hw
   | exit id =>
    rcases exitTo_rel id hl with ⟨e1,e2⟩ | ⟨k,K,e1,e2,hk⟩
    ·cases a8 with
     | none=>simp only [stepG.exec,e1,Option.elim_none];trivial
     | @some l0 L0 hl0 hh =>
      have hne:cs≠[]:=hc.ne
      simp only [stepG.exec,e1,e2,Option.elim_none] at hb ⊢
      exact cI (some (.exit id)) (fun c e=>by cases e;rfl) a7 hl0 hh hc hne hw ht hb
    ·simp only [stepG.exec,e1,e2,Option.elim_some]
     exact aW a2 hk a4 .run a7 a8 hc hw
   | goto l1 =>
    rcases gotoIn_rel l1 hl with ⟨e1,e2⟩ | ⟨k,K,e1,e2,hk⟩
    ·cases a8 with
     | none=>simp only [stepG.exec,e1,Option.elim_none];trivial
     | @some l0 L0 hl0 hh =>
      have hne:cs≠[]:=hc.ne
      simp only [stepG.exec,e1,e2,Option.elim_none] at hb ⊢
      exact cI (some (.goto l1)) (fun c e=>by cases e;rfl) a7 hl0 hh hc hne hw ht hb
    ·simp only [stepG.exec,e1,e2,Option.elim_some]
     exact aW a2 hk a4 .run a7 a8 hc hw
   | rangeFunc f ps s5 bo =>
    simp only [codeOk,Bool.and_eq_true] at hco
    have ho:(round=none∧round'=none)∨∃ l L,round=some l∧round'=some L∧β l L∧(SP SB H).hid l=false:=by
     cases a8 with
     | none=>exact .inl ⟨rfl,rfl⟩
     | some x y=>exact .inr ⟨_,_,rfl,rfl,x,y⟩
    have hm:=jM (P:=P) (Ck:=CK P.a SB lets) (G:=Gn) (S:=SP SB H) fn a7.2 a2 ps hco.1.2 hco.2 ho
    have hE:=hm w W n hw ht #[] #[]
    simp only [stepG.exec] at hb ⊢
    rcases hr:(Instr.enterLoop fn tmps ps s5 bo round).runT P.a w #[] with ⟨r,es⟩
    rw [hr] at hb hE
    cases r with
    | ok x w' =>
     obtain ⟨l0,mark⟩:=x
     have next : ∀ (β' : Bij) (l0 L0 : Nat), β.le β' -> β' l0 L0 -> H l0 = false -> ∀ (m M : List Deferred),
       SRel P (SP SB H) (CK P.a SB lets) Gn β' (do
        let d<-resolve (Frame.eval ⟨fn,tmps,.inRangeFunc l0 :: l,m++defers,.run,kind,round⟩) { callee:=.value f,args:=#[.const (.func (.yield l0) #[] #[])],argTypes:=#[] } 0
        invoke d.target d.args) (do
        let d<-resolve (Frame.eval ⟨fn,tmps',.inRangeFunc L0 :: L',M++defers',.run,kind,round'⟩) { callee:=.value f,args:=#[.const (.func (.yield L0) #[] #[])],argTypes:=#[] } 0
        invoke d.target d.args) (NRel (SP SB H) (CK P.a SB lets)):=by
      intro β' l0 L0 hle hl0 hh0 m M
      unfold resolve
      dsimp only
      have hx:VRel (SP SB H) β' (Frame.eval ⟨fn,tmps,.inRangeFunc l0 :: l,m++defers,.run,kind,round⟩ f) (Frame.eval ⟨fn,tmps',.inRangeFunc L0 :: L',M++defers',.run,kind,round'⟩ f):=by
       have:=(hf0.eval hco.1.1).mono hle
       cases f with
       | tmp t=>exact this
       | const v=>exact this
       | global g=>exact this
       | func g=>exact this
      refine sr_bind (eE hx ?_) ?_
      ·simp only [List.map_toArray,List.map_cons,List.map_nil,Frame.eval]
       exact AsRel.one (.func (.yield hl0 hh0) rfl (by simp) rfl (by simp))
      ·intro β2 d D _ hd
       exact fv L.calls hd
     obtain ⟨β1,⟨L1,M1⟩,W1,hx1,le1,hw1⟩:=hm.some2 hw hr
     have hd:=kO (fr:=⟨fn,tmps,.inRangeFunc l0 :: l,mark++defers,.run,kind,round⟩) (cs:=cs) (next β1 l0 L1 le1 hx1.1 hx1.2.1 mark M1) hw1
     have hbw:w'.drawn<=w.drawn+n:=by
      have e:∀ s,aC (GStep.after (seen P.a fn es) s)=aC s:=fun s=>by cases s<;>rfl
      rw [e] at hb
      exact Nat.le_trans hd hb
     obtain ⟨β',⟨L0,M0⟩,W',ES,e1,⟨e2,e2',e2''⟩,e3⟩:=hE hbw
     simp only [e1,Array.empty_append]
     have hc':=hc.mono fun _ _ (r:FrRel P.a SB H lets β _ _)=>r.mono e3.le
     have hfr:FrRel P.a SB H lets β' ⟨fn,tmps,.inRangeFunc l0 :: l,mark++defers,.run,kind,round⟩ ⟨fn,tmps',.inRangeFunc L0 :: L',M0++defers',.run,kind,round'⟩ :=
      ⟨rfl,a2.mono e3.le,.cons (.inRangeFunc e2 e2') (hl.mono fun _ _=>IRel.mono e3.le),e2''.append (a4.mono fun _ _=>DRel.mono e3.le),.run,rfl,a7,a8.mono e3.le⟩
     have h3:=e3.drawn
     have:=fy (BB:=BB) L hfr hc' (next β' l0 L0 e3.le e2 e2' mark M0) e3.rel (ht.rest e3) (by
      have e:∀ s,aC (GStep.after (seen P.a fn es) s)=aC s:=fun s=>by cases s<;>rfl
      rw [e] at hb
      refine Nat.le_trans hb ?_
      omega)
     have:=StepRel.after (e3.seen (P:=P) (SB:=SB) (H:=H) (lets:=lets) fn) this (seen P.a fn es)
     simpa using this
    | halt x w'=>trivial
   | region id ops draw =>
    have hco':ops.all (bK P.a SB lets round.isNone)=true:=by have h0:=hco;simp only [codeOk,Bool.and_eq_true] at h0;exact h0.1
    cases draw with
    | false=>exact aW a2 (.cons (.inRegion hco') hl) a4 .run a7 a8 hc hw
    | true =>
     have hm:=dP (P:=P) (Ck:=CK P.a SB lets) (G:=Gn) (S:=SP SB H) (β:=β) (.order fn id)
     have hE:=hm w W n hw ht #[] #[]
     simp only [stepG.exec,Bool.not_true,Bool.false_eq_true,if_false] at hb ⊢
     rw [<- Sem.runT_fst P.a (choose (.order fn id)) w #[]] at hb ⊢
     rw [<- Sem.runT_fst P.b (choose (.order fn id)) W #[]]
     rcases hr:(choose (.order fn id)).runT P.a w #[] with ⟨r,es⟩
     rw [hr] at hb hE
     cases r with
     | ok t w' =>
      obtain ⟨β',X,W',ES,e1,e2,e3⟩:=hE hb
      simp only [e1]
      subst e2
      have hc':=hc.mono fun _ _ (r:FrRel P.a SB H lets β _ _)=>r.mono e3.le
      exact Or.inr ⟨β',_,W',_,rfl,aD ⟨rfl,a2.mono e3.le,.cons (.inRegion hco') (hl.mono fun _ _=>IRel.mono e3.le),a4.mono fun _ _=>DRel.mono e3.le,.run,rfl,a7,a8.mono e3.le⟩ hc',{ e3 with evs:=by simp }⟩
     | halt x w'=>trivial
  | inBlock id=>exact aW a2 hl a4 .run a7 a8 hc hw
  | @inLoop c hco=>exact aW a2 (.cons (.code hco) (.cons (.inLoop hco) hl)) a4 .run a7 a8 hc hw
  | @inScope c hco=>exact aW a2 hl a4 .run a7 a8 hc hw
  | @inRegion ops todo ho =>
   cases todo with
   | nil=>exact aW a2 hl a4 .run a7 a8 hc hw
   | cons i rest =>
    have hy:yielded ops tmps'=yielded ops tmps:=(funext fun j=>ge a2 ops j).symm
    simp only [stepG.exec,hy] at hb ⊢
    by_cases hwn:(Option.map (fun x=>Region.wanted x (yielded ops tmps)) ops[i]?).getD false=true
    ·simp only [if_pos hwn] at hb ⊢
     cases hoi:ops[i]? with
     | none=>rw [hoi] at hwn;cases hwn
     | some o =>
      have hgo':=hgo o (by unfold Frame.oper?;exact hoi)
      have hio:bK P.a SB lets round.isNone o=true:=by
       simp only [Array.all_eq_true_iff_forall_mem] at ho
       exact ho o (Array.mem_of_getElem? hoi)
      unfold bK at hio
      rw [hgo'] at hio
      simp only [Bool.and_false,Bool.or_false,Bool.and_eq_true,Bool.or_eq_true,Bool.not_eq_true'] at hio
      have key:∀ (p:Program) (t:Array Value) (k:List Item) (ds:List Deferred) (r:Option Nat),r.isNone=round.isNone->∀ cs w,stepG.oper p true ⟨fn,t,.inRegion ops (i :: rest) :: k,ds,.run,kind,r⟩ cs none w=stepG.apply p true ⟨fn,t,.inRegion ops (i :: rest) :: k,ds,.run,kind,r⟩ cs none (execOp (Frame.eval ⟨fn,t,.inRegion ops (i :: rest) :: k,ds,.run,kind,r⟩) o) w:=by
       intro p t k ds r hr cs w
       unfold stepG.oper Frame.oper?
       simp only [hoi]
       cases r with
       | none=>rfl
       | some l0 =>
        rw [<- hr] at hio
        cases hop:o.op with
        | defer c=>rw [hop] at hio;simp [ly] at hio
        | _=>rfl
      rw [key _ _ _ _ _ rfl] at hb ⊢
      rw [key _ _ _ _ _ (nG a8).symm]
      exact fy L hf0 hc (nF L.glob L.calls (fun x hx=>hf0.eval hx) hio.1) hw ht hb
    ·simp only [if_neg hwn] at hb ⊢
     exact Or.inr ⟨β,_,W,_,rfl,aD (aS hf0 (.tuple rfl (by simp))) hc,by simpa using Fin.refl hw⟩
  | inRangeFunc x y=>trivial
  | @endRangeFunc l0 L0 x y =>
   have hm:=mo (P:=P) (Ck:=CK P.a SB lets) (G:=Gn) (S:=SP SB H) x y
   have hE:=hm w W n hw ht #[] #[]
   have hmild:=hm.mild hw #[]
   simp only [stepG.exec] at hb ⊢
   rcases hr:(Instr.endLoop l0).runT P.a w #[] with ⟨r,es⟩
   rw [hr] at hb hE hmild
   cases r with
   | ok j w' =>
    obtain ⟨β',X,W',ES,e1,⟨e2,e2'⟩,e3⟩:=hE hb
    subst e2
    simp only [e1,Array.empty_append]
    have hc':=hc.mono fun _ _ (r:FrRel P.a SB H lets β _ _)=>r.mono e3.le
    have e3':=e3.seen (P:=P) (SB:=SB) (H:=H) (lets:=lets) fn
    have hl':=hl.mono fun _ _ (r:IRel P.a SB H lets round.isNone β _ _)=>r.mono e3.le
    refine Or.inr ⟨β',_,W',_,rfl,aD ⟨rfl,a2.mono e3.le,?_,a4.mono fun _ _=>DRel.mono e3.le,.run,rfl,a7,a8.mono e3.le⟩ hc',by simpa using e3'⟩
    cases j with
    | none=>exact hl'
    | some c=>exact .cons (.code (ba (e2' c rfl))) hl'
   | halt x w' =>
    cases x with
    | panic v =>
     obtain ⟨β',X,W',ES,e1,e2,e3⟩:=hE hb
     simp only [e1,Array.empty_append]
     have hc':=hc.mono fun _ _ (r:FrRel P.a SB H lets β _ _)=>r.mono e3.le
     have e3':=e3.seen (P:=P) (SB:=SB) (H:=H) (lets:=lets) fn
     exact Or.inr ⟨β',_,W',_,rfl,aD (bS (hf0.mono e3.le) (.cons (.mk _ _ e2) .nil)) hc',by simpa using e3'⟩
    | _=>trivial
  | beginRound =>
   have hm:SRel P (SP SB H) (CK P.a SB lets) Gn β (do round.elim (stuck "beginRound: no round") Instr.beginRound;pure .skip:Sem Next) (do round'.elim (stuck "beginRound: no round") Instr.beginRound;pure .skip) (NRel (SP SB H) (CK P.a SB lets)):=by
    cases a8 with
    | none=>exact sr_bind (R:=fun _ _ _=>False) sr_stuck (fun _ _ _ _ h=>h.elim)
    | some x y =>
     refine sr_bind (js x y) ?_
     intro β2 _ _ _ _
     exact sr_pure .skip
   simp only [stepG.exec] at hb ⊢
   exact fy L hf0 hc hm hw ht hb
def Ready (p:Program) (SB:FuncId->Bool) (g:Goroutine):Prop:=g.frame.mode=.run->NotGo p SB g.frame
theorem cO (L:Lib P SB H lets BB Gn) {g g2:Goroutine} (hg:GRel P SB H lets BB T β g g2) (hon:FrRel P.a SB H lets β g.frame g2.frame) (hr:Ready P.a SB g) {w W:World} {n:Nat} (hw:WRel (SP SB H) (CK P.a SB lets) Gn β w W) (ht:TRel n w W)
  (hb:(aC (stepG P.a main g w)).drawn<=w.drawn+n) :
  StepRel P SB H lets BB T Gn β w W (stepG P.a main g w) (stepG P.b main2 g2 W):=by
 obtain ⟨fr,cs,st,dy,off⟩:=g
 obtain ⟨FR,CS,st',dy',off'⟩:=g2
 obtain ⟨h1,h2,⟨h3,h3'⟩,⟨h4,h4'⟩,⟨h5,h5'⟩⟩:=hg
 dsimp only at *
 subst h4 h4'
 have hm:=hon.mode
 cases hmd:fr.mode with
 | run =>
  rw [hmd] at hm
  have e1:stepG P.a main ⟨fr,cs,st,none,off⟩ w=stepG.exec P.a main true fr cs none w:=by unfold stepG;simp only [hmd]
  have e2:stepG P.b main2 ⟨FR,CS,st',none,off'⟩ W=stepG.exec P.b main2 true FR CS none W:=by
   have:FR.mode=.run:=by generalize FR.mode=q at hm;cases hm;rfl
   unfold stepG;simp only [this]
  rw [e1] at hb ⊢
  rw [e2]
  exact pm L hon hmd h2 (hr hmd) hw ht hb
 | returning =>
  rw [hmd] at hm
  have e1:stepG P.a main ⟨fr,cs,st,none,off⟩ w=unwind P.a main fr cs none w:=by unfold stepG;simp only [hmd]
  have e2:stepG P.b main2 ⟨FR,CS,st',none,off'⟩ W=unwind P.b main2 FR CS none W:=by
   have:FR.mode=.returning:=by generalize FR.mode=q at hm;cases hm;rfl
   unfold stepG;simp only [this]
  rw [e1] at hb ⊢
  rw [e2]
  exact gX L hon h2 hw ht hb
 | panicking l =>
  rw [hmd] at hm
  have e1:stepG P.a main ⟨fr,cs,st,none,off⟩ w=unwind P.a main fr cs none w:=by unfold stepG;simp only [hmd]
  have e2:stepG P.b main2 ⟨FR,CS,st',none,off'⟩ W=unwind P.b main2 FR CS none W:=by
   have:∃ l,FR.mode=.panicking l:=by generalize FR.mode=q at hm;cases hm;exact ⟨_,rfl⟩
   obtain ⟨l,this⟩:=this
   unfold stepG;simp only [this]
  rw [e1] at hb ⊢
  rw [e2]
  exact gX L hon h2 hw ht hb
end
def Two.of (p:Program):Two:=⟨p,p.funcs⟩
abbrev Two.self (P:Two):Two:=Two.of P.a
section
variable {P:Two} {SB:FuncId->Bool} {H:Hid} {lets:Bool} {BB:FuncId->Bool} {β:Bij} {G:Nat}
theorem IRel.id {ad:Bool} (h:β.isId) {i I:Item} (r:IRel P.a SB H lets ad β i I):i=I:=by
 cases r with
 | inRangeFunc hl _=>rw [h _ _ hl]
 | endRangeFunc hl _=>rw [h _ _ hl]
 | _=>rfl
theorem MRel.id (h:IdB H β) {m M:FrameMode} (r:MRel SB H β m M):m=M:=by
 cases r with
 | panicking l=>rw [LRel.id (fun a A (r:PRel SB H β a A)=>by cases r with | mk x y v=>rw [v.id h]) l]
 | _=>rfl
theorem ONRel.id (h:β.isId) {o O:Option Nat} (r:ONRel H β o O):o=O:=by
 cases r with
 | none=>rfl
 | some hl _=>rw [h _ _ hl]
theorem FrRel.id (h:IdB H β) {f F:Frame} (r:FrRel P.a SB H lets β f F):f=F:=by
 have h1:=r.fn
 have h2:=r.tmps.id h
 have h3:=r.todo.id fun _ _=>IRel.id h.2
 have h4:=r.defers.id fun _ _=>DRel.id h
 have h5:=r.mode.id h
 have h6:=r.kind
 have h7:=r.round.id h.2
 obtain ⟨a1,a2,a3,a4,a5,a6,a7⟩:=f
 obtain ⟨b1,b2,b3,b4,b5,b6,b7⟩:=F
 dsimp only at *
 subst h1 h2 h3 h4 h5 h6 h7
 rfl
theorem TopRel.id (h:IdB H β) {f F:Frame} (r:TopRel P.self SB H lets BB β f F):f=F:=by
 cases r with
 | on r=>exact r.id h
 | stop _ _ _ a=>rw [a.id h];rfl
theorem CsRel.id (h:IdB H β) {cs CS:List Frame} (r:CsRel P.a SB H lets [bad] β cs CS):cs=CS:=by
 induction r with
 | base=>rfl
 | cons a _ ih=>rw [a.id h,ih]
theorem GRel.id (h:IdB H β) {g g':Goroutine} (r:GRel P.self SB H lets BB [bad] β g g'):g=g':=by
 have h1:=r.top.id h
 have h2:=r.callers.id h
 obtain ⟨a1,a2,a3,a4,a5⟩:=g
 obtain ⟨b1,b2,b3,b4,b5⟩:=g'
 obtain ⟨_,_,⟨s1,s2⟩,⟨d1,d2⟩,⟨o1,o2⟩⟩:=r
 dsimp only at *
 subst h1 h2 s1 s2 d1 d2 o1 o2
 rfl
end
end Go.Iso
