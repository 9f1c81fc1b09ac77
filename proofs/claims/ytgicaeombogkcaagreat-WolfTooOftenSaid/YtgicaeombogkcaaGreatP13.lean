/- Parts of the proof. -/
import Derived.Test.YtgicaeombogkcaaGreatP12
import Derived.Test.YtgicaeombogkcaaGreatP10
set_option linter.all false
set_option maxHeartbeats 8000000
set_option maxRecDepth 100000
namespace Go.Co
open Go.Iso Go.Conc Go.ConcN
open Go.ConcR (KK WgAt stA smA rd wr mk DC0 Bk g_of_ofEvents bk_of_mute ofEvent_loc_mark ofEvent_cell ofEvent_mk)
def WltA (p:Program) (a b:Wm):Prop:=Wlt p a b∧Acc (Wlt p) b
theorem WltA.wf (p:Program):WellFounded (WltA p):=⟨fun y=>.intro _ fun x h=>by
 have key:∀ y,Acc (Wlt p) y->Acc (WltA p) y:=by
  intro y hy
  induction hy with
  | intro y _ ih=>exact .intro _ fun z hz=>ih z hz.1
 exact key x (h.2.inv h.1)⟩
abbrev Mu:=Pre×(List Wm×(Nat×Nat))
def Lpre (p:Program):Pre->Pre->Prop:=Prod.Lex (·<·) (Prod.Lex (·<·) (WltA p))
def Lph:Nat×Nat->Nat×Nat->Prop:=Prod.Lex (·<·) (·<·)
def Rmu (p:Program):Mu->Mu->Prop:=Prod.Lex (Lpre p) (Prod.Lex (One (WltA p)) Lph)
theorem Rmu.wf (p:Program):WellFounded (Rmu p):=by
 have h1:WellFounded (Lpre p):=(Prod.lex Nat.lt_wfRel (Prod.lex Nat.lt_wfRel ⟨_,WltA.wf p⟩)).wf
 have h2:WellFounded Lph:=(Prod.lex Nat.lt_wfRel Nat.lt_wfRel).wf
 have h3:WellFounded (One (WltA p)):=⟨fun l=>One.acc fun x _=>(WltA.wf p).apply x⟩
 exact (Prod.lex ⟨_,h1⟩ (Prod.lex ⟨_,h3⟩ ⟨_,h2⟩)).wf
theorem Rmu.phase {p:Program} {k q:Nat} {q':Nat} {w1 w:Wm} {r1 r:List Wm×(Nat×Nat)} {μ':Mu} (hq:q<q') (h:Rmu p μ' ((k,q,w1),r1)):Rmu p μ' ((k,q',w),r):=by
 obtain ⟨⟨k2,q2,w2⟩,r2⟩:=μ'
 refine Prod.Lex.left _ _ ?_
 cases h with
 | left _ _ h =>
  cases h with
  | left _ _ h=>exact Prod.Lex.left _ _ h
  | right _ h =>
   refine Prod.Lex.right _ ?_
   cases h with
   | left _ _ h=>exact Prod.Lex.left _ _ (Nat.lt_trans h hq)
   | right _ _=>exact Prod.Lex.left _ _ hq
 | right _ _=>exact Prod.Lex.right _ (Prod.Lex.left _ _ hq)
theorem hP {P:Program} {μ:Type} {r:μ->μ->Prop} (wf:WellFounded r) (Inv:μ->Machine->Trace->Prop) (Fin:Machine->Trace->Prop)
  (step:∀ x m t,Inv x m t->Fin m t∨∃ m' ops x',stepT P m=(.next m',ops)∧r x' x∧Inv x' m' (t++ops)):∀ x m t,Inv x m t->∃ N m' t',runNT P N m t=(.next m',t')∧Fin m' t':=by
 intro x
 induction x using wf.induction with
 | _ x ih =>
  intro m t h
  rcases step x m t h with hf | ⟨m',ops,x',h1,h2,h3⟩
  ·exact ⟨0,m,t,rfl,hf⟩
  ·obtain ⟨N,m2,t2,k1,k2⟩:=ih x' h2 m' _ h3
   exact ⟨N+1,m2,t2,by simp only [runNT,h1];exact k1,k2⟩
section
variable (P:Two) (SB BB:FuncId->Bool) (lets:Bool) (Gn:Nat) (ty Wg:Nat) (Dead Toy:Nat->Prop) (Kp:Keep) (Ψ0 Ψ2:World->Prop) (fA fW:FuncId) (wl:Nat) (Pr:Bij) (T:List Frame) (Fn:Bool->Hid->Goroutine->World->Prop)
def Acq (j0 j:Nat) (rr:Nat->Nat) (t:Trace):Prop:=∃ q,t.act? q=some (.mark (.acquire (stA Wg)))∧t.g? q=some 0∧t.heard q∧∀ i,j0<=i->i<j->rr i<q
structure MI (j0:Nat) (pre:Pre) (j:Nat) (gs:Array Goroutine) (W:World) (t:Trace) (D:Nat->WD) (M:Nat->Wm) (O:Nat->Bool) (L:Nat->Option Lone) (ts:TS) (rr:Nat->Nat) (st sm:Int) (tag:CTag) (d0:Nat) (rk:Nat->Nat) (fu:Nat) (x:Lone) (a:Goroutine):Prop where
 wi:WI P SB BB lets Gn ty Wg Dead Toy Kp Ψ0 Ψ2 j0 j gs W t D M O L ts rr st sm
 sit:MSit P SB BB lets Gn ty Wg Toy Ψ0 Ψ2 fA fW wl Pr T Fn tag d0 pre rk fu x ts.tp a W
 L0:L 0=some x
 a0:gs[0]?=some a
 deaf:Deaf t 0=d0
 mode:ConcN.Mode j D tag st sm
 acq:tag=.ret->Acq Wg j0 j rr t
 bd:j+pre.1<Kp.bd∧Kp.bd<=2147483647
def MInv (j0:Nat) (μ:Mu) (m:Machine) (t:Trace):Prop :=
 ∃ j gs W sl D M O L ts rr st sm tag d0 rk fu x a,m=crowd gs W sl∧MI P SB BB lets Gn ty Wg Dead Toy Kp Ψ0 Ψ2 fA fW wl Pr T Fn j0 μ.1 j gs W t D M O L ts rr st sm tag d0 rk fu x a∧μ.2=((List.range j).map M,(rk (Vc j D),fu))
def MFin (j0:Nat) (m:Machine) (t:Trace):Prop :=
 ∃ j gs W sl D M O L ts rr st sm x a,m=crowd gs W sl∧WI P SB BB lets Gn ty Wg Dead Toy Kp Ψ0 Ψ2 j0 j gs W t D M O L ts rr st sm∧Fini P SB BB lets Pr T Fn x ts.tp a∧L 0=some x∧gs[0]?=some a∧Deaf t 0=0∧AllQuit j D∧Acq Wg j0 j rr t∧j<Kp.bd
def AddIn:Prop:=∀ (x:Lone) (G:Goroutine) (W:World) (fr:Frame) (cs:List Frame),x.g=bF P fA #[wgArg wl,.int .i64 1] fr cs->dG fr->x.T=T->x.β wl Wg->GLike P SB BB lets x G->WLike P SB lets Gn x W->WgLive ty Wg W ->
 ∃ gR m,GW P.b ty Wg true (AKd P.b ty Wg (fun g _=>g=gR)) m G W∧GLike P SB BB lets { x with g:=back fr cs } gR
def ia:Prop:=∀ (x:Lone) (G:Goroutine) (W:World) (fr:Frame) (cs:List Frame),x.g=bF P fW #[wgArg wl] fr cs->dG fr->x.T=T->x.β wl Wg->GLike P SB BB lets x G->WLike P SB lets Gn x W->WgLive ty Wg W ->
 ∃ gR m Anch,GW P.b ty Wg true (WKd P.b ty Wg Anch) m G W∧fE P ty Wg Anch gR∧GLike P SB BB lets { x with g:=back fr cs } gR
end
section
variable {P:Two} {SB BB:FuncId->Bool} {lets:Bool} {Gn:Nat} {ty Wg:Nat} {Dead Toy:Nat->Prop} {Kp:Keep} {Ψ0 Ψ2:World->Prop} {fA fW:FuncId} {wl:Nat} {Pr:Bij} {T:List Frame} {Fn:Bool->Hid->Goroutine->World->Prop}
 {j0 j:Nat} {gs:Array Goroutine} {W W':World} {t:Trace} {D:Nat->WD} {M:Nat->Wm} {O:Nat->Bool} {L:Nat->Option Lone} {ts ts':TS} {rr:Nat->Nat} {st sm st' sm':Int} {a a':Goroutine}
 {tag tag':CTag} {d0:Nat} {pre pre':Pre} {rk rk':Nat->Nat} {fu fu':Nat} {x:Lone} {sl:Option (Nat×Nat)}
def Stepped (P:Two) (SB BB:FuncId->Bool) (lets:Bool) (Gn:Nat) (ty Wg:Nat) (Dead Toy:Nat->Prop) (Kp:Keep) (Ψ0 Ψ2:World->Prop) (fA fW:FuncId) (wl:Nat) (Pr:Bij) (T:List Frame) (Fn:Bool->Hid->Goroutine->World->Prop) (j0:Nat) (μ:Mu) (gs:Array Goroutine) (W:World) (sl:Option (Nat×Nat)) (t:Trace):Prop :=
 ∃ m' ops μ',runT P.b (crowd gs W sl) 0=(.next m',ops)∧Rmu P.a μ' μ∧MInv P SB BB lets Gn ty Wg Dead Toy Kp Ψ0 Ψ2 fA fW wl Pr T Fn j0 μ' m' (t++ops)
theorem Acq.app {u:Trace} (h:Acq Wg j0 j rr t):Acq Wg j0 j rr (t++u):=by
 obtain ⟨q,h1,h2,h3,h4⟩:=h
 have hq:=lt_of_act? h1
 exact ⟨q,by rw [act?_old hq];exact h1,by rw [g?_old hq];exact h2,(heard_old hq).2 h3,h4⟩
theorem MI.book (h:MI P SB BB lets Gn ty Wg Dead Toy Kp Ψ0 Ψ2 fA fW wl Pr T Fn j0 pre j gs W t D M O L ts rr st sm tag d0 rk fu x a) (tz:ao Toy Ψ0) (tz2:ao Toy Ψ2) {es:Array Event} (hgo:stepG P.b true a W=.go a' W' es) (hAs:Aside Wg W W') (hwg:WgAt ty Wg W' st' sm') (hbk:∀ e∈es,eY Wg e)
  (hs:MSit P SB BB lets Gn ty Wg Toy Ψ0 Ψ2 fA fW wl Pr T Fn tag' (deafBehind d0 es) pre' rk' fu' x ts.tp a' W') (hmode:ConcN.Mode j D tag' st' sm') (hacq:tag'=.ret->Acq Wg j0 j rr (t++MemOp.ofEvents 0 a.frame.fn a.frame.place es)) (hb:pre'.1<=pre.1)
  (hlt:Lpre P.a pre' pre∨(pre'=pre∧Lph (rk' (Vc j D),fu') (rk (Vc j D),fu))):Stepped P SB BB lets Gn ty Wg Dead Toy Kp Ψ0 Ψ2 fA fW wl Pr T Fn j0 (pre,(List.range j).map M,(rk (Vc j D),fu)) gs W sl t:=by
 have hbd:=h.bd
 refine ⟨_,_,(pre',(List.range j).map M,(rk' (Vc j D),fu')),runT_crowd_go (P:=P.b) (sl:=sl) (i:=0) h.a0 (by simpa using hgo),?_,j,_,W',sl,D,M,O,L,ts,rr,st',sm',tag',deafBehind d0 es,rk',fu',x,a',rfl,⟨h.wi.book0 tz tz2 hAs hwg hbk,hs,h.L0,get_map_set_same _ _ _ (by rw [h.wi.size];omega),by rw [Deaf_own,h.deaf],hmode,hacq,(by show j+pre'.1<Kp.bd∧_;omega)⟩,rfl⟩
 rcases hlt with h1 | ⟨rfl,h1⟩
 ·exact Prod.Lex.left _ _ h1
 ·exact Prod.Lex.right _ (Prod.Lex.right _ h1)
theorem bkNil {Wg:Nat}:∀ e∈(#[]:Array Event),eY Wg e:=by simp
theorem bkDis {Wg:Nat}:∀ e∈#[mk .disable],eY Wg e:=by intro e he;simp at he;subst he;exact .inl (.inl rfl)
theorem bkEn {Wg:Nat}:∀ e∈#[mk .enable],eY Wg e:=by intro e he;simp at he;subst he;exact .inl (.inr (.inl rfl))
theorem bkRd {Wg:Nat}:∀ e∈#[rd (stA Wg)],eY Wg e:=by intro e he;simp at he;subst he;exact .inl (bk_cell _ _ rfl)
theorem bkRw {Wg:Nat}:∀ e∈#[rd (stA Wg),wr (stA Wg)],eY Wg e:=by intro e he;simp at he;rcases he with rfl | rfl<;>exact .inl (bk_cell _ _ rfl)
theorem bkSem {Wg:Nat}:∀ e∈semEvents (smA Wg),eY Wg e:=by
 intro e he
 simp [semEvents] at he
 rcases he with rfl | rfl | rfl | rfl
 ·exact .inl (.inl rfl)
 ·exact .inl (bk_cell _ _ rfl)
 ·exact .inl (bk_cell _ _ rfl)
 ·exact .inl (.inr (.inl rfl))
theorem jX {Wg:Nat}:(∀ e∈#[mk (.read (smA Wg))],eY Wg e)∧(∀ e∈#[mk (.write (smA Wg))],eY Wg e)∧∀ e∈#[mk (.acquire (stA Wg))],eY Wg e:=by
 refine ⟨fun e he=>?_,fun e he=>?_,fun e he=>?_⟩<;>simp at he<;>subst he
 ·exact .inr ⟨_,rfl,.inl rfl⟩
 ·exact .inr ⟨_,rfl,.inr (.inl rfl)⟩
 ·exact .inr ⟨_,rfl,.inr (.inr rfl)⟩
theorem preLt {p:Program} {k q q':Nat} {w w':Wm} (h:q<q'):Lpre p (k,q,w) (k,q',w'):=Prod.Lex.right _ (Prod.Lex.left _ _ h)
theorem ej {p:Program} {k q m m':Nat} (h:m<m'):Lpre p (k,q,.st 0 m) (k,q,.st 0 m'):=Prod.Lex.right _ (Prod.Lex.right _ ⟨.fuel h,Wlt.accSt p _ _⟩)
theorem phRank {r r' f f':Nat} (h:r<r'):Lph (r,f) (r',f'):=Prod.Lex.left _ _ h
theorem bL {r f f':Nat} (h:f<f'):Lph (r,f) (r,f'):=Prod.Lex.right _ h
theorem stepLib (tz:ao Toy Ψ0) (tz2:ao Toy Ψ2) (h:MI P SB BB lets Gn ty Wg Dead Toy Kp Ψ0 Ψ2 fA fW wl Pr T Fn j0 pre j gs W t D M O L ts rr st sm tag d0 rk fu x a) (hrun:a.status=.running) (hp:pre.2.1≠9∧pre.2.1≠3∧pre.2.1≠4) :
  MFin P SB BB lets Gn ty Wg Dead Toy Kp Ψ0 Ψ2 Pr T Fn j0 (crowd gs W sl) t∨Stepped P SB BB lets Gn ty Wg Dead Toy Kp Ψ0 Ψ2 fA fW wl Pr T Fn j0 (pre,(List.range j).map M,(rk (Vc j D),fu)) gs W sl t:=by
 have hmode:=h.mode
 have hwg:=h.wi.wg
 have hbd:=h.bd
 have hV:=Vc_le j D
 have hsit:=h.sit
 have nr:tag≠.ret->∀ u:Trace,tag=.ret->Acq Wg j0 j rr (t++u):=fun h _ e=>absurd e h
 cases hsit with
 | free _ _ _ _=>exact absurd rfl hp.1
 | mid _=>exact absurd rfl hp.2.1
 | aback _ _=>exact absurd rfl hp.2.2
 | akd hk hr =>
  rcases Goes.cases hk with hstop | ⟨m',rfl,hstep⟩
  ·obtain ⟨_,a',hgo,m₂,hk'⟩:=hstop W (RL.refl W)
   exact .inr (h.book tz tz2 hgo (.refl Wg W) hwg bkDis (.aa1 hk' hr) (hmode.reopen trivial trivial rfl (by simp)) (by simp) (Nat.le_refl _) (.inl (preLt (by omega))))
  ·obtain ⟨a',w',es,hgo,⟨rfl,rfl⟩,hg'⟩:=hstep W (RL.refl W)
   exact .inr (h.book tz tz2 hgo (.refl Wg w') hwg bkNil (.akd hg' hr) hmode (by simp) (Nat.le_refl _) (.inl (ej (by omega))))
 | aa1 hk hr =>
  rcases Goes.cases hk with hstop | ⟨m',rfl,hstep⟩
  ·obtain ⟨_,hall⟩:=hstop W (RL.refl W)
   obtain ⟨ho,rfl,rfl,_⟩:=hmode.open_inv trivial
   obtain ⟨a',hgo,h0,h1⟩:=hall (Vc j D) (by omega) (by simpa [pend] using hwg)
   have hm:ConcN.Mode j D (.sp 0 3) ((((Vc j D:Nat):Int)+1)*KK) 0:=by
    have e:(((Vc j D:Nat):Int)+1)*KK=((Vc j D+pend (.sp 0 3):Nat):Int)*KK:=by simp [pend]
    rw [e]
    exact .opn trivial ho (by simp)
   by_cases hv:Vc j D=0
   ·obtain ⟨m₂,hk'⟩:=h0 hv
    exact .inr (h.book tz tz2 hgo (aside_setCell W (stA Wg) _) (hwg.setSt _) bkRw (.arr hk' hr) hm (by simp) (Nat.le_refl _) (.inl (preLt (by omega))))
   ·obtain ⟨m₂,hk'⟩:=h1 hv
    exact .inr (h.book tz tz2 hgo (aside_setCell W (stA Wg) _) (hwg.setSt _) bkRw (.ake hk' hr) hm (by simp) (Nat.le_refl _) (.inl (preLt (by omega))))
  ·obtain ⟨a',w',es,hgo,⟨rfl,rfl⟩,hg'⟩:=hstep W (RL.refl W)
   exact .inr (h.book tz tz2 hgo (.refl Wg w') hwg bkNil (.aa1 hg' hr) hmode (by simp) (Nat.le_refl _) (.inl (ej (by omega))))
 | arr hk hr =>
  rcases Goes.cases hk with hstop | ⟨m',rfl,hstep⟩
  ·obtain ⟨_,a',hgo,m₂,hk'⟩:=hstop W (RL.refl W)
   exact .inr (h.book tz tz2 hgo (.refl Wg W) hwg jX.1 (.ake hk' hr) (hmode.reopen trivial trivial rfl (by simp)) (by simp) (Nat.le_refl _) (.inl (preLt (by omega))))
  ·obtain ⟨a',w',es,hgo,⟨rfl,rfl⟩,hg'⟩:=hstep W (RL.refl W)
   exact .inr (h.book tz tz2 hgo (.refl Wg w') hwg bkNil (.arr hg' hr) hmode (by simp) (Nat.le_refl _) (.inl (ej (by omega))))
 | ake hk hr =>
  rcases Goes.cases hk with hstop | ⟨m',rfl,hstep⟩
  ·obtain ⟨_,a',hgo,m₂,hk'⟩:=hstop W (RL.refl W)
   exact .inr (h.book tz tz2 hgo (.refl Wg W) hwg bkEn (.aback hk' hr) (hmode.reopen trivial trivial rfl (by simp)) (by simp) (Nat.le_refl _) (.inl (preLt (by omega))))
  ·obtain ⟨a',w',es,hgo,⟨rfl,rfl⟩,hg'⟩:=hstep W (RL.refl W)
   exact .inr (h.book tz tz2 hgo (.refl Wg w') hwg bkNil (.ake hg' hr) hmode (by simp) (Nat.le_refl _) (.inl (ej (by omega))))
 | wkd hk hf hA =>
  rcases Goes.cases hk with hstop | ⟨m',rfl,hstep⟩
  ·obtain ⟨_,a',hgo,m₂,hk'⟩:=hstop W (RL.refl W)
   exact .inr (h.book tz tz2 hgo (.refl Wg W) hwg bkDis (.anch hk' hf hA) (hmode.reopen trivial trivial rfl (by simp)) (by simp) (Nat.le_refl _) (.inr ⟨rfl,phRank (by omega)⟩))
  ·obtain ⟨a',w',es,hgo,⟨rfl,rfl⟩,hg'⟩:=hstep W (RL.refl W)
   exact .inr (h.book tz tz2 hgo (.refl Wg w') hwg bkNil (.wkd hg' hf hA) hmode (by simp) (Nat.le_refl _) (.inr ⟨rfl,bL (by omega)⟩))
 | anch hk hf hA =>
  rcases Goes.cases hk with hstop | ⟨m',rfl,hstep⟩
  ·obtain ⟨_,m₂,hk2⟩:=hA a W (hstop W (RL.refl W))
   rcases Goes.cases hk2 with hstop | ⟨m',rfl,hstep⟩
   ·obtain ⟨_,hall⟩:=hstop W (RL.refl W)
    obtain ⟨ho,rfl,rfl,_⟩:=hmode.open_inv trivial
    obtain ⟨a',hgo,h0,h1⟩:=hall (Vc j D) (by omega) (by simpa [pend] using hwg)
    by_cases hv:Vc j D=0
    ·obtain ⟨m₂,hk'⟩:=h0 hv
     refine .inr (h.book tz tz2 hgo (.refl Wg W) hwg bkRd (tag':=.ke) (.wke hk' hf) ?_ (by simp) (Nat.le_refl _) (.inr ⟨rfl,phRank (by omega)⟩))
     have e:((Vc j D+pend .anch:Nat):Int)*KK=0:=by rw [hv];simp [pend]
     rw [e]
     exact .fin trivial (allQuit_of ho hv)
    ·obtain ⟨m₂,hk'⟩:=h1 hv
     exact .inr (h.book tz tz2 hgo (.refl Wg W) hwg bkRd (tag':=.w2 (Vc j D)) (.w2 hk' hf hA) (hmode.reopen trivial trivial rfl (fun vs e=>by cases e;omega)) (by simp) (Nat.le_refl _) (.inr ⟨rfl,phRank (by omega)⟩))
   ·obtain ⟨a',w',es,hgo,⟨rfl,rfl⟩,hg'⟩:=hstep W (RL.refl W)
    exact .inr (h.book tz tz2 hgo (.refl Wg w') hwg bkNil (.w1 hg' hf hA) (hmode.reopen trivial trivial rfl (by simp)) (by simp) (Nat.le_refl _) (.inr ⟨rfl,phRank (by omega)⟩))
  ·obtain ⟨a',w',es,hgo,⟨rfl,rfl⟩,hg'⟩:=hstep W (RL.refl W)
   exact .inr (h.book tz tz2 hgo (.refl Wg w') hwg bkNil (.anch hg' hf hA) hmode (by simp) (Nat.le_refl _) (.inr ⟨rfl,bL (by omega)⟩))
 | w1 hk hf hA =>
  rcases Goes.cases hk with hstop | ⟨m',rfl,hstep⟩
  ·obtain ⟨_,hall⟩:=hstop W (RL.refl W)
   obtain ⟨ho,rfl,rfl,_⟩:=hmode.open_inv trivial
   obtain ⟨a',hgo,h0,h1⟩:=hall (Vc j D) (by omega) (by simpa [pend] using hwg)
   by_cases hv:Vc j D=0
   ·obtain ⟨m₂,hk'⟩:=h0 hv
    refine .inr (h.book tz tz2 hgo (.refl Wg W) hwg bkRd (tag':=.ke) (.wke hk' hf) ?_ (by simp) (Nat.le_refl _) (.inr ⟨rfl,phRank (by omega)⟩))
    have e:((Vc j D+pend .w1:Nat):Int)*KK=0:=by rw [hv];simp [pend]
    rw [e]
    exact .fin trivial (allQuit_of ho hv)
   ·obtain ⟨m₂,hk'⟩:=h1 hv
    exact .inr (h.book tz tz2 hgo (.refl Wg W) hwg bkRd (tag':=.w2 (Vc j D)) (.w2 hk' hf hA) (hmode.reopen trivial trivial rfl (fun vs e=>by cases e;omega)) (by simp) (Nat.le_refl _) (.inr ⟨rfl,phRank (by omega)⟩))
  ·obtain ⟨a',w',es,hgo,⟨rfl,rfl⟩,hg'⟩:=hstep W (RL.refl W)
   exact .inr (h.book tz tz2 hgo (.refl Wg w') hwg bkNil (.w1 hg' hf hA) hmode (by simp) (Nat.le_refl _) (.inr ⟨rfl,bL (by omega)⟩))
 | w2 hk hf hA =>
  rename_i k vs gR Anch
  rcases Goes.cases hk with hstop | ⟨m',rfl,hstep⟩
  ·obtain ⟨_,hall⟩:=hstop W (RL.refl W)
   obtain ⟨ho,rfl,rfl,hw2⟩:=hmode.open_inv trivial
   obtain ⟨hle,h1⟩:=hw2 vs rfl
   obtain ⟨hhit,hmiss⟩:=hall (Vc j D) (by omega) (by simpa [pend] using hwg)
   by_cases e:Vc j D=vs
   ·obtain ⟨a',hgo,m₂,hk'⟩:=hhit e
    exact .inr (h.book tz tz2 hgo (aside_setCell W (stA Wg) _) (hwg.setSt _) bkRw (.wrw hk' hf) (.reg trivial ho (by omega)) (by simp) (Nat.le_refl _) (.inr ⟨rfl,phRank (by omega)⟩))
   ·obtain ⟨a',hgo,m₂,hk'⟩:=hmiss e
    exact .inr (h.book tz tz2 hgo (.refl Wg W) hwg bkRd (.anch hk' hf hA) (hmode.reopen trivial trivial rfl (by simp)) (by simp) (Nat.le_refl _) (.inr ⟨rfl,phRank (by omega)⟩))
  ·obtain ⟨a',w',es,hgo,⟨rfl,rfl⟩,hg'⟩:=hstep W (RL.refl W)
   exact .inr (h.book tz tz2 hgo (.refl Wg w') hwg bkNil (.w2 hg' hf hA) hmode (by simp) (Nat.le_refl _) (.inr ⟨rfl,bL (by omega)⟩))
 | wrw hk hf =>
  rcases Goes.cases hk with hstop | ⟨m',rfl,hstep⟩
  ·obtain ⟨_,a',hgo,m₂,hk'⟩:=hstop W (RL.refl W)
   exact .inr (h.book tz tz2 hgo (.refl Wg W) hwg jX.2.1 (.w3 hk' hf) hmode (by simp) (Nat.le_refl _) (.inr ⟨rfl,phRank (by omega)⟩))
  ·obtain ⟨a',w',es,hgo,⟨rfl,rfl⟩,hg'⟩:=hstep W (RL.refl W)
   exact .inr (h.book tz tz2 hgo (.refl Wg w') hwg bkNil (.wrw hg' hf) hmode (by simp) (Nat.le_refl _) (.inr ⟨rfl,bL (by omega)⟩))
 | w3 hk hf =>
  rcases Goes.cases hk with hstop | ⟨m',rfl,hstep⟩
  ·obtain ⟨_,hoff,hblk,htake⟩:=hstop W (RL.refl W)
   cases hmode with
   | opn h1 _ _=>exact h1.elim
   | reg h1 h2 h3=>exact .inr (h.book tz tz2 (hblk ⟨_,hwg⟩) (.refl Wg W) hwg bkNil (.blk hstop hf) (.reg trivial h2 h3) (by simp) (Nat.le_refl _) (.inr ⟨rfl,bL (by omega)⟩))
   | last Lx h1 h2 h3 h4=>exact .inr (h.book tz tz2 (hblk ⟨_,hwg⟩) (.refl Wg W) hwg bkNil (.blk hstop hf) (.last Lx trivial h2 h3 h4) (by simp) (Nat.le_refl _) (.inr ⟨rfl,bL (by omega)⟩))
   | sema h2 =>
    obtain ⟨a',hgo,m₂,hk'⟩:=htake hwg
    refine .inr (h.book tz tz2 hgo (aside_setCell W (smA Wg) _) (hwg.setSm 0) bkSem (tag':=.w4) (by
     have:deafBehind 1 (semEvents (smA Wg))=1:=by simp [deafBehind,semEvents]
     rw [this];exact .w4 hk' hf) (.fin trivial h2) (by simp) (Nat.le_refl _) (.inr ⟨rfl,phRank (by omega)⟩))
   | fin h1 _=>exact h1.elim
  ·obtain ⟨a',w',es,hgo,⟨rfl,rfl⟩,hg'⟩:=hstep W (RL.refl W)
   exact .inr (h.book tz tz2 hgo (.refl Wg w') hwg bkNil (.w3 hg' hf) hmode (by simp) (Nat.le_refl _) (.inr ⟨rfl,bL (by omega)⟩))
 | blk _ _=>simp at hrun
 | w4 hk hf =>
  rcases Goes.cases hk with hstop | ⟨m',rfl,hstep⟩
  ·obtain ⟨_,hx⟩:=hstop W (RL.refl W)
   obtain ⟨hq,rfl,rfl⟩:=hmode.fin_inv trivial
   obtain ⟨a',hgo,m₂,hk'⟩:=hx hwg
   exact .inr (h.book tz tz2 hgo (.refl Wg W) hwg bkRd (.wke hk' hf) (.fin trivial hq) (by simp) (Nat.le_refl _) (.inr ⟨rfl,phRank (by omega)⟩))
  ·obtain ⟨a',w',es,hgo,⟨rfl,rfl⟩,hg'⟩:=hstep W (RL.refl W)
   exact .inr (h.book tz tz2 hgo (.refl Wg w') hwg bkNil (.w4 hg' hf) hmode (by simp) (Nat.le_refl _) (.inr ⟨rfl,bL (by omega)⟩))
 | wke hk hf =>
  rcases Goes.cases hk with hstop | ⟨m',rfl,hstep⟩
  ·obtain ⟨_,a',hgo,m₂,hk'⟩:=hstop W (RL.refl W)
   obtain ⟨hq,rfl,rfl⟩:=hmode.fin_inv trivial
   exact .inr (h.book tz tz2 hgo (.refl Wg W) hwg bkEn (.wacq hk' hf) (.fin trivial hq) (by simp) (Nat.le_refl _) (.inr ⟨rfl,phRank (by omega)⟩))
  ·obtain ⟨a',w',es,hgo,⟨rfl,rfl⟩,hg'⟩:=hstep W (RL.refl W)
   exact .inr (h.book tz tz2 hgo (.refl Wg w') hwg bkNil (.wke hg' hf) hmode (by simp) (Nat.le_refl _) (.inr ⟨rfl,bL (by omega)⟩))
 | wacq hk hf =>
  rcases Goes.cases hk with hstop | ⟨m',rfl,hstep⟩
  ·obtain ⟨_,a',hgo,m₂,hk'⟩:=hstop W (RL.refl W)
   obtain ⟨hq,rfl,rfl⟩:=hmode.fin_inv trivial
   refine .inr (h.book tz tz2 hgo (.refl Wg W) hwg jX.2.2 (.fin hk' hf) (.fin trivial hq) (fun _=>?_) (Nat.le_refl _) (.inr ⟨rfl,phRank (by omega)⟩))
   have e1:MemOp.ofEvents 0 a.frame.fn a.frame.place #[mk (.acquire (stA Wg))]=#[{ g:=0,fn:=a.frame.fn,pos:=a.frame.place,act:=.mark (.acquire (stA Wg)) }]:=by rw [ofEvents_eq];simp [ofEvent_mk]
   have hy:(t++#[({ g:=0,fn:=a.frame.fn,pos:=a.frame.place,act:=.mark (.acquire (stA Wg)) }:MemOp)])[t.size]?=some { g:=0,fn:=a.frame.fn,pos:=a.frame.place,act:=.mark (.acquire (stA Wg)) }:=by simp
   refine ⟨t.size,by rw [e1,act?_of hy],by rw [e1];simp [Trace.g?],by rw [e1];exact ⟨0,by simp [Trace.g?],by rw [deaf_old (Nat.le_refl _)];exact h.deaf⟩,fun i h0 hi=>?_⟩
   exact lt_of_act? (h.wi.rel i h0 hi (by rw [hq i hi];omega)).act
  ·obtain ⟨a',w',es,hgo,⟨rfl,rfl⟩,hg'⟩:=hstep W (RL.refl W)
   exact .inr (h.book tz tz2 hgo (.refl Wg w') hwg bkNil (.wacq hg' hf) hmode (by simp) (Nat.le_refl _) (.inr ⟨rfl,bL (by omega)⟩))
 | fin hk hf =>
  obtain ⟨hq,rfl,rfl⟩:=hmode.fin_inv trivial
  rcases Goes.cases hk with hstop | ⟨m',rfl,hstep⟩
  ·have e:=hstop W (RL.refl W)
   subst e
   exact .inl ⟨j,gs,W,sl,D,M,O,L,ts,rr,0,0,x,a,rfl,h.wi,hf,h.L0,h.a0,h.deaf,hq,h.acq rfl,by have:=h.bd;omega⟩
  ·obtain ⟨a',w',es,hgo,⟨rfl,rfl⟩,hg'⟩:=hstep W (RL.refl W)
   exact .inr (h.book tz tz2 hgo (.refl Wg w') hwg bkNil (.fin hg' hf) hmode (fun _=>(h.acq rfl).app) (Nat.le_refl _) (.inr ⟨rfl,bL (by omega)⟩))
end
open Go.Iso Go.Conc Go.ConcN
open Go.ConcR (KK WgAt stA smA rd wr mk DC0 Bk g_of_ofEvents bk_of_mute ofEvent_loc_mark ofEvent_cell ofEvent_mk)
section
variable {P:Two} {SB BB:FuncId->Bool} {lets:Bool} {Gn:Nat} {ty Wg:Nat} {Dead Toy:Nat->Prop} {Kp:Keep} {Ψ0 Ψ2:World->Prop} {fA fW:FuncId} {wl:Nat} {Pr:Bij} {T:List Frame} {Fn:Bool->Hid->Goroutine->World->Prop}
 {j0 j:Nat} {gs:Array Goroutine} {W W':World} {t:Trace} {D:Nat->WD} {M:Nat->Wm} {O:Nat->Bool} {L:Nat->Option Lone} {ts ts':TS} {rr:Nat->Nat} {st sm st' sm':Int} {a a':Goroutine}
 {tag tag':CTag} {d0:Nat} {pre pre':Pre} {rk rk':Nat->Nat} {fu fu':Nat} {x:Lone} {sl:Option (Nat×Nat)}
theorem WI.own0 (h:WI P SB BB lets Gn ty Wg Dead Toy Kp Ψ0 Ψ2 j0 j gs W t D M O L ts rr st sm):ts.own≠some 0:=fun e=>by
 cases ts with
 | at_ k =>
  obtain ⟨i,_,e1,_⟩:=h.own2 k rfl
  simp only [TS.own,Option.some.injEq] at e
  omega
 | _=>cases e
theorem WI.reg (h:WI P SB BB lets Gn ty Wg Dead Toy Kp Ψ0 Ψ2 j0 j gs W t D M O L ts rr st sm) (hL:L 0=some x) (g':Goroutine):WI P SB BB lets Gn ty Wg Dead Toy Kp Ψ0 Ψ2 j0 j gs W t D M O (put L 0 (some { x with g:=g' })) ts rr st sm:=by
 have get:∀ {b y},put L 0 (some { x with g:=g' }) b=some y->∃ z,L b=some z∧y.w=z.w∧y.H=z.H∧y.β=z.β:=fun {b y} e=>by
  by_cases e':b=0
  ·subst e';rw [put_same] at e;cases e;exact ⟨x,hL,rfl,rfl,rfl⟩
  ·rw [put_ne L _ e'] at e;exact ⟨y,e,rfl,rfl,rfl⟩
 have c:=h.cw
 refine ⟨h.size,fun i hi=>?_,⟨fun b y hy=>?_,fun b y hy=>?_,fun b y hy=>?_,fun b y hy=>?_,fun b y hy=>?_,fun b k y z hne hy hz=>?_,c.low,c.toyW,c.keep,fun b y hy=>?_,c.toyK,c.osk⟩,h.tr.rights (fun k l=>?_) (fun k l=>?_),h.low,h.deafW,h.rel,h.wg,h.own1,h.own2,h.toys,fun i hi=>?_,h.old,h.jj⟩
 ·rw [put_ne L _ (by omega)];exact h.wk i hi
 ·obtain ⟨z,h1,h2,h3,h4⟩:=get hy
  have:=c.like b z h1
  unfold WLike at this ⊢
  rw [h2,h3,h4];exact this
 ·obtain ⟨z,h1,h2,h3,h4⟩:=get hy
  rw [h3];exact c.twin b z h1
 ·obtain ⟨z,h1,h2,h3,h4⟩:=get hy
  rw [h3,h4];exact c.wgh b z h1
 ·obtain ⟨z,h1,h2,h3,h4⟩:=get hy
  rw [h4];exact c.dead b z h1
 ·obtain ⟨z,h1,h2,h3,h4⟩:=get hy
  rw [h3,h4];exact c.toy b z h1
 ·obtain ⟨y',h1,h2,h3,h4⟩:=get hy
  obtain ⟨z',k1,k2,k3,k4⟩:=get hz
  rw [h2,h3,h4,k2,k3,k4];exact c.sep b k y' z' hne h1 k1
 ·obtain ⟨z,h1,h2,h3,h4⟩:=get hy
  rw [h2,h3,h4];exact c.keepx b z h1
 ·rintro (⟨y,hy,hw⟩ | hw)
  ·obtain ⟨z,h1,h2,h3,h4⟩:=get hy
   refine .inl ⟨z,h1,?_⟩
   unfold WrOf at hw ⊢
   rw [h2,h3,h4] at hw;exact hw
  ·exact .inr hw
 ·rintro (⟨y,hy,hw⟩ | hw)
  ·obtain ⟨z,h1,h2,h3,h4⟩:=get hy
   refine .inl ⟨z,h1,?_⟩
   unfold RdOf at hw ⊢
   rw [h3,h4] at hw;exact hw
  ·exact .inr hw
 ·rw [put_ne L _ (by omega)];exact h.out i hi
theorem jY (lib:∀ H,Lib P SB H lets BB Gn) (tz:ao Toy Ψ0) (tz2:ao Toy Ψ2) {k q:Nat} {Q:Goroutine->World->Prop}
  (h:MI P SB BB lets Gn ty Wg Dead Toy Kp Ψ0 Ψ2 fA fW wl Pr T Fn j0 (k,q,.tree Q (x.g,x.w)) j gs W t D M O L ts rr st sm tag 0 rk fu x a) (hne:tag≠.ret) (hr:Runs P.a (Fine P.a BB) Q x.g x.w) (hq:¬ Q x.g x.w) (hg:GLike P SB BB lets x a) (hwl:Pr.le x.β) (hT:x.T=T)
  (mkS:∀ (x':Lone) (G:Goroutine) (W:World),x'.H=x.H->x'.T=T->Pr.le x'.β->Runs P.a (Fine P.a BB) Q x'.g x'.w->GLike P SB BB lets x' G->MSit P SB BB lets Gn ty Wg Toy Ψ0 Ψ2 fA fW wl Pr T Fn tag 0 (k,q,.tree Q (x'.g,x'.w)) rk fu x' ts.tp G W) :
  Stepped P SB BB lets Gn ty Wg Dead Toy Kp Ψ0 Ψ2 fA fW wl Pr T Fn j0 ((k,q,.tree Q (x.g,x.w)),(List.range j).map M,(rk (Vc j D),fu)) gs W sl t:=by
 obtain ⟨g',w',es,β',g2,W',ES,e1,e2,e3,e4,e5⟩:=Iso.follow (lib x.H) (main2:=true) hr hq hg (h.wi.cw.like _ x h.L0)
 have f:FinOf P SB lets Gn x W β' w' W' ES.toList:=e5
 have htw:=h.wi.cw.twin _ x h.L0
 have hmk:=bU f htw
 rw [show ES.toList.toArray=ES by simp] at hmk
 have hdf:deafBehind 0 ES=0:=deafBehind_idle (fun e he=>⟨(hmk e he).1,(hmk e he).2.1⟩) 0
 refine ⟨_,_,((k,q,.tree Q (g',w')),(List.range j).map M,(rk (Vc j D),fu)),runT_crowd_go (P:=P.b) (sl:=sl) (i:=0) h.a0 (by simpa using e3),Prod.Lex.left _ _ (Prod.Lex.right _ (Prod.Lex.right _ ⟨.tree hq ⟨W.tape,W.drawn,es,e1,e4.callers.ne⟩,Wlt.accTree (KTr.of hr)⟩)),
  j,_,W',sl,D,M,O,_,ts,rr,st,sm,tag,0,rk,fu,⟨g',w',x.H,β',x.T⟩,g2,rfl,⟨h.wi.tree0 tz tz2 h.L0 f g',mkS ⟨g',w',x.H,β',x.T⟩ g2 W' rfl hT (Bij.le_trans hwl e5.le) e2 e4,put_same L _ _,get_map_set_same _ _ _ (by rw [h.wi.size];omega),by rw [Deaf_own,h.deaf];exact hdf,h.mode,fun e=>absurd e hne,h.bd⟩,rfl⟩
theorem stepMid (lib:∀ H,Lib P SB H lets BB Gn) (tz:ao Toy Ψ0) (tz2:ao Toy Ψ2) {k:Nat}
  (h:MI P SB BB lets Gn ty Wg Dead Toy Kp Ψ0 Ψ2 fA fW wl Pr T Fn j0 (k+1,3,.tree (GoQ P SB BB lets Gn ty Wg Toy Ψ0 Ψ2 fA fW wl Pr T Fn k ts.tp x.H) (x.g,x.w)) j gs W t D M O L ts rr st sm (.sp 0 2) 0 rk fu x a) (hr:Rest P SB BB lets Gn ty Wg Toy Ψ0 Ψ2 fA fW wl Pr T Fn k x ts.tp a) (hrk:rk=fun _=>0) (hfu:fu=0) :
  Stepped P SB BB lets Gn ty Wg Dead Toy Kp Ψ0 Ψ2 fA fW wl Pr T Fn j0 ((k+1,3,.tree (GoQ P SB BB lets Gn ty Wg Toy Ψ0 Ψ2 fA fW wl Pr T Fn k ts.tp x.H) (x.g,x.w)),(List.range j).map M,(rk (Vc j D),fu)) gs W sl t:=by
 subst hrk hfu
 by_cases hq:GoQ P SB BB lets Gn ty Wg Toy Ψ0 Ψ2 fA fW wl Pr T Fn k ts.tp x.H x.g x.w
 ·obtain ⟨G',child,x',xk,tp',o,wlk,Q,hgo,hsp,hT',hwl',hS,hQ,hrk⟩:=hq x a W rfl ⟨rfl,rfl,rfl⟩ rfl hr.t hr.wl hr.gl (h.wi.cw.like 0 x h.L0) (fun e=>h.wi.toys.1 (by cases ts<;>first | rfl | cases e)) (h.wi.cw.toy 0 x h.L0 h.wi.own0) (h.wi.cw.wgh 0 x h.L0) (h.wi.cw.twin 0 x h.L0)
  have hrun:=runT_crowd_spawn (P:=P.b) (sl:=sl) (i:=0) h.a0 (by simpa using hgo)
  rw [h.wi.size] at hrun
  have e0:∀ (p q:MemOp),((MemOp.ofEvents 0 a.frame.fn a.frame.place #[]).push p).push q=#[p,q]:=fun p q=>by rw [ofEvents_eq];simp
  rw [e0] at hrun
  obtain ⟨hw,htp⟩:=h.wi.spawn h.L0 hsp hQ hrk.1 hrk.2 h.deaf (p:={ g:=0,fn:=a.frame.fn,pos:=a.frame.place,act:=.go (j+1) }) (q:={ g:=j+1,fn:=child.frame.fn,pos:=a.frame.place,act:=.start }) ⟨rfl,rfl⟩ ⟨rfl,rfl⟩
  obtain ⟨ho,hst,hsm,_⟩:=h.mode.open_inv trivial
  have eV:Vc (j+1) (upd D j ⟨7,0,0⟩)=Vc j D+1:=by
   simp only [Vc,sumTo,upd_same]
   rw [sumTo_upd_out D _ cnt (Nat.le_refl _)];rfl
  have hm:ConcN.Mode (j+1) (upd D j ⟨7,0,0⟩) (.sp 0 5) st sm:=by
   have e:st=((Vc (j+1) (upd D j ⟨7,0,0⟩)+pend (.sp 0 5):Nat):Int)*KK:=by rw [hst,eV];simp [pend]
   rw [e,hsm]
   refine .opn trivial (fun i hi=>?_) (by simp)
   by_cases e:i=j
   ·subst e;rw [upd_same];simp
   ·rw [upd_ne D _ e];exact ho i (by omega)
  have hbd:=h.bd
  refine ⟨_,_,((k,9,.tree (ScrQ P SB BB lets Gn ty Wg Toy Ψ0 Ψ2 fA fW wl Pr T Fn k tp' x'.H) (x'.g,x'.w)),(List.range (j+1)).map (upd M j (.born Q (xk.g,xk.w))),(0,0)),hrun,Prod.Lex.left _ _ (Prod.Lex.left _ _ (Nat.lt_succ_self k)),
   j+1,_,W,sl,_,_,_,_,_,rr,st,sm,.sp 0 5,0,fun _=>0,0,x',G',rfl,⟨hw,by rw [htp];exact .free hS hwl' hT' hsp.gl,by rw [put_ne _ _ (by omega)];exact put_same L _ _,?_,?_,hm,fun e=>by simp at e,by simp only at hbd ⊢;omega⟩,rfl⟩
  ·rw [Array.getElem?_push_lt (by simp [h.wi.size]),<- Array.getElem?_eq_getElem]
   simp [h.wi.size]
  ·rw [Deaf_still t 0 _ (fun op hop=>?_),h.deaf]
   simp only [List.mem_toArray,List.mem_cons,List.not_mem_nil,or_false] at hop
   rcases hop with rfl | rfl<;>exact ⟨by simp,by simp⟩
 ·exact jY lib tz tz2 h (by simp) hr.run hq hr.gl hr.wl hr.t fun x' G W e1 e2 e3 e4 e5 => by
   have hR:Rest P SB BB lets Gn ty Wg Toy Ψ0 Ψ2 fA fW wl Pr T Fn k x' ts.tp G:=⟨by rw [e1];exact e4,e3,e2,e5⟩
   have:=MSit.mid (W:=W) hR
   rw [e1] at this
   exact this
theorem step0 (hPr:Pr wl Wg) (lib:∀ H,Lib P SB H lets BB Gn) (tz:ao Toy Ψ0) (tz2:ao Toy Ψ2) (hA:AddIn P SB BB lets Gn ty Wg fA wl T) (hW:ia P SB BB lets Gn ty Wg fW wl T)
  (h:MI P SB BB lets Gn ty Wg Dead Toy Kp Ψ0 Ψ2 fA fW wl Pr T Fn j0 pre j gs W t D M O L ts rr st sm tag d0 rk fu x a) (hrun:a.status=.running) :
  MFin P SB BB lets Gn ty Wg Dead Toy Kp Ψ0 Ψ2 Pr T Fn j0 (crowd gs W sl) t∨Stepped P SB BB lets Gn ty Wg Dead Toy Kp Ψ0 Ψ2 fA fW wl Pr T Fn j0 (pre,(List.range j).map M,(rk (Vc j D),fu)) gs W sl t:=by
 by_cases h3:pre.2.1≠9∧pre.2.1≠3∧pre.2.1≠4
 ·exact stepLib tz tz2 h hrun h3
 have hsit:=h.sit
 have go : ∀ {tag' : CTag} {d1 : Nat} {k q q' : Nat} {w1 w : Wm} {rk' : Nat -> Nat} {fu' : Nat} {g' : Goroutine}, q < q' -> q ≠ 9 ∧ q ≠ 3 ∧ q ≠ 4 -> pre = (k, q', w) -> ConcN.Mode j D tag' st sm -> tag' ≠ .ret -> Deaf t 0 = d1 ->
   MSit P SB BB lets Gn ty Wg Toy Ψ0 Ψ2 fA fW wl Pr T Fn tag' d1 (k,q,w1) rk' fu' { x with g:=g' } ts.tp a W->MFin P SB BB lets Gn ty Wg Dead Toy Kp Ψ0 Ψ2 Pr T Fn j0 (crowd gs W sl) t∨Stepped P SB BB lets Gn ty Wg Dead Toy Kp Ψ0 Ψ2 fA fW wl Pr T Fn j0 (pre,(List.range j).map M,(rk (Vc j D),fu)) gs W sl t:=by
  intro tag' d1 k q q' w1 w rk' fu' g' hq hq' hpre hm hne hd hs
  have hbd:=h.bd
  subst hpre
  have h':MI P SB BB lets Gn ty Wg Dead Toy Kp Ψ0 Ψ2 fA fW wl Pr T Fn j0 (k,q,w1) j gs W t D M O (put L 0 (some { x with g:=g' })) ts rr st sm tag' d1 rk' fu' { x with g:=g' } a :=
   ⟨h.wi.reg h.L0 g',hs,put_same L _ _,h.a0,hd,hm,fun e=>absurd e hne,hbd⟩
  rcases stepLib (sl:=sl) tz tz2 h' hrun hq' with hf | ⟨m',ops,μ',k1,k2,k3⟩
  ·exact .inl hf
  ·exact .inr ⟨m',ops,μ',k1,Rmu.phase hq k2,k3⟩
 have wait:∀ {k:Nat} {w:Wm},pre=(k,9,w)->tag=.sp 0 5->d0=0->fD P fW wl Fn ts.tp x.H x.g x.w->Pr.le x.β->x.T=T->GLike P SB BB lets x a->MFin P SB BB lets Gn ty Wg Dead Toy Kp Ψ0 Ψ2 Pr T Fn j0 (crowd gs W sl) t∨Stepped P SB BB lets Gn ty Wg Dead Toy Kp Ψ0 Ψ2 fA fW wl Pr T Fn j0 (pre,(List.range j).map M,(rk (Vc j D),fu)) gs W sl t:=by
  rintro k w hpre ht hd ⟨fr,cs,e,hcl,hfn⟩ hwl hT hg
  obtain ⟨gR,m,Anch,k1,k2,k3⟩:=hW x a W fr cs e hcl hT (hwl _ _ hPr) hg (h.wi.cw.like 0 x h.L0) h.wi.live
  refine go (q:=2) (g':=back fr cs) (by omega) (by omega) hpre (by have:=h.mode;rw [ht] at this;exact this.reopen (tag':=.kd) trivial trivial rfl (by simp)) (by simp) (h.deaf.trans hd) (.wkd k1 ?_ k2)
  exact ⟨hfn,hwl,hT,k3⟩
 generalize hpre:pre=pre0 at hsit
 cases hsit with
 | @free k _ _ _ _ hr hwl hT hg =>
  by_cases hq:ScrQ P SB BB lets Gn ty Wg Toy Ψ0 Ψ2 fA fW wl Pr T Fn k ts.tp x.H x.g x.w
  ·cases k with
   | zero=>rw [<- hpre];exact wait hpre rfl rfl hq hwl hT hg
   | succ k =>
    rw [<- hpre]
    rcases hq with hq | ⟨fr,cs,e,hcl,hrest⟩
    ·exact wait hpre rfl rfl hq hwl hT hg
    ·obtain ⟨gR,m,k1,k2⟩:=hA x a W fr cs e hcl hT (hwl _ _ hPr) hg (h.wi.cw.like 0 x h.L0) h.wi.live
     exact go (q:=8) (g':=back fr cs) (by omega) (by omega) hpre h.mode (by simp) h.deaf (.akd k1 ⟨hrest,hwl,hT,k2⟩)
  ·rw [hpre] at h
   exact .inr (jY lib tz tz2 h (by simp) hr hq hg hwl hT fun x' G W e1 e2 e3 e4 e5=>by
    have:=MSit.free (P:=P) (SB:=SB) (BB:=BB) (lets:=lets) (Gn:=Gn) (ty:=ty) (Wg:=Wg) (Toy:=Toy) (Ψ0:=Ψ0) (Ψ2:=Ψ2) (fA:=fA) (fW:=fW) (wl:=wl) (Pr:=Pr) (T:=T) (Fn:=Fn) (k:=k) (x:=x') (tp:=ts.tp) (W:=W) (by rw [e1];exact e4) e3 e2 e5
    rw [e1] at this
    exact this)
 | mid hr=>rw [hpre] at h;exact .inr (stepMid lib tz tz2 h hr rfl rfl)
 | aback hk hr =>
  rcases Goes.cases hk with hstop | ⟨m',rfl,hstep⟩
  ·have e:=hstop W (RL.refl W)
   subst e
   have hbd:=h.bd
   rw [hpre] at h hbd
   have h':=MI.mk (Fn:=Fn) (fA:=fA) (fW:=fW) (wl:=wl) (Pr:=Pr) (T:=T) h.wi (.mid hr) h.L0 h.a0 h.deaf h.mode (fun e=>by simp at e) hbd
   obtain ⟨m',ops,μ',k1,k2,k3⟩:=stepMid (sl:=sl) lib tz tz2 h' hr rfl rfl
   exact .inr ⟨m',ops,μ',k1,Rmu.phase (by omega) k2,k3⟩
  ·obtain ⟨a',w',es,hgo,⟨rfl,rfl⟩,hg'⟩:=hstep W (RL.refl W)
   rw [hpre] at h
   exact .inr (h.book tz tz2 hgo (.refl Wg w') h.wi.wg bkNil (.aback hg' hr) h.mode (by simp) (Nat.le_refl _) (.inl (ej (by omega))))
 | _ =>
  subst hpre
  exact absurd ⟨by simp,by simp,by simp⟩ h3
end
open Go.Iso Go.Conc Go.ConcN
open Go.ConcR (KK WgAt stA smA rd wr mk DC0 Bk g_of_ofEvents bk_of_mute ofEvent_loc_mark ofEvent_cell ofEvent_mk)
section
variable {P:Two} {SB BB:FuncId->Bool} {lets:Bool} {Gn:Nat} {ty Wg:Nat} {Dead Toy:Nat->Prop} {Kp:Keep} {Ψ0 Ψ2:World->Prop} {fA fW:FuncId} {wl:Nat} {Pr:Bij} {T:List Frame} {Fn:Bool->Hid->Goroutine->World->Prop}
 {j0 j:Nat} {gs:Array Goroutine} {W W':World} {t:Trace} {D:Nat->WD} {M:Nat->Wm} {O:Nat->Bool} {L:Nat->Option Lone} {ts ts':TS} {rr:Nat->Nat} {st sm st' sm':Int} {a a':Goroutine}
 {tag tag':CTag} {d0:Nat} {pre pre':Pre} {rk rk':Nat->Nat} {fu fu':Nat} {x:Lone} {sl:Option (Nat×Nat)}
theorem KSit.leaving {s d:Nat} {m:Wm} {x:Option Lone} {o:Bool} {g:Goroutine} (h:KSit P SB BB lets Gn ty Wg Ψ2 s d m x o g W) (hs:s=1):(∃ q,QuitsD P.b q d g)∧o=false:=by
 cases h<;>first | (exact absurd hs (by decide)) | (exact ⟨⟨_,‹_›⟩,rfl⟩)
theorem WI.at (h:WI P SB BB lets Gn ty Wg Dead Toy Kp Ψ0 Ψ2 j0 j gs W t D M O L ts rr st sm) (tz:ao Toy Ψ0) (tz2:ao Toy Ψ2) (d:Nat):WI P SB BB lets Gn ty Wg Dead Toy Kp Ψ0 Ψ2 j0 j gs (W.at d) t D M O L ts rr st sm :=
 ⟨h.size,fun i hi=>let ⟨g,hg,hs⟩:=h.wk i hi;⟨g,hg,hs.rely fun x=>x⟩,h.cw.at d,h.tr,h.low,h.deafW,h.rel,h.wg,h.own1,h.own2,⟨fun e=>tz W _ (fun _ _=>rfl) (h.toys.1 e),fun e=>tz2 W _ (fun _ _=>rfl) (h.toys.2 e)⟩,h.out,h.old,h.jj⟩
theorem MI.at (h:MI P SB BB lets Gn ty Wg Dead Toy Kp Ψ0 Ψ2 fA fW wl Pr T Fn j0 pre j gs W t D M O L ts rr st sm tag d0 rk fu x a) (tz:ao Toy Ψ0) (tz2:ao Toy Ψ2) (d:Nat):MI P SB BB lets Gn ty Wg Dead Toy Kp Ψ0 Ψ2 fA fW wl Pr T Fn j0 pre j gs (W.at d) t D M O L ts rr st sm tag d0 rk fu x a :=
 ⟨h.wi.at tz tz2 d,h.sit.rely fun x=>x,h.L0,h.a0,h.deaf,h.mode,h.acq,h.bd⟩
theorem stepK (lib:∀ H,Lib P SB H lets BB Gn) (hmf:∀ (f:FuncId) (fn:Func),P.a.funcs[f]?=some fn->fn.body.isNone=true->P.fs[f]?=some fn) (tz:ao Toy Ψ0) (tz2:ao Toy Ψ2)
  (h:MI P SB BB lets Gn ty Wg Dead Toy Kp Ψ0 Ψ2 fA fW wl Pr T Fn j0 pre j gs W t D M O L ts rr st sm tag d0 rk fu x a) {i:Nat} (hi:i<j) {g:Goroutine} (hg:gs[i+1]?=some g) (hrun:g.status=.running) :
  ∃ m' ops μ',runT P.b (crowd gs W sl) (i+1)=(.next m',ops)∧Rmu P.a μ' (pre,(List.range j).map M,(rk (Vc j D),fu))∧MInv P SB BB lets Gn ty Wg Dead Toy Kp Ψ0 Ψ2 fA fW wl Pr T Fn j0 μ' m' (t++ops):=by
 have hbd:=h.bd
 have hpend:pend tag<=1:=by cases tag<;>simp [pend]<;>split<;>omega
 obtain ⟨g',W',es,D',M',O',L',ts',rr',st',sm',k1,k2,k3,k4,k5,k6,k7,k8,htp⟩:=moved lib hmf h.wi tz tz2 hi hg hrun h.mode (by omega)
 obtain ⟨tag',rk',fu',s1,s2,s3⟩:=h.sit.wokenBy (W':=W') (fun _=>k2.live) g g'
 refine ⟨_,_,(pre,(List.range j).map M',(rk' (Vc j D'),fu')),runT_crowd_go (P:=P.b) (sl:=sl) (i:=i+1) hg (by simpa using k1),?_,j,_,W',sl,D',M',O',L',ts',rr',st',sm',tag',d0,rk',fu',x,woken P.b g g' W' a,rfl,
  ⟨k2,by rw [htp];exact s1,k6.trans h.L0,by rw [get_map_set _ _ _ _ (by omega),h.a0];rfl,by rw [Deaf_other t (by omega) _ g_of_ofEvents,h.deaf],k3 tag' s2 s3,fun e=>?_,hbd⟩,rfl⟩
 ·refine Prod.Lex.right _ (Prod.Lex.left _ _ ?_)
  obtain ⟨_,_,hs⟩:=h.wi.wk i hi
  have e:(List.range j).map M'=((List.range j).map M).set i (M' i):=by
   apply List.ext_getElem (by simp)
   intro b h1 h2
   simp only [List.getElem_map,List.getElem_range]
   rw [List.getElem_set]
   split
   ·rename_i e;rw [e]
   ·rename_i e
    simp only [List.getElem_map,List.getElem_range]
    exact k5 b (by omega)
  rw [e]
  exact One.set (by simp [hi]) ⟨k4,hs.acc⟩
 ·have ht : tag = .ret := by
   rcases s2 with e' | ⟨_,e'⟩
   ·rw [<- e'];exact e
   ·rw [e'] at e;cases e
  have hm:=h.mode
  rw [ht] at hm
  obtain ⟨hq,_,_⟩:=hm.fin_inv trivial
  obtain ⟨q,q1,q2,q3,q4⟩:=(h.acq ht).app (u:=MemOp.ofEvents (i+1) g.frame.fn g.frame.place es)
  exact ⟨q,q1,q2,q3,fun b hb0 hbj=>by rw [(k8 b hbj (by rw [hq b hbj];omega)).2];exact q4 b hb0 hbj⟩
theorem exists_counted' {D:Nat->WD}:∀ {j:Nat},1<=Vc j D->∃ i,i<j∧5<=(D i).stage
 | 0,h=>by simp [Vc,sumTo] at h
 | j+1,h=>by
  by_cases hc:5<=(D j).stage
  ·exact ⟨j,by omega,hc⟩
  ·have:1<=Vc j D:=by simp only [Vc,sumTo,cnt,if_neg hc] at h ⊢;simpa using h
   obtain ⟨i,hi,h5⟩:=exists_counted' this
   exact ⟨i,by omega,h5⟩
theorem MI.someone (h:MI P SB BB lets Gn ty Wg Dead Toy Kp Ψ0 Ψ2 fA fW wl Pr T Fn j0 pre j gs W t D M O L ts rr st sm tag d0 rk fu x a):∃ (i:Nat) (g:Goroutine),gs[i]?=some g∧g.status=.running:=by
 have runs:∀ i,i<j->(D i).stage≠1->∃ g,gs[i+1]?=some g∧g.status=.running:=fun i hi hs=>by
  obtain ⟨g,hg,hk⟩:=h.wi.wk i hi
  rcases hk.status with e | ⟨_,e⟩
  ·exact ⟨g,hg,e⟩
  ·exact absurd e hs
 rcases h.sit.status with ⟨hs,_⟩ | ⟨_,e⟩
 ·exact ⟨0,a,h.a0,hs⟩
 ·subst e
  have hm:=h.mode
  cases hm with
  | opn h1 _ _=>exact h1.elim
  | reg _ _ h3 =>
   obtain ⟨i,hi,h5⟩:=exists_counted' h3
   obtain ⟨g,hg,hr⟩:=runs i hi (by omega)
   exact ⟨i+1,g,hg,hr⟩
  | last Lx _ h2 h3 _ =>
   obtain ⟨g,hg,hr⟩:=runs Lx h2 (by omega)
   exact ⟨Lx+1,g,hg,hr⟩
  | fin h1 _=>exact h1.elim
theorem MI.awake (h:MI P SB BB lets Gn ty Wg Dead Toy Kp Ψ0 Ψ2 fA fW wl Pr T Fn j0 pre j gs W t D M O L ts rr st sm tag d0 rk fu x a):∀ g∈gs,Go.Conc.awake g:=by
 intro g hg tm
 obtain ⟨i,hi⟩:=Array.mem_iff_getElem?.1 hg
 cases i with
 | zero =>
  rw [h.a0] at hi;cases hi
  rcases h.sit.status with ⟨hs,_⟩ | ⟨hs,_⟩<;>rw [hs]<;>simp
 | succ i =>
  have hlt:i<j:=by have:=(Array.getElem?_eq_some_iff.1 hi).1;rw [h.wi.size] at this;omega
  obtain ⟨g',hg',hs⟩:=h.wi.wk i hlt
  rw [hi] at hg';cases hg'
  rcases hs.status with e | ⟨e,_⟩<;>rw [e]<;>simp
theorem mstep (hPr:Pr wl Wg) (lib:∀ H,Lib P SB H lets BB Gn) (hmf:∀ (f:FuncId) (fn:Func),P.a.funcs[f]?=some fn->fn.body.isNone=true->P.fs[f]?=some fn) (tz:ao Toy Ψ0) (tz2:ao Toy Ψ2) (hA:AddIn P SB BB lets Gn ty Wg fA wl T) (hW:ia P SB BB lets Gn ty Wg fW wl T):∀ μ m t,MInv P SB BB lets Gn ty Wg Dead Toy Kp Ψ0 Ψ2 fA fW wl Pr T Fn j0 μ m t ->
  MFin P SB BB lets Gn ty Wg Dead Toy Kp Ψ0 Ψ2 Pr T Fn j0 m t∨∃ m' ops μ',stepT P.b m=(.next m',ops)∧Rmu P.a μ' μ∧MInv P SB BB lets Gn ty Wg Dead Toy Kp Ψ0 Ψ2 fA fW wl Pr T Fn j0 μ' m' (t++ops):=by
 rintro ⟨pre,r⟩ m t ⟨j,gs,W,sl,D,M,O,L,ts,rr,st,sm,tag,d0,rk,fu,x,a,rfl,h,hr⟩
 simp only at h hr
 subst hr
 obtain ⟨i,g,d,sl',hg,hrun,hstep⟩:=crowd_pick (P:=P.b) (w:=W) (sl:=sl) h.awake h.someone
 have h':=h.at tz tz2 d
 cases i with
 | zero =>
  rw [h.a0] at hg;cases hg
  by_cases hf:MFin P SB BB lets Gn ty Wg Dead Toy Kp Ψ0 Ψ2 Pr T Fn j0 (crowd gs W sl) t
  ·exact .inl hf
  ·rcases step0 (sl:=sl') hPr lib tz tz2 hA hW h' hrun with hf' | ⟨m',ops,μ',k1,k2,k3⟩
   ·exfalso
    apply hf
    obtain ⟨j2,gs2,W2,sl2,D2,M2,O2,L2,ts2,rr2,st2,sm2,x2,a2,e,q1,q2,q3,q4,q5,q6,q7⟩:=hf'
    have e1:gs=gs2:=congrArg Machine.gs e
    have e2:W.at d=W2:=congrArg Machine.world e
    subst e1
    subst e2
    exact ⟨j2,gs,W,sl,D2,M2,O2,L2,ts2,rr2,st2,sm2,x2,a2,rfl,q1.at tz tz2 W.drawn,q2,q3,q4,q5,q6,q7⟩
   ·exact .inr ⟨m',ops,μ',by rw [hstep];exact k1,k2,k3⟩
 | succ i =>
  have hi:i<j:=by have:=(Array.getElem?_eq_some_iff.1 hg).1;rw [h.wi.size] at this;omega
  obtain ⟨m',ops,μ',k1,k2,k3⟩:=stepK (sl:=sl') lib hmf tz tz2 h' hi hg hrun
  exact .inr ⟨m',ops,μ',by rw [hstep];exact k1,k2,k3⟩
theorem join (hPr:Pr wl Wg) (lib:∀ H,Lib P SB H lets BB Gn) (hmf:∀ (f:FuncId) (fn:Func),P.a.funcs[f]?=some fn->fn.body.isNone=true->P.fs[f]?=some fn) (tz:ao Toy Ψ0) (tz2:ao Toy Ψ2) (hA:AddIn P SB BB lets Gn ty Wg fA wl T) (hW:ia P SB BB lets Gn ty Wg fW wl T) {μ:Mu} {m:Machine} (h:MInv P SB BB lets Gn ty Wg Dead Toy Kp Ψ0 Ψ2 fA fW wl Pr T Fn j0 μ m t) :
  ∃ N m' t',runNT P.b N m t=(.next m',t')∧MFin P SB BB lets Gn ty Wg Dead Toy Kp Ψ0 Ψ2 Pr T Fn j0 m' t' :=
 hP (Rmu.wf P.a) _ _ (mstep hPr lib hmf tz tz2 hA hW) μ m t h
theorem past_of_fin {m:Machine} (h:MFin P SB BB lets Gn ty Wg Dead Toy Kp Ψ0 Ψ2 Pr T Fn j0 m t) :
  ∃ (gs:Array Goroutine) (W:World) (sl:Option (Nat×Nat)) (x:Lone) (a:Goroutine) (tp:Bool) (q:Nat->Nat),m=crowd gs W sl∧gs[0]?=some a∧Leavers P.b t gs q∧Past (Shd Dead Wg) W.heap.size t∧Quiet (Shd Dead Wg) t∧(∀ (i:Nat) (op:MemOp),t[i]?=some op->op.g<gs.size) ∧
   Fini P SB BB lets Pr T Fn x tp a∧WLike P SB lets Gn x W∧x.H.twin=false∧(∀ b,x.β b Wg->x.H b=true)∧(∀ b B,x.β b B->¬ Dead B)∧(∀ b B,x.β b B->Toy B->x.H b=true) ∧
   (∀ B,Kp.at_ B->W.heap[B]?=Kp.w.heap[B]?)∧Wg<W.heap.size∧(∀ B,Dead B->B<W.heap.size)∧(tp=true->Ψ0 W)∧(tp=false->Ψ2 W)∧W.os=Kp.w.os∧W.output=Kp.w.output∧gs.size<=Kp.bd∧∀ b B,x.β b B->Kp.at_ B->x.H b=true∨Ro x.w b:=by
 obtain ⟨j,gs,W,sl,D,M,O,L,ts,rr,st,sm,x,a,rfl,hw,hf,hL,ha,hd,hq,hacq,hjb⟩:=h
 obtain ⟨q,q1,q2,q3,q4⟩:=hacq
 have quits:∀ i g,i<j->gs[i+1]?=some g->∃ n,QuitsD P.b n (Deaf t (i+1)) g:=fun i g hi hg=>by
  obtain ⟨g',hg',hk⟩:=hw.wk i hi
  rw [hg] at hg';cases hg'
  rw [hw.deafW i hi]
  exact (hk.leaving (hq i hi)).1
 have quitN:∀ i,∃ n,∀ g,0<i->gs[i]?=some g->QuitsD P.b n (Deaf t i) g:=fun i=>by
  by_cases h0:0<i∧i<j+1
  ·obtain ⟨i',rfl⟩:∃ i',i=i'+1:=⟨i - 1,by omega⟩
   cases hg:gs[i'+1]? with
   | none=>exact ⟨0,fun g _ e=>by cases e⟩
   | some g =>
    obtain ⟨n,hn⟩:=quits i' g (by omega) hg
    exact ⟨n,fun g2 _ e=>by cases e;exact hn⟩
  ·refine ⟨0,fun g h1 e=>?_⟩
   have:=(Array.getElem?_eq_some_iff.1 e).1
   rw [hw.size] at this
   omega
 refine ⟨gs,W,sl,x,a,ts.tp,fun i=>Classical.choose (quitN i),rfl,ha,⟨fun i g h0 hg=>Classical.choose_spec (quitN i) g h0 hg,fun i hi=>Deaf_absent fun b op hb e=>?_⟩,?_,hw.tr.ti.quiet,fun i op hi=>by rw [hw.size];exact hw.tr.ti.gs i op hi,hf,hw.cw.like 0 x hL,hw.cw.twin 0 x hL,hw.cw.wgh 0 x hL,hw.cw.dead 0 x hL,hw.cw.toy 0 x hL hw.own0,fun B hB=>(hw.cw.keep B hB).2.2,hw.cw.low.1,hw.cw.low.2.1,fun e=>hw.toys.1 ?_,fun e=>hw.toys.2 ?_,hw.cw.osk.1,hw.cw.osk.2,by rw [hw.size];exact hjb,hw.cw.keepx 0 x hL⟩
 ·have:=hw.tr.ti.gs b op hb
  rw [hw.size] at hi
  omega
 ·refine hw.tr.past q1 q2 q3 hd hw.low fun k i hg hne hpd=>?_
  obtain ⟨b,rfl,hb0,hbj,hb⟩:=hpd
  have h1:=hq b hbj
  refine ⟨rr b,hw.rel b hb0 hbj (by omega),q4 b hb0 hbj,hb.resolve_left (by omega)⟩
 ·cases ts<;>first | rfl | cases e
 ·cases hts:ts with
  | done=>rfl
  | start=>rw [hts] at e;cases e
  | at_ k =>
   exfalso
   obtain ⟨b,hb,_,ho⟩:=hw.own2 k hts
   obtain ⟨g,_,hk⟩:=hw.wk b hb
   have:=(hk.leaving (hq b hb)).2
   rw [ho] at this
   cases this
end
open Go.Conc Go.ConcN Go.RowKit Go.Conc.Lib Go.ConcR.Gen Go.ConcN.Gen
open Go.ConcR (KK wgBlock WgAt stA smA rd wr mk Payload Aside2 DC0)
variable {L:WgLink}
theorem addNeg {P:Program} (H:WgLib P L) {Wg:Nat} {b₀:Frame} {a₀:Act} {ops₀:Array Oper} {i₀:Nat} {rest₀:List Nat} {k₀:List Item} {cs:List Frame} {qt:Nat}
  (hT:QuitsD P qt 0 (G (b₀.at (a₀.put ((ops₀[i₀]?).bind (·.dst)) (.tuple #[])) (.inRegion ops₀ rest₀ :: k₀)) cs)) (w:World) (hK:WgLive L.tWg Wg w) :
  GW P L.tWg Wg false (R0 P L.tWg Wg) 150 (G ((base L.add).at ⟨#[.pointer (some ⟨Wg,0,none⟩),.int .i64 (-1),undef,undef,undef,undef,undef,undef,undef,undef,undef,undef,undef,undef,undef,undef,undef,undef,undef,undef,undef,undef,undef,undef,undef,undef,undef,undef,undef,undef,undef,undef,undef,undef,undef,undef,undef,undef,undef,undef,undef,undef,undef,undef,undef,undef,undef,undef,undef,undef,undef,undef,undef,undef,undef,undef,undef,undef,undef,undef,undef,undef,undef,undef,undef,undef,undef,undef,undef,undef,undef,undef,undef,undef,undef,undef,undef,undef,undef,undef,undef,undef,undef,undef,undef,undef,undef,undef,undef,undef,undef,undef,undef,undef,undef,undef,undef,undef,undef,undef,undef,undef,undef,undef,undef,undef,undef,undef,undef,undef,undef,undef,undef,undef,undef,undef,undef],[]⟩ [.code (body_add L)]) (b₀.at a₀ (.inRegion ops₀ (i₀ :: rest₀) :: k₀) :: cs)) w:=by
 lib_facts
 simp only [body_add,addFn,Option.getD_some]
 u_c stepG_seq rl hK
 u_cond true rl hK
 u_c stepG_seq rl hK
 u_c stepG_seq rl hK
 u_reg rl hK
 u_op rl hK
 u_op rl hK
 u_c stepG_region_end rl hK
 u_cond true rl hK
 u_reg rl hK
 u_op rl hK
 u_conv H.underlying_tWgP H.room_tWg (WgLive.cell0 hK).choose_spec rl hK
 refine Goes.stop (fun w₁ h₁=>?_)
 replace hK:=rl hK h₁
 clear h₁
 refine ⟨rfl,_,stepG_markAt .releaseMerge (by simp) rfl rfl (by k_ne) rfl H.f_relMerge (x_relMerge_n L) (x_relMerge_b L) (x_relMerge_x L) (x_relMerge_f L) (by simp [Act.eval,stA]),150,?_⟩
 walk_nrm
 u_c stepG_region_end rl hK
 u_c stepG_seq rl hK
 u_reg rl hK
 refine Goes.stop (fun w₁ h₁=>?_)
 replace hK:=rl hK h₁
 clear h₁
 refine ⟨rfl,_,stepG_mark0 .disable (by simp) rfl rfl (by k_ne) rfl H.f_disable (x_disable_n L) (x_disable_b L) (x_disable_x L) (x_disable_f L),150,?_⟩
 walk_nrm
 u_c stepG_region_end rl hK
 u_reg rl hK
 u_defer rl hK
 u_c stepG_region_end rl hK
 u_c stepG_seq rl hK
 u_reg rl hK
 u_op rl hK
 u_c stepG_region_end rl hK
 u_c stepG_seq rl hK
 u_c stepG_seq rl hK
 u_reg rl hK
 u_bub rl hK
 u_c stepG_region_end rl hK
 u_cond false rl hK
 u_c stepG_skip rl hK
 u_c stepG_seq rl hK
 u_reg rl hK
 u_op rl hK
 u_op rl hK
 u_op rl hK
 u_op rl hK
 u_op rl hK
 u_op rl hK
 u_call H.f_uAdd (nm_uAdd L) uAddFn rl hK
 u_c stepG_seq rl hK
 u_reg rl hK
 u_op rl hK
 u_c stepG_region_end rl hK
 u_c stepG_seq rl hK
 u_reg rl hK
 u_op rl hK
 u_op rl hK
 u_op rl hK
 u_op rl hK
 refine Goes.stop (fun w₁ h₁=>?_)
 clear h₁ hK
 refine ⟨rfl,fun v wt hwt hv hw=>?_⟩
 have e0:IntKind.u64.wrap (KK+18446744069414584320)=0:=by decide
 have e1:IntKind.u64.wrap (KK+1+18446744069414584320)=1:=by decide
 rcases Nat.eq_zero_or_pos v with rfl | hvp<;>(obtain rfl | rfl:wt=0∨wt=1:=by omega)
 ·replace hw:WgAt L.tWg Wg w₁ KK 0:=by simpa using hw
  have z:((0:Nat):Int)*KK+((0:Nat):Int)=0:=by simp
  rw [z]
  refine ⟨_,(stepG_add_atomic rfl rfl (by k_ne) rfl H.f_addU64 (x_addU64_n L) (x_addU64_b L) (x_addU64_x L) .u64 (x_addU64_f L) rfl rfl hw.cellSt (hw.thaw 0)).trans (by rw [e0];rfl),fun hl=>absurd hl.2 (by decide),fun _=>⟨qt+89,?_⟩⟩
  clear hw
  walk_nrm
  q_val (.int .u64 0)
  q_c stepG_region_end
  q_c stepG_ret'
  q_leave1 H.f_uAdd
  q_val (.int .u64 0)
  q_c stepG_region_end
  q_c stepG_seq
  q_c stepG_seq
  q_reg
  q_val (.int .u64 0)
  q_val (.int .u64 0)
  q_val (.bool false)
  q_val (.bool false)
  q_skip
  q_skip
  q_val (.bool false)
  q_c stepG_region_end
  q_cond false
  q_c stepG_skip
  q_c stepG_seq
  q_reg
  q_val (.int .u64 0)
  q_val (.int .u64 0)
  q_val (.int .i32 0)
  q_val (.int .i32 0)
  q_c stepG_region_end
  q_c stepG_seq
  q_reg
  q_val (.int .u64 0)
  q_val (.int .u64 0)
  q_val (.int .u32 0)
  q_val (.int .u32 0)
  q_c stepG_region_end
  q_c stepG_seq
  q_c stepG_seq
  q_reg
  q_val (.bool true)
  q_val (.int .i64 (-1))
  q_val (.bool false)
  q_val (.bool false)
  q_val (.bool false)
  q_skip
  q_skip
  q_skip
  q_skip
  q_val (.bool false)
  q_c stepG_region_end
  q_cond false
  q_c stepG_skip
  q_c stepG_seq
  q_c stepG_seq
  q_reg
  q_val (.int .i32 0)
  q_val (.bool false)
  q_c stepG_region_end
  q_cond false
  q_c stepG_skip
  q_c stepG_seq
  q_c stepG_seq
  q_reg
  q_val (.int .u32 0)
  q_val (.bool false)
  q_val (.bool false)
  q_skip
  q_skip
  q_val (.bool false)
  q_val (.bool false)
  q_skip
  q_skip
  q_skip
  q_skip
  q_val (.bool false)
  q_c stepG_region_end
  q_cond false
  q_c stepG_skip
  q_c stepG_seq
  q_c stepG_seq
  q_reg
  q_val (.int .i32 0)
  q_val (.bool false)
  q_val (.bool false)
  q_val (.int .u32 0)
  q_val (.bool true)
  q_val (.bool true)
  q_c stepG_region_end
  q_cond true
  q_c stepG_ret'
  q_enable
  q_leave0 H.f_add
  exact hT
 ·replace hw:WgAt L.tWg Wg w₁ (KK+1) 0:=by simpa using hw
  have z:((0:Nat):Int)*KK+((1:Nat):Int)=1:=by simp
  rw [z]
  refine ⟨_,(stepG_add_atomic rfl rfl (by k_ne) rfl H.f_addU64 (x_addU64_n L) (x_addU64_b L) (x_addU64_x L) .u64 (x_addU64_f L) rfl rfl hw.cellSt (hw.thaw 0)).trans (by rw [e1];rfl),fun _=>⟨150,?_⟩,fun hl=>absurd ⟨rfl,rfl⟩ hl⟩
  have hF:WgLive L.tWg Wg (w₁.setCell (stA Wg) (.int .u64 1)):=⟨_,_,hw.setSt 1⟩
  clear hw
  walk_nrm
  u_op rl hF
  u_c stepG_region_end rl hF
  u_c stepG_ret' rl hF
  u_leave1 H.f_uAdd rl hF
  u_op rl hF
  u_c stepG_region_end rl hF
  u_c stepG_seq rl hF
  u_c stepG_seq rl hF
  u_reg rl hF
  u_op rl hF
  u_op rl hF
  u_op rl hF
  u_op rl hF
  u_skip rl hF
  u_skip rl hF
  u_op rl hF
  u_c stepG_region_end rl hF
  u_cond false rl hF
  u_c stepG_skip rl hF
  u_c stepG_seq rl hF
  u_reg rl hF
  u_op rl hF
  u_op rl hF
  u_op rl hF
  u_op rl hF
  u_c stepG_region_end rl hF
  u_c stepG_seq rl hF
  u_reg rl hF
  u_op rl hF
  u_op rl hF
  u_op rl hF
  u_op rl hF
  u_c stepG_region_end rl hF
  u_c stepG_seq rl hF
  u_c stepG_seq rl hF
  u_reg rl hF
  u_op rl hF
  u_op rl hF
  u_op rl hF
  u_op rl hF
  u_op rl hF
  u_skip rl hF
  u_skip rl hF
  u_skip rl hF
  u_skip rl hF
  u_op rl hF
  u_c stepG_region_end rl hF
  u_cond false rl hF
  u_c stepG_skip rl hF
  u_c stepG_seq rl hF
  u_c stepG_seq rl hF
  u_reg rl hF
  u_op rl hF
  u_op rl hF
  u_c stepG_region_end rl hF
  u_cond false rl hF
  u_c stepG_skip rl hF
  u_c stepG_seq rl hF
  u_c stepG_seq rl hF
  u_reg rl hF
  u_op rl hF
  u_op rl hF
  u_op rl hF
  u_op rl hF
  u_op rl hF
  u_op rl hF
  u_op rl hF
  u_skip rl hF
  u_skip rl hF
  u_skip rl hF
  u_skip rl hF
  u_op rl hF
  u_c stepG_region_end rl hF
  u_cond false rl hF
  u_c stepG_skip rl hF
  u_c stepG_seq rl hF
  u_c stepG_seq rl hF
  u_reg rl hF
  u_op rl hF
  u_op rl hF
  u_op rl hF
  u_op rl hF
  u_op rl hF
  u_op rl hF
  u_c stepG_region_end rl hF
  u_cond false rl hF
  u_c stepG_skip rl hF
  u_c stepG_seq rl hF
  u_c stepG_seq rl hF
  u_reg rl hF
  u_op rl hF
  u_op rl hF
  u_op rl hF
  u_call H.f_uLoad (nm_uLoad L) uLoadFn rl hF
  u_c stepG_seq rl hF
  u_reg rl hF
  u_op rl hF
  u_c stepG_region_end rl hF
  u_c stepG_seq rl hF
  u_reg rl hF
  u_op rl hF
  u_op rl hF
  u_op rl hF
  refine Goes.stop (fun w₂ h₁=>?_)
  clear h₁ hF
  refine ⟨rfl,fun hw=>⟨_,stepG_load_atomic rfl rfl (by k_ne) rfl H.f_loadU64 (x_loadU64_n L) (x_loadU64_b L) (x_loadU64_x L) .u64 (x_loadU64_f L) rfl hw.cellSt,150,?_⟩⟩
  have hF:WgLive L.tWg Wg w₂:=⟨_,_,hw⟩
  clear hw
  walk_nrm
  u_op rl hF
  u_c stepG_region_end rl hF
  u_c stepG_ret' rl hF
  u_leave1 H.f_uLoad rl hF
  u_op rl hF
  u_op rl hF
  u_c stepG_region_end rl hF
  u_cond false rl hF
  u_c stepG_skip rl hF
  u_c stepG_seq rl hF
  u_reg rl hF
  u_op rl hF
  u_op rl hF
  u_op rl hF
  u_call H.f_uStore (nm_uStore L) uStoreFn rl hF
  u_reg rl hF
  u_op rl hF
  u_op rl hF
  u_op rl hF
  u_op rl hF
  refine Goes.stop (fun w₃ h₁=>?_)
  clear h₁ hF
  refine ⟨rfl,fun hw=>⟨_,stepG_store_atomic rfl rfl (by k_ne) rfl H.f_storeU64 (x_storeU64_n L) (x_storeU64_b L) (x_storeU64_x L) (x_storeU64_f L) rfl rfl hw.cellSt (hw.thaw 0),150,?_⟩⟩
  have hF:WgLive L.tWg Wg (w₃.setCell (stA Wg) (.int .u64 0)):=⟨_,_,hw.setSt 0⟩
  clear hw
  walk_nrm
  u_c stepG_region_end rl hF
  u_c stepG_end rl hF
  u_leave0 H.f_uStore rl hF
  u_c stepG_region_end rl hF
  u_c stepG_seq rl hF
  u_c stepG_seq rl hF
  u_reg rl hF
  u_op rl hF
  u_c stepG_region_end rl hF
  u_cond false rl hF
  u_c stepG_skip rl hF
  u_c stepG_block rl hF
  u_c stepG_loop rl hF
  u_c stepG_seq rl hF
  u_c stepG_seq rl hF
  u_reg rl hF
  u_op rl hF
  u_op rl hF
  u_c stepG_region_end rl hF
  u_cond true rl hF
  u_c stepG_skip rl hF
  u_c stepG_seq rl hF
  u_c stepG_block rl hF
  u_reg rl hF
  u_op rl hF
  u_op rl hF
  u_op rl hF
  refine Goes.stop (fun w₄ h₁=>?_)
  clear h₁ hF
  refine ⟨rfl,mayWake_entry rfl rfl H.f_semrelease (x_semrelease_b L),fun hw=>⟨_,(stepG_semrelease rfl rfl (by k_ne) rfl H.f_semrelease (x_semrelease_n L) (x_semrelease_b L) (x_semrelease_x L) (x_semrelease_f L) (by simp [Act.eval,smA]) hw.cellSm (hw.thaw 1)).trans (by rfl),qt+19,?_⟩⟩
  clear hw
  walk_nrm
  q_c stepG_region_end
  q_c stepG_inBlock
  q_reg
  q_val (.int .u32 1)
  q_val (.int .u32 0)
  q_val (.int .u32 0)
  q_c stepG_region_end
  q_c stepG_inLoop
  q_c stepG_seq
  q_c stepG_seq
  q_reg
  q_val (.int .u32 0)
  q_val (.bool false)
  q_c stepG_region_end
  q_cond false
  q_exit
  q_c stepG_end
  q_enable
  q_leave0 H.f_add
  exact hT
 ·replace hw:WgAt L.tWg Wg w₁ (((v:Nat)+1)*KK+0) 0:=by simpa using hw
  have z:((v:Nat):Int)*KK+((0:Nat):Int)=(v:Int)*KK+0:=by simp
  rw [z]
  have hv0:0<v:=by omega
  have eS:IntKind.u64.wrap (((v:Nat)+1)*KK+0+18446744069414584320)=(v:Int)*KK+0:=by rw [IntKind.wrap_u64];simp only [KK];omega
  obtain ⟨S,hS⟩:∃ S:Int,S=(v:Int)*KK+0:=⟨_,rfl⟩
  rw [<- hS] at eS ⊢
  have a1:S / 4294967296=(v:Int):=by rw [hS];simp only [KK];omega
  have a2:0<=S∧S<9223372036854775808:=by rw [hS];simp only [KK];omega
  have b1:bits .and .u64 S 2147483648=0:=by rw [hS];have:=st_flag v 0 (by omega) (by omega);simpa [KK] using this
  have b2:bits .and .u64 S 2147483647=0:=by rw [hS];have:=st_waiters v 0 (by omega) (by omega);simpa [KK] using this
  clear hS z
  refine ⟨_,(stepG_add_atomic rfl rfl (by k_ne) rfl H.f_addU64 (x_addU64_n L) (x_addU64_b L) (x_addU64_x L) .u64 (x_addU64_f L) rfl rfl hw.cellSt (hw.thaw 0)).trans (by rw [eS];rfl),fun hl=>absurd hl.1 (by omega),fun _=>⟨qt+89,?_⟩⟩
  clear hw
  walk_nrm
  q_vn (.int .u64 S)
  q_c stepG_region_end
  q_c stepG_ret'
  q_leave1 H.f_uAdd
  q_vn (.int .u64 S)
  q_c stepG_region_end
  q_c stepG_seq
  q_c stepG_seq
  q_reg
  q_vn (.int .u64 S)
  q_vn (.int .u64 0)
  q_vn (.bool false)
  q_vn (.bool false)
  q_skip
  q_skip
  q_vn (.bool false)
  q_c stepG_region_end
  q_cond false
  q_c stepG_skip
  q_c stepG_seq
  q_reg
  q_vn (.int .u64 S)
  q_vn (.int .u64 (v:Int))
  q_vn (.int .i32 (v:Int))
  q_vn (.int .i32 (v:Int))
  q_c stepG_region_end
  q_c stepG_seq
  q_reg
  q_vn (.int .u64 S)
  q_vn (.int .u64 0)
  q_vn (.int .u32 0)
  q_vn (.int .u32 0)
  q_c stepG_region_end
  q_c stepG_seq
  q_c stepG_seq
  q_reg
  q_vn (.bool true)
  q_vn (.int .i64 (-1))
  q_vn (.bool false)
  q_vn (.bool false)
  q_vn (.bool false)
  q_skip
  q_skip
  q_skip
  q_skip
  q_vn (.bool false)
  q_c stepG_region_end
  q_cond false
  q_c stepG_skip
  q_c stepG_seq
  q_c stepG_seq
  q_reg
  q_vn (.int .i32 (v:Int))
  q_vn (.bool false)
  q_c stepG_region_end
  q_cond false
  q_c stepG_skip
  q_c stepG_seq
  q_c stepG_seq
  q_reg
  q_vn (.int .u32 0)
  q_vn (.bool false)
  q_vn (.bool false)
  q_skip
  q_skip
  q_vn (.bool false)
  q_vn (.bool false)
  q_skip
  q_skip
  q_skip
  q_skip
  q_vn (.bool false)
  q_c stepG_region_end
  q_cond false
  q_c stepG_skip
  q_c stepG_seq
  q_c stepG_seq
  q_reg
  q_vn (.int .i32 (v:Int))
  q_vn (.bool true)
  q_vn (.bool true)
  q_skip
  q_skip
  q_vn (.bool true)
  q_c stepG_region_end
  q_cond true
  q_c stepG_ret'
  q_enable
  q_leave0 H.f_add
  exact hT
 ·replace hw:WgAt L.tWg Wg w₁ (((v:Nat)+1)*KK+1) 0:=by simpa using hw
  have z:((v:Nat):Int)*KK+((1:Nat):Int)=(v:Int)*KK+1:=by simp
  rw [z]
  have hv0:0<v:=by omega
  have eS:IntKind.u64.wrap (((v:Nat)+1)*KK+1+18446744069414584320)=(v:Int)*KK+1:=by rw [IntKind.wrap_u64];simp only [KK];omega
  obtain ⟨S,hS⟩:∃ S:Int,S=(v:Int)*KK+1:=⟨_,rfl⟩
  rw [<- hS] at eS ⊢
  have a1:S / 4294967296=(v:Int):=by rw [hS];simp only [KK];omega
  have a2:0<=S∧S<9223372036854775808:=by rw [hS];simp only [KK];omega
  have b1:bits .and .u64 S 2147483648=0:=by rw [hS];have:=st_flag v 1 (by omega) (by omega);simpa [KK] using this
  have b2:bits .and .u64 S 2147483647=1:=by rw [hS];have:=st_waiters v 1 (by omega) (by omega);simpa [KK] using this
  clear hS z
  refine ⟨_,(stepG_add_atomic rfl rfl (by k_ne) rfl H.f_addU64 (x_addU64_n L) (x_addU64_b L) (x_addU64_x L) .u64 (x_addU64_f L) rfl rfl hw.cellSt (hw.thaw 0)).trans (by rw [eS];rfl),fun hl=>absurd hl.1 (by omega),fun _=>⟨qt+89,?_⟩⟩
  clear hw
  walk_nrm
  q_vn (.int .u64 S)
  q_c stepG_region_end
  q_c stepG_ret'
  q_leave1 H.f_uAdd
  q_vn (.int .u64 S)
  q_c stepG_region_end
  q_c stepG_seq
  q_c stepG_seq
  q_reg
  q_vn (.int .u64 S)
  q_vn (.int .u64 0)
  q_vn (.bool false)
  q_vn (.bool false)
  q_skip
  q_skip
  q_vn (.bool false)
  q_c stepG_region_end
  q_cond false
  q_c stepG_skip
  q_c stepG_seq
  q_reg
  q_vn (.int .u64 S)
  q_vn (.int .u64 (v:Int))
  q_vn (.int .i32 (v:Int))
  q_vn (.int .i32 (v:Int))
  q_c stepG_region_end
  q_c stepG_seq
  q_reg
  q_vn (.int .u64 S)
  q_vn (.int .u64 1)
  q_vn (.int .u32 1)
  q_vn (.int .u32 1)
  q_c stepG_region_end
  q_c stepG_seq
  q_c stepG_seq
  q_reg
  q_vn (.bool true)
  q_vn (.int .i64 (-1))
  q_vn (.bool false)
  q_vn (.bool false)
  q_vn (.bool false)
  q_skip
  q_skip
  q_skip
  q_skip
  q_vn (.bool false)
  q_c stepG_region_end
  q_cond false
  q_c stepG_skip
  q_c stepG_seq
  q_c stepG_seq
  q_reg
  q_vn (.int .i32 (v:Int))
  q_vn (.bool false)
  q_c stepG_region_end
  q_cond false
  q_c stepG_skip
  q_c stepG_seq
  q_c stepG_seq
  q_reg
  q_vn (.int .u32 1)
  q_vn (.bool true)
  q_vn (.bool true)
  q_vn (.int .i64 (-1))
  q_vn (.bool false)
  q_vn (.bool false)
  q_vn (.bool false)
  q_skip
  q_skip
  q_skip
  q_skip
  q_vn (.bool false)
  q_c stepG_region_end
  q_cond false
  q_c stepG_skip
  q_c stepG_seq
  q_c stepG_seq
  q_reg
  q_vn (.int .i32 (v:Int))
  q_vn (.bool true)
  q_vn (.bool true)
  q_skip
  q_skip
  q_vn (.bool true)
  q_c stepG_region_end
  q_cond true
  q_c stepG_ret'
  q_enable
  q_leave0 H.f_add
  exact hT
theorem done {P:Program} (H:WgLib P L) {Wg:Nat} {c:Frame} {cs:List Frame} {qt:Nat} (hcm:c.mode=.returning) (hT:QuitsD P qt 0 (G c cs)) (w:World) (hK:WgLive L.tWg Wg w) :
  GW P L.tWg Wg false (R0 P L.tWg Wg) 153 (G ((baseD L.done).at ⟨#[.pointer (some ⟨Wg,0,none⟩),undef,undef,undef],[]⟩ [.code (body_done L)]) (c :: cs)) w:=by
 lib_facts
 have hA:=@addNeg L P H Wg
 simp only [body_done,body_add,doneFn,addFn,Option.getD_some] at hA ⊢
 u_reg rl hK
 u_op rl hK
 u_in rl hK
 refine goes_call rfl rfl (by k_ne) rfl H.f_add (nm_add L) rfl ⟨by u_nil,?_⟩
 walk_nrmf addFn
 refine hA (qt:=qt+3) ?_ _ hK
 q_c stepG_region_end
 q_c stepG_end
 exact QuitsD.leaveD rfl rfl H.f_done rfl hcm hT
end Go.Co
