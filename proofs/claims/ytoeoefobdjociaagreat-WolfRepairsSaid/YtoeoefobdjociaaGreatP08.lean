/- Parts of the proof. -/
import Derived.Test.YtoeoefobdjociaaGreatP07
set_option linter.all false
set_option maxHeartbeats 8000000
set_option maxRecDepth 100000
open Go.Conc renaming stepG_region_end->Z,stepG_seq->Y,stepG_skip->U,stepG_ret'->R,stepG_add_atomic->A,aside_setCell->bk,runT_crowd_go->bs,crowd->b9,semEvents->cq,stepG_end->cu,QuitsD->cF
open Go renaming Goroutine->J,World->E,Program->ak,FuncId->bb,deafBehind->bo,Frame->bq,Trace->br,Machine->b8
open Bool renaming false->I,true->bc
open Prod.Lex renaming left->X,right->F
open List renaming range->C,getElem_range->bw
open Option renaming some->V
open Go.MemOp renaming ofEvents->bh
open Nat renaming lt_wfRel->bl
open Go.ConcN renaming Mode->bn,WgLive->cf,get_map_set_same->ck,bk_cell->cE
open Go.ConcR.Gen renaming x_addU64_n->bA,x_addU64_b->bD,x_addU64_x->bW,x_addU64_f->b5,x_semrelease_b->cr,body_add->cK
open Prod renaming Lex->b6,lex->b7
namespace Go.Co
open Go.Eu Go.Conc Go.ConcN
open Go.ConcR (KK WgAt stA smA rd wr mk DC0 Bk g_of_ofEvents bk_of_mute ofEvent_loc_mark ofEvent_cell ofEvent_mk)
def J2 (p:ak)(a b:Wm):Prop:=LB p a b/\Acc (LB p) b
def J2.wf (p:ak):WellFounded (J2 p):=⟨λy=>.intro _ λx h=>by
 have key:∀y,Acc (LB p) y->Acc (J2 p) y:=by
  intro y hy
  induction hy with
  |intro y _ ih=>exact .intro _ λz hz=>ih z hz.1
 exact key x (h.2.inv h.1)⟩
abbrev Mu:=Pre×(List Wm×(Nat×Nat))
def Oa (p:ak):Pre->Pre->Prop:=b6 (·<·) (b6 (·<·) (J2 p))
def QH:Nat×Nat->Nat×Nat->Prop:=b6 (·<·) (·<·)
def Pn (p:ak):Mu->Mu->Prop:=b6 (Oa p) (b6 (One (J2 p)) QH)
def Pn.wf (p:ak):WellFounded (Pn p):=by
 have h1:WellFounded (Oa p):=(b7 bl (b7 bl ⟨_,J2.wf p⟩)).wf;have h2:WellFounded QH:=(b7 bl bl).wf;have h3:WellFounded (One (J2 p)):=⟨λl=>One.acc λx _=>(J2.wf p).apply x⟩;exact(b7 ⟨_,h1⟩ (b7 ⟨_,h3⟩ ⟨_,h2⟩)).wf
def DE {p:ak}{k q:Nat}{q':Nat}{w1 w:Wm}{r1 r:List Wm×(Nat×Nat)}{a6:Mu}(hq:q<q')(h:Pn p a6 ((k,q,w1),r1)):Pn p a6 ((k,q',w),r):=by
 refine X _ _ ?_;cases h with
 |left _ _ h =>
  cases h with
  |left _ _ h=>exact X _ _ h
  |right _ h =>
   refine F _ ?_;cases h with
   |left _ _ h=>exact X _ _ (Nat.lt_trans h hq)
   |right _ _=>exact X _ _ hq
 |right _ _=>exact F _ (X _ _ hq)
def jP {P:ak}{μ:Type}{r:μ->μ->Prop}(wf:WellFounded r)(Inv:μ->b8->br->Prop)(Fin:b8->br->Prop)
  (step:∀x m t,Inv x m t->Fin m t\/∃m' ops x',stepT P m=(.next m',ops)/\r x' x/\Inv x' m' (t++ops)):∀x m t,Inv x m t->∃N m' t',runNT P N m t=(.next m',t')/\Fin m' t':=by
 intro x
 induction x using wf.induction with
 |_ x ih =>
  intro m t h;obtain hf|⟨m',ops,x',h1,h2,h3⟩:=step x m t h
  .exact⟨0,m,t,rfl,hf⟩
  .obtain⟨N,m2,t2,k1,k2⟩:=ih x' h2 m' _ h3;exact⟨N+1,m2,t2,by simp only[runNT,h1];exact k1,k2⟩
section
variable (P:ED) (SB BB:bb->Bool) (zZ:Bool) (Gn:Nat) (ty Wg:Nat) (zO zN:Nat->Prop) (Kp:H6) (Ψ0 Ψ2:E->Prop) (fA fW:bb) (wl:Nat) (Pr:Em) (T:List bq) (Fn:Bool->Hid->J->E->Prop)
def Acq (j0 j:Nat)(rr:Nat->Nat)(t:br):Prop:=∃q,t.act? q=V (.mark (.acquire (stA Wg)))/\t.g? q=V 0/\t.heard q/\∀i,j0<=i->i<j->rr i<q
structure MI (j0:Nat)(pre:Pre)(j:Nat)(gs:Array J)(W:E)(t:br)(D:Nat->WD)(M:Nat->Wm)(O:Nat->Bool)(L:Nat->Option Lone)(ts:TS)(rr:Nat->Nat)(st sm:Int)(tag:CTag)(d0:Nat)(rk:Nat->Nat)(fu:Nat)(x:Lone)(a:J):Prop where
 wi:WI P SB BB zZ Gn ty Wg zO zN Kp Ψ0 Ψ2 j0 j gs W t D M O L ts rr st sm
 Qk:F9 P SB BB zZ Gn ty Wg zN Ψ0 Ψ2 fA fW wl Pr T Fn tag d0 pre rk fu x ts.tp a W
 L0:L 0=V x
 a0:gs[0]?=V a
 deaf:Deaf t 0=d0
 mode:bn j D tag st sm
 acq:tag=.ret->Acq Wg j0 j rr t
 bd:j+pre.1<Kp.bd/\Kp.bd<=2147483647
def Nq (j0:Nat)(μ:Mu)(m:b8)(t:br):Prop :=
 ∃j gs W sl D M O L ts rr st sm tag d0 rk fu x a,m=b9 gs W sl/\MI P SB BB zZ Gn ty Wg zO zN Kp Ψ0 Ψ2 fA fW wl Pr T Fn j0 μ.1 j gs W t D M O L ts rr st sm tag d0 rk fu x a/\μ.2=((C j).map M,(rk (Vc j D),fu))
def LF (j0:Nat)(m:b8)(t:br):Prop :=
 ∃j gs W sl D M O L ts rr st sm x a,m=b9 gs W sl/\WI P SB BB zZ Gn ty Wg zO zN Kp Ψ0 Ψ2 j0 j gs W t D M O L ts rr st sm/\JD P SB BB zZ Pr T Fn x ts.tp a/\L 0=V x/\gs[0]?=V a/\Deaf t 0=0/\AllQuit j D/\Acq Wg j0 j rr t/\j<Kp.bd
def MX:Prop:=∀(x:Lone) (G:J) (W:E) (fr:bq) (cs:List bq),x.g=ca P fA #[Jp wl,.int .i64 1] fr cs->ff fr->x.T=T->x.β wl Wg->Fp P SB BB zZ x G->Gy P SB zZ Gn x W->cf ty Wg W ->
 ∃gR m,GW P.b ty Wg bc (Rk P.b ty Wg (λg _=>g=gR)) m G W/\Fp P SB BB zZ { x with g:=back fr cs } gR
def jQ:Prop:=∀(x:Lone) (G:J) (W:E) (fr:bq) (cs:List bq),x.g=ca P fW #[Jp wl] fr cs->ff fr->x.T=T->x.β wl Wg->Fp P SB BB zZ x G->Gy P SB zZ Gn x W->cf ty Wg W ->
 ∃gR m G3,GW P.b ty Wg bc (Rm P.b ty Wg G3) m G W/\io P ty Wg G3 gR/\Fp P SB BB zZ { x with g:=back fr cs } gR
end
section
variable {P:ED} {SB BB:bb->Bool} {zZ:Bool} {Gn:Nat} {ty Wg:Nat} {zO zN:Nat->Prop} {Kp:H6} {Ψ0 Ψ2:E->Prop} {fA fW:bb} {wl:Nat} {Pr:Em} {T:List bq} {Fn:Bool->Hid->J->E->Prop}
 {j0 j:Nat} {gs:Array J} {W W':E} {t:br} {D:Nat->WD} {M:Nat->Wm} {O:Nat->Bool} {L:Nat->Option Lone} {ts ts':TS} {rr:Nat->Nat} {st sm I8 JB:Int} {a a':J}
 {tag tag':CTag} {d0:Nat} {pre pre':Pre} {rk Mx:Nat->Nat} {fu My:Nat} {x:Lone} {sl:Option (Nat×Nat)}
def Stepped (P:ED)(SB BB:bb->Bool)(zZ:Bool)(Gn:Nat)(ty Wg:Nat)(zO zN:Nat->Prop)(Kp:H6)(Ψ0 Ψ2:E->Prop)(fA fW:bb)(wl:Nat)(Pr:Em)(T:List bq)(Fn:Bool->Hid->J->E->Prop)(j0:Nat)(μ:Mu)(gs:Array J)(W:E)(sl:Option (Nat×Nat))(t:br):Prop :=
 ∃m' ops a6,runT P.b (b9 gs W sl) 0=(.next m',ops)/\Pn P.a a6 μ/\Nq P SB BB zZ Gn ty Wg zO zN Kp Ψ0 Ψ2 fA fW wl Pr T Fn j0 a6 m' (t++ops)
def Acq.app {u:br}(h:Acq Wg j0 j rr t):Acq Wg j0 j rr (t++u):=by
 obtain⟨q,h1,h2,h3,h4⟩:=h;have hq:=lt_of_act? h1;exact⟨q,by rw[act?_old hq];exact h1,by rw[g?_old hq];exact h2,(heard_old hq).2 h3,h4⟩
def MI.book (h:MI P SB BB zZ Gn ty Wg zO zN Kp Ψ0 Ψ2 fA fW wl Pr T Fn j0 pre j gs W t D M O L ts rr st sm tag d0 rk fu x a)(tz:ax zN Ψ0)(a8:ax zN Ψ2){es:Array Event}(zK:stepG P.b bc a W=.go a' W' es)(aA:Aside Wg W W')(aB:WgAt ty Wg W' I8 JB)(aC:∀e∈es,gO Wg e)
  (hs:F9 P SB BB zZ Gn ty Wg zN Ψ0 Ψ2 fA fW wl Pr T Fn tag' (bo d0 es) pre' Mx My x ts.tp a' W') (a6:bn j D tag' I8 JB) (a7:tag'=.ret->Acq Wg j0 j rr (t++bh 0 a.frame.fn a.frame.place es)) (hb:pre'.1<=pre.1)
  (zY:Oa P.a pre' pre\/(pre'=pre/\QH (Mx (Vc j D),My) (rk (Vc j D),fu))):Stepped P SB BB zZ Gn ty Wg zO zN Kp Ψ0 Ψ2 fA fW wl Pr T Fn j0 (pre,(C j).map M,(rk (Vc j D),fu)) gs W sl t:=by
 have aD:=h.bd;refine⟨_,_,(pre',(C j).map M,(Mx (Vc j D),My)),bs (P:=P.b) (sl:=sl) (i:=0) h.a0 (by simpa using zK),?_,j,_,W',sl,D,M,O,L,ts,rr,I8,JB,tag',bo d0 es,Mx,My,x,a',rfl,⟨h.wi.book0 tz a8 aA aB aC,hs,h.L0,ck _ _ _ (by rw[h.wi.size];omega),by rw[Deaf_own,h.deaf],a6,a7,(by show j+pre'.1<Kp.bd/\_;omega)⟩,rfl⟩;obtain h1|⟨rfl,h1⟩:=zY
 .exact X _ _ h1
 .exact F _ (F _ h1)
def GJ {Wg:Nat}:∀e∈(#[]:Array Event),gO Wg e:=by simp
def Po {Wg:Nat}:∀e∈#[mk .disable],gO Wg e:=by intro e he;simp at he;subst he;exact .inl (.inl rfl)
def QI {Wg:Nat}:∀e∈#[mk .enable],gO Wg e:=by intro e he;simp at he;subst he;exact .inl (.inr (.inl rfl))
def Nr {Wg:Nat}:∀e∈#[rd (stA Wg)],gO Wg e:=by intro e he;simp at he;subst he;exact .inl (cE _ _ rfl)
def PN {Wg:Nat}:∀e∈#[rd (stA Wg),wr (stA Wg)],gO Wg e:=by intro e he;simp at he;rcases he with rfl|rfl<;>exact .inl (cE _ _ rfl)
def QJ {Wg:Nat}:∀e∈cq (smA Wg),gO Wg e:=by
 intro e he;simp[cq] at he;obtain rfl|rfl|rfl|rfl:=he
 .exact .inl (.inl rfl)
 .exact .inl (cE _ _ rfl)
 .exact .inl (cE _ _ rfl)
 .exact .inl (.inr (.inl rfl))
def mr {Wg:Nat}:(∀e∈#[mk (.read (smA Wg))],gO Wg e)/\(∀e∈#[mk (.write (smA Wg))],gO Wg e)/\∀e∈#[mk (.acquire (stA Wg))],gO Wg e:=by
 refine⟨λe he=>?_,λe he=>?_,λe he=>?_⟩<;>simp at he<;>subst he
 .exact .inr ⟨_,rfl,.inl rfl⟩
 .exact .inr ⟨_,rfl,.inr (.inl rfl)⟩
 .exact .inr ⟨_,rfl,.inr (.inr rfl)⟩
def LG {p:ak}{k q q':Nat}{w w':Wm}(h:q<q'):Oa p (k,q,w) (k,q',w'):=F _ (X _ _ h)
def fU {p:ak}{k q m m':Nat}(h:m<m'):Oa p (k,q,.st 0 m) (k,q,.st 0 m'):=F _ (F _ ⟨.fuel h,Dt p _ _⟩)
def GP {r r' f f':Nat}(h:r<r'):QH (r,f) (r',f'):=X _ _ h
def cz {r f f':Nat}(h:f<f'):QH (r,f) (r,f'):=F _ h
def MZ (tz:ax zN Ψ0)(aA:ax zN Ψ2)(h:MI P SB BB zZ Gn ty Wg zO zN Kp Ψ0 Ψ2 fA fW wl Pr T Fn j0 pre j gs W t D M O L ts rr st sm tag d0 rk fu x a)(zA:a.status=.running)(hp:pre.2.1≠9/\pre.2.1≠3/\pre.2.1≠4) :
  LF P SB BB zZ Gn ty Wg zO zN Kp Ψ0 Ψ2 Pr T Fn j0 (b9 gs W sl) t\/Stepped P SB BB zZ Gn ty Wg zO zN Kp Ψ0 Ψ2 fA fW wl Pr T Fn j0 (pre,(C j).map M,(rk (Vc j D),fu)) gs W sl t:=by
 have a6:=h.mode;have a8:=h.wi.wg;have aJ:=h.bd;have hV:=Vc_le j D;have aG:=h.Qk;have nr:tag≠.ret->∀u:br,tag=.ret->Acq Wg j0 j rr (t++u):=λh _ e=>AI e h;cases aG with
 |free _ _ _ _=>exact AI rfl hp.1
 |mid _=>exact AI rfl hp.2.1
 |Kn _ _=>exact AI rfl hp.2.2
 |Qg hk hr =>
  obtain a7|⟨m',rfl,hstep⟩:=Goes.cases hk
  .obtain⟨_,a',zK,m₂,aB⟩:=a7 W (RL.refl W);exact .inr (h.book tz aA zK (.refl Wg W) a8 Po (.Qh aB hr) (a6.reopen trivial trivial rfl (by simp)) (by simp) (AA _) (.inl (LG (by omega))))
  .obtain⟨a',w',es,zK,⟨rfl,rfl⟩,aC⟩:=hstep W (RL.refl W);exact .inr (h.book tz aA zK (.refl Wg w') a8 GJ (.Qg aC hr) a6 (by simp) (AA _) (.inl (fU (by omega))))
 |Qh hk hr =>
  obtain a7|⟨m',rfl,hstep⟩:=Goes.cases hk
  .obtain⟨_,hall⟩:=a7 W (RL.refl W);obtain⟨ho,rfl,rfl,_⟩:=a6.open_inv trivial;obtain⟨a',zK,h0,h1⟩:=hall (Vc j D) (by omega) (by simpa [pend] using a8);have hm:bn j D (.sp 0 3) ((((Vc j D:Nat):Int)+1)*KK) 0:=by
    have e:(((Vc j D:Nat):Int)+1)*KK=((Vc j D+pend (.sp 0 3):Nat):Int)*KK:=by simp[pend]
    rw[e];exact .opn trivial ho (by simp)
   by_cases hv:Vc j D=0
   .obtain⟨m₂,aB⟩:=h0 hv;exact .inr (h.book tz aA zK (bk W (stA Wg) _) (a8.setSt _) PN (.arr aB hr) hm (by simp) (AA _) (.inl (LG (by omega))))
   .obtain⟨m₂,aB⟩:=h1 hv;exact .inr (h.book tz aA zK (bk W (stA Wg) _) (a8.setSt _) PN (.PM aB hr) hm (by simp) (AA _) (.inl (LG (by omega))))
  .obtain⟨a',w',es,zK,⟨rfl,rfl⟩,aC⟩:=hstep W (RL.refl W);exact .inr (h.book tz aA zK (.refl Wg w') a8 GJ (.Qh aC hr) a6 (by simp) (AA _) (.inl (fU (by omega))))
 |arr hk hr =>
  obtain a7|⟨m',rfl,hstep⟩:=Goes.cases hk
  .obtain⟨_,a',zK,m₂,aB⟩:=a7 W (RL.refl W);exact .inr (h.book tz aA zK (.refl Wg W) a8 mr.1 (.PM aB hr) (a6.reopen trivial trivial rfl (by simp)) (by simp) (AA _) (.inl (LG (by omega))))
  .obtain⟨a',w',es,zK,⟨rfl,rfl⟩,aC⟩:=hstep W (RL.refl W);exact .inr (h.book tz aA zK (.refl Wg w') a8 GJ (.arr aC hr) a6 (by simp) (AA _) (.inl (fU (by omega))))
 |PM hk hr =>
  obtain a7|⟨m',rfl,hstep⟩:=Goes.cases hk
  .obtain⟨_,a',zK,m₂,aB⟩:=a7 W (RL.refl W);exact .inr (h.book tz aA zK (.refl Wg W) a8 QI (.Kn aB hr) (a6.reopen trivial trivial rfl (by simp)) (by simp) (AA _) (.inl (LG (by omega))))
  .obtain⟨a',w',es,zK,⟨rfl,rfl⟩,aC⟩:=hstep W (RL.refl W);exact .inr (h.book tz aA zK (.refl Wg w') a8 GJ (.PM aC hr) a6 (by simp) (AA _) (.inl (fU (by omega))))
 |Qi hk hf hA =>
  obtain a7|⟨m',rfl,hstep⟩:=Goes.cases hk
  .obtain⟨_,a',zK,m₂,aB⟩:=a7 W (RL.refl W);exact .inr (h.book tz aA zK (.refl Wg W) a8 Po (.anch aB hf hA) (a6.reopen trivial trivial rfl (by simp)) (by simp) (AA _) (.inr ⟨rfl,GP (by omega)⟩))
  .obtain⟨a',w',es,zK,⟨rfl,rfl⟩,aC⟩:=hstep W (RL.refl W);exact .inr (h.book tz aA zK (.refl Wg w') a8 GJ (.Qi aC hf hA) a6 (by simp) (AA _) (.inr ⟨rfl,cz (by omega)⟩))
 |anch hk hf hA =>
  obtain a7|⟨m',rfl,hstep⟩:=Goes.cases hk
  .obtain⟨_,m₂,zo⟩:=hA a W (a7 W (RL.refl W));obtain a7|⟨m',rfl,hstep⟩:=Goes.cases zo
   .obtain⟨_,hall⟩:=a7 W (RL.refl W);obtain⟨ho,rfl,rfl,_⟩:=a6.open_inv trivial;obtain⟨a',zK,h0,h1⟩:=hall (Vc j D) (by omega) (by simpa [pend] using a8);by_cases hv:Vc j D=0
    .obtain⟨m₂,aB⟩:=h0 hv;refine .inr (h.book tz aA zK (.refl Wg W) a8 Nr (tag':=.ke) (.Pj aB hf) ?_ (by simp) (AA _) (.inr ⟨rfl,GP (by omega)⟩));have e:((Vc j D+pend .anch:Nat):Int)*KK=0:=by rw[hv];simp[pend]
     rw[e];exact .fin trivial (allQuit_of ho hv)
    .obtain⟨m₂,aB⟩:=h1 hv;exact .inr (h.book tz aA zK (.refl Wg W) a8 Nr (tag':=.w2 (Vc j D)) (.w2 aB hf hA) (a6.reopen trivial trivial rfl (λvs e=>by cases e;omega)) (by simp) (AA _) (.inr ⟨rfl,GP (by omega)⟩))
   .obtain⟨a',w',es,zK,⟨rfl,rfl⟩,aC⟩:=hstep W (RL.refl W);exact .inr (h.book tz aA zK (.refl Wg w') a8 GJ (.w1 aC hf hA) (a6.reopen trivial trivial rfl (by simp)) (by simp) (AA _) (.inr ⟨rfl,GP (by omega)⟩))
  .obtain⟨a',w',es,zK,⟨rfl,rfl⟩,aC⟩:=hstep W (RL.refl W);exact .inr (h.book tz aA zK (.refl Wg w') a8 GJ (.anch aC hf hA) a6 (by simp) (AA _) (.inr ⟨rfl,cz (by omega)⟩))
 |w1 hk hf hA =>
  obtain a7|⟨m',rfl,hstep⟩:=Goes.cases hk
  .obtain⟨_,hall⟩:=a7 W (RL.refl W);obtain⟨ho,rfl,rfl,_⟩:=a6.open_inv trivial;obtain⟨a',zK,h0,h1⟩:=hall (Vc j D) (by omega) (by simpa [pend] using a8);by_cases hv:Vc j D=0
   .obtain⟨m₂,aB⟩:=h0 hv;refine .inr (h.book tz aA zK (.refl Wg W) a8 Nr (tag':=.ke) (.Pj aB hf) ?_ (by simp) (AA _) (.inr ⟨rfl,GP (by omega)⟩));have e:((Vc j D+pend .w1:Nat):Int)*KK=0:=by rw[hv];simp[pend]
    rw[e];exact .fin trivial (allQuit_of ho hv)
   .obtain⟨m₂,aB⟩:=h1 hv;exact .inr (h.book tz aA zK (.refl Wg W) a8 Nr (tag':=.w2 (Vc j D)) (.w2 aB hf hA) (a6.reopen trivial trivial rfl (λvs e=>by cases e;omega)) (by simp) (AA _) (.inr ⟨rfl,GP (by omega)⟩))
  .obtain⟨a',w',es,zK,⟨rfl,rfl⟩,aC⟩:=hstep W (RL.refl W);exact .inr (h.book tz aA zK (.refl Wg w') a8 GJ (.w1 aC hf hA) a6 (by simp) (AA _) (.inr ⟨rfl,cz (by omega)⟩))
 |w2 hk hf hA =>
  rename_i k vs gR G3;obtain a7|⟨m',rfl,hstep⟩:=Goes.cases hk
  .obtain⟨_,hall⟩:=a7 W (RL.refl W);obtain⟨ho,rfl,rfl,hw2⟩:=a6.open_inv trivial;obtain⟨zX,h1⟩:=hw2 vs rfl;obtain⟨aH,aD⟩:=hall (Vc j D) (by omega) (by simpa [pend] using a8);by_cases e:Vc j D=vs
   .obtain⟨a',zK,m₂,aB⟩:=aH e;exact .inr (h.book tz aA zK (bk W (stA Wg) _) (a8.setSt _) PN (.Qj aB hf) (.reg trivial ho (by omega)) (by simp) (AA _) (.inr ⟨rfl,GP (by omega)⟩))
   .obtain⟨a',zK,m₂,aB⟩:=aD e;exact .inr (h.book tz aA zK (.refl Wg W) a8 Nr (.anch aB hf hA) (a6.reopen trivial trivial rfl (by simp)) (by simp) (AA _) (.inr ⟨rfl,GP (by omega)⟩))
  .obtain⟨a',w',es,zK,⟨rfl,rfl⟩,aC⟩:=hstep W (RL.refl W);exact .inr (h.book tz aA zK (.refl Wg w') a8 GJ (.w2 aC hf hA) a6 (by simp) (AA _) (.inr ⟨rfl,cz (by omega)⟩))
 |Qj hk hf =>
  obtain a7|⟨m',rfl,hstep⟩:=Goes.cases hk
  .obtain⟨_,a',zK,m₂,aB⟩:=a7 W (RL.refl W);exact .inr (h.book tz aA zK (.refl Wg W) a8 mr.2.1 (.w3 aB hf) a6 (by simp) (AA _) (.inr ⟨rfl,GP (by omega)⟩))
  .obtain⟨a',w',es,zK,⟨rfl,rfl⟩,aC⟩:=hstep W (RL.refl W);exact .inr (h.book tz aA zK (.refl Wg w') a8 GJ (.Qj aC hf) a6 (by simp) (AA _) (.inr ⟨rfl,cz (by omega)⟩))
 |w3 hk hf =>
  obtain a7|⟨m',rfl,hstep⟩:=Goes.cases hk
  .obtain⟨_,aI,hblk,aF⟩:=a7 W (RL.refl W);cases a6 with
   |opn h1 _ _=>exact h1.elim
   |reg h1 h2 h3=>exact .inr (h.book tz aA (hblk ⟨_,a8⟩) (.refl Wg W) a8 GJ (.blk a7 hf) (.reg trivial h2 h3) (by simp) (AA _) (.inr ⟨rfl,cz (by omega)⟩))
   |last Lx h1 h2 h3 h4=>exact .inr (h.book tz aA (hblk ⟨_,a8⟩) (.refl Wg W) a8 GJ (.blk a7 hf) (.last Lx trivial h2 h3 h4) (by simp) (AA _) (.inr ⟨rfl,cz (by omega)⟩))
   |sema h2 =>
    obtain⟨a',zK,m₂,aB⟩:=aF a8
    refine .inr (h.book tz aA zK (bk W (smA Wg) _) (a8.setSm 0) QJ (tag':=.w4) (by
     have:bo 1 (cq (smA Wg))=1:=by simp[bo,cq]
     rw[this];exact .w4 aB hf) (.fin trivial h2) (by simp) (AA _) (.inr ⟨rfl,GP (by omega)⟩))
   |fin h1 _=>exact h1.elim
  .obtain⟨a',w',es,zK,⟨rfl,rfl⟩,aC⟩:=hstep W (RL.refl W);exact .inr (h.book tz aA zK (.refl Wg w') a8 GJ (.w3 aC hf) a6 (by simp) (AA _) (.inr ⟨rfl,cz (by omega)⟩))
 |blk _ _=>simp at zA
 |w4 hk hf =>
  obtain a7|⟨m',rfl,hstep⟩:=Goes.cases hk
  .obtain⟨_,hx⟩:=a7 W (RL.refl W);obtain⟨hq,rfl,rfl⟩:=a6.fin_inv trivial;obtain⟨a',zK,m₂,aB⟩:=hx a8;exact .inr (h.book tz aA zK (.refl Wg W) a8 Nr (.Pj aB hf) (.fin trivial hq) (by simp) (AA _) (.inr ⟨rfl,GP (by omega)⟩))
  .obtain⟨a',w',es,zK,⟨rfl,rfl⟩,aC⟩:=hstep W (RL.refl W);exact .inr (h.book tz aA zK (.refl Wg w') a8 GJ (.w4 aC hf) a6 (by simp) (AA _) (.inr ⟨rfl,cz (by omega)⟩))
 |Pj hk hf =>
  obtain a7|⟨m',rfl,hstep⟩:=Goes.cases hk
  .obtain⟨_,a',zK,m₂,aB⟩:=a7 W (RL.refl W);obtain⟨hq,rfl,rfl⟩:=a6.fin_inv trivial;exact .inr (h.book tz aA zK (.refl Wg W) a8 QI (.Np aB hf) (.fin trivial hq) (by simp) (AA _) (.inr ⟨rfl,GP (by omega)⟩))
  .obtain⟨a',w',es,zK,⟨rfl,rfl⟩,aC⟩:=hstep W (RL.refl W);exact .inr (h.book tz aA zK (.refl Wg w') a8 GJ (.Pj aC hf) a6 (by simp) (AA _) (.inr ⟨rfl,cz (by omega)⟩))
 |Np hk hf =>
  obtain a7|⟨m',rfl,hstep⟩:=Goes.cases hk
  .obtain⟨_,a',zK,m₂,aB⟩:=a7 W (RL.refl W);obtain⟨hq,rfl,rfl⟩:=a6.fin_inv trivial;refine .inr (h.book tz aA zK (.refl Wg W) a8 mr.2.2 (.fin aB hf) (.fin trivial hq) (λ_=>?_) (AA _) (.inr ⟨rfl,GP (by omega)⟩));have e1:bh 0 a.frame.fn a.frame.place #[mk (.acquire (stA Wg))]=#[{ g:=0,fn:=a.frame.fn,pos:=a.frame.place,act:=.mark (.acquire (stA Wg)) }]:=by rw[ofEvents_eq];simp[ofEvent_mk]
   have hy:(t++#[({ g:=0,fn:=a.frame.fn,pos:=a.frame.place,act:=.mark (.acquire (stA Wg)) }:MemOp)])[t.size]?=V { g:=0,fn:=a.frame.fn,pos:=a.frame.place,act:=.mark (.acquire (stA Wg)) }:=by simp
   refine⟨t.size,by rw[e1,act?_of hy],by rw[e1];simp[Trace.g?],by rw[e1];exact⟨0,by simp[Trace.g?],by rw[deaf_old (AA _)];exact h.deaf⟩,λi h0 hi=>?_⟩;exact lt_of_act? (h.wi.rel i h0 hi (by rw[hq i hi];omega)).act
  .obtain⟨a',w',es,zK,⟨rfl,rfl⟩,aC⟩:=hstep W (RL.refl W);exact .inr (h.book tz aA zK (.refl Wg w') a8 GJ (.Np aC hf) a6 (by simp) (AA _) (.inr ⟨rfl,cz (by omega)⟩))
 |fin hk hf =>
  obtain⟨hq,rfl,rfl⟩:=a6.fin_inv trivial;obtain a7|⟨m',rfl,hstep⟩:=Goes.cases hk
  .have e:=a7 W (RL.refl W);subst e;exact .inl ⟨j,gs,W,sl,D,M,O,L,ts,rr,0,0,x,a,rfl,h.wi,hf,h.L0,h.a0,h.deaf,hq,h.acq rfl,by have:=h.bd;omega⟩
  .obtain⟨a',w',es,zK,⟨rfl,rfl⟩,aC⟩:=hstep W (RL.refl W);exact .inr (h.book tz aA zK (.refl Wg w') a8 GJ (.fin aC hf) a6 (λ_=>(h.acq rfl).app) (AA _) (.inr ⟨rfl,cz (by omega)⟩))
end
open Go.ConcR (KK WgAt stA smA rd wr mk DC0 Bk g_of_ofEvents bk_of_mute ofEvent_loc_mark ofEvent_cell ofEvent_mk)
section
variable {P:ED} {SB BB:bb->Bool} {zZ:Bool} {Gn:Nat} {ty Wg:Nat} {zO zN:Nat->Prop} {Kp:H6} {Ψ0 Ψ2:E->Prop} {fA fW:bb} {wl:Nat} {Pr:Em} {T:List bq} {Fn:Bool->Hid->J->E->Prop}
 {j0 j:Nat} {gs:Array J} {W W':E} {t:br} {D:Nat->WD} {M:Nat->Wm} {O:Nat->Bool} {L:Nat->Option Lone} {ts ts':TS} {rr:Nat->Nat} {st sm I8 JB:Int} {a a':J}
 {tag tag':CTag} {d0:Nat} {pre pre':Pre} {rk Mx:Nat->Nat} {fu My:Nat} {x:Lone} {sl:Option (Nat×Nat)}
def WI.QK (h:WI P SB BB zZ Gn ty Wg zO zN Kp Ψ0 Ψ2 j0 j gs W t D M O L ts rr st sm):ts.own≠V 0:=λe=>by
 cases ts with
 |at_ k =>
  obtain⟨i,_,e1,_⟩:=h.K8 k rfl;simp only[TS.own,Option.some.injEq] at e;omega
 |_=>cases e
def WI.reg (h:WI P SB BB zZ Gn ty Wg zO zN Kp Ψ0 Ψ2 j0 j gs W t D M O L ts rr st sm)(hL:L 0=V x)(g':J):WI P SB BB zZ Gn ty Wg zO zN Kp Ψ0 Ψ2 j0 j gs W t D M O (put L 0 (V { x with g:=g' })) ts rr st sm:=by
 have get:∀ {b y},put L 0 (V { x with g:=g' }) b=V y->∃z,L b=V z/\y.w=z.w/\y.H=z.H/\y.β=z.β:=λ{b y} e=>by
  by_cases e':b=0
  .subst e';rw[Ex] at e;cases e;exact⟨x,hL,rfl,rfl,rfl⟩
  .rw[EC L _ e'] at e;exact⟨y,e,rfl,rfl,rfl⟩
 have c:=h.cw;refine⟨h.size,λi hi=>?_,⟨λb y hy=>?_,λb y hy=>?_,λb y hy=>?_,λb y hy=>?_,λb y hy=>?_,λb k y z zU hy hz=>?_,c.low,c.I4,c.keep,λb y hy=>?_,c.Lz,c.N0⟩,h.tr.Mv (λk l=>?_) (λk l=>?_),h.low,h.deafW,h.rel,h.wg,h.Km,h.K8,h.G6,λi hi=>?_,h.old,h.jj⟩
 .rw[EC L _ (by omega)];exact h.wk i hi
 .obtain⟨z,h1,h2,h3,h4⟩:=get hy;have:=c.like b z h1;unfold Gy at this ⊢;rw[h2,h3,h4];exact this
 .obtain⟨z,h1,h2,h3,h4⟩:=get hy;rw[h3];exact c.EZ b z h1
 .obtain⟨z,h1,h2,h3,h4⟩:=get hy;rw[h3,h4];exact c.MW b z h1
 .obtain⟨z,h1,h2,h3,h4⟩:=get hy;rw[h4];exact c.dead b z h1
 .obtain⟨z,h1,h2,h3,h4⟩:=get hy;rw[h3,h4];exact c.I3 b z h1
 .obtain⟨y',h1,h2,h3,h4⟩:=get hy;obtain⟨z',k1,k2,k3,k4⟩:=get hz;rw[h2,h3,h4,k2,k3,k4];exact c.sep b k y' z' zU h1 k1
 .obtain⟨z,h1,h2,h3,h4⟩:=get hy;rw[h2,h3,h4];exact c.FI b z h1
 .rintro(⟨y,hy,hw⟩|hw)
  .obtain⟨z,h1,h2,h3,h4⟩:=get hy;refine .inl ⟨z,h1,?_⟩;unfold O1 at hw ⊢;rw[h2,h3,h4] at hw;exact hw
  .exact .inr hw
 .rintro(⟨y,hy,hw⟩|hw)
  .obtain⟨z,h1,h2,h3,h4⟩:=get hy;refine .inl ⟨z,h1,?_⟩;unfold O3 at hw ⊢;rw[h3,h4] at hw;exact hw
  .exact .inr hw
 .rw[EC L _ (by omega)];exact h.out i hi
def ms (lib:∀H,Lib P SB H zZ BB Gn)(tz:ax zN Ψ0)(a7:ax zN Ψ2){k q:Nat}{Q:J->E->Prop}
  (h:MI P SB BB zZ Gn ty Wg zO zN Kp Ψ0 Ψ2 fA fW wl Pr T Fn j0 (k,q,.tree Q (x.g,x.w)) j gs W t D M O L ts rr st sm tag 0 rk fu x a) (zU:tag≠.ret) (hr:Ee P.a (Fa P.a BB) Q x.g x.w) (hq:¬Q x.g x.w) (hg:Fp P SB BB zZ x a) (a8:Pr.le x.β) (hT:x.T=T)
  (mkS:∀(x':Lone) (G:J) (W:E),x'.H=x.H->x'.T=T->Pr.le x'.β->Ee P.a (Fa P.a BB) Q x'.g x'.w->Fp P SB BB zZ x' G->F9 P SB BB zZ Gn ty Wg zN Ψ0 Ψ2 fA fW wl Pr T Fn tag 0 (k,q,.tree Q (x'.g,x'.w)) rk fu x' ts.tp G W) :
  Stepped P SB BB zZ Gn ty Wg zO zN Kp Ψ0 Ψ2 fA fW wl Pr T Fn j0 ((k,q,.tree Q (x.g,x.w)),(C j).map M,(rk (Vc j D),fu)) gs W sl t:=by
 obtain⟨g',w',es,D6,g2,W',ES,e1,e2,e3,e4,e5⟩:=Eu.follow (lib x.H) (main2:=bc) hr hq hg (h.wi.cw.like _ x h.L0);have f:Hu P SB zZ Gn x W D6 w' W' ES.toList:=e5;have aA:=h.wi.cw.EZ _ x h.L0;have a6:=cP f aA;rw[show ES.toList.toArray=ES by simp] at a6;have aB:bo 0 ES=0:=deafBehind_idle (λe he=>⟨(a6 e he).1,(a6 e he).2.1⟩) 0
 refine⟨_,_,((k,q,.tree Q (g',w')),(C j).map M,(rk (Vc j D),fu)),bs (P:=P.b) (sl:=sl) (i:=0) h.a0 (by simpa using e3),X _ _ (F _ (F _ ⟨.tree hq ⟨W.tape,W.drawn,es,e1,e4.callers.ne⟩,Dr (EO.of hr)⟩)),
  j,_,W',sl,D,M,O,_,ts,rr,st,sm,tag,0,rk,fu,⟨g',w',x.H,D6,x.T⟩,g2,rfl,⟨h.wi.QF tz a7 h.L0 f g',mkS ⟨g',w',x.H,D6,x.T⟩ g2 W' rfl hT (Em.le_trans a8 e5.le) e2 e4,Ex L _ _,ck _ _ _ (by rw[h.wi.size];omega),by rw[Deaf_own,h.deaf];exact aB,h.mode,λe=>AI e zU,h.bd⟩,rfl⟩
def M3 (lib:∀H,Lib P SB H zZ BB Gn)(tz:ax zN Ψ0)(a7:ax zN Ψ2){k:Nat}
  (h:MI P SB BB zZ Gn ty Wg zO zN Kp Ψ0 Ψ2 fA fW wl Pr T Fn j0 (k+1,3,.tree (QG P SB BB zZ Gn ty Wg zN Ψ0 Ψ2 fA fW wl Pr T Fn k ts.tp x.H) (x.g,x.w)) j gs W t D M O L ts rr st sm (.sp 0 2) 0 rk fu x a) (hr:Rest P SB BB zZ Gn ty Wg zN Ψ0 Ψ2 fA fW wl Pr T Fn k x ts.tp a) (zT:rk=λ_=>0) (hfu:fu=0) :
  Stepped P SB BB zZ Gn ty Wg zO zN Kp Ψ0 Ψ2 fA fW wl Pr T Fn j0 ((k+1,3,.tree (QG P SB BB zZ Gn ty Wg zN Ψ0 Ψ2 fA fW wl Pr T Fn k ts.tp x.H) (x.g,x.w)),(C j).map M,(rk (Vc j D),fu)) gs W sl t:=by
 subst zT hfu;by_cases hq:QG P SB BB zZ Gn ty Wg zN Ψ0 Ψ2 fA fW wl Pr T Fn k ts.tp x.H x.g x.w
 .obtain⟨G',child,x',xk,Mw,o,OW,Q,zK,hsp,hT',a6,hS,hQ,zT⟩:=hq x a W rfl ⟨rfl,rfl,rfl⟩ rfl hr.t hr.wl hr.gl (h.wi.cw.like 0 x h.L0) (λe=>h.wi.G6.1 (by cases ts<;>first|rfl|cases e)) (h.wi.cw.I3 0 x h.L0 h.wi.QK) (h.wi.cw.MW 0 x h.L0) (h.wi.cw.EZ 0 x h.L0);have zA:=runT_crowd_spawn (P:=P.b) (sl:=sl) (i:=0) h.a0 (by simpa using zK);rw[h.wi.size] at zA;have e0:∀(p q:MemOp),((bh 0 a.frame.fn a.frame.place #[]).push p).push q=#[p,q]:=λp q=>by rw[ofEvents_eq];simp
  rw[e0] at zA;obtain⟨hw,a8⟩:=h.wi.spawn h.L0 hsp hQ zT.1 zT.2 h.deaf (p:={ g:=0,fn:=a.frame.fn,pos:=a.frame.place,act:=.go (j+1) }) (q:={ g:=j+1,fn:=child.frame.fn,pos:=a.frame.place,act:=.start }) ⟨rfl,rfl⟩ ⟨rfl,rfl⟩;obtain⟨ho,zG,hsm,_⟩:=h.mode.open_inv trivial;have eV:Vc (j+1) (upd D j ⟨7,0,0⟩)=Vc j D+1:=by
   simp only[Vc,sumTo,upd_same];rw[sumTo_upd_out D _ cnt (AA _)];rfl
  have hm:bn (j+1) (upd D j ⟨7,0,0⟩) (.sp 0 5) st sm:=by
   have e:st=((Vc (j+1) (upd D j ⟨7,0,0⟩)+pend (.sp 0 5):Nat):Int)*KK:=by rw[zG,eV];simp[pend]
   rw[e,hsm];refine .opn trivial (λi hi=>?_) (by simp);by_cases e:i=j
   .subst e;rw[upd_same];simp
   .rw[upd_ne D _ e];exact ho i (by omega)
  have aA:=h.bd
  refine⟨_,_,((k,9,.tree (J1 P SB BB zZ Gn ty Wg zN Ψ0 Ψ2 fA fW wl Pr T Fn k Mw x'.H) (x'.g,x'.w)),(C (j+1)).map (upd M j (.born Q (xk.g,xk.w))),(0,0)),zA,X _ _ (X _ _ (Nat.lt_succ_self k)),
   j+1,_,W,sl,_,_,_,_,_,rr,st,sm,.sp 0 5,0,λ_=>0,0,x',G',rfl,⟨hw,by rw[a8];exact .free hS a6 hT' hsp.gl,by rw[EC _ _ (by omega)];exact Ex L _ _,?_,?_,hm,λe=>by simp at e,by simp only at aA ⊢;omega⟩,rfl⟩
  .rw[Array.getElem?_push_lt (by simp[h.wi.size]),<-AK];simp[h.wi.size]
  .rw[Deaf_still t 0 _ (λop hop=>?_),h.deaf];simp only[B8,AJ,AG,or_false] at hop;rcases hop with rfl|rfl<;>exact⟨by simp,by simp⟩
 .exact ms lib tz a7 h (by simp) hr.run hq hr.gl hr.wl hr.t fun x' G W e1 e2 e3 e4 e5 => by
   have hR:Rest P SB BB zZ Gn ty Wg zN Ψ0 Ψ2 fA fW wl Pr T Fn k x' ts.tp G:=⟨by rw[e1];exact e4,e3,e2,e5⟩;have:=F9.mid (W:=W) hR;rw[e1] at this;exact this
def step0 (aH:Pr wl Wg)(lib:∀H,Lib P SB H zZ BB Gn)(tz:ax zN Ψ0)(a8:ax zN Ψ2)(hA:MX P SB BB zZ Gn ty Wg fA wl T)(hW:jQ P SB BB zZ Gn ty Wg fW wl T)
  (h:MI P SB BB zZ Gn ty Wg zO zN Kp Ψ0 Ψ2 fA fW wl Pr T Fn j0 pre j gs W t D M O L ts rr st sm tag d0 rk fu x a) (zA:a.status=.running) :
  LF P SB BB zZ Gn ty Wg zO zN Kp Ψ0 Ψ2 Pr T Fn j0 (b9 gs W sl) t\/Stepped P SB BB zZ Gn ty Wg zO zN Kp Ψ0 Ψ2 fA fW wl Pr T Fn j0 (pre,(C j).map M,(rk (Vc j D),fu)) gs W sl t:=by
 by_cases h3:pre.2.1≠9/\pre.2.1≠3/\pre.2.1≠4
 .exact MZ tz a8 h zA h3
 have aB:=h.Qk;have go : ∀ {tag' : CTag} {d1 : Nat} {k q q' : Nat} {w1 w : Wm} {Mx : Nat -> Nat} {My : Nat} {g' : J}, q < q' -> q ≠ 9 ∧ q ≠ 3 ∧ q ≠ 4 -> pre = (k, q', w) -> bn j D tag' st sm -> tag' ≠ .ret -> Deaf t 0 = d1 ->
   F9 P SB BB zZ Gn ty Wg zN Ψ0 Ψ2 fA fW wl Pr T Fn tag' d1 (k,q,w1) Mx My { x with g:=g' } ts.tp a W->LF P SB BB zZ Gn ty Wg zO zN Kp Ψ0 Ψ2 Pr T Fn j0 (b9 gs W sl) t\/Stepped P SB BB zZ Gn ty Wg zO zN Kp Ψ0 Ψ2 fA fW wl Pr T Fn j0 (pre,(C j).map M,(rk (Vc j D),fu)) gs W sl t:=by
  intro tag' d1 k q q' w1 w Mx My g' hq hq' a6 hm zU hd hs;have aA:=h.bd;subst a6;have h':MI P SB BB zZ Gn ty Wg zO zN Kp Ψ0 Ψ2 fA fW wl Pr T Fn j0 (k,q,w1) j gs W t D M O (put L 0 (V { x with g:=g' })) ts rr st sm tag' d1 Mx My { x with g:=g' } a :=
   ⟨h.wi.reg h.L0 g',hs,Ex L _ _,h.a0,hd,hm,λe=>AI e zU,aA⟩
  rcases MZ (sl:=sl) tz a8 h' zA hq' with hf|⟨m',ops,aC,k1,k2,k3⟩
  .exact .inl hf
  .exact .inr ⟨m',ops,aC,k1,DE hq k2,k3⟩
 have wait:∀ {k:Nat} {w:Wm},pre=(k,9,w)->tag=.sp 0 5->d0=0->im P fW wl Fn ts.tp x.H x.g x.w->Pr.le x.β->x.T=T->Fp P SB BB zZ x a->LF P SB BB zZ Gn ty Wg zO zN Kp Ψ0 Ψ2 Pr T Fn j0 (b9 gs W sl) t\/Stepped P SB BB zZ Gn ty Wg zO zN Kp Ψ0 Ψ2 fA fW wl Pr T Fn j0 (pre,(C j).map M,(rk (Vc j D),fu)) gs W sl t:=by
  rintro k w a6 ht hd ⟨fr,cs,e,aD,hfn⟩ a7 hT hg;obtain⟨gR,m,G3,k1,k2,k3⟩:=hW x a W fr cs e aD hT (a7 _ _ aH) hg (h.wi.cw.like 0 x h.L0) h.wi.live;refine go (q:=2) (g':=back fr cs) (by omega) (by omega) a6 (by have:=h.mode;rw[ht] at this;exact this.reopen (tag':=.kd) trivial trivial rfl (by simp)) (by simp) (h.deaf.trans hd) (.Qi k1 ?_ k2);exact⟨hfn,a7,hT,k3⟩
 generalize a6:pre=pre0 at aB;cases aB with
 |@free k _ _ _ _ hr a7 hT hg =>
  by_cases hq:J1 P SB BB zZ Gn ty Wg zN Ψ0 Ψ2 fA fW wl Pr T Fn k ts.tp x.H x.g x.w
  .cases k with
   |zero=>rw[<-a6];exact wait a6 rfl rfl hq a7 hT hg
   |succ k =>
    rw[<-a6];obtain hq|⟨fr,cs,e,aD,aF⟩:=hq
    .exact wait a6 rfl rfl hq a7 hT hg
    .obtain⟨gR,m,k1,k2⟩:=hA x a W fr cs e aD hT (a7 _ _ aH) hg (h.wi.cw.like 0 x h.L0) h.wi.live;exact go (q:=8) (g':=back fr cs) (by omega) (by omega) a6 h.mode (by simp) h.deaf (.Qg k1 ⟨aF,a7,hT,k2⟩)
  .rw[a6] at h
   exact .inr (ms lib tz a8 h (by simp) hr hq hg a7 hT λx' G W e1 e2 e3 e4 e5=>by
    have:=F9.free (P:=P) (SB:=SB) (BB:=BB) (zZ:=zZ) (Gn:=Gn) (ty:=ty) (Wg:=Wg) (zN:=zN) (Ψ0:=Ψ0) (Ψ2:=Ψ2) (fA:=fA) (fW:=fW) (wl:=wl) (Pr:=Pr) (T:=T) (Fn:=Fn) (k:=k) (x:=x') (tp:=ts.tp) (W:=W) (by rw[e1];exact e4) e3 e2 e5;rw[e1] at this
    exact this)
 |mid hr=>rw[a6] at h;exact .inr (M3 lib tz a8 h hr rfl rfl)
 |Kn hk hr =>
  obtain aG|⟨m',rfl,hstep⟩:=Goes.cases hk
  .have e:=aG W (RL.refl W);subst e;have aA:=h.bd;rw[a6] at h aA;have h':=MI.mk (Fn:=Fn) (fA:=fA) (fW:=fW) (wl:=wl) (Pr:=Pr) (T:=T) h.wi (.mid hr) h.L0 h.a0 h.deaf h.mode (λe=>by simp at e) aA;obtain⟨m',ops,aC,k1,k2,k3⟩:=M3 (sl:=sl) lib tz a8 h' hr rfl rfl;exact .inr ⟨m',ops,aC,k1,DE (by omega) k2,k3⟩
  .obtain⟨a',w',es,zK,⟨rfl,rfl⟩,aI⟩:=hstep W (RL.refl W);rw[a6] at h;exact .inr (h.book tz a8 zK (.refl Wg w') h.wi.wg GJ (.Kn aI hr) h.mode (by simp) (AA _) (.inl (fU (by omega))))
 |_ =>
  subst a6;exact AI ⟨by simp,by simp,by simp⟩ h3
end
open Go.ConcR (KK WgAt stA smA rd wr mk DC0 Bk g_of_ofEvents bk_of_mute ofEvent_loc_mark ofEvent_cell ofEvent_mk)
section
variable {P:ED} {SB BB:bb->Bool} {zZ:Bool} {Gn:Nat} {ty Wg:Nat} {zO zN:Nat->Prop} {Kp:H6} {Ψ0 Ψ2:E->Prop} {fA fW:bb} {wl:Nat} {Pr:Em} {T:List bq} {Fn:Bool->Hid->J->E->Prop}
 {j0 j:Nat} {gs:Array J} {W W':E} {t:br} {D:Nat->WD} {M:Nat->Wm} {O:Nat->Bool} {L:Nat->Option Lone} {ts ts':TS} {rr:Nat->Nat} {st sm I8 JB:Int} {a a':J}
 {tag tag':CTag} {d0:Nat} {pre pre':Pre} {rk Mx:Nat->Nat} {fu My:Nat} {x:Lone} {sl:Option (Nat×Nat)}
def GG.leaving {s d:Nat}{m:Wm}{x:Option Lone}{o:Bool}{g:J}(h:GG P SB BB zZ Gn ty Wg Ψ2 s d m x o g W)(hs:s=1):(∃q,cF P.b q d g)/\o=false:=by
 cases h<;>first|(exact AI hs (by decide))|(exact⟨⟨_,‹_›⟩,rfl⟩)
def WI.at (h:WI P SB BB zZ Gn ty Wg zO zN Kp Ψ0 Ψ2 j0 j gs W t D M O L ts rr st sm)(tz:ax zN Ψ0)(a6:ax zN Ψ2)(d:Nat):WI P SB BB zZ Gn ty Wg zO zN Kp Ψ0 Ψ2 j0 j gs (W.at d) t D M O L ts rr st sm :=
 ⟨h.size,λi hi=>let ⟨g,hg,hs⟩:=h.wk i hi;⟨g,hg,hs.rely λx=>x⟩,h.cw.at d,h.tr,h.low,h.deafW,h.rel,h.wg,h.Km,h.K8,⟨λe=>tz W _ (λ_ _=>rfl) (h.G6.1 e),λe=>a6 W _ (λ_ _=>rfl) (h.G6.2 e)⟩,h.out,h.old,h.jj⟩
def MI.at (h:MI P SB BB zZ Gn ty Wg zO zN Kp Ψ0 Ψ2 fA fW wl Pr T Fn j0 pre j gs W t D M O L ts rr st sm tag d0 rk fu x a)(tz:ax zN Ψ0)(a6:ax zN Ψ2)(d:Nat):MI P SB BB zZ Gn ty Wg zO zN Kp Ψ0 Ψ2 fA fW wl Pr T Fn j0 pre j gs (W.at d) t D M O L ts rr st sm tag d0 rk fu x a :=
 ⟨h.wi.at tz a6 d,h.Qk.rely λx=>x,h.L0,h.a0,h.deaf,h.mode,h.acq,h.bd⟩
def QL (lib:∀H,Lib P SB H zZ BB Gn)(a8:∀(f:bb) (fn:Func),P.a.funcs[f]?=V fn->fn.body.isNone=bc->P.fs[f]?=V fn)(tz:ax zN Ψ0)(aA:ax zN Ψ2)
  (h:MI P SB BB zZ Gn ty Wg zO zN Kp Ψ0 Ψ2 fA fW wl Pr T Fn j0 pre j gs W t D M O L ts rr st sm tag d0 rk fu x a) {i:Nat} (hi:i<j) {g:J} (hg:gs[i+1]?=V g) (zA:g.status=.running) :
  ∃m' ops a7,runT P.b (b9 gs W sl) (i+1)=(.next m',ops)/\Pn P.a a7 (pre,(C j).map M,(rk (Vc j D),fu))/\Nq P SB BB zZ Gn ty Wg zO zN Kp Ψ0 Ψ2 fA fW wl Pr T Fn j0 a7 m' (t++ops):=by
 have aB:=h.bd;have hpend:pend tag<=1:=by cases tag<;>simp[pend]<;>split<;>omega
 obtain⟨g',W',es,D',M',O',L',ts',aC,I8,JB,k1,k2,k3,k4,k5,k6,k7,k8,aD⟩:=moved lib a8 h.wi tz aA hi hg zA h.mode (by omega);obtain⟨tag',Mx,My,s1,s2,s3⟩:=h.Qk.wokenBy (W':=W') (λ_=>k2.live) g g'
 refine⟨_,_,(pre,(C j).map M',(Mx (Vc j D'),My)),bs (P:=P.b) (sl:=sl) (i:=i+1) hg (by simpa using k1),?_,j,_,W',sl,D',M',O',L',ts',aC,I8,JB,tag',d0,Mx,My,x,woken P.b g g' W' a,rfl,
  ⟨k2,by rw[aD];exact s1,k6.trans h.L0,by rw[get_map_set _ _ _ _ (by omega),h.a0];rfl,by rw[Deaf_other t (by omega) _ g_of_ofEvents,h.deaf],k3 tag' s2 s3,λe=>?_,aB⟩,rfl⟩
 .refine F _ (X _ _ ?_);obtain⟨_,_,hs⟩:=h.wi.wk i hi;have e:(C j).map M'=((C j).map M).set i (M' i):=by
   apply List.ext_getElem (by simp);intro b h1 h2;simp only[C4,bw];rw[List.getElem_set];split
   .rename_i e;rw[e]
   .rename_i e;simp only[C4,bw];exact k5 b (by omega)
  rw[e];exact One.set (by simp[hi]) ⟨k4,hs.acc⟩
 .have ht : tag = .ret := by
   obtain e'|⟨_,e'⟩:=s2
   .rw[<-e'];exact e
   .rw[e'] at e;cases e
  have hm:=h.mode;rw[ht] at hm;obtain⟨hq,_,_⟩:=hm.fin_inv trivial;obtain⟨q,q1,q2,q3,q4⟩:=(h.acq ht).app (u:=bh (i+1) g.frame.fn g.frame.place es);exact⟨q,q1,q2,q3,λb hb0 a6=>by rw[(k8 b a6 (by rw[hq b a6];omega)).2];exact q4 b hb0 a6⟩
def IG {D:Nat->WD}:∀ {j:Nat},1<=Vc j D->∃i,i<j/\5<=(D i).stage
 |0,h=>by simp[Vc,sumTo] at h
 |j+1,h=>by
  by_cases hc:5<=(D j).stage
  .exact⟨j,by omega,hc⟩
  .have:1<=Vc j D:=by simp only[Vc,sumTo,cnt,AD hc] at h ⊢;simpa using h
   obtain⟨i,hi,h5⟩:=IG this;exact⟨i,by omega,h5⟩
def MI.O4 (h:MI P SB BB zZ Gn ty Wg zO zN Kp Ψ0 Ψ2 fA fW wl Pr T Fn j0 pre j gs W t D M O L ts rr st sm tag d0 rk fu x a):∃(i:Nat) (g:J),gs[i]?=V g/\g.status=.running:=by
 have runs:∀i,i<j->(D i).stage≠1->∃g,gs[i+1]?=V g/\g.status=.running:=λi hi hs=>by
  obtain⟨g,hg,hk⟩:=h.wi.wk i hi;obtain e|⟨_,e⟩:=hk.status
  .exact⟨g,hg,e⟩
  .exact AI e hs
 obtain⟨hs,_⟩|⟨_,e⟩:=h.Qk.status
 .exact⟨0,a,h.a0,hs⟩
 .subst e;have hm:=h.mode;cases hm with
  |opn h1 _ _=>exact h1.elim
  |reg _ _ h3 =>
   obtain⟨i,hi,h5⟩:=IG h3;obtain⟨g,hg,hr⟩:=runs i hi (by omega);exact⟨i+1,g,hg,hr⟩
  |last Lx _ h2 h3 _ =>
   obtain⟨g,hg,hr⟩:=runs Lx h2 (by omega);exact⟨Lx+1,g,hg,hr⟩
  |fin h1 _=>exact h1.elim
def MI.awake (h:MI P SB BB zZ Gn ty Wg zO zN Kp Ψ0 Ψ2 fA fW wl Pr T Fn j0 pre j gs W t D M O L ts rr st sm tag d0 rk fu x a):∀g∈gs,Go.Conc.awake g:=by
 intro g hg tm;obtain⟨i,hi⟩:=Array.mem_iff_getElem?.1 hg;cases i with
 |zero =>
  rw[h.a0] at hi;cases hi;rcases h.Qk.status with⟨hs,_⟩|⟨hs,_⟩<;>rw[hs]<;>simp
 |succ i =>
  have zY:i<j:=by have:=(Az.1 hi).1;rw[h.wi.size] at this;omega
  obtain⟨g',a6,hs⟩:=h.wi.wk i zY;rw[hi] at a6;cases a6;rcases hs.status with e|⟨e,_⟩<;>rw[e]<;>simp
def QM (a8:Pr wl Wg)(lib:∀H,Lib P SB H zZ BB Gn)(aA:∀(f:bb) (fn:Func),P.a.funcs[f]?=V fn->fn.body.isNone=bc->P.fs[f]?=V fn)(tz:ax zN Ψ0)(a7:ax zN Ψ2)(hA:MX P SB BB zZ Gn ty Wg fA wl T)(hW:jQ P SB BB zZ Gn ty Wg fW wl T):∀μ m t,Nq P SB BB zZ Gn ty Wg zO zN Kp Ψ0 Ψ2 fA fW wl Pr T Fn j0 μ m t ->
  LF P SB BB zZ Gn ty Wg zO zN Kp Ψ0 Ψ2 Pr T Fn j0 m t\/∃m' ops a6,stepT P.b m=(.next m',ops)/\Pn P.a a6 μ/\Nq P SB BB zZ Gn ty Wg zO zN Kp Ψ0 Ψ2 fA fW wl Pr T Fn j0 a6 m' (t++ops):=by
 rintro⟨pre,r⟩ m t ⟨j,gs,W,sl,D,M,O,L,ts,rr,st,sm,tag,d0,rk,fu,x,a,rfl,h,hr⟩;simp only at h hr;subst hr;obtain⟨i,g,d,sl',hg,zA,hstep⟩:=crowd_pick (P:=P.b) (w:=W) (sl:=sl) h.awake h.O4;have h':=h.at tz a7 d;cases i with
 |zero =>
  rw[h.a0] at hg;cases hg;by_cases hf:LF P SB BB zZ Gn ty Wg zO zN Kp Ψ0 Ψ2 Pr T Fn j0 (b9 gs W sl) t
  .exact .inl hf
  .rcases step0 (sl:=sl') a8 lib tz a7 hA hW h' zA with hf'|⟨m',ops,a6,k1,k2,k3⟩
   .exfalso;apply hf;obtain⟨j2,aB,W2,aF,D2,M2,O2,L2,aC,rr2,aD,sm2,x2,a2,e,q1,q2,q3,q4,q5,q6,q7⟩:=hf';have e1:gs=aB:=AX Machine.gs e;have e2:W.at d=W2:=AX Machine.world e;subst e1;subst e2;exact⟨j2,gs,W,sl,D2,M2,O2,L2,aC,rr2,aD,sm2,x2,a2,rfl,q1.at tz a7 W.drawn,q2,q3,q4,q5,q6,q7⟩
   .exact .inr ⟨m',ops,a6,by rw[hstep];exact k1,k2,k3⟩
 |succ i =>
  have hi:i<j:=by have:=(Az.1 hg).1;rw[h.wi.size] at this;omega
  obtain⟨m',ops,a6,k1,k2,k3⟩:=QL (sl:=sl') lib aA tz a7 h' hi hg zA;exact .inr ⟨m',ops,a6,by rw[hstep];exact k1,k2,k3⟩
def join (a6:Pr wl Wg)(lib:∀H,Lib P SB H zZ BB Gn)(a7:∀(f:bb) (fn:Func),P.a.funcs[f]?=V fn->fn.body.isNone=bc->P.fs[f]?=V fn)(tz:ax zN Ψ0)(a8:ax zN Ψ2)(hA:MX P SB BB zZ Gn ty Wg fA wl T)(hW:jQ P SB BB zZ Gn ty Wg fW wl T){μ:Mu}{m:b8}(h:Nq P SB BB zZ Gn ty Wg zO zN Kp Ψ0 Ψ2 fA fW wl Pr T Fn j0 μ m t) :
  ∃N m' t',runNT P.b N m t=(.next m',t')/\LF P SB BB zZ Gn ty Wg zO zN Kp Ψ0 Ψ2 Pr T Fn j0 m' t' :=
 jP (Pn.wf P.a) _ _ (QM a6 lib a7 tz a8 hA hW) μ m t h
def LH {m:b8}(h:LF P SB BB zZ Gn ty Wg zO zN Kp Ψ0 Ψ2 Pr T Fn j0 m t) :
  ∃(gs:Array J) (W:E) (sl:Option (Nat×Nat)) (x:Lone) (a:J) (tp:Bool) (q:Nat->Nat),m=b9 gs W sl/\gs[0]?=V a/\Leavers P.b t gs q/\Past (MV zO Wg) W.heap.size t/\Quiet (MV zO Wg) t/\(∀(i:Nat) (op:MemOp),t[i]?=V op->op.g<gs.size) /\
   JD P SB BB zZ Pr T Fn x tp a/\Gy P SB zZ Gn x W/\x.H.EZ=I/\(∀b,x.β b Wg->x.H b=bc)/\(∀b B,x.β b B->¬zO B)/\(∀b B,x.β b B->zN B->x.H b=bc) /\
   (∀B,Kp.at_ B->W.heap[B]?=Kp.w.heap[B]?)/\Wg<W.heap.size/\(∀B,zO B->B<W.heap.size)/\(tp=bc->Ψ0 W)/\(tp=I->Ψ2 W)/\W.os=Kp.w.os/\W.output=Kp.w.output/\gs.size<=Kp.bd/\∀b B,x.β b B->Kp.at_ B->x.H b=bc\/Ro x.w b:=by
 obtain⟨j,gs,W,sl,D,M,O,L,ts,rr,st,sm,x,a,rfl,hw,hf,hL,ha,hd,hq,aB,hjb⟩:=h;obtain⟨q,q1,q2,q3,q4⟩:=aB;have quits:∀i g,i<j->gs[i+1]?=V g->∃n,cF P.b n (Deaf t (i+1)) g:=λi g hi hg=>by
  obtain⟨g',a8,hk⟩:=hw.wk i hi;rw[hg] at a8;cases a8;rw[hw.deafW i hi];exact(hk.leaving (hq i hi)).1
 have a6:∀i,∃n,∀g,0<i->gs[i]?=V g->cF P.b n (Deaf t i) g:=λi=>by
  by_cases h0:0<i/\i<j+1
  .obtain⟨i',rfl⟩:∃i',i=i'+1:=⟨i-1,by omega⟩;cases hg:gs[i'+1]? with
   |none=>exact⟨0,λg _ e=>by cases e⟩
   |some g =>
    obtain⟨n,hn⟩:=quits i' g (by omega) hg;exact⟨n,λg2 _ e=>by cases e;exact hn⟩
  .refine⟨0,λg h1 e=>?_⟩;have:=(Az.1 e).1;rw[hw.size] at this;omega
 refine⟨gs,W,sl,x,a,ts.tp,λi=>Classical.choose (a6 i),rfl,ha,⟨λi g h0 hg=>Classical.choose_spec (a6 i) g h0 hg,λi hi=>Deaf_absent λb op hb e=>?_⟩,?_,hw.tr.ti.quiet,λi op hi=>by rw[hw.size];exact hw.tr.ti.gs i op hi,hf,hw.cw.like 0 x hL,hw.cw.EZ 0 x hL,hw.cw.MW 0 x hL,hw.cw.dead 0 x hL,hw.cw.I3 0 x hL hw.QK,λB hB=>(hw.cw.keep B hB).2.2,hw.cw.low.1,hw.cw.low.2.1,λe=>hw.G6.1 ?_,λe=>hw.G6.2 ?_,hw.cw.N0.1,hw.cw.N0.2,by rw[hw.size];exact hjb,hw.cw.FI 0 x hL⟩
 .have:=hw.tr.ti.gs b op hb;rw[hw.size] at hi;omega
 .refine hw.tr.past q1 q2 q3 hd hw.low λk i hg zU aC=>?_;obtain⟨b,rfl,hb0,a7,hb⟩:=aC;have h1:=hq b a7;refine⟨rr b,hw.rel b hb0 a7 (by omega),q4 b hb0 a7,hb.resolve_left (by omega)⟩
 .cases ts<;>first|rfl|cases e
 .cases aA:ts with
  |done=>rfl
  |start=>rw[aA] at e;cases e
  |at_ k =>
   exfalso;obtain⟨b,hb,_,ho⟩:=hw.K8 k aA;obtain⟨g,_,hk⟩:=hw.wk b hb;have:=(hk.leaving (hq b hb)).2;rw[ho] at this;cases this
end
open Go.RowKit Go.Conc.Lib Go.ConcR.Gen Go.ConcN.Gen
open Go.ConcR (KK wgBlock WgAt stA smA rd wr mk Payload Aside2 DC0)
variable {L:WgLink}
def addNeg {P:ak}(H:WgLib P L){Wg:Nat}{b₀:bq}{a₀:Act}{ops₀:Array Oper}{i₀:Nat}{rest₀:List Nat}{k₀:List Item}{cs:List bq}{qt:Nat}
  (hT:cF P qt 0 (G (b₀.at (a₀.put ((ops₀[i₀]?).bind (·.dst)) (.tuple #[])) (.inRegion ops₀ rest₀::k₀)) cs)) (w:E) (hK:cf L.tWg Wg w) :
  GW P L.tWg Wg I (R0 P L.tWg Wg) 150 (G ((base L.add).at ⟨#[.pointer (V ⟨Wg,0,none⟩),.int .i64 (-1),undef,undef,undef,undef,undef,undef,undef,undef,undef,undef,undef,undef,undef,undef,undef,undef,undef,undef,undef,undef,undef,undef,undef,undef,undef,undef,undef,undef,undef,undef,undef,undef,undef,undef,undef,undef,undef,undef,undef,undef,undef,undef,undef,undef,undef,undef,undef,undef,undef,undef,undef,undef,undef,undef,undef,undef,undef,undef,undef,undef,undef,undef,undef,undef,undef,undef,undef,undef,undef,undef,undef,undef,undef,undef,undef,undef,undef,undef,undef,undef,undef,undef,undef,undef,undef,undef,undef,undef,undef,undef,undef,undef,undef,undef,undef,undef,undef,undef,undef,undef,undef,undef,undef,undef,undef,undef,undef,undef,undef,undef,undef,undef,undef,undef,undef],[]⟩ [.code (cK L)]) (b₀.at a₀ (.inRegion ops₀ (i₀::rest₀)::k₀)::cs)) w:=by
 lib_facts
 simp only[cK,addFn,AY]
 u_c Y rl hK
 u_cond bc rl hK
 iterate 2 u_c Y rl hK
 u_reg rl hK
 iterate 2 u_op rl hK
 u_c Z rl hK
 u_cond bc rl hK
 u_reg rl hK
 u_op rl hK
 u_conv H.underlying_tWgP H.room_tWg (WgLive.cell0 hK).choose_spec rl hK
 refine Goes.stop (λw₁ h₁=>?_);replace hK:=rl hK h₁;refine⟨rfl,_,stepG_markAt .releaseMerge (by simp) rfl rfl (by k_ne) rfl H.f_relMerge (x_relMerge_n L) (x_relMerge_b L) (x_relMerge_x L) (x_relMerge_f L) (by simp[Act.eval,stA]),150,?_⟩
 walk_nrm
 u_c Z rl hK
 u_c Y rl hK
 u_reg rl hK
 refine Goes.stop (λw₁ h₁=>?_);replace hK:=rl hK h₁;refine⟨rfl,_,stepG_mark0 .disable (by simp) rfl rfl (by k_ne) rfl H.f_disable (x_disable_n L) (x_disable_b L) (x_disable_x L) (x_disable_f L),150,?_⟩
 walk_nrm
 u_c Z rl hK
 u_reg rl hK
 u_defer rl hK
 u_c Z rl hK
 u_c Y rl hK
 u_reg rl hK
 u_op rl hK
 u_c Z rl hK
 iterate 2 u_c Y rl hK
 u_reg rl hK
 u_bub rl hK
 u_c Z rl hK
 u_cond I rl hK
 u_c U rl hK
 u_c Y rl hK
 u_reg rl hK
 iterate 6 u_op rl hK
 u_call H.f_uAdd (nm_uAdd L) uAddFn rl hK
 u_c Y rl hK
 u_reg rl hK
 u_op rl hK
 u_c Z rl hK
 u_c Y rl hK
 u_reg rl hK
 iterate 4 u_op rl hK
 refine Goes.stop (λw₁ h₁=>?_);refine⟨rfl,λv wt hwt hv hw=>?_⟩;have e0:IntKind.u64.wrap (KK+18446744069414584320)=0:=by decide
 have e1:IntKind.u64.wrap (KK+1+18446744069414584320)=1:=by decide
 rcases Bs v with rfl|hvp<;>(obtain rfl|rfl:wt=0\/wt=1:=by omega)
 .replace hw:WgAt L.tWg Wg w₁ KK 0:=by simpa using hw
  have z:((0:Nat):Int)*KK+((0:Nat):Int)=0:=by simp
  rw[z];refine⟨_,(A rfl rfl (by k_ne) rfl H.f_addU64 (bA L) (bD L) (bW L) .u64 (b5 L) rfl rfl hw.cellSt (hw.thaw 0)).trans (by rw[e0];rfl),λhl=>AI hl.2 (by decide),λ_=>⟨qt+89,?_⟩⟩
  walk_nrm
  q_val (.int .u64 0)
  q_c Z
  q_c R
  q_leave1 H.f_uAdd
  q_val (.int .u64 0)
  q_c Z
  iterate 2 q_c Y
  q_reg
  iterate 2 q_val (.int .u64 0)
  iterate 2 q_val (.bool I)
  q_skip
  q_skip
  q_val (.bool I)
  q_c Z
  q_cond I
  q_c U
  q_c Y
  q_reg
  iterate 2 q_val (.int .u64 0)
  iterate 2 q_val (.int .i32 0)
  q_c Z
  q_c Y
  q_reg
  iterate 2 q_val (.int .u64 0)
  iterate 2 q_val (.int .u32 0)
  q_c Z
  iterate 2 q_c Y
  q_reg
  q_val (.bool bc)
  q_val (.int .i64 (-1))
  iterate 3 q_val (.bool I)
  q_skip
  q_skip
  q_skip
  q_skip
  q_val (.bool I)
  q_c Z
  q_cond I
  q_c U
  iterate 2 q_c Y
  q_reg
  q_val (.int .i32 0)
  q_val (.bool I)
  q_c Z
  q_cond I
  q_c U
  iterate 2 q_c Y
  q_reg
  q_val (.int .u32 0)
  iterate 2 q_val (.bool I)
  q_skip
  q_skip
  iterate 2 q_val (.bool I)
  q_skip
  q_skip
  q_skip
  q_skip
  q_val (.bool I)
  q_c Z
  q_cond I
  q_c U
  iterate 2 q_c Y
  q_reg
  q_val (.int .i32 0)
  iterate 2 q_val (.bool I)
  q_val (.int .u32 0)
  iterate 2 q_val (.bool bc)
  q_c Z
  q_cond bc
  q_c R
  q_enable
  q_leave0 H.f_add
  exact hT
 .replace hw:WgAt L.tWg Wg w₁ (KK+1) 0:=by simpa using hw
  have z:((0:Nat):Int)*KK+((1:Nat):Int)=1:=by simp
  rw[z];refine⟨_,(A rfl rfl (by k_ne) rfl H.f_addU64 (bA L) (bD L) (bW L) .u64 (b5 L) rfl rfl hw.cellSt (hw.thaw 0)).trans (by rw[e1];rfl),λ_=>⟨150,?_⟩,λhl=>AI ⟨rfl,rfl⟩ hl⟩;have hF:cf L.tWg Wg (w₁.setCell (stA Wg) (.int .u64 1)):=⟨_,_,hw.setSt 1⟩
  walk_nrm
  u_op rl hF
  u_c Z rl hF
  u_c R rl hF
  u_leave1 H.f_uAdd rl hF
  u_op rl hF
  u_c Z rl hF
  iterate 2 u_c Y rl hF
  u_reg rl hF
  iterate 4 u_op rl hF
  iterate 2 u_skip rl hF
  u_op rl hF
  u_c Z rl hF
  u_cond I rl hF
  u_c U rl hF
  u_c Y rl hF
  u_reg rl hF
  iterate 4 u_op rl hF
  u_c Z rl hF
  u_c Y rl hF
  u_reg rl hF
  iterate 4 u_op rl hF
  u_c Z rl hF
  iterate 2 u_c Y rl hF
  u_reg rl hF
  iterate 5 u_op rl hF
  iterate 4 u_skip rl hF
  u_op rl hF
  u_c Z rl hF
  u_cond I rl hF
  u_c U rl hF
  iterate 2 u_c Y rl hF
  u_reg rl hF
  iterate 2 u_op rl hF
  u_c Z rl hF
  u_cond I rl hF
  u_c U rl hF
  iterate 2 u_c Y rl hF
  u_reg rl hF
  iterate 7 u_op rl hF
  iterate 4 u_skip rl hF
  u_op rl hF
  u_c Z rl hF
  u_cond I rl hF
  u_c U rl hF
  iterate 2 u_c Y rl hF
  u_reg rl hF
  iterate 6 u_op rl hF
  u_c Z rl hF
  u_cond I rl hF
  u_c U rl hF
  iterate 2 u_c Y rl hF
  u_reg rl hF
  iterate 3 u_op rl hF
  u_call H.f_uLoad (nm_uLoad L) uLoadFn rl hF
  u_c Y rl hF
  u_reg rl hF
  u_op rl hF
  u_c Z rl hF
  u_c Y rl hF
  u_reg rl hF
  iterate 3 u_op rl hF
  refine Goes.stop (λw₂ h₁=>?_);refine⟨rfl,λhw=>⟨_,stepG_load_atomic rfl rfl (by k_ne) rfl H.f_loadU64 (x_loadU64_n L) (x_loadU64_b L) (x_loadU64_x L) .u64 (x_loadU64_f L) rfl hw.cellSt,150,?_⟩⟩;have hF:cf L.tWg Wg w₂:=⟨_,_,hw⟩
  walk_nrm
  u_op rl hF
  u_c Z rl hF
  u_c R rl hF
  u_leave1 H.f_uLoad rl hF
  iterate 2 u_op rl hF
  u_c Z rl hF
  u_cond I rl hF
  u_c U rl hF
  u_c Y rl hF
  u_reg rl hF
  iterate 3 u_op rl hF
  u_call H.f_uStore (nm_uStore L) uStoreFn rl hF
  u_reg rl hF
  iterate 4 u_op rl hF
  refine Goes.stop (λw₃ h₁=>?_);refine⟨rfl,λhw=>⟨_,stepG_store_atomic rfl rfl (by k_ne) rfl H.f_storeU64 (x_storeU64_n L) (x_storeU64_b L) (x_storeU64_x L) (x_storeU64_f L) rfl rfl hw.cellSt (hw.thaw 0),150,?_⟩⟩;have hF:cf L.tWg Wg (w₃.setCell (stA Wg) (.int .u64 0)):=⟨_,_,hw.setSt 0⟩;clear hw
  walk_nrm
  u_c Z rl hF
  u_c cu rl hF
  u_leave0 H.f_uStore rl hF
  u_c Z rl hF
  iterate 2 u_c Y rl hF
  u_reg rl hF
  u_op rl hF
  u_c Z rl hF
  u_cond I rl hF
  u_c U rl hF
  u_c stepG_block rl hF
  u_c stepG_loop rl hF
  iterate 2 u_c Y rl hF
  u_reg rl hF
  iterate 2 u_op rl hF
  u_c Z rl hF
  u_cond bc rl hF
  u_c U rl hF
  u_c Y rl hF
  u_c stepG_block rl hF
  u_reg rl hF
  iterate 3 u_op rl hF
  refine Goes.stop (λw₄ h₁=>?_);clear h₁ hF;refine⟨rfl,mayWake_entry rfl rfl H.f_semrelease (cr L),λhw=>⟨_,(stepG_semrelease rfl rfl (by k_ne) rfl H.f_semrelease (x_semrelease_n L) (cr L) (x_semrelease_x L) (x_semrelease_f L) (by simp[Act.eval,smA]) hw.cellSm (hw.thaw 1)).trans (by rfl),qt+19,?_⟩⟩;clear hw
  walk_nrm
  q_c Z
  q_c stepG_inBlock
  q_reg
  q_val (.int .u32 1)
  iterate 2 q_val (.int .u32 0)
  q_c Z
  q_c stepG_inLoop
  iterate 2 q_c Y
  q_reg
  q_val (.int .u32 0)
  q_val (.bool I)
  q_c Z
  q_cond I
  q_exit
  q_c cu
  q_enable
  q_leave0 H.f_add
  exact hT
 .replace hw:WgAt L.tWg Wg w₁ (((v:Nat)+1)*KK+0) 0:=by simpa using hw
  have z:((v:Nat):Int)*KK+((0:Nat):Int)=(v:Int)*KK+0:=by simp
  rw[z];have hv0:0<v:=by omega
  have eS:IntKind.u64.wrap (((v:Nat)+1)*KK+0+18446744069414584320)=(v:Int)*KK+0:=by rw[IntKind.wrap_u64];simp only[KK];omega
  obtain⟨S,hS⟩:∃S:Int,S=(v:Int)*KK+0:=⟨_,rfl⟩;rw[<-hS] at eS ⊢;have a1:S / 4294967296=(v:Int):=by rw[hS];simp only[KK];omega
  have a2:0<=S/\S<9223372036854775808:=by rw[hS];simp only[KK];omega
  have b1:bits .and .u64 S 2147483648=0:=by rw[hS];have:=st_flag v 0 (by omega) (by omega);simpa [KK] using this
  have b2:bits .and .u64 S 2147483647=0:=by rw[hS];have:=st_waiters v 0 (by omega) (by omega);simpa [KK] using this
  clear hS z;refine⟨_,(A rfl rfl (by k_ne) rfl H.f_addU64 (bA L) (bD L) (bW L) .u64 (b5 L) rfl rfl hw.cellSt (hw.thaw 0)).trans (by rw[eS];rfl),λhl=>AI hl.1 (by omega),λ_=>⟨qt+89,?_⟩⟩;clear hw
  walk_nrm
  q_vn (.int .u64 S)
  q_c Z
  q_c R
  q_leave1 H.f_uAdd
  q_vn (.int .u64 S)
  q_c Z
  iterate 2 q_c Y
  q_reg
  q_vn (.int .u64 S)
  q_vn (.int .u64 0)
  iterate 2 q_vn (.bool I)
  q_skip
  q_skip
  q_vn (.bool I)
  q_c Z
  q_cond I
  q_c U
  q_c Y
  q_reg
  q_vn (.int .u64 S)
  q_vn (.int .u64 (v:Int))
  iterate 2 q_vn (.int .i32 (v:Int))
  q_c Z
  q_c Y
  q_reg
  q_vn (.int .u64 S)
  q_vn (.int .u64 0)
  iterate 2 q_vn (.int .u32 0)
  q_c Z
  iterate 2 q_c Y
  q_reg
  q_vn (.bool bc)
  q_vn (.int .i64 (-1))
  iterate 3 q_vn (.bool I)
  q_skip
  q_skip
  q_skip
  q_skip
  q_vn (.bool I)
  q_c Z
  q_cond I
  q_c U
  iterate 2 q_c Y
  q_reg
  q_vn (.int .i32 (v:Int))
  q_vn (.bool I)
  q_c Z
  q_cond I
  q_c U
  iterate 2 q_c Y
  q_reg
  q_vn (.int .u32 0)
  iterate 2 q_vn (.bool I)
  q_skip
  q_skip
  iterate 2 q_vn (.bool I)
  q_skip
  q_skip
  q_skip
  q_skip
  q_vn (.bool I)
  q_c Z
  q_cond I
  q_c U
  iterate 2 q_c Y
  q_reg
  q_vn (.int .i32 (v:Int))
  iterate 2 q_vn (.bool bc)
  q_skip
  q_skip
  q_vn (.bool bc)
  q_c Z
  q_cond bc
  q_c R
  q_enable
  q_leave0 H.f_add
  exact hT
 .replace hw:WgAt L.tWg Wg w₁ (((v:Nat)+1)*KK+1) 0:=by simpa using hw
  have z:((v:Nat):Int)*KK+((1:Nat):Int)=(v:Int)*KK+1:=by simp
  rw[z];have hv0:0<v:=by omega
  have eS:IntKind.u64.wrap (((v:Nat)+1)*KK+1+18446744069414584320)=(v:Int)*KK+1:=by rw[IntKind.wrap_u64];simp only[KK];omega
  obtain⟨S,hS⟩:∃S:Int,S=(v:Int)*KK+1:=⟨_,rfl⟩;rw[<-hS] at eS ⊢;have a1:S / 4294967296=(v:Int):=by rw[hS];simp only[KK];omega
  have a2:0<=S/\S<9223372036854775808:=by rw[hS];simp only[KK];omega
  have b1:bits .and .u64 S 2147483648=0:=by rw[hS];have:=st_flag v 1 (by omega) (by omega);simpa [KK] using this
  have b2:bits .and .u64 S 2147483647=1:=by rw[hS];have:=st_waiters v 1 (by omega) (by omega);simpa [KK] using this
  clear hS z;refine⟨_,(A rfl rfl (by k_ne) rfl H.f_addU64 (bA L) (bD L) (bW L) .u64 (b5 L) rfl rfl hw.cellSt (hw.thaw 0)).trans (by rw[eS];rfl),λhl=>AI hl.1 (by omega),λ_=>⟨qt+89,?_⟩⟩;clear hw
  walk_nrm
  q_vn (.int .u64 S)
  q_c Z
  q_c R
  q_leave1 H.f_uAdd
  q_vn (.int .u64 S)
  q_c Z
  iterate 2 q_c Y
  q_reg
  q_vn (.int .u64 S)
  q_vn (.int .u64 0)
  iterate 2 q_vn (.bool I)
  q_skip
  q_skip
  q_vn (.bool I)
  q_c Z
  q_cond I
  q_c U
  q_c Y
  q_reg
  q_vn (.int .u64 S)
  q_vn (.int .u64 (v:Int))
  iterate 2 q_vn (.int .i32 (v:Int))
  q_c Z
  q_c Y
  q_reg
  q_vn (.int .u64 S)
  q_vn (.int .u64 1)
  iterate 2 q_vn (.int .u32 1)
  q_c Z
  iterate 2 q_c Y
  q_reg
  q_vn (.bool bc)
  q_vn (.int .i64 (-1))
  iterate 3 q_vn (.bool I)
  q_skip
  q_skip
  q_skip
  q_skip
  q_vn (.bool I)
  q_c Z
  q_cond I
  q_c U
  iterate 2 q_c Y
  q_reg
  q_vn (.int .i32 (v:Int))
  q_vn (.bool I)
  q_c Z
  q_cond I
  q_c U
  iterate 2 q_c Y
  q_reg
  q_vn (.int .u32 1)
  iterate 2 q_vn (.bool bc)
  q_vn (.int .i64 (-1))
  iterate 3 q_vn (.bool I)
  q_skip
  q_skip
  q_skip
  q_skip
  q_vn (.bool I)
  q_c Z
  q_cond I
  q_c U
  iterate 2 q_c Y
  q_reg
  q_vn (.int .i32 (v:Int))
  iterate 2 q_vn (.bool bc)
  q_skip
  q_skip
  q_vn (.bool bc)
  q_c Z
  q_cond bc
  q_c R
  q_enable
  q_leave0 H.f_add
  exact hT
def done {P:ak}(H:WgLib P L){Wg:Nat}{c:bq}{cs:List bq}{qt:Nat}(hcm:c.mode=.returning)(hT:cF P qt 0 (G c cs))(w:E)(hK:cf L.tWg Wg w) :
  GW P L.tWg Wg I (R0 P L.tWg Wg) 153 (G ((baseD L.done).at ⟨#[.pointer (V ⟨Wg,0,none⟩),undef,undef,undef],[]⟩ [.code (body_done L)]) (c::cs)) w:=by
 lib_facts
 have hA:=@addNeg L P H Wg;simp only[body_done,cK,doneFn,addFn,AY] at hA ⊢
 u_reg rl hK
 u_op rl hK
 u_in rl hK
 refine goes_call rfl rfl (by k_ne) rfl H.f_add (nm_add L) rfl ⟨by u_nil,?_⟩
 walk_nrmf addFn
 refine hA (qt:=qt+3) ?_ _ hK
 q_c Z
 q_c cu
 exact QuitsD.leaveD rfl rfl H.f_done rfl hcm hT
end Go.Co
