/- Parts of the proof. -/
import Derived.Test.YtghipmneleifpaaGreatP07
import Derived.Test.YtghipmneleifpaaGreatP05
import Derived.Test.YtghipmneleifpaaGreatP00
import Derived.Test.YtghipmneleifpaaGreatP06
set_option linter.all false
set_option maxHeartbeats 8000000
set_option maxRecDepth 100000
open Go.Conc renaming stepG_region_end->a6,stepG_seq->a7,stepG_skip->bb,stepG_ret'->bo,stepG_add_atomic->br,aside_setCell->bW,runT_crowd_go->cf,semEvents->dr,stepG_end->ea,QuitsD->ed
open Go renaming Goroutine->a8,World->bn,Program->bs,FuncId->bw,deafBehind->b7,Frame->b8,Trace->b9,Machine->c0
open Bool renaming false->bc,true->bA
open Prod.Lex renaming left->bh,right->bk
open List renaming range->bl,getElem_range->cq,getElem_map->dy
open Option renaming some->bq
open Go.MemOp renaming ofEvents->bD
open Nat renaming lt_wfRel->b5
open Go.ConcN renaming Mode->b6,WgLive->df,get_map_set_same->dn,bk_cell->eb
open Go.ConcR.Gen renaming x_addU64_n->cr,x_addU64_b->cu,x_addU64_x->cE,x_addU64_f->cF,x_semrelease_b->dS,body_add->ek
open Prod renaming Lex->cK,lex->cU
namespace Go.Co
open Go.Ct Go.Conc Go.ConcN
open Go.ConcR (KK WgAt stA smA rd wr mk DC0 Bk g_of_ofEvents bk_of_mute ofEvent_loc_mark ofEvent_cell ofEvent_mk)
def J3 (p:bs)(a b:Wm):Prop:=MJ p a b/\Acc (MJ p) b
def J3.wf (p:bs):WellFounded (J3 p):=⟨λy=>.intro _ λx h=>by
 have key:∀y,Acc (MJ p) y->Acc (J3 p) y:=by
  intro y hy
  induction hy with
  |intro y _ ih=>exact .intro _ λz hz=>ih z hz.1
 exact key x (h.2.inv h.1)⟩
abbrev Mu:=Pre×(List Wm×(Nat×Nat))
def RJ (p:bs):Pre->Pre->Prop:=cK (·<·) (cK (·<·) (J3 p))
def Lph:Nat×Nat->Nat×Nat->Prop:=cK (·<·) (·<·)
def WH (p:bs):Mu->Mu->Prop:=cK (RJ p) (cK (One (J3 p)) Lph)
def WH.wf (p:bs):WellFounded (WH p):=by
 have h1:WellFounded (RJ p):=(cU b5 (cU b5 ⟨_,J3.wf p⟩)).wf;have h2:WellFounded Lph:=(cU b5 b5).wf;have h3:WellFounded (One (J3 p)):=⟨λl=>One.acc λx _=>(J3.wf p).apply x⟩;exact(cU ⟨_,h1⟩ (cU ⟨_,h3⟩ ⟨_,h2⟩)).wf
def BJ {p:bs}{k q:Nat}{q':Nat}{w1 w:Wm}{r1 r:List Wm×(Nat×Nat)}{LW:Mu}(hq:q<q')(h:WH p LW ((k,q,w1),r1)):WH p LW ((k,q',w),r):=by
 refine bh _ _ ?_;cases h with
 |left _ _ h =>
  cases h with
  |left _ _ h=>exact bh _ _ h
  |right _ h =>
   refine bk _ ?_;cases h with
   |left _ _ h=>exact bh _ _ (Nat.lt_trans h hq)
   |right _ _=>exact bh _ _ hq
 |right _ _=>exact bk _ (bh _ _ hq)
def jO {P:bs}{μ:Type}{r:μ->μ->Prop}(wf:WellFounded r)(Inv:μ->c0->b9->Prop)(Fin:c0->b9->Prop)
  (step:∀x m t,Inv x m t->Fin m t\/∃m' ops x',stepT P m=(.next m',ops)/\r x' x/\Inv x' m' (t++ops)):∀x m t,Inv x m t->∃N m' t',runNT P N m t=(.next m',t')/\Fin m' t':=by
 intro x
 induction x using wf.induction with
 |_ x ih =>
  intro m t h;rcases step x m t h with hf|⟨m',ops,x',h1,h2,h3⟩
  .exact⟨0,m,t,rfl,hf⟩
  .obtain⟨N,m2,t2,k1,k2⟩:=ih x' h2 m' _ h3;exact⟨N+1,m2,t2,by simp only[runNT,h1];exact k1,k2⟩
section
variable (P:CL) (SB BB:bw->Bool) (lets:Bool) (Gn:Nat) (ty Wg:Nat) (Dead Toy:Nat->Prop) (Kp:Gm) (Ψ0 Ψ2:bn->Prop) (fA fW:bw) (wl:Nat) (Pr:Cm) (T:List b8) (Fn:Bool->Hid->a8->bn->Prop)
def Acq (j0 j:Nat)(rr:Nat->Nat)(t:b9):Prop:=∃q,t.act? q=bq (.mark (.acquire (stA Wg)))/\t.g? q=bq 0/\t.heard q/\∀i,j0<=i->i<j->rr i<q
structure MI (j0:Nat)(pre:Pre)(j:Nat)(gs:Array a8)(W:bn)(t:b9)(D:Nat->WD)(M:Nat->Wm)(O:Nat->Bool)(L:Nat->Option Lone)(ts:TS)(rr:Nat->Nat)(st sm:Int)(tag:CTag)(d0:Nat)(rk:Nat->Nat)(fu:Nat)(x:Lone)(a:a8):Prop where
 wi:WI P SB BB lets Gn ty Wg Dead Toy Kp Ψ0 Ψ2 j0 j gs W t D M O L ts rr st sm
 Z1:EG P SB BB lets Gn ty Wg Toy Ψ0 Ψ2 fA fW wl Pr T Fn tag d0 pre rk fu x ts.tp a W
 L0:L 0=bq x
 a0:gs[0]?=bq a
 deaf:Deaf t 0=d0
 mode:b6 j D tag st sm
 acq:tag=.ret->Acq Wg j0 j rr t
 bd:j+pre.1<Kp.bd/\Kp.bd<=2147483647
def P6 (j0:Nat)(μ:Mu)(m:c0)(t:b9):Prop :=
 ∃j gs W sl D M O L ts rr st sm tag d0 rk fu x a,m=crowd gs W sl/\MI P SB BB lets Gn ty Wg Dead Toy Kp Ψ0 Ψ2 fA fW wl Pr T Fn j0 μ.1 j gs W t D M O L ts rr st sm tag d0 rk fu x a/\μ.2=((bl j).map M,(rk (Vc j D),fu))
def MP (j0:Nat)(m:c0)(t:b9):Prop :=
 ∃j gs W sl D M O L ts rr st sm x a,m=crowd gs W sl/\WI P SB BB lets Gn ty Wg Dead Toy Kp Ψ0 Ψ2 j0 j gs W t D M O L ts rr st sm/\Jo P SB BB lets Pr T Fn x ts.tp a/\L 0=bq x/\gs[0]?=bq a/\Deaf t 0=0/\AllQuit j D/\Acq Wg j0 j rr t/\j<Kp.bd
def Ph:Prop:=∀(x:Lone) (G:a8) (W:bn) (fr:b8) (cs:List b8),x.g=ca P fA #[I3 wl,.int .i64 1] fr cs->eY fr->x.T=T->x.β wl Wg->Dv P SB BB lets x G->E2 P SB lets Gn x W->df ty Wg W ->
 ∃gR m,GW P.b ty Wg bA (AKd P.b ty Wg (λg _=>g=gR)) m G W/\Dv P SB BB lets { x with g:=back fr cs } gR
def jP:Prop:=∀(x:Lone) (G:a8) (W:bn) (fr:b8) (cs:List b8),x.g=ca P fW #[I3 wl] fr cs->eY fr->x.T=T->x.β wl Wg->Dv P SB BB lets x G->E2 P SB lets Gn x W->df ty Wg W ->
 ∃gR m Fy,GW P.b ty Wg bA (WKd P.b ty Wg Fy) m G W/\ie P ty Wg Fy gR/\Dv P SB BB lets { x with g:=back fr cs } gR
end
section
variable {P:CL} {SB BB:bw->Bool} {lets:Bool} {Gn:Nat} {ty Wg:Nat} {Dead Toy:Nat->Prop} {Kp:Gm} {Ψ0 Ψ2:bn->Prop} {fA fW:bw} {wl:Nat} {Pr:Cm} {T:List b8} {Fn:Bool->Hid->a8->bn->Prop}
 {j0 j:Nat} {gs:Array a8} {W W':bn} {t:b9} {D:Nat->WD} {M:Nat->Wm} {O:Nat->Bool} {L:Nat->Option Lone} {ts ts':TS} {rr:Nat->Nat} {st sm Io Jl:Int} {a a':a8}
 {tag tag':CTag} {d0:Nat} {pre pre':Pre} {rk Ot:Nat->Nat} {fu Ou:Nat} {x:Lone} {sl:Option (Nat×Nat)}
def Stepped (P:CL)(SB BB:bw->Bool)(lets:Bool)(Gn:Nat)(ty Wg:Nat)(Dead Toy:Nat->Prop)(Kp:Gm)(Ψ0 Ψ2:bn->Prop)(fA fW:bw)(wl:Nat)(Pr:Cm)(T:List b8)(Fn:Bool->Hid->a8->bn->Prop)(j0:Nat)(μ:Mu)(gs:Array a8)(W:bn)(sl:Option (Nat×Nat))(t:b9):Prop :=
 ∃m' ops LW,runT P.b (crowd gs W sl) 0=(.next m',ops)/\WH P.a LW μ/\P6 P SB BB lets Gn ty Wg Dead Toy Kp Ψ0 Ψ2 fA fW wl Pr T Fn j0 LW m' (t++ops)
def Acq.app {u:b9}(h:Acq Wg j0 j rr t):Acq Wg j0 j rr (t++u):=by
 obtain⟨q,h1,h2,h3,h4⟩:=h;have hq:=lt_of_act? h1;exact⟨q,by rw[act?_old hq];exact h1,by rw[g?_old hq];exact h2,(heard_old hq).2 h3,h4⟩
def MI.book (h:MI P SB BB lets Gn ty Wg Dead Toy Kp Ψ0 Ψ2 fA fW wl Pr T Fn j0 pre j gs W t D M O L ts rr st sm tag d0 rk fu x a)(tz:av Toy Ψ0)(DZ:av Toy Ψ2){es:Array Event}(hgo:stepG P.b bA a W=.go a' W' es)(Og:Aside Wg W W')(DX:WgAt ty Wg W' Io Jl)(Iz:∀e∈es,gI Wg e)
  (hs:EG P SB BB lets Gn ty Wg Toy Ψ0 Ψ2 fA fW wl Pr T Fn tag' (b7 d0 es) pre' Ot Ou x ts.tp a' W') (Cx:b6 j D tag' Io Jl) (Yb:tag'=.ret->Acq Wg j0 j rr (t++bD 0 a.frame.fn a.frame.place es)) (hb:pre'.1<=pre.1)
  (hlt:RJ P.a pre' pre\/(pre'=pre/\Lph (Ot (Vc j D),Ou) (rk (Vc j D),fu))):Stepped P SB BB lets Gn ty Wg Dead Toy Kp Ψ0 Ψ2 fA fW wl Pr T Fn j0 (pre,(bl j).map M,(rk (Vc j D),fu)) gs W sl t:=by
 have Le:=h.bd;refine⟨_,_,(pre',(bl j).map M,(Ot (Vc j D),Ou)),cf (P:=P.b) (sl:=sl) (i:=0) h.a0 (by simpa using hgo),?_,j,_,W',sl,D,M,O,L,ts,rr,Io,Jl,tag',b7 d0 es,Ot,Ou,x,a',rfl,⟨h.wi.book0 tz DZ Og DX Iz,hs,h.L0,dn _ _ _ (by rw[h.wi.size];omega),by rw[Deaf_own,h.deaf],Cx,Yb,(by show j+pre'.1<Kp.bd/\_;omega)⟩,rfl⟩;rcases hlt with h1|⟨rfl,h1⟩
 .exact bh _ _ h1
 .exact bk _ (bk _ h1)
def Fa {Wg:Nat}:∀e∈(#[]:Array Event),gI Wg e:=by simp
def WJ {Wg:Nat}:∀e∈#[mk .disable],gI Wg e:=by intro e he;simp at he;subst he;exact .inl (.inl rfl)
def abt {Wg:Nat}:∀e∈#[mk .enable],gI Wg e:=by intro e he;simp at he;subst he;exact .inl (.inr (.inl rfl))
def P7 {Wg:Nat}:∀e∈#[rd (stA Wg)],gI Wg e:=by intro e he;simp at he;subst he;exact .inl (eb _ _ rfl)
def Yc {Wg:Nat}:∀e∈#[rd (stA Wg),wr (stA Wg)],gI Wg e:=by intro e he;simp at he;rcases he with rfl|rfl<;>exact .inl (eb _ _ rfl)
def abu {Wg:Nat}:∀e∈dr (smA Wg),gI Wg e:=by
 intro e he;simp[dr] at he;rcases he with rfl|rfl|rfl|rfl
 .exact .inl (.inl rfl)
 .exact .inl (eb _ _ rfl)
 .exact .inl (eb _ _ rfl)
 .exact .inl (.inr (.inl rfl))
def ms {Wg:Nat}:(∀e∈#[mk (.read (smA Wg))],gI Wg e)/\(∀e∈#[mk (.write (smA Wg))],gI Wg e)/\∀e∈#[mk (.acquire (stA Wg))],gI Wg e:=by
 refine⟨λe he=>?_,λe he=>?_,λe he=>?_⟩<;>simp at he<;>subst he
 .exact .inr ⟨_,rfl,.inl rfl⟩
 .exact .inr ⟨_,rfl,.inr (.inl rfl)⟩
 .exact .inr ⟨_,rfl,.inr (.inr rfl)⟩
def MQ {p:bs}{k q q':Nat}{w w':Wm}(h:q<q'):RJ p (k,q,w) (k,q',w'):=bk _ (bh _ _ h)
def fP {p:bs}{k q m m':Nat}(h:m<m'):RJ p (k,q,.st 0 m) (k,q,.st 0 m'):=bk _ (bk _ ⟨.fuel h,Bw p _ _⟩)
def Fh {r r' f f':Nat}(h:r<r'):Lph (r,f) (r',f'):=bh _ _ h
def cx {r f f':Nat}(h:f<f'):Lph (r,f) (r,f'):=bk _ h
def Pj (tz:av Toy Ψ0)(DZ:av Toy Ψ2)(h:MI P SB BB lets Gn ty Wg Dead Toy Kp Ψ0 Ψ2 fA fW wl Pr T Fn j0 pre j gs W t D M O L ts rr st sm tag d0 rk fu x a)(hrun:a.status=.running)(hp:pre.2.1≠9/\pre.2.1≠3/\pre.2.1≠4) :
  MP P SB BB lets Gn ty Wg Dead Toy Kp Ψ0 Ψ2 Pr T Fn j0 (crowd gs W sl) t\/Stepped P SB BB lets Gn ty Wg Dead Toy Kp Ψ0 Ψ2 fA fW wl Pr T Fn j0 (pre,(bl j).map M,(rk (Vc j D),fu)) gs W sl t:=by
 have Cx:=h.mode;have DX:=h.wi.wg;have Le:=h.bd;have hV:=Vc_le j D;have U4:=h.Z1;have nr:tag≠.ret->∀u:b9,tag=.ret->Acq Wg j0 j rr (t++u):=λh _ e=>absurd e h;cases U4 with
 |free _ _ _ _=>exact absurd rfl hp.1
 |mid _=>exact absurd rfl hp.2.1
 |Kq _ _=>exact absurd rfl hp.2.2
 |ZX hk hr =>
  rcases Goes.cases hk with CQ|⟨m',rfl,hstep⟩
  .obtain⟨_,a',hgo,m₂,E5⟩:=CQ W (RL.refl W);exact .inr (h.book tz DZ hgo (.refl Wg W) DX WJ (.ZY E5 hr) (Cx.reopen trivial trivial rfl (by simp)) (by simp) (yL _) (.inl (MQ (by omega))))
  .obtain⟨a',w',es,hgo,⟨rfl,rfl⟩,EE⟩:=hstep W (RL.refl W);exact .inr (h.book tz DZ hgo (.refl Wg w') DX Fa (.ZX EE hr) Cx (by simp) (yL _) (.inl (fP (by omega))))
 |ZY hk hr =>
  rcases Goes.cases hk with CQ|⟨m',rfl,hstep⟩
  .obtain⟨_,hall⟩:=CQ W (RL.refl W);obtain⟨ho,rfl,rfl,_⟩:=Cx.open_inv trivial;obtain⟨a',hgo,h0,h1⟩:=hall (Vc j D) (by omega) (by simpa [pend] using DX);have hm:b6 j D (.sp 0 3) ((((Vc j D:Nat):Int)+1)*KK) 0:=by
    have e:(((Vc j D:Nat):Int)+1)*KK=((Vc j D+pend (.sp 0 3):Nat):Int)*KK:=by simp[pend]
    rw[e];exact .opn trivial ho (by simp)
   by_cases hv:Vc j D=0
   .obtain⟨m₂,E5⟩:=h0 hv;exact .inr (h.book tz DZ hgo (bW W (stA Wg) _) (DX.setSt _) Yc (.arr E5 hr) hm (by simp) (yL _) (.inl (MQ (by omega))))
   .obtain⟨m₂,E5⟩:=h1 hv;exact .inr (h.book tz DZ hgo (bW W (stA Wg) _) (DX.setSt _) Yc (.Ya E5 hr) hm (by simp) (yL _) (.inl (MQ (by omega))))
  .obtain⟨a',w',es,hgo,⟨rfl,rfl⟩,EE⟩:=hstep W (RL.refl W);exact .inr (h.book tz DZ hgo (.refl Wg w') DX Fa (.ZY EE hr) Cx (by simp) (yL _) (.inl (fP (by omega))))
 |arr hk hr =>
  rcases Goes.cases hk with CQ|⟨m',rfl,hstep⟩
  .obtain⟨_,a',hgo,m₂,E5⟩:=CQ W (RL.refl W);exact .inr (h.book tz DZ hgo (.refl Wg W) DX ms.1 (.Ya E5 hr) (Cx.reopen trivial trivial rfl (by simp)) (by simp) (yL _) (.inl (MQ (by omega))))
  .obtain⟨a',w',es,hgo,⟨rfl,rfl⟩,EE⟩:=hstep W (RL.refl W);exact .inr (h.book tz DZ hgo (.refl Wg w') DX Fa (.arr EE hr) Cx (by simp) (yL _) (.inl (fP (by omega))))
 |Ya hk hr =>
  rcases Goes.cases hk with CQ|⟨m',rfl,hstep⟩
  .obtain⟨_,a',hgo,m₂,E5⟩:=CQ W (RL.refl W);exact .inr (h.book tz DZ hgo (.refl Wg W) DX abt (.Kq E5 hr) (Cx.reopen trivial trivial rfl (by simp)) (by simp) (yL _) (.inl (MQ (by omega))))
  .obtain⟨a',w',es,hgo,⟨rfl,rfl⟩,EE⟩:=hstep W (RL.refl W);exact .inr (h.book tz DZ hgo (.refl Wg w') DX Fa (.Ya EE hr) Cx (by simp) (yL _) (.inl (fP (by omega))))
 |ZZ hk hf hA =>
  rcases Goes.cases hk with CQ|⟨m',rfl,hstep⟩
  .obtain⟨_,a',hgo,m₂,E5⟩:=CQ W (RL.refl W);exact .inr (h.book tz DZ hgo (.refl Wg W) DX WJ (.anch E5 hf hA) (Cx.reopen trivial trivial rfl (by simp)) (by simp) (yL _) (.inr ⟨rfl,Fh (by omega)⟩))
  .obtain⟨a',w',es,hgo,⟨rfl,rfl⟩,EE⟩:=hstep W (RL.refl W);exact .inr (h.book tz DZ hgo (.refl Wg w') DX Fa (.ZZ EE hf hA) Cx (by simp) (yL _) (.inr ⟨rfl,cx (by omega)⟩))
 |anch hk hf hA =>
  rcases Goes.cases hk with CQ|⟨m',rfl,hstep⟩
  .obtain⟨_,m₂,hk2⟩:=hA a W (CQ W (RL.refl W));rcases Goes.cases hk2 with CQ|⟨m',rfl,hstep⟩
   .obtain⟨_,hall⟩:=CQ W (RL.refl W);obtain⟨ho,rfl,rfl,_⟩:=Cx.open_inv trivial;obtain⟨a',hgo,h0,h1⟩:=hall (Vc j D) (by omega) (by simpa [pend] using DX);by_cases hv:Vc j D=0
    .obtain⟨m₂,E5⟩:=h0 hv;refine .inr (h.book tz DZ hgo (.refl Wg W) DX P7 (tag':=.ke) (.WE E5 hf) ?_ (by simp) (yL _) (.inr ⟨rfl,Fh (by omega)⟩));have e:((Vc j D+pend .anch:Nat):Int)*KK=0:=by rw[hv];simp[pend]
     rw[e];exact .fin trivial (allQuit_of ho hv)
    .obtain⟨m₂,E5⟩:=h1 hv;exact .inr (h.book tz DZ hgo (.refl Wg W) DX P7 (tag':=.w2 (Vc j D)) (.w2 E5 hf hA) (Cx.reopen trivial trivial rfl (λvs e=>by cases e;omega)) (by simp) (yL _) (.inr ⟨rfl,Fh (by omega)⟩))
   .obtain⟨a',w',es,hgo,⟨rfl,rfl⟩,EE⟩:=hstep W (RL.refl W);exact .inr (h.book tz DZ hgo (.refl Wg w') DX Fa (.w1 EE hf hA) (Cx.reopen trivial trivial rfl (by simp)) (by simp) (yL _) (.inr ⟨rfl,Fh (by omega)⟩))
  .obtain⟨a',w',es,hgo,⟨rfl,rfl⟩,EE⟩:=hstep W (RL.refl W);exact .inr (h.book tz DZ hgo (.refl Wg w') DX Fa (.anch EE hf hA) Cx (by simp) (yL _) (.inr ⟨rfl,cx (by omega)⟩))
 |w1 hk hf hA =>
  rcases Goes.cases hk with CQ|⟨m',rfl,hstep⟩
  .obtain⟨_,hall⟩:=CQ W (RL.refl W);obtain⟨ho,rfl,rfl,_⟩:=Cx.open_inv trivial;obtain⟨a',hgo,h0,h1⟩:=hall (Vc j D) (by omega) (by simpa [pend] using DX);by_cases hv:Vc j D=0
   .obtain⟨m₂,E5⟩:=h0 hv;refine .inr (h.book tz DZ hgo (.refl Wg W) DX P7 (tag':=.ke) (.WE E5 hf) ?_ (by simp) (yL _) (.inr ⟨rfl,Fh (by omega)⟩));have e:((Vc j D+pend .w1:Nat):Int)*KK=0:=by rw[hv];simp[pend]
    rw[e];exact .fin trivial (allQuit_of ho hv)
   .obtain⟨m₂,E5⟩:=h1 hv;exact .inr (h.book tz DZ hgo (.refl Wg W) DX P7 (tag':=.w2 (Vc j D)) (.w2 E5 hf hA) (Cx.reopen trivial trivial rfl (λvs e=>by cases e;omega)) (by simp) (yL _) (.inr ⟨rfl,Fh (by omega)⟩))
  .obtain⟨a',w',es,hgo,⟨rfl,rfl⟩,EE⟩:=hstep W (RL.refl W);exact .inr (h.book tz DZ hgo (.refl Wg w') DX Fa (.w1 EE hf hA) Cx (by simp) (yL _) (.inr ⟨rfl,cx (by omega)⟩))
 |w2 hk hf hA =>
  rename_i k vs gR Fy;rcases Goes.cases hk with CQ|⟨m',rfl,hstep⟩
  .obtain⟨_,hall⟩:=CQ W (RL.refl W);obtain⟨ho,rfl,rfl,hw2⟩:=Cx.open_inv trivial;obtain⟨hle,h1⟩:=hw2 vs rfl;obtain⟨agr,abv⟩:=hall (Vc j D) (by omega) (by simpa [pend] using DX);by_cases e:Vc j D=vs
   .obtain⟨a',hgo,m₂,E5⟩:=agr e;exact .inr (h.book tz DZ hgo (bW W (stA Wg) _) (DX.setSt _) Yc (.Z0 E5 hf) (.reg trivial ho (by omega)) (by simp) (yL _) (.inr ⟨rfl,Fh (by omega)⟩))
   .obtain⟨a',hgo,m₂,E5⟩:=abv e;exact .inr (h.book tz DZ hgo (.refl Wg W) DX P7 (.anch E5 hf hA) (Cx.reopen trivial trivial rfl (by simp)) (by simp) (yL _) (.inr ⟨rfl,Fh (by omega)⟩))
  .obtain⟨a',w',es,hgo,⟨rfl,rfl⟩,EE⟩:=hstep W (RL.refl W);exact .inr (h.book tz DZ hgo (.refl Wg w') DX Fa (.w2 EE hf hA) Cx (by simp) (yL _) (.inr ⟨rfl,cx (by omega)⟩))
 |Z0 hk hf =>
  rcases Goes.cases hk with CQ|⟨m',rfl,hstep⟩
  .obtain⟨_,a',hgo,m₂,E5⟩:=CQ W (RL.refl W);exact .inr (h.book tz DZ hgo (.refl Wg W) DX ms.2.1 (.w3 E5 hf) Cx (by simp) (yL _) (.inr ⟨rfl,Fh (by omega)⟩))
  .obtain⟨a',w',es,hgo,⟨rfl,rfl⟩,EE⟩:=hstep W (RL.refl W);exact .inr (h.book tz DZ hgo (.refl Wg w') DX Fa (.Z0 EE hf) Cx (by simp) (yL _) (.inr ⟨rfl,cx (by omega)⟩))
 |w3 hk hf =>
  rcases Goes.cases hk with CQ|⟨m',rfl,hstep⟩
  .obtain⟨_,Fv,hblk,RN⟩:=CQ W (RL.refl W);cases Cx with
   |opn h1 _ _=>exact h1.elim
   |reg h1 h2 h3=>exact .inr (h.book tz DZ (hblk ⟨_,DX⟩) (.refl Wg W) DX Fa (.blk CQ hf) (.reg trivial h2 h3) (by simp) (yL _) (.inr ⟨rfl,cx (by omega)⟩))
   |last Lx h1 h2 h3 h4=>exact .inr (h.book tz DZ (hblk ⟨_,DX⟩) (.refl Wg W) DX Fa (.blk CQ hf) (.last Lx trivial h2 h3 h4) (by simp) (yL _) (.inr ⟨rfl,cx (by omega)⟩))
   |sema h2 =>
    obtain⟨a',hgo,m₂,E5⟩:=RN DX
    refine .inr (h.book tz DZ hgo (bW W (smA Wg) _) (DX.setSm 0) abu (tag':=.w4) (by
     have:b7 1 (dr (smA Wg))=1:=by simp[b7,dr]
     rw[this];exact .w4 E5 hf) (.fin trivial h2) (by simp) (yL _) (.inr ⟨rfl,Fh (by omega)⟩))
   |fin h1 _=>exact h1.elim
  .obtain⟨a',w',es,hgo,⟨rfl,rfl⟩,EE⟩:=hstep W (RL.refl W);exact .inr (h.book tz DZ hgo (.refl Wg w') DX Fa (.w3 EE hf) Cx (by simp) (yL _) (.inr ⟨rfl,cx (by omega)⟩))
 |blk _ _=>simp at hrun
 |w4 hk hf =>
  rcases Goes.cases hk with CQ|⟨m',rfl,hstep⟩
  .obtain⟨_,hx⟩:=CQ W (RL.refl W);obtain⟨hq,rfl,rfl⟩:=Cx.fin_inv trivial;obtain⟨a',hgo,m₂,E5⟩:=hx DX;exact .inr (h.book tz DZ hgo (.refl Wg W) DX P7 (.WE E5 hf) (.fin trivial hq) (by simp) (yL _) (.inr ⟨rfl,Fh (by omega)⟩))
  .obtain⟨a',w',es,hgo,⟨rfl,rfl⟩,EE⟩:=hstep W (RL.refl W);exact .inr (h.book tz DZ hgo (.refl Wg w') DX Fa (.w4 EE hf) Cx (by simp) (yL _) (.inr ⟨rfl,cx (by omega)⟩))
 |WE hk hf =>
  rcases Goes.cases hk with CQ|⟨m',rfl,hstep⟩
  .obtain⟨_,a',hgo,m₂,E5⟩:=CQ W (RL.refl W);obtain⟨hq,rfl,rfl⟩:=Cx.fin_inv trivial;exact .inr (h.book tz DZ hgo (.refl Wg W) DX abt (.P5 E5 hf) (.fin trivial hq) (by simp) (yL _) (.inr ⟨rfl,Fh (by omega)⟩))
  .obtain⟨a',w',es,hgo,⟨rfl,rfl⟩,EE⟩:=hstep W (RL.refl W);exact .inr (h.book tz DZ hgo (.refl Wg w') DX Fa (.WE EE hf) Cx (by simp) (yL _) (.inr ⟨rfl,cx (by omega)⟩))
 |P5 hk hf =>
  rcases Goes.cases hk with CQ|⟨m',rfl,hstep⟩
  .obtain⟨_,a',hgo,m₂,E5⟩:=CQ W (RL.refl W);obtain⟨hq,rfl,rfl⟩:=Cx.fin_inv trivial;refine .inr (h.book tz DZ hgo (.refl Wg W) DX ms.2.2 (.fin E5 hf) (.fin trivial hq) (λ_=>?_) (yL _) (.inr ⟨rfl,Fh (by omega)⟩));have e1:bD 0 a.frame.fn a.frame.place #[mk (.acquire (stA Wg))]=#[{ g:=0,fn:=a.frame.fn,pos:=a.frame.place,act:=.mark (.acquire (stA Wg)) }]:=by rw[ofEvents_eq];simp[ofEvent_mk]
   have hy:(t++#[({ g:=0,fn:=a.frame.fn,pos:=a.frame.place,act:=.mark (.acquire (stA Wg)) }:MemOp)])[t.size]?=bq { g:=0,fn:=a.frame.fn,pos:=a.frame.place,act:=.mark (.acquire (stA Wg)) }:=by simp
   refine⟨t.size,by rw[e1,act?_of hy],by rw[e1];simp[Trace.g?],by rw[e1];exact⟨0,by simp[Trace.g?],by rw[deaf_old (yL _)];exact h.deaf⟩,λi h0 hi=>?_⟩;exact lt_of_act? (h.wi.rel i h0 hi (by rw[hq i hi];omega)).act
  .obtain⟨a',w',es,hgo,⟨rfl,rfl⟩,EE⟩:=hstep W (RL.refl W);exact .inr (h.book tz DZ hgo (.refl Wg w') DX Fa (.P5 EE hf) Cx (by simp) (yL _) (.inr ⟨rfl,cx (by omega)⟩))
 |fin hk hf =>
  obtain⟨hq,rfl,rfl⟩:=Cx.fin_inv trivial;rcases Goes.cases hk with CQ|⟨m',rfl,hstep⟩
  .have e:=CQ W (RL.refl W);subst e;exact .inl ⟨j,gs,W,sl,D,M,O,L,ts,rr,0,0,x,a,rfl,h.wi,hf,h.L0,h.a0,h.deaf,hq,h.acq rfl,by have:=h.bd;omega⟩
  .obtain⟨a',w',es,hgo,⟨rfl,rfl⟩,EE⟩:=hstep W (RL.refl W);exact .inr (h.book tz DZ hgo (.refl Wg w') DX Fa (.fin EE hf) Cx (λ_=>(h.acq rfl).app) (yL _) (.inr ⟨rfl,cx (by omega)⟩))
end
open Go.ConcR (KK WgAt stA smA rd wr mk DC0 Bk g_of_ofEvents bk_of_mute ofEvent_loc_mark ofEvent_cell ofEvent_mk)
section
variable {P:CL} {SB BB:bw->Bool} {lets:Bool} {Gn:Nat} {ty Wg:Nat} {Dead Toy:Nat->Prop} {Kp:Gm} {Ψ0 Ψ2:bn->Prop} {fA fW:bw} {wl:Nat} {Pr:Cm} {T:List b8} {Fn:Bool->Hid->a8->bn->Prop}
 {j0 j:Nat} {gs:Array a8} {W W':bn} {t:b9} {D:Nat->WD} {M:Nat->Wm} {O:Nat->Bool} {L:Nat->Option Lone} {ts ts':TS} {rr:Nat->Nat} {st sm Io Jl:Int} {a a':a8}
 {tag tag':CTag} {d0:Nat} {pre pre':Pre} {rk Ot:Nat->Nat} {fu Ou:Nat} {x:Lone} {sl:Option (Nat×Nat)}
def WI.abw (h:WI P SB BB lets Gn ty Wg Dead Toy Kp Ψ0 Ψ2 j0 j gs W t D M O L ts rr st sm):ts.own≠bq 0:=λe=>by
 cases ts with
 |at_ k =>
  obtain⟨i,_,e1,_⟩:=h.LS k rfl;simp only[TS.own,Option.some.injEq] at e;omega
 |_=>cases e
def WI.reg (h:WI P SB BB lets Gn ty Wg Dead Toy Kp Ψ0 Ψ2 j0 j gs W t D M O L ts rr st sm)(hL:L 0=bq x)(g':a8):WI P SB BB lets Gn ty Wg Dead Toy Kp Ψ0 Ψ2 j0 j gs W t D M O (put L 0 (bq { x with g:=g' })) ts rr st sm:=by
 have get:∀ {b y},put L 0 (bq { x with g:=g' }) b=bq y->∃z,L b=bq z/\y.w=z.w/\y.H=z.H/\y.β=z.β:=λ{b y} e=>by
  by_cases e':b=0
  .subst e';rw[Cu] at e;cases e;exact⟨x,hL,rfl,rfl,rfl⟩
  .rw[CJ L _ e'] at e;exact⟨y,e,rfl,rfl,rfl⟩
 have c:=h.cw;refine⟨h.size,λi hi=>?_,⟨λb y hy=>?_,λb y hy=>?_,λb y hy=>?_,λb y hy=>?_,λb y hy=>?_,λb k y z hne hy hz=>?_,c.low,c.Ih,c.keep,λb y hy=>?_,c.MH,c.Rx⟩,h.tr.Oj (λk l=>?_) (λk l=>?_),h.low,h.deafW,h.rel,h.wg,h.Ko,h.LS,h.FE,λi hi=>?_,h.old,h.jj⟩
 .rw[CJ L _ (by omega)];exact h.wk i hi
 .obtain⟨z,h1,h2,h3,h4⟩:=get hy;have:=c.like b z h1;unfold E2 at this ⊢;rw[h2,h3,h4];exact this
 .obtain⟨z,h1,h2,h3,h4⟩:=get hy;rw[h3];exact c.C8 b z h1
 .obtain⟨z,h1,h2,h3,h4⟩:=get hy;rw[h3,h4];exact c.Pg b z h1
 .obtain⟨z,h1,h2,h3,h4⟩:=get hy;rw[h4];exact c.dead b z h1
 .obtain⟨z,h1,h2,h3,h4⟩:=get hy;rw[h3,h4];exact c.Ig b z h1
 .obtain⟨y',h1,h2,h3,h4⟩:=get hy;obtain⟨z',k1,k2,k3,k4⟩:=get hz;rw[h2,h3,h4,k2,k3,k4];exact c.sep b k y' z' hne h1 k1
 .obtain⟨z,h1,h2,h3,h4⟩:=get hy;rw[h2,h3,h4];exact c.D7 b z h1
 .rintro(⟨y,hy,hw⟩|hw)
  .obtain⟨z,h1,h2,h3,h4⟩:=get hy;refine .inl ⟨z,h1,?_⟩;unfold U0 at hw ⊢;rw[h2,h3,h4] at hw;exact hw
  .exact .inr hw
 .rintro(⟨y,hy,hw⟩|hw)
  .obtain⟨z,h1,h2,h3,h4⟩:=get hy;refine .inl ⟨z,h1,?_⟩;unfold U1 at hw ⊢;rw[h3,h4] at hw;exact hw
  .exact .inr hw
 .rw[CJ L _ (by omega)];exact h.out i hi
def mt (lib:∀H,Lib P SB H lets BB Gn)(tz:av Toy Ψ0)(DZ:av Toy Ψ2){k q:Nat}{Q:a8->bn->Prop}
  (h:MI P SB BB lets Gn ty Wg Dead Toy Kp Ψ0 Ψ2 fA fW wl Pr T Fn j0 (k,q,.tree Q (x.g,x.w)) j gs W t D M O L ts rr st sm tag 0 rk fu x a) (hne:tag≠.ret) (hr:Ch P.a (Dk P.a BB) Q x.g x.w) (hq:¬Q x.g x.w) (hg:Dv P SB BB lets x a) (Gb:Pr.le x.β) (hT:x.T=T)
  (mkS:∀(x':Lone) (G:a8) (W:bn),x'.H=x.H->x'.T=T->Pr.le x'.β->Ch P.a (Dk P.a BB) Q x'.g x'.w->Dv P SB BB lets x' G->EG P SB BB lets Gn ty Wg Toy Ψ0 Ψ2 fA fW wl Pr T Fn tag 0 (k,q,.tree Q (x'.g,x'.w)) rk fu x' ts.tp G W) :
  Stepped P SB BB lets Gn ty Wg Dead Toy Kp Ψ0 Ψ2 fA fW wl Pr T Fn j0 ((k,q,.tree Q (x.g,x.w)),(bl j).map M,(rk (Vc j D),fu)) gs W sl t:=by
 obtain⟨g',w',es,B8,g2,W',ES,e1,e2,e3,e4,e5⟩:=Ct.follow (lib x.H) (main2:=bA) hr hq hg (h.wi.cw.like _ x h.L0);have f:F9 P SB lets Gn x W B8 w' W' ES.toList:=e5;have H2:=h.wi.cw.C8 _ x h.L0;have JE:=cL f H2;rw[show ES.toList.toArray=ES by simp] at JE;have hdf:b7 0 ES=0:=deafBehind_idle (λe he=>⟨(JE e he).1,(JE e he).2.1⟩) 0
 refine⟨_,_,((k,q,.tree Q (g',w')),(bl j).map M,(rk (Vc j D),fu)),cf (P:=P.b) (sl:=sl) (i:=0) h.a0 (by simpa using e3),bh _ _ (bk _ (bk _ ⟨.tree hq ⟨W.tape,W.drawn,es,e1,e4.callers.ne⟩,Bu (C1.of hr)⟩)),
  j,_,W',sl,D,M,O,_,ts,rr,st,sm,tag,0,rk,fu,⟨g',w',x.H,B8,x.T⟩,g2,rfl,⟨h.wi.abo tz DZ h.L0 f g',mkS ⟨g',w',x.H,B8,x.T⟩ g2 W' rfl hT (Cm.le_trans Gb e5.le) e2 e4,Cu L _ _,dn _ _ _ (by rw[h.wi.size];omega),by rw[Deaf_own,h.deaf];exact hdf,h.mode,λe=>absurd e hne,h.bd⟩,rfl⟩
def Pm (lib:∀H,Lib P SB H lets BB Gn)(tz:av Toy Ψ0)(DZ:av Toy Ψ2){k:Nat}
  (h:MI P SB BB lets Gn ty Wg Dead Toy Kp Ψ0 Ψ2 fA fW wl Pr T Fn j0 (k+1,3,.tree (GoQ P SB BB lets Gn ty Wg Toy Ψ0 Ψ2 fA fW wl Pr T Fn k ts.tp x.H) (x.g,x.w)) j gs W t D M O L ts rr st sm (.sp 0 2) 0 rk fu x a) (hr:Rest P SB BB lets Gn ty Wg Toy Ψ0 Ψ2 fA fW wl Pr T Fn k x ts.tp a) (Mk:rk=λ_=>0) (hfu:fu=0) :
  Stepped P SB BB lets Gn ty Wg Dead Toy Kp Ψ0 Ψ2 fA fW wl Pr T Fn j0 ((k+1,3,.tree (GoQ P SB BB lets Gn ty Wg Toy Ψ0 Ψ2 fA fW wl Pr T Fn k ts.tp x.H) (x.g,x.w)),(bl j).map M,(rk (Vc j D),fu)) gs W sl t:=by
 subst Mk hfu;by_cases hq:GoQ P SB BB lets Gn ty Wg Toy Ψ0 Ψ2 fA fW wl Pr T Fn k ts.tp x.H x.g x.w
 .obtain⟨G',child,x',xk,Oq,o,Uz,Q,hgo,hsp,hT',ags,hS,hQ,Mk⟩:=hq x a W rfl ⟨rfl,rfl,rfl⟩ rfl hr.t hr.wl hr.gl (h.wi.cw.like 0 x h.L0) (λe=>h.wi.FE.1 (by cases ts<;>first|rfl|cases e)) (h.wi.cw.Ig 0 x h.L0 h.wi.abw) (h.wi.cw.Pg 0 x h.L0) (h.wi.cw.C8 0 x h.L0);have hrun:=runT_crowd_spawn (P:=P.b) (sl:=sl) (i:=0) h.a0 (by simpa using hgo);rw[h.wi.size] at hrun;have e0:∀(p q:MemOp),((bD 0 a.frame.fn a.frame.place #[]).push p).push q=#[p,q]:=λp q=>by rw[ofEvents_eq];simp
  rw[e0] at hrun;obtain⟨hw,PT⟩:=h.wi.spawn h.L0 hsp hQ Mk.1 Mk.2 h.deaf (p:={ g:=0,fn:=a.frame.fn,pos:=a.frame.place,act:=.go (j+1) }) (q:={ g:=j+1,fn:=child.frame.fn,pos:=a.frame.place,act:=.start }) ⟨rfl,rfl⟩ ⟨rfl,rfl⟩;obtain⟨ho,hst,hsm,_⟩:=h.mode.open_inv trivial;have eV:Vc (j+1) (upd D j ⟨7,0,0⟩)=Vc j D+1:=by
   simp only[Vc,sumTo,upd_same];rw[sumTo_upd_out D _ cnt (yL _)];rfl
  have hm:b6 (j+1) (upd D j ⟨7,0,0⟩) (.sp 0 5) st sm:=by
   have e:st=((Vc (j+1) (upd D j ⟨7,0,0⟩)+pend (.sp 0 5):Nat):Int)*KK:=by rw[hst,eV];simp[pend]
   rw[e,hsm];refine .opn trivial (λi hi=>?_) (by simp);by_cases e:i=j
   .subst e;rw[upd_same];simp
   .rw[upd_ne D _ e];exact ho i (by omega)
  have Le:=h.bd
  refine⟨_,_,((k,9,.tree (J2 P SB BB lets Gn ty Wg Toy Ψ0 Ψ2 fA fW wl Pr T Fn k Oq x'.H) (x'.g,x'.w)),(bl (j+1)).map (upd M j (.born Q (xk.g,xk.w))),(0,0)),hrun,bh _ _ (bh _ _ (Nat.lt_succ_self k)),
   j+1,_,W,sl,_,_,_,_,_,rr,st,sm,.sp 0 5,0,λ_=>0,0,x',G',rfl,⟨hw,by rw[PT];exact .free hS ags hT' hsp.gl,by rw[CJ _ _ (by omega)];exact Cu L _ _,?_,?_,hm,λe=>by simp at e,by simp only at Le ⊢;omega⟩,rfl⟩
  .rw[Array.getElem?_push_lt (by simp[h.wi.size]),<-yS];simp[h.wi.size]
  .rw[Deaf_still t 0 _ (λop hop=>?_),h.deaf];simp only[z8,yT,yQ,or_false] at hop;rcases hop with rfl|rfl<;>exact⟨by simp,by simp⟩
 .exact mt lib tz DZ h (by simp) hr.run hq hr.gl hr.wl hr.t fun x' G W e1 e2 e3 e4 e5 => by
   have hR:Rest P SB BB lets Gn ty Wg Toy Ψ0 Ψ2 fA fW wl Pr T Fn k x' ts.tp G:=⟨by rw[e1];exact e4,e3,e2,e5⟩;have:=EG.mid (W:=W) hR;rw[e1] at this;exact this
def step0 (K3:Pr wl Wg)(lib:∀H,Lib P SB H lets BB Gn)(tz:av Toy Ψ0)(DZ:av Toy Ψ2)(hA:Ph P SB BB lets Gn ty Wg fA wl T)(hW:jP P SB BB lets Gn ty Wg fW wl T)
  (h:MI P SB BB lets Gn ty Wg Dead Toy Kp Ψ0 Ψ2 fA fW wl Pr T Fn j0 pre j gs W t D M O L ts rr st sm tag d0 rk fu x a) (hrun:a.status=.running) :
  MP P SB BB lets Gn ty Wg Dead Toy Kp Ψ0 Ψ2 Pr T Fn j0 (crowd gs W sl) t\/Stepped P SB BB lets Gn ty Wg Dead Toy Kp Ψ0 Ψ2 fA fW wl Pr T Fn j0 (pre,(bl j).map M,(rk (Vc j D),fu)) gs W sl t:=by
 by_cases h3:pre.2.1≠9/\pre.2.1≠3/\pre.2.1≠4
 .exact Pj tz DZ h hrun h3
 have U4:=h.Z1;have go : ∀ {tag' : CTag} {d1 : Nat} {k q q' : Nat} {w1 w : Wm} {Ot : Nat -> Nat} {Ou : Nat} {g' : a8}, q < q' -> q ≠ 9 ∧ q ≠ 3 ∧ q ≠ 4 -> pre = (k, q', w) -> b6 j D tag' st sm -> tag' ≠ .ret -> Deaf t 0 = d1 ->
   EG P SB BB lets Gn ty Wg Toy Ψ0 Ψ2 fA fW wl Pr T Fn tag' d1 (k,q,w1) Ot Ou { x with g:=g' } ts.tp a W->MP P SB BB lets Gn ty Wg Dead Toy Kp Ψ0 Ψ2 Pr T Fn j0 (crowd gs W sl) t\/Stepped P SB BB lets Gn ty Wg Dead Toy Kp Ψ0 Ψ2 fA fW wl Pr T Fn j0 (pre,(bl j).map M,(rk (Vc j D),fu)) gs W sl t:=by
  intro tag' d1 k q q' w1 w Ot Ou g' hq hq' EC hm hne hd hs;have Le:=h.bd;subst EC;have h':MI P SB BB lets Gn ty Wg Dead Toy Kp Ψ0 Ψ2 fA fW wl Pr T Fn j0 (k,q,w1) j gs W t D M O (put L 0 (bq { x with g:=g' })) ts rr st sm tag' d1 Ot Ou { x with g:=g' } a :=
   ⟨h.wi.reg h.L0 g',hs,Cu L _ _,h.a0,hd,hm,λe=>absurd e hne,Le⟩
  rcases Pj (sl:=sl) tz DZ h' hrun hq' with hf|⟨m',ops,LW,k1,k2,k3⟩
  .exact .inl hf
  .exact .inr ⟨m',ops,LW,k1,BJ hq k2,k3⟩
 have wait:∀ {k:Nat} {w:Wm},pre=(k,9,w)->tag=.sp 0 5->d0=0->ic P fW wl Fn ts.tp x.H x.g x.w->Pr.le x.β->x.T=T->Dv P SB BB lets x a->MP P SB BB lets Gn ty Wg Dead Toy Kp Ψ0 Ψ2 Pr T Fn j0 (crowd gs W sl) t\/Stepped P SB BB lets Gn ty Wg Dead Toy Kp Ψ0 Ψ2 fA fW wl Pr T Fn j0 (pre,(bl j).map M,(rk (Vc j D),fu)) gs W sl t:=by
  rintro k w EC ht hd ⟨fr,cs,e,Jj,hfn⟩ Gb hT hg;obtain⟨gR,m,Fy,k1,k2,k3⟩:=hW x a W fr cs e Jj hT (Gb _ _ K3) hg (h.wi.cw.like 0 x h.L0) h.wi.live;refine go (q:=2) (g':=back fr cs) (by omega) (by omega) EC (by have:=h.mode;rw[ht] at this;exact this.reopen (tag':=.kd) trivial trivial rfl (by simp)) (by simp) (h.deaf.trans hd) (.ZZ k1 ?_ k2);exact⟨hfn,Gb,hT,k3⟩
 generalize EC:pre=pre0 at U4;cases U4 with
 |@free k _ _ _ _ hr Gb hT hg =>
  by_cases hq:J2 P SB BB lets Gn ty Wg Toy Ψ0 Ψ2 fA fW wl Pr T Fn k ts.tp x.H x.g x.w
  .cases k with
   |zero=>rw[<-EC];exact wait EC rfl rfl hq Gb hT hg
   |succ k =>
    rw[<-EC];rcases hq with hq|⟨fr,cs,e,Jj,Rg⟩
    .exact wait EC rfl rfl hq Gb hT hg
    .obtain⟨gR,m,k1,k2⟩:=hA x a W fr cs e Jj hT (Gb _ _ K3) hg (h.wi.cw.like 0 x h.L0) h.wi.live;exact go (q:=8) (g':=back fr cs) (by omega) (by omega) EC h.mode (by simp) h.deaf (.ZX k1 ⟨Rg,Gb,hT,k2⟩)
  .rw[EC] at h
   exact .inr (mt lib tz DZ h (by simp) hr hq hg Gb hT λx' G W e1 e2 e3 e4 e5=>by
    have:=EG.free (P:=P) (SB:=SB) (BB:=BB) (lets:=lets) (Gn:=Gn) (ty:=ty) (Wg:=Wg) (Toy:=Toy) (Ψ0:=Ψ0) (Ψ2:=Ψ2) (fA:=fA) (fW:=fW) (wl:=wl) (Pr:=Pr) (T:=T) (Fn:=Fn) (k:=k) (x:=x') (tp:=ts.tp) (W:=W) (by rw[e1];exact e4) e3 e2 e5;rw[e1] at this
    exact this)
 |mid hr=>rw[EC] at h;exact .inr (Pm lib tz DZ h hr rfl rfl)
 |Kq hk hr =>
  rcases Goes.cases hk with CQ|⟨m',rfl,hstep⟩
  .have e:=CQ W (RL.refl W);subst e;have Le:=h.bd;rw[EC] at h Le;have h':=MI.mk (Fn:=Fn) (fA:=fA) (fW:=fW) (wl:=wl) (Pr:=Pr) (T:=T) h.wi (.mid hr) h.L0 h.a0 h.deaf h.mode (λe=>by simp at e) Le;obtain⟨m',ops,LW,k1,k2,k3⟩:=Pm (sl:=sl) lib tz DZ h' hr rfl rfl;exact .inr ⟨m',ops,LW,k1,BJ (by omega) k2,k3⟩
  .obtain⟨a',w',es,hgo,⟨rfl,rfl⟩,EE⟩:=hstep W (RL.refl W);rw[EC] at h;exact .inr (h.book tz DZ hgo (.refl Wg w') h.wi.wg Fa (.Kq EE hr) h.mode (by simp) (yL _) (.inl (fP (by omega))))
 |_ =>
  subst EC;exact absurd ⟨by simp,by simp,by simp⟩ h3
end
open Go.ConcR (KK WgAt stA smA rd wr mk DC0 Bk g_of_ofEvents bk_of_mute ofEvent_loc_mark ofEvent_cell ofEvent_mk)
section
variable {P:CL} {SB BB:bw->Bool} {lets:Bool} {Gn:Nat} {ty Wg:Nat} {Dead Toy:Nat->Prop} {Kp:Gm} {Ψ0 Ψ2:bn->Prop} {fA fW:bw} {wl:Nat} {Pr:Cm} {T:List b8} {Fn:Bool->Hid->a8->bn->Prop}
 {j0 j:Nat} {gs:Array a8} {W W':bn} {t:b9} {D:Nat->WD} {M:Nat->Wm} {O:Nat->Bool} {L:Nat->Option Lone} {ts ts':TS} {rr:Nat->Nat} {st sm Io Jl:Int} {a a':a8}
 {tag tag':CTag} {d0:Nat} {pre pre':Pre} {rk Ot:Nat->Nat} {fu Ou:Nat} {x:Lone} {sl:Option (Nat×Nat)}
def E7.leaving {s d:Nat}{m:Wm}{x:Option Lone}{o:Bool}{g:a8}(h:E7 P SB BB lets Gn ty Wg Ψ2 s d m x o g W)(hs:s=1):(∃q,ed P.b q d g)/\o=false:=by
 cases h<;>first|(exact absurd hs (by decide))|(exact⟨⟨_,‹_›⟩,rfl⟩)
def WI.at (h:WI P SB BB lets Gn ty Wg Dead Toy Kp Ψ0 Ψ2 j0 j gs W t D M O L ts rr st sm)(tz:av Toy Ψ0)(DZ:av Toy Ψ2)(d:Nat):WI P SB BB lets Gn ty Wg Dead Toy Kp Ψ0 Ψ2 j0 j gs (W.at d) t D M O L ts rr st sm :=
 ⟨h.size,λi hi=>let ⟨g,hg,hs⟩:=h.wk i hi;⟨g,hg,hs.rely λx=>x⟩,h.cw.at d,h.tr,h.low,h.deafW,h.rel,h.wg,h.Ko,h.LS,⟨λe=>tz W _ (λ_ _=>rfl) (h.FE.1 e),λe=>DZ W _ (λ_ _=>rfl) (h.FE.2 e)⟩,h.out,h.old,h.jj⟩
def MI.at (h:MI P SB BB lets Gn ty Wg Dead Toy Kp Ψ0 Ψ2 fA fW wl Pr T Fn j0 pre j gs W t D M O L ts rr st sm tag d0 rk fu x a)(tz:av Toy Ψ0)(DZ:av Toy Ψ2)(d:Nat):MI P SB BB lets Gn ty Wg Dead Toy Kp Ψ0 Ψ2 fA fW wl Pr T Fn j0 pre j gs (W.at d) t D M O L ts rr st sm tag d0 rk fu x a :=
 ⟨h.wi.at tz DZ d,h.Z1.rely λx=>x,h.L0,h.a0,h.deaf,h.mode,h.acq,h.bd⟩
def abx (lib:∀H,Lib P SB H lets BB Gn)(NX:∀(f:bw) (fn:Func),P.a.funcs[f]?=bq fn->fn.body.isNone=bA->P.fs[f]?=bq fn)(tz:av Toy Ψ0)(DZ:av Toy Ψ2)
  (h:MI P SB BB lets Gn ty Wg Dead Toy Kp Ψ0 Ψ2 fA fW wl Pr T Fn j0 pre j gs W t D M O L ts rr st sm tag d0 rk fu x a) {i:Nat} (hi:i<j) {g:a8} (hg:gs[i+1]?=bq g) (hrun:g.status=.running) :
  ∃m' ops LW,runT P.b (crowd gs W sl) (i+1)=(.next m',ops)/\WH P.a LW (pre,(bl j).map M,(rk (Vc j D),fu))/\P6 P SB BB lets Gn ty Wg Dead Toy Kp Ψ0 Ψ2 fA fW wl Pr T Fn j0 LW m' (t++ops):=by
 have Le:=h.bd;have hpend:pend tag<=1:=by cases tag<;>simp[pend]<;>split<;>omega
 obtain⟨g',W',es,D',M',O',L',ts',ZW,Io,Jl,k1,k2,k3,k4,k5,k6,k7,k8,PT⟩:=moved lib NX h.wi tz DZ hi hg hrun h.mode (by omega);obtain⟨tag',Ot,Ou,s1,s2,s3⟩:=h.Z1.wokenBy (W':=W') (λ_=>k2.live) g g'
 refine⟨_,_,(pre,(bl j).map M',(Ot (Vc j D'),Ou)),cf (P:=P.b) (sl:=sl) (i:=i+1) hg (by simpa using k1),?_,j,_,W',sl,D',M',O',L',ts',ZW,Io,Jl,tag',d0,Ot,Ou,x,woken P.b g g' W' a,rfl,
  ⟨k2,by rw[PT];exact s1,k6.trans h.L0,by rw[get_map_set _ _ _ _ (by omega),h.a0];rfl,by rw[Deaf_other t (by omega) _ g_of_ofEvents,h.deaf],k3 tag' s2 s3,λe=>?_,Le⟩,rfl⟩
 .refine bk _ (bh _ _ ?_);obtain⟨_,_,hs⟩:=h.wi.wk i hi;have e:(bl j).map M'=((bl j).map M).set i (M' i):=by
   apply List.ext_getElem (by simp);intro b h1 h2;simp only[dy,cq];rw[List.getElem_set];split
   .rename_i e;rw[e]
   .rename_i e;simp only[dy,cq];exact k5 b (by omega)
  rw[e];exact One.set (by simp[hi]) ⟨k4,hs.acc⟩
 .have ht : tag = .ret := by
   rcases s2 with e'|⟨_,e'⟩
   .rw[<-e'];exact e
   .rw[e'] at e;cases e
  have hm:=h.mode;rw[ht] at hm;obtain⟨hq,_,_⟩:=hm.fin_inv trivial;obtain⟨q,q1,q2,q3,q4⟩:=(h.acq ht).app (u:=bD (i+1) g.frame.fn g.frame.place es);exact⟨q,q1,q2,q3,λb hb0 RA=>by rw[(k8 b RA (by rw[hq b RA];omega)).2];exact q4 b hb0 RA⟩
def G9 {D:Nat->WD}:∀ {j:Nat},1<=Vc j D->∃i,i<j/\5<=(D i).stage
 |0,h=>by simp[Vc,sumTo] at h
 |j+1,h=>by
  by_cases hc:5<=(D j).stage
  .exact⟨j,by omega,hc⟩
  .have:1<=Vc j D:=by simp only[Vc,sumTo,cnt,if_neg hc] at h ⊢;simpa using h
   obtain⟨i,hi,h5⟩:=G9 this;exact⟨i,by omega,h5⟩
def MI.U5 (h:MI P SB BB lets Gn ty Wg Dead Toy Kp Ψ0 Ψ2 fA fW wl Pr T Fn j0 pre j gs W t D M O L ts rr st sm tag d0 rk fu x a):∃(i:Nat) (g:a8),gs[i]?=bq g/\g.status=.running:=by
 have runs:∀i,i<j->(D i).stage≠1->∃g,gs[i+1]?=bq g/\g.status=.running:=λi hi hs=>by
  obtain⟨g,hg,hk⟩:=h.wi.wk i hi;rcases hk.status with e|⟨_,e⟩
  .exact⟨g,hg,e⟩
  .exact absurd e hs
 rcases h.Z1.status with⟨hs,_⟩|⟨_,e⟩
 .exact⟨0,a,h.a0,hs⟩
 .subst e;have hm:=h.mode;cases hm with
  |opn h1 _ _=>exact h1.elim
  |reg _ _ h3 =>
   obtain⟨i,hi,h5⟩:=G9 h3;obtain⟨g,hg,hr⟩:=runs i hi (by omega);exact⟨i+1,g,hg,hr⟩
  |last Lx _ h2 h3 _ =>
   obtain⟨g,hg,hr⟩:=runs Lx h2 (by omega);exact⟨Lx+1,g,hg,hr⟩
  |fin h1 _=>exact h1.elim
def MI.awake (h:MI P SB BB lets Gn ty Wg Dead Toy Kp Ψ0 Ψ2 fA fW wl Pr T Fn j0 pre j gs W t D M O L ts rr st sm tag d0 rk fu x a):∀g∈gs,Go.Conc.awake g:=by
 intro g hg tm;obtain⟨i,hi⟩:=Array.mem_iff_getElem?.1 hg;cases i with
 |zero =>
  rw[h.a0] at hi;cases hi;rcases h.Z1.status with⟨hs,_⟩|⟨hs,_⟩<;>rw[hs]<;>simp
 |succ i =>
  have hlt:i<j:=by have:=(yK.1 hi).1;rw[h.wi.size] at this;omega
  obtain⟨g',EE,hs⟩:=h.wi.wk i hlt;rw[hi] at EE;cases EE;rcases hs.status with e|⟨e,_⟩<;>rw[e]<;>simp
def aby (K3:Pr wl Wg)(lib:∀H,Lib P SB H lets BB Gn)(NX:∀(f:bw) (fn:Func),P.a.funcs[f]?=bq fn->fn.body.isNone=bA->P.fs[f]?=bq fn)(tz:av Toy Ψ0)(DZ:av Toy Ψ2)(hA:Ph P SB BB lets Gn ty Wg fA wl T)(hW:jP P SB BB lets Gn ty Wg fW wl T):∀μ m t,P6 P SB BB lets Gn ty Wg Dead Toy Kp Ψ0 Ψ2 fA fW wl Pr T Fn j0 μ m t ->
  MP P SB BB lets Gn ty Wg Dead Toy Kp Ψ0 Ψ2 Pr T Fn j0 m t\/∃m' ops LW,stepT P.b m=(.next m',ops)/\WH P.a LW μ/\P6 P SB BB lets Gn ty Wg Dead Toy Kp Ψ0 Ψ2 fA fW wl Pr T Fn j0 LW m' (t++ops):=by
 rintro⟨pre,r⟩ m t ⟨j,gs,W,sl,D,M,O,L,ts,rr,st,sm,tag,d0,rk,fu,x,a,rfl,h,hr⟩;simp only at h hr;subst hr;obtain⟨i,g,d,sl',hg,hrun,hstep⟩:=crowd_pick (P:=P.b) (w:=W) (sl:=sl) h.awake h.U5;have h':=h.at tz DZ d;cases i with
 |zero =>
  rw[h.a0] at hg;cases hg;by_cases hf:MP P SB BB lets Gn ty Wg Dead Toy Kp Ψ0 Ψ2 Pr T Fn j0 (crowd gs W sl) t
  .exact .inl hf
  .rcases step0 (sl:=sl') K3 lib tz DZ hA hW h' hrun with hf'|⟨m',ops,LW,k1,k2,k3⟩
   .exfalso;apply hf;obtain⟨j2,Z2,W2,U6,D2,M2,O2,L2,ts2,rr2,st2,sm2,x2,a2,e,q1,q2,q3,q4,q5,q6,q7⟩:=hf';have e1:gs=Z2:=congrArg Machine.gs e;have e2:W.at d=W2:=congrArg Machine.world e;subst e1;subst e2;exact⟨j2,gs,W,sl,D2,M2,O2,L2,ts2,rr2,st2,sm2,x2,a2,rfl,q1.at tz DZ W.drawn,q2,q3,q4,q5,q6,q7⟩
   .exact .inr ⟨m',ops,LW,by rw[hstep];exact k1,k2,k3⟩
 |succ i =>
  have hi:i<j:=by have:=(yK.1 hg).1;rw[h.wi.size] at this;omega
  obtain⟨m',ops,LW,k1,k2,k3⟩:=abx (sl:=sl') lib NX tz DZ h' hi hg hrun;exact .inr ⟨m',ops,LW,by rw[hstep];exact k1,k2,k3⟩
def join (K3:Pr wl Wg)(lib:∀H,Lib P SB H lets BB Gn)(NX:∀(f:bw) (fn:Func),P.a.funcs[f]?=bq fn->fn.body.isNone=bA->P.fs[f]?=bq fn)(tz:av Toy Ψ0)(DZ:av Toy Ψ2)(hA:Ph P SB BB lets Gn ty Wg fA wl T)(hW:jP P SB BB lets Gn ty Wg fW wl T){μ:Mu}{m:c0}(h:P6 P SB BB lets Gn ty Wg Dead Toy Kp Ψ0 Ψ2 fA fW wl Pr T Fn j0 μ m t) :
  ∃N m' t',runNT P.b N m t=(.next m',t')/\MP P SB BB lets Gn ty Wg Dead Toy Kp Ψ0 Ψ2 Pr T Fn j0 m' t' :=
 jO (WH.wf P.a) _ _ (aby K3 lib NX tz DZ hA hW) μ m t h
def MR {m:c0}(h:MP P SB BB lets Gn ty Wg Dead Toy Kp Ψ0 Ψ2 Pr T Fn j0 m t) :
  ∃(gs:Array a8) (W:bn) (sl:Option (Nat×Nat)) (x:Lone) (a:a8) (tp:Bool) (q:Nat->Nat),m=crowd gs W sl/\gs[0]?=bq a/\Leavers P.b t gs q/\Past (Pf Dead Wg) W.heap.size t/\Quiet (Pf Dead Wg) t/\(∀(i:Nat) (op:MemOp),t[i]?=bq op->op.g<gs.size) /\
   Jo P SB BB lets Pr T Fn x tp a/\E2 P SB lets Gn x W/\x.H.C8=bc/\(∀b,x.β b Wg->x.H b=bA)/\(∀b B,x.β b B->¬Dead B)/\(∀b B,x.β b B->Toy B->x.H b=bA) /\
   (∀B,Kp.at_ B->W.heap[B]?=Kp.w.heap[B]?)/\Wg<W.heap.size/\(∀B,Dead B->B<W.heap.size)/\(tp=bA->Ψ0 W)/\(tp=bc->Ψ2 W)/\W.os=Kp.w.os/\W.output=Kp.w.output/\gs.size<=Kp.bd/\∀b B,x.β b B->Kp.at_ B->x.H b=bA\/Ro x.w b:=by
 obtain⟨j,gs,W,sl,D,M,O,L,ts,rr,st,sm,x,a,rfl,hw,hf,hL,ha,hd,hq,Yb,hjb⟩:=h;obtain⟨q,q1,q2,q3,q4⟩:=Yb;have quits:∀i g,i<j->gs[i+1]?=bq g->∃n,ed P.b n (Deaf t (i+1)) g:=λi g hi hg=>by
  obtain⟨g',EE,hk⟩:=hw.wk i hi;rw[hg] at EE;cases EE;rw[hw.deafW i hi];exact(hk.leaving (hq i hi)).1
 have WK:∀i,∃n,∀g,0<i->gs[i]?=bq g->ed P.b n (Deaf t i) g:=λi=>by
  by_cases h0:0<i/\i<j+1
  .obtain⟨i',rfl⟩:∃i',i=i'+1:=⟨i-1,by omega⟩;cases hg:gs[i'+1]? with
   |none=>exact⟨0,λg _ e=>by cases e⟩
   |some g =>
    obtain⟨n,hn⟩:=quits i' g (by omega) hg;exact⟨n,λg2 _ e=>by cases e;exact hn⟩
  .refine⟨0,λg h1 e=>?_⟩;have:=(yK.1 e).1;rw[hw.size] at this;omega
 refine⟨gs,W,sl,x,a,ts.tp,λi=>Classical.choose (WK i),rfl,ha,⟨λi g h0 hg=>Classical.choose_spec (WK i) g h0 hg,λi hi=>Deaf_absent λb op hb e=>?_⟩,?_,hw.tr.ti.quiet,λi op hi=>by rw[hw.size];exact hw.tr.ti.gs i op hi,hf,hw.cw.like 0 x hL,hw.cw.C8 0 x hL,hw.cw.Pg 0 x hL,hw.cw.dead 0 x hL,hw.cw.Ig 0 x hL hw.abw,λB hB=>(hw.cw.keep B hB).2.2,hw.cw.low.1,hw.cw.low.2.1,λe=>hw.FE.1 ?_,λe=>hw.FE.2 ?_,hw.cw.Rx.1,hw.cw.Rx.2,by rw[hw.size];exact hjb,hw.cw.D7 0 x hL⟩
 .have:=hw.tr.ti.gs b op hb;rw[hw.size] at hi;omega
 .refine hw.tr.past q1 q2 q3 hd hw.low λk i hg hne hpd=>?_;obtain⟨b,rfl,hb0,RA,hb⟩:=hpd;have h1:=hq b RA;refine⟨rr b,hw.rel b hb0 RA (by omega),q4 b hb0 RA,hb.resolve_left (by omega)⟩
 .cases ts<;>first|rfl|cases e
 .cases P4:ts with
  |done=>rfl
  |start=>rw[P4] at e;cases e
  |at_ k =>
   exfalso;obtain⟨b,hb,_,ho⟩:=hw.LS k P4;obtain⟨g,_,hk⟩:=hw.wk b hb;have:=(hk.leaving (hq b hb)).2;rw[ho] at this;cases this
end
open Go.RowKit Go.Conc.Lib Go.ConcR.Gen Go.ConcN.Gen
open Go.ConcR (KK wgBlock WgAt stA smA rd wr mk Payload Aside2 DC0)
variable {L:WgLink}
def addNeg {P:bs}(H:WgLib P L){Wg:Nat}{b₀:b8}{a₀:Act}{ops₀:Array Oper}{i₀:Nat}{rest₀:List Nat}{k₀:List Item}{cs:List b8}{qt:Nat}
  (hT:ed P qt 0 (G (b₀.at (a₀.put ((ops₀[i₀]?).bind (·.dst)) (.tuple #[])) (.inRegion ops₀ rest₀::k₀)) cs)) (w:bn) (hK:df L.tWg Wg w) :
  GW P L.tWg Wg bc (R0 P L.tWg Wg) 150 (G ((base L.add).at ⟨#[.pointer (bq ⟨Wg,0,none⟩),.int .i64 (-1),undef,undef,undef,undef,undef,undef,undef,undef,undef,undef,undef,undef,undef,undef,undef,undef,undef,undef,undef,undef,undef,undef,undef,undef,undef,undef,undef,undef,undef,undef,undef,undef,undef,undef,undef,undef,undef,undef,undef,undef,undef,undef,undef,undef,undef,undef,undef,undef,undef,undef,undef,undef,undef,undef,undef,undef,undef,undef,undef,undef,undef,undef,undef,undef,undef,undef,undef,undef,undef,undef,undef,undef,undef,undef,undef,undef,undef,undef,undef,undef,undef,undef,undef,undef,undef,undef,undef,undef,undef,undef,undef,undef,undef,undef,undef,undef,undef,undef,undef,undef,undef,undef,undef,undef,undef,undef,undef,undef,undef,undef,undef,undef,undef,undef,undef],[]⟩ [.code (ek L)]) (b₀.at a₀ (.inRegion ops₀ (i₀::rest₀)::k₀)::cs)) w:=by
 lib_facts
 simp only[ek,addFn,zc]
 u_c a7 rl hK
 u_cond bA rl hK
 iterate 2 u_c a7 rl hK
 u_reg rl hK
 iterate 2 u_op rl hK
 u_c a6 rl hK
 u_cond bA rl hK
 u_reg rl hK
 u_op rl hK
 u_conv H.underlying_tWgP H.room_tWg (WgLive.cell0 hK).choose_spec rl hK
 refine Goes.stop (λw₁ h₁=>?_);replace hK:=rl hK h₁;refine⟨rfl,_,stepG_markAt .releaseMerge (by simp) rfl rfl (by k_ne) rfl H.f_relMerge (x_relMerge_n L) (x_relMerge_b L) (x_relMerge_x L) (x_relMerge_f L) (by simp[Act.eval,stA]),150,?_⟩
 walk_nrm
 u_c a6 rl hK
 u_c a7 rl hK
 u_reg rl hK
 refine Goes.stop (λw₁ h₁=>?_);replace hK:=rl hK h₁;refine⟨rfl,_,stepG_mark0 .disable (by simp) rfl rfl (by k_ne) rfl H.f_disable (x_disable_n L) (x_disable_b L) (x_disable_x L) (x_disable_f L),150,?_⟩
 walk_nrm
 u_c a6 rl hK
 u_reg rl hK
 u_defer rl hK
 u_c a6 rl hK
 u_c a7 rl hK
 u_reg rl hK
 u_op rl hK
 u_c a6 rl hK
 iterate 2 u_c a7 rl hK
 u_reg rl hK
 u_bub rl hK
 u_c a6 rl hK
 u_cond bc rl hK
 u_c bb rl hK
 u_c a7 rl hK
 u_reg rl hK
 iterate 6 u_op rl hK
 u_call H.f_uAdd (nm_uAdd L) uAddFn rl hK
 u_c a7 rl hK
 u_reg rl hK
 u_op rl hK
 u_c a6 rl hK
 u_c a7 rl hK
 u_reg rl hK
 iterate 4 u_op rl hK
 refine Goes.stop (λw₁ h₁=>?_);refine⟨rfl,λv wt hwt hv hw=>?_⟩;have e0:IntKind.u64.wrap (KK+18446744069414584320)=0:=by decide
 have e1:IntKind.u64.wrap (KK+1+18446744069414584320)=1:=by decide
 rcases zp v with rfl|hvp<;>(obtain rfl|rfl:wt=0\/wt=1:=by omega)
 .replace hw:WgAt L.tWg Wg w₁ KK 0:=by simpa using hw
  have z:((0:Nat):Int)*KK+((0:Nat):Int)=0:=by simp
  rw[z];refine⟨_,(br rfl rfl (by k_ne) rfl H.f_addU64 (cr L) (cu L) (cE L) .u64 (cF L) rfl rfl hw.cellSt (hw.thaw 0)).trans (by rw[e0];rfl),λhl=>absurd hl.2 (by decide),λ_=>⟨qt+89,?_⟩⟩
  walk_nrm
  q_val (.int .u64 0)
  q_c a6
  q_c bo
  q_leave1 H.f_uAdd
  q_val (.int .u64 0)
  q_c a6
  iterate 2 q_c a7
  q_reg
  iterate 2 q_val (.int .u64 0)
  iterate 2 q_val (.bool bc)
  q_skip
  q_skip
  q_val (.bool bc)
  q_c a6
  q_cond bc
  q_c bb
  q_c a7
  q_reg
  iterate 2 q_val (.int .u64 0)
  iterate 2 q_val (.int .i32 0)
  q_c a6
  q_c a7
  q_reg
  iterate 2 q_val (.int .u64 0)
  iterate 2 q_val (.int .u32 0)
  q_c a6
  iterate 2 q_c a7
  q_reg
  q_val (.bool bA)
  q_val (.int .i64 (-1))
  iterate 3 q_val (.bool bc)
  q_skip
  q_skip
  q_skip
  q_skip
  q_val (.bool bc)
  q_c a6
  q_cond bc
  q_c bb
  iterate 2 q_c a7
  q_reg
  q_val (.int .i32 0)
  q_val (.bool bc)
  q_c a6
  q_cond bc
  q_c bb
  iterate 2 q_c a7
  q_reg
  q_val (.int .u32 0)
  iterate 2 q_val (.bool bc)
  q_skip
  q_skip
  iterate 2 q_val (.bool bc)
  q_skip
  q_skip
  q_skip
  q_skip
  q_val (.bool bc)
  q_c a6
  q_cond bc
  q_c bb
  iterate 2 q_c a7
  q_reg
  q_val (.int .i32 0)
  iterate 2 q_val (.bool bc)
  q_val (.int .u32 0)
  iterate 2 q_val (.bool bA)
  q_c a6
  q_cond bA
  q_c bo
  q_enable
  q_leave0 H.f_add
  exact hT
 .replace hw:WgAt L.tWg Wg w₁ (KK+1) 0:=by simpa using hw
  have z:((0:Nat):Int)*KK+((1:Nat):Int)=1:=by simp
  rw[z];refine⟨_,(br rfl rfl (by k_ne) rfl H.f_addU64 (cr L) (cu L) (cE L) .u64 (cF L) rfl rfl hw.cellSt (hw.thaw 0)).trans (by rw[e1];rfl),λ_=>⟨150,?_⟩,λhl=>absurd ⟨rfl,rfl⟩ hl⟩;have hF:df L.tWg Wg (w₁.setCell (stA Wg) (.int .u64 1)):=⟨_,_,hw.setSt 1⟩
  walk_nrm
  u_op rl hF
  u_c a6 rl hF
  u_c bo rl hF
  u_leave1 H.f_uAdd rl hF
  u_op rl hF
  u_c a6 rl hF
  iterate 2 u_c a7 rl hF
  u_reg rl hF
  iterate 4 u_op rl hF
  iterate 2 u_skip rl hF
  u_op rl hF
  u_c a6 rl hF
  u_cond bc rl hF
  u_c bb rl hF
  u_c a7 rl hF
  u_reg rl hF
  iterate 4 u_op rl hF
  u_c a6 rl hF
  u_c a7 rl hF
  u_reg rl hF
  iterate 4 u_op rl hF
  u_c a6 rl hF
  iterate 2 u_c a7 rl hF
  u_reg rl hF
  iterate 5 u_op rl hF
  iterate 4 u_skip rl hF
  u_op rl hF
  u_c a6 rl hF
  u_cond bc rl hF
  u_c bb rl hF
  iterate 2 u_c a7 rl hF
  u_reg rl hF
  iterate 2 u_op rl hF
  u_c a6 rl hF
  u_cond bc rl hF
  u_c bb rl hF
  iterate 2 u_c a7 rl hF
  u_reg rl hF
  iterate 7 u_op rl hF
  iterate 4 u_skip rl hF
  u_op rl hF
  u_c a6 rl hF
  u_cond bc rl hF
  u_c bb rl hF
  iterate 2 u_c a7 rl hF
  u_reg rl hF
  iterate 6 u_op rl hF
  u_c a6 rl hF
  u_cond bc rl hF
  u_c bb rl hF
  iterate 2 u_c a7 rl hF
  u_reg rl hF
  iterate 3 u_op rl hF
  u_call H.f_uLoad (nm_uLoad L) uLoadFn rl hF
  u_c a7 rl hF
  u_reg rl hF
  u_op rl hF
  u_c a6 rl hF
  u_c a7 rl hF
  u_reg rl hF
  iterate 3 u_op rl hF
  refine Goes.stop (λw₂ h₁=>?_);refine⟨rfl,λhw=>⟨_,stepG_load_atomic rfl rfl (by k_ne) rfl H.f_loadU64 (x_loadU64_n L) (x_loadU64_b L) (x_loadU64_x L) .u64 (x_loadU64_f L) rfl hw.cellSt,150,?_⟩⟩;have hF:df L.tWg Wg w₂:=⟨_,_,hw⟩
  walk_nrm
  u_op rl hF
  u_c a6 rl hF
  u_c bo rl hF
  u_leave1 H.f_uLoad rl hF
  iterate 2 u_op rl hF
  u_c a6 rl hF
  u_cond bc rl hF
  u_c bb rl hF
  u_c a7 rl hF
  u_reg rl hF
  iterate 3 u_op rl hF
  u_call H.f_uStore (nm_uStore L) uStoreFn rl hF
  u_reg rl hF
  iterate 4 u_op rl hF
  refine Goes.stop (λw₃ h₁=>?_);refine⟨rfl,λhw=>⟨_,stepG_store_atomic rfl rfl (by k_ne) rfl H.f_storeU64 (x_storeU64_n L) (x_storeU64_b L) (x_storeU64_x L) (x_storeU64_f L) rfl rfl hw.cellSt (hw.thaw 0),150,?_⟩⟩;have hF:df L.tWg Wg (w₃.setCell (stA Wg) (.int .u64 0)):=⟨_,_,hw.setSt 0⟩;clear hw
  walk_nrm
  u_c a6 rl hF
  u_c ea rl hF
  u_leave0 H.f_uStore rl hF
  u_c a6 rl hF
  iterate 2 u_c a7 rl hF
  u_reg rl hF
  u_op rl hF
  u_c a6 rl hF
  u_cond bc rl hF
  u_c bb rl hF
  u_c stepG_block rl hF
  u_c stepG_loop rl hF
  iterate 2 u_c a7 rl hF
  u_reg rl hF
  iterate 2 u_op rl hF
  u_c a6 rl hF
  u_cond bA rl hF
  u_c bb rl hF
  u_c a7 rl hF
  u_c stepG_block rl hF
  u_reg rl hF
  iterate 3 u_op rl hF
  refine Goes.stop (λw₄ h₁=>?_);clear h₁ hF;refine⟨rfl,mayWake_entry rfl rfl H.f_semrelease (dS L),λhw=>⟨_,(stepG_semrelease rfl rfl (by k_ne) rfl H.f_semrelease (x_semrelease_n L) (dS L) (x_semrelease_x L) (x_semrelease_f L) (by simp[Act.eval,smA]) hw.cellSm (hw.thaw 1)).trans (by rfl),qt+19,?_⟩⟩;clear hw
  walk_nrm
  q_c a6
  q_c stepG_inBlock
  q_reg
  q_val (.int .u32 1)
  iterate 2 q_val (.int .u32 0)
  q_c a6
  q_c stepG_inLoop
  iterate 2 q_c a7
  q_reg
  q_val (.int .u32 0)
  q_val (.bool bc)
  q_c a6
  q_cond bc
  q_exit
  q_c ea
  q_enable
  q_leave0 H.f_add
  exact hT
 .replace hw:WgAt L.tWg Wg w₁ (((v:Nat)+1)*KK+0) 0:=by simpa using hw
  have z:((v:Nat):Int)*KK+((0:Nat):Int)=(v:Int)*KK+0:=by simp
  rw[z];have hv0:0<v:=by omega
  have eS:IntKind.u64.wrap (((v:Nat)+1)*KK+0+18446744069414584320)=(v:Int)*KK+0:=by rw[IntKind.wrap_u64];simp only[KK];omega
  obtain⟨S,hS⟩:∃S:Int,S=(v:Int)*KK+0:=⟨_,rfl⟩;rw[<-hS] at eS ⊢;have a1:S / 4294967296=(v:Int):=by rw[hS];simp only[KK];omega
  have a2:0<=S/\S<9223372036854775808:=by rw[hS];simp only[KK];omega
  have b1:bits .and .u64 S 2147483648=0:=by rw[hS];have:=st_flag v 0 (by omega) (by omega);simpa [KK] using this
  have b2:bits .and .u64 S 2147483647=0:=by rw[hS];have:=st_waiters v 0 (by omega) (by omega);simpa [KK] using this
  clear hS z;refine⟨_,(br rfl rfl (by k_ne) rfl H.f_addU64 (cr L) (cu L) (cE L) .u64 (cF L) rfl rfl hw.cellSt (hw.thaw 0)).trans (by rw[eS];rfl),λhl=>absurd hl.1 (by omega),λ_=>⟨qt+89,?_⟩⟩;clear hw
  walk_nrm
  q_vn (.int .u64 S)
  q_c a6
  q_c bo
  q_leave1 H.f_uAdd
  q_vn (.int .u64 S)
  q_c a6
  iterate 2 q_c a7
  q_reg
  q_vn (.int .u64 S)
  q_vn (.int .u64 0)
  iterate 2 q_vn (.bool bc)
  q_skip
  q_skip
  q_vn (.bool bc)
  q_c a6
  q_cond bc
  q_c bb
  q_c a7
  q_reg
  q_vn (.int .u64 S)
  q_vn (.int .u64 (v:Int))
  iterate 2 q_vn (.int .i32 (v:Int))
  q_c a6
  q_c a7
  q_reg
  q_vn (.int .u64 S)
  q_vn (.int .u64 0)
  iterate 2 q_vn (.int .u32 0)
  q_c a6
  iterate 2 q_c a7
  q_reg
  q_vn (.bool bA)
  q_vn (.int .i64 (-1))
  iterate 3 q_vn (.bool bc)
  q_skip
  q_skip
  q_skip
  q_skip
  q_vn (.bool bc)
  q_c a6
  q_cond bc
  q_c bb
  iterate 2 q_c a7
  q_reg
  q_vn (.int .i32 (v:Int))
  q_vn (.bool bc)
  q_c a6
  q_cond bc
  q_c bb
  iterate 2 q_c a7
  q_reg
  q_vn (.int .u32 0)
  iterate 2 q_vn (.bool bc)
  q_skip
  q_skip
  iterate 2 q_vn (.bool bc)
  q_skip
  q_skip
  q_skip
  q_skip
  q_vn (.bool bc)
  q_c a6
  q_cond bc
  q_c bb
  iterate 2 q_c a7
  q_reg
  q_vn (.int .i32 (v:Int))
  iterate 2 q_vn (.bool bA)
  q_skip
  q_skip
  q_vn (.bool bA)
  q_c a6
  q_cond bA
  q_c bo
  q_enable
  q_leave0 H.f_add
  exact hT
 .replace hw:WgAt L.tWg Wg w₁ (((v:Nat)+1)*KK+1) 0:=by simpa using hw
  have z:((v:Nat):Int)*KK+((1:Nat):Int)=(v:Int)*KK+1:=by simp
  rw[z];have hv0:0<v:=by omega
  have eS:IntKind.u64.wrap (((v:Nat)+1)*KK+1+18446744069414584320)=(v:Int)*KK+1:=by rw[IntKind.wrap_u64];simp only[KK];omega
  obtain⟨S,hS⟩:∃S:Int,S=(v:Int)*KK+1:=⟨_,rfl⟩;rw[<-hS] at eS ⊢;have a1:S / 4294967296=(v:Int):=by rw[hS];simp only[KK];omega
  have a2:0<=S/\S<9223372036854775808:=by rw[hS];simp only[KK];omega
  have b1:bits .and .u64 S 2147483648=0:=by rw[hS];have:=st_flag v 1 (by omega) (by omega);simpa [KK] using this
  have b2:bits .and .u64 S 2147483647=1:=by rw[hS];have:=st_waiters v 1 (by omega) (by omega);simpa [KK] using this
  clear hS z;refine⟨_,(br rfl rfl (by k_ne) rfl H.f_addU64 (cr L) (cu L) (cE L) .u64 (cF L) rfl rfl hw.cellSt (hw.thaw 0)).trans (by rw[eS];rfl),λhl=>absurd hl.1 (by omega),λ_=>⟨qt+89,?_⟩⟩;clear hw
  walk_nrm
  q_vn (.int .u64 S)
  q_c a6
  q_c bo
  q_leave1 H.f_uAdd
  q_vn (.int .u64 S)
  q_c a6
  iterate 2 q_c a7
  q_reg
  q_vn (.int .u64 S)
  q_vn (.int .u64 0)
  iterate 2 q_vn (.bool bc)
  q_skip
  q_skip
  q_vn (.bool bc)
  q_c a6
  q_cond bc
  q_c bb
  q_c a7
  q_reg
  q_vn (.int .u64 S)
  q_vn (.int .u64 (v:Int))
  iterate 2 q_vn (.int .i32 (v:Int))
  q_c a6
  q_c a7
  q_reg
  q_vn (.int .u64 S)
  q_vn (.int .u64 1)
  iterate 2 q_vn (.int .u32 1)
  q_c a6
  iterate 2 q_c a7
  q_reg
  q_vn (.bool bA)
  q_vn (.int .i64 (-1))
  iterate 3 q_vn (.bool bc)
  q_skip
  q_skip
  q_skip
  q_skip
  q_vn (.bool bc)
  q_c a6
  q_cond bc
  q_c bb
  iterate 2 q_c a7
  q_reg
  q_vn (.int .i32 (v:Int))
  q_vn (.bool bc)
  q_c a6
  q_cond bc
  q_c bb
  iterate 2 q_c a7
  q_reg
  q_vn (.int .u32 1)
  iterate 2 q_vn (.bool bA)
  q_vn (.int .i64 (-1))
  iterate 3 q_vn (.bool bc)
  q_skip
  q_skip
  q_skip
  q_skip
  q_vn (.bool bc)
  q_c a6
  q_cond bc
  q_c bb
  iterate 2 q_c a7
  q_reg
  q_vn (.int .i32 (v:Int))
  iterate 2 q_vn (.bool bA)
  q_skip
  q_skip
  q_vn (.bool bA)
  q_c a6
  q_cond bA
  q_c bo
  q_enable
  q_leave0 H.f_add
  exact hT
def done {P:bs}(H:WgLib P L){Wg:Nat}{c:b8}{cs:List b8}{qt:Nat}(hcm:c.mode=.returning)(hT:ed P qt 0 (G c cs))(w:bn)(hK:df L.tWg Wg w) :
  GW P L.tWg Wg bc (R0 P L.tWg Wg) 153 (G ((baseD L.done).at ⟨#[.pointer (bq ⟨Wg,0,none⟩),undef,undef,undef],[]⟩ [.code (body_done L)]) (c::cs)) w:=by
 lib_facts
 have hA:=@addNeg L P H Wg;simp only[body_done,ek,doneFn,addFn,zc] at hA ⊢
 u_reg rl hK
 u_op rl hK
 u_in rl hK
 refine goes_call rfl rfl (by k_ne) rfl H.f_add (nm_add L) rfl ⟨by u_nil,?_⟩
 walk_nrmf addFn
 refine hA (qt:=qt+3) ?_ _ hK
 q_c a6
 q_c ea
 exact QuitsD.leaveD rfl rfl H.f_done rfl hcm hT
end Go.Co
