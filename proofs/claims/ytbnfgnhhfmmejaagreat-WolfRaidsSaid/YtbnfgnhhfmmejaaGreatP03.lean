/- Parts of the proof. -/
import Derived.Test.YtbnfgnhhfmmejaaGreatP02
import Derived.Test.YtbnfgnhhfmmejaaGreatChecked
import Derived.WalkSpells
import Derived.WalkLawsBesides
set_option linter.all false
set_option maxHeartbeats 8000000
set_option maxRecDepth 100000
open Go.Conc renaming stepG_region_end->Z,stepG_seq->Y,stepG_skip->I,mem_ofEvents->bc,G->bo,stepG_ret'->bD,getElem?_append_cases->b5,crowd->b9,runT_crowd_go->cq,Deaf_other->cu,stepG_add_atomic->cF,stepG_load_atomic->dy,woken_quitsD->dS,stepG_markAt->e7,ofEvents_eq->gB,stepG_mark0->gU,aside_setCell->hZ,stepG_block->kv,awake_of->k0,crowd_pick->ln,stepG_unwind_entry->lx,Deaf_own->mm,semEvents->nt,QuitsD->nx,Leavers->ql,touch_mute->sw,touchAt_of->sA,handedOver_app->sF,awake->sS,stepG_end->s7,seen_none->s9,touch_of->vu,Deaf->wq
open Go renaming Goroutine->J,World->bh,FuncId->bk,Program->bq,Frame->b7,Trace->cf,Value->cK,deafBehind->df,Machine->ek,Func->eA,stepG->jx,TypeId->lh,goexitEntry->p5,Event->qo,Oper->q9,MemOp->s5,sizeOf->uA,Item->vk,callFunc->vx,typeInfo->vH,Code->wh,execOp->wo
open Array renaming replicate->U,mem_iff_getElem->ea,size_replicate->kx,size_append->mA,size_push->qf,mem_map->s4,size->wa
open Option renaming some->E,none->er,isNone_none->l9
open Bool renaming false->ak,true->br
open Go.Frame renaming enter->bn,finish_at->ez,kind->vN,tmps->vX,fn->wu
open Go.MemOp renaming ofEvents->bs
open Prod.Lex renaming left->bw,right->bA
open Go.MemAct renaming ofEvent->bW,touch?->b8,low_mono->qc,low->wb
open List renaming range->b6,getElem_range->ll,getElem_map->nA
open Go.Result renaming andThen->cE
open Go.Sem renaming run_bind->cU,run->eo,run_pure->nc
open Go.Value renaming pointer->c0,int->vo
open Nat renaming lt_wfRel->dn,not_le->js,lt_trans->vd
open Option.some renaming injEq->dr,inj->j1
open Go.ConcN renaming WgLive->eb,Mode->jk,st_waiters->lu,get_map_set_same->nh,deafBehind_idle->qb,upd_same->qq,bk_cell->vh,st_flag->vn
open Go.IntKind renaming wrap_u64->ed,wrap_i32->n5,i64->vq
open Go.Act renaming eval->e8
open Go.ConcR.Gen renaming x_addU64_n->fc,x_addU64_b->fq,x_addU64_x->fx,x_addU64_f->gg,body_add->j3,x_loadU64_n->kn,x_loadU64_b->ko,x_loadU64_x->kp,x_loadU64_f->kq,x_enable_n->lA,x_enable_b->l4,x_enable_x->l5,x_enable_f->l8,body_wait->oh,x_disable_n->om,x_disable_b->oo,x_disable_x->oq,x_disable_f->oK,x_semrelease_b->rb,x_semacquire_n->rA,x_semacquire_b->rK,x_semacquire_x->r4,x_semacquire_f->r5,body_done->s8,nm_uLoad->vt
open Prod renaming Lex->ik,lex->iv
open Go.Conc.Lib renaming WgLink->n4,WgLib->q8
open Array renaming getD->Array.LH,push->Array.LE,setIfInBounds->Array.L,toList->Array.LK
open Eq renaming symm->Eq.LH
open False renaming elim->False.S
open Go renaming underlying->Go.LH,zeroValue->Go.LT
open Go.Addr renaming block->Go.Addr.LE
open Go.CallKind renaming deferred->Go.CallKind.S,normal->Go.CallKind.L
open Go.Code renaming block->Go.Code.LE,region->Go.Code.L
open Go.Conc.Lib.WgLib renaming f_addU64->Go.Conc.Lib.WgLib.H,f_uAdd->Go.Conc.Lib.WgLib.S,f_uLoad->Go.Conc.Lib.WgLib.L
open Go.Conc.Past renaming mono->Go.Conc.Past.LT,own->Go.Conc.Past.LH
open Go.ConcN.Mode renaming reopen->Go.ConcN.Mode.L
open Go.ConcN.WD renaming deaf->Go.ConcN.WD.LE
open Go.ConcR.WgAt renaming cellSt->Go.ConcR.WgAt.L,thaw->Go.ConcR.WgAt.LH
open Go.Frame renaming place->Go.Frame.LH
open Go.GoStatus renaming running->Go.GoStatus.L
open Go.Goroutine renaming frame->Go.Goroutine.L
open Go.Instr renaming alloc->Go.Instr.LK
open Go.Loc renaming isMemory->Go.Loc.L
open Go.MemAct renaming low->Go.MemAct.LK,touch?->Go.MemAct.L
open Go.Obj renaming deferred->Go.Obj.S
open Go.Oper renaming dst->Go.Oper.L
open Go.Program renaming funcs->Go.Program.L,underlying->Go.Program.LH
open Go.Proofs.Tryz renaming globals_size->Go.Proofs.Tryz.LK
open Go.Trace renaming deaf->Go.Trace.LE
open Go.TypeDesc renaming pointer->Go.TypeDesc.S
open Go.Value renaming pointer->Go.Value.S
open Go.World renaming alloc->Go.World.LK,heap->Go.World.L,setCell->Go.World.LH
open List renaming set->List.Lo,toArray->List.LK
open Nat renaming below->Nat.Li
open Ne renaming symm->Ne.LH
open Option renaming getD->Option.LH,isNone->Option.L
open Or renaming elim->Or.S,resolve_left->Or.L
open String renaming toList->String.LK
namespace Go.Co
open Go.EB Go.Conc Go.ConcN
open Go.ConcR (KK WgAt stA smA rd wr mk DC0 Bk g_of_ofEvents bk_of_mute ofEvent_loc_mark ofEvent_cell ofEvent_mk)
def Ky (p:bq)(a b:Wm):Prop:=L4 p a b/\Acc (L4 p) b
def Ky.wf (p:bq):WellFounded (Ky p):=⟨λy=>.intro _ λx h=>by
 have key:∀y,Acc (L4 p) y->Acc (Ky p) y:=by
  intro y hy
  induction hy with
  |intro y _ ih=>exact .intro _ λz hz=>ih z hz.1
 exact key x (h.2.inv h.1)⟩
abbrev Mu:=Pre×(List Wm×(Nat×Nat))
def OH (p:bq):Pre->Pre->Prop:=ik (·<·) (ik (·<·) (Ky p))
def Q8:Nat×Nat->Nat×Nat->Prop:=ik (·<·) (·<·)
def PN (p:bq):Mu->Mu->Prop:=ik (OH p) (ik (One (Ky p)) Q8)
def PN.wf (p:bq):WellFounded (PN p):=by
 have h1:WellFounded (OH p):=(iv dn (iv dn ⟨_,Ky.wf p⟩)).wf;have h2:WellFounded Q8:=(iv dn dn).wf;have h3:WellFounded (One (Ky p)):=⟨λl=>One.acc λx _=>(Ky.wf p).apply x⟩;exact(iv ⟨_,h1⟩ (iv ⟨_,h3⟩ ⟨_,h2⟩)).wf
def DP {p:bq}{k q:Nat}{q':Nat}{w1 w:Wm}{r1 r:List Wm×(Nat×Nat)}{a6:Mu}(hq:q<q')(h:PN p a6 ((k,q,w1),r1)):PN p a6 ((k,q',w),r):=by
 refine bw _ _ ?_;cases h with
 |left _ _ h =>
  cases h with
  |left _ _ h=>exact bw _ _ h
  |right _ h =>
   refine bA _ ?_;cases h with
   |left _ _ h=>exact bw _ _ (vd h hq)
   |right _ _=>exact bw _ _ hq
 |right _ _=>exact bA _ (bw _ _ hq)
def jP {P:bq}{μ:Type}{r:μ->μ->Prop}(wf:WellFounded r)(Inv:μ->ek->cf->Prop)(Fin:ek->cf->Prop)
  (step:∀x m t,Inv x m t->Fin m t\/∃m' ops x',stepT P m=(.next m',ops)/\r x' x/\Inv x' m' (t++ops)):∀x m t,Inv x m t->∃N m' t',runNT P N m t=(.next m',t')/\Fin m' t':=by
 intro x
 induction x using wf.induction with
 |_ x ih =>
  intro m t h;obtain hf|⟨m',ops,x',h1,h2,h3⟩:=step x m t h
  .exact⟨0,m,t,rfl,hf⟩
  .obtain⟨N,m2,t2,k1,k2⟩:=ih x' h2 m' _ h3;exact⟨N+1,m2,t2,by simp only[runNT,h1];exact k1,k2⟩
section
variable (P:EK) (SB BB:bk->Bool) (zZ:Bool) (Gn:Nat) (ty Wg:Nat) (zO zN:Nat->Prop) (Kp:IB) (Ψ0 Ψ2:bh->Prop) (fA fW:bk) (wl:Nat) (Pr:Ey) (T:List b7) (Fn:Bool->Hid->J->bh->Prop)
def Acq (j0 j:Nat)(rr:Nat->Nat)(t:cf):Prop:=∃q,t.act? q=E (.mark (.acquire (stA Wg)))/\t.g? q=E 0/\t.heard q/\∀i,j0<=i->i<j->rr i<q
structure MI (j0:Nat)(pre:Pre)(j:Nat)(gs:Array J)(W:bh)(t:cf)(D:Nat->WD)(M:Nat->Wm)(O:Nat->Bool)(L:Nat->Option Lone)(ts:TS)(rr:Nat->Nat)(st sm:Int)(tag:CTag)(d0:Nat)(rk:Nat->Nat)(fu:Nat)(x:Lone)(a:J):Prop where
 wi:WI P SB BB zZ Gn ty Wg zO zN Kp Ψ0 Ψ2 j0 j gs W t D M O L ts rr st sm
 QJ:Gx P SB BB zZ Gn ty Wg zN Ψ0 Ψ2 fA fW wl Pr T Fn tag d0 pre rk fu x ts.tp a W
 L0:L 0=E x
 a0:gs[0]?=E a
 LE:wq t 0=d0
 mode:jk j D tag st sm
 acq:tag=.ret->Acq Wg j0 j rr t
 bd:j+pre.1<Kp.bd/\Kp.bd<=2147483647
def NR (j0:Nat)(μ:Mu)(m:ek)(t:cf):Prop :=
 ∃j gs W sl D M O L ts rr st sm tag d0 rk fu x a,m=b9 gs W sl/\MI P SB BB zZ Gn ty Wg zO zN Kp Ψ0 Ψ2 fA fW wl Pr T Fn j0 μ.1 j gs W t D M O L ts rr st sm tag d0 rk fu x a/\μ.2=((b6 j).map M,(rk (Vc j D),fu))
def L8 (j0:Nat)(m:ek)(t:cf):Prop :=
 ∃j gs W sl D M O L ts rr st sm x a,m=b9 gs W sl/\WI P SB BB zZ Gn ty Wg zO zN Kp Ψ0 Ψ2 j0 j gs W t D M O L ts rr st sm/\Ka P SB BB zZ Pr T Fn x ts.tp a/\L 0=E x/\gs[0]?=E a/\wq t 0=0/\AllQuit j D/\Acq Wg j0 j rr t/\j<Kp.bd
def Nq:Prop:=∀(x:Lone) (G:J) (W:bh) (fr:b7) (cs:List b7),x.g=cm P fA #[JW wl,vo vq 1] fr cs->fw fr->x.T=T->x.β wl Wg->Fx P SB BB zZ x G->GQ P SB zZ Gn x W->eb ty Wg W ->
 ∃gR m,GW P.b ty Wg br (RX P.b ty Wg (λg _=>g=gR)) m G W/\Fx P SB BB zZ { x with g:=back fr cs } gR
def jQ:Prop:=∀(x:Lone) (G:J) (W:bh) (fr:b7) (cs:List b7),x.g=cm P fW #[JW wl] fr cs->fw fr->x.T=T->x.β wl Wg->Fx P SB BB zZ x G->GQ P SB zZ Gn x W->eb ty Wg W ->
 ∃gR m Hs,GW P.b ty Wg br (RZ P.b ty Wg Hs) m G W/\iw P ty Wg Hs gR/\Fx P SB BB zZ { x with g:=back fr cs } gR
end
section
variable {P:EK} {SB BB:bk->Bool} {zZ:Bool} {Gn:Nat} {ty Wg:Nat} {zO zN:Nat->Prop} {Kp:IB} {Ψ0 Ψ2:bh->Prop} {fA fW:bk} {wl:Nat} {Pr:Ey} {T:List b7} {Fn:Bool->Hid->J->bh->Prop}
 {j0 j:Nat} {gs:Array J} {W W':bh} {t:cf} {D:Nat->WD} {M:Nat->Wm} {O:Nat->Bool} {L:Nat->Option Lone} {ts ts':TS} {rr:Nat->Nat} {st sm JD J8:Int} {a a':J}
 {tag tag':CTag} {d0:Nat} {pre pre':Pre} {rk MU:Nat->Nat} {fu MV:Nat} {x:Lone} {sl:Option (Nat×Nat)}
def Stepped (P:EK)(SB BB:bk->Bool)(zZ:Bool)(Gn:Nat)(ty Wg:Nat)(zO zN:Nat->Prop)(Kp:IB)(Ψ0 Ψ2:bh->Prop)(fA fW:bk)(wl:Nat)(Pr:Ey)(T:List b7)(Fn:Bool->Hid->J->bh->Prop)(j0:Nat)(μ:Mu)(gs:Array J)(W:bh)(sl:Option (Nat×Nat))(t:cf):Prop :=
 ∃m' ops a6,runT P.b (b9 gs W sl) 0=(.next m',ops)/\PN P.a a6 μ/\NR P SB BB zZ Gn ty Wg zO zN Kp Ψ0 Ψ2 fA fW wl Pr T Fn j0 a6 m' (t++ops)
def Acq.app {u:cf}(h:Acq Wg j0 j rr t):Acq Wg j0 j rr (t++u):=by
 obtain⟨q,h1,h2,h3,h4⟩:=h;have hq:=lt_of_act? h1;exact⟨q,by rw[act?_old hq];exact h1,by rw[g?_old hq];exact h2,(heard_old hq).2 h3,h4⟩
def MI.LH (h:MI P SB BB zZ Gn ty Wg zO zN Kp Ψ0 Ψ2 fA fW wl Pr T Fn j0 pre j gs W t D M O L ts rr st sm tag d0 rk fu x a)(tz:ax zN Ψ0)(a8:ax zN Ψ2){es:Array qo}(zK:jx P.b br a W=.go a' W' es)(aA:Aside Wg W W')(aB:WgAt ty Wg W' JD J8)(aC:∀e∈es,gW Wg e)
  (hs:Gx P SB BB zZ Gn ty Wg zN Ψ0 Ψ2 fA fW wl Pr T Fn tag' (df d0 es) pre' MU MV x ts.tp a' W') (a6:jk j D tag' JD J8) (a7:tag'=.ret->Acq Wg j0 j rr (t++bs 0 a.L.fn a.L.LH es)) (hb:pre'.1<=pre.1)
  (zY:OH P.a pre' pre\/(pre'=pre/\Q8 (MU (Vc j D),MV) (rk (Vc j D),fu))):Stepped P SB BB zZ Gn ty Wg zO zN Kp Ψ0 Ψ2 fA fW wl Pr T Fn j0 (pre,(b6 j).map M,(rk (Vc j D),fu)) gs W sl t:=by
 have aD:=h.bd;refine⟨_,_,(pre',(b6 j).map M,(MU (Vc j D),MV)),cq (P:=P.b) (sl:=sl) (i:=0) h.a0 (by simpa using zK),?_,j,_,W',sl,D,M,O,L,ts,rr,JD,J8,tag',df d0 es,MU,MV,x,a',rfl,⟨h.wi.book0 tz a8 aA aB aC,hs,h.L0,nh _ _ _ (by rw[h.wi.size];omega),by rw[mm,h.LE],a6,a7,(by show j+pre'.1<Kp.bd/\_;omega)⟩,rfl⟩;obtain h1|⟨rfl,h1⟩:=zY
 .exact bw _ _ h1
 .exact bA _ (bA _ h1)
def G6 {Wg:Nat}:∀e∈(#[]:Array qo),gW Wg e:=by simp
def PO {Wg:Nat}:∀e∈#[mk .disable],gW Wg e:=by intro e he;simp at he;subst he;exact .inl (.inl rfl)
def Q9 {Wg:Nat}:∀e∈#[mk .enable],gW Wg e:=by intro e he;simp at he;subst he;exact .inl (.inr (.inl rfl))
def NS {Wg:Nat}:∀e∈#[rd (stA Wg)],gW Wg e:=by intro e he;simp at he;subst he;exact .inl (vh _ _ rfl)
def Qh {Wg:Nat}:∀e∈#[rd (stA Wg),wr (stA Wg)],gW Wg e:=by intro e he;simp at he;rcases he with rfl|rfl<;>exact .inl (vh _ _ rfl)
def Ra {Wg:Nat}:∀e∈nt (smA Wg),gW Wg e:=by
 intro e he;simp[nt] at he;obtain rfl|rfl|rfl|rfl:=he
 .exact .inl (.inl rfl)
 .exact .inl (vh _ _ rfl)
 .exact .inl (vh _ _ rfl)
 .exact .inl (.inr (.inl rfl))
def mP {Wg:Nat}:(∀e∈#[mk (.read (smA Wg))],gW Wg e)/\(∀e∈#[mk (.write (smA Wg))],gW Wg e)/\∀e∈#[mk (.acquire (stA Wg))],gW Wg e:=by
 refine⟨λe he=>?_,λe he=>?_,λe he=>?_⟩<;>simp at he<;>subst he
 .exact .inr ⟨_,rfl,.inl rfl⟩
 .exact .inr ⟨_,rfl,.inr (.inl rfl)⟩
 .exact .inr ⟨_,rfl,.inr (.inr rfl)⟩
def L9 {p:bq}{k q q':Nat}{w w':Wm}(h:q<q'):OH p (k,q,w) (k,q',w'):=bA _ (bw _ _ h)
def gf {p:bq}{k q m m':Nat}(h:m<m'):OH p (k,q,.st 0 m) (k,q,.st 0 m'):=bA _ (bA _ ⟨.fuel h,DC p _ _⟩)
def He {r r' f f':Nat}(h:r<r'):Q8 (r,f) (r',f'):=bw _ _ h
def cz {r f f':Nat}(h:f<f'):Q8 (r,f) (r,f'):=bA _ h
def Nr (tz:ax zN Ψ0)(aA:ax zN Ψ2)(h:MI P SB BB zZ Gn ty Wg zO zN Kp Ψ0 Ψ2 fA fW wl Pr T Fn j0 pre j gs W t D M O L ts rr st sm tag d0 rk fu x a)(zA:a.status=.L)(hp:pre.2.1≠9/\pre.2.1≠3/\pre.2.1≠4) :
  L8 P SB BB zZ Gn ty Wg zO zN Kp Ψ0 Ψ2 Pr T Fn j0 (b9 gs W sl) t\/Stepped P SB BB zZ Gn ty Wg zO zN Kp Ψ0 Ψ2 fA fW wl Pr T Fn j0 (pre,(b6 j).map M,(rk (Vc j D),fu)) gs W sl t:=by
 have a6:=h.mode;have a8:=h.wi.wg;have aJ:=h.bd;have hV:=Vc_le j D;have aG:=h.QJ;have nr:tag≠.ret->∀u:cf,tag=.ret->Acq Wg j0 j rr (t++u):=λh _ e=>AS e h;cases aG with
 |free _ _ _ _=>exact AS rfl hp.1
 |mid _=>exact AS rfl hp.2.1
 |KO _ _=>exact AS rfl hp.2.2
 |QF hk hr =>
  obtain a7|⟨m',rfl,hstep⟩:=Goes.cases hk
  .obtain⟨_,a',zK,m₂,aB⟩:=a7 W (RL.refl W);exact .inr (h.LH tz aA zK (.refl Wg W) a8 PO (.QG aB hr) (a6.L trivial trivial rfl (by simp)) (by simp) (AK _) (.inl (L9 (by omega))))
  .obtain⟨a',w',es,zK,⟨rfl,rfl⟩,aC⟩:=hstep W (RL.refl W);exact .inr (h.LH tz aA zK (.refl Wg w') a8 G6 (.QF aC hr) a6 (by simp) (AK _) (.inl (gf (by omega))))
 |QG hk hr =>
  obtain a7|⟨m',rfl,hstep⟩:=Goes.cases hk
  .obtain⟨_,hall⟩:=a7 W (RL.refl W);obtain⟨ho,rfl,rfl,_⟩:=a6.open_inv trivial;obtain⟨a',zK,h0,h1⟩:=hall (Vc j D) (by omega) (by simpa [pend] using a8);have hm:jk j D (.sp 0 3) ((((Vc j D:Nat):Int)+1)*KK) 0:=by
    have e:(((Vc j D:Nat):Int)+1)*KK=((Vc j D+pend (.sp 0 3):Nat):Int)*KK:=by simp[pend]
    rw[e];exact .opn trivial ho (by simp)
   by_cases hv:Vc j D=0
   .obtain⟨m₂,aB⟩:=h0 hv;exact .inr (h.LH tz aA zK (hZ W (stA Wg) _) (a8.setSt _) Qh (.arr aB hr) hm (by simp) (AK _) (.inl (L9 (by omega))))
   .obtain⟨m₂,aB⟩:=h1 hv;exact .inr (h.LH tz aA zK (hZ W (stA Wg) _) (a8.setSt _) Qh (.Qg aB hr) hm (by simp) (AK _) (.inl (L9 (by omega))))
  .obtain⟨a',w',es,zK,⟨rfl,rfl⟩,aC⟩:=hstep W (RL.refl W);exact .inr (h.LH tz aA zK (.refl Wg w') a8 G6 (.QG aC hr) a6 (by simp) (AK _) (.inl (gf (by omega))))
 |arr hk hr =>
  obtain a7|⟨m',rfl,hstep⟩:=Goes.cases hk
  .obtain⟨_,a',zK,m₂,aB⟩:=a7 W (RL.refl W);exact .inr (h.LH tz aA zK (.refl Wg W) a8 mP.1 (.Qg aB hr) (a6.L trivial trivial rfl (by simp)) (by simp) (AK _) (.inl (L9 (by omega))))
  .obtain⟨a',w',es,zK,⟨rfl,rfl⟩,aC⟩:=hstep W (RL.refl W);exact .inr (h.LH tz aA zK (.refl Wg w') a8 G6 (.arr aC hr) a6 (by simp) (AK _) (.inl (gf (by omega))))
 |Qg hk hr =>
  obtain a7|⟨m',rfl,hstep⟩:=Goes.cases hk
  .obtain⟨_,a',zK,m₂,aB⟩:=a7 W (RL.refl W);exact .inr (h.LH tz aA zK (.refl Wg W) a8 Q9 (.KO aB hr) (a6.L trivial trivial rfl (by simp)) (by simp) (AK _) (.inl (L9 (by omega))))
  .obtain⟨a',w',es,zK,⟨rfl,rfl⟩,aC⟩:=hstep W (RL.refl W);exact .inr (h.LH tz aA zK (.refl Wg w') a8 G6 (.Qg aC hr) a6 (by simp) (AK _) (.inl (gf (by omega))))
 |QH hk hf hA =>
  obtain a7|⟨m',rfl,hstep⟩:=Goes.cases hk
  .obtain⟨_,a',zK,m₂,aB⟩:=a7 W (RL.refl W);exact .inr (h.LH tz aA zK (.refl Wg W) a8 PO (.anch aB hf hA) (a6.L trivial trivial rfl (by simp)) (by simp) (AK _) (.inr ⟨rfl,He (by omega)⟩))
  .obtain⟨a',w',es,zK,⟨rfl,rfl⟩,aC⟩:=hstep W (RL.refl W);exact .inr (h.LH tz aA zK (.refl Wg w') a8 G6 (.QH aC hf hA) a6 (by simp) (AK _) (.inr ⟨rfl,cz (by omega)⟩))
 |anch hk hf hA =>
  obtain a7|⟨m',rfl,hstep⟩:=Goes.cases hk
  .obtain⟨_,m₂,zn⟩:=hA a W (a7 W (RL.refl W));obtain a7|⟨m',rfl,hstep⟩:=Goes.cases zn
   .obtain⟨_,hall⟩:=a7 W (RL.refl W);obtain⟨ho,rfl,rfl,_⟩:=a6.open_inv trivial;obtain⟨a',zK,h0,h1⟩:=hall (Vc j D) (by omega) (by simpa [pend] using a8);by_cases hv:Vc j D=0
    .obtain⟨m₂,aB⟩:=h0 hv;refine .inr (h.LH tz aA zK (.refl Wg W) a8 NS (tag':=.ke) (.PL aB hf) ?_ (by simp) (AK _) (.inr ⟨rfl,He (by omega)⟩));have e:((Vc j D+pend .anch:Nat):Int)*KK=0:=by rw[hv];simp[pend]
     rw[e];exact .fin trivial (allQuit_of ho hv)
    .obtain⟨m₂,aB⟩:=h1 hv;exact .inr (h.LH tz aA zK (.refl Wg W) a8 NS (tag':=.w2 (Vc j D)) (.w2 aB hf hA) (a6.L trivial trivial rfl (λvs e=>by cases e;omega)) (by simp) (AK _) (.inr ⟨rfl,He (by omega)⟩))
   .obtain⟨a',w',es,zK,⟨rfl,rfl⟩,aC⟩:=hstep W (RL.refl W);exact .inr (h.LH tz aA zK (.refl Wg w') a8 G6 (.w1 aC hf hA) (a6.L trivial trivial rfl (by simp)) (by simp) (AK _) (.inr ⟨rfl,He (by omega)⟩))
  .obtain⟨a',w',es,zK,⟨rfl,rfl⟩,aC⟩:=hstep W (RL.refl W);exact .inr (h.LH tz aA zK (.refl Wg w') a8 G6 (.anch aC hf hA) a6 (by simp) (AK _) (.inr ⟨rfl,cz (by omega)⟩))
 |w1 hk hf hA =>
  obtain a7|⟨m',rfl,hstep⟩:=Goes.cases hk
  .obtain⟨_,hall⟩:=a7 W (RL.refl W);obtain⟨ho,rfl,rfl,_⟩:=a6.open_inv trivial;obtain⟨a',zK,h0,h1⟩:=hall (Vc j D) (by omega) (by simpa [pend] using a8);by_cases hv:Vc j D=0
   .obtain⟨m₂,aB⟩:=h0 hv;refine .inr (h.LH tz aA zK (.refl Wg W) a8 NS (tag':=.ke) (.PL aB hf) ?_ (by simp) (AK _) (.inr ⟨rfl,He (by omega)⟩));have e:((Vc j D+pend .w1:Nat):Int)*KK=0:=by rw[hv];simp[pend]
    rw[e];exact .fin trivial (allQuit_of ho hv)
   .obtain⟨m₂,aB⟩:=h1 hv;exact .inr (h.LH tz aA zK (.refl Wg W) a8 NS (tag':=.w2 (Vc j D)) (.w2 aB hf hA) (a6.L trivial trivial rfl (λvs e=>by cases e;omega)) (by simp) (AK _) (.inr ⟨rfl,He (by omega)⟩))
  .obtain⟨a',w',es,zK,⟨rfl,rfl⟩,aC⟩:=hstep W (RL.refl W);exact .inr (h.LH tz aA zK (.refl Wg w') a8 G6 (.w1 aC hf hA) a6 (by simp) (AK _) (.inr ⟨rfl,cz (by omega)⟩))
 |w2 hk hf hA =>
  rename_i k vs gR Hs;obtain a7|⟨m',rfl,hstep⟩:=Goes.cases hk
  .obtain⟨_,hall⟩:=a7 W (RL.refl W);obtain⟨ho,rfl,rfl,hw2⟩:=a6.open_inv trivial;obtain⟨zX,h1⟩:=hw2 vs rfl;obtain⟨aH,aD⟩:=hall (Vc j D) (by omega) (by simpa [pend] using a8);by_cases e:Vc j D=vs
   .obtain⟨a',zK,m₂,aB⟩:=aH e;exact .inr (h.LH tz aA zK (hZ W (stA Wg) _) (a8.setSt _) Qh (.QI aB hf) (.reg trivial ho (by omega)) (by simp) (AK _) (.inr ⟨rfl,He (by omega)⟩))
   .obtain⟨a',zK,m₂,aB⟩:=aD e;exact .inr (h.LH tz aA zK (.refl Wg W) a8 NS (.anch aB hf hA) (a6.L trivial trivial rfl (by simp)) (by simp) (AK _) (.inr ⟨rfl,He (by omega)⟩))
  .obtain⟨a',w',es,zK,⟨rfl,rfl⟩,aC⟩:=hstep W (RL.refl W);exact .inr (h.LH tz aA zK (.refl Wg w') a8 G6 (.w2 aC hf hA) a6 (by simp) (AK _) (.inr ⟨rfl,cz (by omega)⟩))
 |QI hk hf =>
  obtain a7|⟨m',rfl,hstep⟩:=Goes.cases hk
  .obtain⟨_,a',zK,m₂,aB⟩:=a7 W (RL.refl W);exact .inr (h.LH tz aA zK (.refl Wg W) a8 mP.2.1 (.w3 aB hf) a6 (by simp) (AK _) (.inr ⟨rfl,He (by omega)⟩))
  .obtain⟨a',w',es,zK,⟨rfl,rfl⟩,aC⟩:=hstep W (RL.refl W);exact .inr (h.LH tz aA zK (.refl Wg w') a8 G6 (.QI aC hf) a6 (by simp) (AK _) (.inr ⟨rfl,cz (by omega)⟩))
 |w3 hk hf =>
  obtain a7|⟨m',rfl,hstep⟩:=Goes.cases hk
  .obtain⟨_,aI,hblk,aF⟩:=a7 W (RL.refl W);cases a6 with
   |opn h1 _ _=>exact h1.S
   |reg h1 h2 h3=>exact .inr (h.LH tz aA (hblk ⟨_,a8⟩) (.refl Wg W) a8 G6 (.blk a7 hf) (.reg trivial h2 h3) (by simp) (AK _) (.inr ⟨rfl,cz (by omega)⟩))
   |last Lx h1 h2 h3 h4=>exact .inr (h.LH tz aA (hblk ⟨_,a8⟩) (.refl Wg W) a8 G6 (.blk a7 hf) (.last Lx trivial h2 h3 h4) (by simp) (AK _) (.inr ⟨rfl,cz (by omega)⟩))
   |sema h2 =>
    obtain⟨a',zK,m₂,aB⟩:=aF a8
    refine .inr (h.LH tz aA zK (hZ W (smA Wg) _) (a8.setSm 0) Ra (tag':=.w4) (by
     have:df 1 (nt (smA Wg))=1:=by simp[df,nt]
     rw[this];exact .w4 aB hf) (.fin trivial h2) (by simp) (AK _) (.inr ⟨rfl,He (by omega)⟩))
   |fin h1 _=>exact h1.S
  .obtain⟨a',w',es,zK,⟨rfl,rfl⟩,aC⟩:=hstep W (RL.refl W);exact .inr (h.LH tz aA zK (.refl Wg w') a8 G6 (.w3 aC hf) a6 (by simp) (AK _) (.inr ⟨rfl,cz (by omega)⟩))
 |blk _ _=>simp at zA
 |w4 hk hf =>
  obtain a7|⟨m',rfl,hstep⟩:=Goes.cases hk
  .obtain⟨_,hx⟩:=a7 W (RL.refl W);obtain⟨hq,rfl,rfl⟩:=a6.fin_inv trivial;obtain⟨a',zK,m₂,aB⟩:=hx a8;exact .inr (h.LH tz aA zK (.refl Wg W) a8 NS (.PL aB hf) (.fin trivial hq) (by simp) (AK _) (.inr ⟨rfl,He (by omega)⟩))
  .obtain⟨a',w',es,zK,⟨rfl,rfl⟩,aC⟩:=hstep W (RL.refl W);exact .inr (h.LH tz aA zK (.refl Wg w') a8 G6 (.w4 aC hf) a6 (by simp) (AK _) (.inr ⟨rfl,cz (by omega)⟩))
 |PL hk hf =>
  obtain a7|⟨m',rfl,hstep⟩:=Goes.cases hk
  .obtain⟨_,a',zK,m₂,aB⟩:=a7 W (RL.refl W);obtain⟨hq,rfl,rfl⟩:=a6.fin_inv trivial;exact .inr (h.LH tz aA zK (.refl Wg W) a8 Q9 (.NQ aB hf) (.fin trivial hq) (by simp) (AK _) (.inr ⟨rfl,He (by omega)⟩))
  .obtain⟨a',w',es,zK,⟨rfl,rfl⟩,aC⟩:=hstep W (RL.refl W);exact .inr (h.LH tz aA zK (.refl Wg w') a8 G6 (.PL aC hf) a6 (by simp) (AK _) (.inr ⟨rfl,cz (by omega)⟩))
 |NQ hk hf =>
  obtain a7|⟨m',rfl,hstep⟩:=Goes.cases hk
  .obtain⟨_,a',zK,m₂,aB⟩:=a7 W (RL.refl W);obtain⟨hq,rfl,rfl⟩:=a6.fin_inv trivial;refine .inr (h.LH tz aA zK (.refl Wg W) a8 mP.2.2 (.fin aB hf) (.fin trivial hq) (λ_=>?_) (AK _) (.inr ⟨rfl,He (by omega)⟩));have e1:bs 0 a.L.fn a.L.LH #[mk (.acquire (stA Wg))]=#[{ g:=0,fn:=a.L.fn,pos:=a.L.LH,act:=.mark (.acquire (stA Wg)) }]:=by rw[gB];simp[ofEvent_mk]
   have hy:(t++#[({ g:=0,fn:=a.L.fn,pos:=a.L.LH,act:=.mark (.acquire (stA Wg)) }:s5)])[t.size]?=E { g:=0,fn:=a.L.fn,pos:=a.L.LH,act:=.mark (.acquire (stA Wg)) }:=by simp
   refine⟨t.size,by rw[e1,act?_of hy],by rw[e1];simp[Trace.g?],by rw[e1];exact⟨0,by simp[Trace.g?],by rw[deaf_old (AK _)];exact h.LE⟩,λi h0 hi=>?_⟩;exact lt_of_act? (h.wi.rel i h0 hi (by rw[hq i hi];omega)).act
  .obtain⟨a',w',es,zK,⟨rfl,rfl⟩,aC⟩:=hstep W (RL.refl W);exact .inr (h.LH tz aA zK (.refl Wg w') a8 G6 (.NQ aC hf) a6 (by simp) (AK _) (.inr ⟨rfl,cz (by omega)⟩))
 |fin hk hf =>
  obtain⟨hq,rfl,rfl⟩:=a6.fin_inv trivial;obtain a7|⟨m',rfl,hstep⟩:=Goes.cases hk
  .have e:=a7 W (RL.refl W);subst e;exact .inl ⟨j,gs,W,sl,D,M,O,L,ts,rr,0,0,x,a,rfl,h.wi,hf,h.L0,h.a0,h.LE,hq,h.acq rfl,by have:=h.bd;omega⟩
  .obtain⟨a',w',es,zK,⟨rfl,rfl⟩,aC⟩:=hstep W (RL.refl W);exact .inr (h.LH tz aA zK (.refl Wg w') a8 G6 (.fin aC hf) a6 (λ_=>(h.acq rfl).app) (AK _) (.inr ⟨rfl,cz (by omega)⟩))
end
open Go.ConcR (KK WgAt stA smA rd wr mk DC0 Bk g_of_ofEvents bk_of_mute ofEvent_loc_mark ofEvent_cell ofEvent_mk)
section
variable {P:EK} {SB BB:bk->Bool} {zZ:Bool} {Gn:Nat} {ty Wg:Nat} {zO zN:Nat->Prop} {Kp:IB} {Ψ0 Ψ2:bh->Prop} {fA fW:bk} {wl:Nat} {Pr:Ey} {T:List b7} {Fn:Bool->Hid->J->bh->Prop}
 {j0 j:Nat} {gs:Array J} {W W':bh} {t:cf} {D:Nat->WD} {M:Nat->Wm} {O:Nat->Bool} {L:Nat->Option Lone} {ts ts':TS} {rr:Nat->Nat} {st sm JD J8:Int} {a a':J}
 {tag tag':CTag} {d0:Nat} {pre pre':Pre} {rk MU:Nat->Nat} {fu MV:Nat} {x:Lone} {sl:Option (Nat×Nat)}
def WI.Rb (h:WI P SB BB zZ Gn ty Wg zO zN Kp Ψ0 Ψ2 j0 j gs W t D M O L ts rr st sm):ts.LH≠E 0:=λe=>by
 cases ts with
 |at_ k =>
  obtain⟨i,_,e1,_⟩:=h.LC k rfl;simp only[TS.LH,dr] at e;omega
 |_=>cases e
def WI.reg (h:WI P SB BB zZ Gn ty Wg zO zN Kp Ψ0 Ψ2 j0 j gs W t D M O L ts rr st sm)(hL:L 0=E x)(g':J):WI P SB BB zZ Gn ty Wg zO zN Kp Ψ0 Ψ2 j0 j gs W t D M O (put L 0 (E { x with g:=g' })) ts rr st sm:=by
 have get:∀ {b y},put L 0 (E { x with g:=g' }) b=E y->∃z,L b=E z/\y.w=z.w/\y.H=z.H/\y.β=z.β:=λ{b y} e=>by
  by_cases e':b=0
  .subst e';rw[EG] at e;cases e;exact⟨x,hL,rfl,rfl,rfl⟩
  .rw[EJ L _ e'] at e;exact⟨y,e,rfl,rfl,rfl⟩
 have c:=h.cw;refine⟨h.size,λi hi=>?_,⟨λb y hy=>?_,λb y hy=>?_,λb y hy=>?_,λb y hy=>?_,λb y hy=>?_,λb k y z zU hy hz=>?_,c.LK,c.JA,c.keep,λb y hy=>?_,c.L3,c.OC⟩,h.tr.MS (λk l=>?_) (λk l=>?_),h.LK,h.deafW,h.rel,h.wg,h.KN,h.LC,h.Hv,λi hi=>?_,h.old,h.jj⟩
 .rw[EJ L _ (by omega)];exact h.wk i hi
 .obtain⟨z,h1,h2,h3,h4⟩:=get hy;have:=c.like b z h1;unfold GQ at this ⊢;rw[h2,h3,h4];exact this
 .obtain⟨z,h1,h2,h3,h4⟩:=get hy;rw[h3];exact c.Fg b z h1
 .obtain⟨z,h1,h2,h3,h4⟩:=get hy;rw[h3,h4];exact c.Np b z h1
 .obtain⟨z,h1,h2,h3,h4⟩:=get hy;rw[h4];exact c.dead b z h1
 .obtain⟨z,h1,h2,h3,h4⟩:=get hy;rw[h3,h4];exact c.Jz b z h1
 .obtain⟨y',h1,h2,h3,h4⟩:=get hy;obtain⟨z',k1,k2,k3,k4⟩:=get hz;rw[h2,h3,h4,k2,k3,k4];exact c.sep b k y' z' zU h1 k1
 .obtain⟨z,h1,h2,h3,h4⟩:=get hy;rw[h2,h3,h4];exact c.F2 b z h1
 .rintro(⟨y,hy,hw⟩|hw)
  .obtain⟨z,h1,h2,h3,h4⟩:=get hy;refine .inl ⟨z,h1,?_⟩;unfold Pu at hw ⊢;rw[h2,h3,h4] at hw;exact hw
  .exact .inr hw
 .rintro(⟨y,hy,hw⟩|hw)
  .obtain⟨z,h1,h2,h3,h4⟩:=get hy;refine .inl ⟨z,h1,?_⟩;unfold Pv at hw ⊢;rw[h3,h4] at hw;exact hw
  .exact .inr hw
 .rw[EJ L _ (by omega)];exact h.out i hi
def mQ (lib:∀H,Lib P SB H zZ BB Gn)(tz:ax zN Ψ0)(a7:ax zN Ψ2){k q:Nat}{Q:J->bh->Prop}
  (h:MI P SB BB zZ Gn ty Wg zO zN Kp Ψ0 Ψ2 fA fW wl Pr T Fn j0 (k,q,.tree Q (x.g,x.w)) j gs W t D M O L ts rr st sm tag 0 rk fu x a) (zU:tag≠.ret) (hr:Ep P.a (Fp P.a BB) Q x.g x.w) (hq:¬Q x.g x.w) (hg:Fx P SB BB zZ x a) (a8:Pr.le x.β) (hT:x.T=T)
  (mkS:∀(x':Lone) (G:J) (W:bh),x'.H=x.H->x'.T=T->Pr.le x'.β->Ep P.a (Fp P.a BB) Q x'.g x'.w->Fx P SB BB zZ x' G->Gx P SB BB zZ Gn ty Wg zN Ψ0 Ψ2 fA fW wl Pr T Fn tag 0 (k,q,.tree Q (x'.g,x'.w)) rk fu x' ts.tp G W) :
  Stepped P SB BB zZ Gn ty Wg zO zN Kp Ψ0 Ψ2 fA fW wl Pr T Fn j0 ((k,q,.tree Q (x.g,x.w)),(b6 j).map M,(rk (Vc j D),fu)) gs W sl t:=by
 obtain⟨g',w',es,Ef,g2,W',ES,e1,e2,e3,e4,e5⟩:=EB.follow (lib x.H) (main2:=br) hr hq hg (h.wi.cw.like _ x h.L0);have f:Ik P SB zZ Gn x W Ef w' W' ES.LK:=e5;have aA:=h.wi.cw.Fg _ x h.L0;have a6:=cN f aA;rw[show ES.LK.LK=ES by simp] at a6;have aB:df 0 ES=0:=qb (λe he=>⟨(a6 e he).1,(a6 e he).2.1⟩) 0
 refine⟨_,_,((k,q,.tree Q (g',w')),(b6 j).map M,(rk (Vc j D),fu)),cq (P:=P.b) (sl:=sl) (i:=0) h.a0 (by simpa using e3),bw _ _ (bA _ (bA _ ⟨.tree hq ⟨W.tape,W.drawn,es,e1,e4.callers.ne⟩,DB (E5.of hr)⟩)),
  j,_,W',sl,D,M,O,_,ts,rr,st,sm,tag,0,rk,fu,⟨g',w',x.H,Ef,x.T⟩,g2,rfl,⟨h.wi.Q6 tz a7 h.L0 f g',mkS ⟨g',w',x.H,Ef,x.T⟩ g2 W' rfl hT (Ey.le_trans a8 e5.le) e2 e4,EG L _ _,nh _ _ _ (by rw[h.wi.size];omega),by rw[mm,h.LE];exact aB,h.mode,λe=>AS e zU,h.bd⟩,rfl⟩
def Ns (lib:∀H,Lib P SB H zZ BB Gn)(tz:ax zN Ψ0)(a7:ax zN Ψ2){k:Nat}
  (h:MI P SB BB zZ Gn ty Wg zO zN Kp Ψ0 Ψ2 fA fW wl Pr T Fn j0 (k+1,3,.tree (Q7 P SB BB zZ Gn ty Wg zN Ψ0 Ψ2 fA fW wl Pr T Fn k ts.tp x.H) (x.g,x.w)) j gs W t D M O L ts rr st sm (.sp 0 2) 0 rk fu x a) (hr:Rest P SB BB zZ Gn ty Wg zN Ψ0 Ψ2 fA fW wl Pr T Fn k x ts.tp a) (zT:rk=λ_=>0) (hfu:fu=0) :
  Stepped P SB BB zZ Gn ty Wg zO zN Kp Ψ0 Ψ2 fA fW wl Pr T Fn j0 ((k+1,3,.tree (Q7 P SB BB zZ Gn ty Wg zN Ψ0 Ψ2 fA fW wl Pr T Fn k ts.tp x.H) (x.g,x.w)),(b6 j).map M,(rk (Vc j D),fu)) gs W sl t:=by
 subst zT hfu;by_cases hq:Q7 P SB BB zZ Gn ty Wg zN Ψ0 Ψ2 fA fW wl Pr T Fn k ts.tp x.H x.g x.w
 .obtain⟨G',child,x',xk,MT,o,Po,Q,zK,hsp,hT',a6,hS,hQ,zT⟩:=hq x a W rfl ⟨rfl,rfl,rfl⟩ rfl hr.t hr.wl hr.gl (h.wi.cw.like 0 x h.L0) (λe=>h.wi.Hv.1 (by cases ts<;>first|rfl|cases e)) (h.wi.cw.Jz 0 x h.L0 h.wi.Rb) (h.wi.cw.Np 0 x h.L0) (h.wi.cw.Fg 0 x h.L0);have zA:=runT_crowd_spawn (P:=P.b) (sl:=sl) (i:=0) h.a0 (by simpa using zK);rw[h.wi.size] at zA;have e0:∀(p q:s5),((bs 0 a.L.fn a.L.LH #[]).LE p).LE q=#[p,q]:=λp q=>by rw[gB];simp
  rw[e0] at zA;obtain⟨hw,a8⟩:=h.wi.spawn h.L0 hsp hQ zT.1 zT.2 h.LE (p:={ g:=0,fn:=a.L.fn,pos:=a.L.LH,act:=.go (j+1) }) (q:={ g:=j+1,fn:=child.L.fn,pos:=a.L.LH,act:=.start }) ⟨rfl,rfl⟩ ⟨rfl,rfl⟩;obtain⟨ho,zG,hsm,_⟩:=h.mode.open_inv trivial;have eV:Vc (j+1) (upd D j ⟨7,0,0⟩)=Vc j D+1:=by
   simp only[Vc,sumTo,qq];rw[sumTo_upd_out D _ cnt (AK _)];rfl
  have hm:jk (j+1) (upd D j ⟨7,0,0⟩) (.sp 0 5) st sm:=by
   have e:st=((Vc (j+1) (upd D j ⟨7,0,0⟩)+pend (.sp 0 5):Nat):Int)*KK:=by rw[zG,eV];simp[pend]
   rw[e,hsm];refine .opn trivial (λi hi=>?_) (by simp);by_cases e:i=j
   .subst e;rw[qq];simp
   .rw[upd_ne D _ e];exact ho i (by omega)
  have aA:=h.bd
  refine⟨_,_,((k,9,.tree (Kw P SB BB zZ Gn ty Wg zN Ψ0 Ψ2 fA fW wl Pr T Fn k MT x'.H) (x'.g,x'.w)),(b6 (j+1)).map (upd M j (.born Q (xk.g,xk.w))),(0,0)),zA,bw _ _ (bw _ _ (De k)),
   j+1,_,W,sl,_,_,_,_,_,rr,st,sm,.sp 0 5,0,λ_=>0,0,x',G',rfl,⟨hw,by rw[a8];exact .free hS a6 hT' hsp.gl,by rw[EJ _ _ (by omega)];exact EG L _ _,?_,?_,hm,λe=>by simp at e,by simp only at aA ⊢;omega⟩,rfl⟩
  .rw[Array.getElem?_push_lt (by simp[h.wi.size]),<-AV];simp[h.wi.size]
  .rw[Deaf_still t 0 _ (λop hop=>?_),h.LE];simp only[Cd,AT,AQ,or_false] at hop;rcases hop with rfl|rfl<;>exact⟨by simp,by simp⟩
 .exact mQ lib tz a7 h (by simp) hr.run hq hr.gl hr.wl hr.t fun x' G W e1 e2 e3 e4 e5 => by
   have hR:Rest P SB BB zZ Gn ty Wg zN Ψ0 Ψ2 fA fW wl Pr T Fn k x' ts.tp G:=⟨by rw[e1];exact e4,e3,e2,e5⟩;have:=Gx.mid (W:=W) hR;rw[e1] at this;exact this
def step0 (aH:Pr wl Wg)(lib:∀H,Lib P SB H zZ BB Gn)(tz:ax zN Ψ0)(a8:ax zN Ψ2)(hA:Nq P SB BB zZ Gn ty Wg fA wl T)(hW:jQ P SB BB zZ Gn ty Wg fW wl T)
  (h:MI P SB BB zZ Gn ty Wg zO zN Kp Ψ0 Ψ2 fA fW wl Pr T Fn j0 pre j gs W t D M O L ts rr st sm tag d0 rk fu x a) (zA:a.status=.L) :
  L8 P SB BB zZ Gn ty Wg zO zN Kp Ψ0 Ψ2 Pr T Fn j0 (b9 gs W sl) t\/Stepped P SB BB zZ Gn ty Wg zO zN Kp Ψ0 Ψ2 fA fW wl Pr T Fn j0 (pre,(b6 j).map M,(rk (Vc j D),fu)) gs W sl t:=by
 by_cases h3:pre.2.1≠9/\pre.2.1≠3/\pre.2.1≠4
 .exact Nr tz a8 h zA h3
 have aB:=h.QJ;have go : ∀ {tag' : CTag} {d1 : Nat} {k q q' : Nat} {w1 w : Wm} {MU : Nat -> Nat} {MV : Nat} {g' : J}, q < q' -> q ≠ 9 ∧ q ≠ 3 ∧ q ≠ 4 -> pre = (k, q', w) -> jk j D tag' st sm -> tag' ≠ .ret -> wq t 0 = d1 ->
   Gx P SB BB zZ Gn ty Wg zN Ψ0 Ψ2 fA fW wl Pr T Fn tag' d1 (k,q,w1) MU MV { x with g:=g' } ts.tp a W->L8 P SB BB zZ Gn ty Wg zO zN Kp Ψ0 Ψ2 Pr T Fn j0 (b9 gs W sl) t\/Stepped P SB BB zZ Gn ty Wg zO zN Kp Ψ0 Ψ2 fA fW wl Pr T Fn j0 (pre,(b6 j).map M,(rk (Vc j D),fu)) gs W sl t:=by
  intro tag' d1 k q q' w1 w MU MV g' hq hq' a6 hm zU hd hs;have aA:=h.bd;subst a6;have h':MI P SB BB zZ Gn ty Wg zO zN Kp Ψ0 Ψ2 fA fW wl Pr T Fn j0 (k,q,w1) j gs W t D M O (put L 0 (E { x with g:=g' })) ts rr st sm tag' d1 MU MV { x with g:=g' } a :=
   ⟨h.wi.reg h.L0 g',hs,EG L _ _,h.a0,hd,hm,λe=>AS e zU,aA⟩
  rcases Nr (sl:=sl) tz a8 h' zA hq' with hf|⟨m',ops,aC,k1,k2,k3⟩
  .exact .inl hf
  .exact .inr ⟨m',ops,aC,k1,DP hq k2,k3⟩
 have wait:∀ {k:Nat} {w:Wm},pre=(k,9,w)->tag=.sp 0 5->d0=0->iu P fW wl Fn ts.tp x.H x.g x.w->Pr.le x.β->x.T=T->Fx P SB BB zZ x a->L8 P SB BB zZ Gn ty Wg zO zN Kp Ψ0 Ψ2 Pr T Fn j0 (b9 gs W sl) t\/Stepped P SB BB zZ Gn ty Wg zO zN Kp Ψ0 Ψ2 fA fW wl Pr T Fn j0 (pre,(b6 j).map M,(rk (Vc j D),fu)) gs W sl t:=by
  rintro k w a6 ht hd ⟨fr,cs,e,aD,hfn⟩ a7 hT hg;obtain⟨gR,m,Hs,k1,k2,k3⟩:=hW x a W fr cs e aD hT (a7 _ _ aH) hg (h.wi.cw.like 0 x h.L0) h.wi.live;refine go (q:=2) (g':=back fr cs) (by omega) (by omega) a6 (by have:=h.mode;rw[ht] at this;exact this.L (tag':=.kd) trivial trivial rfl (by simp)) (by simp) (h.LE.trans hd) (.QH k1 ?_ k2);exact⟨hfn,a7,hT,k3⟩
 generalize a6:pre=pre0 at aB;cases aB with
 |@free k _ _ _ _ hr a7 hT hg =>
  by_cases hq:Kw P SB BB zZ Gn ty Wg zN Ψ0 Ψ2 fA fW wl Pr T Fn k ts.tp x.H x.g x.w
  .cases k with
   |zero=>rw[<-a6];exact wait a6 rfl rfl hq a7 hT hg
   |succ k =>
    rw[<-a6];obtain hq|⟨fr,cs,e,aD,aF⟩:=hq
    .exact wait a6 rfl rfl hq a7 hT hg
    .obtain⟨gR,m,k1,k2⟩:=hA x a W fr cs e aD hT (a7 _ _ aH) hg (h.wi.cw.like 0 x h.L0) h.wi.live;exact go (q:=8) (g':=back fr cs) (by omega) (by omega) a6 h.mode (by simp) h.LE (.QF k1 ⟨aF,a7,hT,k2⟩)
  .rw[a6] at h
   exact .inr (mQ lib tz a8 h (by simp) hr hq hg a7 hT λx' G W e1 e2 e3 e4 e5=>by
    have:=Gx.free (P:=P) (SB:=SB) (BB:=BB) (zZ:=zZ) (Gn:=Gn) (ty:=ty) (Wg:=Wg) (zN:=zN) (Ψ0:=Ψ0) (Ψ2:=Ψ2) (fA:=fA) (fW:=fW) (wl:=wl) (Pr:=Pr) (T:=T) (Fn:=Fn) (k:=k) (x:=x') (tp:=ts.tp) (W:=W) (by rw[e1];exact e4) e3 e2 e5;rw[e1] at this
    exact this)
 |mid hr=>rw[a6] at h;exact .inr (Ns lib tz a8 h hr rfl rfl)
 |KO hk hr =>
  obtain aG|⟨m',rfl,hstep⟩:=Goes.cases hk
  .have e:=aG W (RL.refl W);subst e;have aA:=h.bd;rw[a6] at h aA;have h':=MI.mk (Fn:=Fn) (fA:=fA) (fW:=fW) (wl:=wl) (Pr:=Pr) (T:=T) h.wi (.mid hr) h.L0 h.a0 h.LE h.mode (λe=>by simp at e) aA;obtain⟨m',ops,aC,k1,k2,k3⟩:=Ns (sl:=sl) lib tz a8 h' hr rfl rfl;exact .inr ⟨m',ops,aC,k1,DP (by omega) k2,k3⟩
  .obtain⟨a',w',es,zK,⟨rfl,rfl⟩,aI⟩:=hstep W (RL.refl W);rw[a6] at h;exact .inr (h.LH tz a8 zK (.refl Wg w') h.wi.wg G6 (.KO aI hr) h.mode (by simp) (AK _) (.inl (gf (by omega))))
 |_ =>
  subst a6;exact AS ⟨by simp,by simp,by simp⟩ h3
end
open Go.ConcR (KK WgAt stA smA rd wr mk DC0 Bk g_of_ofEvents bk_of_mute ofEvent_loc_mark ofEvent_cell ofEvent_mk)
section
variable {P:EK} {SB BB:bk->Bool} {zZ:Bool} {Gn:Nat} {ty Wg:Nat} {zO zN:Nat->Prop} {Kp:IB} {Ψ0 Ψ2:bh->Prop} {fA fW:bk} {wl:Nat} {Pr:Ey} {T:List b7} {Fn:Bool->Hid->J->bh->Prop}
 {j0 j:Nat} {gs:Array J} {W W':bh} {t:cf} {D:Nat->WD} {M:Nat->Wm} {O:Nat->Bool} {L:Nat->Option Lone} {ts ts':TS} {rr:Nat->Nat} {st sm JD J8:Int} {a a':J}
 {tag tag':CTag} {d0:Nat} {pre pre':Pre} {rk MU:Nat->Nat} {fu MV:Nat} {x:Lone} {sl:Option (Nat×Nat)}
def G3.leaving {s d:Nat}{m:Wm}{x:Option Lone}{o:Bool}{g:J}(h:G3 P SB BB zZ Gn ty Wg Ψ2 s d m x o g W)(hs:s=1):(∃q,nx P.b q d g)/\o=false:=by
 cases h<;>first|(exact AS hs (by decide))|(exact⟨⟨_,‹_›⟩,rfl⟩)
def WI.at (h:WI P SB BB zZ Gn ty Wg zO zN Kp Ψ0 Ψ2 j0 j gs W t D M O L ts rr st sm)(tz:ax zN Ψ0)(a6:ax zN Ψ2)(d:Nat):WI P SB BB zZ Gn ty Wg zO zN Kp Ψ0 Ψ2 j0 j gs (W.at d) t D M O L ts rr st sm :=
 ⟨h.size,λi hi=>let ⟨g,hg,hs⟩:=h.wk i hi;⟨g,hg,hs.rely λx=>x⟩,h.cw.at d,h.tr,h.LK,h.deafW,h.rel,h.wg,h.KN,h.LC,⟨λe=>tz W _ (λ_ _=>rfl) (h.Hv.1 e),λe=>a6 W _ (λ_ _=>rfl) (h.Hv.2 e)⟩,h.out,h.old,h.jj⟩
def MI.at (h:MI P SB BB zZ Gn ty Wg zO zN Kp Ψ0 Ψ2 fA fW wl Pr T Fn j0 pre j gs W t D M O L ts rr st sm tag d0 rk fu x a)(tz:ax zN Ψ0)(a6:ax zN Ψ2)(d:Nat):MI P SB BB zZ Gn ty Wg zO zN Kp Ψ0 Ψ2 fA fW wl Pr T Fn j0 pre j gs (W.at d) t D M O L ts rr st sm tag d0 rk fu x a :=
 ⟨h.wi.at tz a6 d,h.QJ.rely λx=>x,h.L0,h.a0,h.LE,h.mode,h.acq,h.bd⟩
def Rc (lib:∀H,Lib P SB H zZ BB Gn)(a8:∀(f:bk) (fn:eA),P.a.L[f]?=E fn->fn.body.L=br->P.fs[f]?=E fn)(tz:ax zN Ψ0)(aA:ax zN Ψ2)
  (h:MI P SB BB zZ Gn ty Wg zO zN Kp Ψ0 Ψ2 fA fW wl Pr T Fn j0 pre j gs W t D M O L ts rr st sm tag d0 rk fu x a) {i:Nat} (hi:i<j) {g:J} (hg:gs[i+1]?=E g) (zA:g.status=.L) :
  ∃m' ops a7,runT P.b (b9 gs W sl) (i+1)=(.next m',ops)/\PN P.a a7 (pre,(b6 j).map M,(rk (Vc j D),fu))/\NR P SB BB zZ Gn ty Wg zO zN Kp Ψ0 Ψ2 fA fW wl Pr T Fn j0 a7 m' (t++ops):=by
 have aB:=h.bd;have hpend:pend tag<=1:=by cases tag<;>simp[pend]<;>split<;>omega
 obtain⟨g',W',es,D',M',O',L',ts',aC,JD,J8,k1,k2,k3,k4,k5,k6,k7,k8,aD⟩:=moved lib a8 h.wi tz aA hi hg zA h.mode (by omega);obtain⟨tag',MU,MV,s1,s2,s3⟩:=h.QJ.wokenBy (W':=W') (λ_=>k2.live) g g'
 refine⟨_,_,(pre,(b6 j).map M',(MU (Vc j D'),MV)),cq (P:=P.b) (sl:=sl) (i:=i+1) hg (by simpa using k1),?_,j,_,W',sl,D',M',O',L',ts',aC,JD,J8,tag',d0,MU,MV,x,woken P.b g g' W' a,rfl,
  ⟨k2,by rw[aD];exact s1,k6.trans h.L0,by rw[get_map_set _ _ _ _ (by omega),h.a0];rfl,by rw[cu t (by omega) _ g_of_ofEvents,h.LE],k3 tag' s2 s3,λe=>?_,aB⟩,rfl⟩
 .refine bA _ (bw _ _ ?_);obtain⟨_,_,hs⟩:=h.wi.wk i hi;have e:(b6 j).map M'=((b6 j).map M).Lo i (M' i):=by
   apply List.ext_getElem (by simp);intro b h1 h2;simp only[nA,ll];rw[List.getElem_set];split
   .rename_i e;rw[e]
   .rename_i e;simp only[nA,ll];exact k5 b (by omega)
  rw[e];exact One.Lo (by simp[hi]) ⟨k4,hs.acc⟩
 .have ht : tag = .ret := by
   obtain e'|⟨_,e'⟩:=s2
   .rw[<-e'];exact e
   .rw[e'] at e;cases e
  have hm:=h.mode;rw[ht] at hm;obtain⟨hq,_,_⟩:=hm.fin_inv trivial;obtain⟨q,q1,q2,q3,q4⟩:=(h.acq ht).app (u:=bs (i+1) g.L.fn g.L.LH es);exact⟨q,q1,q2,q3,λb hb0 a6=>by rw[(k8 b a6 (by rw[hq b a6];omega)).2];exact q4 b hb0 a6⟩
def Jc {D:Nat->WD}:∀ {j:Nat},1<=Vc j D->∃i,i<j/\5<=(D i).stage
 |0,h=>by simp[Vc,sumTo] at h
 |j+1,h=>by
  by_cases hc:5<=(D j).stage
  .exact⟨j,by omega,hc⟩
  .have:1<=Vc j D:=by simp only[Vc,sumTo,cnt,AN hc] at h ⊢;simpa using h
   obtain⟨i,hi,h5⟩:=Jc this;exact⟨i,by omega,h5⟩
def MI.Pw (h:MI P SB BB zZ Gn ty Wg zO zN Kp Ψ0 Ψ2 fA fW wl Pr T Fn j0 pre j gs W t D M O L ts rr st sm tag d0 rk fu x a):∃(i:Nat) (g:J),gs[i]?=E g/\g.status=.L:=by
 have runs:∀i,i<j->(D i).stage≠1->∃g,gs[i+1]?=E g/\g.status=.L:=λi hi hs=>by
  obtain⟨g,hg,hk⟩:=h.wi.wk i hi;obtain e|⟨_,e⟩:=hk.status
  .exact⟨g,hg,e⟩
  .exact AS e hs
 obtain⟨hs,_⟩|⟨_,e⟩:=h.QJ.status
 .exact⟨0,a,h.a0,hs⟩
 .subst e;have hm:=h.mode;cases hm with
  |opn h1 _ _=>exact h1.S
  |reg _ _ h3 =>
   obtain⟨i,hi,h5⟩:=Jc h3;obtain⟨g,hg,hr⟩:=runs i hi (by omega);exact⟨i+1,g,hg,hr⟩
  |last Lx _ h2 h3 _ =>
   obtain⟨g,hg,hr⟩:=runs Lx h2 (by omega);exact⟨Lx+1,g,hg,hr⟩
  |fin h1 _=>exact h1.S
def MI.awake (h:MI P SB BB zZ Gn ty Wg zO zN Kp Ψ0 Ψ2 fA fW wl Pr T Fn j0 pre j gs W t D M O L ts rr st sm tag d0 rk fu x a):∀g∈gs,sS g:=by
 intro g hg tm;obtain⟨i,hi⟩:=Array.mem_iff_getElem?.1 hg;cases i with
 |zero =>
  rw[h.a0] at hi;cases hi;rcases h.QJ.status with⟨hs,_⟩|⟨hs,_⟩<;>rw[hs]<;>simp
 |succ i =>
  have zY:i<j:=by have:=(AJ.1 hi).1;rw[h.wi.size] at this;omega
  obtain⟨g',a6,hs⟩:=h.wi.wk i zY;rw[hi] at a6;cases a6;rcases hs.status with e|⟨e,_⟩<;>rw[e]<;>simp
def Re (a8:Pr wl Wg)(lib:∀H,Lib P SB H zZ BB Gn)(aA:∀(f:bk) (fn:eA),P.a.L[f]?=E fn->fn.body.L=br->P.fs[f]?=E fn)(tz:ax zN Ψ0)(a7:ax zN Ψ2)(hA:Nq P SB BB zZ Gn ty Wg fA wl T)(hW:jQ P SB BB zZ Gn ty Wg fW wl T):∀μ m t,NR P SB BB zZ Gn ty Wg zO zN Kp Ψ0 Ψ2 fA fW wl Pr T Fn j0 μ m t ->
  L8 P SB BB zZ Gn ty Wg zO zN Kp Ψ0 Ψ2 Pr T Fn j0 m t\/∃m' ops a6,stepT P.b m=(.next m',ops)/\PN P.a a6 μ/\NR P SB BB zZ Gn ty Wg zO zN Kp Ψ0 Ψ2 fA fW wl Pr T Fn j0 a6 m' (t++ops):=by
 rintro⟨pre,r⟩ m t ⟨j,gs,W,sl,D,M,O,L,ts,rr,st,sm,tag,d0,rk,fu,x,a,rfl,h,hr⟩;simp only at h hr;subst hr;obtain⟨i,g,d,sl',hg,zA,hstep⟩:=ln (P:=P.b) (w:=W) (sl:=sl) h.awake h.Pw;have h':=h.at tz a7 d;cases i with
 |zero =>
  rw[h.a0] at hg;cases hg;by_cases hf:L8 P SB BB zZ Gn ty Wg zO zN Kp Ψ0 Ψ2 Pr T Fn j0 (b9 gs W sl) t
  .exact .inl hf
  .rcases step0 (sl:=sl') a8 lib tz a7 hA hW h' zA with hf'|⟨m',ops,a6,k1,k2,k3⟩
   .exfalso;apply hf;obtain⟨j2,aB,W2,aG,D2,M2,O2,L2,aC,rr2,aD,aF,x2,a2,e,q1,q2,q3,q4,q5,q6,q7⟩:=hf';have e1:gs=aB:=Bh Machine.gs e;have e2:W.at d=W2:=Bh Machine.world e;subst e1;subst e2;exact⟨j2,gs,W,sl,D2,M2,O2,L2,aC,rr2,aD,aF,x2,a2,rfl,q1.at tz a7 W.drawn,q2,q3,q4,q5,q6,q7⟩
   .exact .inr ⟨m',ops,a6,by rw[hstep];exact k1,k2,k3⟩
 |succ i =>
  have hi:i<j:=by have:=(AJ.1 hg).1;rw[h.wi.size] at this;omega
  obtain⟨m',ops,a6,k1,k2,k3⟩:=Rc (sl:=sl') lib aA tz a7 h' hi hg zA;exact .inr ⟨m',ops,a6,by rw[hstep];exact k1,k2,k3⟩
def join (a6:Pr wl Wg)(lib:∀H,Lib P SB H zZ BB Gn)(a7:∀(f:bk) (fn:eA),P.a.L[f]?=E fn->fn.body.L=br->P.fs[f]?=E fn)(tz:ax zN Ψ0)(a8:ax zN Ψ2)(hA:Nq P SB BB zZ Gn ty Wg fA wl T)(hW:jQ P SB BB zZ Gn ty Wg fW wl T){μ:Mu}{m:ek}(h:NR P SB BB zZ Gn ty Wg zO zN Kp Ψ0 Ψ2 fA fW wl Pr T Fn j0 μ m t) :
  ∃N m' t',runNT P.b N m t=(.next m',t')/\L8 P SB BB zZ Gn ty Wg zO zN Kp Ψ0 Ψ2 Pr T Fn j0 m' t' :=
 jP (PN.wf P.a) _ _ (Re a6 lib a7 tz a8 hA hW) μ m t h
def Ma {m:ek}(h:L8 P SB BB zZ Gn ty Wg zO zN Kp Ψ0 Ψ2 Pr T Fn j0 m t) :
  ∃(gs:Array J) (W:bh) (sl:Option (Nat×Nat)) (x:Lone) (a:J) (tp:Bool) (q:Nat->Nat),m=b9 gs W sl/\gs[0]?=E a/\ql P.b t gs q/\Past (Nn zO Wg) W.L.size t/\Quiet (Nn zO Wg) t/\(∀(i:Nat) (op:s5),t[i]?=E op->op.g<gs.size) /\
   Ka P SB BB zZ Pr T Fn x tp a/\GQ P SB zZ Gn x W/\x.H.Fg=ak/\(∀b,x.β b Wg->x.H b=br)/\(∀b B,x.β b B->¬zO B)/\(∀b B,x.β b B->zN B->x.H b=br) /\
   (∀B,Kp.at_ B->W.L[B]?=Kp.w.L[B]?)/\Wg<W.L.size/\(∀B,zO B->B<W.L.size)/\(tp=br->Ψ0 W)/\(tp=ak->Ψ2 W)/\W.os=Kp.w.os/\W.output=Kp.w.output/\gs.size<=Kp.bd/\∀b B,x.β b B->Kp.at_ B->x.H b=br\/Ro x.w b:=by
 obtain⟨j,gs,W,sl,D,M,O,L,ts,rr,st,sm,x,a,rfl,hw,hf,hL,ha,hd,hq,aB,hjb⟩:=h;obtain⟨q,q1,q2,q3,q4⟩:=aB;have quits:∀i g,i<j->gs[i+1]?=E g->∃n,nx P.b n (wq t (i+1)) g:=λi g hi hg=>by
  obtain⟨g',a8,hk⟩:=hw.wk i hi;rw[hg] at a8;cases a8;rw[hw.deafW i hi];exact(hk.leaving (hq i hi)).1
 have a6:∀i,∃n,∀g,0<i->gs[i]?=E g->nx P.b n (wq t i) g:=λi=>by
  by_cases h0:0<i/\i<j+1
  .obtain⟨i',rfl⟩:∃i',i=i'+1:=⟨i-1,by omega⟩;cases hg:gs[i'+1]? with
   |none=>exact⟨0,λg _ e=>by cases e⟩
   |some g =>
    obtain⟨n,hn⟩:=quits i' g (by omega) hg;exact⟨n,λg2 _ e=>by cases e;exact hn⟩
  .refine⟨0,λg h1 e=>?_⟩;have:=(AJ.1 e).1;rw[hw.size] at this;omega
 refine⟨gs,W,sl,x,a,ts.tp,λi=>Classical.choose (a6 i),rfl,ha,⟨λi g h0 hg=>Classical.choose_spec (a6 i) g h0 hg,λi hi=>Deaf_absent λb op hb e=>?_⟩,?_,hw.tr.ti.LE,λi op hi=>by rw[hw.size];exact hw.tr.ti.gs i op hi,hf,hw.cw.like 0 x hL,hw.cw.Fg 0 x hL,hw.cw.Np 0 x hL,hw.cw.dead 0 x hL,hw.cw.Jz 0 x hL hw.Rb,λB hB=>(hw.cw.keep B hB).2.2,hw.cw.LK.1,hw.cw.LK.2.1,λe=>hw.Hv.1 ?_,λe=>hw.Hv.2 ?_,hw.cw.OC.1,hw.cw.OC.2,by rw[hw.size];exact hjb,hw.cw.F2 0 x hL⟩
 .have:=hw.tr.ti.gs b op hb;rw[hw.size] at hi;omega
 .refine hw.tr.past q1 q2 q3 hd hw.LK λk i hg zU aC=>?_;obtain⟨b,rfl,hb0,a7,hb⟩:=aC;have h1:=hq b a7;refine⟨rr b,hw.rel b hb0 a7 (by omega),q4 b hb0 a7,hb.L (by omega)⟩
 .cases ts<;>first|rfl|cases e
 .cases aA:ts with
  |done=>rfl
  |start=>rw[aA] at e;cases e
  |at_ k =>
   exfalso;obtain⟨b,hb,_,ho⟩:=hw.LC k aA;obtain⟨g,_,hk⟩:=hw.wk b hb;have:=(hk.leaving (hq b hb)).2;rw[ho] at this;cases this
end
open Go.RowKit Go.Conc.Lib Go.ConcR.Gen Go.ConcN.Gen
open Go.ConcR (KK wgBlock WgAt stA smA rd wr mk Payload Aside2 DC0)
variable {L:n4}
def addNeg {P:bq}(H:q8 P L){Wg:Nat}{b₀:b7}{a₀:Act}{ops₀:Array q9}{i₀:Nat}{rest₀:List Nat}{k₀:List vk}{cs:List b7}{qt:Nat}
  (hT:nx P qt 0 (G (b₀.at (a₀.put ((ops₀[i₀]?).bind (·.L)) (.tuple #[])) (.inRegion ops₀ rest₀::k₀)) cs)) (w:bh) (hK:eb L.tWg Wg w) :
  GW P L.tWg Wg ak (R0 P L.tWg Wg) 150 (G ((base L.add).at ⟨#[.S (E ⟨Wg,0,er⟩),vo vq (-1),undef,undef,undef,undef,undef,undef,undef,undef,undef,undef,undef,undef,undef,undef,undef,undef,undef,undef,undef,undef,undef,undef,undef,undef,undef,undef,undef,undef,undef,undef,undef,undef,undef,undef,undef,undef,undef,undef,undef,undef,undef,undef,undef,undef,undef,undef,undef,undef,undef,undef,undef,undef,undef,undef,undef,undef,undef,undef,undef,undef,undef,undef,undef,undef,undef,undef,undef,undef,undef,undef,undef,undef,undef,undef,undef,undef,undef,undef,undef,undef,undef,undef,undef,undef,undef,undef,undef,undef,undef,undef,undef,undef,undef,undef,undef,undef,undef,undef,undef,undef,undef,undef,undef,undef,undef,undef,undef,undef,undef,undef,undef,undef,undef,undef,undef],[]⟩ [.code (j3 L)]) (b₀.at a₀ (.inRegion ops₀ (i₀::rest₀)::k₀)::cs)) w:=by
 lib_facts
 simp only[j3,addFn,Bf]
 u_c Y rl hK
 u_cond br rl hK
 iterate 2 u_c Y rl hK
 u_reg rl hK
 iterate 2 u_op rl hK
 u_c Z rl hK
 u_cond br rl hK
 u_reg rl hK
 u_op rl hK
 u_conv H.underlying_tWgP H.room_tWg (WgLive.cell0 hK).choose_spec rl hK
 refine Goes.stop (λw₁ h₁=>?_);replace hK:=rl hK h₁;refine⟨rfl,_,e7 .releaseMerge (by simp) rfl rfl (by k_ne) rfl H.f_relMerge (x_relMerge_n L) (x_relMerge_b L) (x_relMerge_x L) (x_relMerge_f L) (by simp[e8,stA]),150,?_⟩
 walk_nrm
 u_c Z rl hK
 u_c Y rl hK
 u_reg rl hK
 refine Goes.stop (λw₁ h₁=>?_);replace hK:=rl hK h₁;refine⟨rfl,_,gU .disable (by simp) rfl rfl (by k_ne) rfl H.f_disable (om L) (oo L) (oq L) (oK L),150,?_⟩
 walk_nrm
 u_c Z rl hK
 u_reg rl hK
 u_defer rl hK
 u_c Z rl hK
 u_c Y rl hK
 u_reg rl hK
 u_op rl hK
 u_c Z rl hK
 iterate 2 u_c Y rl hK
 u_reg rl hK
 u_bub rl hK
 u_c Z rl hK
 u_cond ak rl hK
 u_c I rl hK
 u_c Y rl hK
 u_reg rl hK
 iterate 6 u_op rl hK
 u_call H.S (nm_uAdd L) uAddFn rl hK
 u_c Y rl hK
 u_reg rl hK
 u_op rl hK
 u_c Z rl hK
 u_c Y rl hK
 u_reg rl hK
 iterate 4 u_op rl hK
 refine Goes.stop (λw₁ h₁=>?_);refine⟨rfl,λv wt hwt hv hw=>?_⟩;have e0:IntKind.u64.wrap (KK+18446744069414584320)=0:=by decide
 have e1:IntKind.u64.wrap (KK+1+18446744069414584320)=1:=by decide
 rcases Bw v with rfl|hvp<;>(obtain rfl|rfl:wt=0\/wt=1:=by omega)
 .replace hw:WgAt L.tWg Wg w₁ KK 0:=by simpa using hw
  have z:((0:Nat):Int)*KK+((0:Nat):Int)=0:=by simp
  rw[z];refine⟨_,(cF rfl rfl (by k_ne) rfl H.H (fc L) (fq L) (fx L) .u64 (gg L) rfl rfl hw.L (hw.LH 0)).trans (by rw[e0];rfl),λhl=>AS hl.2 (by decide),λ_=>⟨qt+89,?_⟩⟩
  walk_nrm
  q_val (.int .u64 0)
  q_c Z
  q_c bD
  q_leave1 H.S
  q_val (.int .u64 0)
  q_c Z
  iterate 2 q_c Y
  q_reg
  iterate 2 q_val (.int .u64 0)
  iterate 2 q_val (.bool ak)
  q_skip
  q_skip
  q_val (.bool ak)
  q_c Z
  q_cond ak
  q_c I
  q_c Y
  q_reg
  iterate 2 q_val (.int .u64 0)
  iterate 2 q_val (.int .i32 0)
  q_c Z
  q_c Y
  q_reg
  iterate 2 q_val (.int .u64 0)
  iterate 2 q_val (.int .u32 0)
  q_c Z
  iterate 2 q_c Y
  q_reg
  q_val (.bool br)
  q_val (vo vq (-1))
  iterate 3 q_val (.bool ak)
  q_skip
  q_skip
  q_skip
  q_skip
  q_val (.bool ak)
  q_c Z
  q_cond ak
  q_c I
  iterate 2 q_c Y
  q_reg
  q_val (.int .i32 0)
  q_val (.bool ak)
  q_c Z
  q_cond ak
  q_c I
  iterate 2 q_c Y
  q_reg
  q_val (.int .u32 0)
  iterate 2 q_val (.bool ak)
  q_skip
  q_skip
  iterate 2 q_val (.bool ak)
  q_skip
  q_skip
  q_skip
  q_skip
  q_val (.bool ak)
  q_c Z
  q_cond ak
  q_c I
  iterate 2 q_c Y
  q_reg
  q_val (.int .i32 0)
  iterate 2 q_val (.bool ak)
  q_val (.int .u32 0)
  iterate 2 q_val (.bool br)
  q_c Z
  q_cond br
  q_c bD
  q_enable
  q_leave0 H.f_add
  exact hT
 .replace hw:WgAt L.tWg Wg w₁ (KK+1) 0:=by simpa using hw
  have z:((0:Nat):Int)*KK+((1:Nat):Int)=1:=by simp
  rw[z];refine⟨_,(cF rfl rfl (by k_ne) rfl H.H (fc L) (fq L) (fx L) .u64 (gg L) rfl rfl hw.L (hw.LH 0)).trans (by rw[e1];rfl),λ_=>⟨150,?_⟩,λhl=>AS ⟨rfl,rfl⟩ hl⟩;have hF:eb L.tWg Wg (w₁.LH (stA Wg) (.int .u64 1)):=⟨_,_,hw.setSt 1⟩
  walk_nrm
  u_op rl hF
  u_c Z rl hF
  u_c bD rl hF
  u_leave1 H.S rl hF
  u_op rl hF
  u_c Z rl hF
  iterate 2 u_c Y rl hF
  u_reg rl hF
  iterate 4 u_op rl hF
  iterate 2 u_skip rl hF
  u_op rl hF
  u_c Z rl hF
  u_cond ak rl hF
  u_c I rl hF
  u_c Y rl hF
  u_reg rl hF
  iterate 4 u_op rl hF
  u_c Z rl hF
  u_c Y rl hF
  u_reg rl hF
  iterate 4 u_op rl hF
  u_c Z rl hF
  iterate 2 u_c Y rl hF
  u_reg rl hF
  iterate 5 u_op rl hF
  iterate 4 u_skip rl hF
  u_op rl hF
  u_c Z rl hF
  u_cond ak rl hF
  u_c I rl hF
  iterate 2 u_c Y rl hF
  u_reg rl hF
  iterate 2 u_op rl hF
  u_c Z rl hF
  u_cond ak rl hF
  u_c I rl hF
  iterate 2 u_c Y rl hF
  u_reg rl hF
  iterate 7 u_op rl hF
  iterate 4 u_skip rl hF
  u_op rl hF
  u_c Z rl hF
  u_cond ak rl hF
  u_c I rl hF
  iterate 2 u_c Y rl hF
  u_reg rl hF
  iterate 6 u_op rl hF
  u_c Z rl hF
  u_cond ak rl hF
  u_c I rl hF
  iterate 2 u_c Y rl hF
  u_reg rl hF
  iterate 3 u_op rl hF
  u_call H.L (vt L) uLoadFn rl hF
  u_c Y rl hF
  u_reg rl hF
  u_op rl hF
  u_c Z rl hF
  u_c Y rl hF
  u_reg rl hF
  iterate 3 u_op rl hF
  refine Goes.stop (λw₂ h₁=>?_);refine⟨rfl,λhw=>⟨_,dy rfl rfl (by k_ne) rfl H.f_loadU64 (kn L) (ko L) (kp L) .u64 (kq L) rfl hw.L,150,?_⟩⟩;have hF:eb L.tWg Wg w₂:=⟨_,_,hw⟩
  walk_nrm
  u_op rl hF
  u_c Z rl hF
  u_c bD rl hF
  u_leave1 H.L rl hF
  iterate 2 u_op rl hF
  u_c Z rl hF
  u_cond ak rl hF
  u_c I rl hF
  u_c Y rl hF
  u_reg rl hF
  iterate 3 u_op rl hF
  u_call H.f_uStore (nm_uStore L) uStoreFn rl hF
  u_reg rl hF
  iterate 4 u_op rl hF
  refine Goes.stop (λw₃ h₁=>?_);refine⟨rfl,λhw=>⟨_,stepG_store_atomic rfl rfl (by k_ne) rfl H.f_storeU64 (x_storeU64_n L) (x_storeU64_b L) (x_storeU64_x L) (x_storeU64_f L) rfl rfl hw.L (hw.LH 0),150,?_⟩⟩;have hF:eb L.tWg Wg (w₃.LH (stA Wg) (.int .u64 0)):=⟨_,_,hw.setSt 0⟩;clear hw
  walk_nrm
  u_c Z rl hF
  u_c s7 rl hF
  u_leave0 H.f_uStore rl hF
  u_c Z rl hF
  iterate 2 u_c Y rl hF
  u_reg rl hF
  u_op rl hF
  u_c Z rl hF
  u_cond ak rl hF
  u_c I rl hF
  u_c kv rl hF
  u_c stepG_loop rl hF
  iterate 2 u_c Y rl hF
  u_reg rl hF
  iterate 2 u_op rl hF
  u_c Z rl hF
  u_cond br rl hF
  u_c I rl hF
  u_c Y rl hF
  u_c kv rl hF
  u_reg rl hF
  iterate 3 u_op rl hF
  refine Goes.stop (λw₄ h₁=>?_);clear h₁ hF;refine⟨rfl,mayWake_entry rfl rfl H.f_semrelease (rb L),λhw=>⟨_,(stepG_semrelease rfl rfl (by k_ne) rfl H.f_semrelease (x_semrelease_n L) (rb L) (x_semrelease_x L) (x_semrelease_f L) (by simp[e8,smA]) hw.cellSm (hw.LH 1)).trans (by rfl),qt+19,?_⟩⟩;clear hw
  walk_nrm
  q_c Z
  q_c stepG_inBlock
  q_reg
  q_val (.int .u32 1)
  iterate 2 q_val (.int .u32 0)
  q_c Z
  q_c stepG_inLoop
  iterate 2 q_c Y
  q_reg
  q_val (.int .u32 0)
  q_val (.bool ak)
  q_c Z
  q_cond ak
  q_exit
  q_c s7
  q_enable
  q_leave0 H.f_add
  exact hT
 .replace hw:WgAt L.tWg Wg w₁ (((v:Nat)+1)*KK+0) 0:=by simpa using hw
  have z:((v:Nat):Int)*KK+((0:Nat):Int)=(v:Int)*KK+0:=by simp
  rw[z];have hv0:0<v:=by omega
  have eS:IntKind.u64.wrap (((v:Nat)+1)*KK+0+18446744069414584320)=(v:Int)*KK+0:=by rw[ed];simp only[KK];omega
  obtain⟨S,hS⟩:∃S:Int,S=(v:Int)*KK+0:=⟨_,rfl⟩;rw[<-hS] at eS ⊢;have a1:S / 4294967296=(v:Int):=by rw[hS];simp only[KK];omega
  have a2:0<=S/\S<9223372036854775808:=by rw[hS];simp only[KK];omega
  have b1:bits .and .u64 S 2147483648=0:=by rw[hS];have:=vn v 0 (by omega) (by omega);simpa [KK] using this
  have b2:bits .and .u64 S 2147483647=0:=by rw[hS];have:=lu v 0 (by omega) (by omega);simpa [KK] using this
  clear hS z;refine⟨_,(cF rfl rfl (by k_ne) rfl H.H (fc L) (fq L) (fx L) .u64 (gg L) rfl rfl hw.L (hw.LH 0)).trans (by rw[eS];rfl),λhl=>AS hl.1 (by omega),λ_=>⟨qt+89,?_⟩⟩;clear hw
  walk_nrm
  q_vn (.int .u64 S)
  q_c Z
  q_c bD
  q_leave1 H.S
  q_vn (.int .u64 S)
  q_c Z
  iterate 2 q_c Y
  q_reg
  q_vn (.int .u64 S)
  q_vn (.int .u64 0)
  iterate 2 q_vn (.bool ak)
  q_skip
  q_skip
  q_vn (.bool ak)
  q_c Z
  q_cond ak
  q_c I
  q_c Y
  q_reg
  q_vn (.int .u64 S)
  q_vn (.int .u64 (v:Int))
  iterate 2 q_vn (.int .i32 (v:Int))
  q_c Z
  q_c Y
  q_reg
  q_vn (.int .u64 S)
  q_vn (.int .u64 0)
  iterate 2 q_vn (.int .u32 0)
  q_c Z
  iterate 2 q_c Y
  q_reg
  q_vn (.bool br)
  q_vn (vo vq (-1))
  iterate 3 q_vn (.bool ak)
  q_skip
  q_skip
  q_skip
  q_skip
  q_vn (.bool ak)
  q_c Z
  q_cond ak
  q_c I
  iterate 2 q_c Y
  q_reg
  q_vn (.int .i32 (v:Int))
  q_vn (.bool ak)
  q_c Z
  q_cond ak
  q_c I
  iterate 2 q_c Y
  q_reg
  q_vn (.int .u32 0)
  iterate 2 q_vn (.bool ak)
  q_skip
  q_skip
  iterate 2 q_vn (.bool ak)
  q_skip
  q_skip
  q_skip
  q_skip
  q_vn (.bool ak)
  q_c Z
  q_cond ak
  q_c I
  iterate 2 q_c Y
  q_reg
  q_vn (.int .i32 (v:Int))
  iterate 2 q_vn (.bool br)
  q_skip
  q_skip
  q_vn (.bool br)
  q_c Z
  q_cond br
  q_c bD
  q_enable
  q_leave0 H.f_add
  exact hT
 .replace hw:WgAt L.tWg Wg w₁ (((v:Nat)+1)*KK+1) 0:=by simpa using hw
  have z:((v:Nat):Int)*KK+((1:Nat):Int)=(v:Int)*KK+1:=by simp
  rw[z];have hv0:0<v:=by omega
  have eS:IntKind.u64.wrap (((v:Nat)+1)*KK+1+18446744069414584320)=(v:Int)*KK+1:=by rw[ed];simp only[KK];omega
  obtain⟨S,hS⟩:∃S:Int,S=(v:Int)*KK+1:=⟨_,rfl⟩;rw[<-hS] at eS ⊢;have a1:S / 4294967296=(v:Int):=by rw[hS];simp only[KK];omega
  have a2:0<=S/\S<9223372036854775808:=by rw[hS];simp only[KK];omega
  have b1:bits .and .u64 S 2147483648=0:=by rw[hS];have:=vn v 1 (by omega) (by omega);simpa [KK] using this
  have b2:bits .and .u64 S 2147483647=1:=by rw[hS];have:=lu v 1 (by omega) (by omega);simpa [KK] using this
  clear hS z;refine⟨_,(cF rfl rfl (by k_ne) rfl H.H (fc L) (fq L) (fx L) .u64 (gg L) rfl rfl hw.L (hw.LH 0)).trans (by rw[eS];rfl),λhl=>AS hl.1 (by omega),λ_=>⟨qt+89,?_⟩⟩;clear hw
  walk_nrm
  q_vn (.int .u64 S)
  q_c Z
  q_c bD
  q_leave1 H.S
  q_vn (.int .u64 S)
  q_c Z
  iterate 2 q_c Y
  q_reg
  q_vn (.int .u64 S)
  q_vn (.int .u64 0)
  iterate 2 q_vn (.bool ak)
  q_skip
  q_skip
  q_vn (.bool ak)
  q_c Z
  q_cond ak
  q_c I
  q_c Y
  q_reg
  q_vn (.int .u64 S)
  q_vn (.int .u64 (v:Int))
  iterate 2 q_vn (.int .i32 (v:Int))
  q_c Z
  q_c Y
  q_reg
  q_vn (.int .u64 S)
  q_vn (.int .u64 1)
  iterate 2 q_vn (.int .u32 1)
  q_c Z
  iterate 2 q_c Y
  q_reg
  q_vn (.bool br)
  q_vn (vo vq (-1))
  iterate 3 q_vn (.bool ak)
  q_skip
  q_skip
  q_skip
  q_skip
  q_vn (.bool ak)
  q_c Z
  q_cond ak
  q_c I
  iterate 2 q_c Y
  q_reg
  q_vn (.int .i32 (v:Int))
  q_vn (.bool ak)
  q_c Z
  q_cond ak
  q_c I
  iterate 2 q_c Y
  q_reg
  q_vn (.int .u32 1)
  iterate 2 q_vn (.bool br)
  q_vn (vo vq (-1))
  iterate 3 q_vn (.bool ak)
  q_skip
  q_skip
  q_skip
  q_skip
  q_vn (.bool ak)
  q_c Z
  q_cond ak
  q_c I
  iterate 2 q_c Y
  q_reg
  q_vn (.int .i32 (v:Int))
  iterate 2 q_vn (.bool br)
  q_skip
  q_skip
  q_vn (.bool br)
  q_c Z
  q_cond br
  q_c bD
  q_enable
  q_leave0 H.f_add
  exact hT
def done {P:bq}(H:q8 P L){Wg:Nat}{c:b7}{cs:List b7}{qt:Nat}(hcm:c.mode=.returning)(hT:nx P qt 0 (G c cs))(w:bh)(hK:eb L.tWg Wg w) :
  GW P L.tWg Wg ak (R0 P L.tWg Wg) 153 (G ((baseD L.done).at ⟨#[.S (E ⟨Wg,0,er⟩),undef,undef,undef],[]⟩ [.code (s8 L)]) (c::cs)) w:=by
 lib_facts
 have hA:=@addNeg L P H Wg;simp only[s8,j3,doneFn,addFn,Bf] at hA ⊢
 u_reg rl hK
 u_op rl hK
 u_in rl hK
 refine goes_call rfl rfl (by k_ne) rfl H.f_add (nm_add L) rfl ⟨by u_nil,?_⟩
 walk_nrmf addFn
 refine hA (qt:=qt+3) ?_ _ hK
 q_c Z
 q_c s7
 exact QuitsD.leaveD rfl rfl H.f_done rfl hcm hT
open Go.ConcR (KK wgBlock WgAt stA smA rd wr mk Payload Aside2 DC0)
variable {L:n4}
def addPos {P:bq}(H:q8 P L){Wg:Nat}{b₀:b7}{a₀:Act}{ops₀:Array q9}{i₀:Nat}{rest₀:List Nat}{k₀:List vk}{cs:List b7}(w:bh)(hF:eb L.tWg Wg w) :
  GW P L.tWg Wg br (RX P L.tWg Wg (λg _=>g=G (b₀.at (a₀.put ((ops₀[i₀]?).bind (·.L)) (.tuple #[])) (.inRegion ops₀ rest₀::k₀)) cs)) 150 (G ((base L.add).at ⟨#[.S (E ⟨Wg,0,er⟩),vo vq 1,undef,undef,undef,undef,undef,undef,undef,undef,undef,undef,undef,undef,undef,undef,undef,undef,undef,undef,undef,undef,undef,undef,undef,undef,undef,undef,undef,undef,undef,undef,undef,undef,undef,undef,undef,undef,undef,undef,undef,undef,undef,undef,undef,undef,undef,undef,undef,undef,undef,undef,undef,undef,undef,undef,undef,undef,undef,undef,undef,undef,undef,undef,undef,undef,undef,undef,undef,undef,undef,undef,undef,undef,undef,undef,undef,undef,undef,undef,undef,undef,undef,undef,undef,undef,undef,undef,undef,undef,undef,undef,undef,undef,undef,undef,undef,undef,undef,undef,undef,undef,undef,undef,undef,undef,undef,undef,undef,undef,undef,undef,undef,undef,undef,undef,undef],[]⟩ [.code (j3 L)]) (b₀.at a₀ (.inRegion ops₀ (i₀::rest₀)::k₀)::cs)) w:=by
 lib_facts
 simp only[j3,addFn,Bf]
 u_c Y rl hF
 u_cond br rl hF
 iterate 2 u_c Y rl hF
 u_reg rl hF
 iterate 2 u_op rl hF
 u_c Z rl hF
 u_cond ak rl hF
 u_c I rl hF
 u_c Y rl hF
 u_reg rl hF
 refine Goes.stop (λw₁ h₁=>?_);replace hF:=rl hF h₁;refine⟨rfl,_,gU .disable (by simp) rfl rfl (by k_ne) rfl H.f_disable (om L) (oo L) (oq L) (oK L),150,?_⟩
 walk_nrm
 u_c Z rl hF
 u_reg rl hF
 u_defer rl hF
 u_c Z rl hF
 u_c Y rl hF
 u_reg rl hF
 u_op rl hF
 u_c Z rl hF
 iterate 2 u_c Y rl hF
 u_reg rl hF
 u_bub rl hF
 u_c Z rl hF
 u_cond ak rl hF
 u_c I rl hF
 u_c Y rl hF
 u_reg rl hF
 iterate 6 u_op rl hF
 u_call H.S (nm_uAdd L) uAddFn rl hF
 u_c Y rl hF
 u_reg rl hF
 u_op rl hF
 u_c Z rl hF
 u_c Y rl hF
 u_reg rl hF
 iterate 4 u_op rl hF
 refine Goes.stop (λw₂ h₁=>?_);replace hF:=rl hF h₁;refine⟨rfl,λv hv hw=>?_⟩;obtain rfl|hvp:=Bw v
 .replace hw:WgAt L.tWg Wg w₂ 0 0:=by simpa using hw
  have z:(((0:Nat):Int)+1)*KK=KK:=by simp
  rw[z];have e0:IntKind.u64.wrap (0+4294967296)=KK:=by decide
  refine⟨_,(cF rfl rfl (by k_ne) rfl H.H (fc L) (fq L) (fx L) .u64 (gg L) rfl rfl hw.L (hw.LH 0)).trans (by rw[e0];rfl),λ_=>⟨150,?_⟩,λh=>AS rfl h⟩;replace hF:eb L.tWg Wg (w₂.LH (stA Wg) (.int .u64 KK)):=⟨_,_,hw.setSt _⟩;simp only[KK] at hF ⊢
  walk_nrm
  u_op rl hF
  u_c Z rl hF
  u_c bD rl hF
  u_leave1 H.S rl hF
  u_op rl hF
  u_c Z rl hF
  iterate 2 u_c Y rl hF
  u_reg rl hF
  iterate 4 u_op rl hF
  iterate 2 u_skip rl hF
  u_op rl hF
  u_c Z rl hF
  u_cond ak rl hF
  u_c I rl hF
  u_c Y rl hF
  u_reg rl hF
  iterate 4 u_op rl hF
  u_c Z rl hF
  u_c Y rl hF
  u_reg rl hF
  iterate 4 u_op rl hF
  u_c Z rl hF
  iterate 2 u_c Y rl hF
  u_reg rl hF
  iterate 10 u_op rl hF
  u_c Z rl hF
  u_cond br rl hF
  u_reg rl hF
  iterate 3 u_op rl hF
  u_conv H.underlying_tPU32 H.room_tU32 (WgLive.cell1 hF).choose_spec rl hF
  refine Goes.stop (λw₃ h₁=>?_);replace hF:=rl hF h₁;refine⟨rfl,_,e7 .read (by simp) rfl rfl (by k_ne) rfl H.f_raceRead (x_raceRead_n L) (x_raceRead_b L) (x_raceRead_x L) (x_raceRead_f L) (ad:=⟨Wg,1,er⟩) (by simp[e8]),150,?_⟩
  walk_nrm
  u_c Z rl hF
  iterate 2 u_c Y rl hF
  u_reg rl hF
  iterate 2 u_op rl hF
  u_c Z rl hF
  u_cond ak rl hF
  u_c I rl hF
  iterate 2 u_c Y rl hF
  u_reg rl hF
  iterate 3 u_op rl hF
  iterate 2 u_skip rl hF
  iterate 2 u_op rl hF
  iterate 4 u_skip rl hF
  u_op rl hF
  u_c Z rl hF
  u_cond ak rl hF
  u_c I rl hF
  iterate 2 u_c Y rl hF
  u_reg rl hF
  iterate 3 u_op rl hF
  iterate 2 u_skip rl hF
  u_op rl hF
  u_c Z rl hF
  u_cond br rl hF
  u_c bD rl hF
  refine Goes.stop (λw₄ h₁=>?_);replace hF:=rl hF h₁;refine⟨rfl,_,lx (v:=.tuple #[]) (evs:=#[mk .enable]) rfl H.f_enable (lA L) (l4 L) (l5 L) (l8 L) (by simp[Extern.Race.none_]) (by simp[mk]) (by simp[mk]),150,?_⟩
  u_leave0 H.f_add rl hF
  exact Goes.stop λ_ _=>rfl
 .obtain⟨V,hV⟩:∃V:Int,V=(v:Int)+1:=⟨_,rfl⟩;obtain⟨S,hS⟩:∃S:Int,S=V*KK:=⟨_,rfl⟩;have eS:IntKind.u64.wrap ((v:Int)*KK+4294967296)=S:=by rw[ed,hS,hV];simp only[KK];omega
  rw[<-hV,<-hS];have a1:S / 4294967296=V:=by rw[hS];simp only[KK];omega
  have b1:bits .and .u64 S 2147483648=0:=by rw[hS,hV];have:=vn (v+1) 0 (by omega) (by omega);simpa [KK] using this
  have b2:bits .and .u64 S 2147483647=0:=by rw[hS,hV];have:=lu (v+1) 0 (by omega) (by omega);simpa [KK] using this
  have c1:IntKind.i32.wrap V=V:=by rw[n5];omega
  have hV1:1<V:=by omega
  have hV2:V<2147483648:=by omega
  have q1:(V==1)=false:=by simp;omega
  have q2:decide (V=1)=false:=B2 (by omega);have q3:decide (V<0)=false:=B2 (by omega);have q4:decide (0<V)=true:=BE (by omega);have q5:(V==0)=false:=by simp;omega
  have q6:decide (V=0)=false:=B2 (by omega);refine⟨_,(cF rfl rfl (by k_ne) rfl H.H (fc L) (fq L) (fx L) .u64 (gg L) rfl rfl hw.L (hw.LH 0)).trans (by rw[eS];rfl),λh=>AS h (by omega),λ_=>⟨150,?_⟩⟩;replace hF:eb L.tWg Wg (w₂.LH (stA Wg) (.int .u64 S)):=⟨_,_,hw.setSt _⟩;clear hw hS hV eS
  walk_nrm
  u_op rl hF
  u_c Z rl hF
  u_c bD rl hF
  u_leave1 H.S rl hF
  u_op rl hF
  u_c Z rl hF
  iterate 2 u_c Y rl hF
  u_reg rl hF
  iterate 4 u_op rl hF
  iterate 2 u_skip rl hF
  u_op rl hF
  u_c Z rl hF
  u_cnd ak rl hF
  u_c I rl hF
  u_c Y rl hF
  u_reg rl hF
  iterate 4 u_op rl hF
  u_c Z rl hF
  u_c Y rl hF
  u_reg rl hF
  iterate 4 u_op rl hF
  u_c Z rl hF
  iterate 2 u_c Y rl hF
  u_reg rl hF
  iterate 10 u_op rl hF
  u_c Z rl hF
  u_cnd ak rl hF
  u_c I rl hF
  iterate 2 u_c Y rl hF
  u_reg rl hF
  iterate 2 u_op rl hF
  u_c Z rl hF
  u_cnd ak rl hF
  u_c I rl hF
  iterate 2 u_c Y rl hF
  u_reg rl hF
  iterate 3 u_op rl hF
  iterate 2 u_skip rl hF
  iterate 2 u_op rl hF
  iterate 4 u_skip rl hF
  u_op rl hF
  u_c Z rl hF
  u_cnd ak rl hF
  u_c I rl hF
  iterate 2 u_c Y rl hF
  u_reg rl hF
  iterate 3 u_op rl hF
  iterate 2 u_skip rl hF
  u_op rl hF
  u_c Z rl hF
  u_cnd br rl hF
  u_c bD rl hF
  refine Goes.stop (λw₄ h₁=>?_);replace hF:=rl hF h₁;refine⟨rfl,_,lx (v:=.tuple #[]) (evs:=#[mk .enable]) rfl H.f_enable (lA L) (l4 L) (l5 L) (l8 L) (by simp[Extern.Race.none_]) (by simp[mk]) (by simp[mk]),150,?_⟩
  u_leave0 H.f_add rl hF
  exact Goes.stop λ_ _=>rfl
open Go.ConcR (KK wgBlock WgAt stA smA rd wr mk Payload Aside2 DC0)
variable {L:n4}
def waitStart {P:bq}(H:q8 P L){Wg:Nat}{b₀:b7}{a₀:Act}{ops₀:Array q9}{i₀:Nat}{rest₀:List Nat}{k₀:List vk}{cs:List b7}(w:bh)(hF:eb L.tWg Wg w) :
  GW P L.tWg Wg br (RZ P L.tWg Wg (AnchWN L (λ_=>True) Wg (b₀.at a₀ (.inRegion ops₀ (i₀::rest₀)::k₀)) cs)) 150 (G ((base L.wait).at ⟨#[.S (E ⟨Wg,0,er⟩),undef,undef,undef,undef,undef,undef,undef,undef,undef,undef,undef,undef,undef,undef,undef,undef,undef,undef,undef,undef,undef,undef,undef,undef,undef,undef,undef,undef,undef,undef,undef,undef,undef,undef,undef,undef,undef,undef,undef,undef,undef,undef,undef,undef,undef,undef,undef,undef,undef,undef,undef,undef,undef,undef,undef,undef,undef,undef,undef,undef,undef,undef,undef,undef,undef,undef,undef,undef,undef,undef,undef,undef,undef,undef,undef,undef,undef,undef,undef,undef,undef,undef,undef],[]⟩ [.code (oh L)]) (b₀.at a₀ (.inRegion ops₀ (i₀::rest₀)::k₀)::cs)) w:=by
 lib_facts
 simp only[oh,waitFn,Bf]
 u_c Y rl hF
 u_cond br rl hF
 u_reg rl hF
 refine Goes.stop (λw₁ h₁=>?_);replace hF:=rl hF h₁;refine⟨rfl,_,gU .disable (by simp) rfl rfl (by k_ne) rfl H.f_disable (om L) (oo L) (oq L) (oK L),150,?_⟩
 walk_nrm
 u_c Z rl hF
 u_c kv rl hF
 u_c stepG_loop rl hF
 refine Goes.stop (λw₃ h₃=>?_);replace hF:=rl hF h₃;exact⟨_,rfl,by simp,by simp,trivial,hF⟩
def waitRound {P:bq}(H:q8 P L){Wg:Nat}{b₀:b7}{a₀:Act}{ops₀:Array q9}{i₀:Nat}{rest₀:List Nat}{k₀:List vk}{cs:List b7}(g:J)(w:bh)(h:AnchWN L (λ_=>True) Wg (b₀.at a₀ (.inRegion ops₀ (i₀::rest₀)::k₀)) cs g w) :
  GW P L.tWg Wg br (W1 P L.tWg Wg (AnchWN L (λ_=>True) Wg (b₀.at a₀ (.inRegion ops₀ (i₀::rest₀)::k₀)) cs) (λg _=>g=G (b₀.at (a₀.put ((ops₀[i₀]?).bind (·.L)) (.tuple #[])) (.inRegion ops₀ rest₀::k₀)) cs)) 150 g w:=by
 lib_facts
 obtain⟨T,rfl,hT84,t0,_,hF⟩:=h;obtain⟨v0,v1,v2,v3,v4,v5,v6,v7,v8,v9,v10,v11,v12,v13,v14,v15,v16,v17,v18,v19,v20,v21,v22,v23,v24,v25,v26,v27,v28,v29,v30,v31,v32,v33,v34,v35,v36,v37,v38,v39,v40,v41,v42,v43,v44,v45,v46,v47,v48,v49,v50,v51,v52,v53,v54,v55,v56,v57,v58,v59,v60,v61,v62,v63,v64,v65,v66,v67,v68,v69,v70,v71,v72,v73,v74,v75,v76,v77,v78,v79,v80,v81,v82,v83,rfl⟩:=array84 T hT84;simp only[BA,Bt,dr] at t0
 subst t0;simp only[L7,oh,waitFn,Bf]
 u_c kv rl hF
 u_c Y rl hF
 u_reg rl hF
 iterate 3 u_op rl hF
 u_call H.L (vt L) uLoadFn rl hF
 u_c Y rl hF
 u_reg rl hF
 u_op rl hF
 u_c Z rl hF
 u_c Y rl hF
 u_reg rl hF
 iterate 3 u_op rl hF
 refine Goes.stop (λw₁ h₁=>?_);replace hF:=rl hF h₁;refine⟨rfl,λv hv hw=>?_⟩;obtain rfl|hvp:=Bw v
 .replace hw:WgAt L.tWg Wg w₁ 0 0:=by simpa using hw
  refine⟨_,dy (v:=0) rfl rfl (by k_ne) rfl H.f_loadU64 (kn L) (ko L) (kp L) .u64 (kq L) rfl hw.L,λ_=>⟨150,?_⟩,λh=>AS rfl h⟩
  walk_nrm
  u_op rl hF
  u_c Z rl hF
  u_c bD rl hF
  u_leave1 H.L rl hF
  u_op rl hF
  u_c Z rl hF
  u_c Y rl hF
  u_reg rl hF
  iterate 4 u_op rl hF
  u_c Z rl hF
  u_c Y rl hF
  u_reg rl hF
  iterate 4 u_op rl hF
  u_c Z rl hF
  iterate 2 u_c Y rl hF
  u_reg rl hF
  iterate 2 u_op rl hF
  u_c Z rl hF
  u_cond br rl hF
  u_c Y rl hF
  u_cond br rl hF
  u_c Y rl hF
  u_reg rl hF
  refine Goes.stop (λw₅ h₁=>?_);replace hF:=rl hF h₁;refine⟨rfl,_,gU .enable (by simp) rfl rfl (by k_ne) rfl H.f_enable (lA L) (l4 L) (l5 L) (l8 L),150,?_⟩
  walk_nrm
  u_c Z rl hF
  u_reg rl hF
  u_op rl hF
  u_conv H.underlying_tWgP H.room_tWg (WgLive.cell0 hF).choose_spec rl hF
  refine Goes.stop (λw₆ h₁=>?_);replace hF:=rl hF h₁;refine⟨rfl,_,e7 .acquire (by simp) rfl rfl (by k_ne) rfl H.f_acquire (x_acquire_n L) (x_acquire_b L) (x_acquire_x L) (x_acquire_f L) (by simp[e8,stA]),150,?_⟩
  walk_nrm
  u_c Z rl hF
  iterate 2 u_c Y rl hF
  u_reg rl hF
  iterate 8 u_op rl hF
  iterate 2 u_skip rl hF
  u_op rl hF
  u_c Z rl hF
  u_cond ak rl hF
  u_c I rl hF
  u_c bD rl hF
  u_leave0 H.f_wait rl hF
  exact Goes.stop λ_ _=>rfl
 .obtain⟨S,hS⟩:∃S:Int,(v:Int)*KK=S:=⟨_,rfl⟩;have a1:S / 4294967296=(v:Int):=by rw[<-hS];simp only[KK];omega
  have b1:bits .and .u64 S 2147483648=0:=by rw[<-hS];have:=vn v 0 (by omega) (by omega);simpa [KK] using this
  have b2:bits .and .u64 S 2147483647=0:=by rw[<-hS];have:=lu v 0 (by omega) (by omega);simpa [KK] using this
  have c1:IntKind.i32.wrap (v:Int)=(v:Int):=by rw[n5];omega
  have w1:IntKind.u64.wrap (S+1)=S+1:=by rw[ed,<-hS];simp only[KK];omega
  have q3:decide ((v:Int)<0)=false:=B2 (by omega);have q4:decide (0<(v:Int))=true:=BE (by omega);have q5:((v:Int)==0)=false:=by simp;omega
  have q6:decide ((v:Int)=0)=false:=B2 (by omega);rw[hS] at hw;refine⟨_,dy (v:=S) rfl rfl (by k_ne) rfl H.f_loadU64 (kn L) (ko L) (kp L) .u64 (kq L) rfl hw.L,λh0=>AS h0 (by omega),λ_=>⟨150,?_⟩⟩
  walk_nrm
  u_op rl hF
  u_c Z rl hF
  u_c bD rl hF
  u_leave1 H.L rl hF
  u_op rl hF
  u_c Z rl hF
  u_c Y rl hF
  u_reg rl hF
  iterate 4 u_op rl hF
  u_c Z rl hF
  u_c Y rl hF
  u_reg rl hF
  iterate 4 u_op rl hF
  u_c Z rl hF
  iterate 2 u_c Y rl hF
  u_reg rl hF
  iterate 2 u_op rl hF
  u_c Z rl hF
  u_cnd ak rl hF
  u_c I rl hF
  u_c Y rl hF
  u_reg rl hF
  iterate 6 u_op rl hF
  u_call H.f_uCas (nm_uCas L) uCasFn rl hF
  u_c Y rl hF
  u_reg rl hF
  u_op rl hF
  u_c Z rl hF
  u_c Y rl hF
  u_reg rl hF
  iterate 5 u_op rl hF
  refine Goes.stop (λw₂ h₁=>?_);replace hF:=rl hF h₁;refine⟨rfl,λv' hv' hw=>⟨λe=>?_,λe=>?_⟩⟩
  .subst e;rw[hS] at hw ⊢;refine⟨_,(stepG_cas_hit (v:=S) (n:=S+1) rfl rfl (by k_ne) rfl H.f_casU64 (x_casU64_n L) (x_casU64_b L) (x_casU64_x L) .u64 (x_casU64_f L) rfl rfl rfl hw.L (hw.LH 0)).trans (by rfl),150,?_⟩;replace hF:eb L.tWg Wg (w₂.LH (stA Wg) (.int .u64 (S+1))):=⟨_,_,hw.setSt _⟩
   walk_nrm
   u_op rl hF
   u_c Z rl hF
   u_c bD rl hF
   u_leave1 H.f_uCas rl hF
   u_c Z rl hF
   u_cnd br rl hF
   iterate 2 u_c Y rl hF
   u_reg rl hF
   iterate 4 u_op rl hF
   u_c Z rl hF
   u_cnd br rl hF
   u_reg rl hF
   iterate 3 u_op rl hF
   u_conv H.underlying_tPU32 H.room_tU32 (WgLive.cell1 hF).choose_spec rl hF
   refine Goes.stop (λw₂ h₁=>?_);replace hF:=rl hF h₁;refine⟨rfl,_,e7 .write (by simp) rfl rfl (by k_ne) rfl H.f_raceWrite (x_raceWrite_n L) (x_raceWrite_b L) (x_raceWrite_x L) (x_raceWrite_f L) (ad:=⟨Wg,1,er⟩) (by simp[e8]),150,?_⟩
   walk_nrm
   u_c Z rl hF
   u_c Y rl hF
   u_reg rl hF
   u_op rl hF
   u_c Z rl hF
   iterate 2 u_c Y rl hF
   u_reg rl hF
   iterate 4 u_op rl hF
   u_skip rl hF
   u_op rl hF
   u_c Z rl hF
   u_cnd ak rl hF
   u_c I rl hF
   u_c Y rl hF
   u_reg rl hF
   iterate 4 u_op rl hF
   refine Goes.stop (λw₃ h₁=>?_);replace hF:=rl hF h₁;refine⟨rfl,rfl,λ⟨st,hw⟩=>stepG_semacquire_wait rfl rfl rfl H.f_semacquire (rA L) (rK L) (r4 L) (r5 L) (by simp[e8,smA]) hw.cellSm,λhf=>?_⟩;refine⟨_,(stepG_semacquire (n:=1) rfl rfl (by k_ne) rfl H.f_semacquire (rA L) (rK L) (r4 L) (r5 L) (by simp[e8,smA]) hf.cellSm (by k_ne) (hf.LH 1)).trans (by rfl),150,?_⟩
   replace hF:eb L.tWg Wg (w₃.LH (smA Wg) (.int .u32 0)):=⟨_,_,hf.setSm 0⟩
   walk_nrm
   u_c Z rl hF
   u_c Y rl hF
   u_reg rl hF
   iterate 3 u_op rl hF
   u_call H.L (vt L) uLoadFn rl hF
   u_c Y rl hF
   u_reg rl hF
   u_op rl hF
   u_c Z rl hF
   u_c Y rl hF
   u_reg rl hF
   iterate 3 u_op rl hF
   refine Goes.stop (λw₄ h₁=>?_);replace hF:=rl hF h₁;refine⟨rfl,λhw=>⟨_,dy (v:=0) rfl rfl (by k_ne) rfl H.f_loadU64 (kn L) (ko L) (kp L) .u64 (kq L) rfl hw.L,150,?_⟩⟩
   walk_nrm
   u_op rl hF
   u_c Z rl hF
   u_c bD rl hF
   u_leave1 H.L rl hF
   iterate 2 u_op rl hF
   u_c Z rl hF
   u_c Y rl hF
   u_cond br rl hF
   u_c Y rl hF
   u_reg rl hF
   refine Goes.stop (λw₅ h₁=>?_);replace hF:=rl hF h₁;refine⟨rfl,_,gU .enable (by simp) rfl rfl (by k_ne) rfl H.f_enable (lA L) (l4 L) (l5 L) (l8 L),150,?_⟩
   walk_nrm
   u_c Z rl hF
   u_reg rl hF
   u_op rl hF
   u_conv H.underlying_tWgP H.room_tWg (WgLive.cell0 hF).choose_spec rl hF
   refine Goes.stop (λw₆ h₁=>?_);replace hF:=rl hF h₁;refine⟨rfl,_,e7 .acquire (by simp) rfl rfl (by k_ne) rfl H.f_acquire (x_acquire_n L) (x_acquire_b L) (x_acquire_x L) (x_acquire_f L) (by simp[e8,stA]),150,?_⟩
   walk_nrm
   u_c Z rl hF
   iterate 2 u_c Y rl hF
   u_reg rl hF
   u_op rl hF
   u_c Z rl hF
   u_cond ak rl hF
   u_c I rl hF
   u_c bD rl hF
   u_leave0 H.f_wait rl hF
   exact Goes.stop λ_ _=>rfl
  .refine⟨_,stepG_cas_miss (v:=(v':Int)*KK) (old:=S) (n:=S+1) rfl rfl (by k_ne) rfl H.f_casU64 (x_casU64_n L) (x_casU64_b L) (x_casU64_x L) .u64 (x_casU64_f L) rfl rfl rfl hw.L (hw.LH 0) (by rw[<-hS];simp only[KK];omega),150,?_⟩
   walk_nrm
   u_op rl hF
   u_c Z rl hF
   u_c bD rl hF
   u_leave1 H.f_uCas rl hF
   u_c Z rl hF
   u_cnd ak rl hF
   u_c I rl hF
   u_c stepG_inBlock rl hF
   u_c stepG_inLoop rl hF
   refine Goes.stop (λw₃ h₃=>?_);replace hF:=rl hF h₃;exact⟨_,rfl,by simp,by simp,trivial,hF⟩
open Go.ConcR (KK WgAt stA smA rd wr mk DC0 Bk)
def ug (p v:cK)(L:n4):(#[p,v]++U ((addFn L).ntmps-(#[p,v]:Array cK).size) undef:Array cK)=#[p,v,undef,undef,undef,undef,undef,undef,undef,undef,undef,undef,undef,undef,undef,undef,undef,undef,undef,undef,undef,undef,undef,undef,undef,undef,undef,undef,undef,undef,undef,undef,undef,undef,undef,undef,undef,undef,undef,undef,undef,undef,undef,undef,undef,undef,undef,undef,undef,undef,undef,undef,undef,undef,undef,undef,undef,undef,undef,undef,undef,undef,undef,undef,undef,undef,undef,undef,undef,undef,undef,undef,undef,undef,undef,undef,undef,undef,undef,undef,undef,undef,undef,undef,undef,undef,undef,undef,undef,undef,undef,undef,undef,undef,undef,undef,undef,undef,undef,undef,undef,undef,undef,undef,undef,undef,undef,undef,undef,undef,undef,undef,undef,undef,undef,undef,undef]:=by walk_nrmf addFn
def rM (p:cK)(L:n4):(#[p]++U ((waitFn L).ntmps-(#[p]:Array cK).size) undef:Array cK)=#[p,undef,undef,undef,undef,undef,undef,undef,undef,undef,undef,undef,undef,undef,undef,undef,undef,undef,undef,undef,undef,undef,undef,undef,undef,undef,undef,undef,undef,undef,undef,undef,undef,undef,undef,undef,undef,undef,undef,undef,undef,undef,undef,undef,undef,undef,undef,undef,undef,undef,undef,undef,undef,undef,undef,undef,undef,undef,undef,undef,undef,undef,undef,undef,undef,undef,undef,undef,undef,undef,undef,undef,undef,undef,undef,undef,undef,undef,undef,undef,undef,undef,undef,undef]:=by walk_nrmf waitFn
def rN (p:cK)(L:n4):(#[p]++U ((doneFn L).ntmps-(#[p]:Array cK).size) undef:Array cK)=#[p,undef,undef,undef]:=by walk_nrmf doneFn
section
variable {P:EK} {SB BB:bk->Bool} {zZ:Bool} {Gn:Nat} {H:Hid} {T:List b7} {β:Ey} {L:n4} {Wg:Nat}
def Barred (P:EK)(SB:bk->Bool)(zZ:Bool)(f:bk)(fn:eA):Prop:=∃c,P.a.L[f]?=E fn/\P.b.L[f]?=E fn/\fn.body=E c/\codeOk P.a SB zZ br c=ak
def Px (S:FO)(β:Ey)(v V:cK):Prop:=∀X,Ee S β v X->X=V
def Px.undef {S:FO}:Px S β undef undef:=λX h=>by
 unfold Go.undef at h ⊢;cases h with
 |@tuple _ x h1 _ =>
  have:x=#[]:=by simpa using h1.LH
  rw[this]
def Px.int {S:FO}(k:IntKind)(n:Int):Px S β (.int k n) (.int k n):=λX h=>by cases h;rfl
def Px.ptr {S:FO}(hf:β.Fp Gn){b B:Nat}(hb:β b B)(o:Nat)(s:Option Nat):Px S β (.S (E ⟨b,o,s⟩)) (.S (E ⟨B,o,s⟩)):=λX h=>by
 cases h with
 |ptr _ _ h=>rw[hf.fn h hb]
def ix {f:bk}{fn:eA}(a7:Barred P SB zZ f fn){args args':Array cK}(hs:args.size=args'.size)(hn:args.size<=fn.ntmps)(hd:∀(i:Nat) (v V:cK),args[i]?=E v->args'[i]?=E V->Px (SP SB H) β v V){k:CallKind}{F:b7}
  (h:Gw P SB H zZ BB β (bn P.a f args k) F):F=bn P.b f args' k:=by
 obtain⟨c,h1,h2,h3,h4⟩:=a7;generalize hF:bn P.a f args k=fr at h;cases h with
 |on h =>
  exfalso;have ht:=h.todo;rw[<-hF] at ht;simp only[bn,h1,h3,BS,Bf] at ht;generalize F.todo=X at ht;cases ht with
  |cons hi _ =>
   cases hi with
   |code hc =>
    simp only[l9] at hc;rw[h4] at hc;cases hc
 |@stop f' a A k' _ _ _ ha =>
  have e1:f=f':=Bh wu hF;have e2:k=k':=Bh vN hF;subst e1 e2;have e3:args++U (fn.ntmps-args.size) undef=a++U (fn.ntmps-a.size) undef:=by
   have:=Bh vX hF;simpa [bn,h1] using this
  have e4:A++U (fn.ntmps-A.size) undef=args'++U (fn.ntmps-args'.size) undef:=by
   have zv:=Bh wa e3;simp only[mA,kx] at zv;have hA:=ha.size;apply Array.ext_getElem?;intro i;have e5:(args++U (fn.ntmps-args.size) undef)[i]?=(a++U (fn.ntmps-a.size) undef)[i]?:=by rw[e3]
   obtain hi|hi:=BV i fn.ntmps
   .rw[C9,C9] at e5 ⊢;have und:∀(m:Nat),i<m->(U m undef)[i]?=E undef:=λm hm=>by rw[BZ,AP hm]
    have val:∃v,(if i<a.size then a[i]? else(U (fn.ntmps-a.size) undef)[i-a.size]?)=E v/\∀X,(if i<A.size then A[i]? else(U (fn.ntmps-A.size) undef)[i-A.size]?)=E X->Ee (SP SB H) β v X:=by
     by_cases a6:i<a.size
     .refine⟨a[i],by rw[AP a6];simp[a6],λX hX=>?_⟩;rw[AP (by omega)] at hX;exact ha.at_ i _ X (by simp[a6]) hX
     .refine⟨undef,by rw[AN a6,BZ,AP (by omega)],λX hX=>?_⟩;rw[AN (by omega),BZ,AP (by omega)] at hX;cases hX;exact Ee.undef _ _
    obtain⟨v,hv,hX⟩:=val;rw[hv] at e5;have hAX:∃X,(if i<A.size then A[i]? else(U (fn.ntmps-A.size) undef)[i-A.size]?)=E X:=by
     by_cases a6:i<A.size
     .exact⟨A[i],by rw[AP a6];simp[a6]⟩
     .exact⟨undef,by rw[AN a6,BZ,AP (by omega)]⟩
    obtain⟨X,hXe⟩:=hAX;rw[hXe];have hr:=hX X hXe;by_cases a6:i<args.size
    .rw[AP a6] at e5;rw[AP (by omega)];have:∃V,args'[i]?=E V:=⟨args'[i],by simp[show i<args'.size by omega]⟩;obtain⟨V,hV⟩:=this;rw[hV,hd i v V e5 hV X hr]
    .rw[AN a6,BZ,AP (by omega)] at e5;rw[AN (by omega),BZ,AP (by omega)];have:v=undef:=(j1 e5).LH;subst this;rw[Px.undef X hr]
   .rw[Cz (by simp;omega),Cz (by simp;omega)]
  simp only[bn,h2,B5,Bf,e4]
def Kd {fr FR:b7}(h:EC P.a SB H zZ β fr FR)(hc:fw fr):∃(b:b7) (a:Act) (ops:Array q9) (i:Nat) (rest:List Nat) (k:List vk),FR=b.at a (.inRegion ops (i::rest)::k):=by
 obtain⟨h1,h2,ops,i,rest,k,h3⟩:=hc;have m:=h.mode;have r:=h.round;have t:=h.todo;rw[h1] at m;rw[h2] at r;rw[h3] at t;obtain⟨f1,f2,f3,f4,f5,f6,f7⟩:=FR;dsimp only at m r t;cases m;cases r;cases t with
 |cons hi _ =>
  cases hi
  exact⟨⟨f1,f2,[],f4,.run,f6,er⟩,⟨f2,f4⟩,ops,i,rest,_,rfl⟩
def JM {fr:b7}{cs CS:List b7}(h:FC P.a SB H zZ T β (fr::cs) CS)(hc:fw fr):∃FR CS',CS=FR::CS'/\EC P.a SB H zZ β fr FR/\FC P.a SB H zZ T β cs CS':=by
 cases h with
 |base =>
  obtain⟨_,_,_,_,_,_,h3⟩:=hc;simp[bad] at h3
 |cons h1 h2=>exact⟨_,_,rfl,h1,h2⟩
def iy {g G:J}(h:Gf P SB H zZ BB T β g G):G=bo G.L G.callers:=by
 obtain⟨a1,a2,a3,a4,a5⟩:=G;obtain⟨_,_,⟨_,s1⟩,⟨_,d1⟩,⟨_,o1⟩⟩:=h;dsimp only at *;subst s1 d1 o1
 rfl
def jl {x:Lone}{fr FR:b7}{cs CS:List b7}(h1:EC P.a SB x.H zZ x.β fr FR)(h2:FC P.a SB x.H zZ x.T x.β cs CS):Fx P SB BB zZ { x with g:=back fr cs } (bo (FR.finish (.tuple #[])) CS) :=
 ⟨.on (bp h1 (.tuple rfl (by simp))),h2,⟨rfl,rfl⟩,⟨rfl,rfl⟩,⟨rfl,rfl⟩⟩
def Rf (W:q8 P.b L)(a8:Barred P SB zZ L.add (addFn L))(wl:Nat):Nq P SB BB zZ Gn L.tWg Wg L.add wl T:=by
 intro x G W0 fr cs e hc hT aA hg hw a7;have a6:=hg.top;have zW:=hg.callers;rw[e] at a6 zW;obtain⟨FR,CS,aB,r1,r2⟩:=JM zW hc;obtain⟨b,a,ops,i,rest,k,aC⟩:=Kd r1 hc;have eF:G.L=bn P.b L.add #[.S (E ⟨Wg,0,er⟩),vo vq 1] .L:=by
  refine ix (args:=#[JW wl,vo vq 1]) (args':=#[.S (E ⟨Wg,0,er⟩),vo vq 1]) a8 rfl (by simp[addFn]) (λj v V h1 h2=>?_) a6
  match j,h1,h2 with
  |0,h1,h2=>cases h1;cases h2;exact .ptr hw.FH aA 0 er
  |1,h1,h2=>cases h1;cases h2;exact .int _ _
  |j+2,h1,_=>simp at h1
 refine⟨bo (FR.finish (.tuple #[])) CS,150,?_,jl r1 r2⟩;rw[iy hg,eF,aB,enter_at _ W.f_add (c:=j3 L) rfl,ug,aC,ez];exact addPos W (b₀:=b) (a₀:=a) (k₀:=k) W0 a7
def yx (W:q8 P.b L)(aA:Barred P SB zZ L.wait (waitFn L))(wl:Nat):jQ P SB BB zZ Gn L.tWg Wg L.wait wl T:=by
 intro x G W0 fr cs e hc hT aB hg hw a7;have a6:=hg.top;have zW:=hg.callers;rw[e] at a6 zW;obtain⟨FR,CS,aC,r1,r2⟩:=JM zW hc;obtain⟨b,a,ops,i,rest,k,a8⟩:=Kd r1 hc;have eF:G.L=bn P.b L.wait #[.S (E ⟨Wg,0,er⟩)] .L:=by
  refine ix (args:=#[JW wl]) (args':=#[.S (E ⟨Wg,0,er⟩)]) aA rfl (by simp[waitFn]) (λj v V h1 h2=>?_) a6
  match j,h1,h2 with
  |0,h1,h2=>cases h1;cases h2;exact .ptr hw.FH aB 0 er
  |j+1,h1,_=>simp at h1
 refine⟨bo (FR.finish (.tuple #[])) CS,150,AnchWN L (λ_=>True) Wg FR CS,?_,λg w hA=>?_,jl r1 r2⟩
 .rw[iy hg,eF,aC,enter_at _ W.f_wait (c:=oh L) rfl,rM,a8];exact waitStart W (b₀:=b) (a₀:=a) (k₀:=k) W0 a7
 .rw[a8] at hA ⊢;rw[ez];refine⟨?_,_,waitRound W g w hA⟩;obtain⟨_,rfl,_⟩:=hA
  rfl
def yy (W:q8 P.b L)(a8:Barred P SB zZ L.done (doneFn L)){x:Lone}{G:J}{W0:bh}{c:b7}{cs:List b7}{wl:Nat}(e:x.g=Fc (bn P.a L.done #[JW wl] .S) (c::cs))(hc:c≠bad)(aA:x.β wl Wg)
  (hg:Fx P SB BB zZ x G) (hw:GQ P SB zZ Gn x W0) (a7:eb L.tWg Wg W0) (hQ:∀C CS,EC P.a SB x.H zZ x.β c C->FC P.a SB x.H zZ x.T x.β cs CS->C.mode=.returning/\∃q,nx P.b q 0 (bo C CS)) :
  ∃m,GW P.b L.tWg Wg ak (R0 P.b L.tWg Wg) m G W0:=by
 have a6:=hg.top;have zW:=hg.callers;rw[e] at a6 zW;have:∃C CS,G.callers=C::CS/\EC P.a SB x.H zZ x.β c C/\FC P.a SB x.H zZ x.T x.β cs CS:=by
  generalize G.callers=X at zW;cases zW with
  |base=>exact AS rfl hc
  |cons h1 h2=>exact⟨_,_,rfl,h1,h2⟩
 obtain⟨C,CS,aB,r1,r2⟩:=this;have eF:G.L=bn P.b L.done #[.S (E ⟨Wg,0,er⟩)] .S:=by
  refine ix (args:=#[JW wl]) (args':=#[.S (E ⟨Wg,0,er⟩)]) a8 rfl (by simp[doneFn]) (λj v V h1 h2=>?_) a6
  match j,h1,h2 with
  |0,h1,h2=>cases h1;cases h2;exact .ptr hw.FH aA 0 er
  |j+1,h1,_=>simp at h1
 obtain⟨hm,q,hq⟩:=hQ C CS r1 r2;refine⟨153,?_⟩;rw[iy hg,eF,aB,enter_atD _ W.f_done (c:=s8 L) rfl,rN];exact done W hm hq W0 a7
end
def JE (zO:Nat->Prop)(l:Loc):Prop:=∃a:Addr,l=.cell a/\zO a.LE
structure Jw (P:bq)(zO:Nat->Prop)(gs:Array J)(W:bh)(t:cf)(q:Nat->Nat):Prop where
 lv:ql P t gs q
 past:Past (JE zO) W.L.size t
 LE:Quiet (JE zO) t
 OI:∀(i:Nat) (op:s5),t[i]?=E op->op.g<gs.size
 LK:∀B,zO B->B<W.L.size
section
variable (P:EK) (SB BB:bk->Bool) (zZ:Bool) (Gn:Nat)
structure Tw (zO:Nat->Prop)(Kp:IB)(x:Lone)(a:J)(W:bh):Prop where
 gl:Fx P SB BB zZ x a
 wl:GQ P SB zZ Gn x W
 tw:x.H.Fg=ak
 dead:∀b B,x.β b B->zO B->x.H b=br
 keep:∀B,Kp.at_ B->B<W.L.size/\W.L[B]?=Kp.w.L[B]?
 F2:∀b B,x.β b B->Kp.at_ B->x.H b=br\/Ro x.w b
end
section
variable {P:EK} {SB BB:bk->Bool} {zZ:Bool} {Gn:Nat} {zO:Nat->Prop} {Kp:IB}
def Jw.at {gs:Array J}{W:bh}{t:cf}{q:Nat->Nat}(h:Jw P.b zO gs W t q)(d:Nat):Jw P.b zO gs (W.at d) t q:=⟨h.lv,h.past,h.LE,h.OI,h.LK⟩
def Tw.at {x:Lone}{a:J}{W:bh}(h:Tw P SB BB zZ Gn zO Kp x a W)(d:Nat):Tw P SB BB zZ Gn zO Kp x a (W.at d):=⟨h.gl,h.wl.same rfl rfl h.wl.env,h.tw,h.dead,h.keep,h.F2⟩
def Jw.slip {gs:Array J}{W:bh}{t:cf}{q:Nat->Nat}(h:Jw P.b zO gs W t q){i:Nat}{g a:J}(aC:0<i)(hi:gs[i]?=E g)(zA:g.status=.L)(h0:gs[0]?=E a)(ha:a.status=.L)(sl:Option (Nat×Nat)) :
  ∃gs' t' q',runT P.b (b9 gs W sl) i=(.next (b9 gs' W sl),t')/\gs'.size=gs.size/\gs'[0]?=E a/\sumTo gs.size q'<sumTo gs.size q/\Jw P.b zO gs' W (t++t') q':=by
 have hq:=h.lv.old i g aC hi;have aH:(i==0)=false:=by simp;omega
 have zY:i<gs.size:=(AJ.1 hi).1;cases a7:q i with
 |zero=>rw[a7] at hq;rw[hq.1] at zA;cases zA
 |succ k =>
  rw[a7] at hq;obtain⟨hf,_⟩|⟨_,g',es,hm,aD,hq'⟩:=hq
  .rw[hf] at zA;cases zA
  have aA:=cq (P:=P.b) (sl:=sl) (i:=i) hi (by rw[aH];exact aD W);have aI:sumTo gs.size (upd q i k)+(k+1)=sumTo gs.size q+k:=by
   have:=sumTo_upd q k id zY;simpa [a7] using this
  have a8:∀op∈bs i g.L.fn g.L.LH es,op.g=i:=λop hop=>by obtain⟨e,_,rfl⟩:=bc hop;rfl
  refine⟨_,_,upd q i k,aA,by simp,?_,by omega,⟨λj x hj hx=>?_,λj hj=>?_⟩,h.past.mute (by omega) hm,h.LE.app λop hop x hx hs=>?_,λj op hop=>?_,h.LK⟩
  .have zU:i≠0:=by omega
   rw[Br zU,BT,h0];simp[woken_run ha]
  .by_cases a6:i=j
   .subst a6;rw[CR (by simpa using zY)] at hx;obtain rfl:=j1 hx;rw[qq,mm];exact hq'
   .rw[Br a6,BT] at hx;obtain⟨y,hy,rfl⟩:=Bo.1 hx;have aB:=h.lv.old j y hj hy;rw[dS aB,upd_ne q k (Ne.symm a6),cu t a6 _ a8];exact aB
  .rw[cu t (g':=i) (by simp at hj;omega) _ a8];exact h.lv.above j (by simpa using hj)
  .obtain⟨e,he,rfl⟩:=bc hop;rw[sw (hm e he)] at hx;cases hx
  .obtain⟨_,aF⟩|⟨_,aG⟩:=b5 hop
   .simpa using h.OI j op aF
   .rw[a8 op aG];simpa using zY
def Jw.fin {gs:Array J}{W W':bh}{t:cf}{q:Nat->Nat}(h:Jw P.b zO gs W t q){x:Lone}{a g2:J}{Ef:Ey}{w':bh}{ES:Array qo}(a7:x.H.Fg=ak)(aC:∀b B,x.β b B->zO B->x.H b=br)
  (h0:gs[0]?=E a) (e3:jx P.b br a W=.go g2 W' ES) (f:Ik P SB zZ Gn x W Ef w' W' ES.LK) (sl:Option (Nat×Nat)) :
  ∃gs' t',runT P.b (b9 gs W sl) 0=(.next (b9 gs' W' sl),t')/\gs'.size=gs.size/\gs'[0]?=E g2/\Jw P.b zO gs' W' (t++t') q:=by
 have aF:ES.LK.LK=ES:=by simp
 have a8:=cN f a7;rw[aF] at a8;have aA:=eY f a7 (k:=0) (fn:=a.L.fn) (pos:=a.L.LH);rw[aF] at aA;have aB:∀op∈bs 0 a.L.fn a.L.LH ES,op.g=0:=λop hop=>by obtain⟨e,_,rfl⟩:=bc hop;rfl
 have old:∀b B,Ef b B->B<W.L.size->x.β b B:=λb B hb hB=>(f.new b B hb).S id λh=>AS h.2 (js.2 hB);have aD:∀b B,Ef b B->zO B->x.H b=true:=λb B hb hd=>aC b B (old b B hb (h.LK B hd)) hd;have a6:∀e∈ES,∀z,(bW e).L=E z->¬JE zO z.loc:=by
  intro e he z hz ⟨b,hb,hd⟩;have hE:=f.evs a7 e (by simpa using he);cases hE with
  |@cell a A wr sy hab _ hc _ =>
   have:z.loc=.cell A:=by simp[bW,b8] at hz;subst hz;rfl
   rw[this] at hb;cases hb;obtain⟨n,hn,_⟩:=hc;have:=(f.rel.Ge _ _ hab (aD _ _ hab hd)).1;rw[this] at hn;simp[FK] at hn
  |@obj r R wr sy _ _ =>
   have:z.loc=.obj R:=by cases wr<;>cases sy<;>simp[bW,b8] at hz<;>subst hz<;>rfl
   rw[this] at hb;cases hb
  |mark hm=>cases hm<;>simp[bW,b8] at hz
  |out =>
   have:z.loc=.output:=by simp[bW,b8] at hz;subst hz;rfl
   rw[this] at hb;cases hb
 have zY:0<gs.size:=(AJ.1 h0).1
 refine⟨_,_,cq (P:=P.b) (sl:=sl) (i:=0) h0 (by simpa using e3),by simp,by simp[zY],
  ⟨⟨λj y hj hy=>?_,λj hj=>?_⟩,(h.past.LT f.SIZE).LH λe he=>⟨λz hz hs=>AS hs (a6 e he z hz),(a8 e he).1,(a8 e he).2.1,?_⟩,h.LE.app λop hop z hz hs=>?_,λj op hop=>?_,λB hB=>AO (h.LK B hB) f.SIZE⟩⟩
 .have zU:0≠j:=by omega
  rw[Br zU,BT] at hy;obtain⟨z,hz,rfl⟩:=Bo.1 hy;have aG:=h.lv.old j z hj hz;rw[dS aG,cu t (by omega) _ aB];exact aG
 .rw[cu t (g':=0) (by simp at hj;omega) _ aB];exact h.lv.above j (by simpa using hj)
 .exact aA { g:=0,fn:=a.L.fn,pos:=a.L.LH,act:=.ofEvent e } (by rw[gB];exact s4.2 ⟨e,he,rfl⟩)
 .obtain⟨e,he,rfl⟩:=bc hop;exact AS hs (a6 e he z hz)
 .obtain⟨_,aH⟩|⟨_,aI⟩:=b5 hop
  .simpa using h.OI j op aH
  .rw[aB op aI];simpa using zY
def KQ {x:Lone}{W W':bh}{Ef:Ey}{w':bh}{ES:List qo}(f:Ik P SB zZ Gn x W Ef w' W' ES)(keep:∀B,Kp.at_ B->B<W.L.size/\W.L[B]?=Kp.w.L[B]?)(F2:∀b B,x.β b B->Kp.at_ B->x.H b=br\/Ro x.w b) :
  (∀B,Kp.at_ B->B<W'.L.size/\W'.L[B]?=Kp.w.L[B]?)/\∀b B,Ef b B->Kp.at_ B->x.H b=br\/Ro w' b:=by
 refine⟨λB hB=>?_,λb B hb hB=>?_⟩
 .obtain⟨k1,k3⟩:=keep B hB;refine⟨AO k1 f.SIZE,?_⟩;rw[<-k3];by_cases hx:∃b,x.β b B
  .obtain⟨b,hb⟩:=hx;obtain h|⟨cs,ty,z,q1,q2⟩:=F2 b B hb hB
   .exact f.hk b B hb h
   .exact(f.ro b B cs ty z hb q1 q2).2
  .exact f.KEPT B k1 λb hb=>hx ⟨b,hb⟩
 .have h0:x.β b B:=(f.new b B hb).S id λh=>AS h.2 (js.2 (keep B hB).1);exact(F2 b B h0 hB).imp id λh=>h.kept f h0
def Jw.tree (lib:∀H,Lib P SB H zZ BB Gn){gs:Array J}{W:bh}{t:cf}{q:Nat->Nat}(h:Jw P.b zO gs W t q){x:Lone}{a:J}(ht:Tw P SB BB zZ Gn zO Kp x a W)(h0:gs[0]?=E a){Q:J->bh->Prop}(hr:Ep P.a (Fp P.a BB) Q x.g x.w)(hq:¬Q x.g x.w)(sl:Option (Nat×Nat)) :
  ∃gs' W' t' x' a',runT P.b (b9 gs W sl) 0=(.next (b9 gs' W' sl),t')/\gs'.size=gs.size/\gs'[0]?=E a'/\Jw P.b zO gs' W' (t++t') q/\Tw P SB BB zZ Gn zO Kp x' a' W'/\Ep P.a (Fp P.a BB) Q x'.g x'.w/\After P.a (x'.g,x'.w) (x.g,x.w)/\x'.H=x.H/\x'.T=x.T/\x.β.le x'.β/\(W'.os=W.os/\W'.output=W.output)/\W.L.size<=W'.L.size/\x.w.L.size<=x'.w.L.size/\∀b B,x'.β b B->x.β b B\/(x.w.L.size<=b/\W.L.size<=B):=by
 obtain⟨g',w',es,Ef,g2,W',ES,e1,e2,e3,e4,e5⟩:=EB.follow (lib x.H) (main2:=br) hr hq ht.gl ht.wl;have f:Ik P SB zZ Gn x W Ef w' W' ES.LK:=e5;obtain⟨gs',t',k1,k2,k3,k4⟩:=h.fin ht.tw ht.dead h0 e3 f sl;obtain⟨k5,k6⟩:=KQ f ht.keep ht.F2;have a6:∀b B,Ef b B->zO B->x.H b=true:=λb B hb hd=>(f.new b B hb).S (λh1=>ht.dead b B h1 hd) λh1=>AS h1.2 (js.2 (h.LK B hd));exact⟨gs',W',t',⟨g',w',x.H,Ef,x.T⟩,g2,k1,k2,k3,k4,⟨e4,f.rel,ht.tw,a6,k5,k6⟩,e2,⟨W.tape,W.drawn,es,e1,e4.callers.ne⟩,rfl,rfl,f.le,⟨f.OS,f.OUT⟩,f.SIZE,f.size,f.new⟩
def Kq (lib:∀H,Lib P SB H zZ BB Gn){H:Hid}{T:List b7}{β:Ey}{Q:J->bh->Prop}{os:Os}{ou:bh}{n b0 B0:Nat}:∀(μ:Wm×Nat) (m:ek) (t:cf),
  (∃gs W sl q x a,m=b9 gs W sl/\gs[0]?=E a/\gs.size=n/\Jw P.b zO gs W t q/\Tw P SB BB zZ Gn zO Kp x a W/\Ep P.a (Fp P.a BB) Q x.g x.w/\x.H=H/\x.T=T/\β.le x.β/\(W.os=os/\W.output=ou.output)/\(B0<=W.L.size/\b0<=x.w.L.size/\∀b B,x.β b B->β b B\/(b0<=b/\B0<=B))/\μ=(.tree Q (x.g,x.w),sumTo n q)) ->
  ∃N m' t',runNT P.b N m t=(.next m',t')/\∃gs W sl q x a,m'=b9 gs W sl/\gs[0]?=E a/\gs.size=n/\Jw P.b zO gs W t' q/\Tw P SB BB zZ Gn zO Kp x a W/\Q x.g x.w/\x.H=H/\x.T=T/\β.le x.β/\(W.os=os/\W.output=ou.output)/\(B0<=W.L.size/\b0<=x.w.L.size/\∀b B,x.β b B->β b B\/(b0<=b/\B0<=B)):=by
 have wf:WellFounded (ik (Ky P.a) (·<·:Nat->Nat->Prop)):=(iv ⟨_,Ky.wf P.a⟩ dn).wf;refine jP (P:=P.b) wf (λμ m t=>∃gs W sl q x a,m=b9 gs W sl/\gs[0]?=E a/\gs.size=n/\Jw P.b zO gs W t q/\Tw P SB BB zZ Gn zO Kp x a W/\Ep P.a (Fp P.a BB) Q x.g x.w/\x.H=H/\x.T=T/\β.le x.β/\(W.os=os/\W.output=ou.output)/\(B0<=W.L.size/\b0<=x.w.L.size/\∀b B,x.β b B->β b B\/(b0<=b/\B0<=B))/\μ=(.tree Q (x.g,x.w),sumTo n q))
  (λm t=>∃gs W sl q x a,m=b9 gs W sl/\gs[0]?=E a/\gs.size=n/\Jw P.b zO gs W t q/\Tw P SB BB zZ Gn zO Kp x a W/\Q x.g x.w/\x.H=H/\x.T=T/\β.le x.β/\(W.os=os/\W.output=ou.output)/\(B0<=W.L.size/\b0<=x.w.L.size/\∀b B,x.β b B->β b B\/(b0<=b/\B0<=B))) ?_
 rintro μ m t ⟨gs,W,sl,q,x,a,rfl,h0,hn,hb,ht,hr,eH,eT,zX,a8,zv,rfl⟩;by_cases hq:Q x.g x.w
 .exact .inl ⟨gs,W,sl,q,x,a,rfl,h0,hn,hb,ht,hq,eH,eT,zX,a8,zv⟩
 refine .inr ?_;have a6:a.status=.L:=ht.gl.status.2;have aA:∀g∈gs,awake g:=by
  intro g hg;obtain⟨i,hi,rfl⟩:=ea.1 hg;obtain rfl|a7:=Bw i
  .have:gs[0]=a:=by simpa [AV hi] using h0
   rw[this];exact k0 (.inl a6)
  .exact k0 ((hb.lv.old i _ a7 (AV hi)).status.S .inl λx=>.inr (.inr x))
 obtain⟨i,g,d,sl',hi,hg,zG⟩:=ln (P:=P.b) (w:=W) (sl:=sl) aA ⟨0,a,h0,a6⟩;obtain rfl|a7:=Bw i
 .obtain⟨gs',W',t',x',a',k1,k2,k3,k4,k5,k6,k7,k8,k9,aB,k11,k12,k13,k14⟩:=(hb.at d).tree lib (ht.at d) h0 hr hq sl';exact⟨_,_,(.tree Q (x'.g,x'.w),sumTo n q),by rw[zG,k1],bw _ _ ⟨.tree hq k7,DB (E5.of hr)⟩,gs',W',sl',q,x',a',rfl,k3,k2.trans hn,k4,k5,k6,k8.trans eH,k9.trans eT,Ey.le_trans zX aB,⟨k11.1.trans a8.1,k11.2.trans a8.2⟩,⟨AU zv.1 k12,AU zv.2.1 k13,λb B hb=>(k14 b B hb).S (zv.2.2 b B) λh=>.inr ⟨AU zv.2.1 h.1,AU zv.1 h.2⟩⟩,rfl⟩
 .obtain⟨gs',t',q',k1,k2,k3,k4,k5⟩:=(hb.at d).slip a7 hi hg h0 a6 sl';exact⟨_,_,(.tree Q (x.g,x.w),sumTo n q'),by rw[zG,k1],bA _ (by rw[<-hn];exact k4),gs',W.at d,sl',q',x,a,rfl,k3,k2.trans hn,k5,ht.at d,hr,eH,eT,zX,a8,zv,rfl⟩
end
open Go.ConcR (KK WgAt stA smA rd wr mk DC0 Bk)
section
variable {P:EK} {SB BB:bk->Bool} {zZ:Bool} {Gn:Nat} {ty Wg:Nat} {zO zN:Nat->Prop} {Kp:IB} {Ψ0 Ψ2:bh->Prop} {fA fW:bk} {wl:Nat} {Pr:Ey} {T:List b7} {Fn:Bool->Hid->J->bh->Prop}
def uh {j:Nat}{f:Nat->Nat}(h:∀i,i<j->f i=0):sumTo j f=0:=by
 induction j with
 |zero=>rfl
 |succ j ih=>simp only[sumTo];rw[ih λi hi=>h i (by omega),h j (by omega)]
def Mb {gs:Array J}{W:bh}{t:cf}{q:Nat->Nat}{sl:Option (Nat×Nat)}{x:Lone}{a:J}{tp:Bool}{k:Nat}
    (lv:ql P.b t gs q) (past:Past (JE zO) Wg t) (quiet:Quiet (JE zO) t) (hgs:∀(i:Nat) (op:s5),t[i]?=E op->op.g<gs.size) (aA:∀B,zO B->B<Wg) (aB:WgAt ty Wg W 0 0) (h0:gs[0]?=E a)
    (zQ:Fx P SB BB zZ x a) (aK:GQ P SB zZ Gn x W) (aL:x.H.Fg=ak) (hT:x.T=T) (hb:Pr.le x.β) (aG:∀b,x.β b Wg->x.H b=br) (aC:∀b B,x.β b B->¬zO B) (aH:∀b B,x.β b B->zN B->x.H b=br)
    (JA:∀B,zN B->(B≠Wg/\¬zO B)/\¬Kp.at_ B/\B<W.L.size) (keep:∀B,Kp.at_ B->B<W.L.size/\B≠Wg/\W.L[B]?=Kp.w.L[B]?) (F2:∀b B,x.β b B->Kp.at_ B->x.H b=br\/Ro x.w b)
    (aM:W.os=Kp.w.os/\W.output=Kp.w.output) (aD:(tp=br->Ψ0 W)/\(tp=ak->Ψ2 W)) (aI:Qf P SB BB zZ Gn ty Wg zN Ψ0 Ψ2 fA fW wl Pr T Fn k tp x.H x.g x.w) (aO:gs.size+k<=Kp.bd/\Kp.bd<=2147483647) :
    ∃μ,NR P SB BB zZ Gn ty Wg zO zN Kp Ψ0 Ψ2 fA fW wl Pr T Fn (gs.size-1) μ (b9 gs W sl) t:=by
  have hgp:0<gs.size:=(AJ.1 h0).1;have a8:Wg<W.L.size:=(AJ.1 aB).1;obtain⟨j,hj⟩:∃j,gs.size=j+1:=⟨gs.size-1,by omega⟩;rw[show gs.size-1=j by omega];obtain⟨ts,a7⟩:∃ts:TS,ts=if tp then .start else .done:=⟨_,rfl⟩
  have aN:ts.tp=tp:=by rw[a7];cases tp<;>rfl
  have aJ:∀(i:Nat) (y:Touch),touchAt t i=E y->∀b:Addr,y.loc=.cell b->b.LE≠Wg:=by
    intro i y hy b hb e;obtain⟨op,hop,hoy⟩:=vu hy;have Fa:=past.seen op (Bn hop);have key:∀(act:MemAct) (y:Touch),act.L=E y->act.LK Wg->y.loc=.cell b->False:=by
      intro act y hy Fa hb;cases act with
      |access ev =>
        simp only[b8,dr] at hy;subst hy;obtain⟨loc,wr,sy⟩:=ev;simp only at hb;subst hb;simp only[wb,Loc.low] at Fa;omega
      |mark m =>
        cases m<;>simp[b8] at hy
        all_goals
          subst hy;simp only[Loc.cell.injEq] at hb;subst hb;simp only[wb] at Fa;omega
      |_=>simp[b8] at hy
    exact key op.act y hoy Fa hb
  let L:Nat->Option Lone:=put (λ_=>er) 0 (E x)
  have a6:∀ {i y},L i=E y->i=0/\y=x:=λ{i y} e=>by
    by_cases e':i=0
    · subst e';simp only[L,EG,dr] at e;exact⟨rfl,e.LH⟩
    · simp only[L,EJ _ _ e'] at e;cases e
  have aF:∀k l,LR zN L ts.tp k l->k=0/\l.L=br/\¬JE zO l:=by
    rintro k l (⟨y,hy,b,B,h1,h2,h4⟩|⟨h1,_,B,h2,h4⟩)
    · obtain⟨rfl,rfl⟩:=a6 hy
      refine⟨rfl,Il h4,?_⟩;rintro⟨c,rfl,hd⟩;have e:c.LE=B:=h4;exact aC b B h1 (e▸hd)
    · refine⟨h1,Il h4,?_⟩
      rintro⟨c,rfl,hd⟩;have e:c.LE=B:=h4;exact(JA B h2).1.2 (e▸hd)
  let D:Nat->WD:=λi=>⟨1,0,wq t (i+1)⟩
  have hV:Vc j D=0:=uh λi _=>rfl
  refine⟨((k,9,.tree (Kw P SB BB zZ Gn ty Wg zN Ψ0 Ψ2 fA fW wl Pr T Fn k tp x.H) (x.g,x.w)),(b6 j).map (λi=>Wm.st 1 (q (i+1))),(0,0)),j,gs,W,sl,D,λi=>.st 1 (q (i+1)),λ_=>ak,L,ts,λ_=>0,0,0,.sp 0 5,0,λ_=>0,0,x,a,rfl,
    ⟨⟨hj,λi hi=>?_,⟨λi y hy=>?_,λi y hy=>?_,λi y hy=>?_,λi y hy=>?_,λi y hy _=>?_,λi i' y y' zU hy hy'=>?_,⟨a8,λB hB=>vd (aA B hB) a8,λB hB=>(JA B hB).2.2⟩,λB hB=>(JA B hB).1,keep,λi y hy=>?_,λB hB=>(JA B hB).2.1,aM⟩,?_,λop hop=>?_,λi hi=>rfl,λi hi h2=>by omega,aB,λi _ h=>(by cases h),λk h=>?_,⟨λh=>aD.1 ?_,λh=>aD.2 ?_⟩,λi hi=>EJ _ _ (by omega),λi _=>rfl,AK _⟩,
      by rw[aN];exact .free aI hb hT zQ,EG _ _ _,h0,past.hears,?_,λe=>by simp at e,by simp only;omega⟩,by simp⟩
  · have zY:i+1<gs.size:=by omega
    refine⟨gs[i+1],AV zY,?_⟩;have:L (i+1)=none:=EJ _ _ (by omega);rw[this];exact .quit (lv.old (i+1) _ (by omega) (AV zY))
  · obtain⟨rfl,rfl⟩:=a6 hy;exact aK
  · obtain⟨rfl,rfl⟩:=a6 hy;exact aL
  · obtain⟨rfl,rfl⟩:=a6 hy;exact aG
  · obtain⟨rfl,rfl⟩:=a6 hy;exact aC
  · obtain⟨rfl,rfl⟩:=a6 hy;exact aH
  · obtain⟨rfl,rfl⟩:=a6 hy
    obtain⟨rfl,rfl⟩:=a6 hy';exact AS rfl zU
  · obtain⟨rfl,rfl⟩:=a6 hy;exact F2
  · have t0 := D6 (Sh := Nn zO Wg) (Wr := Ol zN L ts.tp) (Rd := LR zN L ts.tp) (N := j + 1) (Pd := fun _ _ => False) (a := stA Wg) past (fun l hl => by
        obtain⟨c,rfl,h|h⟩:=hl
        · exact .inl ⟨c,rfl,h⟩
        · exact .inr ⟨c,rfl,by omega⟩) (λl hl=>by obtain⟨c,rfl,h⟩:=hl;exact⟨c,rfl,.inl h⟩) (λi op y hi hy hs=>by
        obtain⟨c,hc,h|h⟩:=hs
        · exact quiet i op y hi hy ⟨c,hc,h⟩
        · exact AS h (aJ i y (by rw[sA hi];exact hy) c hc)) (AK _) (λi op hi=>by have:=hgs i op hi;omega) (by omega) (λk l h=>aF k l (gF h)) aF
    exact t0.Qb λ_ _ _ h=>h.S
  · exact qc (Nat.le_of_lt a8) (past.seen op hop)
  · rw[a7] at h;cases tp<;>cases h
  · rw[a7] at h
    cases tp with
    |true=>rfl
    |false=>cases h
  · rw[a7] at h
    cases tp with
    |true=>cases h
    |false=>rfl
  · have:=ConcN.Mode.opn (j:=j) (D:=D) (tag:=.sp 0 5) trivial (λi _=>.inr (.inr (.inr rfl))) (by simp)
    rw[hV] at this;simpa [pend] using this
end
def cT (p:bq):Frame:={ (default:b7) with fn:=p.L.size,defers:=[],mode:=.panicking [p5] }
def lB {p:bq} {f:bk} {fn:eA} (hf:p.L[f]?=E fn) (hname:(fn.name == "runtime.NumGoroutine")=ak) {c:wh} (hb:fn.body=E c) (cc:Array cK) (W:bh) :
  jx p ak (born p ⟨.fn (.func f) cc,#[]⟩) W=.go (bo (bn p f cc .S) [cT p]) W #[]:=by
 have h1:¬fn.name = "runtime.NumGoroutine":=by simpa using hname
 simp[born,jx,unwind,callDeferred,invoke,vx,hf,h1,hb,GStep.after,s9,cT,bo]
def rO {p:bq}{C:b7}{fn:eA}(hf:p.L[C.fn]?=E fn)(hr:fn.results=#[])(hm:C.mode=.returning)(hd:C.defers=[])(hk:C.kind=.S):nx p 2 0 (bo C [cT p]):=by
 refine .inr ⟨rfl,bo (cT p) [],#[],by simp,λw=>?_,.inr ⟨rfl,{ frame:=cT p,callers:=[],status:=.finished,dying:=er },#[],by simp,λw=>?_,⟨rfl,rfl⟩⟩⟩
 .obtain⟨a1,a2,a3,a4,a5,a6,a7⟩:=C;dsimp only at hf hm hd hk;subst hm hd hk;simp[bo,jx,unwind,hf,results_none hr,events_results_none hr,doReturn,cT,p5,GStep.after,s9]
 .simp[bo,jx,unwind,cT,p5,Frame.catches];rfl
def wy {p:bq}{m:Bool}{b:b7}{a:Act}{ops:Array q9}{i:Nat}{rest:List Nat}{o:q9}{k:List vk}{cs:List b7}{w:bh}{f:bk}{cc:Array cK}{t:Tmp}(ho:ops[i]?=E o)(hop:o.op=.go { callee:=.value (.tmp t),args:=#[],argTypes:=#[] })(hd:o.L=er)
  (hw:Region.wanted o (yielded ops a.tmps)=br) (hk:b.kind≠.early) (ht:a.eval (.tmp t)=.func (.func f) #[] cc) :
  jx p m (bo (b.at a (.inRegion ops (i::rest)::k)) cs) w=.spawn (bo (b.at a (.inRegion ops rest::k)) cs) (born p ⟨.fn (.func f) cc,#[]⟩) w #[]:=by
 have h1:(wo a.eval o).run p w=.ok (.spawn ⟨.fn (.func f) cc,#[]⟩) w:=by simp[wo,resolve,hop,ht,Deferred.ofValue]
 have h2:(wo a.eval o).events p w #[]=#[]:=by simp[wo,resolve,hop,ht,Deferred.ofValue]
 rw[stepG_spawn ho hw hk h1 rfl];have h3:listed p b.fn a o w=#[]:=by unfold listed;rw[h2];exact s9 _ _
 have h4:a.put o.L undef=a:=by rw[hd];rfl
 rw[h3,h4]
section
variable {P:EK} {SB BB:bk->Bool} {zZ:Bool} {Gn:Nat} {Wg:Nat} {zN:Nat->Prop}
structure LD (P:EK)(SB BB:bk->Bool)(zZ:Bool)(x:Lone)(G:J)(b:b7)(a:Act)(ops:Array q9)(i:Nat)(k:List vk)(f:bk)(cc:Array cK)(t:Tmp)(fn:eA)(c:wh):Prop where
 g:x.g=bo (b.at a (.inRegion ops [i]::k)) [bad]
 bb:BB b.fn=br
 op:∃o,ops[i]?=E o/\o.op=.go { callee:=.value (.tmp t),args:=#[],argTypes:=#[] }/\o.L=er/\o.guard=er
 ke:b.kind≠.early
 ht:a.eval (.tmp t)=.func (.func f) #[] cc
 hf:P.a.L[f]?=E fn/\P.b.L[f]?=E fn/\(fn.name == "runtime.NumGoroutine")=ak/\fn.body=E c
 sb:SB f=br
def n7 {o:q9}(h:o.guard=er)(y:Nat->Option Bool):Region.wanted o y=true:=by
 unfold Region.wanted;rw[h]
def KR {x:Lone}{G:J}{W:bh}{b:b7}{a:Act}{ops:Array q9}{i:Nat}{k:List vk}{f:bk}{cc:Array cK}{t:Tmp}{fn:eA}{c:wh}(h:LD P SB BB zZ x G b a ops i k f cc t fn c)
  (hg:Fx P SB BB zZ x G) :
  ∃G' CC,jx P.b br G W=.spawn G' (born P.b ⟨.fn (.func f) CC,#[]⟩) W #[]/\Fx P SB BB zZ { x with g:=bo (b.at a (.inRegion ops []::k)) [bad] } G'/\Ei (SP SB x.H) x.β cc CC:=by
 obtain⟨o,o1,o2,o3,o4⟩:=h.op;have a7:=hg.top.Jm (by rw[h.g];exact h.bb);have zW:=hg.callers;rw[h.g] at a7 zW;have zR:EC P.a SB x.H zZ x.β (b.at a (.inRegion ops [i]::k)) G.L:=a7;obtain⟨B,A,Qi,i2,PR,K2,a6⟩:=Kd zR ⟨rfl,rfl,ops,i,[],k,rfl⟩;have aA:=zR.todo;rw[a6] at aA;have aB:Qi=ops/\i2::PR=[i]:=by
  cases aA with
  |cons hi _=>cases hi;exact⟨rfl,rfl⟩
 obtain⟨rfl,e2⟩:=aB;simp only[List.cons.injEq] at e2;obtain⟨rfl,rfl⟩:=e2;have a8:Ee (SP SB x.H) x.β (a.eval (.tmp t)) (A.eval (.tmp t)):=by
  have:=zR.tmps;rw[a6] at this;exact this.LH t (Ee.undef _ _)
 rw[h.ht] at a8;have:∃CC,A.eval (.tmp t)=.func (.func f) #[] CC/\Ei (SP SB x.H) x.β cc CC:=by
  generalize A.eval (.tmp t)=V at a8;cases a8 with
  |@func _ F _ X _ CC hF h1 _ h2 a2 =>
   cases hF with
   |func _ =>
    have:X=#[]:=by simpa using h1.LH
    exact⟨CC,by rw[this],h2,a2⟩
 obtain⟨CC,eC,hCC⟩:=this;have aC:B.kind≠.early:=by
  have:=zR.kind;rw[a6] at this;have h2:b.kind=B.kind:=this;rw[<-h2];exact h.ke
 have eG:G=bo G.L G.callers:=iy hg;have fin:=bp zR (v:=undef) (V:=undef) (Ee.undef _ _);rw[a6,ez,ez,o1] at fin;simp only[BS,o3] at fin;refine⟨bo (B.at A (.inRegion Qi []::K2)) G.callers,CC,?_,⟨.on ?_,?_,⟨rfl,rfl⟩,⟨rfl,rfl⟩,⟨rfl,rfl⟩⟩,hCC⟩
 .rw[eG,a6];exact wy o1 o2 o3 (n7 o4 _) aC eC
 .exact fin
 .exact zW
def Mc (L:∀H,Lib P SB H zZ BB Gn){x:Lone}{G:J}{W:bh}{b:b7}{a:Act}{ops:Array q9}{i:Nat}{k:List vk}{f:bk}{cc:Array cK}{t:Tmp}{fn:eA}{c:wh}(h:LD P SB BB zZ x G b a ops i k f cc t fn c)
  (hg:Fx P SB BB zZ x G) (hw:GQ P SB zZ Gn x W) (a7:x.H.Fg=ak) (hid:∀b,x.β b Wg->x.H b=br) (Jz:∀b B,x.β b B->zN B->x.H b=br) {tp:Bool} {wl:Ey} (a8:∀b B,wl b B->x.β b B)
  {K:Nat->Prop} {w1:bh} (hcut:LW P.a SB zZ x.H x.H K (bo (b.at a (.inRegion ops []::k)) [bad]) x.w w1) (a6:∀b,K b->x.H b=br\/Ro w1 b) (hcc:Ei (SP SB x.H) (E0 K) cc cc) (hK:∀b B,wl b B->K b) :
  ∃G' child,jx P.b br G W=.spawn G' child W #[] /\
   Split P SB BB zZ Gn Wg zN x G' child W tp tp ak ⟨bo (b.at a (.inRegion ops []::k)) [bad],w1,x.H,cut K x.β,x.T⟩ ⟨bo (bn P.a f cc .S) [bad],w1,x.H,cut K x.β,[cT P.b]⟩ wl:=by
 obtain⟨G',CC,e1,e2,e3⟩:=KR h (W:=W) hg;obtain⟨f1,f2,f3,f4⟩:=h.hf;have hwc:=mH hcut hw
 refine⟨G',_,e1,?_,hwc,a7,⟨rfl,bo (bn P.b f CC .S) [cT P.b],λW=>lB f2 f3 f4 CC W,⟨Fl (L x.H) (.inl h.sb) (e3.cut hcut.bl hcc) .S (by decide),.base,⟨rfl,rfl⟩,⟨rfl,rfl⟩,⟨rfl,rfl⟩⟩⟩,hwc,a7,λb B h=>⟨hK b B h,a8 b B h⟩,
  λb B hb=>⟨b,hb.2,λhh=>⟨hh,λ_=>(a6 b hb.1).L (by rw[hh];simp)⟩⟩,λb B hb=>.inl ⟨b,hb.2,λhh=>⟨hh,λ_=>(a6 b hb.1).L (by rw[hh];simp)⟩⟩,λb hb=>hid b hb.2,λb hb=>hid b hb.2,λb B hb=>Jz b B hb.2,λ_ b B hb=>Jz b B hb.2,?_,⟨λe=>(by cases e),λ_=>rfl⟩⟩
 .exact mG (g:=bo (b.at a (.inRegion ops []::k)) [bad]) h.bb hcut e2
 .intro b1 b2 B h1 h2;have:b1=b2:=hw.FH.inj h1.2 h2.2;subst this;obtain e|e:=a6 b1 h1.1
  .exact .inl e
  .exact .inr (.inr ⟨e,e⟩)
def wA (K:Nat->Prop)(β:Ey):cut K (cut K β)=cut K β:=by
 funext b B;exact propext ⟨λh=>h.2,λh=>⟨h.1,h⟩⟩
def Dw (H:Hid)(tl:Nat->Bool):Hid:=⟨λb=>H.at_ b&&!tl b,ak,br⟩
def Md (L:∀H,Lib P SB H zZ BB Gn){x:Lone}{G:J}{W:bh}{b:b7}{a:Act}{ops:Array q9}{i:Nat}{k:List vk}{f:bk}{cc:Array cK}{t:Tmp}{fn:eA}{c:wh}(h:LD P SB BB zZ x G b a ops i k f cc t fn c)
  (hg:Fx P SB BB zZ x G) (hw:GQ P SB zZ Gn x W) (a8:x.H.Fg=ak) (hid:∀b,x.β b Wg->x.H b=br) (Jz:∀b B,x.β b B->zN B->x.H b=br) {wl:Ey} (aC:∀b B,wl b B->x.β b B)
  {K:Nat->Prop} {w1 wk:bh} (hcut:LW P.a SB zZ x.H x.H K (bo (b.at a (.inRegion ops []::k)) [bad]) x.w w1) (a6:∀b,K b->x.H b=br\/Ro w1 b) (hK:∀b B,wl b B->K b)
  {tl:Nat->Bool} (hcc:Ei (SP SB (Dw x.H tl)) (E0 K) cc cc) (aA:∀b B,x.β b B->tl b=br->zN B) (aB:∀b,tl b=br->x.H b=br) (aD:¬zN Wg)
  (zv:w1.L.size<=wk.L.size/\wk.os=w1.os) (hold:∀b,K b->tl b=ak->wk.L[b]?=w1.L[b]?) (aF:∀b o,K b->x.H b=ak->w1.L[b]?=E o->Fb (SP SB (Dw x.H tl)) (CK P.a SB zZ) (E0 K) o o)
  (a7:∀b B,K b->tl b=br->x.β b B->∃o O,wk.L[b]?=E o/\W.L[B]?=E O/\Fb (SP SB (Dw x.H tl)) (CK P.a SB zZ) (cut K x.β) o O) (zY:∀b,x.H b=br->b<wk.L.size) :
  ∃G' child,jx P.b br G W=.spawn G' child W #[] /\
   Split P SB BB zZ Gn Wg zN x G' child W br ak br ⟨bo (b.at a (.inRegion ops []::k)) [bad],w1,x.H,cut K x.β,x.T⟩ ⟨bo (bn P.a f cc .S) [bad],wk,Dw x.H tl,cut K x.β,[cT P.b]⟩ wl:=by
 obtain⟨G',CC,e1,e2,e3⟩:=KR h (W:=W) hg;obtain⟨f1,f2,f3,f4⟩:=h.hf;have hwc:=mH hcut hw;have hH:∀b,(Dw x.H tl) b=br↔x.H b=br/\tl b=false:=λb=>by simp[Dw]
 have hHf:∀b,(Dw x.H tl) b=ak->x.H b=ak\/tl b=true:=λb hb=>by
  simp only[Dw,Bool.and_eq_false_iff,CE] at hb;exact hb
 have hRk:∀b,K b->tl b=ak->Ro w1 b->Ro wk b:=λb hk ht ⟨c,t,z,h1,h2⟩=>⟨c,t,z,(hold b hk ht).trans h1,h2⟩;have hwk:EU (SP SB (Dw x.H tl)) (CK P.a SB zZ) Gn (cut K x.β) wk W:=by
  refine⟨hwc.FH,⟨AU hwc.room.1 zv.1,hwc.room.2⟩,λb B hb hh=>?_,λb B hb hh=>?_,λb hh=>zY b ((hH b).1 hh).1,by rw[zv.2];exact hwc.env⟩
  .cases ht:tl b with
   |true=>exact a7 b B hb.1 ht hb.2
   |false =>
    have hx:x.H b=false:=(hHf b hh).resolve_right (by rw[ht];simp);obtain⟨o,O,q1,q2,q3⟩:=hwc.F4 b B hb hx;refine⟨o,O,(hold b hb.1 ht).trans q1,q2,?_⟩;have:=q3.cut rfl (aF b o hb.1 hx q1);rw[wA] at this;exact this
  .obtain⟨q1,q2⟩:=(hH b).1 hh;obtain⟨r1,r2,_⟩:=hwc.Ge b B hb q1;exact⟨(hold b hb.1 q2).trans r1,λ_=>r2 a8,λe=>by cases e⟩
 refine⟨G',_,e1,?_,hwc,a8,⟨rfl,bo (bn P.b f CC .S) [cT P.b],λW=>lB f2 f3 f4 CC W,⟨Fl (L (Dw x.H tl)) (.inl h.sb) (e3.cut rfl hcc) .S (by decide),.base,⟨rfl,rfl⟩,⟨rfl,rfl⟩,⟨rfl,rfl⟩⟩⟩,hwk,rfl,λb B h=>⟨hK b B h,aC b B h⟩,
  λb B hb=>⟨b,hb.2,λhh=>⟨hh,λ_=>(a6 b hb.1).L (by rw[hh];simp)⟩⟩,λb B hb=>?_,λb hb=>hid b hb.2,λb hb=>(hH b).2 ⟨hid b hb.2,?_⟩,λb B hb=>Jz b B hb.2,λe=>(by cases e),?_,⟨λ_=>⟨rfl,rfl⟩,λe=>(by cases e)⟩⟩
 .exact mG (g:=bo (b.at a (.inRegion ops []::k)) [bad]) h.bb hcut e2
 .cases ht:tl b with
  |true=>exact .inr ⟨rfl,aA b B hb.2 ht⟩
  |false =>
   refine .inl ⟨b,hb.2,λhh=>?_⟩;have hx:x.H b=false:=(hHf b hh).resolve_right (by rw[ht];simp);exact⟨hx,λ_=>hRk b hb.1 ht ((a6 b hb.1).L (by rw[hx];simp))⟩
 .cases ht:tl b with
  |false=>rfl
  |true=>exact AS (aA b Wg hb.2 ht) aD
 .intro b1 b2 B h1 h2;have:b1=b2:=hw.FH.inj h1.2 h2.2;subst this;obtain e|e:=a6 b1 h1.1
  .exact .inl e
  .cases ht:tl b1 with
   |true=>exact .inl (aB b1 ht)
   |false=>exact .inr (.inr ⟨e,hRk b1 h1.1 ht e⟩)
end
abbrev Fo (SB:bk->Bool)(H:Hid)(K:Nat->Prop)(v:cK):Prop:=Ee (SP SB H) (E0 K) v v
def Fs {SB:bk->Bool}{H:Hid}{K:Nat->Prop}{l:List cK}(h:∀v∈l,Fo SB H K v):Ei (SP SB H) (E0 K) l.LK l.LK :=
 ⟨rfl,λi v V h1 h2=>by
  rw[h1] at h2;cases h2
  exact h v (By (by simpa using h1))⟩
def Fo.LT {SB:bk->Bool}{H:Hid}{K K':Nat->Prop}{v:cK}(h:Fo SB H K v)(hk:∀b,K b->K' b):Fo SB H K' v :=
 Ee.LT (λb B hb=>⟨hk b hb.1,hb.2⟩) h
def Fo.ptr {SB:bk->Bool}{H:Hid}{K:Nat->Prop}{b:Nat}(hb:K b)(o:Nat)(s:Option Nat):Fo SB H K (.S (E ⟨b,o,s⟩)):=Ee.ptr o s ⟨hb,rfl⟩
def Fo.slice {SB:bk->Bool}{H:Hid}{K:Nat->Prop}{b:Nat}(hb:K b)(o:Nat)(s:Option Nat)(l c:Nat):Fo SB H K (.slice (E ⟨b,o,s⟩) l c):=Ee.slice o s l c ⟨hb,rfl⟩
def Fo.undef {SB:bk->Bool}{H:Hid}{K:Nat->Prop}:Fo SB H K undef:=Ee.undef _ _
def Fo.agg {SB:bk->Bool}{H:Hid}{K:Nat->Prop}{l:List cK}(h:∀v∈l,Fo SB H K v):Fo SB H K (.agg l.LK):=Ee.agg rfl (Fs h).at_
def Fo.func {SB:bk->Bool}{H:Hid}{K:Nat->Prop}{f:bk}(hf:SB f=br){l:List cK}(h:∀v∈l,Fo SB H K v):Fo SB H K (.func (.func f) #[] l.LK):=Ee.func (IX.func (.inl hf)) rfl (λi v V h1=>by simp at h1) rfl (Fs h).at_
def froze (w:bh)(r:Nat):World:=match w.L[r]? with
 |some (.cells c t _)=>{ w with heap:=w.L.L r (.cells c t (0,c.size)) }
 |_=>w
def cV (w:bh)(r:Nat):(froze w r).L.size=w.L.size:=by
 unfold froze;split<;>simp
def gG (w:bh)(r:Nat):(froze w r).os=w.os:=by
 unfold froze;split<;>rfl
def fy (w:bh){r b:Nat}(h:b≠r):(froze w r).L[b]?=w.L[b]?:=by
 unfold froze;split
 .exact Br (Ne.symm h)
 .rfl
def dm {w:bh}{r:Nat}{c:Array cK}{t:lh}{f:Nat×Nat}(h:w.L[r]?=E (.cells c t f)):(froze w r).L[r]?=E (.cells c t (0,c.size)):=by
 unfold froze;rw[h];exact CR (AJ.1 h).1
def Ext (w w':bh):Prop:=w.L.size<=w'.L.size/\(∀b,b<w.L.size->w'.L[b]?=w.L[b]?)/\w'.os=w.os
def Ext.trans {a b c:bh}(h:Ext a b)(k:Ext b c):Ext a c:=⟨AU h.1 k.1,λx hx=>(k.2.1 x (AO hx h.1)).trans (h.2.1 x hx),k.2.2.trans h.2.2⟩
def Ext.LK (w:bh)(o:Obj):Ext w (w.LK o):=⟨by
 have:(w.LK o).L.size=w.L.size+1:=qf _;omega,λb hb=>by
 have:(w.LK o).L[b]?=if b=w.L.size then E o else w.L[b]?:=Cy ..
 rw[this,AN (Dr hb)],rfl⟩
def Ext.same {a b:bh}(h:EE a b):Ext a b:=⟨by rw[h.1];exact AK _,λ_ _=>by rw[h.1],h.2.1⟩
section
variable {P:bq} {zO:Nat->Prop}
def Jw.awake {gs:Array J}{W:bh}{t:cf}{q:Nat->Nat}(hb:Jw P zO gs W t q){a:J}(h0:gs[0]?=E a)(zA:a.status=.L):∀g∈gs,sS g:=by
 intro g hg;obtain⟨i,hi,rfl⟩:=ea.1 hg;obtain rfl|a6:=Bw i
 .have:gs[0]=a:=by simpa [AV hi] using h0
  rw[this];exact k0 (.inl zA)
 .exact k0 ((hb.lv.old i _ a6 (AV hi)).status.S .inl λx=>.inr (.inr x))
end
section
variable {P:EK} {SB BB:bk->Bool} {zZ:Bool} {Gn:Nat} {zO:Nat->Prop} {Kp:IB}
def Lj {gs:Array J}{W:bh}{t:cf}{q:Nat->Nat}{sl:Option (Nat×Nat)}{a:J}(hb:Jw P.b zO gs W t q)(h0:gs[0]?=E a)(zA:a.status=.L) :
  ∃N m1 t1,runNT P.b N (b9 gs W sl) t=(.next m1,t1)/\∃a6 d a7 q1,stepT P.b m1=runT P.b (b9 a6 (W.at d) a7) 0/\a6[0]?=E a/\a6.size=gs.size/\Jw P.b zO a6 (W.at d) t1 q1:=by
 refine jP (P:=P.b) (r:=(·<·:Nat->Nat->Prop)) Nat.lt_wfRel.wf (λn m t=>∃a6 d a7 q1,m=b9 a6 (W.at d) a7/\a6[0]?=E a/\a6.size=gs.size/\Jw P.b zO a6 (W.at d) t q1/\n=sumTo gs.size q1)
  (λm1 t1=>∃a6 d a7 q1,stepT P.b m1=runT P.b (b9 a6 (W.at d) a7) 0/\a6[0]?=E a/\a6.size=gs.size/\Jw P.b zO a6 (W.at d) t1 q1) ?_ (sumTo gs.size q) (b9 gs W sl) t ⟨gs,W.drawn,sl,q,rfl,h0,rfl,hb,rfl⟩
 rintro n m t ⟨a6,d,a7,q1,rfl,a8,hs1,hb1,rfl⟩;obtain⟨i,g,d',sl',hi,hg,zG⟩:=ln (P:=P.b) (w:=W.at d) (sl:=a7) (hb1.awake a8 zA) ⟨0,a,a8,zA⟩;obtain rfl|aA:=Bw i
 .exact .inl ⟨a6,d',sl',q1,zG,a8,hs1,hb1.at d'⟩
 .obtain⟨gs',t',q',k1,k2,k3,k4,k5⟩:=(hb1.at d').slip aA hi hg a8 zA sl';exact .inr ⟨_,_,sumTo gs.size q',by rw[zG,k1];rfl,by rw[<-hs1];exact k4,gs',d',sl',q',rfl,k3,k2.trans hs1,k5,rfl⟩
def Jw.Rh {gs:Array J}{W W':bh}{t:cf}{q:Nat->Nat}{sl:Option (Nat×Nat)}{a a':J}(hb:Jw P.b zO gs W t q)(h0:gs[0]?=E a)(zK:jx P.b br a W=.go a' W' #[]) :
  ∃gs',runT P.b (b9 gs W sl) 0=(.next (b9 gs' W' sl),#[])/\gs'.size=gs.size/\gs'[0]?=E a'/\ql P.b t gs' q:=by
 have zY:0<gs.size:=(AJ.1 h0).1;have hr:=cq (P:=P.b) (sl:=sl) (i:=0) h0 (by simpa using zK);have e0:bs 0 a.L.fn a.L.LH #[]=#[]:=by rw[gB];simp
 rw[e0] at hr;refine⟨_,hr,by simp,by simp[zY],λj y hj hy=>?_,λj hj=>hb.lv.above j (by simpa using hj)⟩;have zU:0≠j:=by omega
 rw[Br zU,BT] at hy;obtain⟨z,hz,rfl⟩:=Bo.1 hy;have a6:=hb.lv.old j z hj hz;rw[dS a6];exact a6
end
def more (β:Ey)(b B:Nat):Ey:=λx y=>β x y\/(x=b/\y=B)
def oZ (β:Ey)(b B:Nat):β.le (more β b B):=λ_ _ h=>.inl h
section
variable {P:EK} {SB BB:bk->Bool} {zZ:Bool} {Gn:Nat} {H:Hid} {β:Ey} {w W:bh}
def rR {Ck:wh->Prop}(h:EU (SP SB H) Ck Gn β w W){b:Nat}(hb:∀B,¬β b B)(hH:H b=br)(a7:H.Fg=ak)(hw:w.L[b]?=E (.coro er))(hG:Gn<=b){c:Array cK}{ty:lh}{f:Nat×Nat} :
  EU (SP SB H) Ck Gn (more β b W.L.size) w (W.LK (.cells c ty f)):=by
 have zY:∀x y,β x y->y<W.L.size:=λx y a6=>by
  cases e:H x with
  |false=>obtain⟨o,O,_,h2,_⟩:=h.F4 x y a6 e;exact(AJ.1 h2).1
  |true=>obtain⟨_,h2,_⟩:=h.Ge x y a6 e;obtain⟨c,t,f,h3⟩:=h2 a7;exact(AJ.1 h3).1
 have get:∀y,(W.LK (.cells c ty f)).L[y]?=if y=W.L.size then E (.cells c ty f) else W.L[y]?:=λy=>Cy ..
 have size:(W.LK (.cells c ty f)).L.size=W.L.size+1:=qf _;refine⟨⟨?_,?_,?_⟩,⟨h.room.1,by rw[size];exact C3 h.room.2⟩,λx y a6 hh=>?_,λx y a6 hh=>?_,h.old,h.env⟩
 .rintro x y y' (h1|⟨rfl,rfl⟩) (h2|⟨h2,rfl⟩)
  .exact h.FH.fn h1 h2
  .subst h2;exact AS h1 (hb _)
  .exact AS h2 (hb _)
  .rfl
 .rintro x x' y (h1|⟨rfl,rfl⟩) (h2|⟨rfl,h2⟩)
  .exact h.FH.inj h1 h2
  .have:=zY _ _ h1;omega
  .have:=zY _ _ h2;omega
  .rfl
 .rintro x y (h1|⟨rfl,rfl⟩)
  .exact h.FH.lo h1
  .exact⟨hG,h.room.2⟩
 .obtain a6|⟨rfl,rfl⟩:=a6
  .obtain⟨o,O,h1,h2,h3⟩:=h.F4 x y a6 hh;exact⟨o,O,h1,by rw[get,AN (Dr (zY x y a6))];exact h2,h3.LT (oZ _ _ _)⟩
  .have a8:H x=false:=hh;rw[hH] at a8;cases a8
 .obtain a6|⟨rfl,rfl⟩:=a6
  .obtain⟨h1,h2,h3⟩:=h.Ge x y a6 hh;exact⟨h1,λe=>by rw[get,AN (Dr (zY x y a6))];exact h2 e,λe=>by rw[get,AN (Dr (zY x y a6))];exact h3 e⟩
  .exact⟨hw,λ_=>⟨c,ty,f,by rw[get,AP rfl]⟩,λe=>by have e':H.Fg=true:=e;rw[a7] at e';cases e'⟩
end
section
variable {P:EK} {SB BB:bk->Bool} {zZ:Bool} {Gn:Nat} {H:Hid} {T:List b7} {β:Ey}
def Mf {f:bk}{fa fb:eA}{c:wh}(h1:P.a.L[f]?=E fa)(h2:P.b.L[f]?=E fb)(h3:fa.body=E c)(h4:codeOk P.a SB zZ br c=ak)(hn:fb.ntmps=fa.ntmps)
  {args:Array cK} (zv:args.size<=fa.ntmps) {k:CallKind} {F:b7} (h:Gw P SB H zZ BB β (bn P.a f args k) F):∃ARGS,F=bn P.b f ARGS k/\Ei (SP SB H) β args ARGS:=by
 generalize hF:bn P.a f args k=fr at h;cases h with
 |on h =>
  exfalso;have ht:=h.todo;rw[<-hF] at ht;simp only[bn,h1,h3,BS,Bf] at ht;generalize F.todo=X at ht;cases ht with
  |cons hi _ =>
   cases hi with
   |code hc =>
    simp only[l9] at hc;rw[h4] at hc;cases hc
 |@stop f' a A k' _ _ _ ha =>
  have e1:f=f':=Bh wu hF;have e2:k=k':=Bh vN hF;subst e1 e2;have e3:args++U (fa.ntmps-args.size) undef=a++U (fa.ntmps-a.size) undef:=by
   have:=Bh vX hF;simpa [bn,h1] using this
  have hs:=Bh wa e3;simp only[mA,kx] at hs;have hA:=ha.size;have all:Ei (SP SB H) β (args++U (fa.ntmps-args.size) undef) (A++U (fa.ntmps-A.size) undef):=by
   rw[e3,<-hA];exact ha.append (Ei.replicate (Ee.undef _ _) _)
  refine⟨(A++U (fa.ntmps-A.size) undef).extract 0 args.size,?_,?_⟩
  .have e4 : A ++ U (fa.ntmps - A.size) undef = (A ++ U (fa.ntmps - A.size) undef).extract 0 args.size ++ U (fa.ntmps - ((A ++ U (fa.ntmps - A.size) undef).extract 0 args.size).size) undef := by
    have zk:((A++U (fa.ntmps-A.size) undef).extract 0 args.size).size=args.size:=by simp;omega
    rw[zk];generalize hX:A++U (fa.ntmps-A.size) undef=X at all zk ⊢;have hXs:X.size=fa.ntmps:=by rw[<-hX];simp;omega
    apply Array.ext (by simp;omega);intro i i1 i2;by_cases hi:i<args.size
    .rw[Array.getElem_append_left (by rw[zk];exact hi)];simp
    .rw[Array.getElem_append_right (by rw[zk];omega)];simp only[Array.getElem_replicate];have:=all.at_ i undef X[i] (by rw[Array.getElem?_append_right (by omega),BZ,AP (by omega)]) (AV i1);exact Px.undef _ this
   simp only[bn,h2,B5,Bf,hn];rw[<-e4]
  .have:=all.extract 0 args.size;have e5:(args++U (fa.ntmps-args.size) undef).extract 0 args.size=args:=by simp
   rwa [e5] at this
def rU {S:FO}{Ck:wh->Prop}{w w1 W:bh}(h:EU S Ck Gn β w W)(hs:w1.L.size=w.L.size)(ho:w1.os=w.os)
  (hb:∀b:Nat,w1.L[b]?=w.L[b]?\/∃(c:Array cK) (t:lh) (f f1:Nat×Nat),w.L[b]?=E (.cells c t f)/\w1.L[b]?=E (.cells c t f1)/\∀i,f.1<=i->i<f.2->f1.1<=i/\i<f1.2):EU S Ck Gn β w1 W:=by
 refine⟨h.FH,by rw[hs];exact h.room,λb B a6 hh=>?_,λb B a6 hh=>?_,λb hh=>by rw[hs];exact h.old b hh,by rw[ho];exact h.env⟩
 .obtain⟨o,O,e1,e2,e3⟩:=h.F4 b B a6 hh;obtain e|⟨c,t,f,f1,q1,q2,q3⟩:=hb b
  .exact⟨o,O,e.trans e1,e2,e3⟩
  .rw[q1] at e1;cases e1;exact⟨_,O,q2,e2,Fb.QZ e3 q3⟩
 .obtain⟨e1,e2,e3⟩:=h.Ge b B a6 hh;obtain e|⟨c,t,f,f1,q1,q2,q3⟩:=hb b
  .exact⟨e.trans e1,e2,e3⟩
  .rw[q1] at e1;cases e1
end
def cW {P:bq}{K:Nat}{m1:ek}{t1:cf}:∀ {N:Nat} {m:ek} {t:cf},runNT P N m t=(.next m1,t1)->runNT P (N+K) m t=runNT P K m1 t1:=by
 intro N
 induction N with
 |zero=>intro m t h;simp only[runNT,Prod.mk.injEq,Stepped.next.injEq] at h;obtain⟨rfl,rfl⟩:=h;rw[Bd]
 |succ N ih =>
  intro m t h;rw[show N+1+K=(N+K)+1 by omega];have e : ∀ n, runNT P (n + 1) m t = match stepT P m with
    |(.next m,ops)=>runNT P n m (t++ops)
    |(e,ops)=>(e,t++ops):=λ_=>rfl
  rw[e] at h ⊢;rcases hs:stepT P m with⟨s,ops⟩
  rw[hs] at h;cases s with
  |next m'=>exact ih h
  |ended o w=>simp at h
def pf {P:bq}{m m':ek}{t:cf}{ops:Array s5}(h:stepT P m=(.next m',ops)):runNT P 1 m t=(.next m',t++ops):=by
 unfold runNT;rw[h];rfl
structure Ir (Shun:Loc->Prop)(B d:Nat)(t:cf):Prop where
 calm:∀said,¬Race said t
 knows:∀i x,touchAt t i=E x->x.loc.L=br->Knows t 0 i\/(Shun x.loc/\x.kind=.atomic)
 handed:t.HandedOver
 LE:wq t 0=d
 Li:∀op∈t,op.act.LK B
section
variable {Shun:Loc->Prop} {B B' d d':Nat} {t u:cf}
def Ir.of (h:Past Shun B t):Ir Shun B 0 t:=⟨h.clean,h.known,h.over,h.hears,h.seen⟩
def Ir.past (h:Ir Shun B 0 t):Past Shun B t:=⟨h.calm,h.knows,h.handed,h.LE,h.Li⟩
def Ir.LT (h:Ir Shun B d t)(hB:B<=B'):Ir Shun B' d t:=⟨h.calm,h.knows,h.handed,h.LE,λop hop=>qc hB (h.Li op hop)⟩
def Nv {t u:cf}(ht:∀op∈t,op.act.LK B)(hu:∀op∈u,op.act.LK B):∀op∈t++u,op.act.LK B:=λop hop=>(Array.mem_append.1 hop).S (ht op) (hu op)
def Ir.LH (h:Ir Shun B d t){fn:bk}{pos:String}{es:Array qo}(hes:∀e∈es,(∀x,(bW e).L=E x->Shun x.loc->x.kind≠.plain)/\(bW e).LK B)(hd:df d es=d'):Ir Shun B d' (t++bs 0 fn pos es):=by
 have hg:∀op∈bs 0 fn pos es,op.g=0:=λop hop=>by obtain⟨e,_,rfl⟩:=bc hop;rfl
 refine⟨λsaid=>noRace_append (h.calm said) hg λi x hx op hop y hy hc=>?_,λi x hx hm=>?_,sF h.handed λop hop=>.inl (hg op hop),by rw[mm,h.LE];exact hd,Nv h.Li λop hop=>by obtain⟨e,he,rfl⟩:=bc hop;exact(hes e he).2⟩
 .obtain⟨e,he,rfl⟩:=bc hop;obtain hk|⟨s1,s2⟩:=h.knows i x hx hc.2.1
  .exact hk
  .exfalso;have np:=(hes e he).1 y hy (hc.1▸s1);obtain⟨_,_,_,a6⟩:=hc;rw[s2] at a6;obtain z|z|⟨_,z,_⟩:=a6
   .cases z
   .exact np z
   .cases z
 .obtain⟨z,hz,a7⟩:=vu hx;obtain⟨_,hz'⟩|⟨_,a8⟩:=b5 hz
  .exact(h.knows i x (by rw[sA hz'];exact a7) hm).imp (·.app _) id
  .have:=knows_own hz;rw[hg z a8] at this;exact .inl this
def Ir.mute (h:Ir Shun B d t){g:Nat}(hg:g≠0){fn:bk}{pos:String}{es:Array qo}(hm:∀e∈es,e.mute=br):Ir Shun B d (t++bs g fn pos es):=by
 have hu:∀op∈bs g fn pos es,op.g=g/\op.act.L=er/\op.act.LK B:=λop hop=>by
  obtain⟨e,he,rfl⟩:=bc hop;exact⟨rfl,sw (hm e he),low_mute (hm e he) B⟩
 refine⟨λsaid=>noRace_append (h.calm said) (λop hop=>(hu op hop).1) λi x _ op hop y hy _=>(by rw[(hu op hop).2.1] at hy;cases hy),λi x hx hmm=>?_,sF h.handed λop hop=>.inr (hu op hop).2.1,(cu t hg _ λop hop=>(hu op hop).1).trans h.LE,Nv h.Li λop hop=>(hu op hop).2.2⟩;obtain⟨z,hz,a6⟩:=vu hx;obtain⟨_,hz'⟩|⟨_,a7⟩:=b5 hz
 .exact(h.knows i x (by rw[sA hz'];exact a6) hmm).imp (·.app _) id
 .rw[(hu z a7).2.1] at a6;cases a6
end
structure IL (P:bq)(zO:Nat->Prop)(d:Nat)(gs:Array J)(W:bh)(t:cf)(q:Nat->Nat):Prop where
 lv:ql P t gs q
 past:Ir (JE zO) W.L.size d t
 LE:Quiet (JE zO) t
 OI:∀(i:Nat) (op:s5),t[i]?=E op->op.g<gs.size
 LK:∀B,zO B->B<W.L.size
def IL.of {P:bq}{zO:Nat->Prop}{gs:Array J}{W:bh}{t:cf}{q:Nat->Nat}(h:Jw P zO gs W t q):IL P zO 0 gs W t q:=⟨h.lv,.of h.past,h.LE,h.OI,h.LK⟩
def IL.RH {P:bq}{zO:Nat->Prop}{gs:Array J}{W:bh}{t:cf}{q:Nat->Nat}(h:IL P zO 0 gs W t q):Jw P zO gs W t q:=⟨h.lv,h.past.past,h.LE,h.OI,h.LK⟩
section
variable {P:EK} {SB BB:bk->Bool} {zZ:Bool} {Gn:Nat} {zO:Nat->Prop} {Kp:IB} {dd:Nat}
def IL.at {gs:Array J}{W:bh}{t:cf}{q:Nat->Nat}(h:IL P.b zO dd gs W t q)(d:Nat):IL P.b zO dd gs (W.at d) t q:=⟨h.lv,h.past,h.LE,h.OI,h.LK⟩
def IL.slip {gs:Array J}{W:bh}{t:cf}{q:Nat->Nat}(h:IL P.b zO dd gs W t q){i:Nat}{g a:J}(aC:0<i)(hi:gs[i]?=E g)(zA:g.status=.L)(h0:gs[0]?=E a)(ha:a.status=.L)(sl:Option (Nat×Nat)) :
  ∃gs' t' q',runT P.b (b9 gs W sl) i=(.next (b9 gs' W sl),t')/\gs'.size=gs.size/\gs'[0]?=E a/\sumTo gs.size q'<sumTo gs.size q/\IL P.b zO dd gs' W (t++t') q':=by
 have hq:=h.lv.old i g aC hi;have aH:(i==0)=false:=by simp;omega
 have zY:i<gs.size:=(AJ.1 hi).1;cases a7:q i with
 |zero=>rw[a7] at hq;rw[hq.1] at zA;cases zA
 |succ k =>
  rw[a7] at hq;obtain⟨hf,_⟩|⟨_,g',es,hm,aD,hq'⟩:=hq
  .rw[hf] at zA;cases zA
  have aA:=cq (P:=P.b) (sl:=sl) (i:=i) hi (by rw[aH];exact aD W);have aI:sumTo gs.size (upd q i k)+(k+1)=sumTo gs.size q+k:=by
   have:=sumTo_upd q k id zY;simpa [a7] using this
  have a8:∀op∈bs i g.L.fn g.L.LH es,op.g=i:=λop hop=>by obtain⟨e,_,rfl⟩:=bc hop;rfl
  refine⟨_,_,upd q i k,aA,by simp,?_,by omega,⟨λj x hj hx=>?_,λj hj=>?_⟩,h.past.mute (by omega) hm,h.LE.app λop hop x hx hs=>?_,λj op hop=>?_,h.LK⟩
  .have zU:i≠0:=by omega
   rw[Br zU,BT,h0];simp[woken_run ha]
  .by_cases a6:i=j
   .subst a6;rw[CR (by simpa using zY)] at hx;obtain rfl:=j1 hx;rw[qq,mm];exact hq'
   .rw[Br a6,BT] at hx;obtain⟨y,hy,rfl⟩:=Bo.1 hx;have aB:=h.lv.old j y hj hy;rw[dS aB,upd_ne q k (Ne.symm a6),cu t a6 _ a8];exact aB
  .rw[cu t (g':=i) (by simp at hj;omega) _ a8];exact h.lv.above j (by simpa using hj)
  .obtain⟨e,he,rfl⟩:=bc hop;rw[sw (hm e he)] at hx;cases hx
  .obtain⟨_,aF⟩|⟨_,aG⟩:=b5 hop
   .simpa using h.OI j op aF
   .rw[a8 op aG];simpa using zY
def IL.fin {gs:Array J}{W W':bh}{t:cf}{q:Nat->Nat}(h:IL P.b zO dd gs W t q){x:Lone}{a g2:J}{Ef:Ey}{w':bh}{ES:Array qo}(a7:x.H.Fg=ak)(aC:∀b B,x.β b B->zO B->x.H b=br)
  (h0:gs[0]?=E a) (e3:jx P.b br a W=.go g2 W' ES) (f:Ik P SB zZ Gn x W Ef w' W' ES.LK) (sl:Option (Nat×Nat)) :
  ∃gs' t',runT P.b (b9 gs W sl) 0=(.next (b9 gs' W' sl),t')/\gs'.size=gs.size/\gs'[0]?=E g2/\IL P.b zO dd gs' W' (t++t') q:=by
 have aF:ES.LK.LK=ES:=by simp
 have a8:=cN f a7;rw[aF] at a8;have aA:=eY f a7 (k:=0) (fn:=a.L.fn) (pos:=a.L.LH);rw[aF] at aA;have aB:∀op∈bs 0 a.L.fn a.L.LH ES,op.g=0:=λop hop=>by obtain⟨e,_,rfl⟩:=bc hop;rfl
 have old:∀b B,Ef b B->B<W.L.size->x.β b B:=λb B hb hB=>(f.new b B hb).S id λh=>AS h.2 (js.2 hB);have aD:∀b B,Ef b B->zO B->x.H b=true:=λb B hb hd=>aC b B (old b B hb (h.LK B hd)) hd;have a6:∀e∈ES,∀z,(bW e).L=E z->¬JE zO z.loc:=by
  intro e he z hz ⟨b,hb,hd⟩;have hE:=f.evs a7 e (by simpa using he);cases hE with
  |@cell a A wr sy hab _ hc _ =>
   have:z.loc=.cell A:=by simp[bW,b8] at hz;subst hz;rfl
   rw[this] at hb;cases hb;obtain⟨n,hn,_⟩:=hc;have:=(f.rel.Ge _ _ hab (aD _ _ hab hd)).1;rw[this] at hn;simp[FK] at hn
  |@obj r R wr sy _ _ =>
   have:z.loc=.obj R:=by cases wr<;>cases sy<;>simp[bW,b8] at hz<;>subst hz<;>rfl
   rw[this] at hb;cases hb
  |mark hm=>cases hm<;>simp[bW,b8] at hz
  |out =>
   have:z.loc=.output:=by simp[bW,b8] at hz;subst hz;rfl
   rw[this] at hb;cases hb
 have zY:0<gs.size:=(AJ.1 h0).1
 refine⟨_,_,cq (P:=P.b) (sl:=sl) (i:=0) h0 (by simpa using e3),by simp,by simp[zY],
  ⟨⟨λj y hj hy=>?_,λj hj=>?_⟩,(h.past.LT f.SIZE).LH (λe he=>⟨λz hz hs=>AS hs (a6 e he z hz),?_⟩) (qb (λe he=>⟨(a8 e he).1,(a8 e he).2.1⟩) dd),h.LE.app λop hop z hz hs=>?_,λj op hop=>?_,λB hB=>AO (h.LK B hB) f.SIZE⟩⟩
 .have zU:0≠j:=by omega
  rw[Br zU,BT] at hy;obtain⟨z,hz,rfl⟩:=Bo.1 hy;have aG:=h.lv.old j z hj hz;rw[dS aG,cu t (by omega) _ aB];exact aG
 .rw[cu t (g':=0) (by simp at hj;omega) _ aB];exact h.lv.above j (by simpa using hj)
 .exact aA { g:=0,fn:=a.L.fn,pos:=a.L.LH,act:=.ofEvent e } (by rw[gB];exact s4.2 ⟨e,he,rfl⟩)
 .obtain⟨e,he,rfl⟩:=bc hop;exact AS hs (a6 e he z hz)
 .obtain⟨_,aH⟩|⟨_,aI⟩:=b5 hop
  .simpa using h.OI j op aH
  .rw[aB op aI];simpa using zY
def IL.spec {gs:Array J}{W:bh}{t:cf}{q:Nat->Nat}(h:IL P.b zO dd gs W t q){a g2:J}{β:Ey}{es ES:Array qo}
  (h0:gs[0]?=E a) (e3:jx P.b br a W=.go g2 W ES) (e5:Hc β es ES) (e6:∀e∈ES,∀ad,e.loc=.mark (.acquire ad)\/e.loc=.mark (.releaseMerge ad)->ad.LE<W.L.size) (sl:Option (Nat×Nat)) :
  ∃gs' t',runT P.b (b9 gs W sl) 0=(.next (b9 gs' W sl),t')/\gs'.size=gs.size/\gs'[0]?=E g2/\IL P.b zO (df dd es) gs' W (t++t') q:=by
 have a6:=e5.mem;have a7:∀op∈bs 0 a.L.fn a.L.LH ES,op.g=0:=λop hop=>by obtain⟨e,_,rfl⟩:=bc hop;rfl
 have zY:0<gs.size:=(AJ.1 h0).1
 refine⟨_,_,cq (P:=P.b) (sl:=sl) (i:=0) h0 (by simpa using e3),by simp,by simp[zY],
  ⟨⟨λj y hj hy=>?_,λj hj=>?_⟩,h.past.LH (λe he=>⟨λz hz hs=>?_,e5.LK e6 e he⟩) (e5.LE dd),h.LE.app λop hop z hz hs=>?_,λj op hop=>?_,h.LK⟩⟩
 .have zU:0≠j:=by omega
  rw[Br zU,BT] at hy;obtain⟨z,hz,rfl⟩:=Bo.1 hy;have a8:=h.lv.old j z hj hz;rw[dS a8,cu t (by omega) _ a7];exact a8
 .rw[cu t (g':=0) (by simp at hj;omega) _ a7];exact h.lv.above j (by simpa using hj)
 .rw[(a6 e he).1] at hz;cases hz
 .obtain⟨e,he,rfl⟩:=bc hop;rw[(a6 e he).1] at hz;cases hz
 .obtain⟨_,aA⟩|⟨_,aB⟩:=b5 hop
  .simpa using h.OI j op aA
  .rw[a7 op aB];simpa using zY
def I2 (lib:∀H,Lib P SB H zZ BB Gn)(aI:∀(f:bk) (fn:eA),P.a.L[f]?=E fn->fn.body.L=br->P.fs[f]?=E fn){H:Hid}{T:List b7}{β:Ey}{Q:J->bh->Prop}(aH:∀g w,Q g w->BB g.L.fn=ak\/∃f R,EB.Left P.a f R g w){os:Os}{ou:bh}{n b0 B0:Nat}:∀(μ:Wm×Nat) (m:ek) (t:cf),
  (∃gs W sl q x a d,m=b9 gs W sl/\gs[0]?=E a/\gs.size=n/\IL P.b zO d gs W t q/\Tw P SB BB zZ Gn zO Kp x a W/\E5 P.a BB Q d x.g x.w/\x.H=H/\x.T=T/\β.le x.β/\(W.os=os/\W.output=ou.output)/\(B0<=W.L.size/\b0<=x.w.L.size/\∀b B,x.β b B->β b B\/(b0<=b/\B0<=B))/\μ=(.tree Q (x.g,x.w),sumTo n q)) ->
  ∃N m' t',runNT P.b N m t=(.next m',t')/\∃gs W sl q x a,m'=b9 gs W sl/\gs[0]?=E a/\gs.size=n/\IL P.b zO 0 gs W t' q/\Tw P SB BB zZ Gn zO Kp x a W/\Q x.g x.w/\x.H=H/\x.T=T/\β.le x.β/\(W.os=os/\W.output=ou.output)/\(B0<=W.L.size/\b0<=x.w.L.size/\∀b B,x.β b B->β b B\/(b0<=b/\B0<=B)):=by
 have wf:WellFounded (ik (Ky P.a) (·<·:Nat->Nat->Prop)):=(iv ⟨_,Ky.wf P.a⟩ dn).wf;refine jP (P:=P.b) wf (λμ m t=>∃gs W sl q x a d,m=b9 gs W sl/\gs[0]?=E a/\gs.size=n/\IL P.b zO d gs W t q/\Tw P SB BB zZ Gn zO Kp x a W/\E5 P.a BB Q d x.g x.w/\x.H=H/\x.T=T/\β.le x.β/\(W.os=os/\W.output=ou.output)/\(B0<=W.L.size/\b0<=x.w.L.size/\∀b B,x.β b B->β b B\/(b0<=b/\B0<=B))/\μ=(.tree Q (x.g,x.w),sumTo n q))
  (λm t=>∃gs W sl q x a,m=b9 gs W sl/\gs[0]?=E a/\gs.size=n/\IL P.b zO 0 gs W t q/\Tw P SB BB zZ Gn zO Kp x a W/\Q x.g x.w/\x.H=H/\x.T=T/\β.le x.β/\(W.os=os/\W.output=ou.output)/\(B0<=W.L.size/\b0<=x.w.L.size/\∀b B,x.β b B->β b B\/(b0<=b/\B0<=B))) ?_
 rintro μ m t ⟨gs,W,sl,q,x,a,d,rfl,h0,hn,hb,ht,hr,eH,eT,zX,aA,zv,rfl⟩;have aB:=DB hr;have a8:a.status=.L:=ht.gl.status.2;have aJ:∀g∈gs,awake g:=by
  intro g hg;obtain⟨i,hi,rfl⟩:=ea.1 hg;obtain rfl|aC:=Bw i
  .have:gs[0]=a:=by simpa [AV hi] using h0
   rw[this];exact k0 (.inl a8)
  .exact k0 ((hb.lv.old i _ aC (AV hi)).status.S .inl λx=>.inr (.inr x))
 by_cases aD:d=0/\Q x.g x.w
 .obtain⟨rfl,hq⟩:=aD;exact .inl ⟨gs,W,sl,q,x,a,rfl,h0,hn,hb,ht,hq,eH,eT,zX,aA,zv⟩
 refine .inr ?_;obtain⟨i,g,e,sl',hi,hg,zG⟩:=ln (P:=P.b) (w:=W) (sl:=sl) aJ ⟨0,a,h0,a8⟩;obtain rfl|aC:=Bw i
 .generalize a7:x.g=gx at hr;generalize aF:x.w=wx at hr;cases hr with
  |fin hq=>exact AS ⟨rfl,by rw[a7,aF];exact hq⟩ aD
  |next ng nw f1 f2 f3 =>
   subst a7 aF;have hq:¬Q x.g x.w:=λhq=>by
    obtain h|⟨f,R,h⟩:=aH _ _ hq
    .have:=f1.1;rw[h] at this;cases this
    .obtain⟨⟨es,e9⟩,n9⟩:=f2 x.w.tape x.w.drawn;exact EB.Left.last h (_,_) ⟨x.w.tape,x.w.drawn,es,e9,n9⟩
   have a6:=ht.at e;have hb':=hb.at e;obtain⟨g',w',es,Ef,g2,W',ES,e1,e2,e3,e4,e5⟩:=Km (lib x.H) (main2:=br) f1 f2 a6.gl a6.wl;have f:Ik P SB zZ Gn x (W.at e) Ef w' W' ES.LK:=e5;obtain⟨gs',t',k1,k2,k3,k4⟩:=hb'.fin a6.tw a6.dead h0 e3 f sl';obtain⟨k5,k6⟩:=KQ f a6.keep a6.F2;have aG:∀b B,Ef b B->zO B->x.H b=true:=λb B hb1 hd=>(f.new b B hb1).S (λh1=>ht.dead b B h1 hd) λh1=>AS h1.2 (js.2 (hb'.LK B hd))
   obtain⟨rfl,rfl⟩:=e2;refine⟨_,_,(.tree Q (ng (W.at e).tape (W.at e).drawn,nw (W.at e).tape (W.at e).drawn),sumTo n q),by rw[zG,k1],bw _ _ ⟨.tree hq ⟨(W.at e).tape,(W.at e).drawn,es,e1,e4.callers.ne⟩,aB⟩,gs',W',sl',q,⟨_,_,x.H,Ef,x.T⟩,g2,d,rfl,k3,k2.trans hn,k4,⟨e4,f.rel,ht.tw,aG,k5,k6⟩,f3 _ _,eH,eT,Ey.le_trans zX f.le,⟨f.OS.trans aA.1,f.OUT.trans aA.2⟩,⟨AU zv.1 f.SIZE,AU zv.2.1 f.size,λb B hb1=>(f.new b B hb1).S (zv.2.2 b B) λh=>.inr ⟨AU zv.2.1 h.1,AU zv.1 h.2⟩⟩,rfl⟩
  |@spec _ b a' ops i0 rest k cs _ o es v f1 f2 f3 f4 f5 f6 f7 =>
   subst aF;have hq:¬Q x.g x.w:=λhq=>by
    obtain this|⟨f,R,w9,v9,fr,_,_,h9,_,hm,_⟩:=aH _ _ hq
    .rw[a7] at this;exact AS f1 (by rw[show b.fn=(Fc (b.at a' (.inRegion ops (i0::rest)::k)) cs).L.fn from rfl,this];decide)
    .rw[a7] at h9;have e9:b.at a' (.inRegion ops (i0::rest)::k)=fr:=Bh Goroutine.frame h9;rw[<-e9] at hm;cases hm
   have a6:=ht.at e;have hb':=hb.at e;have zL:Gf P SB x.H zZ BB x.T x.β (Fc (b.at a' (.inRegion ops (i0::rest)::k)) cs) a:=a7▸a6.gl;obtain⟨g2,ES,e3,e4,e5,e6⟩:=LV aI (main2:=br) f1 zL a6.wl f3 f4 f5 f6;obtain⟨gs',t',k1,k2,k3,k4⟩:=hb'.spec h0 e3 e5 e6 sl';refine⟨_,_,(.tree Q (Fc (b.at (a'.put o.L v) (.inRegion ops rest::k)) cs,on x.w (W.at e).tape (W.at e).drawn),sumTo n q),by rw[zG,k1],bw _ _ ⟨.tree (by have:=hq;rwa [a7] at this) ⟨(W.at e).tape,(W.at e).drawn,es,?_,f2⟩,by rw[a7] at aB;exact aB⟩,gs',W.at e,sl',q,⟨Fc (b.at (a'.put o.L v) (.inRegion ops rest::k)) cs,on x.w (W.at e).tape (W.at e).drawn,x.H,x.β,x.T⟩,g2,df d es,rfl,k3,k2.trans hn,k4,⟨e4,a6.wl.same rfl rfl a6.wl.env,ht.tw,ht.dead,a6.keep,a6.F2⟩,f7 _ _,eH,eT,zX,aA,zv,rfl⟩
   exact(f6.same Dt).step f3 f4 f5
 .obtain⟨gs',t',q',k1,k2,k3,k4,k5⟩:=(hb.at e).slip aC hi hg h0 a8 sl';exact⟨_,_,(.tree Q (x.g,x.w),sumTo n q'),by rw[zG,k1],bA _ (by rw[<-hn];exact k4),gs',W.at e,sl',q',x,a,d,rfl,k3,k2.trans hn,k5,ht.at e,hr,eH,eT,zX,aA,zv,rfl⟩
end
end Go.Co
namespace Go.Sq
open Go.Proofs
open Go.RowKit
def fj {p q:bq}(h:p.toTables=q.toTables)(t:lh)(w:bh):eo p (typeInfo t) w=eo q (typeInfo t) w:=by
 simp only[typeInfo,cU,run_program,cE,h];cases Tables.info? q.toTables t<;>rfl
def kX {p q:bq}(h:p.toTables=q.toTables)(t:lh):p.LH t=q.LH t:=by simp only[Program.underlying,h]
def oM {p q:bq}(h:p.toTables=q.toTables)(t:lh)(w:bh):eo p (underlying t) w=eo q (underlying t) w:=by
 simp only[underlying,cU,run_program,cE,kX h];cases q.LH t<;>rfl
def qW {p q:bq}(h:p.toTables=q.toTables)(t:lh)(w:bh):eo p (isAgg t) w=eo q (isAgg t) w:=by
 unfold isAgg;rw[cU,cU,oM h t w];generalize (underlying t).run q w=r;cases r with
 |ok d w1=>cases d<;>simp only[cE,nc]
 |halt _ _=>simp only[cE]
def pF {p q:bq}(h:p.toTables=q.toTables)(t:lh)(w:bh):eo p (uA t) w=eo q (uA t) w:=by
 unfold uA;rw[cU,cU,fj h t w];generalize (vH t).run q w=r;cases r with
 |ok d w1=>simp only[cE,nc]
 |halt _ _=>simp only[cE]
def lZ {p q:bq}(h:p.toTables=q.toTables)(t:lh)(w:bh):eo p (zeroValue t) w=eo q (zeroValue t) w:=by
 unfold zeroValue;rw[cU,cU,fj h t w];generalize (vH t).run q w=r;cases r with
 |ok i w1 =>
  simp only[cE];cases i.zero with
  |some v2=>simp only[nc]
  |none=>simp[unsupported]
 |halt _ _=>simp only[cE]
def JC (i:bk):Bool:=i==49||i==83||i==84||i==85||i==86||i==3
noncomputable def casBody (x y:Int):Code:=.seq (.L 0 #[{ dst:=E 2,op:=.fieldAddr 109 (.tmp 0) 1,type:=0,pos := "",after:=#[],guard:=er },{ dst:=E 1,op:=.call { callee:=.value (.func 148),args:=#[.tmp 2,.const (.int .i32 x),.const (.int .i32 y)],argTypes:=#[209,21,21] },type:=4,pos := "",after:=#[{ on:=0,ground:=.data }],guard:=er }] ak)
 (.cond (.tmp 1) .ret (.refuse "held"))
noncomputable def Oo (i:bk)(f:eA):Func:=if i==6||JC i then { f with body:=E (.refuse "put aside") } else if i==89 then { f with body:=E (casBody 0 1) } else if i==90 then { f with body:=E (casBody 1 0) } else f
def Nf (p:bq)(g:Nat->eA->eA):Program:=⟨p.toTables,p.L.mapIdx g⟩
def qX (p:bq)(g:Nat->eA->eA)(i:Nat):(Nf p g).L[i]?=(p.L[i]?).map (g i):=by
 show(p.L.mapIdx g)[i]?=_;rw[C8]
def qY (p:bq)(g:Nat->eA->eA):(Nf p g).toTables=p.toTables:=rfl
def l6 {p:bq}{g:Nat->eA->eA}{n:Nat}(h:p.globals.size=n):(Nf p g).globals.size=n:=h
noncomputable def D7:Program:=Nf Tryz.prog Oo
def Sq.get (i:Nat):D7.L[i]?=(Tryz.prog.L[i]?).map (Oo i):=by rw[D7];exact qX _ _ _
def Sq.fn {i:Nat}{f:eA}(h:Tryz.prog.L[i]?=E f)(hi:(i==6||JC i||i==89||i==90)=ak):D7.L[i]?=E f:=by
 rw[Sq.get,h];simp only[CI] at hi;simp only[B5,Oo,hi.1.1.1,hi.1.1.2,hi.1.2,hi.2,Bool.or_self,Bj,if_false]
def Sq.put {i:Nat}{f:eA}(h:Tryz.prog.L[i]?=E f)(hi:(i != 6&&JC i)=br):D7.L[i]?=E { f with body:=E (.refuse "put aside") }:=by
 rw[Sq.get,h];simp only[AY,bne_iff_ne,ne_eq] at hi;have h9:(i==6)=false:=by simpa using hi.1
 simp only[B5,Oo,h9,hi.2,Bool.or_true,if_true]
def DX:D7.L[6]?=E { Tryz.f6 with body:=E (.refuse "put aside") }:=by
 rw[Sq.get,Tryz.func6];rfl
noncomputable def DN:Func:={ Tryz.f89 with body:=E (casBody 0 1) }
noncomputable def DK:Func:={ Tryz.f90 with body:=E (casBody 1 0) }
def Sq.f89:D7.L[89]?=E DN:=by
 rw[Sq.get,Tryz.func89];rfl
def Sq.f90:D7.L[90]?=E DK:=by
 rw[Sq.get,Tryz.func90];rfl
def DO:DN.ntmps=6:=rfl
def DM:DK.ntmps=6:=rfl
def Dy:D7.toTables=Tryz.prog.toTables:=by rw[D7];exact qY _ _
@[go_sem] theorem Sq.typeInfo (t:TypeId)(w:World):Sem.run D7 (typeInfo t) w=Sem.run Tryz.prog (typeInfo t) w:=fj Dy t w
@[go_sem] theorem Sq.run (t:TypeId)(w:World):Sem.run D7 (underlying t) w=Sem.run Tryz.prog (underlying t) w:=oM Dy t w
@[go_sem] theorem Dv (t:TypeId)(w:World):Sem.run D7 (isAgg t) w=Sem.run Tryz.prog (isAgg t) w:=qW Dy t w
@[go_sem] theorem Sq.sizeOf (t:TypeId)(w:World):Sem.run D7 (Go.sizeOf t) w=Sem.run Tryz.prog (Go.sizeOf t) w:=pF Dy t w
@[go_sem] theorem Sq.LT (t:TypeId)(w:World):Sem.run D7 (Go.zeroValue t) w=Sem.run Tryz.prog (Go.zeroValue t) w:=lZ Dy t w
@[go_sem] theorem Sq.LH (t:TypeId):D7.LH t=Tryz.prog.LH t:=kX Dy t
@[go_sem] theorem Sq.LK:D7.globals.size=0:=(by rw[D7];exact l6 Tryz.globals_size)
def ae {P:bq} {i:Nat} {f:eA} (h:P.L[i]?=E f) (hn:(f.name == "runtime.NumGoroutine")=false:=by decide +kernel) (hb:f.body.isSome=true:=by rfl) (args:Array cK) (w:bh):eo P (vx i args) w=.ok (.enter i args) w:=by
 have a6:¬f.name = "runtime.NumGoroutine":=by simpa using hn
 have hb':f.body≠none:=Option.isSome_iff_ne_none.1 hb;simp[vx,h,a6,hb']
def Sq.func4:=Sq.fn Tryz.func4 rfl
def Sq.func8:=Sq.fn Tryz.func8 rfl
def Sq.func7:=Sq.fn Tryz.func7 rfl
def Sq.func13:=Sq.fn Tryz.func13 rfl
def Sq.func24:=Sq.fn Tryz.func24 rfl
@[go_sem] def Sq.call24:=ae Sq.func24
def Sq.func25:=Sq.fn Tryz.func25 rfl
def Sq.func5:=Sq.fn Tryz.func5 rfl
def Sq.func12:=Sq.fn Tryz.func12 rfl
@[go_sem] def Sq.call12:=ae Sq.func12
def Sq.func14:=Sq.fn Tryz.func14 rfl
def Sq.func30:=Sq.fn Tryz.func30 rfl
@[go_sem] def Sq.call30:=ae Sq.func30
def Sq.func31:=Sq.fn Tryz.func31 rfl
@[go_sem] def Sq.call31:=ae Sq.func31
def Sq.func17:=Sq.fn Tryz.func17 rfl
@[go_sem] def Sq.call17:=ae Sq.func17
def Sq.func81:=Sq.fn Tryz.func81 rfl
@[go_sem] def Sq.call81:=ae Sq.func81
def Sq.func104:=Sq.fn Tryz.func104 rfl
@[go_sem] def Sq.call104:=ae Sq.func104
def Sq.func9:=Sq.fn Tryz.func9 rfl
def Sq.func28:=Sq.fn Tryz.func28 rfl
@[go_sem] def Sq.call28:=ae Sq.func28
def Sq.func20:=Sq.fn Tryz.func20 rfl
@[go_sem] def Sq.call20:=ae Sq.func20
def Sq.func32:=Sq.fn Tryz.func32 rfl
@[go_sem] def Sq.call32:=ae Sq.func32
def Sq.func33:=Sq.fn Tryz.func33 rfl
@[go_sem] def Sq.call33:=ae Sq.func33
def Sq.func34:=Sq.fn Tryz.func34 rfl
@[go_sem] def Sq.call34:=ae Sq.func34
def Sq.func35:=Sq.fn Tryz.func35 rfl
@[go_sem] def Sq.call35:=ae Sq.func35
def Sq.func39:=Sq.fn Tryz.func39 rfl
@[go_sem] def Sq.call39:=ae Sq.func39
def Sq.func48:=Sq.fn Tryz.func48 rfl
@[go_sem] def Sq.call48:=ae Sq.func48
def Sq.func50:=Sq.fn Tryz.func50 rfl
def Sq.func51:=Sq.fn Tryz.func51 rfl
@[go_sem] def Sq.call51:=ae Sq.func51
def Sq.func52:=Sq.fn Tryz.func52 rfl
def Sq.func44:=Sq.fn Tryz.func44 rfl
@[go_sem] def Sq.call44:=ae Sq.func44
def Sq.func57:=Sq.fn Tryz.func57 rfl
def Sq.func58:=Sq.fn Tryz.func58 rfl
@[go_sem] def Sq.call58:=ae Sq.func58
def Sq.func59:=Sq.fn Tryz.func59 rfl
@[go_sem] def Sq.call59:=ae Sq.func59
def Sq.func38:=Sq.fn Tryz.func38 rfl
@[go_sem] def Sq.call38:=ae Sq.func38
def Sq.func60:=Sq.fn Tryz.func60 rfl
@[go_sem] def Sq.call60:=ae Sq.func60
def Sq.func45:=Sq.fn Tryz.func45 rfl
@[go_sem] def Sq.call45:=ae Sq.func45
def Sq.func61:=Sq.fn Tryz.func61 rfl
@[go_sem] def Sq.call61:=ae Sq.func61
def Sq.func62:=Sq.fn Tryz.func62 rfl
@[go_sem] def Sq.call62:=ae Sq.func62
def Sq.func63:=Sq.fn Tryz.func63 rfl
@[go_sem] def Sq.call63:=ae Sq.func63
def Sq.func64:=Sq.fn Tryz.func64 rfl
@[go_sem] def Sq.call64:=ae Sq.func64
def Sq.func65:=Sq.fn Tryz.func65 rfl
@[go_sem] def Sq.call65:=ae Sq.func65
def Sq.func66:=Sq.fn Tryz.func66 rfl
@[go_sem] def Sq.call66:=ae Sq.func66
def Sq.func67:=Sq.fn Tryz.func67 rfl
@[go_sem] def Sq.call67:=ae Sq.func67
def Sq.func77:=Sq.fn Tryz.func77 rfl
@[go_sem] def Sq.call77:=ae Sq.func77
def Sq.func47:=Sq.fn Tryz.func47 rfl
@[go_sem] def Sq.call47:=ae Sq.func47
def Sq.func68:=Sq.fn Tryz.func68 rfl
@[go_sem] def Sq.call68:=ae Sq.func68
def Sq.func69:=Sq.fn Tryz.func69 rfl
@[go_sem] def Sq.call69:=ae Sq.func69
def Sq.func70:=Sq.fn Tryz.func70 rfl
@[go_sem] def Sq.call70:=ae Sq.func70
def Sq.func71:=Sq.fn Tryz.func71 rfl
@[go_sem] def Sq.call71:=ae Sq.func71
def Sq.func82:=Sq.fn Tryz.func82 rfl
@[go_sem] def Sq.call82:=ae Sq.func82
def Sq.func91:=Sq.fn Tryz.func91 rfl
@[go_sem] def Sq.call91:=ae Sq.func91
def Sq.func92:=Sq.fn Tryz.func92 rfl
@[go_sem] def Sq.call92:=ae Sq.func92
def Sq.func105:=Sq.fn Tryz.func105 rfl
@[go_sem] def Sq.call105:=ae Sq.func105
def Sq.func106:=Sq.fn Tryz.func106 rfl
@[go_sem] def Sq.call106:=ae Sq.func106
def Sq.func36:=Sq.fn Tryz.func36 rfl
@[go_sem] def Sq.call36:=ae Sq.func36
def Sq.func22:=Sq.fn Tryz.func22 rfl
@[go_sem] def Sq.call22:=ae Sq.func22
def Sq.func87:=Sq.fn Tryz.func87 rfl
def Sq.func88:=Sq.fn Tryz.func88 rfl
def Sq.func46:=Sq.fn Tryz.func46 rfl
@[go_sem] def Sq.call46:=ae Sq.func46
def Sq.func89:D7.L[89]?=E DN:=Sq.f89
@[go_sem] def Sq.call89:=ae Sq.func89
def Sq.func90:D7.L[90]?=E DK:=Sq.f90
@[go_sem] def Sq.call90:=ae Sq.func90
def Sq.func93:=Sq.fn Tryz.func93 rfl
@[go_sem] def Sq.call93:=ae Sq.func93
def Sq.func94:=Sq.fn Tryz.func94 rfl
@[go_sem] def Sq.call94:=ae Sq.func94
def Sq.func95:=Sq.fn Tryz.func95 rfl
def Sq.func96:=Sq.fn Tryz.func96 rfl
def Sq.func97:=Sq.fn Tryz.func97 rfl
@[go_sem] def Sq.call97:=ae Sq.func97
def Sq.func98:=Sq.fn Tryz.func98 rfl
@[go_sem] def DZ:=ae Sq.func98
def Sq.func99:=Sq.fn Tryz.func99 rfl
@[go_sem] def Sq.call99:=ae Sq.func99
def Sq.func100:=Sq.fn Tryz.func100 rfl
@[go_sem] def Sq.call100:=ae Sq.func100
def Sq.func101:=Sq.fn Tryz.func101 rfl
@[go_sem] def Sq.call101:=ae Sq.func101
def Sq.func102:=Sq.fn Tryz.func102 rfl
@[go_sem] def Sq.call102:=ae Sq.func102
def Sq.func107:=Sq.fn Tryz.func107 rfl
@[go_sem] def Sq.call107:=ae Sq.func107
def Sq.func108:=Sq.fn Tryz.func108 rfl
@[go_sem] def Sq.call108:=ae Sq.func108
def Sq.func109:=Sq.fn Tryz.func109 rfl
@[go_sem] def Sq.call109:=ae Sq.func109
def Sq.func75:=Sq.fn Tryz.func75 rfl
@[go_sem] def Sq.call75:=ae Sq.func75
def Sq.func79:=Sq.fn Tryz.func79 rfl
def Sq.func40:=Sq.fn Tryz.func40 rfl
@[go_sem] def Sq.call40:=ae Sq.func40
def Sq.func41:=Sq.fn Tryz.func41 rfl
@[go_sem] def Sq.call41:=ae Sq.func41
def Sq.func80:=Sq.fn Tryz.func80 rfl
@[go_sem] def Sq.call80:=ae Sq.func80
def Sq.func130:=Sq.fn Tryz.func130 rfl
def Sq.func131:=Sq.fn Tryz.func131 rfl
def Sq.func132:=Sq.fn Tryz.func132 rfl
def Sq.func133:=Sq.fn Tryz.func133 rfl
def Sq.func134:=Sq.fn Tryz.func134 rfl
def Sq.func135:=Sq.fn Tryz.func135 rfl
def Sq.func136:=Sq.fn Tryz.func136 rfl
def Sq.func137:=Sq.fn Tryz.func137 rfl
def Sq.func138:=Sq.fn Tryz.func138 rfl
def Sq.func139:=Sq.fn Tryz.func139 rfl
def Sq.func140:=Sq.fn Tryz.func140 rfl
def Sq.func141:=Sq.fn Tryz.func141 rfl
def Sq.func142:=Sq.fn Tryz.func142 rfl
@[go_sem] def Sq.call142:=ae Sq.func142
def Sq.func72:=Sq.fn Tryz.func72 rfl
@[go_sem] def Sq.call72:=ae Sq.func72
def Sq.func73:=Sq.fn Tryz.func73 rfl
@[go_sem] def Sq.call73:=ae Sq.func73
def Sq.func74:=Sq.fn Tryz.func74 rfl
@[go_sem] def Sq.call74:=ae Sq.func74
def Sq.func76:=Sq.fn Tryz.func76 rfl
@[go_sem] def Sq.call76:=ae Sq.func76
def Sq.func148:=Sq.fn Tryz.func148 rfl
def Sq.func152:=Sq.fn Tryz.func152 rfl
def Sq.func153:=Sq.fn Tryz.func153 rfl
def Sq.func154:=Sq.fn Tryz.func154 rfl
def Sq.func155:=Sq.fn Tryz.func155 rfl
def Sq.func156:=Sq.fn Tryz.func156 rfl
def Sq.func157:=Sq.fn Tryz.func157 rfl
def Sq.func158:=Sq.fn Tryz.func158 rfl
def Sq.func159:=Sq.fn Tryz.func159 rfl
def Sq.func160:=Sq.fn Tryz.func160 rfl
def Sq.func161:=Sq.fn Tryz.func161 rfl
def Sq.func162:=Sq.fn Tryz.func162 rfl
def Sq.func163:=Sq.fn Tryz.func163 rfl
def Sq.func164:=Sq.fn Tryz.func164 rfl
def Sq.func103:=Sq.fn Tryz.func103 rfl
@[go_sem] def Sq.call103:=ae Sq.func103
def Sq.func172:=Sq.fn Tryz.func172 rfl
def Sq.func173:=Sq.fn Tryz.func173 rfl
def Sq.func174:=Sq.fn Tryz.func174 rfl
def Sq.func175:=Sq.fn Tryz.func175 rfl
def Sq.func176:=Sq.fn Tryz.func176 rfl
def Sq.underlying22:D7.LH 22=E (.slice 3):=(Sq.LH 22).trans Tryz.underlying22
def Sq.underlying26:D7.LH 26=E (.slice 22):=(Sq.LH 26).trans Tryz.underlying26
def Sq.underlying23:D7.LH 23=E (.slice 57):=(Sq.LH 23).trans Tryz.underlying23
def Sq.underlying149:D7.LH 149=E (.slice 76):=(Sq.LH 149).trans Tryz.underlying149
def Sq.func37:=Sq.fn Tryz.func37 rfl
@[go_sem] def Sq.call37:=ae Sq.func37
def Sq.func10:=Sq.fn Tryz.func10 rfl
def Sq.func18:=Sq.fn Tryz.func18 rfl
def Sq.func11:=Sq.fn Tryz.func11 rfl
def Sq.func15:=Sq.fn Tryz.func15 rfl
def Sq.func16:=Sq.fn Tryz.func16 rfl
def Sq.func19:=Sq.fn Tryz.func19 rfl
def Sq.func21:=Sq.fn Tryz.func21 rfl
def Sq.func23:=Sq.fn Tryz.func23 rfl
@[go_sem] def Sq.call23:=ae Sq.func23
def Sq.func26:=Sq.fn Tryz.func26 rfl
def Sq.func42:=Sq.fn Tryz.func42 rfl
@[go_sem] def Sq.call42:=ae Sq.func42
def Sq.func43:=Sq.fn Tryz.func43 rfl
@[go_sem] def Sq.call43:=ae Sq.func43
def Sq.func78:=Sq.fn Tryz.func78 rfl
@[go_sem] def Sq.call78:=ae Sq.func78
end Go.Sq
