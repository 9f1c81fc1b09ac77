/- Parts of the proof. -/
import Derived.Test.YtgllajjoinefcaaGreatP03
import Derived.Test.YtgllajjoinefcaaGreatChecked
import Derived.WalkSpells
import Derived.WalkLawsBesides
set_option linter.all false
set_option maxHeartbeats 8000000
set_option maxRecDepth 100000
open Go.Conc renaming stepG_region_end->Z,stepG_seq->Y,stepG_skip->I,mem_ofEvents->bc,G->bo,stepG_ret'->bs,getElem?_append_cases->bD,Deaf_other->b7,crowd->b9,stepG_add_atomic->cd,runT_crowd_go->cu,stepG_load_atomic->cE,woken_quitsD->cF,stepG_markAt->dr,stepG_mark0->ek,stepG_block->fq,awake_of->gg,crowd_pick->hZ,stepG_unwind_entry->iv,QuitsD->kq,ofEvents_eq->lx,Leavers->l8,touch_mute->nh,touchAt_of->nt,handedOver_app->nA,awake->n5,stepG_end->oq,seen_none->oK,Deaf_own->rb,touch_of->rK
open Go renaming Goroutine->J,World->bk,FuncId->br,Program->bA,Frame->b6,Value->cf,Trace->cA,Func->dn,stepG->fz,TypeId->gB,typeInfo->gR,Machine->gU,goexitEntry->lA,Oper->mb,deafBehind->nx,sizeOf->oV,Item->qb,Event->rA,callFunc->r4,Code->s7,execOp->s8,MemOp->s9
open Array renaming replicate->U,mem_iff_getElem->cK,size_replicate->fx,size_append->kn,size_push->l5,mem_map->oo,size->sS
open Bool renaming false->E,true->bq
open Option renaming some->bh,none->df,isNone_none->j3
open Go.Frame renaming enter->bn,finish_at->di,kind->sw,tmps->sF,fn->uA
open Go.MemAct renaming ofEvent->bw,touch?->b5,low_mono->l4,low->s5
open Go.MemOp renaming ofEvents->bW
open Go.Result renaming andThen->b8
open Go.Sem renaming run_bind->ck,run->c0,run_pure->kp
open Go.Value renaming pointer->cq,int->r5
open Go.IntKind renaming wrap_u64->cU,wrap_i32->kV,i64->r6
open Go.ConcN renaming WgLive->dt,st_waiters->ik,st_flag->qf
open Go.Act renaming eval->dy
open Go.ConcR.Gen renaming x_addU64_n->dS,x_addU64_b->ea,x_addU64_x->eb,x_addU64_f->ed,body_add->e7,x_loadU64_n->e8,x_loadU64_b->fc,x_loadU64_x->fl,x_loadU64_f->fo,x_enable_n->jk,x_enable_b->js,x_enable_x->jx,x_enable_f->j1,body_wait->k0,x_disable_n->lh,x_disable_b->ln,x_disable_x->lp,x_disable_f->lu,x_semrelease_b->ml,x_semacquire_n->mm,x_semacquire_b->mo,x_semacquire_x->mA,x_semacquire_f->nc,body_done->ot,nm_uLoad->q9
open Option.some renaming injEq->eo,inj->eA
open Prod.Lex renaming left->er,right->eV
open List renaming range->ew,getElem_range->hP,getElem_map->kt
open Nat renaming not_le->ez,lt_wfRel->qo
open Go.Conc.Lib renaming WgLink->kx,WgLib->l9
open Array renaming getD->Array.LE,setIfInBounds->Array.L
open Eq renaming symm->Eq.LT
open Go renaming underlying->Go.LT,zeroValue->Go.LE
open Go.Addr renaming block->Go.Addr.Lo
open Go.CallKind renaming deferred->Go.CallKind.L
open Go.Code renaming block->Go.Code.Lo,region->Go.Code.L
open Go.Conc.Lib.WgLib renaming f_addU64->Go.Conc.Lib.WgLib.H,f_uAdd->Go.Conc.Lib.WgLib.S,f_uLoad->Go.Conc.Lib.WgLib.L
open Go.Conc.Past renaming mono->Go.Conc.Past.LT,own->Go.Conc.Past.LE
open Go.ConcN.WD renaming deaf->Go.ConcN.WD.Lo
open Go.ConcR.WgAt renaming cellSt->Go.ConcR.WgAt.L
open Go.Frame renaming place->Go.Frame.L
open Go.GoStatus renaming running->Go.GoStatus.L
open Go.Goroutine renaming frame->Go.Goroutine.L
open Go.Instr renaming alloc->Go.Instr.Li
open Go.MemAct renaming low->Go.MemAct.Li,touch?->Go.MemAct.L
open Go.Obj renaming deferred->Go.Obj.L
open Go.Program renaming funcs->Go.Program.L,underlying->Go.Program.LT
open Go.Proofs.Tryz renaming globals_size->Go.Proofs.Tryz.Lo
open Go.TypeDesc renaming pointer->Go.TypeDesc.S
open Go.Value renaming pointer->Go.Value.S
open Go.World renaming alloc->Go.World.Li,setCell->Go.World.LE
open List renaming set->List.SS,toArray->List.Li
open Nat renaming below->Nat.Ly
open Ne renaming symm->Ne.LT
open Option renaming getD->Option.LE,isNone->Option.L
open Or renaming resolve_left->Or.L
namespace Go.Co
open Go.Em Go.Conc Go.ConcN
open Go.ConcR (KK WgAt stA smA rd wr mk DC0 Bk g_of_ofEvents bk_of_mute ofEvent_loc_mark ofEvent_cell ofEvent_mk)
section
variable {P:Er} {SB BB:br->Bool} {zZ:Bool} {Gn:Nat} {ty Wg:Nat} {zO zN:Nat->Prop} {Kp:Ib} {Ψ0 Ψ2:bk->Prop} {fA fW:br} {wl:Nat} {Pr:Ef} {T:List b6} {Fn:Bool->Hid->J->bk->Prop}
 {j0 j:Nat} {gs:Array J} {W W':bk} {t:cA} {D:Nat->WD} {M:Nat->Wm} {O:Nat->Bool} {L:Nat->Option Lone} {ts ts':TS} {rr:Nat->Nat} {st sm Jj JO:Int} {a a':J}
 {tag tag':CTag} {d0:Nat} {pre pre':Pre} {rk MA:Nat->Nat} {fu MB:Nat} {x:Lone} {sl:Option (Nat×Nat)}
def GC.leaving {s d:Nat}{m:Wm}{x:Option Lone}{o:Bool}{g:J}(h:GC P SB BB zZ Gn ty Wg Ψ2 s d m x o g W)(hs:s=1):(∃q,kq P.b q d g)/\o=false:=by
 cases h<;>first|(exact AH hs (by decide))|(exact⟨⟨_,‹_›⟩,rfl⟩)
def WI.at (h:WI P SB BB zZ Gn ty Wg zO zN Kp Ψ0 Ψ2 j0 j gs W t D M O L ts rr st sm)(tz:ao zN Ψ0)(a6:ao zN Ψ2)(d:Nat):WI P SB BB zZ Gn ty Wg zO zN Kp Ψ0 Ψ2 j0 j gs (W.at d) t D M O L ts rr st sm :=
 ⟨h.size,λi hi=>let ⟨g,hg,hs⟩:=h.wk i hi;⟨g,hg,hs.rely λx=>x⟩,h.cw.at d,h.tr,h.Li,h.deafW,h.rel,h.wg,h.KE,h.Lj,⟨λe=>tz W _ (λ_ _=>rfl) (h.Hb.1 e),λe=>a6 W _ (λ_ _=>rfl) (h.Hb.2 e)⟩,h.out,h.old,h.jj⟩
def MI.at (h:MI P SB BB zZ Gn ty Wg zO zN Kp Ψ0 Ψ2 fA fW wl Pr T Fn j0 pre j gs W t D M O L ts rr st sm tag d0 rk fu x a)(tz:ao zN Ψ0)(a6:ao zN Ψ2)(d:Nat):MI P SB BB zZ Gn ty Wg zO zN Kp Ψ0 Ψ2 fA fW wl Pr T Fn j0 pre j gs (W.at d) t D M O L ts rr st sm tag d0 rk fu x a :=
 ⟨h.wi.at tz a6 d,h.Qg.rely λx=>x,h.L0,h.a0,h.Lo,h.mode,h.acq,h.bd⟩
def QR (lib:∀H,Lib P SB H zZ BB Gn)(a8:∀(f:br) (fn:dn),P.a.L[f]?=bh fn->fn.body.L=bq->P.fs[f]?=bh fn)(tz:ao zN Ψ0)(aA:ao zN Ψ2)
  (h:MI P SB BB zZ Gn ty Wg zO zN Kp Ψ0 Ψ2 fA fW wl Pr T Fn j0 pre j gs W t D M O L ts rr st sm tag d0 rk fu x a) {i:Nat} (hi:i<j) {g:J} (hg:gs[i+1]?=bh g) (zA:g.status=.L) :
  ∃m' ops a7,runT P.b (b9 gs W sl) (i+1)=(.next m',ops)/\Pf P.a a7 (pre,(ew j).map M,(rk (Vc j D),fu))/\Nq P SB BB zZ Gn ty Wg zO zN Kp Ψ0 Ψ2 fA fW wl Pr T Fn j0 a7 m' (t++ops):=by
 have JN:=h.bd;have hpend:pend tag<=1:=by cases tag<;>simp[pend]<;>split<;>omega
 obtain⟨g',W',es,D',M',O',L',ts',aB,Jj,JO,k1,k2,k3,k4,k5,k6,k7,k8,aC⟩:=moved lib a8 h.wi tz aA hi hg zA h.mode (by omega);obtain⟨tag',MA,MB,s1,s2,s3⟩:=h.Qg.wokenBy (W':=W') (λ_=>k2.live) g g'
 refine⟨_,_,(pre,(ew j).map M',(MA (Vc j D'),MB)),cu (P:=P.b) (sl:=sl) (i:=i+1) hg (by simpa using k1),?_,j,_,W',sl,D',M',O',L',ts',aB,Jj,JO,tag',d0,MA,MB,x,woken P.b g g' W' a,rfl,
  ⟨k2,by rw[aC];exact s1,k6.trans h.L0,by rw[get_map_set _ _ _ _ (by omega),h.a0];rfl,by rw[b7 t (by omega) _ g_of_ofEvents,h.Lo],k3 tag' s2 s3,λe=>?_,JN⟩,rfl⟩
 .refine eV _ (er _ _ ?_);obtain⟨_,_,hs⟩:=h.wi.wk i hi;have e:(ew j).map M'=((ew j).map M).SS i (M' i):=by
   apply List.ext_getElem (by simp);intro b h1 h2;simp only[kt,hP];rw[List.getElem_set];split
   .rename_i e;rw[e]
   .rename_i e;simp only[kt,hP];exact k5 b (by omega)
  rw[e];exact One.SS (by simp[hi]) ⟨k4,hs.acc⟩
 .have ht : tag = .ret := by
   obtain e'|⟨_,e'⟩:=s2
   .rw[<-e'];exact e
   .rw[e'] at e;cases e
  have hm:=h.mode;rw[ht] at hm;obtain⟨hq,_,_⟩:=hm.fin_inv trivial;obtain⟨q,q1,q2,q3,q4⟩:=(h.acq ht).app (u:=bW (i+1) g.L.fn g.L.L es);exact⟨q,q1,q2,q3,λb hb0 a6=>by rw[(k8 b a6 (by rw[hq b a6];omega)).2];exact q4 b hb0 a6⟩
def IK {D:Nat->WD}:∀ {j:Nat},1<=Vc j D->∃i,i<j/\5<=(D i).stage
 |0,h=>by simp[Vc,sumTo] at h
 |j+1,h=>by
  by_cases hc:5<=(D j).stage
  .exact⟨j,by omega,hc⟩
  .have:1<=Vc j D:=by simp only[Vc,sumTo,cnt,AE hc] at h ⊢;simpa using h
   obtain⟨i,hi,h5⟩:=IK this;exact⟨i,by omega,h5⟩
def MI.OY (h:MI P SB BB zZ Gn ty Wg zO zN Kp Ψ0 Ψ2 fA fW wl Pr T Fn j0 pre j gs W t D M O L ts rr st sm tag d0 rk fu x a):∃(i:Nat) (g:J),gs[i]?=bh g/\g.status=.L:=by
 have runs:∀i,i<j->(D i).stage≠1->∃g,gs[i+1]?=bh g/\g.status=.L:=λi hi hs=>by
  obtain⟨g,hg,hk⟩:=h.wi.wk i hi;obtain e|⟨_,e⟩:=hk.status
  .exact⟨g,hg,e⟩
  .exact AH e hs
 obtain⟨hs,_⟩|⟨_,e⟩:=h.Qg.status
 .exact⟨0,a,h.a0,hs⟩
 .subst e;have hm:=h.mode;cases hm with
  |opn h1 _ _=>exact h1.elim
  |reg _ _ h3 =>
   obtain⟨i,hi,h5⟩:=IK h3;obtain⟨g,hg,hr⟩:=runs i hi (by omega);exact⟨i+1,g,hg,hr⟩
  |last Lx _ h2 h3 _ =>
   obtain⟨g,hg,hr⟩:=runs Lx h2 (by omega);exact⟨Lx+1,g,hg,hr⟩
  |fin h1 _=>exact h1.elim
def MI.awake (h:MI P SB BB zZ Gn ty Wg zO zN Kp Ψ0 Ψ2 fA fW wl Pr T Fn j0 pre j gs W t D M O L ts rr st sm tag d0 rk fu x a):∀g∈gs,n5 g:=by
 intro g hg tm;obtain⟨i,hi⟩:=Array.mem_iff_getElem?.1 hg;cases i with
 |zero =>
  rw[h.a0] at hi;cases hi;rcases h.Qg.status with⟨hs,_⟩|⟨hs,_⟩<;>rw[hs]<;>simp
 |succ i =>
  have zY:i<j:=by have:=(AC.1 hi).1;rw[h.wi.size] at this;omega
  obtain⟨g',a6,hs⟩:=h.wi.wk i zY;rw[hi] at a6;cases a6;rcases hs.status with e|⟨e,_⟩<;>rw[e]<;>simp
def QS (a8:Pr wl Wg)(lib:∀H,Lib P SB H zZ BB Gn)(aA:∀(f:br) (fn:dn),P.a.L[f]?=bh fn->fn.body.L=bq->P.fs[f]?=bh fn)(tz:ao zN Ψ0)(a7:ao zN Ψ2)(hA:MW P SB BB zZ Gn ty Wg fA wl T)(hW:jN P SB BB zZ Gn ty Wg fW wl T):∀μ m t,Nq P SB BB zZ Gn ty Wg zO zN Kp Ψ0 Ψ2 fA fW wl Pr T Fn j0 μ m t ->
  LL P SB BB zZ Gn ty Wg zO zN Kp Ψ0 Ψ2 Pr T Fn j0 m t\/∃m' ops a6,stepT P.b m=(.next m',ops)/\Pf P.a a6 μ/\Nq P SB BB zZ Gn ty Wg zO zN Kp Ψ0 Ψ2 fA fW wl Pr T Fn j0 a6 m' (t++ops):=by
 rintro⟨pre,r⟩ m t ⟨j,gs,W,sl,D,M,O,L,ts,rr,st,sm,tag,d0,rk,fu,x,a,rfl,h,hr⟩;simp only at h hr;subst hr;obtain⟨i,g,d,sl',hg,zA,hstep⟩:=hZ (P:=P.b) (w:=W) (sl:=sl) h.awake h.OY;have h':=h.at tz a7 d;cases i with
 |zero =>
  rw[h.a0] at hg;cases hg;by_cases hf:LL P SB BB zZ Gn ty Wg zO zN Kp Ψ0 Ψ2 Pr T Fn j0 (b9 gs W sl) t
  .exact .inl hf
  .rcases step0 (sl:=sl') a8 lib tz a7 hA hW h' zA with hf'|⟨m',ops,a6,k1,k2,k3⟩
   .exfalso;apply hf;obtain⟨j2,aB,W2,aF,D2,M2,O2,L2,aC,rr2,aD,sm2,x2,a2,e,q1,q2,q3,q4,q5,q6,q7⟩:=hf';have e1:gs=aB:=AZ Machine.gs e;have e2:W.at d=W2:=AZ Machine.world e;subst e1;subst e2;exact⟨j2,gs,W,sl,D2,M2,O2,L2,aC,rr2,aD,sm2,x2,a2,rfl,q1.at tz a7 W.drawn,q2,q3,q4,q5,q6,q7⟩
   .exact .inr ⟨m',ops,a6,by rw[hstep];exact k1,k2,k3⟩
 |succ i =>
  have hi:i<j:=by have:=(AC.1 hg).1;rw[h.wi.size] at this;omega
  obtain⟨m',ops,a6,k1,k2,k3⟩:=QR (sl:=sl') lib aA tz a7 h' hi hg zA;exact .inr ⟨m',ops,a6,by rw[hstep];exact k1,k2,k3⟩
def join (a6:Pr wl Wg)(lib:∀H,Lib P SB H zZ BB Gn)(a7:∀(f:br) (fn:dn),P.a.L[f]?=bh fn->fn.body.L=bq->P.fs[f]?=bh fn)(tz:ao zN Ψ0)(a8:ao zN Ψ2)(hA:MW P SB BB zZ Gn ty Wg fA wl T)(hW:jN P SB BB zZ Gn ty Wg fW wl T){μ:Mu}{m:gU}(h:Nq P SB BB zZ Gn ty Wg zO zN Kp Ψ0 Ψ2 fA fW wl Pr T Fn j0 μ m t) :
  ∃N m' t',runNT P.b N m t=(.next m',t')/\LL P SB BB zZ Gn ty Wg zO zN Kp Ψ0 Ψ2 Pr T Fn j0 m' t' :=
 jM (Pf.wf P.a) _ _ (QS a6 lib a7 tz a8 hA hW) μ m t h
def LN {m:gU}(h:LL P SB BB zZ Gn ty Wg zO zN Kp Ψ0 Ψ2 Pr T Fn j0 m t) :
  ∃(gs:Array J) (W:bk) (sl:Option (Nat×Nat)) (x:Lone) (a:J) (tp:Bool) (q:Nat->Nat),m=b9 gs W sl/\gs[0]?=bh a/\l8 P.b t gs q/\Past (MU zO Wg) W.heap.size t/\Quiet (MU zO Wg) t/\(∀(i:Nat) (op:s9),t[i]?=bh op->op.g<gs.size) /\
   JQ P SB BB zZ Pr T Fn x tp a/\Gw P SB zZ Gn x W/\x.H.EX=E/\(∀b,x.β b Wg->x.H b=bq)/\(∀b B,x.β b B->¬zO B)/\(∀b B,x.β b B->zN B->x.H b=bq) /\
   (∀B,Kp.at_ B->W.heap[B]?=Kp.w.heap[B]?)/\Wg<W.heap.size/\(∀B,zO B->B<W.heap.size)/\(tp=bq->Ψ0 W)/\(tp=E->Ψ2 W)/\W.os=Kp.w.os/\W.output=Kp.w.output/\gs.size<=Kp.bd/\∀b B,x.β b B->Kp.at_ B->x.H b=bq\/Ro x.w b:=by
 obtain⟨j,gs,W,sl,D,M,O,L,ts,rr,st,sm,x,a,rfl,hw,hf,hL,ha,hd,hq,aB,hjb⟩:=h;obtain⟨q,q1,q2,q3,q4⟩:=aB;have quits:∀i g,i<j->gs[i+1]?=bh g->∃n,kq P.b n (Deaf t (i+1)) g:=λi g hi hg=>by
  obtain⟨g',a8,hk⟩:=hw.wk i hi;rw[hg] at a8;cases a8;rw[hw.deafW i hi];exact(hk.leaving (hq i hi)).1
 have a6:∀i,∃n,∀g,0<i->gs[i]?=bh g->kq P.b n (Deaf t i) g:=λi=>by
  by_cases h0:0<i/\i<j+1
  .obtain⟨i',rfl⟩:∃i',i=i'+1:=⟨i-1,by omega⟩;cases hg:gs[i'+1]? with
   |none=>exact⟨0,λg _ e=>by cases e⟩
   |some g =>
    obtain⟨n,hn⟩:=quits i' g (by omega) hg;exact⟨n,λg2 _ e=>by cases e;exact hn⟩
  .refine⟨0,λg h1 e=>?_⟩;have:=(AC.1 e).1;rw[hw.size] at this;omega
 refine⟨gs,W,sl,x,a,ts.tp,λi=>Classical.choose (a6 i),rfl,ha,⟨λi g h0 hg=>Classical.choose_spec (a6 i) g h0 hg,λi hi=>Deaf_absent λb op hb e=>?_⟩,?_,hw.tr.ti.quiet,λi op hi=>by rw[hw.size];exact hw.tr.ti.gs i op hi,hf,hw.cw.like 0 x hL,hw.cw.EX 0 x hL,hw.cw.MV 0 x hL,hw.cw.dead 0 x hL,hw.cw.Jc 0 x hL hw.QQ,λB hB=>(hw.cw.keep B hB).2.2,hw.cw.Li.1,hw.cw.Li.2.1,λe=>hw.Hb.1 ?_,λe=>hw.Hb.2 ?_,hw.cw.NW.1,hw.cw.NW.2,by rw[hw.size];exact hjb,hw.cw.FA 0 x hL⟩
 .have:=hw.tr.ti.gs b op hb;rw[hw.size] at hi;omega
 .refine hw.tr.past q1 q2 q3 hd hw.Li λk i hg zU aC=>?_;obtain⟨b,rfl,hb0,a7,hb⟩:=aC;have h1:=hq b a7;refine⟨rr b,hw.rel b hb0 a7 (by omega),q4 b hb0 a7,hb.L (by omega)⟩
 .cases ts<;>first|rfl|cases e
 .cases aA:ts with
  |done=>rfl
  |start=>rw[aA] at e;cases e
  |at_ k =>
   exfalso;obtain⟨b,hb,_,ho⟩:=hw.Lj k aA;obtain⟨g,_,hk⟩:=hw.wk b hb;have:=(hk.leaving (hq b hb)).2;rw[ho] at this;cases this
end
open Go.RowKit Go.Conc.Lib Go.ConcR.Gen Go.ConcN.Gen
open Go.ConcR (KK wgBlock WgAt stA smA rd wr mk Payload Aside2 DC0)
variable {L:kx}
def addNeg {P:bA}(H:l9 P L){Wg:Nat}{b₀:b6}{a₀:Act}{ops₀:Array mb}{i₀:Nat}{rest₀:List Nat}{k₀:List qb}{cs:List b6}{qt:Nat}
  (hT:kq P qt 0 (G (b₀.at (a₀.put ((ops₀[i₀]?).bind (·.dst)) (.tuple #[])) (.inRegion ops₀ rest₀::k₀)) cs)) (w:bk) (hK:dt L.tWg Wg w) :
  GW P L.tWg Wg E (R0 P L.tWg Wg) 150 (G ((base L.add).at ⟨#[.S (bh ⟨Wg,0,df⟩),r5 r6 (-1),undef,undef,undef,undef,undef,undef,undef,undef,undef,undef,undef,undef,undef,undef,undef,undef,undef,undef,undef,undef,undef,undef,undef,undef,undef,undef,undef,undef,undef,undef,undef,undef,undef,undef,undef,undef,undef,undef,undef,undef,undef,undef,undef,undef,undef,undef,undef,undef,undef,undef,undef,undef,undef,undef,undef,undef,undef,undef,undef,undef,undef,undef,undef,undef,undef,undef,undef,undef,undef,undef,undef,undef,undef,undef,undef,undef,undef,undef,undef,undef,undef,undef,undef,undef,undef,undef,undef,undef,undef,undef,undef,undef,undef,undef,undef,undef,undef,undef,undef,undef,undef,undef,undef,undef,undef,undef,undef,undef,undef,undef,undef,undef,undef,undef,undef],[]⟩ [.code (e7 L)]) (b₀.at a₀ (.inRegion ops₀ (i₀::rest₀)::k₀)::cs)) w:=by
 lib_facts
 simp only[e7,addFn,AS]
 u_c Y rl hK
 u_cond bq rl hK
 iterate 2 u_c Y rl hK
 u_reg rl hK
 iterate 2 u_op rl hK
 u_c Z rl hK
 u_cond bq rl hK
 u_reg rl hK
 u_op rl hK
 u_conv H.underlying_tWgP H.room_tWg (WgLive.cell0 hK).choose_spec rl hK
 refine Goes.stop (λw₁ h₁=>?_);replace hK:=rl hK h₁;refine⟨rfl,_,dr .releaseMerge (by simp) rfl rfl (by k_ne) rfl H.f_relMerge (x_relMerge_n L) (x_relMerge_b L) (x_relMerge_x L) (x_relMerge_f L) (by simp[dy,stA]),150,?_⟩
 walk_nrm
 u_c Z rl hK
 u_c Y rl hK
 u_reg rl hK
 refine Goes.stop (λw₁ h₁=>?_);replace hK:=rl hK h₁;refine⟨rfl,_,ek .disable (by simp) rfl rfl (by k_ne) rfl H.f_disable (lh L) (ln L) (lp L) (lu L),150,?_⟩
 walk_nrm
 u_c Z rl hK
 u_reg rl hK
 u_defer rl hK
 u_c Z rl hK
 u_c Y rl hK
 u_reg rl hK
 u_op rl hK
 u_c Z rl hK
 iterate 2 u_c Y rl hK
 u_reg rl hK
 u_bub rl hK
 u_c Z rl hK
 u_cond E rl hK
 u_c I rl hK
 u_c Y rl hK
 u_reg rl hK
 iterate 6 u_op rl hK
 u_call H.S (nm_uAdd L) uAddFn rl hK
 u_c Y rl hK
 u_reg rl hK
 u_op rl hK
 u_c Z rl hK
 u_c Y rl hK
 u_reg rl hK
 iterate 4 u_op rl hK
 refine Goes.stop (λw₁ h₁=>?_);refine⟨rfl,λv wt hwt hv hw=>?_⟩;have e0:IntKind.u64.wrap (KK+18446744069414584320)=0:=by decide
 have e1:IntKind.u64.wrap (KK+1+18446744069414584320)=1:=by decide
 rcases BJ v with rfl|hvp<;>(obtain rfl|rfl:wt=0\/wt=1:=by omega)
 .replace hw:WgAt L.tWg Wg w₁ KK 0:=by simpa using hw
  have z:((0:Nat):Int)*KK+((0:Nat):Int)=0:=by simp
  rw[z];refine⟨_,(cd rfl rfl (by k_ne) rfl H.H (dS L) (ea L) (eb L) .u64 (ed L) rfl rfl hw.L (hw.thaw 0)).trans (by rw[e0];rfl),λhl=>AH hl.2 (by decide),λ_=>⟨qt+89,?_⟩⟩
  walk_nrm
  q_val (.int .u64 0)
  q_c Z
  q_c bs
  q_leave1 H.S
  q_val (.int .u64 0)
  q_c Z
  iterate 2 q_c Y
  q_reg
  iterate 2 q_val (.int .u64 0)
  iterate 2 q_val (.bool E)
  q_skip
  q_skip
  q_val (.bool E)
  q_c Z
  q_cond E
  q_c I
  q_c Y
  q_reg
  iterate 2 q_val (.int .u64 0)
  iterate 2 q_val (.int .i32 0)
  q_c Z
  q_c Y
  q_reg
  iterate 2 q_val (.int .u64 0)
  iterate 2 q_val (.int .u32 0)
  q_c Z
  iterate 2 q_c Y
  q_reg
  q_val (.bool bq)
  q_val (r5 r6 (-1))
  iterate 3 q_val (.bool E)
  q_skip
  q_skip
  q_skip
  q_skip
  q_val (.bool E)
  q_c Z
  q_cond E
  q_c I
  iterate 2 q_c Y
  q_reg
  q_val (.int .i32 0)
  q_val (.bool E)
  q_c Z
  q_cond E
  q_c I
  iterate 2 q_c Y
  q_reg
  q_val (.int .u32 0)
  iterate 2 q_val (.bool E)
  q_skip
  q_skip
  iterate 2 q_val (.bool E)
  q_skip
  q_skip
  q_skip
  q_skip
  q_val (.bool E)
  q_c Z
  q_cond E
  q_c I
  iterate 2 q_c Y
  q_reg
  q_val (.int .i32 0)
  iterate 2 q_val (.bool E)
  q_val (.int .u32 0)
  iterate 2 q_val (.bool bq)
  q_c Z
  q_cond bq
  q_c bs
  q_enable
  q_leave0 H.f_add
  exact hT
 .replace hw:WgAt L.tWg Wg w₁ (KK+1) 0:=by simpa using hw
  have z:((0:Nat):Int)*KK+((1:Nat):Int)=1:=by simp
  rw[z];refine⟨_,(cd rfl rfl (by k_ne) rfl H.H (dS L) (ea L) (eb L) .u64 (ed L) rfl rfl hw.L (hw.thaw 0)).trans (by rw[e1];rfl),λ_=>⟨150,?_⟩,λhl=>AH ⟨rfl,rfl⟩ hl⟩;have hF:dt L.tWg Wg (w₁.LE (stA Wg) (.int .u64 1)):=⟨_,_,hw.setSt 1⟩
  walk_nrm
  u_op rl hF
  u_c Z rl hF
  u_c bs rl hF
  u_leave1 H.S rl hF
  u_op rl hF
  u_c Z rl hF
  iterate 2 u_c Y rl hF
  u_reg rl hF
  iterate 4 u_op rl hF
  iterate 2 u_skip rl hF
  u_op rl hF
  u_c Z rl hF
  u_cond E rl hF
  u_c I rl hF
  u_c Y rl hF
  u_reg rl hF
  iterate 4 u_op rl hF
  u_c Z rl hF
  u_c Y rl hF
  u_reg rl hF
  iterate 4 u_op rl hF
  u_c Z rl hF
  iterate 2 u_c Y rl hF
  u_reg rl hF
  iterate 5 u_op rl hF
  iterate 4 u_skip rl hF
  u_op rl hF
  u_c Z rl hF
  u_cond E rl hF
  u_c I rl hF
  iterate 2 u_c Y rl hF
  u_reg rl hF
  iterate 2 u_op rl hF
  u_c Z rl hF
  u_cond E rl hF
  u_c I rl hF
  iterate 2 u_c Y rl hF
  u_reg rl hF
  iterate 7 u_op rl hF
  iterate 4 u_skip rl hF
  u_op rl hF
  u_c Z rl hF
  u_cond E rl hF
  u_c I rl hF
  iterate 2 u_c Y rl hF
  u_reg rl hF
  iterate 6 u_op rl hF
  u_c Z rl hF
  u_cond E rl hF
  u_c I rl hF
  iterate 2 u_c Y rl hF
  u_reg rl hF
  iterate 3 u_op rl hF
  u_call H.L (q9 L) uLoadFn rl hF
  u_c Y rl hF
  u_reg rl hF
  u_op rl hF
  u_c Z rl hF
  u_c Y rl hF
  u_reg rl hF
  iterate 3 u_op rl hF
  refine Goes.stop (λw₂ h₁=>?_);refine⟨rfl,λhw=>⟨_,cE rfl rfl (by k_ne) rfl H.f_loadU64 (e8 L) (fc L) (fl L) .u64 (fo L) rfl hw.L,150,?_⟩⟩;have hF:dt L.tWg Wg w₂:=⟨_,_,hw⟩
  walk_nrm
  u_op rl hF
  u_c Z rl hF
  u_c bs rl hF
  u_leave1 H.L rl hF
  iterate 2 u_op rl hF
  u_c Z rl hF
  u_cond E rl hF
  u_c I rl hF
  u_c Y rl hF
  u_reg rl hF
  iterate 3 u_op rl hF
  u_call H.f_uStore (nm_uStore L) uStoreFn rl hF
  u_reg rl hF
  iterate 4 u_op rl hF
  refine Goes.stop (λw₃ h₁=>?_);refine⟨rfl,λhw=>⟨_,stepG_store_atomic rfl rfl (by k_ne) rfl H.f_storeU64 (x_storeU64_n L) (x_storeU64_b L) (x_storeU64_x L) (x_storeU64_f L) rfl rfl hw.L (hw.thaw 0),150,?_⟩⟩;have hF:dt L.tWg Wg (w₃.LE (stA Wg) (.int .u64 0)):=⟨_,_,hw.setSt 0⟩;clear hw
  walk_nrm
  u_c Z rl hF
  u_c oq rl hF
  u_leave0 H.f_uStore rl hF
  u_c Z rl hF
  iterate 2 u_c Y rl hF
  u_reg rl hF
  u_op rl hF
  u_c Z rl hF
  u_cond E rl hF
  u_c I rl hF
  u_c fq rl hF
  u_c stepG_loop rl hF
  iterate 2 u_c Y rl hF
  u_reg rl hF
  iterate 2 u_op rl hF
  u_c Z rl hF
  u_cond bq rl hF
  u_c I rl hF
  u_c Y rl hF
  u_c fq rl hF
  u_reg rl hF
  iterate 3 u_op rl hF
  refine Goes.stop (λw₄ h₁=>?_);clear h₁ hF;refine⟨rfl,mayWake_entry rfl rfl H.f_semrelease (ml L),λhw=>⟨_,(stepG_semrelease rfl rfl (by k_ne) rfl H.f_semrelease (x_semrelease_n L) (ml L) (x_semrelease_x L) (x_semrelease_f L) (by simp[dy,smA]) hw.cellSm (hw.thaw 1)).trans (by rfl),qt+19,?_⟩⟩;clear hw
  walk_nrm
  q_c Z
  q_c stepG_inBlock
  q_reg
  q_val (.int .u32 1)
  iterate 2 q_val (.int .u32 0)
  q_c Z
  q_c stepG_inLoop
  iterate 2 q_c Y
  q_reg
  q_val (.int .u32 0)
  q_val (.bool E)
  q_c Z
  q_cond E
  q_exit
  q_c oq
  q_enable
  q_leave0 H.f_add
  exact hT
 .replace hw:WgAt L.tWg Wg w₁ (((v:Nat)+1)*KK+0) 0:=by simpa using hw
  have z:((v:Nat):Int)*KK+((0:Nat):Int)=(v:Int)*KK+0:=by simp
  rw[z];have hv0:0<v:=by omega
  have eS:IntKind.u64.wrap (((v:Nat)+1)*KK+0+18446744069414584320)=(v:Int)*KK+0:=by rw[cU];simp only[KK];omega
  obtain⟨S,hS⟩:∃S:Int,S=(v:Int)*KK+0:=⟨_,rfl⟩;rw[<-hS] at eS ⊢;have a1:S / 4294967296=(v:Int):=by rw[hS];simp only[KK];omega
  have a2:0<=S/\S<9223372036854775808:=by rw[hS];simp only[KK];omega
  have b1:bits .and .u64 S 2147483648=0:=by rw[hS];have:=qf v 0 (by omega) (by omega);simpa [KK] using this
  have b2:bits .and .u64 S 2147483647=0:=by rw[hS];have:=ik v 0 (by omega) (by omega);simpa [KK] using this
  clear hS z;refine⟨_,(cd rfl rfl (by k_ne) rfl H.H (dS L) (ea L) (eb L) .u64 (ed L) rfl rfl hw.L (hw.thaw 0)).trans (by rw[eS];rfl),λhl=>AH hl.1 (by omega),λ_=>⟨qt+89,?_⟩⟩;clear hw
  walk_nrm
  q_vn (.int .u64 S)
  q_c Z
  q_c bs
  q_leave1 H.S
  q_vn (.int .u64 S)
  q_c Z
  iterate 2 q_c Y
  q_reg
  q_vn (.int .u64 S)
  q_vn (.int .u64 0)
  iterate 2 q_vn (.bool E)
  q_skip
  q_skip
  q_vn (.bool E)
  q_c Z
  q_cond E
  q_c I
  q_c Y
  q_reg
  q_vn (.int .u64 S)
  q_vn (.int .u64 (v:Int))
  iterate 2 q_vn (.int .i32 (v:Int))
  q_c Z
  q_c Y
  q_reg
  q_vn (.int .u64 S)
  q_vn (.int .u64 0)
  iterate 2 q_vn (.int .u32 0)
  q_c Z
  iterate 2 q_c Y
  q_reg
  q_vn (.bool bq)
  q_vn (r5 r6 (-1))
  iterate 3 q_vn (.bool E)
  q_skip
  q_skip
  q_skip
  q_skip
  q_vn (.bool E)
  q_c Z
  q_cond E
  q_c I
  iterate 2 q_c Y
  q_reg
  q_vn (.int .i32 (v:Int))
  q_vn (.bool E)
  q_c Z
  q_cond E
  q_c I
  iterate 2 q_c Y
  q_reg
  q_vn (.int .u32 0)
  iterate 2 q_vn (.bool E)
  q_skip
  q_skip
  iterate 2 q_vn (.bool E)
  q_skip
  q_skip
  q_skip
  q_skip
  q_vn (.bool E)
  q_c Z
  q_cond E
  q_c I
  iterate 2 q_c Y
  q_reg
  q_vn (.int .i32 (v:Int))
  iterate 2 q_vn (.bool bq)
  q_skip
  q_skip
  q_vn (.bool bq)
  q_c Z
  q_cond bq
  q_c bs
  q_enable
  q_leave0 H.f_add
  exact hT
 .replace hw:WgAt L.tWg Wg w₁ (((v:Nat)+1)*KK+1) 0:=by simpa using hw
  have z:((v:Nat):Int)*KK+((1:Nat):Int)=(v:Int)*KK+1:=by simp
  rw[z];have hv0:0<v:=by omega
  have eS:IntKind.u64.wrap (((v:Nat)+1)*KK+1+18446744069414584320)=(v:Int)*KK+1:=by rw[cU];simp only[KK];omega
  obtain⟨S,hS⟩:∃S:Int,S=(v:Int)*KK+1:=⟨_,rfl⟩;rw[<-hS] at eS ⊢;have a1:S / 4294967296=(v:Int):=by rw[hS];simp only[KK];omega
  have a2:0<=S/\S<9223372036854775808:=by rw[hS];simp only[KK];omega
  have b1:bits .and .u64 S 2147483648=0:=by rw[hS];have:=qf v 1 (by omega) (by omega);simpa [KK] using this
  have b2:bits .and .u64 S 2147483647=1:=by rw[hS];have:=ik v 1 (by omega) (by omega);simpa [KK] using this
  clear hS z;refine⟨_,(cd rfl rfl (by k_ne) rfl H.H (dS L) (ea L) (eb L) .u64 (ed L) rfl rfl hw.L (hw.thaw 0)).trans (by rw[eS];rfl),λhl=>AH hl.1 (by omega),λ_=>⟨qt+89,?_⟩⟩;clear hw
  walk_nrm
  q_vn (.int .u64 S)
  q_c Z
  q_c bs
  q_leave1 H.S
  q_vn (.int .u64 S)
  q_c Z
  iterate 2 q_c Y
  q_reg
  q_vn (.int .u64 S)
  q_vn (.int .u64 0)
  iterate 2 q_vn (.bool E)
  q_skip
  q_skip
  q_vn (.bool E)
  q_c Z
  q_cond E
  q_c I
  q_c Y
  q_reg
  q_vn (.int .u64 S)
  q_vn (.int .u64 (v:Int))
  iterate 2 q_vn (.int .i32 (v:Int))
  q_c Z
  q_c Y
  q_reg
  q_vn (.int .u64 S)
  q_vn (.int .u64 1)
  iterate 2 q_vn (.int .u32 1)
  q_c Z
  iterate 2 q_c Y
  q_reg
  q_vn (.bool bq)
  q_vn (r5 r6 (-1))
  iterate 3 q_vn (.bool E)
  q_skip
  q_skip
  q_skip
  q_skip
  q_vn (.bool E)
  q_c Z
  q_cond E
  q_c I
  iterate 2 q_c Y
  q_reg
  q_vn (.int .i32 (v:Int))
  q_vn (.bool E)
  q_c Z
  q_cond E
  q_c I
  iterate 2 q_c Y
  q_reg
  q_vn (.int .u32 1)
  iterate 2 q_vn (.bool bq)
  q_vn (r5 r6 (-1))
  iterate 3 q_vn (.bool E)
  q_skip
  q_skip
  q_skip
  q_skip
  q_vn (.bool E)
  q_c Z
  q_cond E
  q_c I
  iterate 2 q_c Y
  q_reg
  q_vn (.int .i32 (v:Int))
  iterate 2 q_vn (.bool bq)
  q_skip
  q_skip
  q_vn (.bool bq)
  q_c Z
  q_cond bq
  q_c bs
  q_enable
  q_leave0 H.f_add
  exact hT
def done {P:bA}(H:l9 P L){Wg:Nat}{c:b6}{cs:List b6}{qt:Nat}(hcm:c.mode=.returning)(hT:kq P qt 0 (G c cs))(w:bk)(hK:dt L.tWg Wg w) :
  GW P L.tWg Wg E (R0 P L.tWg Wg) 153 (G ((baseD L.done).at ⟨#[.S (bh ⟨Wg,0,df⟩),undef,undef,undef],[]⟩ [.code (ot L)]) (c::cs)) w:=by
 lib_facts
 have hA:=@addNeg L P H Wg;simp only[ot,e7,doneFn,addFn,AS] at hA ⊢
 u_reg rl hK
 u_op rl hK
 u_in rl hK
 refine goes_call rfl rfl (by k_ne) rfl H.f_add (nm_add L) rfl ⟨by u_nil,?_⟩
 walk_nrmf addFn
 refine hA (qt:=qt+3) ?_ _ hK
 q_c Z
 q_c oq
 exact QuitsD.leaveD rfl rfl H.f_done rfl hcm hT
open Go.ConcR (KK wgBlock WgAt stA smA rd wr mk Payload Aside2 DC0)
variable {L:kx}
def addPos {P:bA}(H:l9 P L){Wg:Nat}{b₀:b6}{a₀:Act}{ops₀:Array mb}{i₀:Nat}{rest₀:List Nat}{k₀:List qb}{cs:List b6}(w:bk)(hF:dt L.tWg Wg w) :
  GW P L.tWg Wg bq (Rn P L.tWg Wg (λg _=>g=G (b₀.at (a₀.put ((ops₀[i₀]?).bind (·.dst)) (.tuple #[])) (.inRegion ops₀ rest₀::k₀)) cs)) 150 (G ((base L.add).at ⟨#[.S (bh ⟨Wg,0,df⟩),r5 r6 1,undef,undef,undef,undef,undef,undef,undef,undef,undef,undef,undef,undef,undef,undef,undef,undef,undef,undef,undef,undef,undef,undef,undef,undef,undef,undef,undef,undef,undef,undef,undef,undef,undef,undef,undef,undef,undef,undef,undef,undef,undef,undef,undef,undef,undef,undef,undef,undef,undef,undef,undef,undef,undef,undef,undef,undef,undef,undef,undef,undef,undef,undef,undef,undef,undef,undef,undef,undef,undef,undef,undef,undef,undef,undef,undef,undef,undef,undef,undef,undef,undef,undef,undef,undef,undef,undef,undef,undef,undef,undef,undef,undef,undef,undef,undef,undef,undef,undef,undef,undef,undef,undef,undef,undef,undef,undef,undef,undef,undef,undef,undef,undef,undef,undef,undef],[]⟩ [.code (e7 L)]) (b₀.at a₀ (.inRegion ops₀ (i₀::rest₀)::k₀)::cs)) w:=by
 lib_facts
 simp only[e7,addFn,AS]
 u_c Y rl hF
 u_cond bq rl hF
 iterate 2 u_c Y rl hF
 u_reg rl hF
 iterate 2 u_op rl hF
 u_c Z rl hF
 u_cond E rl hF
 u_c I rl hF
 u_c Y rl hF
 u_reg rl hF
 refine Goes.stop (λw₁ h₁=>?_);replace hF:=rl hF h₁;refine⟨rfl,_,ek .disable (by simp) rfl rfl (by k_ne) rfl H.f_disable (lh L) (ln L) (lp L) (lu L),150,?_⟩
 walk_nrm
 u_c Z rl hF
 u_reg rl hF
 u_defer rl hF
 u_c Z rl hF
 u_c Y rl hF
 u_reg rl hF
 u_op rl hF
 u_c Z rl hF
 iterate 2 u_c Y rl hF
 u_reg rl hF
 u_bub rl hF
 u_c Z rl hF
 u_cond E rl hF
 u_c I rl hF
 u_c Y rl hF
 u_reg rl hF
 iterate 6 u_op rl hF
 u_call H.S (nm_uAdd L) uAddFn rl hF
 u_c Y rl hF
 u_reg rl hF
 u_op rl hF
 u_c Z rl hF
 u_c Y rl hF
 u_reg rl hF
 iterate 4 u_op rl hF
 refine Goes.stop (λw₂ h₁=>?_);replace hF:=rl hF h₁;refine⟨rfl,λv hv hw=>?_⟩;obtain rfl|hvp:=BJ v
 .replace hw:WgAt L.tWg Wg w₂ 0 0:=by simpa using hw
  have z:(((0:Nat):Int)+1)*KK=KK:=by simp
  rw[z];have e0:IntKind.u64.wrap (0+4294967296)=KK:=by decide
  refine⟨_,(cd rfl rfl (by k_ne) rfl H.H (dS L) (ea L) (eb L) .u64 (ed L) rfl rfl hw.L (hw.thaw 0)).trans (by rw[e0];rfl),λ_=>⟨150,?_⟩,λh=>AH rfl h⟩;replace hF:dt L.tWg Wg (w₂.LE (stA Wg) (.int .u64 KK)):=⟨_,_,hw.setSt _⟩;simp only[KK] at hF ⊢
  walk_nrm
  u_op rl hF
  u_c Z rl hF
  u_c bs rl hF
  u_leave1 H.S rl hF
  u_op rl hF
  u_c Z rl hF
  iterate 2 u_c Y rl hF
  u_reg rl hF
  iterate 4 u_op rl hF
  iterate 2 u_skip rl hF
  u_op rl hF
  u_c Z rl hF
  u_cond E rl hF
  u_c I rl hF
  u_c Y rl hF
  u_reg rl hF
  iterate 4 u_op rl hF
  u_c Z rl hF
  u_c Y rl hF
  u_reg rl hF
  iterate 4 u_op rl hF
  u_c Z rl hF
  iterate 2 u_c Y rl hF
  u_reg rl hF
  iterate 10 u_op rl hF
  u_c Z rl hF
  u_cond bq rl hF
  u_reg rl hF
  iterate 3 u_op rl hF
  u_conv H.underlying_tPU32 H.room_tU32 (WgLive.cell1 hF).choose_spec rl hF
  refine Goes.stop (λw₃ h₁=>?_);replace hF:=rl hF h₁;refine⟨rfl,_,dr .read (by simp) rfl rfl (by k_ne) rfl H.f_raceRead (x_raceRead_n L) (x_raceRead_b L) (x_raceRead_x L) (x_raceRead_f L) (ad:=⟨Wg,1,df⟩) (by simp[dy]),150,?_⟩
  walk_nrm
  u_c Z rl hF
  iterate 2 u_c Y rl hF
  u_reg rl hF
  iterate 2 u_op rl hF
  u_c Z rl hF
  u_cond E rl hF
  u_c I rl hF
  iterate 2 u_c Y rl hF
  u_reg rl hF
  iterate 3 u_op rl hF
  iterate 2 u_skip rl hF
  iterate 2 u_op rl hF
  iterate 4 u_skip rl hF
  u_op rl hF
  u_c Z rl hF
  u_cond E rl hF
  u_c I rl hF
  iterate 2 u_c Y rl hF
  u_reg rl hF
  iterate 3 u_op rl hF
  iterate 2 u_skip rl hF
  u_op rl hF
  u_c Z rl hF
  u_cond bq rl hF
  u_c bs rl hF
  refine Goes.stop (λw₄ h₁=>?_);replace hF:=rl hF h₁;refine⟨rfl,_,iv (v:=.tuple #[]) (evs:=#[mk .enable]) rfl H.f_enable (jk L) (js L) (jx L) (j1 L) (by simp[Extern.Race.none_]) (by simp[mk]) (by simp[mk]),150,?_⟩
  u_leave0 H.f_add rl hF
  exact Goes.stop λ_ _=>rfl
 .obtain⟨V,hV⟩:∃V:Int,V=(v:Int)+1:=⟨_,rfl⟩;obtain⟨S,hS⟩:∃S:Int,S=V*KK:=⟨_,rfl⟩;have eS:IntKind.u64.wrap ((v:Int)*KK+4294967296)=S:=by rw[cU,hS,hV];simp only[KK];omega
  rw[<-hV,<-hS];have a1:S / 4294967296=V:=by rw[hS];simp only[KK];omega
  have b1:bits .and .u64 S 2147483648=0:=by rw[hS,hV];have:=qf (v+1) 0 (by omega) (by omega);simpa [KK] using this
  have b2:bits .and .u64 S 2147483647=0:=by rw[hS,hV];have:=ik (v+1) 0 (by omega) (by omega);simpa [KK] using this
  have c1:IntKind.i32.wrap V=V:=by rw[kV];omega
  have hV1:1<V:=by omega
  have hV2:V<2147483648:=by omega
  have q1:(V==1)=false:=by simp;omega
  have q2:decide (V=1)=false:=B4 (by omega);have q3:decide (V<0)=false:=B4 (by omega);have q4:decide (0<V)=true:=Ci (by omega);have q5:(V==0)=false:=by simp;omega
  have q6:decide (V=0)=false:=B4 (by omega);refine⟨_,(cd rfl rfl (by k_ne) rfl H.H (dS L) (ea L) (eb L) .u64 (ed L) rfl rfl hw.L (hw.thaw 0)).trans (by rw[eS];rfl),λh=>AH h (by omega),λ_=>⟨150,?_⟩⟩;replace hF:dt L.tWg Wg (w₂.LE (stA Wg) (.int .u64 S)):=⟨_,_,hw.setSt _⟩;clear hw hS hV eS
  walk_nrm
  u_op rl hF
  u_c Z rl hF
  u_c bs rl hF
  u_leave1 H.S rl hF
  u_op rl hF
  u_c Z rl hF
  iterate 2 u_c Y rl hF
  u_reg rl hF
  iterate 4 u_op rl hF
  iterate 2 u_skip rl hF
  u_op rl hF
  u_c Z rl hF
  u_cnd E rl hF
  u_c I rl hF
  u_c Y rl hF
  u_reg rl hF
  iterate 4 u_op rl hF
  u_c Z rl hF
  u_c Y rl hF
  u_reg rl hF
  iterate 4 u_op rl hF
  u_c Z rl hF
  iterate 2 u_c Y rl hF
  u_reg rl hF
  iterate 10 u_op rl hF
  u_c Z rl hF
  u_cnd E rl hF
  u_c I rl hF
  iterate 2 u_c Y rl hF
  u_reg rl hF
  iterate 2 u_op rl hF
  u_c Z rl hF
  u_cnd E rl hF
  u_c I rl hF
  iterate 2 u_c Y rl hF
  u_reg rl hF
  iterate 3 u_op rl hF
  iterate 2 u_skip rl hF
  iterate 2 u_op rl hF
  iterate 4 u_skip rl hF
  u_op rl hF
  u_c Z rl hF
  u_cnd E rl hF
  u_c I rl hF
  iterate 2 u_c Y rl hF
  u_reg rl hF
  iterate 3 u_op rl hF
  iterate 2 u_skip rl hF
  u_op rl hF
  u_c Z rl hF
  u_cnd bq rl hF
  u_c bs rl hF
  refine Goes.stop (λw₄ h₁=>?_);replace hF:=rl hF h₁;refine⟨rfl,_,iv (v:=.tuple #[]) (evs:=#[mk .enable]) rfl H.f_enable (jk L) (js L) (jx L) (j1 L) (by simp[Extern.Race.none_]) (by simp[mk]) (by simp[mk]),150,?_⟩
  u_leave0 H.f_add rl hF
  exact Goes.stop λ_ _=>rfl
open Go.ConcR (KK wgBlock WgAt stA smA rd wr mk Payload Aside2 DC0)
variable {L:kx}
def waitStart {P:bA}(H:l9 P L){Wg:Nat}{b₀:b6}{a₀:Act}{ops₀:Array mb}{i₀:Nat}{rest₀:List Nat}{k₀:List qb}{cs:List b6}(w:bk)(hF:dt L.tWg Wg w) :
  GW P L.tWg Wg bq (Rq P L.tWg Wg (AnchWN L (λ_=>True) Wg (b₀.at a₀ (.inRegion ops₀ (i₀::rest₀)::k₀)) cs)) 150 (G ((base L.wait).at ⟨#[.S (bh ⟨Wg,0,df⟩),undef,undef,undef,undef,undef,undef,undef,undef,undef,undef,undef,undef,undef,undef,undef,undef,undef,undef,undef,undef,undef,undef,undef,undef,undef,undef,undef,undef,undef,undef,undef,undef,undef,undef,undef,undef,undef,undef,undef,undef,undef,undef,undef,undef,undef,undef,undef,undef,undef,undef,undef,undef,undef,undef,undef,undef,undef,undef,undef,undef,undef,undef,undef,undef,undef,undef,undef,undef,undef,undef,undef,undef,undef,undef,undef,undef,undef,undef,undef,undef,undef,undef,undef],[]⟩ [.code (k0 L)]) (b₀.at a₀ (.inRegion ops₀ (i₀::rest₀)::k₀)::cs)) w:=by
 lib_facts
 simp only[k0,waitFn,AS]
 u_c Y rl hF
 u_cond bq rl hF
 u_reg rl hF
 refine Goes.stop (λw₁ h₁=>?_);replace hF:=rl hF h₁;refine⟨rfl,_,ek .disable (by simp) rfl rfl (by k_ne) rfl H.f_disable (lh L) (ln L) (lp L) (lu L),150,?_⟩
 walk_nrm
 u_c Z rl hF
 u_c fq rl hF
 u_c stepG_loop rl hF
 refine Goes.stop (λw₃ h₃=>?_);replace hF:=rl hF h₃;exact⟨_,rfl,by simp,by simp,trivial,hF⟩
def waitRound {P:bA}(H:l9 P L){Wg:Nat}{b₀:b6}{a₀:Act}{ops₀:Array mb}{i₀:Nat}{rest₀:List Nat}{k₀:List qb}{cs:List b6}(g:J)(w:bk)(h:AnchWN L (λ_=>True) Wg (b₀.at a₀ (.inRegion ops₀ (i₀::rest₀)::k₀)) cs g w) :
  GW P L.tWg Wg bq (W1 P L.tWg Wg (AnchWN L (λ_=>True) Wg (b₀.at a₀ (.inRegion ops₀ (i₀::rest₀)::k₀)) cs) (λg _=>g=G (b₀.at (a₀.put ((ops₀[i₀]?).bind (·.dst)) (.tuple #[])) (.inRegion ops₀ rest₀::k₀)) cs)) 150 g w:=by
 lib_facts
 obtain⟨T,rfl,hT84,t0,_,hF⟩:=h;obtain⟨v0,v1,v2,v3,v4,v5,v6,v7,v8,v9,v10,v11,v12,v13,v14,v15,v16,v17,v18,v19,v20,v21,v22,v23,v24,v25,v26,v27,v28,v29,v30,v31,v32,v33,v34,v35,v36,v37,v38,v39,v40,v41,v42,v43,v44,v45,v46,v47,v48,v49,v50,v51,v52,v53,v54,v55,v56,v57,v58,v59,v60,v61,v62,v63,v64,v65,v66,v67,v68,v69,v70,v71,v72,v73,v74,v75,v76,v77,v78,v79,v80,v81,v82,v83,rfl⟩:=array84 T hT84;simp only[Bw,Br,eo] at t0
 subst t0;simp only[L7,k0,waitFn,AS]
 u_c fq rl hF
 u_c Y rl hF
 u_reg rl hF
 iterate 3 u_op rl hF
 u_call H.L (q9 L) uLoadFn rl hF
 u_c Y rl hF
 u_reg rl hF
 u_op rl hF
 u_c Z rl hF
 u_c Y rl hF
 u_reg rl hF
 iterate 3 u_op rl hF
 refine Goes.stop (λw₁ h₁=>?_);replace hF:=rl hF h₁;refine⟨rfl,λv hv hw=>?_⟩;obtain rfl|hvp:=BJ v
 .replace hw:WgAt L.tWg Wg w₁ 0 0:=by simpa using hw
  refine⟨_,cE (v:=0) rfl rfl (by k_ne) rfl H.f_loadU64 (e8 L) (fc L) (fl L) .u64 (fo L) rfl hw.L,λ_=>⟨150,?_⟩,λh=>AH rfl h⟩
  walk_nrm
  u_op rl hF
  u_c Z rl hF
  u_c bs rl hF
  u_leave1 H.L rl hF
  u_op rl hF
  u_c Z rl hF
  u_c Y rl hF
  u_reg rl hF
  iterate 4 u_op rl hF
  u_c Z rl hF
  u_c Y rl hF
  u_reg rl hF
  iterate 4 u_op rl hF
  u_c Z rl hF
  iterate 2 u_c Y rl hF
  u_reg rl hF
  iterate 2 u_op rl hF
  u_c Z rl hF
  u_cond bq rl hF
  u_c Y rl hF
  u_cond bq rl hF
  u_c Y rl hF
  u_reg rl hF
  refine Goes.stop (λw₅ h₁=>?_);replace hF:=rl hF h₁;refine⟨rfl,_,ek .enable (by simp) rfl rfl (by k_ne) rfl H.f_enable (jk L) (js L) (jx L) (j1 L),150,?_⟩
  walk_nrm
  u_c Z rl hF
  u_reg rl hF
  u_op rl hF
  u_conv H.underlying_tWgP H.room_tWg (WgLive.cell0 hF).choose_spec rl hF
  refine Goes.stop (λw₆ h₁=>?_);replace hF:=rl hF h₁;refine⟨rfl,_,dr .acquire (by simp) rfl rfl (by k_ne) rfl H.f_acquire (x_acquire_n L) (x_acquire_b L) (x_acquire_x L) (x_acquire_f L) (by simp[dy,stA]),150,?_⟩
  walk_nrm
  u_c Z rl hF
  iterate 2 u_c Y rl hF
  u_reg rl hF
  iterate 8 u_op rl hF
  iterate 2 u_skip rl hF
  u_op rl hF
  u_c Z rl hF
  u_cond E rl hF
  u_c I rl hF
  u_c bs rl hF
  u_leave0 H.f_wait rl hF
  exact Goes.stop λ_ _=>rfl
 .obtain⟨S,hS⟩:∃S:Int,(v:Int)*KK=S:=⟨_,rfl⟩;have a1:S / 4294967296=(v:Int):=by rw[<-hS];simp only[KK];omega
  have b1:bits .and .u64 S 2147483648=0:=by rw[<-hS];have:=qf v 0 (by omega) (by omega);simpa [KK] using this
  have b2:bits .and .u64 S 2147483647=0:=by rw[<-hS];have:=ik v 0 (by omega) (by omega);simpa [KK] using this
  have c1:IntKind.i32.wrap (v:Int)=(v:Int):=by rw[kV];omega
  have w1:IntKind.u64.wrap (S+1)=S+1:=by rw[cU,<-hS];simp only[KK];omega
  have q3:decide ((v:Int)<0)=false:=B4 (by omega);have q4:decide (0<(v:Int))=true:=Ci (by omega);have q5:((v:Int)==0)=false:=by simp;omega
  have q6:decide ((v:Int)=0)=false:=B4 (by omega);rw[hS] at hw;refine⟨_,cE (v:=S) rfl rfl (by k_ne) rfl H.f_loadU64 (e8 L) (fc L) (fl L) .u64 (fo L) rfl hw.L,λh0=>AH h0 (by omega),λ_=>⟨150,?_⟩⟩
  walk_nrm
  u_op rl hF
  u_c Z rl hF
  u_c bs rl hF
  u_leave1 H.L rl hF
  u_op rl hF
  u_c Z rl hF
  u_c Y rl hF
  u_reg rl hF
  iterate 4 u_op rl hF
  u_c Z rl hF
  u_c Y rl hF
  u_reg rl hF
  iterate 4 u_op rl hF
  u_c Z rl hF
  iterate 2 u_c Y rl hF
  u_reg rl hF
  iterate 2 u_op rl hF
  u_c Z rl hF
  u_cnd E rl hF
  u_c I rl hF
  u_c Y rl hF
  u_reg rl hF
  iterate 6 u_op rl hF
  u_call H.f_uCas (nm_uCas L) uCasFn rl hF
  u_c Y rl hF
  u_reg rl hF
  u_op rl hF
  u_c Z rl hF
  u_c Y rl hF
  u_reg rl hF
  iterate 5 u_op rl hF
  refine Goes.stop (λw₂ h₁=>?_);replace hF:=rl hF h₁;refine⟨rfl,λv' hv' hw=>⟨λe=>?_,λe=>?_⟩⟩
  .subst e;rw[hS] at hw ⊢;refine⟨_,(stepG_cas_hit (v:=S) (n:=S+1) rfl rfl (by k_ne) rfl H.f_casU64 (x_casU64_n L) (x_casU64_b L) (x_casU64_x L) .u64 (x_casU64_f L) rfl rfl rfl hw.L (hw.thaw 0)).trans (by rfl),150,?_⟩;replace hF:dt L.tWg Wg (w₂.LE (stA Wg) (.int .u64 (S+1))):=⟨_,_,hw.setSt _⟩
   walk_nrm
   u_op rl hF
   u_c Z rl hF
   u_c bs rl hF
   u_leave1 H.f_uCas rl hF
   u_c Z rl hF
   u_cnd bq rl hF
   iterate 2 u_c Y rl hF
   u_reg rl hF
   iterate 4 u_op rl hF
   u_c Z rl hF
   u_cnd bq rl hF
   u_reg rl hF
   iterate 3 u_op rl hF
   u_conv H.underlying_tPU32 H.room_tU32 (WgLive.cell1 hF).choose_spec rl hF
   refine Goes.stop (λw₂ h₁=>?_);replace hF:=rl hF h₁;refine⟨rfl,_,dr .write (by simp) rfl rfl (by k_ne) rfl H.f_raceWrite (x_raceWrite_n L) (x_raceWrite_b L) (x_raceWrite_x L) (x_raceWrite_f L) (ad:=⟨Wg,1,df⟩) (by simp[dy]),150,?_⟩
   walk_nrm
   u_c Z rl hF
   u_c Y rl hF
   u_reg rl hF
   u_op rl hF
   u_c Z rl hF
   iterate 2 u_c Y rl hF
   u_reg rl hF
   iterate 4 u_op rl hF
   u_skip rl hF
   u_op rl hF
   u_c Z rl hF
   u_cnd E rl hF
   u_c I rl hF
   u_c Y rl hF
   u_reg rl hF
   iterate 4 u_op rl hF
   refine Goes.stop (λw₃ h₁=>?_);replace hF:=rl hF h₁;refine⟨rfl,rfl,λ⟨st,hw⟩=>stepG_semacquire_wait rfl rfl rfl H.f_semacquire (mm L) (mo L) (mA L) (nc L) (by simp[dy,smA]) hw.cellSm,λhf=>?_⟩;refine⟨_,(stepG_semacquire (n:=1) rfl rfl (by k_ne) rfl H.f_semacquire (mm L) (mo L) (mA L) (nc L) (by simp[dy,smA]) hf.cellSm (by k_ne) (hf.thaw 1)).trans (by rfl),150,?_⟩
   replace hF:dt L.tWg Wg (w₃.LE (smA Wg) (.int .u32 0)):=⟨_,_,hf.setSm 0⟩
   walk_nrm
   u_c Z rl hF
   u_c Y rl hF
   u_reg rl hF
   iterate 3 u_op rl hF
   u_call H.L (q9 L) uLoadFn rl hF
   u_c Y rl hF
   u_reg rl hF
   u_op rl hF
   u_c Z rl hF
   u_c Y rl hF
   u_reg rl hF
   iterate 3 u_op rl hF
   refine Goes.stop (λw₄ h₁=>?_);replace hF:=rl hF h₁;refine⟨rfl,λhw=>⟨_,cE (v:=0) rfl rfl (by k_ne) rfl H.f_loadU64 (e8 L) (fc L) (fl L) .u64 (fo L) rfl hw.L,150,?_⟩⟩
   walk_nrm
   u_op rl hF
   u_c Z rl hF
   u_c bs rl hF
   u_leave1 H.L rl hF
   iterate 2 u_op rl hF
   u_c Z rl hF
   u_c Y rl hF
   u_cond bq rl hF
   u_c Y rl hF
   u_reg rl hF
   refine Goes.stop (λw₅ h₁=>?_);replace hF:=rl hF h₁;refine⟨rfl,_,ek .enable (by simp) rfl rfl (by k_ne) rfl H.f_enable (jk L) (js L) (jx L) (j1 L),150,?_⟩
   walk_nrm
   u_c Z rl hF
   u_reg rl hF
   u_op rl hF
   u_conv H.underlying_tWgP H.room_tWg (WgLive.cell0 hF).choose_spec rl hF
   refine Goes.stop (λw₆ h₁=>?_);replace hF:=rl hF h₁;refine⟨rfl,_,dr .acquire (by simp) rfl rfl (by k_ne) rfl H.f_acquire (x_acquire_n L) (x_acquire_b L) (x_acquire_x L) (x_acquire_f L) (by simp[dy,stA]),150,?_⟩
   walk_nrm
   u_c Z rl hF
   iterate 2 u_c Y rl hF
   u_reg rl hF
   u_op rl hF
   u_c Z rl hF
   u_cond E rl hF
   u_c I rl hF
   u_c bs rl hF
   u_leave0 H.f_wait rl hF
   exact Goes.stop λ_ _=>rfl
  .refine⟨_,stepG_cas_miss (v:=(v':Int)*KK) (old:=S) (n:=S+1) rfl rfl (by k_ne) rfl H.f_casU64 (x_casU64_n L) (x_casU64_b L) (x_casU64_x L) .u64 (x_casU64_f L) rfl rfl rfl hw.L (hw.thaw 0) (by rw[<-hS];simp only[KK];omega),150,?_⟩
   walk_nrm
   u_op rl hF
   u_c Z rl hF
   u_c bs rl hF
   u_leave1 H.f_uCas rl hF
   u_c Z rl hF
   u_cnd E rl hF
   u_c I rl hF
   u_c stepG_inBlock rl hF
   u_c stepG_inLoop rl hF
   refine Goes.stop (λw₃ h₃=>?_);replace hF:=rl hF h₃;exact⟨_,rfl,by simp,by simp,trivial,hF⟩
open Go.ConcR (KK WgAt stA smA rd wr mk DC0 Bk)
def tN (p v:cf)(L:kx):(#[p,v]++U ((addFn L).ntmps-(#[p,v]:Array cf).size) undef:Array cf)=#[p,v,undef,undef,undef,undef,undef,undef,undef,undef,undef,undef,undef,undef,undef,undef,undef,undef,undef,undef,undef,undef,undef,undef,undef,undef,undef,undef,undef,undef,undef,undef,undef,undef,undef,undef,undef,undef,undef,undef,undef,undef,undef,undef,undef,undef,undef,undef,undef,undef,undef,undef,undef,undef,undef,undef,undef,undef,undef,undef,undef,undef,undef,undef,undef,undef,undef,undef,undef,undef,undef,undef,undef,undef,undef,undef,undef,undef,undef,undef,undef,undef,undef,undef,undef,undef,undef,undef,undef,undef,undef,undef,undef,undef,undef,undef,undef,undef,undef,undef,undef,undef,undef,undef,undef,undef,undef,undef,undef,undef,undef,undef,undef,undef,undef,undef,undef]:=by walk_nrmf addFn
def ru (p:cf)(L:kx):(#[p]++U ((waitFn L).ntmps-(#[p]:Array cf).size) undef:Array cf)=#[p,undef,undef,undef,undef,undef,undef,undef,undef,undef,undef,undef,undef,undef,undef,undef,undef,undef,undef,undef,undef,undef,undef,undef,undef,undef,undef,undef,undef,undef,undef,undef,undef,undef,undef,undef,undef,undef,undef,undef,undef,undef,undef,undef,undef,undef,undef,undef,undef,undef,undef,undef,undef,undef,undef,undef,undef,undef,undef,undef,undef,undef,undef,undef,undef,undef,undef,undef,undef,undef,undef,undef,undef,undef,undef,undef,undef,undef,undef,undef,undef,undef,undef,undef]:=by walk_nrmf waitFn
def rv (p:cf)(L:kx):(#[p]++U ((doneFn L).ntmps-(#[p]:Array cf).size) undef:Array cf)=#[p,undef,undef,undef]:=by walk_nrmf doneFn
section
variable {P:Er} {SB BB:br->Bool} {zZ:Bool} {Gn:Nat} {H:Hid} {T:List b6} {β:Ef} {L:kx} {Wg:Nat}
def Barred (P:Er)(SB:br->Bool)(zZ:Bool)(f:br)(fn:dn):Prop:=∃c,P.a.L[f]?=bh fn/\P.b.L[f]?=bh fn/\fn.body=bh c/\codeOk P.a SB zZ bq c=E
def OZ (S:Fu)(β:Ef)(v V:cf):Prop:=∀X,DX S β v X->X=V
def OZ.undef {S:Fu}:OZ S β undef undef:=λX h=>by
 unfold Go.undef at h ⊢;cases h with
 |@tuple _ x h1 _ =>
  have:x=#[]:=by simpa using h1.LT
  rw[this]
def OZ.int {S:Fu}(k:IntKind)(n:Int):OZ S β (.int k n) (.int k n):=λX h=>by cases h;rfl
def OZ.ptr {S:Fu}(hf:β.E7 Gn){b B:Nat}(hb:β b B)(o:Nat)(s:Option Nat):OZ S β (.S (bh ⟨b,o,s⟩)) (.S (bh ⟨B,o,s⟩)):=λX h=>by
 cases h with
 |ptr _ _ h=>rw[hf.fn h hb]
def ig {f:br}{fn:dn}(a7:Barred P SB zZ f fn){args args':Array cf}(hs:args.size=args'.size)(hn:args.size<=fn.ntmps)(hd:∀(i:Nat) (v V:cf),args[i]?=bh v->args'[i]?=bh V->OZ (SP SB H) β v V){k:CallKind}{F:b6}
  (h:Ga P SB H zZ BB β (bn P.a f args k) F):F=bn P.b f args' k:=by
 obtain⟨c,h1,h2,h3,h4⟩:=a7;generalize hF:bn P.a f args k=fr at h;cases h with
 |on h =>
  exfalso;have ht:=h.todo;rw[<-hF] at ht;simp only[bn,h1,h3,BD,AS] at ht;generalize F.todo=X at ht;cases ht with
  |cons hi _ =>
   cases hi with
   |code hc =>
    simp only[j3] at hc;rw[h4] at hc;cases hc
 |@stop f' a A k' _ _ _ ha =>
  have e1:f=f':=AZ uA hF;have e2:k=k':=AZ sw hF;subst e1 e2;have e3:args++U (fn.ntmps-args.size) undef=a++U (fn.ntmps-a.size) undef:=by
   have:=AZ sF hF;simpa [bn,h1] using this
  have e4:A++U (fn.ntmps-A.size) undef=args'++U (fn.ntmps-args'.size) undef:=by
   have zx:=AZ sS e3;simp only[kn,fx] at zx;have hA:=ha.size;apply Array.ext_getElem?;intro i;have e5:(args++U (fn.ntmps-args.size) undef)[i]?=(a++U (fn.ntmps-a.size) undef)[i]?:=by rw[e3]
   obtain hi|hi:=BP i fn.ntmps
   .rw[CL,CL] at e5 ⊢;have und:∀(m:Nat),i<m->(U m undef)[i]?=bh undef:=λm hm=>by rw[By,AJ hm]
    have val:∃v,(if i<a.size then a[i]? else(U (fn.ntmps-a.size) undef)[i-a.size]?)=bh v/\∀X,(if i<A.size then A[i]? else(U (fn.ntmps-A.size) undef)[i-A.size]?)=bh X->DX (SP SB H) β v X:=by
     by_cases a6:i<a.size
     .refine⟨a[i],by rw[AJ a6];simp[a6],λX hX=>?_⟩;rw[AJ (by omega)] at hX;exact ha.at_ i _ X (by simp[a6]) hX
     .refine⟨undef,by rw[AE a6,By,AJ (by omega)],λX hX=>?_⟩;rw[AE (by omega),By,AJ (by omega)] at hX;cases hX;exact DX.undef _ _
    obtain⟨v,hv,hX⟩:=val;rw[hv] at e5;have hAX:∃X,(if i<A.size then A[i]? else(U (fn.ntmps-A.size) undef)[i-A.size]?)=bh X:=by
     by_cases a6:i<A.size
     .exact⟨A[i],by rw[AJ a6];simp[a6]⟩
     .exact⟨undef,by rw[AE a6,By,AJ (by omega)]⟩
    obtain⟨X,hXe⟩:=hAX;rw[hXe];have hr:=hX X hXe;by_cases a6:i<args.size
    .rw[AJ a6] at e5;rw[AJ (by omega)];have:∃V,args'[i]?=bh V:=⟨args'[i],by simp[show i<args'.size by omega]⟩;obtain⟨V,hV⟩:=this;rw[hV,hd i v V e5 hV X hr]
    .rw[AE a6,By,AJ (by omega)] at e5;rw[AE (by omega),By,AJ (by omega)];have:v=undef:=(eA e5).LT;subst this;rw[OZ.undef X hr]
   .rw[Cf (by simp;omega),Cf (by simp;omega)]
  simp only[bn,h2,BT,AS,e4]
def JR {fr FR:b6}(h:Ej P.a SB H zZ β fr FR)(hc:ff fr):∃(b:b6) (a:Act) (ops:Array mb) (i:Nat) (rest:List Nat) (k:List qb),FR=b.at a (.inRegion ops (i::rest)::k):=by
 obtain⟨h1,h2,ops,i,rest,k,h3⟩:=hc;have m:=h.mode;have r:=h.round;have t:=h.todo;rw[h1] at m;rw[h2] at r;rw[h3] at t;obtain⟨f1,f2,f3,f4,f5,f6,f7⟩:=FR;dsimp only at m r t;cases m;cases r;cases t with
 |cons hi _ =>
  cases hi
  exact⟨⟨f1,f2,[],f4,.run,f6,df⟩,⟨f2,f4⟩,ops,i,rest,_,rfl⟩
def Jo {fr:b6}{cs CS:List b6}(h:Fi P.a SB H zZ T β (fr::cs) CS)(hc:ff fr):∃FR CS',CS=FR::CS'/\Ej P.a SB H zZ β fr FR/\Fi P.a SB H zZ T β cs CS':=by
 cases h with
 |base =>
  obtain⟨_,_,_,_,_,_,h3⟩:=hc;simp[bad] at h3
 |cons h1 h2=>exact⟨_,_,rfl,h1,h2⟩
def ii {g G:J}(h:FV P SB H zZ BB T β g G):G=bo G.L G.callers:=by
 obtain⟨a1,a2,a3,a4,a5⟩:=G;obtain⟨_,_,⟨_,s1⟩,⟨_,d1⟩,⟨_,o1⟩⟩:=h;dsimp only at *;subst s1 d1 o1
 rfl
def jl {x:Lone}{fr FR:b6}{cs CS:List b6}(h1:Ej P.a SB x.H zZ x.β fr FR)(h2:Fi P.a SB x.H zZ x.T x.β cs CS):Fe P SB BB zZ { x with g:=back fr cs } (bo (FR.finish (.tuple #[])) CS) :=
 ⟨.on (bf h1 (.tuple rfl (by simp))),h2,⟨rfl,rfl⟩,⟨rfl,rfl⟩,⟨rfl,rfl⟩⟩
def QU (W:l9 P.b L)(a8:Barred P SB zZ L.add (addFn L))(wl:Nat):MW P SB BB zZ Gn L.tWg Wg L.add wl T:=by
 intro x G W0 fr cs e hc hT aA hg hw a7;have a6:=hg.top;have zW:=hg.callers;rw[e] at a6 zW;obtain⟨FR,CS,aB,r1,r2⟩:=Jo zW hc;obtain⟨b,a,ops,i,rest,k,aC⟩:=JR r1 hc;have eF:G.L=bn P.b L.add #[.S (bh ⟨Wg,0,df⟩),r5 r6 1] .normal:=by
  refine ig (args:=#[JA wl,r5 r6 1]) (args':=#[.S (bh ⟨Wg,0,df⟩),r5 r6 1]) a8 rfl (by simp[addFn]) (λj v V h1 h2=>?_) a6
  match j,h1,h2 with
  |0,h1,h2=>cases h1;cases h2;exact .ptr hw.Fl aA 0 df
  |1,h1,h2=>cases h1;cases h2;exact .int _ _
  |j+2,h1,_=>simp at h1
 refine⟨bo (FR.finish (.tuple #[])) CS,150,?_,jl r1 r2⟩;rw[ii hg,eF,aB,enter_at _ W.f_add (c:=e7 L) rfl,tN,aC,di];exact addPos W (b₀:=b) (a₀:=a) (k₀:=k) W0 a7
def ye (W:l9 P.b L)(aA:Barred P SB zZ L.wait (waitFn L))(wl:Nat):jN P SB BB zZ Gn L.tWg Wg L.wait wl T:=by
 intro x G W0 fr cs e hc hT aB hg hw a7;have a6:=hg.top;have zW:=hg.callers;rw[e] at a6 zW;obtain⟨FR,CS,aC,r1,r2⟩:=Jo zW hc;obtain⟨b,a,ops,i,rest,k,a8⟩:=JR r1 hc;have eF:G.L=bn P.b L.wait #[.S (bh ⟨Wg,0,df⟩)] .normal:=by
  refine ig (args:=#[JA wl]) (args':=#[.S (bh ⟨Wg,0,df⟩)]) aA rfl (by simp[waitFn]) (λj v V h1 h2=>?_) a6
  match j,h1,h2 with
  |0,h1,h2=>cases h1;cases h2;exact .ptr hw.Fl aB 0 df
  |j+1,h1,_=>simp at h1
 refine⟨bo (FR.finish (.tuple #[])) CS,150,AnchWN L (λ_=>True) Wg FR CS,?_,λg w hA=>?_,jl r1 r2⟩
 .rw[ii hg,eF,aC,enter_at _ W.f_wait (c:=k0 L) rfl,ru,a8];exact waitStart W (b₀:=b) (a₀:=a) (k₀:=k) W0 a7
 .rw[a8] at hA ⊢;rw[di];refine⟨?_,_,waitRound W g w hA⟩;obtain⟨_,rfl,_⟩:=hA
  rfl
def yf (W:l9 P.b L)(a8:Barred P SB zZ L.done (doneFn L)){x:Lone}{G:J}{W0:bk}{c:b6}{cs:List b6}{wl:Nat}(e:x.g=ER (bn P.a L.done #[JA wl] .L) (c::cs))(hc:c≠bad)(aA:x.β wl Wg)
  (hg:Fe P SB BB zZ x G) (hw:Gw P SB zZ Gn x W0) (a7:dt L.tWg Wg W0) (hQ:∀C CS,Ej P.a SB x.H zZ x.β c C->Fi P.a SB x.H zZ x.T x.β cs CS->C.mode=.returning/\∃q,kq P.b q 0 (bo C CS)) :
  ∃m,GW P.b L.tWg Wg E (R0 P.b L.tWg Wg) m G W0:=by
 have a6:=hg.top;have zW:=hg.callers;rw[e] at a6 zW;have:∃C CS,G.callers=C::CS/\Ej P.a SB x.H zZ x.β c C/\Fi P.a SB x.H zZ x.T x.β cs CS:=by
  generalize G.callers=X at zW;cases zW with
  |base=>exact AH rfl hc
  |cons h1 h2=>exact⟨_,_,rfl,h1,h2⟩
 obtain⟨C,CS,aB,r1,r2⟩:=this;have eF:G.L=bn P.b L.done #[.S (bh ⟨Wg,0,df⟩)] .L:=by
  refine ig (args:=#[JA wl]) (args':=#[.S (bh ⟨Wg,0,df⟩)]) a8 rfl (by simp[doneFn]) (λj v V h1 h2=>?_) a6
  match j,h1,h2 with
  |0,h1,h2=>cases h1;cases h2;exact .ptr hw.Fl aA 0 df
  |j+1,h1,_=>simp at h1
 obtain⟨hm,q,hq⟩:=hQ C CS r1 r2;refine⟨153,?_⟩;rw[ii hg,eF,aB,enter_atD _ W.f_done (c:=ot L) rfl,rv];exact done W hm hq W0 a7
end
def Jk (zO:Nat->Prop)(l:Loc):Prop:=∃a:Addr,l=.cell a/\zO a.Lo
structure I9 (P:bA)(zO:Nat->Prop)(gs:Array J)(W:bk)(t:cA)(q:Nat->Nat):Prop where
 lv:l8 P t gs q
 past:Past (Jk zO) W.heap.size t
 quiet:Quiet (Jk zO) t
 N7:∀(i:Nat) (op:s9),t[i]?=bh op->op.g<gs.size
 Li:∀B,zO B->B<W.heap.size
section
variable (P:Er) (SB BB:br->Bool) (zZ:Bool) (Gn:Nat)
structure Tw (zO:Nat->Prop)(Kp:Ib)(x:Lone)(a:J)(W:bk):Prop where
 gl:Fe P SB BB zZ x a
 wl:Gw P SB zZ Gn x W
 tw:x.H.EX=E
 dead:∀b B,x.β b B->zO B->x.H b=bq
 keep:∀B,Kp.at_ B->B<W.heap.size/\W.heap[B]?=Kp.w.heap[B]?
 FA:∀b B,x.β b B->Kp.at_ B->x.H b=bq\/Ro x.w b
end
section
variable {P:Er} {SB BB:br->Bool} {zZ:Bool} {Gn:Nat} {zO:Nat->Prop} {Kp:Ib}
def I9.at {gs:Array J}{W:bk}{t:cA}{q:Nat->Nat}(h:I9 P.b zO gs W t q)(d:Nat):I9 P.b zO gs (W.at d) t q:=⟨h.lv,h.past,h.quiet,h.N7,h.Li⟩
def Tw.at {x:Lone}{a:J}{W:bk}(h:Tw P SB BB zZ Gn zO Kp x a W)(d:Nat):Tw P SB BB zZ Gn zO Kp x a (W.at d):=⟨h.gl,h.wl.same rfl rfl h.wl.env,h.tw,h.dead,h.keep,h.FA⟩
def I9.slip {gs:Array J}{W:bk}{t:cA}{q:Nat->Nat}(h:I9 P.b zO gs W t q){i:Nat}{g a:J}(aC:0<i)(hi:gs[i]?=bh g)(zA:g.status=.L)(h0:gs[0]?=bh a)(ha:a.status=.L)(sl:Option (Nat×Nat)) :
  ∃gs' t' q',runT P.b (b9 gs W sl) i=(.next (b9 gs' W sl),t')/\gs'.size=gs.size/\gs'[0]?=bh a/\sumTo gs.size q'<sumTo gs.size q/\I9 P.b zO gs' W (t++t') q':=by
 have hq:=h.lv.old i g aC hi;have aH:(i==0)=false:=by simp;omega
 have zY:i<gs.size:=(AC.1 hi).1;cases a7:q i with
 |zero=>rw[a7] at hq;rw[hq.1] at zA;cases zA
 |succ k =>
  rw[a7] at hq;obtain⟨hf,_⟩|⟨_,g',es,hm,aD,hq'⟩:=hq
  .rw[hf] at zA;cases zA
  have aA:=cu (P:=P.b) (sl:=sl) (i:=i) hi (by rw[aH];exact aD W);have aI:sumTo gs.size (upd q i k)+(k+1)=sumTo gs.size q+k:=by
   have:=sumTo_upd q k id zY;simpa [a7] using this
  have a8:∀op∈bW i g.L.fn g.L.L es,op.g=i:=λop hop=>by obtain⟨e,_,rfl⟩:=bc hop;rfl
  refine⟨_,_,upd q i k,aA,by simp,?_,by omega,⟨λj x hj hx=>?_,λj hj=>?_⟩,h.past.mute (by omega) hm,h.quiet.app λop hop x hx hs=>?_,λj op hop=>?_,h.Li⟩
  .have zU:i≠0:=by omega
   rw[AV zU,BF,h0];simp[woken_run ha]
  .by_cases a6:i=j
   .subst a6;rw[BG (by simpa using zY)] at hx;obtain rfl:=eA hx;rw[upd_same,rb];exact hq'
   .rw[AV a6,BF] at hx;obtain⟨y,hy,rfl⟩:=Bl.1 hx;have aB:=h.lv.old j y hj hy;rw[cF aB,upd_ne q k (Ne.symm a6),b7 t a6 _ a8];exact aB
  .rw[b7 t (g':=i) (by simp at hj;omega) _ a8];exact h.lv.above j (by simpa using hj)
  .obtain⟨e,he,rfl⟩:=bc hop;rw[nh (hm e he)] at hx;cases hx
  .obtain⟨_,aF⟩|⟨_,aG⟩:=bD hop
   .simpa using h.N7 j op aF
   .rw[a8 op aG];simpa using zY
def I9.fin {gs:Array J}{W W':bk}{t:cA}{q:Nat->Nat}(h:I9 P.b zO gs W t q){x:Lone}{a g2:J}{DZ:Ef}{w':bk}{ES:Array rA}(a7:x.H.EX=E)(aC:∀b B,x.β b B->zO B->x.H b=bq)
  (h0:gs[0]?=bh a) (e3:fz P.b bq a W=.go g2 W' ES) (f:Hw P SB zZ Gn x W DZ w' W' ES.toList) (sl:Option (Nat×Nat)) :
  ∃gs' t',runT P.b (b9 gs W sl) 0=(.next (b9 gs' W' sl),t')/\gs'.size=gs.size/\gs'[0]?=bh g2/\I9 P.b zO gs' W' (t++t') q:=by
 have aF:ES.toList.Li=ES:=by simp
 have a8:=cN f a7;rw[aF] at a8;have aA:=eE f a7 (k:=0) (fn:=a.L.fn) (pos:=a.L.L);rw[aF] at aA;have aB:∀op∈bW 0 a.L.fn a.L.L ES,op.g=0:=λop hop=>by obtain⟨e,_,rfl⟩:=bc hop;rfl
 have old:∀b B,DZ b B->B<W.heap.size->x.β b B:=λb B hb hB=>(f.new b B hb).elim id λh=>AH h.2 (ez.2 hB);have aD:∀b B,DZ b B->zO B->x.H b=true:=λb B hb hd=>aC b B (old b B hb (h.Li B hd)) hd;have a6:∀e∈ES,∀z,(bw e).L=bh z->¬Jk zO z.loc:=by
  intro e he z hz ⟨b,hb,hd⟩;have hE:=f.evs a7 e (by simpa using he);cases hE with
  |@cell a A wr sy hab _ hc _ =>
   have:z.loc=.cell A:=by simp[bw,b5] at hz;subst hz;rfl
   rw[this] at hb;cases hb;obtain⟨n,hn,_⟩:=hc;have:=(f.rel.FU _ _ hab (aD _ _ hab hd)).1;rw[this] at hn;simp[Fo] at hn
  |@obj r R wr sy _ _ =>
   have:z.loc=.obj R:=by cases wr<;>cases sy<;>simp[bw,b5] at hz<;>subst hz<;>rfl
   rw[this] at hb;cases hb
  |mark hm=>cases hm<;>simp[bw,b5] at hz
  |out =>
   have:z.loc=.output:=by simp[bw,b5] at hz;subst hz;rfl
   rw[this] at hb;cases hb
 have zY:0<gs.size:=(AC.1 h0).1
 refine⟨_,_,cu (P:=P.b) (sl:=sl) (i:=0) h0 (by simpa using e3),by simp,by simp[zY],
  ⟨⟨λj y hj hy=>?_,λj hj=>?_⟩,(h.past.LT f.SIZE).LE λe he=>⟨λz hz hs=>AH hs (a6 e he z hz),(a8 e he).1,(a8 e he).2.1,?_⟩,h.quiet.app λop hop z hz hs=>?_,λj op hop=>?_,λB hB=>AI (h.Li B hB) f.SIZE⟩⟩
 .have zU:0≠j:=by omega
  rw[AV zU,BF] at hy;obtain⟨z,hz,rfl⟩:=Bl.1 hy;have aG:=h.lv.old j z hj hz;rw[cF aG,b7 t (by omega) _ aB];exact aG
 .rw[b7 t (g':=0) (by simp at hj;omega) _ aB];exact h.lv.above j (by simpa using hj)
 .exact aA { g:=0,fn:=a.L.fn,pos:=a.L.L,act:=.ofEvent e } (by rw[lx];exact oo.2 ⟨e,he,rfl⟩)
 .obtain⟨e,he,rfl⟩:=bc hop;exact AH hs (a6 e he z hz)
 .obtain⟨_,aH⟩|⟨_,aI⟩:=bD hop
  .simpa using h.N7 j op aH
  .rw[aB op aI];simpa using zY
def KG {x:Lone}{W W':bk}{DZ:Ef}{w':bk}{ES:List rA}(f:Hw P SB zZ Gn x W DZ w' W' ES)(keep:∀B,Kp.at_ B->B<W.heap.size/\W.heap[B]?=Kp.w.heap[B]?)(FA:∀b B,x.β b B->Kp.at_ B->x.H b=bq\/Ro x.w b) :
  (∀B,Kp.at_ B->B<W'.heap.size/\W'.heap[B]?=Kp.w.heap[B]?)/\∀b B,DZ b B->Kp.at_ B->x.H b=bq\/Ro w' b:=by
 refine⟨λB hB=>?_,λb B hb hB=>?_⟩
 .obtain⟨k1,k3⟩:=keep B hB;refine⟨AI k1 f.SIZE,?_⟩;rw[<-k3];by_cases hx:∃b,x.β b B
  .obtain⟨b,hb⟩:=hx;obtain h|⟨cs,ty,z,q1,q2⟩:=FA b B hb hB
   .exact f.hk b B hb h
   .exact(f.ro b B cs ty z hb q1 q2).2
  .exact f.KEPT B k1 λb hb=>hx ⟨b,hb⟩
 .have h0:x.β b B:=(f.new b B hb).elim id λh=>AH h.2 (ez.2 (keep B hB).1);exact(FA b B h0 hB).imp id λh=>h.kept f h0
def I9.tree (lib:∀H,Lib P SB H zZ BB Gn){gs:Array J}{W:bk}{t:cA}{q:Nat->Nat}(h:I9 P.b zO gs W t q){x:Lone}{a:J}(ht:Tw P SB BB zZ Gn zO Kp x a W)(h0:gs[0]?=bh a){Q:J->bk->Prop}(hr:D9 P.a (E7 P.a BB) Q x.g x.w)(hq:¬Q x.g x.w)(sl:Option (Nat×Nat)) :
  ∃gs' W' t' x' a',runT P.b (b9 gs W sl) 0=(.next (b9 gs' W' sl),t')/\gs'.size=gs.size/\gs'[0]?=bh a'/\I9 P.b zO gs' W' (t++t') q/\Tw P SB BB zZ Gn zO Kp x' a' W'/\D9 P.a (E7 P.a BB) Q x'.g x'.w/\After P.a (x'.g,x'.w) (x.g,x.w)/\x'.H=x.H/\x'.T=x.T/\x.β.le x'.β/\(W'.os=W.os/\W'.output=W.output)/\W.heap.size<=W'.heap.size/\x.w.heap.size<=x'.w.heap.size/\∀b B,x'.β b B->x.β b B\/(x.w.heap.size<=b/\W.heap.size<=B):=by
 obtain⟨g',w',es,DZ,g2,W',ES,e1,e2,e3,e4,e5⟩:=Em.follow (lib x.H) (main2:=bq) hr hq ht.gl ht.wl;have f:Hw P SB zZ Gn x W DZ w' W' ES.toList:=e5;obtain⟨gs',t',k1,k2,k3,k4⟩:=h.fin ht.tw ht.dead h0 e3 f sl;obtain⟨k5,k6⟩:=KG f ht.keep ht.FA;have a6:∀b B,DZ b B->zO B->x.H b=true:=λb B hb hd=>(f.new b B hb).elim (λh1=>ht.dead b B h1 hd) λh1=>AH h1.2 (ez.2 (h.Li B hd));exact⟨gs',W',t',⟨g',w',x.H,DZ,x.T⟩,g2,k1,k2,k3,k4,⟨e4,f.rel,ht.tw,a6,k5,k6⟩,e2,⟨W.tape,W.drawn,es,e1,e4.callers.ne⟩,rfl,rfl,f.le,⟨f.OS,f.OUT⟩,f.SIZE,f.size,f.new⟩
def J5 (lib:∀H,Lib P SB H zZ BB Gn){H:Hid}{T:List b6}{β:Ef}{Q:J->bk->Prop}{os:Os}{ou:bk}{n b0 B0:Nat}:∀(μ:Wm×Nat) (m:gU) (t:cA),
  (∃gs W sl q x a,m=b9 gs W sl/\gs[0]?=bh a/\gs.size=n/\I9 P.b zO gs W t q/\Tw P SB BB zZ Gn zO Kp x a W/\D9 P.a (E7 P.a BB) Q x.g x.w/\x.H=H/\x.T=T/\β.le x.β/\(W.os=os/\W.output=ou.output)/\(B0<=W.heap.size/\b0<=x.w.heap.size/\∀b B,x.β b B->β b B\/(b0<=b/\B0<=B))/\μ=(.tree Q (x.g,x.w),sumTo n q)) ->
  ∃N m' t',runNT P.b N m t=(.next m',t')/\∃gs W sl q x a,m'=b9 gs W sl/\gs[0]?=bh a/\gs.size=n/\I9 P.b zO gs W t' q/\Tw P SB BB zZ Gn zO Kp x a W/\Q x.g x.w/\x.H=H/\x.T=T/\β.le x.β/\(W.os=os/\W.output=ou.output)/\(B0<=W.heap.size/\b0<=x.w.heap.size/\∀b B,x.β b B->β b B\/(b0<=b/\B0<=B)):=by
 have wf:WellFounded (Prod.Lex (Kh P.a) (·<·:Nat->Nat->Prop)):=(Prod.lex ⟨_,Kh.wf P.a⟩ qo).wf;refine jM (P:=P.b) wf (λμ m t=>∃gs W sl q x a,m=b9 gs W sl/\gs[0]?=bh a/\gs.size=n/\I9 P.b zO gs W t q/\Tw P SB BB zZ Gn zO Kp x a W/\D9 P.a (E7 P.a BB) Q x.g x.w/\x.H=H/\x.T=T/\β.le x.β/\(W.os=os/\W.output=ou.output)/\(B0<=W.heap.size/\b0<=x.w.heap.size/\∀b B,x.β b B->β b B\/(b0<=b/\B0<=B))/\μ=(.tree Q (x.g,x.w),sumTo n q))
  (λm t=>∃gs W sl q x a,m=b9 gs W sl/\gs[0]?=bh a/\gs.size=n/\I9 P.b zO gs W t q/\Tw P SB BB zZ Gn zO Kp x a W/\Q x.g x.w/\x.H=H/\x.T=T/\β.le x.β/\(W.os=os/\W.output=ou.output)/\(B0<=W.heap.size/\b0<=x.w.heap.size/\∀b B,x.β b B->β b B\/(b0<=b/\B0<=B))) ?_
 rintro μ m t ⟨gs,W,sl,q,x,a,rfl,h0,hn,hb,ht,hr,eH,eT,zX,a8,zx,rfl⟩;by_cases hq:Q x.g x.w
 .exact .inl ⟨gs,W,sl,q,x,a,rfl,h0,hn,hb,ht,hq,eH,eT,zX,a8,zx⟩
 refine .inr ?_;have a6:a.status=.L:=ht.gl.status.2;have aA:∀g∈gs,awake g:=by
  intro g hg;obtain⟨i,hi,rfl⟩:=cK.1 hg;obtain rfl|a7:=BJ i
  .have:gs[0]=a:=by simpa [AL hi] using h0
   rw[this];exact gg (.inl a6)
  .exact gg ((hb.lv.old i _ a7 (AL hi)).status.elim .inl λx=>.inr (.inr x))
 obtain⟨i,g,d,sl',hi,hg,zG⟩:=hZ (P:=P.b) (w:=W) (sl:=sl) aA ⟨0,a,h0,a6⟩;obtain rfl|a7:=BJ i
 .obtain⟨gs',W',t',x',a',k1,k2,k3,k4,k5,k6,k7,k8,k9,aB,k11,k12,k13,k14⟩:=(hb.at d).tree lib (ht.at d) h0 hr hq sl';exact⟨_,_,(.tree Q (x'.g,x'.w),sumTo n q),by rw[zG,k1],er _ _ ⟨.tree hq k7,Dj (EL.of hr)⟩,gs',W',sl',q,x',a',rfl,k3,k2.trans hn,k4,k5,k6,k8.trans eH,k9.trans eT,Ef.le_trans zX aB,⟨k11.1.trans a8.1,k11.2.trans a8.2⟩,⟨AX zx.1 k12,AX zx.2.1 k13,λb B hb=>(k14 b B hb).elim (zx.2.2 b B) λh=>.inr ⟨AX zx.2.1 h.1,AX zx.1 h.2⟩⟩,rfl⟩
 .obtain⟨gs',t',q',k1,k2,k3,k4,k5⟩:=(hb.at d).slip a7 hi hg h0 a6 sl';exact⟨_,_,(.tree Q (x.g,x.w),sumTo n q'),by rw[zG,k1],eV _ (by rw[<-hn];exact k4),gs',W.at d,sl',q',x,a,rfl,k3,k2.trans hn,k5,ht.at d,hr,eH,eT,zX,a8,zx,rfl⟩
end
open Go.ConcR (KK WgAt stA smA rd wr mk DC0 Bk)
section
variable {P:Er} {SB BB:br->Bool} {zZ:Bool} {Gn:Nat} {ty Wg:Nat} {zO zN:Nat->Prop} {Kp:Ib} {Ψ0 Ψ2:bk->Prop} {fA fW:br} {wl:Nat} {Pr:Ef} {T:List b6} {Fn:Bool->Hid->J->bk->Prop}
def tO {j:Nat}{f:Nat->Nat}(h:∀i,i<j->f i=0):sumTo j f=0:=by
 induction j with
 |zero=>rfl
 |succ j ih=>simp only[sumTo];rw[ih λi hi=>h i (by omega),h j (by omega)]
def LO {gs:Array J}{W:bk}{t:cA}{q:Nat->Nat}{sl:Option (Nat×Nat)}{x:Lone}{a:J}{tp:Bool}{k:Nat}
    (lv:l8 P.b t gs q) (past:Past (Jk zO) Wg t) (quiet:Quiet (Jk zO) t) (aL:∀(i:Nat) (op:s9),t[i]?=bh op->op.g<gs.size) (aB:∀B,zO B->B<Wg) (aC:WgAt ty Wg W 0 0) (h0:gs[0]?=bh a)
    (zQ:Fe P SB BB zZ x a) (aM:Gw P SB zZ Gn x W) (aN:x.H.EX=E) (hT:x.T=T) (hb:Pr.le x.β) (aH:∀b,x.β b Wg->x.H b=bq) (aD:∀b B,x.β b B->¬zO B) (aI:∀b B,x.β b B->zN B->x.H b=bq)
    (Jd:∀B,zN B->(B≠Wg/\¬zO B)/\¬Kp.at_ B/\B<W.heap.size) (keep:∀B,Kp.at_ B->B<W.heap.size/\B≠Wg/\W.heap[B]?=Kp.w.heap[B]?) (FA:∀b B,x.β b B->Kp.at_ B->x.H b=bq\/Ro x.w b)
    (aO:W.os=Kp.w.os/\W.output=Kp.w.output) (aF:(tp=bq->Ψ0 W)/\(tp=E->Ψ2 W)) (aJ:PC P SB BB zZ Gn ty Wg zN Ψ0 Ψ2 fA fW wl Pr T Fn k tp x.H x.g x.w) (JN:gs.size+k<=Kp.bd/\Kp.bd<=2147483647) :
    ∃μ,Nq P SB BB zZ Gn ty Wg zO zN Kp Ψ0 Ψ2 fA fW wl Pr T Fn (gs.size-1) μ (b9 gs W sl) t:=by
  have hgp:0<gs.size:=(AC.1 h0).1;have aA:Wg<W.heap.size:=(AC.1 aC).1;obtain⟨j,hj⟩:∃j,gs.size=j+1:=⟨gs.size-1,by omega⟩;rw[show gs.size-1=j by omega];obtain⟨ts,a7⟩:∃ts:TS,ts=if tp then .start else .done:=⟨_,rfl⟩
  have aP:ts.tp=tp:=by rw[a7];cases tp<;>rfl
  have aK:∀(i:Nat) (y:Touch),touchAt t i=bh y->∀b:Addr,y.loc=.cell b->b.Lo≠Wg:=by
    intro i y hy b hb e;obtain⟨op,hop,hoy⟩:=rK hy;have a8:=past.seen op (Bi hop);have key:∀(act:MemAct) (y:Touch),act.L=bh y->act.Li Wg->y.loc=.cell b->False:=by
      intro act y hy a8 hb;cases act with
      |access ev =>
        simp only[b5,eo] at hy;subst hy;obtain⟨loc,wr,sy⟩:=ev;simp only at hb;subst hb;simp only[s5,Loc.low] at a8;omega
      |mark m =>
        cases m<;>simp[b5] at hy
        all_goals
          subst hy;simp only[Loc.cell.injEq] at hb;subst hb;simp only[s5] at a8;omega
      |_=>simp[b5] at hy
    exact key op.act y hoy a8 hb
  let L:Nat->Option Lone:=put (λ_=>df) 0 (bh x)
  have a6:∀ {i y},L i=bh y->i=0/\y=x:=λ{i y} e=>by
    by_cases e':i=0
    · subst e';simp only[L,El,eo] at e;exact⟨rfl,e.LT⟩
    · simp only[L,Et _ _ e'] at e;cases e
  have aG:∀k l,Ls zN L ts.tp k l->k=0/\l.isMemory=bq/\¬Jk zO l:=by
    rintro k l (⟨y,hy,b,B,h1,h2,h4⟩|⟨h1,_,B,h2,h4⟩)
    · obtain⟨rfl,rfl⟩:=a6 hy
      refine⟨rfl,Hx h4,?_⟩;rintro⟨c,rfl,hd⟩;have e:c.Lo=B:=h4;exact aD b B h1 (e▸hd)
    · refine⟨h1,Hx h4,?_⟩
      rintro⟨c,rfl,hd⟩;have e:c.Lo=B:=h4;exact(Jd B h2).1.2 (e▸hd)
  let D:Nat->WD:=λi=>⟨1,0,Deaf t (i+1)⟩
  have hV:Vc j D=0:=tO λi _=>rfl
  refine⟨((k,9,.tree (Kg P SB BB zZ Gn ty Wg zN Ψ0 Ψ2 fA fW wl Pr T Fn k tp x.H) (x.g,x.w)),(ew j).map (λi=>Wm.st 1 (q (i+1))),(0,0)),j,gs,W,sl,D,λi=>.st 1 (q (i+1)),λ_=>E,L,ts,λ_=>0,0,0,.sp 0 5,0,λ_=>0,0,x,a,rfl,
    ⟨⟨hj,λi hi=>?_,⟨λi y hy=>?_,λi y hy=>?_,λi y hy=>?_,λi y hy=>?_,λi y hy _=>?_,λi i' y y' zU hy hy'=>?_,⟨aA,λB hB=>Nat.lt_trans (aB B hB) aA,λB hB=>(Jd B hB).2.2⟩,λB hB=>(Jd B hB).1,keep,λi y hy=>?_,λB hB=>(Jd B hB).2.1,aO⟩,?_,λop hop=>?_,λi hi=>rfl,λi hi h2=>by omega,aC,λi _ h=>(by cases h),λk h=>?_,⟨λh=>aF.1 ?_,λh=>aF.2 ?_⟩,λi hi=>Et _ _ (by omega),λi _=>rfl,AD _⟩,
      by rw[aP];exact .free aJ hb hT zQ,El _ _ _,h0,past.hears,?_,λe=>by simp at e,by simp only;omega⟩,by simp⟩
  · have zY:i+1<gs.size:=by omega
    refine⟨gs[i+1],AL zY,?_⟩;have:L (i+1)=none:=Et _ _ (by omega);rw[this];exact .quit (lv.old (i+1) _ (by omega) (AL zY))
  · obtain⟨rfl,rfl⟩:=a6 hy;exact aM
  · obtain⟨rfl,rfl⟩:=a6 hy;exact aN
  · obtain⟨rfl,rfl⟩:=a6 hy;exact aH
  · obtain⟨rfl,rfl⟩:=a6 hy;exact aD
  · obtain⟨rfl,rfl⟩:=a6 hy;exact aI
  · obtain⟨rfl,rfl⟩:=a6 hy
    obtain⟨rfl,rfl⟩:=a6 hy';exact AH rfl zU
  · obtain⟨rfl,rfl⟩:=a6 hy;exact FA
  · have t0 := DO (Sh := MU zO Wg) (Wr := NH zN L ts.tp) (Rd := Ls zN L ts.tp) (N := j + 1) (Pd := fun _ _ => False) (a := stA Wg) past (fun l hl => by
        obtain⟨c,rfl,h|h⟩:=hl
        · exact .inl ⟨c,rfl,h⟩
        · exact .inr ⟨c,rfl,by omega⟩) (λl hl=>by obtain⟨c,rfl,h⟩:=hl;exact⟨c,rfl,.inl h⟩) (λi op y hi hy hs=>by
        obtain⟨c,hc,h|h⟩:=hs
        · exact quiet i op y hi hy ⟨c,hc,h⟩
        · exact AH h (aK i y (by rw[nt hi];exact hy) c hc)) (AD _) (λi op hi=>by have:=aL i op hi;omega) (by omega) (λk l h=>aG k l (gi h)) aG
    exact t0.Px λ_ _ _ h=>h.elim
  · exact l4 (Nat.le_of_lt aA) (past.seen op hop)
  · rw[a7] at h;cases tp<;>cases h
  · rw[a7] at h
    cases tp with
    |true=>rfl
    |false=>cases h
  · rw[a7] at h
    cases tp with
    |true=>cases h
    |false=>rfl
  · have:=ConcN.Mode.opn (j:=j) (D:=D) (tag:=.sp 0 5) trivial (λi _=>.inr (.inr (.inr rfl))) (by simp)
    rw[hV] at this;simpa [pend] using this
end
def cR (p:bA):Frame:={ (default:b6) with fn:=p.L.size,defers:=[],mode:=.panicking [lA] }
def lb {p:bA} {f:br} {fn:dn} (hf:p.L[f]?=bh fn) (hname:(fn.name == "runtime.NumGoroutine")=E) {c:s7} (hb:fn.body=bh c) (cc:Array cf) (W:bk) :
  fz p E (born p ⟨.fn (.func f) cc,#[]⟩) W=.go (bo (bn p f cc .L) [cR p]) W #[]:=by
 have h1:¬fn.name = "runtime.NumGoroutine":=by simpa using hname
 simp[born,fz,unwind,callDeferred,invoke,r4,hf,h1,hb,GStep.after,oK,cR,bo]
def rx {p:bA}{C:b6}{fn:dn}(hf:p.L[C.fn]?=bh fn)(hr:fn.results=#[])(hm:C.mode=.returning)(hd:C.defers=[])(hk:C.kind=.L):kq p 2 0 (bo C [cR p]):=by
 refine .inr ⟨rfl,bo (cR p) [],#[],by simp,λw=>?_,.inr ⟨rfl,{ frame:=cR p,callers:=[],status:=.finished,dying:=df },#[],by simp,λw=>?_,⟨rfl,rfl⟩⟩⟩
 .obtain⟨a1,a2,a3,a4,a5,a6,a7⟩:=C;dsimp only at hf hm hd hk;subst hm hd hk;simp[bo,fz,unwind,hf,results_none hr,events_results_none hr,doReturn,cR,lA,GStep.after,oK]
 .simp[bo,fz,unwind,cR,lA,Frame.catches];rfl
def vT {p:bA}{m:Bool}{b:b6}{a:Act}{ops:Array mb}{i:Nat}{rest:List Nat}{o:mb}{k:List qb}{cs:List b6}{w:bk}{f:br}{cc:Array cf}{t:Tmp}(ho:ops[i]?=bh o)(hop:o.op=.go { callee:=.value (.tmp t),args:=#[],argTypes:=#[] })(hd:o.dst=df)
  (hw:Region.wanted o (yielded ops a.tmps)=bq) (hk:b.kind≠.early) (ht:a.eval (.tmp t)=.func (.func f) #[] cc) :
  fz p m (bo (b.at a (.inRegion ops (i::rest)::k)) cs) w=.spawn (bo (b.at a (.inRegion ops rest::k)) cs) (born p ⟨.fn (.func f) cc,#[]⟩) w #[]:=by
 have h1:(s8 a.eval o).run p w=.ok (.spawn ⟨.fn (.func f) cc,#[]⟩) w:=by simp[s8,resolve,hop,ht,Deferred.ofValue]
 have h2:(s8 a.eval o).events p w #[]=#[]:=by simp[s8,resolve,hop,ht,Deferred.ofValue]
 rw[stepG_spawn ho hw hk h1 rfl];have h3:listed p b.fn a o w=#[]:=by unfold listed;rw[h2];exact oK _ _
 have h4:a.put o.dst undef=a:=by rw[hd];rfl
 rw[h3,h4]
section
variable {P:Er} {SB BB:br->Bool} {zZ:Bool} {Gn:Nat} {Wg:Nat} {zN:Nat->Prop}
structure Lk (P:Er)(SB BB:br->Bool)(zZ:Bool)(x:Lone)(G:J)(b:b6)(a:Act)(ops:Array mb)(i:Nat)(k:List qb)(f:br)(cc:Array cf)(t:Tmp)(fn:dn)(c:s7):Prop where
 g:x.g=bo (b.at a (.inRegion ops [i]::k)) [bad]
 bb:BB b.fn=bq
 op:∃o,ops[i]?=bh o/\o.op=.go { callee:=.value (.tmp t),args:=#[],argTypes:=#[] }/\o.dst=df/\o.guard=df
 ke:b.kind≠.early
 ht:a.eval (.tmp t)=.func (.func f) #[] cc
 hf:P.a.L[f]?=bh fn/\P.b.L[f]?=bh fn/\(fn.name == "runtime.NumGoroutine")=E/\fn.body=bh c
 sb:SB f=bq
def nS {o:mb}(h:o.guard=df)(y:Nat->Option Bool):Region.wanted o y=true:=by
 unfold Region.wanted;rw[h]
def KI {x:Lone}{G:J}{W:bk}{b:b6}{a:Act}{ops:Array mb}{i:Nat}{k:List qb}{f:br}{cc:Array cf}{t:Tmp}{fn:dn}{c:s7}(h:Lk P SB BB zZ x G b a ops i k f cc t fn c)
  (hg:Fe P SB BB zZ x G) :
  ∃G' CC,fz P.b bq G W=.spawn G' (born P.b ⟨.fn (.func f) CC,#[]⟩) W #[]/\Fe P SB BB zZ { x with g:=bo (b.at a (.inRegion ops []::k)) [bad] } G'/\D6 (SP SB x.H) x.β cc CC:=by
 obtain⟨o,o1,o2,o3,o4⟩:=h.op;have a7:=hg.top.IZ (by rw[h.g];exact h.bb);have zW:=hg.callers;rw[h.g] at a7 zW;have zR:Ej P.a SB x.H zZ x.β (b.at a (.inRegion ops [i]::k)) G.L:=a7;obtain⟨B,A,N8,i2,M3,K2,a6⟩:=JR zR ⟨rfl,rfl,ops,i,[],k,rfl⟩;have aA:=zR.todo;rw[a6] at aA;have aB:N8=ops/\i2::M3=[i]:=by
  cases aA with
  |cons hi _=>cases hi;exact⟨rfl,rfl⟩
 obtain⟨rfl,e2⟩:=aB;simp only[List.cons.injEq] at e2;obtain⟨rfl,rfl⟩:=e2;have a8:DX (SP SB x.H) x.β (a.eval (.tmp t)) (A.eval (.tmp t)):=by
  have:=zR.tmps;rw[a6] at this;exact this.LE t (DX.undef _ _)
 rw[h.ht] at a8;have:∃CC,A.eval (.tmp t)=.func (.func f) #[] CC/\D6 (SP SB x.H) x.β cc CC:=by
  generalize A.eval (.tmp t)=V at a8;cases a8 with
  |@func _ F _ X _ CC hF h1 _ h2 a2 =>
   cases hF with
   |func _ =>
    have:X=#[]:=by simpa using h1.LT
    exact⟨CC,by rw[this],h2,a2⟩
 obtain⟨CC,eC,hCC⟩:=this;have hke:B.kind≠.early:=by
  have:=zR.kind;rw[a6] at this;have h2:b.kind=B.kind:=this;rw[<-h2];exact h.ke
 have eG:G=bo G.L G.callers:=ii hg;have fin:=bf zR (v:=undef) (V:=undef) (DX.undef _ _);rw[a6,di,di,o1] at fin;simp only[BD,o3] at fin;refine⟨bo (B.at A (.inRegion N8 []::K2)) G.callers,CC,?_,⟨.on ?_,?_,⟨rfl,rfl⟩,⟨rfl,rfl⟩,⟨rfl,rfl⟩⟩,hCC⟩
 .rw[eG,a6];exact vT o1 o2 o3 (nS o4 _) hke eC
 .exact fin
 .exact zW
def LP (L:∀H,Lib P SB H zZ BB Gn){x:Lone}{G:J}{W:bk}{b:b6}{a:Act}{ops:Array mb}{i:Nat}{k:List qb}{f:br}{cc:Array cf}{t:Tmp}{fn:dn}{c:s7}(h:Lk P SB BB zZ x G b a ops i k f cc t fn c)
  (hg:Fe P SB BB zZ x G) (hw:Gw P SB zZ Gn x W) (a7:x.H.EX=E) (hid:∀b,x.β b Wg->x.H b=bq) (Jc:∀b B,x.β b B->zN B->x.H b=bq) {tp:Bool} {wl:Ef} (a8:∀b B,wl b B->x.β b B)
  {K:Nat->Prop} {w1:bk} (hcut:LC P.a SB zZ x.H x.H K (bo (b.at a (.inRegion ops []::k)) [bad]) x.w w1) (a6:∀b,K b->x.H b=bq\/Ro w1 b) (hcc:D6 (SP SB x.H) (EI K) cc cc) (hK:∀b B,wl b B->K b) :
  ∃G' child,fz P.b bq G W=.spawn G' child W #[] /\
   Split P SB BB zZ Gn Wg zN x G' child W tp tp E ⟨bo (b.at a (.inRegion ops []::k)) [bad],w1,x.H,cut K x.β,x.T⟩ ⟨bo (bn P.a f cc .L) [bad],w1,x.H,cut K x.β,[cR P.b]⟩ wl:=by
 obtain⟨G',CC,e1,e2,e3⟩:=KI h (W:=W) hg;obtain⟨f1,f2,f3,f4⟩:=h.hf;have hwc:=mu hcut hw
 refine⟨G',_,e1,?_,hwc,a7,⟨rfl,bo (bn P.b f CC .L) [cR P.b],λW=>lb f2 f3 f4 CC W,⟨E4 (L x.H) (.inl h.sb) (e3.cut hcut.bl hcc) .L (by decide),.base,⟨rfl,rfl⟩,⟨rfl,rfl⟩,⟨rfl,rfl⟩⟩⟩,hwc,a7,λb B h=>⟨hK b B h,a8 b B h⟩,
  λb B hb=>⟨b,hb.2,λhh=>⟨hh,λ_=>(a6 b hb.1).L (by rw[hh];simp)⟩⟩,λb B hb=>.inl ⟨b,hb.2,λhh=>⟨hh,λ_=>(a6 b hb.1).L (by rw[hh];simp)⟩⟩,λb hb=>hid b hb.2,λb hb=>hid b hb.2,λb B hb=>Jc b B hb.2,λ_ b B hb=>Jc b B hb.2,?_,⟨λe=>(by cases e),λ_=>rfl⟩⟩
 .exact mt (g:=bo (b.at a (.inRegion ops []::k)) [bad]) h.bb hcut e2
 .intro b1 b2 B h1 h2;have:b1=b2:=hw.Fl.inj h1.2 h2.2;subst this;obtain e|e:=a6 b1 h1.1
  .exact .inl e
  .exact .inr (.inr ⟨e,e⟩)
def vU (K:Nat->Prop)(β:Ef):cut K (cut K β)=cut K β:=by
 funext b B;exact propext ⟨λh=>h.2,λh=>⟨h.1,h⟩⟩
def Df (H:Hid)(tl:Nat->Bool):Hid:=⟨λb=>H.at_ b&&!tl b,E,bq⟩
def LQ (L:∀H,Lib P SB H zZ BB Gn){x:Lone}{G:J}{W:bk}{b:b6}{a:Act}{ops:Array mb}{i:Nat}{k:List qb}{f:br}{cc:Array cf}{t:Tmp}{fn:dn}{c:s7}(h:Lk P SB BB zZ x G b a ops i k f cc t fn c)
  (hg:Fe P SB BB zZ x G) (hw:Gw P SB zZ Gn x W) (a8:x.H.EX=E) (hid:∀b,x.β b Wg->x.H b=bq) (Jc:∀b B,x.β b B->zN B->x.H b=bq) {wl:Ef} (aC:∀b B,wl b B->x.β b B)
  {K:Nat->Prop} {w1 wk:bk} (hcut:LC P.a SB zZ x.H x.H K (bo (b.at a (.inRegion ops []::k)) [bad]) x.w w1) (a6:∀b,K b->x.H b=bq\/Ro w1 b) (hK:∀b B,wl b B->K b)
  {tl:Nat->Bool} (hcc:D6 (SP SB (Df x.H tl)) (EI K) cc cc) (aA:∀b B,x.β b B->tl b=bq->zN B) (aB:∀b,tl b=bq->x.H b=bq) (aD:¬zN Wg)
  (zx:w1.heap.size<=wk.heap.size/\wk.os=w1.os) (hold:∀b,K b->tl b=E->wk.heap[b]?=w1.heap[b]?) (aF:∀b o,K b->x.H b=E->w1.heap[b]?=bh o->EP (SP SB (Df x.H tl)) (CK P.a SB zZ) (EI K) o o)
  (a7:∀b B,K b->tl b=bq->x.β b B->∃o O,wk.heap[b]?=bh o/\W.heap[B]?=bh O/\EP (SP SB (Df x.H tl)) (CK P.a SB zZ) (cut K x.β) o O) (zY:∀b,x.H b=bq->b<wk.heap.size) :
  ∃G' child,fz P.b bq G W=.spawn G' child W #[] /\
   Split P SB BB zZ Gn Wg zN x G' child W bq E bq ⟨bo (b.at a (.inRegion ops []::k)) [bad],w1,x.H,cut K x.β,x.T⟩ ⟨bo (bn P.a f cc .L) [bad],wk,Df x.H tl,cut K x.β,[cR P.b]⟩ wl:=by
 obtain⟨G',CC,e1,e2,e3⟩:=KI h (W:=W) hg;obtain⟨f1,f2,f3,f4⟩:=h.hf;have hwc:=mu hcut hw;have hH:∀b,(Df x.H tl) b=bq↔x.H b=bq/\tl b=false:=λb=>by simp[Df]
 have hHf:∀b,(Df x.H tl) b=E->x.H b=E\/tl b=true:=λb hb=>by
  simp only[Df,Bool.and_eq_false_iff,Ch] at hb;exact hb
 have hRk:∀b,K b->tl b=E->Ro w1 b->Ro wk b:=λb hk ht ⟨c,t,z,h1,h2⟩=>⟨c,t,z,(hold b hk ht).trans h1,h2⟩;have hwk:EA (SP SB (Df x.H tl)) (CK P.a SB zZ) Gn (cut K x.β) wk W:=by
  refine⟨hwc.Fl,⟨AX hwc.room.1 zx.1,hwc.room.2⟩,λb B hb hh=>?_,λb B hb hh=>?_,λb hh=>zY b ((hH b).1 hh).1,by rw[zx.2];exact hwc.env⟩
  .cases ht:tl b with
   |true=>exact a7 b B hb.1 ht hb.2
   |false =>
    have hx:x.H b=false:=(hHf b hh).resolve_right (by rw[ht];simp);obtain⟨o,O,q1,q2,q3⟩:=hwc.FD b B hb hx;refine⟨o,O,(hold b hb.1 ht).trans q1,q2,?_⟩;have:=q3.cut rfl (aF b o hb.1 hx q1);rw[vU] at this;exact this
  .obtain⟨q1,q2⟩:=(hH b).1 hh;obtain⟨r1,r2,_⟩:=hwc.FU b B hb q1;exact⟨(hold b hb.1 q2).trans r1,λ_=>r2 a8,λe=>by cases e⟩
 refine⟨G',_,e1,?_,hwc,a8,⟨rfl,bo (bn P.b f CC .L) [cR P.b],λW=>lb f2 f3 f4 CC W,⟨E4 (L (Df x.H tl)) (.inl h.sb) (e3.cut rfl hcc) .L (by decide),.base,⟨rfl,rfl⟩,⟨rfl,rfl⟩,⟨rfl,rfl⟩⟩⟩,hwk,rfl,λb B h=>⟨hK b B h,aC b B h⟩,
  λb B hb=>⟨b,hb.2,λhh=>⟨hh,λ_=>(a6 b hb.1).L (by rw[hh];simp)⟩⟩,λb B hb=>?_,λb hb=>hid b hb.2,λb hb=>(hH b).2 ⟨hid b hb.2,?_⟩,λb B hb=>Jc b B hb.2,λe=>(by cases e),?_,⟨λ_=>⟨rfl,rfl⟩,λe=>(by cases e)⟩⟩
 .exact mt (g:=bo (b.at a (.inRegion ops []::k)) [bad]) h.bb hcut e2
 .cases ht:tl b with
  |true=>exact .inr ⟨rfl,aA b B hb.2 ht⟩
  |false =>
   refine .inl ⟨b,hb.2,λhh=>?_⟩;have hx:x.H b=false:=(hHf b hh).resolve_right (by rw[ht];simp);exact⟨hx,λ_=>hRk b hb.1 ht ((a6 b hb.1).L (by rw[hx];simp))⟩
 .cases ht:tl b with
  |false=>rfl
  |true=>exact AH (aA b Wg hb.2 ht) aD
 .intro b1 b2 B h1 h2;have:b1=b2:=hw.Fl.inj h1.2 h2.2;subst this;obtain e|e:=a6 b1 h1.1
  .exact .inl e
  .cases ht:tl b1 with
   |true=>exact .inl (aB b1 ht)
   |false=>exact .inr (.inr ⟨e,hRk b1 h1.1 ht e⟩)
end
abbrev E5 (SB:br->Bool)(H:Hid)(K:Nat->Prop)(v:cf):Prop:=DX (SP SB H) (EI K) v v
def E9 {SB:br->Bool}{H:Hid}{K:Nat->Prop}{l:List cf}(h:∀v∈l,E5 SB H K v):D6 (SP SB H) (EI K) l.Li l.Li :=
 ⟨rfl,λi v V h1 h2=>by
  rw[h1] at h2;cases h2
  exact h v (Cc (by simpa using h1))⟩
def E5.LT {SB:br->Bool}{H:Hid}{K K':Nat->Prop}{v:cf}(h:E5 SB H K v)(hk:∀b,K b->K' b):E5 SB H K' v :=
 DX.LT (λb B hb=>⟨hk b hb.1,hb.2⟩) h
def E5.ptr {SB:br->Bool}{H:Hid}{K:Nat->Prop}{b:Nat}(hb:K b)(o:Nat)(s:Option Nat):E5 SB H K (.S (bh ⟨b,o,s⟩)):=DX.ptr o s ⟨hb,rfl⟩
def E5.slice {SB:br->Bool}{H:Hid}{K:Nat->Prop}{b:Nat}(hb:K b)(o:Nat)(s:Option Nat)(l c:Nat):E5 SB H K (.slice (bh ⟨b,o,s⟩) l c):=DX.slice o s l c ⟨hb,rfl⟩
def E5.undef {SB:br->Bool}{H:Hid}{K:Nat->Prop}:E5 SB H K undef:=DX.undef _ _
def E5.agg {SB:br->Bool}{H:Hid}{K:Nat->Prop}{l:List cf}(h:∀v∈l,E5 SB H K v):E5 SB H K (.agg l.Li):=DX.agg rfl (E9 h).at_
def E5.func {SB:br->Bool}{H:Hid}{K:Nat->Prop}{f:br}(hf:SB f=bq){l:List cf}(h:∀v∈l,E5 SB H K v):E5 SB H K (.func (.func f) #[] l.Li):=DX.func (IA.func (.inl hf)) rfl (λi v V h1=>by simp at h1) rfl (E9 h).at_
def froze (w:bk)(r:Nat):World:=match w.heap[r]? with
 |some (.cells c t _)=>{ w with heap:=w.heap.L r (.cells c t (0,c.size)) }
 |_=>w
def cS (w:bk)(r:Nat):(froze w r).heap.size=w.heap.size:=by
 unfold froze;split<;>simp
def gj (w:bk)(r:Nat):(froze w r).os=w.os:=by
 unfold froze;split<;>rfl
def fg (w:bk){r b:Nat}(h:b≠r):(froze w r).heap[b]?=w.heap[b]?:=by
 unfold froze;split
 .exact AV (Ne.symm h)
 .rfl
def dm {w:bk}{r:Nat}{c:Array cf}{t:gB}{f:Nat×Nat}(h:w.heap[r]?=bh (.cells c t f)):(froze w r).heap[r]?=bh (.cells c t (0,c.size)):=by
 unfold froze;rw[h];exact BG (AC.1 h).1
def Ext (w w':bk):Prop:=w.heap.size<=w'.heap.size/\(∀b,b<w.heap.size->w'.heap[b]?=w.heap[b]?)/\w'.os=w.os
def Ext.trans {a b c:bk}(h:Ext a b)(k:Ext b c):Ext a c:=⟨AX h.1 k.1,λx hx=>(k.2.1 x (AI hx h.1)).trans (h.2.1 x hx),k.2.2.trans h.2.2⟩
def Ext.Li (w:bk)(o:Obj):Ext w (w.Li o):=⟨by
 have:(w.Li o).heap.size=w.heap.size+1:=l5 _;omega,λb hb=>by
 have:(w.Li o).heap[b]?=if b=w.heap.size then bh o else w.heap[b]?:=Ce ..
 rw[this,AE (C9 hb)],rfl⟩
def Ext.same {a b:bk}(h:Ek a b):Ext a b:=⟨by rw[h.1];exact AD _,λ_ _=>by rw[h.1],h.2.1⟩
section
variable {P:bA} {zO:Nat->Prop}
def I9.awake {gs:Array J}{W:bk}{t:cA}{q:Nat->Nat}(hb:I9 P zO gs W t q){a:J}(h0:gs[0]?=bh a)(zA:a.status=.L):∀g∈gs,n5 g:=by
 intro g hg;obtain⟨i,hi,rfl⟩:=cK.1 hg;obtain rfl|a6:=BJ i
 .have:gs[0]=a:=by simpa [AL hi] using h0
  rw[this];exact gg (.inl zA)
 .exact gg ((hb.lv.old i _ a6 (AL hi)).status.elim .inl λx=>.inr (.inr x))
end
section
variable {P:Er} {SB BB:br->Bool} {zZ:Bool} {Gn:Nat} {zO:Nat->Prop} {Kp:Ib}
def K6 {gs:Array J}{W:bk}{t:cA}{q:Nat->Nat}{sl:Option (Nat×Nat)}{a:J}(hb:I9 P.b zO gs W t q)(h0:gs[0]?=bh a)(zA:a.status=.L) :
  ∃N m1 t1,runNT P.b N (b9 gs W sl) t=(.next m1,t1)/\∃a6 d a7 q1,stepT P.b m1=runT P.b (b9 a6 (W.at d) a7) 0/\a6[0]?=bh a/\a6.size=gs.size/\I9 P.b zO a6 (W.at d) t1 q1:=by
 refine jM (P:=P.b) (r:=(·<·:Nat->Nat->Prop)) Nat.lt_wfRel.wf (λn m t=>∃a6 d a7 q1,m=b9 a6 (W.at d) a7/\a6[0]?=bh a/\a6.size=gs.size/\I9 P.b zO a6 (W.at d) t q1/\n=sumTo gs.size q1)
  (λm1 t1=>∃a6 d a7 q1,stepT P.b m1=runT P.b (b9 a6 (W.at d) a7) 0/\a6[0]?=bh a/\a6.size=gs.size/\I9 P.b zO a6 (W.at d) t1 q1) ?_ (sumTo gs.size q) (b9 gs W sl) t ⟨gs,W.drawn,sl,q,rfl,h0,rfl,hb,rfl⟩
 rintro n m t ⟨a6,d,a7,q1,rfl,a8,hs1,hb1,rfl⟩;obtain⟨i,g,d',sl',hi,hg,zG⟩:=hZ (P:=P.b) (w:=W.at d) (sl:=a7) (hb1.awake a8 zA) ⟨0,a,a8,zA⟩;obtain rfl|aA:=BJ i
 .exact .inl ⟨a6,d',sl',q1,zG,a8,hs1,hb1.at d'⟩
 .obtain⟨gs',t',q',k1,k2,k3,k4,k5⟩:=(hb1.at d').slip aA hi hg a8 zA sl';exact .inr ⟨_,_,sumTo gs.size q',by rw[zG,k1];rfl,by rw[<-hs1];exact k4,gs',d',sl',q',rfl,k3,k2.trans hs1,k5,rfl⟩
def I9.QW {gs:Array J}{W W':bk}{t:cA}{q:Nat->Nat}{sl:Option (Nat×Nat)}{a a':J}(hb:I9 P.b zO gs W t q)(h0:gs[0]?=bh a)(zK:fz P.b bq a W=.go a' W' #[]) :
  ∃gs',runT P.b (b9 gs W sl) 0=(.next (b9 gs' W' sl),#[])/\gs'.size=gs.size/\gs'[0]?=bh a'/\l8 P.b t gs' q:=by
 have zY:0<gs.size:=(AC.1 h0).1;have hr:=cu (P:=P.b) (sl:=sl) (i:=0) h0 (by simpa using zK);have e0:bW 0 a.L.fn a.L.L #[]=#[]:=by rw[lx];simp
 rw[e0] at hr;refine⟨_,hr,by simp,by simp[zY],λj y hj hy=>?_,λj hj=>hb.lv.above j (by simpa using hj)⟩;have zU:0≠j:=by omega
 rw[AV zU,BF] at hy;obtain⟨z,hz,rfl⟩:=Bl.1 hy;have a6:=hb.lv.old j z hj hz;rw[cF a6];exact a6
end
def more (β:Ef)(b B:Nat):Ef:=λx y=>β x y\/(x=b/\y=B)
def oL (β:Ef)(b B:Nat):β.le (more β b B):=λ_ _ h=>.inl h
section
variable {P:Er} {SB BB:br->Bool} {zZ:Bool} {Gn:Nat} {H:Hid} {β:Ef} {w W:bk}
def rB {Ck:s7->Prop}(h:EA (SP SB H) Ck Gn β w W){b:Nat}(hb:∀B,¬β b B)(hH:H b=bq)(a7:H.EX=E)(hw:w.heap[b]?=bh (.coro df))(hG:Gn<=b){c:Array cf}{ty:gB}{f:Nat×Nat} :
  EA (SP SB H) Ck Gn (more β b W.heap.size) w (W.Li (.cells c ty f)):=by
 have zY:∀x y,β x y->y<W.heap.size:=λx y a6=>by
  cases e:H x with
  |false=>obtain⟨o,O,_,h2,_⟩:=h.FD x y a6 e;exact(AC.1 h2).1
  |true=>obtain⟨_,h2,_⟩:=h.FU x y a6 e;obtain⟨c,t,f,h3⟩:=h2 a7;exact(AC.1 h3).1
 have get:∀y,(W.Li (.cells c ty f)).heap[y]?=if y=W.heap.size then bh (.cells c ty f) else W.heap[y]?:=λy=>Ce ..
 have size:(W.Li (.cells c ty f)).heap.size=W.heap.size+1:=l5 _;refine⟨⟨?_,?_,?_⟩,⟨h.room.1,by rw[size];exact CI h.room.2⟩,λx y a6 hh=>?_,λx y a6 hh=>?_,h.old,h.env⟩
 .rintro x y y' (h1|⟨rfl,rfl⟩) (h2|⟨h2,rfl⟩)
  .exact h.Fl.fn h1 h2
  .subst h2;exact AH h1 (hb _)
  .exact AH h2 (hb _)
  .rfl
 .rintro x x' y (h1|⟨rfl,rfl⟩) (h2|⟨rfl,h2⟩)
  .exact h.Fl.inj h1 h2
  .have:=zY _ _ h1;omega
  .have:=zY _ _ h2;omega
  .rfl
 .rintro x y (h1|⟨rfl,rfl⟩)
  .exact h.Fl.lo h1
  .exact⟨hG,h.room.2⟩
 .obtain a6|⟨rfl,rfl⟩:=a6
  .obtain⟨o,O,h1,h2,h3⟩:=h.FD x y a6 hh;exact⟨o,O,h1,by rw[get,AE (C9 (zY x y a6))];exact h2,h3.LT (oL _ _ _)⟩
  .have a8:H x=false:=hh;rw[hH] at a8;cases a8
 .obtain a6|⟨rfl,rfl⟩:=a6
  .obtain⟨h1,h2,h3⟩:=h.FU x y a6 hh;exact⟨h1,λe=>by rw[get,AE (C9 (zY x y a6))];exact h2 e,λe=>by rw[get,AE (C9 (zY x y a6))];exact h3 e⟩
  .exact⟨hw,λ_=>⟨c,ty,f,by rw[get,AJ rfl]⟩,λe=>by have e':H.EX=true:=e;rw[a7] at e';cases e'⟩
end
section
variable {P:Er} {SB BB:br->Bool} {zZ:Bool} {Gn:Nat} {H:Hid} {T:List b6} {β:Ef}
def LS {f:br}{fa fb:dn}{c:s7}(h1:P.a.L[f]?=bh fa)(h2:P.b.L[f]?=bh fb)(h3:fa.body=bh c)(h4:codeOk P.a SB zZ bq c=E)(hn:fb.ntmps=fa.ntmps)
  {args:Array cf} (zx:args.size<=fa.ntmps) {k:CallKind} {F:b6} (h:Ga P SB H zZ BB β (bn P.a f args k) F):∃ARGS,F=bn P.b f ARGS k/\D6 (SP SB H) β args ARGS:=by
 generalize hF:bn P.a f args k=fr at h;cases h with
 |on h =>
  exfalso;have ht:=h.todo;rw[<-hF] at ht;simp only[bn,h1,h3,BD,AS] at ht;generalize F.todo=X at ht;cases ht with
  |cons hi _ =>
   cases hi with
   |code hc =>
    simp only[j3] at hc;rw[h4] at hc;cases hc
 |@stop f' a A k' _ _ _ ha =>
  have e1:f=f':=AZ uA hF;have e2:k=k':=AZ sw hF;subst e1 e2;have e3:args++U (fa.ntmps-args.size) undef=a++U (fa.ntmps-a.size) undef:=by
   have:=AZ sF hF;simpa [bn,h1] using this
  have hs:=AZ sS e3;simp only[kn,fx] at hs;have hA:=ha.size;have all:D6 (SP SB H) β (args++U (fa.ntmps-args.size) undef) (A++U (fa.ntmps-A.size) undef):=by
   rw[e3,<-hA];exact ha.append (D6.replicate (DX.undef _ _) _)
  refine⟨(A++U (fa.ntmps-A.size) undef).extract 0 args.size,?_,?_⟩
  .have e4 : A ++ U (fa.ntmps - A.size) undef = (A ++ U (fa.ntmps - A.size) undef).extract 0 args.size ++ U (fa.ntmps - ((A ++ U (fa.ntmps - A.size) undef).extract 0 args.size).size) undef := by
    have zk:((A++U (fa.ntmps-A.size) undef).extract 0 args.size).size=args.size:=by simp;omega
    rw[zk];generalize hX:A++U (fa.ntmps-A.size) undef=X at all zk ⊢;have hXs:X.size=fa.ntmps:=by rw[<-hX];simp;omega
    apply Array.ext (by simp;omega);intro i i1 i2;by_cases hi:i<args.size
    .rw[Array.getElem_append_left (by rw[zk];exact hi)];simp
    .rw[Array.getElem_append_right (by rw[zk];omega)];simp only[Array.getElem_replicate];have:=all.at_ i undef X[i] (by rw[Array.getElem?_append_right (by omega),By,AJ (by omega)]) (AL i1);exact OZ.undef _ this
   simp only[bn,h2,BT,AS,hn];rw[<-e4]
  .have:=all.extract 0 args.size;have e5:(args++U (fa.ntmps-args.size) undef).extract 0 args.size=args:=by simp
   rwa [e5] at this
def rE {S:Fu}{Ck:s7->Prop}{w w1 W:bk}(h:EA S Ck Gn β w W)(hs:w1.heap.size=w.heap.size)(ho:w1.os=w.os)
  (hb:∀b:Nat,w1.heap[b]?=w.heap[b]?\/∃(c:Array cf) (t:gB) (f f1:Nat×Nat),w.heap[b]?=bh (.cells c t f)/\w1.heap[b]?=bh (.cells c t f1)/\∀i,f.1<=i->i<f.2->f1.1<=i/\i<f1.2):EA S Ck Gn β w1 W:=by
 refine⟨h.Fl,by rw[hs];exact h.room,λb B a6 hh=>?_,λb B a6 hh=>?_,λb hh=>by rw[hs];exact h.old b hh,by rw[ho];exact h.env⟩
 .obtain⟨o,O,e1,e2,e3⟩:=h.FD b B a6 hh;obtain e|⟨c,t,f,f1,q1,q2,q3⟩:=hb b
  .exact⟨o,O,e.trans e1,e2,e3⟩
  .rw[q1] at e1;cases e1;exact⟨_,O,q2,e2,EP.QG e3 q3⟩
 .obtain⟨e1,e2,e3⟩:=h.FU b B a6 hh;obtain e|⟨c,t,f,f1,q1,q2,q3⟩:=hb b
  .exact⟨e.trans e1,e2,e3⟩
  .rw[q1] at e1;cases e1
end
def cT {P:bA}{K:Nat}{m1:gU}{t1:cA}:∀ {N:Nat} {m:gU} {t:cA},runNT P N m t=(.next m1,t1)->runNT P (N+K) m t=runNT P K m1 t1:=by
 intro N
 induction N with
 |zero=>intro m t h;simp only[runNT,Prod.mk.injEq,Stepped.next.injEq] at h;obtain⟨rfl,rfl⟩:=h;rw[AU]
 |succ N ih =>
  intro m t h;rw[show N+1+K=(N+K)+1 by omega];have e : ∀ n, runNT P (n + 1) m t = match stepT P m with
    |(.next m,ops)=>runNT P n m (t++ops)
    |(e,ops)=>(e,t++ops):=λ_=>rfl
  rw[e] at h ⊢;rcases hs:stepT P m with⟨s,ops⟩
  rw[hs] at h;cases s with
  |next m'=>exact ih h
  |ended o w=>simp at h
def oN {P:bA}{m m':gU}{t:cA}{ops:Array s9}(h:stepT P m=(.next m',ops)):runNT P 1 m t=(.next m',t++ops):=by
 unfold runNT;rw[h];rfl
structure H6 (Shun:Loc->Prop)(B d:Nat)(t:cA):Prop where
 calm:∀said,¬Race said t
 knows:∀i x,touchAt t i=bh x->x.loc.isMemory=bq->Knows t 0 i\/(Shun x.loc/\x.kind=.atomic)
 handed:t.HandedOver
 Lo:Deaf t 0=d
 Ly:∀op∈t,op.act.Li B
section
variable {Shun:Loc->Prop} {B B' d d':Nat} {t u:cA}
def H6.of (h:Past Shun B t):H6 Shun B 0 t:=⟨h.clean,h.known,h.over,h.hears,h.seen⟩
def H6.past (h:H6 Shun B 0 t):Past Shun B t:=⟨h.calm,h.knows,h.handed,h.Lo,h.Ly⟩
def H6.LT (h:H6 Shun B d t)(hB:B<=B'):H6 Shun B' d t:=⟨h.calm,h.knows,h.handed,h.Lo,λop hop=>l4 hB (h.Ly op hop)⟩
def M6 {t u:cA}(ht:∀op∈t,op.act.Li B)(hu:∀op∈u,op.act.Li B):∀op∈t++u,op.act.Li B:=λop hop=>(Array.mem_append.1 hop).elim (ht op) (hu op)
def H6.LE (h:H6 Shun B d t){fn:br}{pos:String}{es:Array rA}(hes:∀e∈es,(∀x,(bw e).L=bh x->Shun x.loc->x.kind≠.plain)/\(bw e).Li B)(hd:nx d es=d'):H6 Shun B d' (t++bW 0 fn pos es):=by
 have hg:∀op∈bW 0 fn pos es,op.g=0:=λop hop=>by obtain⟨e,_,rfl⟩:=bc hop;rfl
 refine⟨λsaid=>noRace_append (h.calm said) hg λi x hx op hop y hy hc=>?_,λi x hx hm=>?_,nA h.handed λop hop=>.inl (hg op hop),by rw[rb,h.Lo];exact hd,M6 h.Ly λop hop=>by obtain⟨e,he,rfl⟩:=bc hop;exact(hes e he).2⟩
 .obtain⟨e,he,rfl⟩:=bc hop;obtain hk|⟨s1,s2⟩:=h.knows i x hx hc.2.1
  .exact hk
  .exfalso;have np:=(hes e he).1 y hy (hc.1▸s1);obtain⟨_,_,_,a6⟩:=hc;rw[s2] at a6;obtain z|z|⟨_,z,_⟩:=a6
   .cases z
   .exact np z
   .cases z
 .obtain⟨z,hz,a7⟩:=rK hx;obtain⟨_,hz'⟩|⟨_,a8⟩:=bD hz
  .exact(h.knows i x (by rw[nt hz'];exact a7) hm).imp (·.app _) id
  .have:=knows_own hz;rw[hg z a8] at this;exact .inl this
def H6.mute (h:H6 Shun B d t){g:Nat}(hg:g≠0){fn:br}{pos:String}{es:Array rA}(hm:∀e∈es,e.mute=bq):H6 Shun B d (t++bW g fn pos es):=by
 have hu:∀op∈bW g fn pos es,op.g=g/\op.act.L=df/\op.act.Li B:=λop hop=>by
  obtain⟨e,he,rfl⟩:=bc hop;exact⟨rfl,nh (hm e he),low_mute (hm e he) B⟩
 refine⟨λsaid=>noRace_append (h.calm said) (λop hop=>(hu op hop).1) λi x _ op hop y hy _=>(by rw[(hu op hop).2.1] at hy;cases hy),λi x hx a7=>?_,nA h.handed λop hop=>.inr (hu op hop).2.1,(b7 t hg _ λop hop=>(hu op hop).1).trans h.Lo,M6 h.Ly λop hop=>(hu op hop).2.2⟩;obtain⟨z,hz,a6⟩:=rK hx;obtain⟨_,hz'⟩|⟨_,a8⟩:=bD hz
 .exact(h.knows i x (by rw[nt hz'];exact a6) a7).imp (·.app _) id
 .rw[(hu z a8).2.1] at a6;cases a6
end
structure Ir (P:bA)(zO:Nat->Prop)(d:Nat)(gs:Array J)(W:bk)(t:cA)(q:Nat->Nat):Prop where
 lv:l8 P t gs q
 past:H6 (Jk zO) W.heap.size d t
 quiet:Quiet (Jk zO) t
 N7:∀(i:Nat) (op:s9),t[i]?=bh op->op.g<gs.size
 Li:∀B,zO B->B<W.heap.size
def Ir.of {P:bA}{zO:Nat->Prop}{gs:Array J}{W:bk}{t:cA}{q:Nat->Nat}(h:I9 P zO gs W t q):Ir P zO 0 gs W t q:=⟨h.lv,.of h.past,h.quiet,h.N7,h.Li⟩
def Ir.Re {P:bA}{zO:Nat->Prop}{gs:Array J}{W:bk}{t:cA}{q:Nat->Nat}(h:Ir P zO 0 gs W t q):I9 P zO gs W t q:=⟨h.lv,h.past.past,h.quiet,h.N7,h.Li⟩
section
variable {P:Er} {SB BB:br->Bool} {zZ:Bool} {Gn:Nat} {zO:Nat->Prop} {Kp:Ib} {dd:Nat}
def Ir.at {gs:Array J}{W:bk}{t:cA}{q:Nat->Nat}(h:Ir P.b zO dd gs W t q)(d:Nat):Ir P.b zO dd gs (W.at d) t q:=⟨h.lv,h.past,h.quiet,h.N7,h.Li⟩
def Ir.slip {gs:Array J}{W:bk}{t:cA}{q:Nat->Nat}(h:Ir P.b zO dd gs W t q){i:Nat}{g a:J}(aC:0<i)(hi:gs[i]?=bh g)(zA:g.status=.L)(h0:gs[0]?=bh a)(ha:a.status=.L)(sl:Option (Nat×Nat)) :
  ∃gs' t' q',runT P.b (b9 gs W sl) i=(.next (b9 gs' W sl),t')/\gs'.size=gs.size/\gs'[0]?=bh a/\sumTo gs.size q'<sumTo gs.size q/\Ir P.b zO dd gs' W (t++t') q':=by
 have hq:=h.lv.old i g aC hi;have aH:(i==0)=false:=by simp;omega
 have zY:i<gs.size:=(AC.1 hi).1;cases a7:q i with
 |zero=>rw[a7] at hq;rw[hq.1] at zA;cases zA
 |succ k =>
  rw[a7] at hq;obtain⟨hf,_⟩|⟨_,g',es,hm,aD,hq'⟩:=hq
  .rw[hf] at zA;cases zA
  have aA:=cu (P:=P.b) (sl:=sl) (i:=i) hi (by rw[aH];exact aD W);have aI:sumTo gs.size (upd q i k)+(k+1)=sumTo gs.size q+k:=by
   have:=sumTo_upd q k id zY;simpa [a7] using this
  have a8:∀op∈bW i g.L.fn g.L.L es,op.g=i:=λop hop=>by obtain⟨e,_,rfl⟩:=bc hop;rfl
  refine⟨_,_,upd q i k,aA,by simp,?_,by omega,⟨λj x hj hx=>?_,λj hj=>?_⟩,h.past.mute (by omega) hm,h.quiet.app λop hop x hx hs=>?_,λj op hop=>?_,h.Li⟩
  .have zU:i≠0:=by omega
   rw[AV zU,BF,h0];simp[woken_run ha]
  .by_cases a6:i=j
   .subst a6;rw[BG (by simpa using zY)] at hx;obtain rfl:=eA hx;rw[upd_same,rb];exact hq'
   .rw[AV a6,BF] at hx;obtain⟨y,hy,rfl⟩:=Bl.1 hx;have aB:=h.lv.old j y hj hy;rw[cF aB,upd_ne q k (Ne.symm a6),b7 t a6 _ a8];exact aB
  .rw[b7 t (g':=i) (by simp at hj;omega) _ a8];exact h.lv.above j (by simpa using hj)
  .obtain⟨e,he,rfl⟩:=bc hop;rw[nh (hm e he)] at hx;cases hx
  .obtain⟨_,aF⟩|⟨_,aG⟩:=bD hop
   .simpa using h.N7 j op aF
   .rw[a8 op aG];simpa using zY
def Ir.fin {gs:Array J}{W W':bk}{t:cA}{q:Nat->Nat}(h:Ir P.b zO dd gs W t q){x:Lone}{a g2:J}{DZ:Ef}{w':bk}{ES:Array rA}(a7:x.H.EX=E)(aC:∀b B,x.β b B->zO B->x.H b=bq)
  (h0:gs[0]?=bh a) (e3:fz P.b bq a W=.go g2 W' ES) (f:Hw P SB zZ Gn x W DZ w' W' ES.toList) (sl:Option (Nat×Nat)) :
  ∃gs' t',runT P.b (b9 gs W sl) 0=(.next (b9 gs' W' sl),t')/\gs'.size=gs.size/\gs'[0]?=bh g2/\Ir P.b zO dd gs' W' (t++t') q:=by
 have aF:ES.toList.Li=ES:=by simp
 have a8:=cN f a7;rw[aF] at a8;have aA:=eE f a7 (k:=0) (fn:=a.L.fn) (pos:=a.L.L);rw[aF] at aA;have aB:∀op∈bW 0 a.L.fn a.L.L ES,op.g=0:=λop hop=>by obtain⟨e,_,rfl⟩:=bc hop;rfl
 have old:∀b B,DZ b B->B<W.heap.size->x.β b B:=λb B hb hB=>(f.new b B hb).elim id λh=>AH h.2 (ez.2 hB);have aD:∀b B,DZ b B->zO B->x.H b=true:=λb B hb hd=>aC b B (old b B hb (h.Li B hd)) hd;have a6:∀e∈ES,∀z,(bw e).L=bh z->¬Jk zO z.loc:=by
  intro e he z hz ⟨b,hb,hd⟩;have hE:=f.evs a7 e (by simpa using he);cases hE with
  |@cell a A wr sy hab _ hc _ =>
   have:z.loc=.cell A:=by simp[bw,b5] at hz;subst hz;rfl
   rw[this] at hb;cases hb;obtain⟨n,hn,_⟩:=hc;have:=(f.rel.FU _ _ hab (aD _ _ hab hd)).1;rw[this] at hn;simp[Fo] at hn
  |@obj r R wr sy _ _ =>
   have:z.loc=.obj R:=by cases wr<;>cases sy<;>simp[bw,b5] at hz<;>subst hz<;>rfl
   rw[this] at hb;cases hb
  |mark hm=>cases hm<;>simp[bw,b5] at hz
  |out =>
   have:z.loc=.output:=by simp[bw,b5] at hz;subst hz;rfl
   rw[this] at hb;cases hb
 have zY:0<gs.size:=(AC.1 h0).1
 refine⟨_,_,cu (P:=P.b) (sl:=sl) (i:=0) h0 (by simpa using e3),by simp,by simp[zY],
  ⟨⟨λj y hj hy=>?_,λj hj=>?_⟩,(h.past.LT f.SIZE).LE (λe he=>⟨λz hz hs=>AH hs (a6 e he z hz),?_⟩) (deafBehind_idle (λe he=>⟨(a8 e he).1,(a8 e he).2.1⟩) dd),h.quiet.app λop hop z hz hs=>?_,λj op hop=>?_,λB hB=>AI (h.Li B hB) f.SIZE⟩⟩
 .have zU:0≠j:=by omega
  rw[AV zU,BF] at hy;obtain⟨z,hz,rfl⟩:=Bl.1 hy;have aG:=h.lv.old j z hj hz;rw[cF aG,b7 t (by omega) _ aB];exact aG
 .rw[b7 t (g':=0) (by simp at hj;omega) _ aB];exact h.lv.above j (by simpa using hj)
 .exact aA { g:=0,fn:=a.L.fn,pos:=a.L.L,act:=.ofEvent e } (by rw[lx];exact oo.2 ⟨e,he,rfl⟩)
 .obtain⟨e,he,rfl⟩:=bc hop;exact AH hs (a6 e he z hz)
 .obtain⟨_,aH⟩|⟨_,aI⟩:=bD hop
  .simpa using h.N7 j op aH
  .rw[aB op aI];simpa using zY
def Ir.spec {gs:Array J}{W:bk}{t:cA}{q:Nat->Nat}(h:Ir P.b zO dd gs W t q){a g2:J}{β:Ef}{es ES:Array rA}
  (h0:gs[0]?=bh a) (e3:fz P.b bq a W=.go g2 W ES) (e5:GM β es ES) (e6:∀e∈ES,∀ad,e.loc=.mark (.acquire ad)\/e.loc=.mark (.releaseMerge ad)->ad.Lo<W.heap.size) (sl:Option (Nat×Nat)) :
  ∃gs' t',runT P.b (b9 gs W sl) 0=(.next (b9 gs' W sl),t')/\gs'.size=gs.size/\gs'[0]?=bh g2/\Ir P.b zO (nx dd es) gs' W (t++t') q:=by
 have a6:=e5.mem;have a7:∀op∈bW 0 a.L.fn a.L.L ES,op.g=0:=λop hop=>by obtain⟨e,_,rfl⟩:=bc hop;rfl
 have zY:0<gs.size:=(AC.1 h0).1
 refine⟨_,_,cu (P:=P.b) (sl:=sl) (i:=0) h0 (by simpa using e3),by simp,by simp[zY],
  ⟨⟨λj y hj hy=>?_,λj hj=>?_⟩,h.past.LE (λe he=>⟨λz hz hs=>?_,e5.Li e6 e he⟩) (e5.Lo dd),h.quiet.app λop hop z hz hs=>?_,λj op hop=>?_,h.Li⟩⟩
 .have zU:0≠j:=by omega
  rw[AV zU,BF] at hy;obtain⟨z,hz,rfl⟩:=Bl.1 hy;have a8:=h.lv.old j z hj hz;rw[cF a8,b7 t (by omega) _ a7];exact a8
 .rw[b7 t (g':=0) (by simp at hj;omega) _ a7];exact h.lv.above j (by simpa using hj)
 .rw[(a6 e he).1] at hz;cases hz
 .obtain⟨e,he,rfl⟩:=bc hop;rw[(a6 e he).1] at hz;cases hz
 .obtain⟨_,aA⟩|⟨_,aB⟩:=bD hop
  .simpa using h.N7 j op aA
  .rw[a7 op aB];simpa using zY
def IE (lib:∀H,Lib P SB H zZ BB Gn)(aI:∀(f:br) (fn:dn),P.a.L[f]?=bh fn->fn.body.L=bq->P.fs[f]?=bh fn){H:Hid}{T:List b6}{β:Ef}{Q:J->bk->Prop}(aH:∀g w,Q g w->BB g.L.fn=E\/∃f R,Em.Left P.a f R g w){os:Os}{ou:bk}{n b0 B0:Nat}:∀(μ:Wm×Nat) (m:gU) (t:cA),
  (∃gs W sl q x a d,m=b9 gs W sl/\gs[0]?=bh a/\gs.size=n/\Ir P.b zO d gs W t q/\Tw P SB BB zZ Gn zO Kp x a W/\EL P.a BB Q d x.g x.w/\x.H=H/\x.T=T/\β.le x.β/\(W.os=os/\W.output=ou.output)/\(B0<=W.heap.size/\b0<=x.w.heap.size/\∀b B,x.β b B->β b B\/(b0<=b/\B0<=B))/\μ=(.tree Q (x.g,x.w),sumTo n q)) ->
  ∃N m' t',runNT P.b N m t=(.next m',t')/\∃gs W sl q x a,m'=b9 gs W sl/\gs[0]?=bh a/\gs.size=n/\Ir P.b zO 0 gs W t' q/\Tw P SB BB zZ Gn zO Kp x a W/\Q x.g x.w/\x.H=H/\x.T=T/\β.le x.β/\(W.os=os/\W.output=ou.output)/\(B0<=W.heap.size/\b0<=x.w.heap.size/\∀b B,x.β b B->β b B\/(b0<=b/\B0<=B)):=by
 have wf:WellFounded (Prod.Lex (Kh P.a) (·<·:Nat->Nat->Prop)):=(Prod.lex ⟨_,Kh.wf P.a⟩ qo).wf;refine jM (P:=P.b) wf (λμ m t=>∃gs W sl q x a d,m=b9 gs W sl/\gs[0]?=bh a/\gs.size=n/\Ir P.b zO d gs W t q/\Tw P SB BB zZ Gn zO Kp x a W/\EL P.a BB Q d x.g x.w/\x.H=H/\x.T=T/\β.le x.β/\(W.os=os/\W.output=ou.output)/\(B0<=W.heap.size/\b0<=x.w.heap.size/\∀b B,x.β b B->β b B\/(b0<=b/\B0<=B))/\μ=(.tree Q (x.g,x.w),sumTo n q))
  (λm t=>∃gs W sl q x a,m=b9 gs W sl/\gs[0]?=bh a/\gs.size=n/\Ir P.b zO 0 gs W t q/\Tw P SB BB zZ Gn zO Kp x a W/\Q x.g x.w/\x.H=H/\x.T=T/\β.le x.β/\(W.os=os/\W.output=ou.output)/\(B0<=W.heap.size/\b0<=x.w.heap.size/\∀b B,x.β b B->β b B\/(b0<=b/\B0<=B))) ?_
 rintro μ m t ⟨gs,W,sl,q,x,a,d,rfl,h0,hn,hb,ht,hr,eH,eT,zX,aA,zx,rfl⟩;have aB:=Dj hr;have a8:a.status=.L:=ht.gl.status.2;have aJ:∀g∈gs,awake g:=by
  intro g hg;obtain⟨i,hi,rfl⟩:=cK.1 hg;obtain rfl|aC:=BJ i
  .have:gs[0]=a:=by simpa [AL hi] using h0
   rw[this];exact gg (.inl a8)
  .exact gg ((hb.lv.old i _ aC (AL hi)).status.elim .inl λx=>.inr (.inr x))
 by_cases aD:d=0/\Q x.g x.w
 .obtain⟨rfl,hq⟩:=aD;exact .inl ⟨gs,W,sl,q,x,a,rfl,h0,hn,hb,ht,hq,eH,eT,zX,aA,zx⟩
 refine .inr ?_;obtain⟨i,g,e,sl',hi,hg,zG⟩:=hZ (P:=P.b) (w:=W) (sl:=sl) aJ ⟨0,a,h0,a8⟩;obtain rfl|aC:=BJ i
 .generalize a7:x.g=gx at hr;generalize aF:x.w=wx at hr;cases hr with
  |fin hq=>exact AH ⟨rfl,by rw[a7,aF];exact hq⟩ aD
  |next ng nw f1 f2 f3 =>
   subst a7 aF;have hq:¬Q x.g x.w:=λhq=>by
    obtain h|⟨f,R,h⟩:=aH _ _ hq
    .have:=f1.1;rw[h] at this;cases this
    .obtain⟨⟨es,e9⟩,n9⟩:=f2 x.w.tape x.w.drawn;exact Em.Left.last h (_,_) ⟨x.w.tape,x.w.drawn,es,e9,n9⟩
   have a6:=ht.at e;have hb':=hb.at e;obtain⟨g',w',es,DZ,g2,W',ES,e1,e2,e3,e4,e5⟩:=J2 (lib x.H) (main2:=bq) f1 f2 a6.gl a6.wl;have f:Hw P SB zZ Gn x (W.at e) DZ w' W' ES.toList:=e5;obtain⟨gs',t',k1,k2,k3,k4⟩:=hb'.fin a6.tw a6.dead h0 e3 f sl';obtain⟨k5,k6⟩:=KG f a6.keep a6.FA;have aG:∀b B,DZ b B->zO B->x.H b=true:=λb B hb1 hd=>(f.new b B hb1).elim (λh1=>ht.dead b B h1 hd) λh1=>AH h1.2 (ez.2 (hb'.Li B hd))
   obtain⟨rfl,rfl⟩:=e2;refine⟨_,_,(.tree Q (ng (W.at e).tape (W.at e).drawn,nw (W.at e).tape (W.at e).drawn),sumTo n q),by rw[zG,k1],er _ _ ⟨.tree hq ⟨(W.at e).tape,(W.at e).drawn,es,e1,e4.callers.ne⟩,aB⟩,gs',W',sl',q,⟨_,_,x.H,DZ,x.T⟩,g2,d,rfl,k3,k2.trans hn,k4,⟨e4,f.rel,ht.tw,aG,k5,k6⟩,f3 _ _,eH,eT,Ef.le_trans zX f.le,⟨f.OS.trans aA.1,f.OUT.trans aA.2⟩,⟨AX zx.1 f.SIZE,AX zx.2.1 f.size,λb B hb1=>(f.new b B hb1).elim (zx.2.2 b B) λh=>.inr ⟨AX zx.2.1 h.1,AX zx.1 h.2⟩⟩,rfl⟩
  |@spec _ b a' ops i0 rest k cs _ o es v f1 f2 f3 f4 f5 f6 f7 =>
   subst aF;have hq:¬Q x.g x.w:=λhq=>by
    obtain this|⟨f,R,w9,v9,fr,_,_,h9,_,hm,_⟩:=aH _ _ hq
    .rw[a7] at this;exact AH f1 (by rw[show b.fn=(ER (b.at a' (.inRegion ops (i0::rest)::k)) cs).L.fn from rfl,this];decide)
    .rw[a7] at h9;have e9:b.at a' (.inRegion ops (i0::rest)::k)=fr:=AZ Goroutine.frame h9;rw[<-e9] at hm;cases hm
   have a6:=ht.at e;have hb':=hb.at e;have zL:FV P SB x.H zZ BB x.T x.β (ER (b.at a' (.inRegion ops (i0::rest)::k)) cs) a:=a7▸a6.gl;obtain⟨g2,ES,e3,e4,e5,e6⟩:=LB aI (main2:=bq) f1 zL a6.wl f3 f4 f5 f6;obtain⟨gs',t',k1,k2,k3,k4⟩:=hb'.spec h0 e3 e5 e6 sl';refine⟨_,_,(.tree Q (ER (b.at (a'.put o.dst v) (.inRegion ops rest::k)) cs,on x.w (W.at e).tape (W.at e).drawn),sumTo n q),by rw[zG,k1],er _ _ ⟨.tree (by have:=hq;rwa [a7] at this) ⟨(W.at e).tape,(W.at e).drawn,es,?_,f2⟩,by rw[a7] at aB;exact aB⟩,gs',W.at e,sl',q,⟨ER (b.at (a'.put o.dst v) (.inRegion ops rest::k)) cs,on x.w (W.at e).tape (W.at e).drawn,x.H,x.β,x.T⟩,g2,nx d es,rfl,k3,k2.trans hn,k4,⟨e4,a6.wl.same rfl rfl a6.wl.env,ht.tw,ht.dead,a6.keep,a6.FA⟩,f7 _ _,eH,eT,zX,aA,zx,rfl⟩
   exact(f6.same Dc).step f3 f4 f5
 .obtain⟨gs',t',q',k1,k2,k3,k4,k5⟩:=(hb.at e).slip aC hi hg h0 a8 sl';exact⟨_,_,(.tree Q (x.g,x.w),sumTo n q'),by rw[zG,k1],eV _ (by rw[<-hn];exact k4),gs',W.at e,sl',q',x,a,d,rfl,k3,k2.trans hn,k5,ht.at e,hr,eH,eT,zX,aA,zx,rfl⟩
end
end Go.Co
namespace Go.Sq
open Go.Proofs
open Go.RowKit
def gI {p q:bA}(h:p.toTables=q.toTables)(t:gB)(w:bk):c0 p (gR t) w=c0 q (gR t) w:=by
 simp only[gR,ck,run_program,b8,h];cases Tables.info? q.toTables t<;>rfl
def kO {p q:bA}(h:p.toTables=q.toTables)(t:gB):p.LT t=q.LT t:=by simp only[Program.underlying,h]
def ov {p q:bA}(h:p.toTables=q.toTables)(t:gB)(w:bk):c0 p (underlying t) w=c0 q (underlying t) w:=by
 simp only[underlying,ck,run_program,b8,kO h];cases q.LT t<;>rfl
def qG {p q:bA}(h:p.toTables=q.toTables)(t:gB)(w:bk):c0 p (isAgg t) w=c0 q (isAgg t) w:=by
 unfold isAgg;rw[ck,ck,ov h t w];generalize (underlying t).run q w=r;cases r with
 |ok d w1=>cases d<;>simp only[b8,kp]
 |halt _ _=>simp only[b8]
def pv {p q:bA}(h:p.toTables=q.toTables)(t:gB)(w:bk):c0 p (oV t) w=c0 q (oV t) w:=by
 unfold oV;rw[ck,ck,gI h t w];generalize (gR t).run q w=r;cases r with
 |ok d w1=>simp only[b8,kp]
 |halt _ _=>simp only[b8]
def lI {p q:bA}(h:p.toTables=q.toTables)(t:gB)(w:bk):c0 p (zeroValue t) w=c0 q (zeroValue t) w:=by
 unfold zeroValue;rw[ck,ck,gI h t w];generalize (gR t).run q w=r;cases r with
 |ok i w1 =>
  simp only[b8];cases i.zero with
  |some v2=>simp only[kp]
  |none=>simp[unsupported]
 |halt _ _=>simp only[b8]
def Jh (i:br):Bool:=i==79||i==122||i==123||i==124||i==125||i==3
noncomputable def casBody (x y:Int):Code:=.seq (.L 0 #[{ dst:=bh 2,op:=.fieldAddr 166 (.tmp 0) 1,type:=0,pos := "",after:=#[],guard:=df },{ dst:=bh 1,op:=.call { callee:=.value (.func 200),args:=#[.tmp 2,.const (.int .i32 x),.const (.int .i32 y)],argTypes:=#[291,21,21] },type:=4,pos := "",after:=#[{ on:=0,ground:=.data }],guard:=df }] E)
 (.cond (.tmp 1) .ret (.refuse "held"))
noncomputable def NL (i:br)(f:dn):Func:=if i==14||Jh i then { f with body:=bh (.refuse "put aside") } else if i==129 then { f with body:=bh (casBody 0 1) } else if i==130 then { f with body:=bh (casBody 1 0) } else f
def MN (p:bA)(g:Nat->dn->dn):Program:=⟨p.toTables,p.L.mapIdx g⟩
def qH (p:bA)(g:Nat->dn->dn)(i:Nat):(MN p g).L[i]?=(p.L[i]?).map (g i):=by
 show(p.L.mapIdx g)[i]?=_;rw[CJ]
def qI (p:bA)(g:Nat->dn->dn):(MN p g).toTables=p.toTables:=rfl
def lJ {p:bA}{g:Nat->dn->dn}{n:Nat}(h:p.globals.size=n):(MN p g).globals.size=n:=h
noncomputable def DP:Program:=MN Tryz.prog NL
def Sq.get (i:Nat):DP.L[i]?=(Tryz.prog.L[i]?).map (NL i):=by rw[DP];exact qH _ _ _
def Sq.fn {i:Nat}{f:dn}(h:Tryz.prog.L[i]?=bh f)(hi:(i==14||Jh i||i==129||i==130)=E):DP.L[i]?=bh f:=by
 rw[Sq.get,h];simp only[Cb] at hi;simp only[BT,NL,hi.1.1.1,hi.1.1.2,hi.1.2,hi.2,Bool.or_self,Ba,if_false]
def Sq.put {i:Nat}{f:dn}(h:Tryz.prog.L[i]?=bh f)(hi:(i != 14&&Jh i)=bq):DP.L[i]?=bh { f with body:=bh (.refuse "put aside") }:=by
 rw[Sq.get,h];simp only[AO,bne_iff_ne,ne_eq] at hi;have h9:(i==14)=false:=by simpa using hi.1
 simp only[BT,NL,h9,hi.2,Bool.or_true,if_true]
def DG:DP.L[14]?=bh { Tryz.f14 with body:=bh (.refuse "put aside") }:=by
 rw[Sq.get,Tryz.func14];rfl
noncomputable def Dt:Func:={ Tryz.f129 with body:=bh (casBody 0 1) }
noncomputable def Dq:Func:={ Tryz.f130 with body:=bh (casBody 1 0) }
def Sq.f129:DP.L[129]?=bh Dt:=by
 rw[Sq.get,Tryz.func129];rfl
def Sq.f130:DP.L[130]?=bh Dq:=by
 rw[Sq.get,Tryz.func130];rfl
def Du:Dt.ntmps=6:=rfl
def Ds:Dq.ntmps=6:=rfl
def Dg:DP.toTables=Tryz.prog.toTables:=by rw[DP];exact qI _ _
@[go_sem] theorem Sq.run (t:TypeId)(w:World):Sem.run DP (underlying t) w=Sem.run Tryz.prog (underlying t) w:=ov Dg t w
@[go_sem] theorem De (t:TypeId)(w:World):Sem.run DP (isAgg t) w=Sem.run Tryz.prog (isAgg t) w:=qG Dg t w
@[go_sem] theorem Sq.sizeOf (t:TypeId)(w:World):Sem.run DP (Go.sizeOf t) w=Sem.run Tryz.prog (Go.sizeOf t) w:=pv Dg t w
@[go_sem] theorem Sq.LE (t:TypeId)(w:World):Sem.run DP (Go.zeroValue t) w=Sem.run Tryz.prog (Go.zeroValue t) w:=lI Dg t w
@[go_sem] theorem Sq.LT (t:TypeId):DP.LT t=Tryz.prog.LT t:=kO Dg t
@[go_sem] theorem Sq.Lo:DP.globals.size=0:=(by rw[DP];exact lJ Tryz.globals_size)
def aa {P:bA} {i:Nat} {f:dn} (h:P.L[i]?=bh f) (hn:(f.name == "runtime.NumGoroutine")=false:=by decide +kernel) (hb:f.body.isSome=true:=by rfl) (args:Array cf) (w:bk):c0 P (r4 i args) w=.ok (.enter i args) w:=by
 have a6:¬f.name = "runtime.NumGoroutine":=by simpa using hn
 have hb':f.body≠none:=Option.isSome_iff_ne_none.1 hb;simp[r4,h,a6,hb']
def Sq.func7:=Sq.fn Tryz.func7 rfl
@[go_sem] def Sq.call7:=aa Sq.func7
def Sq.func6:=Sq.fn Tryz.func6 rfl
@[go_sem] def Sq.call6:=aa Sq.func6
def Sq.func28:=Sq.fn Tryz.func28 rfl
@[go_sem] def Sq.call28:=aa Sq.func28
def Sq.func11:=Sq.fn Tryz.func11 rfl
@[go_sem] def Sq.call11:=aa Sq.func11
def Sq.func48:=Sq.fn Tryz.func48 rfl
@[go_sem] def Sq.call48:=aa Sq.func48
def Sq.func49:=Sq.fn Tryz.func49 rfl
@[go_sem] def Sq.call49:=aa Sq.func49
def Sq.func52:=Sq.fn Tryz.func52 rfl
@[go_sem] def Sq.call52:=aa Sq.func52
def Sq.func44:=Sq.fn Tryz.func44 rfl
@[go_sem] def Sq.call44:=aa Sq.func44
def Sq.func15:=Sq.fn Tryz.func15 rfl
@[go_sem] def Sq.call15:=aa Sq.func15
def Sq.func46:=Sq.fn Tryz.func46 rfl
@[go_sem] def Sq.call46:=aa Sq.func46
def Sq.func50:=Sq.fn Tryz.func50 rfl
@[go_sem] def Sq.call50:=aa Sq.func50
def Sq.func51:=Sq.fn Tryz.func51 rfl
@[go_sem] def Sq.call51:=aa Sq.func51
def Sq.func10:=Sq.fn Tryz.func10 rfl
@[go_sem] def Sq.call10:=aa Sq.func10
def Sq.func36:=Sq.fn Tryz.func36 rfl
@[go_sem] def Sq.call36:=aa Sq.func36
def Sq.func37:=Sq.fn Tryz.func37 rfl
@[go_sem] def Sq.call37:=aa Sq.func37
def Sq.func78:=Sq.fn Tryz.func78 rfl
@[go_sem] def Sq.call78:=aa Sq.func78
def Sq.func80:=Sq.fn Tryz.func80 rfl
def Sq.func81:=Sq.fn Tryz.func81 rfl
@[go_sem] def Sq.call81:=aa Sq.func81
def Sq.func82:=Sq.fn Tryz.func82 rfl
def Sq.func86:=Sq.fn Tryz.func86 rfl
@[go_sem] def Sq.call86:=aa Sq.func86
def Sq.func88:=Sq.fn Tryz.func88 rfl
def Sq.func89:=Sq.fn Tryz.func89 rfl
@[go_sem] def Sq.call89:=aa Sq.func89
def Sq.func90:=Sq.fn Tryz.func90 rfl
@[go_sem] def Sq.call90:=aa Sq.func90
def Sq.func39:=Sq.fn Tryz.func39 rfl
@[go_sem] def Sq.call39:=aa Sq.func39
def Sq.func55:=Sq.fn Tryz.func55 rfl
@[go_sem] def Sq.call55:=aa Sq.func55
def Sq.func57:=Sq.fn Tryz.func57 rfl
@[go_sem] def Sq.call57:=aa Sq.func57
def Sq.func91:=Sq.fn Tryz.func91 rfl
@[go_sem] def Sq.call91:=aa Sq.func91
def Sq.func92:=Sq.fn Tryz.func92 rfl
@[go_sem] def Sq.call92:=aa Sq.func92
def Sq.func93:=Sq.fn Tryz.func93 rfl
@[go_sem] def Sq.call93:=aa Sq.func93
def Sq.func94:=Sq.fn Tryz.func94 rfl
@[go_sem] def Sq.call94:=aa Sq.func94
def Sq.func95:=Sq.fn Tryz.func95 rfl
@[go_sem] def Sq.call95:=aa Sq.func95
def Sq.func96:=Sq.fn Tryz.func96 rfl
@[go_sem] def Sq.call96:=aa Sq.func96
def Sq.func97:=Sq.fn Tryz.func97 rfl
@[go_sem] def Sq.call97:=aa Sq.func97
def Sq.func98:=Sq.fn Tryz.func98 rfl
@[go_sem] def Sq.call98:=aa Sq.func98
def Sq.func99:=Sq.fn Tryz.func99 rfl
@[go_sem] def Sq.call99:=aa Sq.func99
def Sq.func100:=Sq.fn Tryz.func100 rfl
@[go_sem] def Sq.call100:=aa Sq.func100
def Sq.func101:=Sq.fn Tryz.func101 rfl
@[go_sem] def Sq.call101:=aa Sq.func101
def Sq.func121:=Sq.fn Tryz.func121 rfl
@[go_sem] def Sq.call121:=aa Sq.func121
def Sq.func56:=Sq.fn Tryz.func56 rfl
@[go_sem] def Sq.call56:=aa Sq.func56
def Sq.func77:=Sq.fn Tryz.func77 rfl
@[go_sem] def Sq.call77:=aa Sq.func77
def Sq.func102:=Sq.fn Tryz.func102 rfl
@[go_sem] def Sq.call102:=aa Sq.func102
def Sq.func126:=Sq.fn Tryz.func126 rfl
def Sq.func127:=Sq.fn Tryz.func127 rfl
def Sq.func128:=Sq.fn Tryz.func128 rfl
@[go_sem] def Sq.call128:=aa Sq.func128
def Sq.func129:DP.L[129]?=bh Dt:=Sq.f129
@[go_sem] def Sq.call129:=aa Sq.func129
def Sq.func130:DP.L[130]?=bh Dq:=Sq.f130
@[go_sem] def Sq.call130:=aa Sq.func130
def Sq.func103:=Sq.fn Tryz.func103 rfl
@[go_sem] def Sq.call103:=aa Sq.func103
def Sq.func131:=Sq.fn Tryz.func131 rfl
@[go_sem] def Sq.call131:=aa Sq.func131
def Sq.func132:=Sq.fn Tryz.func132 rfl
def Sq.func133:=Sq.fn Tryz.func133 rfl
def Sq.func134:=Sq.fn Tryz.func134 rfl
@[go_sem] def Sq.call134:=aa Sq.func134
def Sq.func135:=Sq.fn Tryz.func135 rfl
@[go_sem] def DH:=aa Sq.func135
def Sq.func136:=Sq.fn Tryz.func136 rfl
@[go_sem] def Sq.call136:=aa Sq.func136
def Sq.func137:=Sq.fn Tryz.func137 rfl
@[go_sem] def Sq.call137:=aa Sq.func137
def Sq.func138:=Sq.fn Tryz.func138 rfl
@[go_sem] def Sq.call138:=aa Sq.func138
def Sq.func139:=Sq.fn Tryz.func139 rfl
@[go_sem] def Sq.call139:=aa Sq.func139
def Sq.func153:=Sq.fn Tryz.func153 rfl
@[go_sem] def Sq.call153:=aa Sq.func153
def Sq.func154:=Sq.fn Tryz.func154 rfl
@[go_sem] def Sq.call154:=aa Sq.func154
def Sq.func155:=Sq.fn Tryz.func155 rfl
@[go_sem] def Sq.call155:=aa Sq.func155
def Sq.func105:=Sq.fn Tryz.func105 rfl
@[go_sem] def Sq.call105:=aa Sq.func105
def Sq.func140:=Sq.fn Tryz.func140 rfl
@[go_sem] def Sq.call140:=aa Sq.func140
def Sq.func58:=Sq.fn Tryz.func58 rfl
@[go_sem] def Sq.call58:=aa Sq.func58
def Sq.func174:=Sq.fn Tryz.func174 rfl
@[go_sem] def Sq.call174:=aa Sq.func174
def Sq.func177:=Sq.fn Tryz.func177 rfl
def Sq.func178:=Sq.fn Tryz.func178 rfl
def Sq.func179:=Sq.fn Tryz.func179 rfl
def Sq.func180:=Sq.fn Tryz.func180 rfl
def Sq.func181:=Sq.fn Tryz.func181 rfl
def Sq.func182:=Sq.fn Tryz.func182 rfl
def Sq.func183:=Sq.fn Tryz.func183 rfl
def Sq.func184:=Sq.fn Tryz.func184 rfl
def Sq.func185:=Sq.fn Tryz.func185 rfl
def Sq.func186:=Sq.fn Tryz.func186 rfl
def Sq.func187:=Sq.fn Tryz.func187 rfl
def Sq.func188:=Sq.fn Tryz.func188 rfl
def Sq.func189:=Sq.fn Tryz.func189 rfl
@[go_sem] def Sq.call189:=aa Sq.func189
def Sq.func190:=Sq.fn Tryz.func190 rfl
@[go_sem] def Sq.call190:=aa Sq.func190
def Sq.func191:=Sq.fn Tryz.func191 rfl
@[go_sem] def Sq.call191:=aa Sq.func191
def Sq.func104:=Sq.fn Tryz.func104 rfl
@[go_sem] def Sq.call104:=aa Sq.func104
def Sq.func106:=Sq.fn Tryz.func106 rfl
@[go_sem] def Sq.call106:=aa Sq.func106
def Sq.func200:=Sq.fn Tryz.func200 rfl
def Sq.func204:=Sq.fn Tryz.func204 rfl
def Sq.func205:=Sq.fn Tryz.func205 rfl
def Sq.func206:=Sq.fn Tryz.func206 rfl
def Sq.func207:=Sq.fn Tryz.func207 rfl
def Sq.func208:=Sq.fn Tryz.func208 rfl
def Sq.func209:=Sq.fn Tryz.func209 rfl
def Sq.func210:=Sq.fn Tryz.func210 rfl
def Sq.func211:=Sq.fn Tryz.func211 rfl
def Sq.func212:=Sq.fn Tryz.func212 rfl
def Sq.func213:=Sq.fn Tryz.func213 rfl
def Sq.func214:=Sq.fn Tryz.func214 rfl
def Sq.func215:=Sq.fn Tryz.func215 rfl
def Sq.func216:=Sq.fn Tryz.func216 rfl
def Sq.func217:=Sq.fn Tryz.func217 rfl
@[go_sem] def Sq.call217:=aa Sq.func217
def Sq.func227:=Sq.fn Tryz.func227 rfl
def Sq.func228:=Sq.fn Tryz.func228 rfl
def Sq.func229:=Sq.fn Tryz.func229 rfl
def Sq.func230:=Sq.fn Tryz.func230 rfl
def Sq.func232:=Sq.fn Tryz.func232 rfl
def Sq.underlying22:DP.LT 22=bh (.slice 3):=(Sq.LT 22).trans Tryz.underlying22
def Sq.underlying50:DP.LT 50=bh (.slice 22):=(Sq.LT 50).trans Tryz.underlying50
def Sq.underlying25:DP.LT 25=bh (.slice 48):=(Sq.LT 25).trans Tryz.underlying25
def Sq.underlying216:DP.LT 216=bh (.slice 113):=(Sq.LT 216).trans Tryz.underlying216
end Go.Sq
