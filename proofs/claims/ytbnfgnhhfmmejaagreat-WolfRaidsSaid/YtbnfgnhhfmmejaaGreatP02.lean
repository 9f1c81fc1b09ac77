/- Parts of the proof. -/
import Derived.Test.YtbnfgnhhfmmejaaGreatP01
import Derived.Conc.WgGenN3
import Derived.Conc.Beside
set_option linter.all false
set_option maxHeartbeats 1600000
open Go renaming Goroutine->Y,World->J,FuncId->bo,Frame->bw,deafBehind->bA,Program->b7,stepG->cf,Value->cu,Event->cE,step_lone_go->eb,Next->er,Item->eC,IntKind->e7,Trace->e9,HappensBefore->iv,Code->jk,TypeId->j2,Oper->j3,Addr->ko,frozen->kp,callFunc->ln,step_seq->lv,MemOp->mA,Steps->nA
open Bool renaming false->U,true->I
open Go.MemAct renaming ofEvent->ak,touch?->b5,low->cK,low_mono->lh
open Go.MemOp renaming ofEvents->bb
open Option renaming some->bc,none->b6
open Go.Conc renaming mem_ofEvents->bh,getElem?_append_cases->br,lt_size_of_getElem?->cq,semEvents->df,aside_setCell->dr,touch_of->fq,noRace_append->hZ,touchAt_of->lu,g?_old->l8,woken->l9,Deaf->n4
open Go.ConcN renaming upd_same->bn,upd_ne->bq,Mode->cU,bk_cell->ll,WgLive->lA
open Go.ConcN.Mode renaming retag->bs,last->fc
open Go.Extern.Atomic renaming read->bD,touchesFrozen->bW,update->dy,loadT->ea,casT->ed
open Go.Frame renaming enter->b8,todo->js,finish_at->kv,mode->np
open Classical renaming choose_spec->b9,choose->eG
open Option.some renaming injEq->cF,inj->dS
open Nat renaming le_of_not_lt->dn,strongRecOn->kx,not_lt->nx
open List renaming range->ek,range'->gU
open Go.stepG renaming apply->ez
open Go.Region renaming Mode->eA,wanted->ik,binds->nc,ready->nh
open Go.ConcR renaming loc_of_ofEvent->eH,mk->kq
open Array renaming mem_append->eT,sizeOf_getElem->gB,ofFn->nt
open Ne renaming symm->e8
open Go.Steps renaming trans->fx
open SizeOf renaming sizeOf->h9
open Go.Value renaming bool->j1
open Array renaming getD->Array.LH,push->Array.LE,setIfInBounds->Array.L,toList->Array.LK
open Eq renaming symm->Eq.LH
open False renaming elim->False.S
open Go.Addr renaming block->Go.Addr.LE
open Go.CallKind renaming normal->Go.CallKind.L
open Go.Code renaming region->Go.Code.L
open Go.Conc.Aside renaming block->Go.Conc.Aside.LE
open Go.Conc.Goes renaming running->Go.Conc.Goes.L
open Go.ConcN.RelBy renaming book->Go.ConcN.RelBy.LH
open Go.ConcN.WD renaming deaf->Go.ConcN.WD.LE
open Go.Ending renaming returned->Go.Ending.L
open Go.Exit renaming normal->Go.Exit.L
open Go.Frame renaming place->Go.Frame.LH
open Go.GoStatus renaming running->Go.GoStatus.L
open Go.Goroutine renaming frame->Go.Goroutine.L
open Go.Loc renaming isMemory->Go.Loc.L,low->Go.Loc.LK
open Go.MemAct renaming low->Go.MemAct.LK,touch?->Go.MemAct.L
open Go.Oper renaming dst->Go.Oper.L
open Go.Program renaming funcs->Go.Program.L
open Go.Sem renaming runT->Go.Sem.L
open Go.Trace renaming deaf->Go.Trace.LE
open Go.Unsupported renaming addressObserved->Go.Unsupported.L
open Go.Value renaming pointer->Go.Value.S
open Go.World renaming cell?->Go.World.S,frozen?->Go.World.O,heap->Go.World.L,setCell->Go.World.LH,shape?->Go.World.T
open List renaming contains->List.H,filter->List.S,length->List.L,set->List.Lo,take->List.LT,toArray->List.LK
open Ne renaming symm->Ne.LH
open Option renaming getD->Option.LH,isNone->Option.L
open Or renaming elim->Or.S,resolve_left->Or.L
namespace Go.EB
section
variable {P:EK} {EI BC BB:bo->Bool} {H:Hid} {G:Nat} {Q:Y->J->Prop}
structure Ja (P:EK)(EI BC BB:bo->Bool)(H:Hid)(G:Nat):Prop where
 la:Lib (EK.of P.a) EI H U EI G
 lc:Lib P EI H U BC G
 ref:mJ P EI BC BB
 sub:∀f,EI f=I->BB f=I
 nb:H.bl=U
def t7 {K0:Nat->Prop}{w:J}{Ck:jk->Prop}(Fa:∀b,K0 b->G<=b)(hroom:G<=w.L.size)(a6:∀b,K0 b->H b=I->H.Fg=I/\w.L[b]?=bc (.coro b6))(hold:∀b,H b=I->b<w.L.size)
  (a7:∀b,K0 b->H b=U->∃o,w.L[b]?=bc o/\Fb (SP EI H) Ck (E0 K0) o o):EU (SP EI H) Ck G (E0 K0) w w:=by
 refine⟨⟨λh1 h2=>h1.2.LH.trans h2.2,λh1 h2=>h1.2.trans h2.2.LH,λ{b B} h=>⟨Fa b h.1,h.2▸Fa b h.1⟩⟩,⟨hroom,hroom⟩,λb B hb hh=>?_,λb B hb hh=>?_,hold,rfl⟩
 .obtain⟨hb,rfl⟩:=hb;obtain⟨o,h1,h2⟩:=a7 b hb hh;exact⟨o,o,h1,h1,h2⟩
 .obtain⟨hb,rfl⟩:=hb;obtain⟨h1,h2⟩:=a6 b hb hh;exact⟨h2,(λh=>AS (h1.LH.trans h) (by decide)),λ_=>h2⟩
def Ja.run (B:Ja P EI BC BB H G){Qa:Y->J->Prop}(hQ:∀g w W,EE w W->Qa g w->Qa g W)(a8:∀g w f,Qa g w->BC f=U->LY P BB f->g.L.fn≠f){fr:bw}{C:bw}{cs:List bw}{K0:Nat->Prop}{w:J}{F:bw}(ha:Gw (EK.of P.a) EI H U EI (E0 K0) fr fr)(hc:Gw P EI H U BC (E0 K0) fr F)
  (Fa:∀b,K0 b->G<=b) (hroom:G<=w.L.size) (a6:∀b,K0 b->H b=I->H.Fg=I/\w.L[b]?=bc (.coro b6)) (hold:∀b,H b=I->b<w.L.size) (a7:∀b,K0 b->H b=U->∃o,w.L[b]?=bc o/\Fb (SP EI H) (CK P.a EI U) (E0 K0) o o)
  (h:Self P.a EI H G (Fc fr [bad]) w->Ep P.a (Self P.a EI H G) Qa (Fc fr [bad]) w) :
  E5 P.b BB (JU P EI BC H G (C::cs) Qa) 0 (Fc F (C::cs)) w:=by
 have hi:La H (E0 K0):=⟨B.nb,λ_ _ h=>h.2⟩;have hw:=t7 (Ck:=CK P.a EI U) Fa hroom a6 hold a7;have hs:Self P.a EI H G (Fc fr [bad]) w:=⟨_,hi,⟨ha,.base,⟨rfl,rfl⟩,⟨rfl,rfl⟩,⟨rfl,rfl⟩⟩,hw⟩;exact(h hs).Q0 B.lc B.ref B.sub hQ a8 (λ_ _ _ s h=>h.same s) ⟨rfl,rfl,rfl⟩ .refl hi ⟨hc,.base,⟨rfl,rfl⟩,⟨rfl,rfl⟩,⟨rfl,rfl⟩⟩ hw
def Ja.fn (B:Ja P EI BC BB H G){f:bo}(hf:EI f=I)(a7:BC f=I){K0:Nat->Prop}{w:J}{args:Array cu}{C:bw}{cs:List bw}(zU:cs≠[])
  (Fa:∀b,K0 b->G<=b) (hroom:G<=w.L.size) (a6:Ei (SP EI H) (E0 K0) args args)
  (aA:∀b,K0 b->H b=I->H.Fg=I/\w.L[b]?=bc (.coro b6)) (hold:∀b,H b=I->b<w.L.size) (aB:∀b,K0 b->H b=U->∃o,w.L[b]?=bc o/\Fb (SP EI H) (CK P.a EI U) (E0 K0) o o)
  (hQ:∀g w W,EE w W->Q g w->Q g W) {R:cu->J->Prop}
  (hc:∀τ d,Calls P.a f args (on w τ d) (λe w'=>∃v,e=.L v/\R v w'))
  (h:∀v w',R v w'->E5 P.b BB Q 0 (Fc (C.finish v) cs) w') :
  E5 P.b BB Q 0 (Fc (b8 P.b f args .L) (C::cs)) w:=by
 have h1:=B.run (Qa:=Left P.a f R) Left.same (λg w f' hl hf' _ e=>by
  obtain⟨_,_,fr,_,_,rfl,e2,_⟩:=hl;have e3:fr.fn=f':=e;rw[e2] at e3;rw[<-e3,a7] at hf'
  cases hf') (C:=C) (cs:=cs) (Fl B.la (.inl hf) a6 .L (by decide)) (Fl B.lc (.inl hf) a6 .L (by decide)) Fa hroom aA hold aB λhs=>IA B.la hs hc
 refine h1.bind λg2 w' hq=>?_;obtain⟨g',w0,Ef,q1,q2,q3,q4,q5⟩:=hq;have aC:=q1;obtain⟨wl,vl,fr,l1,l2,l3,l4,l5⟩:=aC;have aD:BB g'.L.fn=true:=B.sub _ (by rw[l3];show EI fr.fn=I;rw[l4];exact hf);have a8:=q4.top.Jm (by rw[l3];show BC fr.fn=I;rw[l4];exact a7);have eF:g'.L=g2.L:=EC.id (P:=EK.of P.a) q3 a8;refine E5.step ⟨by rw[<-eF];exact aD,λo ho=>?_⟩ λτ d=>?_
 .rw[<-eF] at ho;exact cG a8 (λf h=>(B.lc.nm f h).2) (λ_=>rfl) o ho
 .have hw':EU (SP EI H) (CK P.a EI U) G Ef w0 (on w' τ d):=q5.same rfl q2.1 (by rw[show(on w' τ d).os=w'.os from rfl,q2.2.1]);obtain⟨v,wa,wb,V,W',ES,aF,e1,e2,e3,e4,e5,e6⟩:=leave (P:=P) B.lc (main2:=I) q1 a7 q4 hw';obtain⟨i1,i2⟩:=e6.same q3 q2.1.LH;have eV:=e5.id i1;subst eV;refine⟨_,W',ES,e4,zU,(h v wa e2).same hQ ⟨?_,?_,?_⟩⟩
  .rw[<-i2,e3.1,<-e1.1]
  .rw[e6.OS,show(on w' τ d).os=w'.os from rfl,q2.2.1,e1.2.1]
  .rw[e6.OUT,show(on w' τ d).output=w'.output from rfl,q2.2.2,e1.2.2]
def Ja.fnK (B:Ja P EI BC BB H G){f:bo}(hf:EI f=I)(a8:BC f=I){K0:Nat->Prop}{w:J}{args:Array cu}{C:bw}{cs:List bw}(zU:cs≠[])
  (Fa:∀b,K0 b->G<=b) (hroom:G<=w.L.size) (a7:Ei (SP EI H) (E0 K0) args args)
  (aC:∀b,K0 b->H b=I->H.Fg=I/\w.L[b]?=bc (.coro b6)) (hold:∀b,H b=I->b<w.L.size) (aD:∀b,K0 b->H b=U->∃o,w.L[b]?=bc o/\Fb (SP EI H) (CK P.a EI U) (E0 K0) o o)
  (hQ:∀g w W,EE w W->Q g w->Q g W) {R:cu->J->Prop}
  (hc:∀τ d,Calls P.a f args (on w τ d) (λe w'=>∃v,e=.L v/\R v w'))
  (h:∀v w' (K':Nat->Prop),R v w'->Ee (SP EI H) (E0 K') v v->(∀b,K' b->G<=b)->(∀b,K' b->H b=U->∃o,w'.L[b]?=bc o/\Fb (SP EI H) (CK P.a EI U) (E0 K') o o)->E5 P.b BB Q 0 (Fc (C.finish v) cs) w') :
  E5 P.b BB Q 0 (Fc (b8 P.b f args .L) (C::cs)) w:=by
 have h1:=B.run (Qa:=Left P.a f R) Left.same (λg w f' hl hf' _ e=>by
  obtain⟨_,_,fr,_,_,rfl,e2,_⟩:=hl;have e3:fr.fn=f':=e;rw[e2] at e3;rw[<-e3,a8] at hf'
  cases hf') (C:=C) (cs:=cs) (Fl B.la (.inl hf) a7 .L (by decide)) (Fl B.lc (.inl hf) a7 .L (by decide)) Fa hroom aC hold aD λhs=>IA B.la hs hc
 refine h1.bind λg2 w' hq=>?_;obtain⟨g',w0,Ef,q1,q2,q3,q4,q5⟩:=hq;have aG:=q1;obtain⟨wl,vl,fr,l1,l2,l3,l4,l5⟩:=aG;have aH:BB g'.L.fn=true:=B.sub _ (by rw[l3];show EI fr.fn=I;rw[l4];exact hf);have aB:=q4.top.Jm (by rw[l3];show BC fr.fn=I;rw[l4];exact a8);have eF:g'.L=g2.L:=EC.id (P:=EK.of P.a) q3 aB;refine E5.step ⟨by rw[<-eF];exact aH,λo ho=>?_⟩ λτ d=>?_
 .rw[<-eF] at ho;exact cG aB (λf h=>(B.lc.nm f h).2) (λ_=>rfl) o ho
 .have hw':EU (SP EI H) (CK P.a EI U) G Ef w0 (on w' τ d):=q5.same rfl q2.1 (by rw[show(on w' τ d).os=w'.os from rfl,q2.2.1]);obtain⟨v,wa,wb,V,W',ES,a6,e1,e2,e3,e4,e5,e6⟩:=leave (P:=P) B.lc (main2:=I) q1 a8 q4 hw';obtain⟨i1,i2⟩:=e6.same q3 q2.1.LH;have eV:=e5.id i1;subst eV;have aA:a6.le (E0 λb=>a6 b b):=λb B hb=>by
   have:=i1.2 _ _ hb;subst this;exact⟨hb,rfl⟩
  have aF:∀b,a6 b b->H b=U->∃o,wa.L[b]?=bc o/\Fb (SP EI H) (CK P.a EI U) (E0 λb=>a6 b b) o o:=λb hb hh=>by
   obtain⟨o,O,k1,k2,k3⟩:=e6.rel.F4 b b hb hh;have eo:O=o:=by
    rw[<-i2,k1] at k2;exact(dS k2).LH
   subst eo;exact⟨O,by rw[e1.1,<-e3.1];exact k1,k3.LT aA⟩
  refine⟨_,W',ES,e4,zU,(h v wa (λb=>a6 b b) e2 (e5.LT aA) (λb hb=>(e6.rel.FH.lo hb).1) aF).same hQ ⟨?_,?_,?_⟩⟩
  .rw[<-i2,e3.1,<-e1.1]
  .rw[e6.OS,show(on w' τ d).os=w'.os from rfl,q2.2.1,e1.2.1]
  .rw[e6.OUT,show(on w' τ d).output=w'.output from rfl,q2.2.2,e1.2.2]
def Ja.seg (B:Ja P EI BC BB H G){b:bw}{a:Act}{c:jk}{k:List eC}{C:bw}{cs:List bw}{K0:Nat->Prop}{w:J}
  (zR:EC P.a EI H U (E0 K0) (b.at a (.code c::k)) (b.at a (.code c::k)))
  (Fa:∀b,K0 b->G<=b) (hroom:G<=w.L.size) (aA:∀b,K0 b->H b=I->H.Fg=I/\w.L[b]?=bc (.coro b6)) (hold:∀b,H b=I->b<w.L.size) (aB:∀b,K0 b->H b=U->∃o,w.L[b]?=bc o/\Fb (SP EI H) (CK P.a EI U) (E0 K0) o o)
  (hk:∀s,k≠[.code (.refuse s)]) (aC:∀f x y fn r o1 o2 s,LX P.a f x y fn r o1 o2 s->∀c,fn.body=bc c->k≠[.code c]) (hbl:BC b.fn=I\/∃fn s,P.a.L[b.fn]?=bc fn/\fn.body=bc (.refuse s)) (hQ:∀g w W,EE w W->Q g w->Q g W) {N:Exit->Act->J->Prop}
  (hc:∀τ d,c.wp P.a (λe a' w'=>(e=.L\/e=.ret)/\N e a' w') a (on w τ d))
  (h1:∀a' w',N .L a' w'->E5 P.b BB Q 0 (Fc (b.at a' k) (C::cs)) w')
  (h2:∀a' w' todo,N .ret a' w'->(∀o,({ b.at a' todo with mode:=.returning }:bw).oper?=bc o->aN P.b o.op=I)->E5 P.b BB Q 0 (Fc { b.at a' todo with mode:=.returning } (C::cs)) w') :
  E5 P.b BB Q 0 (Fc (b.at a (.code c::k)) (C::cs)) w:=by
 have h0:=B.run (Qa:=IZ b k [bad] N) IZ.same (λg w f' hl hf' hlk e=>by
  obtain⟨a',w0,_,h⟩:=hl;have e3:b.fn=f':=by rcases h with⟨_,rfl⟩|⟨_,_,rfl⟩<;>exact e
  obtain h|⟨fn,s,r1,r2⟩:=hbl
  .rw[e3,hf'] at h;cases h
  .obtain⟨x,y,aF,r,o1,o2,s2,aD,hp,_⟩:=hlk;have:=hp.func;rw[<-e3,r1] at this;cases this;have:=hp.text;rw[r2] at this
   cases this) (C:=C) (cs:=cs) (.on zR) (.on zR) Fa hroom aA hold aB λhs=>MQ (N:=N) B.la (by simp) hs hc
 refine h0.bind λg2 w' hq=>?_;obtain⟨g',w0,Ef,q1,q2,q3,q4,q5⟩:=hq;have a7:∀g2:Y,g'.callers=[bad]->Gf P EI H U BC (C::cs) Ef g' g2->g2.callers=C::cs:=by
  intro g2 e1 e2;have:=e2.callers;rw[e1] at this;generalize g2.callers=X at this;cases this with
  |base=>rfl
  |cons _ h=>exact AS rfl h.ne
 have a8:EC P.a EI H U Ef g'.L g2.L:=by
  have a6:=q4.top;obtain⟨a',wl,l1,l2⟩:=q1;generalize hf:g'.L=fr at a6 ⊢;generalize g2.L=FR at a6 ⊢;cases a6 with
  |on h=>exact h
  |@stop f A A' kd s1 s2 s3 s4 =>
   exfalso;obtain⟨fn,s,r1,r2⟩|⟨x,y,fn,r,o1,o2,s,aD,hp,_⟩:=B.ref f s1 s2
   rotate_left
   .obtain⟨_,rfl⟩|⟨_,todo,rfl⟩:=l2
    .have e : k = [.code (.seq (.L r #[o1, o2] U) (.cond (.tmp 1) .ret (.refuse s)))] := by
      have:=Bh js hf;simpa [Go.EB.Fc,b8,hp.func,hp.text,Frame.at] using this
     exact aC f x y fn r o1 o2 s hp _ hp.text e
    .have:=Bh np hf;simp[Go.EB.Fc,b8] at this
   obtain⟨_,rfl⟩|⟨_,todo,rfl⟩:=l2
   .have : k = [.code (.refuse s)] := by
     have:=Bh js hf;simpa [Go.EB.Fc,b8,r1,r2,Frame.at] using this
    exact hk s this
   .have:=Bh np hf;simp[Go.EB.Fc,b8] at this
 have eF:g'.L=g2.L:=EC.id (P:=EK.of P.a) q3 a8;have e2:g2=Fc g2.L g2.callers:=by
  obtain⟨x1,x2,x3,x4,x5⟩:=g2;obtain⟨_,_,⟨_,s1⟩,⟨_,d1⟩,⟨_,o1⟩⟩:=q4;dsimp only at *;subst s1 d1 o1
  rfl
 obtain⟨a',wl,l1,l2⟩:=q1;obtain⟨l3,l4⟩|⟨l3,todo,l4⟩:=l2
 .have:=a7 g2 (by rw[l4];rfl) q4;rw[e2,this,<-eF,l4];exact(h1 a' wl l3).same hQ (l1.trans q2)
 .have:=a7 g2 (by rw[l4];rfl) q4;have hpl:∀o,g'.L.oper?=bc o->aN P.b o.op=true:=λo ho=>cG a8 (λf h=>(B.lc.nm f h).2) (λ_=>rfl) o ho;rw[l4] at hpl;rw[e2,this,<-eF,l4];exact(h2 a' wl todo l3 hpl).same hQ (l1.trans q2)
end
section
variable {P:EK} {S:FO} {Ck:jk->Prop} {G:Nat} {β:Ey}
def rG {α H2:Type}{m:Sem α}{M:Sem H2}{R:Ey->α->H2->Prop}(h:∀w W,EU S Ck G β w W->∀es,∃s w' es',m.L P.a w es=(.halt (.stuck s) w',es')):Eo P S Ck G β m M R:=by
 intro w W n hw ht a6 a7 _;obtain⟨s,w',es',e⟩:=h w W hw a6;rw[e];trivial
def p8 (f:bo):Eo P S Ck G β (mark (.extern f)) (mark (.extern f)) (λ_ _ _=>True):=by
 intro w W n hw ht a6 a7 _;have e1:(mark (.extern f)).L P.a w a6=(.ok () w,a6.LE ⟨.mark (.extern f),U,I⟩):=rfl;have e2:(mark (.extern f)).L P.b W a7=(.ok () W,a7.LE ⟨.mark (.extern f),U,I⟩):=rfl;rw[e1,e2];exact⟨β,(),W,[⟨.mark (.extern f),U,I⟩],by simp,trivial,{ Fin.refl hw with evs:=λ_ E hE=>by cases CD.1 hE;exact .mark (.extern f) }⟩
def ly (k:e7){a A:ko}(h:Fh β a A):Eo P S Ck G β (bD (.int k) a) (bD (.int k) A) (λEf v V=>Ee S Ef v V):=by
 unfold bD;refine Ea (iK h .atomic) ?_;intro a6 v V _ hv;cases hv with
 |int k' n =>
  split
  .rename_i k2 k3 _ e1 e2;cases e1;cases e2;split
   .exact Eb (.int _ _)
   .exact Ej (by intro g e;cases e)
  all_goals simp_all
 |ptr o s hb =>
  cases k<;>first|exact Eb (.ptr o s hb)|exact Ej (by intro g e;cases e)
 |_=>cases k<;>exact Ej (by intro g e;cases e)
def p9 {k:e7}(hk:k≠.u64){a A:ko}(h:Fh β a A):Eo P S Ck G β (bD (.int k) a) (bD (.int k) A) (λ_ v V=>∃n,v=.int k n/\V=.int k n):=by
 unfold bD;refine Ea (iK h .atomic) ?_;intro a6 v V _ hv;cases hv with
 |int k' n =>
  split
  .rename_i k2 k3 _ e1 e2;cases e1;cases e2;split
   .rename_i e;subst e;exact Eb ⟨n,rfl,rfl⟩
   .exact Ej (by intro g e;cases e)
  all_goals simp_all
 |ptr o s hb =>
  cases k<;>first|exact AS rfl hk|exact Ej (by intro g e;cases e)
 |_=>cases k<;>exact Ej (by intro g e;cases e)
def rH (k:e7){x X:Array cu}(h:Ei S β x X):Eo P S Ck G β (ea (.int k) x) (ea (.int k) X) (λEf v V=>Ee S Ef v V):=by
 have hl:=h.LK;obtain⟨l⟩:=x;obtain⟨L⟩:=X;simp only at hl;cases hl with
 |nil=>exact Eg
 |cons ha hr =>
  cases hr with
  |cons _ _=>exact Eg
  |nil =>
   refine Ea (eD ha) ?_;intro a6 a A _ hA;exact ly k hA
def t8 (k:e7){x X:Array cu}(h:Ei S β x X):Eo P S Ck G β (dy (Op.intArith .add) k I x) (dy (Op.intArith .add) k I X) (λEf v V=>Ee S Ef v V):=by
 have hl:=h.LK;obtain⟨l⟩:=x;obtain⟨L⟩:=X;simp only at hl;cases hl with
 |nil=>exact Eg
 |cons ha hr =>
  cases hr with
  |nil=>exact Eg
  |cons hb hr =>
   cases hr with
   |cons _ _=>exact Eg
   |nil =>
    refine Ea (eD ha) ?_;intro aB a A a8 hA;refine Ea (ly k hA) ?_;intro aC v V a6 hv;refine Ea (fk hv) ?_;rintro aD n _ a7 rfl;refine Ea (fk ((((hb.LT a8).LT a6)).LT a7)) ?_;rintro aF m _ aA rfl;refine Ea (R:=λEf a A=>Ee S Ef a A) (Eb (.int _ _)) ?_;intro aG z Z le5 hz;refine Ea (jc ((((hA.LT a6).LT a7).LT aA).LT le5) .atomic hz) ?_;intro aH _ _ le6 _
    exact Eb (hz.LT le6)
def rI {a A:ko}(h:Fh β a A)(hh:S.LH a.LE=U):Eo P S Ck G β (kp a) (kp A) (λ_ x X=>x=U->X=U):=by
 intro w W n hw ht a6 a7 _;have e1:(kp a).L P.a w a6=(.ok (w.O a) w,a6):=rfl;have e2:(kp A).L P.b W a7=(.ok (W.O A) W,a7):=rfl;rw[e1,e2];refine⟨β,W.O A,W,[],by simp,λhz=>?_,Fin.refl hw⟩;obtain⟨o,O,h1,h2,h3⟩:=hw.F4 _ _ h.LE hh;rw[bg,h1] at hz;rw[bg,h2];cases h3 with
 |cells ha hf =>
  simp only[B5,Bf,QW] at hz ⊢;rw[<-h.off];refine Bool.eq_false_iff.2 λhc=>?_;simp only[AY,decide_eq_true_eq,Bool.decide_and] at hc;obtain⟨p,q⟩:=hf _ hc.1 hc.2;simp[p,q] at hz
 |_=>rfl
def ua {w W:J}(hw:EU S Ck G β w W){a A:ko}(h:Fh β a A)(hh:S.LH a.LE=I):w.S a=none:=by
 unfold World.cell?;rw[(hw.Ge _ _ h.LE hh).1]
def ub {a A:ko}(h:Fh β a A)(hh:S.LH a.LE=U):Eo P S Ck G β (bW a) (bW A) (λ_ x X=>x=U->X=U):=by
 unfold bW;refine Ea (ig h.LE) ?_;rintro a6 _ _ zX ⟨rfl,rfl⟩;exact rI (h.LT zX) hh
def NL {w W:J}(hw:EU S Ck G β w W){a A:ko}(h:Fh β a A)(hh:S.LH a.LE=I)(es:Array cE):∃es',(bW a).L P.a w es=(.ok U w,es'):=by
 have e0:(shape a.LE).L P.a w es=(.ok b6 w,es):=by
  show(Result.ok (w.T a.LE) w,es)=_;unfold World.shape?;rw[(hw.Ge _ _ h.LE hh).1]
 have e1:(viewAt a.LE).L P.a w es=(.ok b6 w,es.LE ⟨.obj a.LE,U,U⟩):=by
  unfold viewAt;rw[ai,e0];simp only[CZ,Bj,if_false];rw[ai];have:(Go.getObj a.LE).L P.a w es=(.ok (.coro b6) w,es.LE ⟨.obj a.LE,U,U⟩):=by
   simp only[Go.getObj,Sem.runT,(hw.Ge _ _ h.LE hh).1];rfl
  rw[this]
  rfl
 refine⟨es.LE ⟨.obj a.LE,U,U⟩,?_⟩;unfold bW;rw[ai,e1];show(Result.ok (w.O a) w,_)=_;rw[bg,(hw.Ge _ _ h.LE hh).1]
 rfl
def ud {k:e7}(hk:k≠.u64){x X:Array cu}(h:Ei S β x X):Eo P S Ck G β (ed (.int k) x) (ed (.int k) X) (λEf v V=>Ee S Ef v V):=by
 have hl:=h.LK;obtain⟨l⟩:=x;obtain⟨L⟩:=X;simp only at hl;cases hl with
 |nil=>exact Eg
 |cons ha hr =>
  cases hr with
  |nil=>exact Eg
  |cons hb hr =>
   cases hr with
   |nil=>exact Eg
   |cons hc hr =>
    cases hr with
    |cons _ _=>exact Eg
    |nil =>
     refine Ea (eD ha) ?_;intro aF a A aC hA;cases hh:S.LH a.LE with
     |true =>
      refine rG λw W hw es=>?_;obtain⟨aA,e1⟩:=NL (P:=P) hw hA hh es;obtain⟨s,hs⟩:=(Ni (P:=P) hw hA).1 I;have e2:∀es,(bD (.int k) a).L P.a w es=(.halt (.stuck s) w,es):=λes=>by
       unfold bD;rw[ai];have:(Go.load a .atomic).L P.a w es=(.halt (.stuck s) w,es):=by
        simp only[Go.load,Sem.runT,ua hw hA hh];have:(Mode.atomic==Mode.atomic)=true:=rfl;rw[this,hs]
       rw[this]
      refine⟨s,w,aA,?_⟩;rw[ai,e1];simp only[Bj,if_false];rw[ai];have e3:(pure PUnit.unit:Sem PUnit).L P.a w aA=(.ok PUnit.unit w,aA):=rfl
      first
       |(rw[e3];simp only;rw[ai,ai,e2])
       |(rw[ai,e2])
       |(rw[e2])
     |false =>
      refine Ea (ub hA hh) ?_;intro aG z Z a8 hz;cases z with
      |true=>exact Ej (by intro g e;cases e)
      |false =>
       rw[hz rfl];simp only[Bj,if_false];refine Ea (p9 hk (hA.LT a8)) ?_;rintro aD v V aB ⟨n1,rfl,rfl⟩;have hA3:=(hA.LT a8).LT aB;have hb3:=((hb.LT aC).LT a8).LT aB;have hc3:=((hc.LT aC).LT a8).LT aB;have fin:∀(a6:Ey) (q:Bool),aD.le a6->∀ {c C:cu},Ee S aD c C->Eo P S Ck G a6 (do if q=I then do store a c .atomic;pure (j1 q) else pure (j1 q)) (do if q=I then do store A C .atomic;pure (j1 q) else pure (j1 q)) (λEf v V=>Ee S Ef v V):=by
        intro a6 q a7 c C hcc;cases q with
        |false=>exact Eb (.bool _)
        |true =>
         refine Ea (jc (hA3.LT a7) .atomic (hcc.LT a7)) ?_;intro aH _ _ _ _;exact Eb (.bool _)
       cases hb3 with
       |int k2 n2 =>
        refine Ea (m:=pure (n1==n2)) (R:=λ_ a A=>a=A) (Eb rfl) ?_;rintro a6 q _ a7 rfl;exact fin a6 q a7 hc3
       |ptr o s hb =>
        cases n1 with
        |ofNat m =>
         cases m with
         |zero =>
          refine Ea (m:=pure U) (R:=λ_ a A=>a=A) (Eb rfl) ?_;rintro a6 q _ a7 rfl;exact fin a6 q a7 hc3
         |succ m=>exact Ea (R:=λ_ _ _=>False) (Ej (u:=.L) (by intro g e;cases e)) (λ_ _ _ _ h=>h.S)
        |negSucc m=>exact Ea (R:=λ_ _ _=>False) (Ej (u:=.L) (by intro g e;cases e)) (λ_ _ _ _ h=>h.S)
       |blank _ _ =>
        cases n1 with
        |ofNat m=>cases m<;>exact GC ((show zO P (stuck "atomic.CompareAndSwap: old is no T":Sem Bool) from λw es=>.inl ⟨_,_,_,rfl⟩).bind _)
        |negSucc m=>exact GC ((show zO P (stuck "atomic.CompareAndSwap: old is no T":Sem Bool) from λw es=>.inl ⟨_,_,_,rfl⟩).bind _)
       |_ =>
        cases n1 with
        |ofNat m=>cases m<;>exact Ea (R:=λ_ _ _=>False) (Eg (s := "atomic.CompareAndSwap: old is no T")) (λ_ _ _ _ h=>h.S)
        |negSucc m=>exact Ea (R:=λ_ _ _=>False) (Eg (s := "atomic.CompareAndSwap: old is no T")) (λ_ _ _ _ h=>h.S)
end
def JV (p:b7)(SB:bo->Bool)(zZ:Bool)(f:bo):Bool:=match p.L[f]? with
 |some fn=>fn.name != "runtime.NumGoroutine"&&match fn.body with
  |some c=>codeOk p SB zZ I c
  |none=>U
 |none=>U
def FV {p:b7}{SB:bo->Bool}{zZ:Bool}{f:bo}(this:JV p SB zZ f=I):∃fn c,p.L[f]?=bc fn/\fn.name ≠ "runtime.NumGoroutine"/\fn.body=bc c/\codeOk p SB zZ I c=true:=by
 unfold JV at this;cases hq:p.L[f]? with
 |none=>rw[hq] at this;cases this
 |some fn =>
  rw[hq] at this;cases hb:fn.body with
  |none=>simp[hb] at this
  |some c=>simp[hb] at this;exact⟨fn,c,rfl,this.1,hb,this.2⟩
def Jb (P:EK)(f:bo):Prop:=∃fn Hq s,P.a.L[f]?=bc fn/\P.fs[f]?=bc Hq/\fn.name ≠ "runtime.NumGoroutine"/\Hq.name ≠ "runtime.NumGoroutine"/\fn.body=bc (.refuse s)/\Hq.body.isSome=I
def eX {P:EK}{S:FO}{Ck:jk->Prop}{G:Nat}{β:Ey}{f:bo}(h:Jb P f)(hf:S.fn f){a A:Array cu}(ha:Ei S β a A):Eo P S Ck G β (ln f a) (ln f A) (Iz S Ck):=by
 obtain⟨fn,Hq,s,h1,h2,h3,h4,h5,h6⟩:=h;exact ca h1 h2 h3 h4 (by rw[h5];rfl) h6 hf ha
def Jb.bars {P:EK}{f:bo}(h:Jb P f):∃fn s,P.a.L[f]?=bc fn/\fn.body=bc (.refuse s):=by
 obtain⟨fn,Hq,s,h1,h2,h3,h4,h5,h6⟩:=h;exact⟨fn,s,h1,h5⟩
def yn {p:b7}{SB:bo->Bool}{H:Hid}{Gn:Nat}(h:∀f,SB f=I->JV p SB U f=I)(a6:∀f,aP SB f=I->Jb (EK.of p) f)(hg:p.globals.size<=Gn/\p.info? big=b6):Lib (EK.of p) SB H U SB Gn:=by
 refine⟨⟨hg.2,λf hf β a A ha=>?_⟩,λf hf=>?_,λf hf=>?_,hg.1,λf hf=>?_,λ_ h=>h,λf hf=>(a6 f hf).bars⟩
 .have a7:=hf;obtain hf|hf:=hf
  .obtain⟨fn,c,h1,h2,h3,_⟩:=FV (h f hf);exact ca (P:=EK.of p) h1 h1 h2 h2 (by rw[h3];rfl) (by rw[h3];rfl) a7 ha
  .exact eX (a6 f hf) a7 ha
 .obtain⟨fn,c,h1,_,h3,h4⟩:=FV (h f hf);exact⟨fn,c,h1,by rw[h3];rfl,h4,h1⟩
 .obtain⟨fn,c,h1,_,_,_⟩:=FV (h f hf);exact⟨fn,fn,h1,h1,rfl⟩
 .obtain⟨fn,c,h1,_,h3,_⟩:=FV (h f hf);have:=aZ h1 (by rw[h3];rfl);exact⟨this,this⟩
def vW {P:EK}{SB BB:bo->Bool}{H:Hid}{zZ:Bool}{Gn:Nat}(h:∀f,BB f=I->JV P.a SB zZ f=I)(same:∀f,BB f=I->P.fs[f]?=P.a.L[f]?)
  (stops:∀f,SB f=I->BB f=U->∃fn Hq,P.a.L[f]?=bc fn/\P.fs[f]?=bc Hq/\fn.results=Hq.results/\fn.name ≠ "runtime.NumGoroutine"/\Hq.name ≠ "runtime.NumGoroutine"/\fn.body.isSome=I/\Hq.body.isSome=I)
  (sub:∀f,BB f=I->SB f=I) (a7:∀f,aP SB f=I->Jb P f) (hg:P.a.globals.size<=Gn/\P.a.info? big=b6):Lib P SB H zZ BB Gn:=by
 refine⟨⟨hg.2,λf hf β a A ha=>?_⟩,λf hf=>?_,λf hf=>?_,hg.1,λf hf=>?_,sub,λf hf=>(a7 f hf).bars⟩
 .have a6:=hf;obtain hf|hf:=hf
  rotate_left
  .exact eX (a7 f hf) a6 ha
  cases hb:BB f with
  |true =>
   obtain⟨fn,c,h1,h2,h3,_⟩:=FV (h f hb);exact ca h1 ((same f hb).trans h1) h2 h2 (by rw[h3];rfl) (by rw[h3];rfl) a6 ha
  |false =>
   obtain⟨fn,Hq,h1,h2,_,h3,h4,h5,h6⟩:=stops f hf hb;exact ca h1 h2 h3 h4 h5 h6 a6 ha
 .obtain⟨fn,c,h1,_,h3,h4⟩:=FV (h f hf);exact⟨fn,c,h1,by rw[h3];rfl,h4,(same f hf).trans h1⟩
 .cases hb:BB f with
  |true =>
   obtain⟨fn,c,h1,_,_,_⟩:=FV (h f hb);exact⟨fn,fn,h1,(same f hb).trans h1,rfl⟩
  |false =>
   obtain⟨fn,Hq,h1,h2,h3,_⟩:=stops f hf hb;exact⟨fn,Hq,h1,h2,h3⟩
 .cases hb:BB f with
  |true =>
   obtain⟨fn,c,h1,_,h3,_⟩:=FV (h f hb);exact⟨aZ h1 (by rw[h3];rfl),aZ (p:=P.b) ((same f hb).trans h1) (by rw[h3];rfl)⟩
  |false =>
   obtain⟨fn,Hq,h1,h2,_,_,_,h5,h6⟩:=stops f hf hb;exact⟨aZ h1 h5,aZ (p:=P.b) h2 h6⟩
inductive KM:(Array cu->Sem cu)->Prop
 |load (k:e7):KM (ea (.int k))
 |add (k:e7):KM (dy (Op.intArith .add) k I)
 |FQ (k:e7):k≠.u64->KM (ed (.int k))
section
variable {P:EK} {S:FO} {Ck:jk->Prop} {G:Nat} {β:Ey}
def rJ {e:Array cu->Sem cu}(h:KM e){a A:Array cu}(ha:Ei S β a A):Eo P S Ck G β (e a) (e A) (λEf v V=>Ee S Ef v V):=by
 cases h with
 |load k=>exact rH k ha
 |add k=>exact t8 k ha
 |FQ k hk=>exact ud hk ha
def LZ (P:EK)(f:bo):Prop:=∃fn e,P.a.L[f]?=bc fn/\P.fs[f]?=bc fn/\(fn.name == "runtime.NumGoroutine")=U/\fn.body.L=I/\Extern.findNext fn=b6/\Extern.find fn=bc e/\KM e/\jh fn.name=U
def jN {f:bo}(h:LZ P f){a A:Array cu}(ha:Ei S β a A):Eo P S Ck G β (ln f a) (ln f A) (Iz S Ck):=by
 obtain⟨fn,e,h1,h2,h3,h4,h5,h6,h7,_⟩:=h;refine Ea aU ?_;rintro a7 p p' zX ⟨hp,a8⟩;subst p p';rw[h1,show P.b.L[f]?=bc fn from h2];simp only[h3,h4,h5,h6,Bj,if_false,if_true];refine Ea (p8 f) ?_;intro aA _ _ a6 _;refine Ea (rJ h7 ((ha.LT zX).LT a6)) ?_;intro aB v V _ hv;exact Eb (.value hv)
def oW {p:b7}{SB:bo->Bool}{H:Hid}{Gn:Nat}(h:∀f,SB f=I->JV p SB U f=I\/LZ (EK.of p) f)(a6:∀f,aP SB f=I->Jb (EK.of p) f)(hg:p.globals.size<=Gn/\p.info? big=b6):Lib (EK.of p) SB H U SB Gn:=by
 refine⟨⟨hg.2,λf hf β a A ha=>?_⟩,λf hf=>?_,λf hf=>?_,hg.1,λf hf=>?_,λ_ h=>h,λf hf=>(a6 f hf).bars⟩
 .have a7:=hf;obtain hf|hf:=hf
  rotate_left
  .exact eX (a6 f hf) a7 ha
  obtain h0|h0:=h f hf
  .obtain⟨fn,c,h1,h2,h3,_⟩:=FV h0;exact ca (P:=EK.of p) h1 h1 h2 h2 (by rw[h3];rfl) (by rw[h3];rfl) a7 ha
  .exact jN h0 ha
 .obtain h0|⟨fn,e,h1,h2,_,h4,_⟩:=h f hf
  .obtain⟨fn,c,h1,_,h3,h4⟩:=FV h0;exact⟨fn,c,h1,by rw[h3];rfl,h4,h1⟩
  .refine⟨fn,_,h1,rfl,?_,h2⟩;have:fn.body=none:=by simpa using h4
   rw[this];rfl
 .obtain h0|⟨fn,e,h1,h2,_⟩:=h f hf
  .obtain⟨fn,c,h1,_,_,_⟩:=FV h0;exact⟨fn,fn,h1,h1,rfl⟩
  .exact⟨fn,fn,h1,h2,rfl⟩
 .obtain h0|⟨fn,e,h1,h2,_,_,_,_,_,h8⟩:=h f hf
  .obtain⟨fn,c,h1,_,h3,_⟩:=FV h0;have:=aZ h1 (by rw[h3];rfl);exact⟨this,this⟩
  .exact⟨ep h1 h8,ep (p:=(EK.of p).b) h2 h8⟩
def iM {P:EK}{SB BB:bo->Bool}{H:Hid}{zZ:Bool}{Gn:Nat}(h:∀f,BB f=I->(JV P.a SB zZ f=I/\P.fs[f]?=P.a.L[f]?)\/LZ P f)
  (stops:∀f,SB f=I->BB f=U->∃fn Hq,P.a.L[f]?=bc fn/\P.fs[f]?=bc Hq/\fn.results=Hq.results/\fn.name ≠ "runtime.NumGoroutine"/\Hq.name ≠ "runtime.NumGoroutine"/\fn.body.isSome=I/\Hq.body.isSome=I)
  (sub:∀f,BB f=I->SB f=I) (a7:∀f,aP SB f=I->Jb P f) (hg:P.a.globals.size<=Gn/\P.a.info? big=b6):Lib P SB H zZ BB Gn:=by
 refine⟨⟨hg.2,λf hf β a A ha=>?_⟩,λf hf=>?_,λf hf=>?_,hg.1,λf hf=>?_,sub,λf hf=>(a7 f hf).bars⟩
 .have a6:=hf;obtain hf|hf:=hf
  rotate_left
  .exact eX (a7 f hf) a6 ha
  cases hb:BB f with
  |true =>
   obtain⟨h0,hs⟩|h0:=h f hb
   .obtain⟨fn,c,h1,h2,h3,_⟩:=FV h0;exact ca h1 (hs.trans h1) h2 h2 (by rw[h3];rfl) (by rw[h3];rfl) a6 ha
   .exact jN h0 ha
  |false =>
   obtain⟨fn,Hq,h1,h2,_,h3,h4,h5,h6⟩:=stops f hf hb;exact ca h1 h2 h3 h4 h5 h6 a6 ha
 .obtain⟨h0,hs⟩|⟨fn,e,h1,h2,_,h4,_⟩:=h f hf
  .obtain⟨fn,c,h1,_,h3,h4⟩:=FV h0;exact⟨fn,c,h1,by rw[h3];rfl,h4,hs.trans h1⟩
  .refine⟨fn,_,h1,rfl,?_,h2⟩;have:fn.body=none:=by simpa using h4
   rw[this];rfl
 .cases hb:BB f with
  |true =>
   obtain⟨h0,hs⟩|⟨fn,e,h1,h2,_⟩:=h f hb
   .obtain⟨fn,c,h1,_,_,_⟩:=FV h0;exact⟨fn,fn,h1,hs.trans h1,rfl⟩
   .exact⟨fn,fn,h1,h2,rfl⟩
  |false =>
   obtain⟨fn,Hq,h1,h2,h3,_⟩:=stops f hf hb;exact⟨fn,Hq,h1,h2,h3⟩
 .cases hb:BB f with
  |true =>
   obtain⟨h0,hs⟩|⟨fn,e,h1,h2,_,_,_,_,_,h8⟩:=h f hb
   .obtain⟨fn,c,h1,_,h3,_⟩:=FV h0;exact⟨aZ h1 (by rw[h3];rfl),aZ (p:=P.b) (hs.trans h1) (by rw[h3];rfl)⟩
   .exact⟨ep h1 h8,ep (p:=P.b) h2 h8⟩
  |false =>
   obtain⟨fn,Hq,h1,h2,_,_,_,h5,h6⟩:=stops f hf hb;exact⟨aZ h1 h5,aZ (p:=P.b) h2 h6⟩
end
open Go.Conc Go.ConcN
structure TI (Sh:Loc->Prop)(Wr Rd:Nat->Loc->Prop)(N:Nat)(t:e9):Prop where
 LE:Quiet Sh t
 LH:∀k,k<N->∀l,Wr k l->Perm t k l
 rd:∀k,k<N->∀l,Rd k l->PermW t k l
 nr:∀said,¬Race said t
 gs:∀(i:Nat) (op:mA),t[i]?=bc op->op.g<N
def ir (t:e9)(l:Loc):Prop:=∀i a,touchAt t i=bc a->a.loc≠l
section
variable {Sh:Loc->Prop} {Wr Rd Wr' Rd':Nat->Loc->Prop} {N k:Nat} {t u:e9}
def OkOp (Sh:Loc->Prop)(Wr Rd:Nat->Loc->Prop)(k:Nat)(op:mA):Prop :=
 op.g=k/\∀x,op.act.L=bc x->x.loc.L=U\/(Sh x.loc/\x.kind≠.plain/\(x.kind=.said->k=0))\/(¬Sh x.loc/\(x.write=I->Wr k x.loc)/\(x.write=U->Rd k x.loc))
def TI.app (h:TI Sh Wr Rd N t)(hk:k<N)(hu:∀op∈u,OkOp Sh Wr' Rd' k op)
  (others:∀j,j≠k->∀l,(Wr' j l->Wr j l)/\(Rd' j l->Rd j l)) (a8:∀l,Wr' k l->Wr k l\/ir t l) (aA:∀l,Rd' k l->Rd k l\/ir t l)
  (sh:∀j l,Sh l->¬Wr' j l/\¬Rd' j l) (mem:∀l,(Sh l\/∃j,Wr' j l\/Rd' j l)->l.L=I) (apart:∀j,j≠k->j<N->∀l,(Wr' k l->¬Rd' j l/\¬Wr' j l)/\(Rd' k l->¬Wr' j l)):TI Sh Wr' Rd' N (t++u):=by
 have perm:∀l,Wr' k l->Perm t k l:=λl hl=>(a8 l hl).S (h.LH k hk l) λhf i a ha e=>AS e (hf i a ha);have a6:∀l,Rd' k l->PermW t k l:=λl hl=>(aA l hl).S (h.rd k hk l) λhf i a ha e=>AS e (hf i a ha);refine⟨h.LE.app λop hop x hx hs=>?_,λj hj l hl=>?_,λj hj l hl=>?_,λsaid=>?_,λi op hi=>?_⟩
 .obtain hm|⟨_,h1,h2⟩|⟨hn,_⟩:=(hu op hop).2 x hx
  .rw[mem _ (.inl hs)] at hm;cases hm
  .exact⟨h1,λe=>(hu op hop).1.trans (h2 e)⟩
  .exact AS hs hn
 .by_cases e:j=k
  .subst e;exact(perm l hl).app λop hop _ _ _=>(hu op hop).1
  .refine(h.LH j hj l ((others j e l).1 hl)).app λop hop b hb e'=>?_;obtain hm|⟨hs,_⟩|⟨_,h1,h2⟩:=(hu op hop).2 b hb
   .rw[e',mem _ (.inr ⟨j,.inl hl⟩)] at hm;cases hm
   .exact AS hl (sh j l (e'▸hs)).1
   .cases hw:b.write with
    |true=>exact AS hl ((apart j e hj l).1 (e'▸h1 hw)).2
    |false=>exact AS hl ((apart j e hj l).2 (e'▸h2 hw))
 .by_cases e:j=k
  .subst e;exact(a6 l hl).app λop hop _ _ _ _=>(hu op hop).1
  .refine(h.rd j hj l ((others j e l).2 hl)).app λop hop b hb e' hw=>?_;obtain hm|⟨hs,_⟩|⟨_,h1,_⟩:=(hu op hop).2 b hb
   .rw[e',mem _ (.inr ⟨j,.inr hl⟩)] at hm;cases hm
   .exact AS hl (sh j l (e'▸hs)).2
   .exact AS hl ((apart j e hj l).1 (e'▸h1 hw)).1
 .refine hZ (h.nr said) (λop hop=>(hu op hop).1) (λi a ha op hop b hb hc=>?_);obtain hm|⟨hs,h1,h2⟩|⟨_,h1,h2⟩:=(hu op hop).2 b hb
  .have:=hc.2.1;rw[hc.1,hm] at this;cases this
  .exact h.LE.known hs h1 h2 i a ha hc
  .cases a7:b.write with
   |true=>exact perm b.loc (h1 a7) i a ha hc.1
   |false=>exact a6 b.loc (h2 a7) i a ha hc.1 (hc.2.2.1.resolve_right (by simp[a7]))
 .obtain⟨_,hi'⟩|⟨_,aB⟩:=br hi
  .exact h.gs i op hi'
  .rw[(hu op aB).1];exact hk
def TI.LT (h:TI Sh Wr Rd N t)(hw:∀k l,Wr' k l->Wr k l)(hr:∀k l,Rd' k l->Rd k l):TI Sh Wr' Rd' N t :=
 ⟨h.LE,λk hk l hl=>h.LH k hk l (hw k l hl),λk hk l hl=>h.rd k hk l (hr k l hl),h.nr,h.gs⟩
def TI.fork (h:TI Sh Wr Rd N t){x y:mA}(hN:0<N)(hx:x.g=0/\x.act=.go N)(hy:y.g=N/\y.act=.start)(h0:n4 t 0=0)
  (others:∀j,j<N->∀l,(Wr' j l->Wr j l)/\(Rd' j l->Rd j l)) (child:∀l,(Wr' N l->Wr 0 l)/\(Rd' N l->Rd 0 l)):TI Sh Wr' Rd' (N+1) (t++#[x,y]):=by
 have hk:n4 t N=0:=Deaf_absent λi op hi e=>by have:=h.gs i op hi;omega
 have a6:∀op∈#[x,y],∀b,op.act.L=bc b->False:=by
  intro op hop b hb;simp only[Cd,AT,AQ,or_false] at hop;obtain rfl|rfl:=hop
  .rw[hx.2] at hb;cases hb
  .rw[hy.2] at hb;cases hb
 have old:∀ {i:Nat} {a:Touch},touchAt (t++#[x,y]) i=bc a->touchAt t i=bc a:=by
  intro i a ha;obtain⟨z,hz,hza⟩:=fq ha;obtain⟨_,hz'⟩|⟨_,a8⟩:=br hz
  .rw[lu hz'];exact hza
  .exact(a6 z a8 a hza).S
 refine⟨h.LE.app λop hop b hb _=>(a6 op hop b hb).S,λk aA l hl=>?_,λk aA l hl=>?_,λsaid=>?_,λi op hi=>?_⟩
 .obtain zY|aB:=BV k N
  .exact(h.LH k zY l ((others k zY l).1 hl)).app λop hop b hb _=>(a6 op hop b hb).S
  .obtain rfl:k=N:=by omega
   exact λi a ha e=>fork_knows hx hy h0 hk (h.LH 0 hN l ((child l).1 hl) i a (old ha) e)
 .obtain zY|aB:=BV k N
  .exact(h.rd k zY l ((others k zY l).2 hl)).app λop hop b hb _ _=>(a6 op hop b hb).S
  .obtain rfl:k=N:=by omega
   exact λi a ha e hw=>fork_knows hx hy h0 hk (h.rd 0 hN l ((child l).2 hl) i a (old ha) e hw)
 .have e:t++#[x,y]=(t++#[x])++#[y]:=by apply Array.ext';simp
  rw[e];refine hZ (g:=N) (hZ (g:=0) (h.nr said) (λop hop=>by simp at hop;rw[hop];exact hx.1) (λi a _ op hop b hb _=>(a6 op (by simp at hop ⊢;exact .inl hop) b hb).S))
   (λop hop=>by simp at hop;rw[hop];exact hy.1) (λi a _ op hop b hb _=>(a6 op (by simp at hop ⊢;exact .inr hop) b hb).S)
 .obtain⟨_,hi'⟩|⟨_,a7⟩:=br hi
  .have:=h.gs i op hi';omega
  .simp only[Cd,AT,AQ,or_false] at a7;obtain rfl|rfl:=a7
   .rw[hx.1];omega
   .rw[hy.1];omega
end
inductive One {α:Type}(R:α->α->Prop):List α->List α->Prop
 |head {x y:α} {l:List α}:R x y->One R (x::l) (y::l)
 |tail {a:α} {l l':List α}:One R l l'->One R (a::l) (a::l')
def One.cons {α:Type}{R:α->α->Prop}{a:α}(ha:Acc R a):∀ {l:List α},Acc (One R) l->Acc (One R) (a::l):=by
 induction ha with
 |intro a _ iha =>
  intro l hl
  induction hl with
  |intro l hl ihl =>
   refine .intro _ λm hm=>?_;cases hm with
   |head h=>exact iha _ h (.intro l hl)
   |tail h=>exact ihl _ h
def One.acc {α:Type}{R:α->α->Prop}:∀ {l:List α},(∀x∈l,Acc R x)->Acc (One R) l
 |[],_=>.intro _ λm hm=>by cases hm
 |a::l,h=>One.cons (h a (by simp)) (One.acc λx hx=>h x (by simp[hx]))
def One.Lo {α:Type}{R:α->α->Prop}:∀ {l:List α} {i:Nat} {x y:α},l[i]?=bc y->R x y->One R (l.Lo i x) l
 |_::_,0,_,_,h,r=>by
  simp only[Bt,cF] at h;subst h;exact .head r
 |_::l,i+1,_,_,h,r=>by
  simp only[Bz] at h;exact .tail (One.Lo h r)
def iE (P:b7)(l C:jk)(N:Act->J->Prop)(a:Act)(w:J):Prop :=
 ∀(b:bw) (k:List eC) (cs:List bw),∃a' w',N a' w'/\nA P (lone (b.at a (.code C::k)) cs w) (lone (b.at a' (.code l::k)) cs w')
def i6 {P:b7}{l:jk}{N:Act->J->Prop}{a:Act}{w:J}(h:N a w):iE P l l N a w:=λ_ _ _=>⟨a,w,h,.refl _ _⟩
def kh {P:b7}{l c r:jk}{N:Act->J->Prop}{a:Act}{w:J}(h:c.wp P (Exit.then (iE P l r N) λ_ _ _=>False) a w):iE P l (.seq c r) N a w:=λb k cs=>by
 obtain⟨e,a1,w1,hq,a6⟩:=h b (.code r::k) cs;cases e with
 |normal =>
  obtain⟨a2,w2,hn,hs⟩:=hq b k cs;exact⟨a2,w2,hn,.head lv (fx a6 hs)⟩
 |_=>exact hq.S
def nz:∀(n:Nat) (V:cu),h9 V<=n->∃v,(∀(S:FO) (β:Ey),S.LH.bl=I->Ee S β v V)/\∀(S:FO) (β:Ey),Ee S β v v:=by
 intro n
 induction n with
 |zero=>intro V h;cases V<;>simp at h
 |succ n ih =>
  intro V h;have un:oN V=I->∃v,(∀(S:FO) (β:Ey),S.LH.bl=I->Ee S β v V)/\∀(S:FO) (β:Ey),Ee S β v v:=λhb=>⟨hole,λS β h=>.blank (.inr h) hb,λS β=>.blank (.inl rfl) rfl⟩;cases V with
  |agg X =>
   have hx:∀i:_root_.Fin X.size,∃v,(∀(S:FO) (β:Ey),S.LH.bl=I->Ee S β v X[i])/\∀(S:FO) (β:Ey),Ee S β v v:=λi=>ih _ (by
    have:=gB X i.1 i.2;simp at h;simp only[Fin.getElem_fin]
    omega)
   refine⟨.agg (nt λi=>eG (hx i)),λS β hb=>.agg (by simp) λi v V h1 h2=>?_,λS β=>.agg rfl λi v V h1 h2=>?_⟩
   .obtain⟨hi,rfl⟩:=AJ.1 h2;obtain⟨_,rfl⟩:=AJ.1 h1;rw[Ds];exact(b9 (hx ⟨i,hi⟩)).1 S β hb
   .rw[h1] at h2;cases h2;obtain⟨hi,rfl⟩:=AJ.1 h1;rw[Ds];exact(b9 (hx _)).2 S β
  |tuple X =>
   have hx:∀i:_root_.Fin X.size,∃v,(∀(S:FO) (β:Ey),S.LH.bl=I->Ee S β v X[i])/\∀(S:FO) (β:Ey),Ee S β v v:=λi=>ih _ (by
    have:=gB X i.1 i.2;simp at h;simp only[Fin.getElem_fin]
    omega)
   refine⟨.tuple (nt λi=>eG (hx i)),λS β hb=>.tuple (by simp) λi v V h1 h2=>?_,λS β=>.tuple rfl λi v V h1 h2=>?_⟩
   .obtain⟨hi,rfl⟩:=AJ.1 h2;obtain⟨_,rfl⟩:=AJ.1 h1;rw[Ds];exact(b9 (hx ⟨i,hi⟩)).1 S β hb
   .rw[h1] at h2;cases h2;obtain⟨hi,rfl⟩:=AJ.1 h1;rw[Ds];exact(b9 (hx _)).2 S β
  |pointer a=>cases a with
   |none=>exact⟨.S b6,λ_ _ _=>.Hy,λ_ _=>.Hy⟩
   |some a=>exact un rfl
  |bool b=>exact⟨.bool b,λ_ _ _=>.bool b,λ_ _=>.bool b⟩
  |int k n=>exact⟨.int k n,λ_ _ _=>.int k n,λ_ _=>.int k n⟩
  |string s=>exact⟨.string s,λ_ _ _=>.string s,λ_ _=>.string s⟩
  |nilIface=>exact⟨.nilIface,λ_ _ _=>.nilIface,λ_ _=>.nilIface⟩
  |nilFunc=>exact⟨.nilFunc,λ_ _ _=>.nilFunc,λ_ _=>.nilFunc⟩
  |func f x c=>cases f with
   |method n=>exact⟨hm,λ_ _ h=>.E8 (.inr h),λ_ _=>.E8 (.inl rfl)⟩
   |_=>exact un rfl
  |_=>exact un rfl
noncomputable def gm (V:cu):Value:=eG (nz (h9 V) V (AK _))
def i7 (V:cu):(∀(S:FO) (β:Ey),S.LH.bl=I->Ee S β (gm V) V)/\∀(S:FO) (β:Ey),Ee S β (gm V) (gm V):=b9 (nz (h9 V) V (AK _))
noncomputable def cH (k:Nat->Bool)(C:Array cu):Array Value:=C.mapIdx λi V=>if k i then V else gm V
def iF (k:Nat->Bool)(C:Array cu):(cH k C).size=C.size:=by simp[cH]
def fU (k:Nat->Bool)(C:Array cu)(i:Nat):(cH k C)[i]?=(C[i]?).map λV=>if k i then V else gm V:=by simp[cH]
def mi {k:Nat->Bool}{C:Array cu}{i:Nat}(h:k i=I):(cH k C)[i]?=C[i]?:=by
 rw[fU];simp[h]
def og {S:FO}{β:Ey}{k:Nat->Bool}{C:Array cu}(hb:S.LH.bl=I)(h:∀i v,k i=I->C[i]?=bc v->Ee S β v v):Ei S β (cH k C) C:=by
 refine⟨iF _ _,λi v V h1 h2=>?_⟩;rw[fU,h2] at h1;simp only[B5,cF] at h1;subst h1;split
 .exact h i V ‹_› h2
 .exact(i7 V).1 S β hb
def nB {S:FO}{β:Ey}{k:Nat->Bool}{C:Array cu}(h:∀i v,k i=I->C[i]?=bc v->Ee S β v v):Ei S β (cH k C) (cH k C):=by
 refine⟨rfl,λi v V h1 h2=>?_⟩;rw[h1] at h2;cases h2;rw[fU] at h1;cases hC:C[i]? with
 |none=>rw[hC] at h1;cases h1
 |some V =>
  rw[hC] at h1;simp only[B5,cF] at h1;subst h1;split
  .exact h i V ‹_› hC
  .exact(i7 V).2 S β
noncomputable def iP (k:Nat->Bool):Obj->Obj
 |.cells C t f=>.cells (cH k C) t (0,max C.size f.2)
 |o=>o
noncomputable def bJ (K:Nat->Bool)(k:Nat->Nat->Bool)(W:J):World:={ W with heap:=W.L.mapIdx λb o=>if K b then iP (k b) o else o }
section
variable {K:Nat->Bool} {k:Nat->Nat->Bool} {W:J}
def ot:(bJ K k W).L.size=W.L.size:=by simp[bJ]
def ki (b:Nat):(bJ K k W).L[b]?=(W.L[b]?).map λo=>if K b then iP (k b) o else o:=by simp[bJ]
def fD {b:Nat}(hb:K b=I){C:Array cu}{t:j2}{f:Nat×Nat}(h:W.L[b]?=bc (.cells C t f)):(bJ K k W).L[b]?=bc (.cells (cH (k b) C) t (0,max C.size f.2)):=by
 rw[ki,h];simp[hb,iP]
def ov {b o:Nat}(h:K b=I->k b o=I):(bJ K k W).S ⟨b,o,b6⟩=W.S ⟨b,o,b6⟩:=by
 unfold World.cell?;dsimp only;rw[ki];cases hb:K b with
 |false=>cases W.L[b]?<;>simp
 |true =>
  cases hW:W.L[b]? with
  |none=>rfl
  |some o' =>
   cases o' with
   |cells C t f=>simp[iP,mi (h hb)]
   |_=>rfl
def sE {b:Nat}(hb:K b=I){C:Array cu}{t:j2}{f:Nat×Nat}(h:W.L[b]?=bc (.cells C t f)):Ro (bJ K k W) b :=
 ⟨_,_,_,fD hb h,λi hi=>by
  rw[iF] at hi
  exact⟨Bg _,AO hi (Nat.le_max_left _ _)⟩⟩
def Ln (S:FO)(K:Nat->Bool)(k:Nat->Nat->Bool)(W:J):Prop:=∀b,K b=I->∃C t f,W.L[b]?=bc (.cells C t f)/\∀i v,k b i=I->C[i]?=bc v->Ee S (E0 λb=>K b=I) v v
def ow {S:FO}{Ck:jk->Prop}(hb:S.LH.bl=I)(hh:∀b,S.LH b=U)(h:Ln S K k W):EU S Ck 0 (E0 λb=>K b=I) (bJ K k W) W:=by
 refine⟨⟨λh1 h2=>h1.2.LH.trans h2.2,λh1 h2=>h1.2.trans h2.2.LH,λ_=>⟨Bg _,Bg _⟩⟩,⟨Bg _,Bg _⟩,λb B hB _=>?_,λb B _ h=>?_,λb h=>?_,rfl⟩
 .obtain⟨hk,rfl⟩:=hB;obtain⟨C,t,f,h1,h2⟩:=h b hk;exact⟨_,_,fD hk h1,h1,.cells (og hb h2) λi _ hi=>⟨Bg _,AO hi (Nat.le_max_right _ _)⟩⟩
 .rw[hh] at h;cases h
 .rw[hh] at h;cases h
def Ms {S:FO}{Ck:jk->Prop}(h:Ln S K k W):∀b,K b=I->∃o,(bJ K k W).L[b]?=bc o/\Fb S Ck (E0 λb=>K b=I) o o:=λb hk=>by
 obtain⟨C,t,f,h1,h2⟩:=h b hk;exact⟨_,fD hk h1,.cells (nB h2) λi h1 h2=>⟨h1,h2⟩⟩
end
def Hid.nb:Hid:=⟨λ_=>U,U,I⟩
def aY (P:b7)(tgt:List eC)(C:jk)(N:Act->J->Prop)(a:Act)(w:J):Prop :=
 ∀(b:bw) (k:List eC) (cs:List bw),∃a' w',N a' w'/\nA P (lone (b.at a (.code C::k)) cs w) (lone (b.at a' (tgt++k)) cs w')
def dA (P:b7)(tg:Act->List eC)(C:jk)(N:Act->J->Prop)(a:Act)(w:J):Prop :=
 ∀(b:bw) (k:List eC) (cs:List bw),∃a' w',N a' w'/\nA P (lone (b.at a (.code C::k)) cs w) (lone (b.at a' (tg a'++k)) cs w')
section
variable {P:b7} {tgt:List eC} {C c r:jk} {N:Act->J->Prop} {a:Act} {w:J}
def ox (h:c.wp P (Exit.then (aY P tgt r N) λ_ _ _=>False) a w):aY P tgt (.seq c r) N a w:=λb k cs=>by
 obtain⟨e,a1,w1,hq,a6⟩:=h b (.code r::k) cs;cases e with
 |normal =>
  obtain⟨a2,w2,hn,hs⟩:=hq b k cs;exact⟨a2,w2,hn,.head lv (fx a6 hs)⟩
 |_=>exact hq.S
def aT (h:∀K:Act->J->Prop,(∀a w,aY P tgt r N a w->K a w)->c.wp P (Exit.then K λ_ _ _=>False) a w):aY P tgt (.seq c r) N a w :=
 ox (h _ λ_ _ h=>h)
def mj {tg:Act->List eC}(h:∀K:Act->J->Prop,(∀a w,dA P tg r N a w->K a w)->c.wp P (Exit.then K λ_ _ _=>False) a w):dA P tg (.seq c r) N a w:=λb k cs=>by
 obtain⟨e,a1,w1,hq,a6⟩:=h _ (λ_ _ h=>h) b (.code r::k) cs;cases e with
 |normal =>
  obtain⟨a2,w2,hn,hs⟩:=hq b k cs;exact⟨a2,w2,hn,.head lv (fx a6 hs)⟩
 |_=>exact hq.S
def oy {tg:Act->List eC}{N':Act->J->Prop}(h:aY P tgt C N a w)(hN:∀a w,N a w->tg a=tgt/\N' a w):dA P tg C N' a w:=λb k cs=>by
 obtain⟨a',w',hn,hs⟩:=h b k cs;obtain⟨h1,h2⟩:=hN a' w' hn;exact⟨a',w',h2,by rw[h1];exact hs⟩
def fV (h:aY P tgt c N a w):aY P (tgt++[.code r]) (.seq c r) N a w:=λb k cs=>by
 obtain⟨a',w',hn,hs⟩:=h b (.code r::k) cs;exact⟨a',w',hn,.head lv (by simpa using hs)⟩
def dQ {t:Operand}{x y:jk}{v:Bool}(hv:a.eval t=.bool v)(h:aY P tgt (if v then x else y) N a w):aY P tgt (.cond t x y) N a w:=λb k cs=>by
 obtain⟨a',w',hn,hs⟩:=h b k cs;exact⟨a',w',hn,.head (step_cond hv) hs⟩
def O4 {ops:Array j3}{N K:Act->J->Prop}{i:Nat}{a:Act}{w:J}(h:wpOp P ops (Exit.then N λ_ _ _=>False) i K a w)(b:bw)(l2:List Nat)(k:List eC)(cs:List bw) :
  ∃a' w',K a' w'/\nA P (lone (b.at a (.inRegion ops (i::l2)::k)) cs w) (lone (b.at a' (.inRegion ops l2::k)) cs w'):=by
 simp only[wpOp] at h;cases ho:ops[i]? with
 |none =>
  simp only[ho] at h;have zG:=step_op_skip (P:=P) (b:=b) (a:=a) (k:=k) (cs:=cs) (w:=w) (ops:=ops) (i:=i) (rest:=l2) (by simp[ho]);simp only[ho,Option.bind_none,Act.put] at zG;exact⟨a,w,h,.head zG (.refl _ _)⟩
 |some o =>
  simp only[ho] at h;have a6:∀v,(b.at a (.inRegion ops (i::l2)::k)).finish v=b.at (a.put o.L v) (.inRegion ops l2::k):=λv=>by
   rw[kv,ho];rfl
  by_cases hw:ik o (yielded ops a.tmps)=I
  .simp only[hw,if_true] at h;obtain h|⟨_,a0,w0,hq⟩:=h
   case inr=>exact hq.S
   have hg:=stepG_op (P:=P) (b:=b) (k:=k) (cs:=cs) (w:=w) (rest:=l2) ho hw;simp only[Oper.wp,Oper.upon] at h;split at h
   .rename_i v w' hr;exact⟨_,_,h,.head (eb (by rw[hg,<-a6];simp[ez,hr])) (.refl _ _)⟩
   .rename_i w' hr;exact⟨_,_,h,.head (eb (by rw[hg,<-a6];simp[ez,hr])) (.refl _ _)⟩
   .rename_i d w' hr;have hd:({ b.at a (.inRegion ops (i::l2)::k) with defers:=d::a.defers }:bw).finish undef=b.at ({ a with defers:=d::a.defers }.put o.L undef) (.inRegion ops l2::k):=by
     have:=kv b { a with defers:=d::a.defers } ops i l2 k undef;rw[ho] at this;exact this
    refine⟨_,_,h,.head (eb ?_) (.refl _ _)⟩;rw[hg];simp only[ez,Sem.runT_eq,hr,GStep.bare_after];exact Bh (λfr=>GStep.go { frame:=fr,callers:=cs,status:=.L,dying:=b6 } w') hd
   .rename_i f args w' hr;obtain⟨e,w2,fr,hR,zG,_,hlv⟩:=h (b.at a (.inRegion ops (i::l2)::k)::cs);have hen:step P (lone (b.at a (.inRegion ops (i::l2)::k)) cs w)=.next (lone (b8 P f args .L) (b.at a (.inRegion ops (i::l2)::k)::cs) w') :=
     eb (by rw[hg];simp[ez,hr,Frame.at])
    cases e with
    |returned v =>
     refine⟨_,_,hR,.head hen (zG.trans (.head ?_ (.refl _ _)))⟩;rw[<-a6];exact step_leave_returned hlv
    |panicked chain=>exact hR.S
    |outgrown =>
     obtain⟨a0,w0,hq⟩:=hR;exact hq.S
   .rename_i row args w' hr;obtain⟨v,w2,hR,zG⟩:=h (b.at a (.inRegion ops (i::l2)::k)) cs;have hen:step P (lone (b.at a (.inRegion ops (i::l2)::k)) cs w)=.next (lone (Frame.ofRow P row args .L) (b.at a (.inRegion ops (i::l2)::k)::cs) w') :=
     eb (by rw[hg];simp[ez,hr,Frame.at])
    refine⟨_,_,hR,.head hen (fx ?_ (.refl _ _))⟩;rw[<-a6];exact zG
   .exact h.S
   .exact h.S
  .simp only[hw,if_false,Bj] at h;have zG:=step_op_skip (P:=P) (b:=b) (a:=a) (k:=k) (cs:=cs) (w:=w) (ops:=ops) (i:=i) (rest:=l2) (by simp[ho];simpa using hw);simp only[ho,BS] at zG;exact⟨_,_,h,.head zG (.refl _ _)⟩
def N0 {ops:Array j3}{K:Act->J->Prop}(l2:List Nat)(l:List Nat):∀(a:Act) (w:J),wpOps P ops (Exit.then K λ_ _ _=>False) l a w->∀(b:bw) (k:List eC) (cs:List bw),
  ∃a' w',K a' w'/\nA P (lone (b.at a (.inRegion ops (l++l2)::k)) cs w) (lone (b.at a' (.inRegion ops l2::k)) cs w'):=by
 induction l with
 |nil=>exact λa w h b k cs=>⟨a,w,h,.refl _ _⟩
 |cons i rest ih =>
  intro a w h b k cs;rw[wpOps_cons] at h;obtain⟨a1,w1,h1,h2⟩:=O4 h b (rest++l2) k cs;obtain⟨a2,w2,h3,h4⟩:=ih a1 w1 h1 b k cs;exact⟨a2,w2,h3,h2.trans h4⟩
def qy {ops:Array j3}{Q:Exit->Act->J->Prop}(l:List j3):∀k,(∀j,j<l.L->l[j]?=ops[k+j]?)->wpOps P ops Q (gU k l.L)=wpList P ops Q l:=by
 induction l with
 |nil=>intro k _;funext a w;simp[wpOps,wpList]
 |cons o l ih =>
  intro k h;have h0:ops[k]?=bc o:=by simpa using(h 0 (by simp)).LH
  have ih':=ih (k+1) λj hj=>by have:=h (j+1) (by simpa using hj);simpa [CT,Nat.add_comm 1 j] using this
  funext a w;simp only[AX,List.range'_succ,wpOps,h0,wpList,ih']
def gn {id:Nat}{ops:Array j3}{l:List j3}{l2:List Nat}(hl:∀j,j<l.L->l[j]?=ops[j]?)(h2:ek ops.size=gU 0 l.L++l2)(h:wpList P ops (Exit.then N λ_ _ _=>False) l a w):aY P [.inRegion ops l2] (.L id ops U) N a w:=λb k cs=>by
 rw[<-qy l 0 (λj hj=>by rw[Bd];exact hl j hj)] at h;obtain⟨a',w',hq,hs⟩:=N0 l2 _ a w h b k cs;exact⟨a',w',hq,.head step_region (by rw[h2];exact hs)⟩
end
section
variable {P:b7} {SB:bo->Bool} {H:Hid} {G:Nat}
def I4 (b:bw)(tg:Act->List eC)(cs:List bw)(N:Act->J->Prop)(g:Y)(w:J):Prop :=
 ∃a' w0,EE w0 w/\N a' w0/\g=Fc (b.at a' (tg a')) cs
def I4.same {b:bw}{tgt:Act->List eC}{cs:List bw}{N:Act->J->Prop}(g:Y)(w W:J)(h:EE w W)(q:I4 b tgt cs N g w):I4 b tgt cs N g W:=by
 obtain⟨a',w0,h1,h2⟩:=q;exact⟨a',w0,h1.trans h,h2⟩
def KB (L:Lib (EK.of P) SB H U SB G){b:bw}{a:Act}{tgt:Act->List eC}{C:jk}{k:List eC}{cs:List bw}{w:J}{N:Act->J->Prop}(zU:cs≠[])(hs:Self P SB H G (Fc (b.at a (.code C::k)) cs) w)
  (h:∀τ d,dA P tgt C N a (on w τ d)):Ep P (Self P SB H G) (I4 b (λa=>tgt a++k) cs N) (Fc (b.at a (.code C::k)) cs) w:=by
 refine fv L I4.same ⟨hs,λτ d=>?_⟩;obtain⟨a',w',hn,n,hr⟩:=h τ d b k cs;exact di L (hs.same Dt) hr zU ⟨a',w',⟨rfl,rfl,rfl⟩,hn,rfl⟩
end
section
variable {P:EK} {EI BC BB:bo->Bool} {H:Hid} {G:Nat} {Q:Y->J->Prop}
def Ja.Qo (B:Ja P EI BC BB H G){b:bw}{a:Act}{tgt:Act->List eC}{c:jk}{k:List eC}{C:bw}{cs:List bw}{K0:Nat->Prop}{w:J}
  (zR:EC P.a EI H U (E0 K0) (b.at a (.code c::k)) (b.at a (.code c::k)))
  (Fa:∀b,K0 b->G<=b) (hroom:G<=w.L.size) (a7:∀b,K0 b->H b=I->H.Fg=I/\w.L[b]?=bc (.coro b6)) (hold:∀b,H b=I->b<w.L.size) (a8:∀b,K0 b->H b=U->∃o,w.L[b]?=bc o/\Fb (SP EI H) (CK P.a EI U) (E0 K0) o o)
  (hk:∀a c t,tgt a++k≠.code c::t) (hbl:BC b.fn=I\/∃fn s,P.a.L[b.fn]?=bc fn/\fn.body=bc (.refuse s)) (hQ:∀g w W,EE w W->Q g w->Q g W) {N:Act->J->Prop}
  (hc:∀τ d,dA P.a tgt c N a (on w τ d))
  (h1:∀a' w',N a' w'->E5 P.b BB Q 0 (Fc (b.at a' (tgt a'++k)) (C::cs)) w') :
  E5 P.b BB Q 0 (Fc (b.at a (.code c::k)) (C::cs)) w:=by
 have h0:=B.run (Qa:=I4 b (λa=>tgt a++k) [bad] N) I4.same (λg w f' hl hf' hlk e=>by
  obtain⟨a',w0,_,_,rfl⟩:=hl;have e3:b.fn=f':=e;obtain h|⟨fn,s,r1,r2⟩:=hbl
  .rw[e3,hf'] at h;cases h
  .obtain⟨x,y,aD,r,o1,o2,s2,aA,hp,_⟩:=hlk;have:=hp.func;rw[<-e3,r1] at this;cases this;have:=hp.text;rw[r2] at this
   cases this) (C:=C) (cs:=cs) (.on zR) (.on zR) Fa hroom a7 hold a8 λhs=>KB (N:=N) (tgt:=tgt) B.la (by simp) hs hc
 refine h0.bind λg2 w' hq=>?_;obtain⟨g',w0,Ef,q1,q2,q3,q4,q5⟩:=hq;have aB:EC P.a EI H U Ef g'.L g2.L:=by
  have a6:=q4.top;obtain⟨a',wl,l1,l2,l3⟩:=q1;generalize hf:g'.L=fr at a6 ⊢;generalize g2.L=FR at a6 ⊢;cases a6 with
  |on h=>exact h
  |@stop f A A' kd s1 s2 s3 s4 =>
   exfalso;obtain⟨fn,s,r1,r2⟩|⟨x,y,fn,r,o1,o2,s,aA,hp,_⟩:=B.ref f s1 s2
   .subst l3;have:=Bh js hf;simp only[Go.EB.Fc,b8,r1,Frame.at] at this;exact hk _ _ _ this
   .subst l3;have:=Bh js hf;simp only[Go.EB.Fc,b8,hp.func,Frame.at] at this;exact hk _ _ _ this
 have eF:g'.L=g2.L:=EC.id (P:=EK.of P.a) q3 aB;have e2:g2=Fc g2.L g2.callers:=by
  obtain⟨x1,x2,x3,x4,x5⟩:=g2;obtain⟨_,_,⟨_,s1⟩,⟨_,d1⟩,⟨_,o1⟩⟩:=q4;dsimp only at *;subst s1 d1 o1
  rfl
 obtain⟨a',wl,l1,l2,l3⟩:=q1;have aC:g2.callers=C::cs:=by
  have:=q4.callers;rw[show g'.callers=[bad] by rw[l3];rfl] at this;generalize g2.callers=X at this;cases this with
  |base=>rfl
  |cons _ h=>exact AS rfl h.ne
 rw[e2,aC,<-eF,l3];exact(h1 a' wl l2).same hQ (l1.trans q2)
end
def J7 (md:eA)(ops:Array j3)(i:Nat):List Nat:=match ops[i]? with
 |some o=>(o.after.LK.S (nc md)).map (·.on)
 |none=>[]
def IU {md:eA}{ops:Array j3}{listed:Array Bool}{i:Nat}:i∈nh md ops listed↔i<ops.size/\listed.LH i I=U/\∀j∈J7 md ops i,listed.LH j U=true:=by
 unfold nh J7;rw[CJ,BQ];refine and_congr_right λhi=>?_;rw[AV hi];simp only[B5,Bf,AY,B9,Bu,CJ,Array.mem_toList_iff];refine and_congr_right λ_=>?_;rw[Bl];constructor
 .rintro h j ⟨e,⟨he,hb⟩,rfl⟩;have:=h e he;simpa [hb] using this
 .intro h e he;cases hb:nc md e with
  |false=>rfl
  |true=>simpa using h e.on ⟨e,⟨he,hb⟩,rfl⟩
def nE (md:eA)(ops:Array j3)(m:Nat):Bool :=
 (ek m).all (λi=>(gU (i+1) (m-i)).any λj=>(J7 md ops j).H i)&&(gU (m+1) (ops.size-m-1)).all (λi=>(J7 md ops i).H (i-1))&&(ek ops.size).all (λi=>(J7 md ops i).all λj=>decide (j<i)) &&
  (ops.LK.LT m).all (λo=>match o.guard with|some (j,_)=>decide (j<m)|none=>I)&&decide (m<ops.size)
section
variable {md:eA} {ops:Array j3} {m:Nat}
structure PG (md:eA)(ops:Array j3)(m:Nat):Prop where
 up:∀i,i<m->∃j,i<j/\j<=m/\i∈J7 md ops j
 next:∀i,m<i->i<ops.size->i-1∈J7 md ops i
 lt:∀i,i<ops.size->∀j∈J7 md ops i,j<i
 guard:∀i o j b,i<m->ops[i]?=bc o->o.guard=bc (j,b)->j<m
 size:m<ops.size
def xx (h:nE md ops m=I):PG md ops m:=by
 simp only[nE,AY,BO,Df,BQ,List.mem_range'_1,Dc,decide_eq_true_eq] at h;obtain⟨⟨⟨⟨h1,h2⟩,h3⟩,h4⟩,h5⟩:=h;refine⟨λi hi=>?_,λi hi hn=>h2 i ⟨by omega,by omega⟩,h3,λi o j b hi ho hg=>?_,h5⟩
 .obtain⟨j,hj,hm⟩:=h1 i hi;exact⟨j,by omega,by omega,hm⟩
 .have:=h4 o (C2.2 ⟨i,by rw[Cl,AP hi];simpa using ho⟩);rw[hg] at this;simpa using this
def filter_one {p:Nat->Bool}{n k:Nat}(hk:k<n)(h:∀i,i<n->(p i=I↔i=k)):(ek n).S p=[k]:=by
 have e:(ek n).S p=(ek n).S λi=>i==k:=List.filter_congr λi hi=>by
  have:=h i (BQ.1 hi);cases hp:p i with
  |true=>simpa using(this.1 hp)
  |false =>
   have:i≠k:=λe=>by rw[this.2 e] at hp;cases hp
   simpa using this
 rw[e,List.filter_beq,List.count_range];simp[hk]
def ei {l:Array Bool}{i:Nat}(h:i<l.size):l.LH i I=l.LH i false:=by
 simp[Array.getD,h]
end
end Go.EB
namespace Go.Co
open Go.EB Go.Conc
def bR (p:b7):List eC->Bool
 |.inRegion ops (i::_)::_=>match ops[i]? with
  |some o=>aN p o.op
  |none=>I
 |_=>I
section
variable {p:b7} {BB:bo->Bool} {Q:Y->J->Prop} {b:bw} {a:Act} {todo:List eC} {cs:List bw} {w:J}
def ji (h:bR p todo=I):∀o,(b.at a todo).oper?=bc o->aN p o.op=true:=by
 intro o ho;unfold Frame.oper? Frame.at at ho;dsimp only at ho
 match todo,h,ho with
 |.inRegion ops (i::rest)::k,h,ho =>
  simp only[bR] at h;have a6:ops[i]?=bc o:=ho;rw[a6] at h;exact h
 |[],_,ho=>cases ho
 |.inRegion ops []::k,_,ho=>cases ho
 |.code c::k,_,ho=>cases ho
 |.inBlock i::k,_,ho=>cases ho
 |.inLoop c::k,_,ho=>cases ho
 |.inScope c::k,_,ho=>cases ho
 |.inRangeFunc l::k,_,ho=>cases ho
 |.endRangeFunc l::k,_,ho=>cases ho
 |.beginRound::k,_,ho=>cases ho
 |.call _ _ _ _::k,_,ho=>cases ho
def Ep.LH (hQ:∀g w W,EE w W->Q g w->Q g W)(hf:BB b.fn=I)(hg:bR p todo=I)(h:∀τ d,(cf p I (G (b.at a todo) cs) (on w τ d)).goes (λg' w' _=>g'.callers≠[]/\∃W,EE W w'/\Ep p (Fp p BB) Q g' W)) :
  Ep p (Fp p BB) Q (G (b.at a todo) cs) w:=by
 refine Ep.step ⟨hf,ji hg⟩ λτ d=>?_;have:=h τ d;cases hs:cf p I (G (b.at a todo) cs) (on w τ d) with
 |go g' w' es =>
  rw[hs] at this;obtain⟨h1,W,h2,h3⟩:=this;exact⟨g',w',es,rfl,h1,h3.same (λ_ _ _ _ x=>x) hQ h2⟩
 |_=>rw[hs] at this;exact this.S
end
section
variable {P:b7} {main:Bool} {b:bw} {a:Act} {k:List eC} {cs:List bw} {w:J}
def aJ {ops:Array j3}{i:Nat}{rest:List Nat}{o:j3}{K:Y->J->Array cE->Prop}{f:bo}{fn:Func}{args:Array Operand}{ats:Array j2}
  (ho:ops[i]?=bc o) (hw:ik o (yielded ops a.tmps)=I) (hk:b.kind≠.early) (hop:o.op=.call { callee:=.value (.func f),args,argTypes:=ats })
  (hf:P.L[f]?=bc fn) (hname:(fn.name == "runtime.NumGoroutine")=U) (hb:fn.body.L=U)
  (h:K (G (b8 P f (args.map a.eval) .L) (b.at a (.inRegion ops (i::rest)::k)::cs)) w #[]) :
  (cf P main (G (b.at a (.inRegion ops (i::rest)::k)) cs) w).goes K:=by
 rw[stepG_enter ho hw hk (run_call_body hop hf hname hb)];have:listed P b.fn a o w=#[]:=by unfold listed;rw[events_call_body hop hf hname hb];exact seen_none P _
 rw[this];exact h
end
open Go.ConcN Go.RowKit Go.Conc.Lib Go.ConcR.Gen Go.ConcN.Gen
open Go.ConcR (KK wgBlock WgAt stA smA rd wr mk Payload Aside2 DC0)
def RL (ty:j2)(Wg:Nat)(w w₁:J):Prop:=lA ty Wg w->lA ty Wg w₁
def RL.refl {ty:j2}{Wg:Nat}(w:J):RL ty Wg w w:=id
def RL.trans {ty:j2}{Wg:Nat}(a b c:J)(h:RL ty Wg a b)(k:RL ty Wg b c):RL ty Wg a c:=k ∘ h
def rl {ty:j2}{Wg:Nat}{w w₁:J}(h:lA ty Wg w)(r:RL ty Wg w w₁):lA ty Wg w₁:=r h
section
variable (P:b7) (ty:j2) (Wg:Nat)
abbrev GW (main:Bool)(Stop:Y->J->Prop)(m:Nat)(g:Y)(w:J):Prop:=Goes P main (RL ty Wg) DC0 Stop m g w
def D3 (g:Y)(w:J):Prop :=
 g.status=.L/\(WgAt ty Wg w 1 0->∃g',cf P U g w=.go g' (w.LH (stA Wg) (.int .u64 0)) #[wr (stA Wg)]/\∃m,GW P ty Wg U (AtD4 P ty Wg) m g' (w.LH (stA Wg) (.int .u64 0)))
def D2 (g:Y)(w:J):Prop :=
 g.status=.L/\(WgAt ty Wg w 1 0->∃g',cf P U g w=.go g' w #[rd (stA Wg)]/\∃m,GW P ty Wg U (D3 P ty Wg) m g' w)
def D1 (g:Y)(w:J):Prop :=
 g.status=.L/\∀v wt:Nat,wt<=1->v<2147483647->WgAt ty Wg w ((v+1)*KK+wt) 0 ->
  ∃g',cf P U g w=.go g' (w.LH (stA Wg) (.int .u64 (v*KK+wt))) #[rd (stA Wg),wr (stA Wg)] /\
   ((v=0/\wt=1)->∃m,GW P ty Wg U (D2 P ty Wg) m g' (w.LH (stA Wg) (.int .u64 (v*KK+wt))))/\(¬(v=0/\wt=1)->∃q,QuitsD P q 1 g')
def K1 (g:Y)(w:J):Prop :=
 g.status=.L/\∃g',cf P U g w=.go g' w #[mk .disable]/\∃m,GW P ty Wg U (D1 P ty Wg) m g' w
def R0 (g:Y)(w:J):Prop :=
 g.status=.L/\∃g',cf P U g w=.go g' w #[mk (.releaseMerge (stA Wg))]/\∃m,GW P ty Wg U (K1 P ty Wg) m g' w
def RV (er:Y->J->Prop)(g:Y)(w:J):Prop:=g.status=.L/\∃g',cf P I g w=.go g' w #[mk .enable]/\∃m,GW P ty Wg I er m g' w
def ARr (er:Y->J->Prop)(g:Y)(w:J):Prop:=g.status=.L/\∃g',cf P I g w=.go g' w #[mk (.read (smA Wg))]/\∃m,GW P ty Wg I (RV P ty Wg er) m g' w
def AA1 (er:Y->J->Prop)(g:Y)(w:J):Prop :=
 g.status=.L/\∀v:Nat,v<2147483647->WgAt ty Wg w (v*KK) 0->∃g',cf P I g w=.go g' (w.LH (stA Wg) (.int .u64 ((v+1)*KK))) #[rd (stA Wg),wr (stA Wg)] /\
  (v=0->∃m,GW P ty Wg I (ARr P ty Wg er) m g' (w.LH (stA Wg) (.int .u64 ((v+1)*KK))))/\(v≠0->∃m,GW P ty Wg I (RV P ty Wg er) m g' (w.LH (stA Wg) (.int .u64 ((v+1)*KK))))
def RX (er:Y->J->Prop)(g:Y)(w:J):Prop:=g.status=.L/\∃g',cf P I g w=.go g' w #[mk .disable]/\∃m,GW P ty Wg I (AA1 P ty Wg er) m g' w
def Q2 (er:Y->J->Prop)(g:Y)(w:J):Prop:=g.status=.L/\∃g',cf P I g w=.go g' w #[mk (.acquire (stA Wg))]/\∃m,GW P ty Wg I er m g' w
def RY (er:Y->J->Prop)(g:Y)(w:J):Prop:=g.status=.L/\∃g',cf P I g w=.go g' w #[mk .enable]/\∃m,GW P ty Wg I (Q2 P ty Wg er) m g' w
def W4 (er:Y->J->Prop)(g:Y)(w:J):Prop:=g.status=.L/\(WgAt ty Wg w 0 0->∃g',cf P I g w=.go g' w #[rd (stA Wg)]/\∃m,GW P ty Wg I (RY P ty Wg er) m g' w)
def W3 (er:Y->J->Prop)(g:Y)(w:J):Prop :=
 g.status=.L/\g.offers=b6/\((∃st,WgAt ty Wg w st 0)->cf P I g w=.go { g with status:=.blocked } w #[]) /\
  (WgAt ty Wg w 0 1->∃g',cf P I g w=.go g' (w.LH (smA Wg) (.int .u32 0)) (df (smA Wg))/\∃m,GW P ty Wg I (W4 P ty Wg er) m g' (w.LH (smA Wg) (.int .u32 0)))
def WRw (er:Y->J->Prop)(g:Y)(w:J):Prop:=g.status=.L/\∃g',cf P I g w=.go g' w #[mk (.write (smA Wg))]/\∃m,GW P ty Wg I (W3 P ty Wg er) m g' w
def W2 (Hs er:Y->J->Prop)(vs:Nat)(g:Y)(w:J):Prop :=
 g.status=.L/\∀v:Nat,v<2147483648->WgAt ty Wg w (v*KK) 0 ->
  (v=vs->∃g',cf P I g w=.go g' (w.LH (stA Wg) (.int .u64 (v*KK+1))) #[rd (stA Wg),wr (stA Wg)]/\∃m,GW P ty Wg I (WRw P ty Wg er) m g' (w.LH (stA Wg) (.int .u64 (v*KK+1)))) /\
  (v≠vs->∃g',cf P I g w=.go g' w #[rd (stA Wg)]/\∃m,GW P ty Wg I Hs m g' w)
def W1 (Hs er:Y->J->Prop)(g:Y)(w:J):Prop :=
 g.status=.L/\∀v:Nat,v<2147483648->WgAt ty Wg w (v*KK) 0->∃g',cf P I g w=.go g' w #[rd (stA Wg)] /\
  (v=0->∃m,GW P ty Wg I (RY P ty Wg er) m g' w)/\(v≠0->∃m,GW P ty Wg I (W2 P ty Wg Hs er v) m g' w)
def RZ (Hs:Y->J->Prop)(g:Y)(w:J):Prop:=g.status=.L/\∃g',cf P I g w=.go g' w #[mk .disable]/\∃m,GW P ty Wg I Hs m g' w
end
structure Tr (Sh:Loc->Prop)(Wr Rd:Nat->Loc->Prop)(N:Nat)(Pd:Nat->Nat->Prop)(a:ko)(t:e9):Prop where
 ti:TI Sh Wr Rd N t
 norel:NoRelease a t
 Q3:∀i x,touchAt t i=bc x->x.loc.L=I->Knows t 0 i\/(Sh x.loc/\x.kind=.atomic)\/∃k,t.g? i=bc k/\k≠0/\Pd k i
 ho:∀i k,t.g? i=bc k->k≠0->t.counts i->(∃q,t.g? q=bc 0/\iv t i q)\/Pd k i
section
variable {Sh:Loc->Prop} {Wr Rd Wr' Rd':Nat->Loc->Prop} {N k:Nat} {Pd Pd':Nat->Nat->Prop} {a:ko} {t u:e9}
def Ad {i:Nat}{op:mA}(h:t[i]?=bc op):t.g? i=bc op.g:=by simp[Trace.g?,h]
def Tr.app (h:Tr Sh Wr Rd N Pd a t)(aB:TI Sh Wr' Rd' N (t++u))(hg:∀op∈u,op.g=k)(aC:∀op∈u,op.act≠.mark (.release a))
  (a7:∀i,t.size<=i->(t++u).g? i=bc k->k≠0->Pd k i\/((∀x,touchAt (t++u) i=bc x->x.loc.L=I->Sh x.loc/\x.kind=.atomic)/\¬(t++u).counts i)):Tr Sh Wr' Rd' N Pd a (t++u):=by
 refine⟨aB,h.norel.app aC,λi x hx hm=>?_,λi j hj zU hc=>?_⟩
 .obtain⟨op,hop,aD⟩:=fq hx;obtain⟨hi,a8⟩|⟨hi,a6⟩:=br hop
  .rcases h.Q3 i x (by rw[lu a8];exact aD) hm with h1|h1|⟨j,h1,h2⟩
   .exact .inl (h1.app u)
   .exact .inr (.inl h1)
   .exact .inr (.inr ⟨j,by rw[l8 hi];exact h1,h2⟩)
  .have aA:(t++u).g? i=bc k:=by rw[Ad hop,hg op a6]
   by_cases h0:k=0
   .subst h0;have:=knows_own hop;rw[hg op a6] at this;exact .inl this
   .obtain h1|⟨h1,_⟩:=a7 i hi aA h0
    .exact .inr (.inr ⟨k,aA,h0,h1⟩)
    .exact .inr (.inl (h1 x hx hm))
 .obtain⟨op,hop,aF⟩:=Bo.1 hj;obtain⟨hi,a8⟩|⟨hi,a6⟩:=br hop
  .rcases h.ho i j (by rw[l8 hi] at hj;exact hj) zU ((counts_old hi).1 hc) with⟨q,hq,hb⟩|h1
   .have aG : q < t.size := by
     obtain⟨z,hz,_⟩:=Bo.1 hq;exact cq hz
    exact .inl ⟨q,by rw[l8 aG];exact hq,hb_app u hb⟩
   .exact .inr h1
  .have e:k=j:=(hg op a6).LH.trans aF;subst e;obtain h1|⟨_,h1⟩:=a7 i hi hj zU
   .exact .inr h1
   .exact AS hc h1
def Tr.Qb (h:Tr Sh Wr Rd N Pd a t)(hp:∀k i,i<t.size->Pd k i->Pd' k i):Tr Sh Wr Rd N Pd' a t:=by
 refine⟨h.ti,h.norel,λi x hx hm=>?_,λi j hj zU hc=>?_⟩
 .obtain h1|h1|⟨k,h1,h2,h3⟩:=h.Q3 i x hx hm
  .exact .inl h1
  .exact .inr (.inl h1)
  .obtain⟨z,hz,_⟩:=Bo.1 h1;exact .inr (.inr ⟨k,h1,h2,hp k i (cq hz) h3⟩)
 .obtain h1|h1:=h.ho i j hj zU hc
  .exact .inl h1
  .obtain⟨z,hz,_⟩:=Bo.1 hj;exact .inr (hp j i (cq hz) h1)
def Tr.MS (h:Tr Sh Wr Rd N Pd a t)(hw:∀k l,Wr' k l->Wr k l)(hr:∀k l,Rd' k l->Rd k l):Tr Sh Wr' Rd' N Pd a t:=⟨h.ti.LT hw hr,h.norel,h.Q3,h.ho⟩
def Tr.fork (h:Tr Sh Wr Rd N Pd a t){x y:mA}(hN:0<N)(hx:x.g=0/\x.act=.go N)(hy:y.g=N/\y.act=.start)(h0:n4 t 0=0)
  (others:∀j,j<N->∀l,(Wr' j l->Wr j l)/\(Rd' j l->Rd j l)) (child:∀l,(Wr' N l->Wr 0 l)/\(Rd' N l->Rd 0 l)):Tr Sh Wr' Rd' (N+1) Pd a (t++#[x,y]):=by
 have aA:∀op∈#[x,y],op.act.L=none:=by
  intro op hop;simp only[Cd,AT,AQ,or_false] at hop;obtain rfl|rfl:=hop
  .rw[hx.2];rfl
  .rw[hy.2];rfl
 refine⟨h.ti.fork hN hx hy h0 others child,h.norel.app λop hop e=>?_,λi z hz hm=>?_,λi j hj zU hc=>?_⟩
 .simp only[Cd,AT,AQ,or_false] at hop;obtain rfl|rfl:=hop
  .rw[hx.2] at e;cases e
  .rw[hy.2] at e;cases e
 .obtain⟨op,hop,a7⟩:=fq hz;obtain⟨hi,a8⟩|⟨_,a6⟩:=br hop
  .rcases h.Q3 i z (by rw[lu a8];exact a7) hm with h1|h1|⟨j,h1,h2⟩
   .exact .inl (h1.app _)
   .exact .inr (.inl h1)
   .exact .inr (.inr ⟨j,by rw[l8 hi];exact h1,h2⟩)
  .rw[aA op a6] at a7;cases a7
 .obtain⟨op,hop,aC⟩:=Bo.1 hj;obtain⟨hi,a8⟩|⟨_,a6⟩:=br hop
  .rcases h.ho i j (by rw[l8 hi] at hj;exact hj) zU ((counts_old hi).1 hc) with⟨q,hq,hb⟩|h1
   .have aB : q < t.size := by
     obtain⟨z,hz,_⟩:=Bo.1 hq;exact cq hz
    exact .inl ⟨q,by rw[l8 aB];exact hq,hb_app _ hb⟩
   .exact .inr h1
  .obtain⟨z,hz,_⟩:=hc;rw[act?_of hop] at hz;rw[BS,aA op a6] at hz;cases hz
def Tr.past (h:Tr Sh Wr Rd N Pd a t){B q:Nat}(hq:t.act? q=bc (.mark (.acquire a)))(hg:t.g? q=bc 0)(hh:t.heard q)(hd:n4 t 0=0)(hl:∀op∈t,op.act.LK B)
  (hp:∀k i,t.g? i=bc k->k≠0->Pd k i->∃r,RelBy a t k r/\r<q/\i<=r):Past Sh B t:=by
 have a6:∀k i,t.g? i=bc k->k≠0->Pd k i->iv t i q:=by
  intro k i hk zU a7;obtain⟨r,hr,a8,hir⟩:=hp k i hk zU a7;have e1:iv t r q:=.single (.inr ⟨.marked a8 (.inr hr.act) hq (λk _ _=>h.norel k),hr.heard,hh⟩);obtain zY|aA:=BV i r
  .exact .trans (.single (.inl ⟨zY,k,hk,hr.g⟩)) e1
  .obtain rfl:i=r:=by omega
   exact e1
 obtain⟨z,hz,hzg⟩:=Bo.1 hg;refine⟨h.ti.nr,λi x hx hm=>?_,λi k hk zU hc=>?_,hd,hl⟩
 .obtain h1|h1|⟨k,h1,h2,h3⟩:=h.Q3 i x hx hm
  .exact .inl h1
  .exact .inr h1
  .exact .inl ⟨q,z,hz,hzg,.inr (a6 k i h1 h2 h3)⟩
 .obtain h1|h1:=h.ho i k hk zU hc
  .exact h1
  .exact⟨q,hg,a6 k i hk zU h1⟩
def D6 {Shun:Loc->Prop}{B:Nat}(h:Past Shun B t)(aA:∀l,Sh l->Shun l\/∃b:ko,l=.cell b/\B<=b.LE)(a7:∀l,Shun l->Sh l)(hq:Quiet Sh t)(ha:B<=a.LE)(hN:∀(i:Nat) (op:mA),t[i]?=bc op->op.g<N)(hN0:0<N)
  (hw:∀k l,Wr k l->k=0/\l.L=I/\¬Shun l) (hr:∀k l,Rd k l->k=0/\l.L=I/\¬Shun l):Tr Sh Wr Rd N Pd a t:=by
 have kn:∀l,l.L=I->¬Shun l->Perm t 0 l:=λl hm hs i x hx e=>(h.known i x hx (e▸hm)).S id λa6=>AS (e▸a6.1) hs;refine⟨⟨hq,λk _ l hl=>?_,λk _ l hl=>?_,h.clean,hN⟩,λi e=>?_,λi x hx hm=>(h.known i x hx hm).imp id λa6=>.inl ⟨a7 _ a6.1,a6.2⟩,λi k hk zU hc=>.inl (h.over i k hk zU hc)⟩
 .obtain⟨rfl,h1,h2⟩:=hw k l hl;exact kn l h1 h2
 .obtain⟨rfl,h1,h2⟩:=hr k l hl;exact .of (kn l h1 h2)
 .obtain⟨op,hop,a8⟩:=Bo.1 e;have:=h.seen op (Bn hop);rw[a8] at this;exact AS this (nx.2 ha)
end
structure Lone where
 g:Y
 w:J
 H:Hid
 β:Ey
 T:List bw
structure IB where
 at_:Nat->Prop
 w:J
 bd:Nat
def inBlock (B:Nat):Loc->Prop
 |.cell a=>a.LE=B
 |.obj r=>r=B
 |_=>False
def Pu (x:Lone)(l:Loc):Prop:=∃b B,x.β b B/\x.H b=U/\¬Ro x.w b/\inBlock B l
def Pv (x:Lone)(l:Loc):Prop:=∃b B,x.β b B/\x.H b=U/\inBlock B l
def Nn (zO:Nat->Prop)(Wg:Nat)(l:Loc):Prop:=∃a:ko,l=.cell a/\(zO a.LE\/a.LE=Wg)
section
variable (P:EK) (SB BB:bo->Bool) (zZ:Bool) (Gn:Nat)
abbrev Fx (x:Lone)(g:Y):Prop:=Gf P SB x.H zZ BB x.T x.β x.g g
abbrev GQ (x:Lone)(W:J):Prop:=EU (SP SB x.H) (CK P.a SB zZ) Gn x.β x.w W
abbrev Ik (x:Lone)(W:J)(Ef:Ey)(w' W':J)(ES:List cE):Prop:=Fin (SP SB x.H) (CK P.a SB zZ) Gn x.β Ef (on x.w W.tape W.drawn) W w' W' ES
structure Cw (Wg:Nat)(zO zN:Nat->Prop)(Kp:IB)(L:Nat->Option Lone)(own:Option Nat)(W:J):Prop where
 like:∀i x,L i=bc x->GQ P SB zZ Gn x W
 Fg:∀i x,L i=bc x->x.H.Fg=U
 Np:∀i x,L i=bc x->∀b,x.β b Wg->x.H b=I
 dead:∀i x,L i=bc x->∀b B,x.β b B->¬zO B
 Jz:∀i x,L i=bc x->own≠bc i->∀b B,x.β b B->zN B->x.H b=I
 sep:∀i j x y,i≠j->L i=bc x->L j=bc y->Sep (SP SB x.H) x.β x.w (SP SB y.H) y.β y.w
 LK:Wg<W.L.size/\(∀B,zO B->B<W.L.size)/\∀B,zN B->B<W.L.size
 JA:∀B,zN B->B≠Wg/\¬zO B
 keep:∀B,Kp.at_ B->B<W.L.size/\B≠Wg/\W.L[B]?=Kp.w.L[B]?
 F2:∀i x,L i=bc x->∀b B,x.β b B->Kp.at_ B->x.H b=I\/Ro x.w b
 L3:∀B,zN B->¬Kp.at_ B
 OC:W.os=Kp.w.os/\W.output=Kp.w.output
def put (L:Nat->Option Lone)(i:Nat)(x:Option Lone):Nat->Option Lone:=λj=>if j=i then x else L j
end
def EG (L:Nat->Option Lone)(i:Nat)(x:Option Lone):put L i x i=x:=by simp[put]
def EJ (L:Nat->Option Lone){i j:Nat}(x:Option Lone)(h:j≠i):put L i x j=L j:=by simp[put,h]
section
variable {P:EK} {SB BB:bo->Bool} {zZ:Bool} {Gn:Nat} {Wg:Nat} {zO zN:Nat->Prop} {Kp:IB} {L:Nat->Option Lone} {own:Option Nat} {W W':J} {i:Nat} {x:Lone} {Ef:Ey} {w':J} {ES:List cE}
def Cw.same (c:Cw P SB zZ Gn Wg zO zN Kp L own W)(hi:L i=bc x)(f:Ik P SB zZ Gn x W Ef w' W' ES){B:Nat}(hB:B<W.L.size)(h:∀b,x.β b B->x.H b=I):W'.L[B]?=W.L[B]?:=by
 by_cases hx:∃b,x.β b B
 .obtain⟨b,hb⟩:=hx;exact f.hk b B hb (h b hb)
 .exact f.KEPT B hB λb hb=>hx ⟨b,hb⟩
def Cw.step (c:Cw P SB zZ Gn Wg zO zN Kp L own W)(hi:L i=bc x)(f:Ik P SB zZ Gn x W Ef w' W' ES)(g':Y) :
  Cw P SB zZ Gn Wg zO zN Kp (put L i (bc ⟨g',w',x.H,Ef,x.T⟩)) own W':=by
 have hx:=c.like i x hi;have a6:EU (SP SB x.H) (CK P.a SB zZ) Gn x.β (on x.w W.tape W.drawn) W:=hx.same rfl rfl hx.env;have old:∀b B,Ef b B->B<W.L.size->x.β b B:=λb B hb hB=>(f.new b B hb).S id λh=>AS h.2 (Nat.not_le.2 hB);refine⟨λj y hj=>?_,λj y hj=>?_,λj y hj=>?_,λj y hj=>?_,λj y hj=>?_,λj k y z hjk hj hk=>?_,⟨AO c.LK.1 f.SIZE,λB hB=>AO (c.LK.2.1 B hB) f.SIZE,λB hB=>AO (c.LK.2.2 B hB) f.SIZE⟩,c.JA,λB hB=>?_,λj y hj=>?_,c.L3,f.OS.trans c.OC.1,f.OUT.trans c.OC.2⟩
 .by_cases e:j=i
  .subst e;rw[EG] at hj;cases hj;exact f.rel
  .rw[EJ L _ e] at hj;exact(c.like j y hj).others (c.Fg j y hj) a6 f (c.sep i j x y (e8 e) hi hj)
 .by_cases e:j=i
  .subst e;rw[EG] at hj;cases hj;exact c.Fg j x hi
  .rw[EJ L _ e] at hj;exact c.Fg j y hj
 .by_cases e:j=i
  .subst e;rw[EG] at hj;cases hj;exact λb hb=>c.Np j x hi b (old b Wg hb c.LK.1)
  .rw[EJ L _ e] at hj;exact c.Np j y hj
 .by_cases e:j=i
  .subst e;rw[EG] at hj;cases hj;exact λb B hb hd=>c.dead j x hi b B (old b B hb (c.LK.2.1 B hd)) hd
  .rw[EJ L _ e] at hj;exact c.dead j y hj
 .by_cases e:j=i
  .subst e;rw[EG] at hj;cases hj;exact λho b B hb ht=>c.Jz j x hi ho b B (old b B hb (c.LK.2.2 B ht)) ht
  .rw[EJ L _ e] at hj;exact c.Jz j y hj
 .by_cases e:j=i
  .subst e;rw[EG] at hj;cases hj;rw[EJ L _ (e8 hjk)] at hk;exact Sep.kept (c.like k z hk) f (c.sep j k x z hjk hi hk)
  .rw[EJ L _ e] at hj;by_cases e':k=i
   .subst e';rw[EG] at hk;cases hk;exact(Sep.kept (c.like j y hj) f (c.sep k j x y (e8 hjk) hi hj)).LH
   .rw[EJ L _ e'] at hk;exact c.sep j k y z hjk hj hk
 .obtain⟨k1,k2,k3⟩:=c.keep B hB;refine⟨AO k1 f.SIZE,k2,?_⟩;rw[<-k3];by_cases hx:∃b,x.β b B
  .obtain⟨b,hb⟩:=hx;obtain h|⟨cs,ty,z,q1,q2⟩:=c.F2 i x hi b B hb hB
   .exact f.hk b B hb h
   .exact(f.ro b B cs ty z hb q1 q2).2
  .exact f.KEPT B k1 λb hb=>hx ⟨b,hb⟩
 .by_cases e:j=i
  .subst e;rw[EG] at hj;cases hj;intro b B hb hB;have h0:=old b B hb (c.keep B hB).1;exact(c.F2 j x hi b B h0 hB).imp id λh=>h.kept f h0
  .rw[EJ L _ e] at hj;exact c.F2 j y hj
def Cw.group (c:Cw P SB zZ Gn Wg zO zN Kp L own W)(h:Aside Wg W W')(hw:∃c t f,W'.L[Wg]?=bc (.cells c t f)):Cw P SB zZ Gn Wg zO zN Kp L own W':=by
 refine⟨λj y hj=>?_,c.Fg,c.Np,c.dead,c.Jz,c.sep,by rw[h.size];exact c.LK,c.JA,λB hB=>⟨by rw[h.size];exact(c.keep B hB).1,(c.keep B hB).2.1,(h.LE B (c.keep B hB).2.1).trans (c.keep B hB).2.2⟩,c.F2,c.L3,h.os.trans c.OC.1,h.output.trans c.OC.2⟩;have k:=c.like j y hj;refine⟨k.FH,by rw[h.size];exact k.room,λb B hb hh=>?_,λb B hb hh=>?_,k.old,by rw[h.os];exact k.env⟩
 .have zU : B ≠ Wg := fun e => by
   have:=c.Np j y hj b (e▸hb);have a7:y.H b=false:=hh;rw[a7] at this;cases this
  rw[h.LE B zU];exact k.F4 b B hb hh
 .obtain⟨h1,h2,h3⟩:=k.Ge b B hb hh;refine⟨h1,λht=>?_,λht=>?_⟩
  .by_cases e:B=Wg
   .rw[e];exact hw
   .rw[h.LE B e];exact h2 ht
  .have:=c.Fg j y hj;have a6:y.H.Fg=true:=ht;rw[this] at a6;cases a6
def Cw.drop (c:Cw P SB zZ Gn Wg zO zN Kp L own W)(i:Nat):Cw P SB zZ Gn Wg zO zN Kp (put L i b6) own W:=by
 have get:∀ {j y},put L i b6 j=bc y->L j=bc y:=λ{j y} h=>by
  by_cases e:j=i
  .subst e;rw[EG] at h;cases h
  .rwa [EJ L _ e] at h
 exact⟨λj y hj=>c.like j y (get hj),λj y hj=>c.Fg j y (get hj),λj y hj=>c.Np j y (get hj),λj y hj=>c.dead j y (get hj),λj y hj=>c.Jz j y (get hj),λj k y z zU hj hk=>c.sep j k y z zU (get hj) (get hk),c.LK,c.JA,c.keep,λj y hj=>c.F2 j y (get hj),c.L3,c.OC⟩
def Cw.at (c:Cw P SB zZ Gn Wg zO zN Kp L own W)(d:Nat):Cw P SB zZ Gn Wg zO zN Kp L own (W.at d) :=
 ⟨λj y hj=>(c.like j y hj).same rfl rfl (c.like j y hj).env,c.Fg,c.Np,c.dead,c.Jz,c.sep,c.LK,c.JA,c.keep,c.F2,c.L3,c.OC⟩
def Ol (zN:Nat->Prop)(L:Nat->Option Lone)(tp:Bool)(j:Nat)(l:Loc):Prop:=(∃x,L j=bc x/\Pu x l)\/(j=0/\tp=I/\∃B,zN B/\inBlock B l)
def LR (zN:Nat->Prop)(L:Nat->Option Lone)(tp:Bool)(j:Nat)(l:Loc):Prop:=(∃x,L j=bc x/\Pv x l)\/(j=0/\tp=I/\∃B,zN B/\inBlock B l)
def Il {B:Nat}{l:Loc}(h:inBlock B l):l.L=true:=by cases l<;>first|rfl|exact h.S
def Jn {B B':Nat}{l:Loc}(h:inBlock B l)(h':inBlock B' l):B=B':=by
 cases l<;>first|exact h.LH.trans h'|exact h.S
def gF {zN:Nat->Prop}{L:Nat->Option Lone}{tp:Bool}{j:Nat}{l:Loc}(h:Ol zN L tp j l):LR zN L tp j l:=by
 obtain⟨x,h1,b,B,h2,h3,_,h4⟩|h:=h
 .exact .inl ⟨x,h1,b,B,h2,h3,h4⟩
 .exact .inr h
def Cw.apart {tp:Bool}(c:Cw P SB zZ Gn Wg zO zN Kp L own W)(ht:tp=I->own=b6){j k:Nat}(hjk:j≠k)(l:Loc):Ol zN L tp j l->¬LR zN L tp k l:=by
 rintro(⟨x,hx,b,B,h1,h2,h3,h4⟩|⟨rfl,h0,B,h1,h4⟩) (⟨y,hy,b',B',k1,k2,k4⟩|⟨rfl,k0,B',k1,k4⟩)
 .obtain rfl:=Jn h4 k4;obtain h|h|⟨h,_⟩:=c.sep j k x y hjk hx hy b b' B h1 k1
  .have h':x.H b=true:=h;rw[h2] at h';cases h'
  .have h':y.H b'=true:=h;rw[k2] at h';cases h'
  .exact h3 h
 .obtain rfl:=Jn h4 k4;have:=c.Jz j x hx (by rw[ht k0];simp) b B h1 k1;rw[h2] at this;cases this
 .obtain rfl:=Jn h4 k4;have:=c.Jz k y hy (by rw[ht h0];simp) b' B k1 h1;rw[k2] at this;cases this
 .exact hjk rfl
def Cw.Li {tp:Bool}(c:Cw P SB zZ Gn Wg zO zN Kp L own W){j:Nat}{l:Loc}(h:LR zN L tp j l):¬Nn zO Wg l:=by
 rintro⟨a,rfl,hs⟩;obtain⟨x,hx,b,B,h1,h2,h4⟩|⟨_,_,B,h1,h4⟩:=h
 .have e:a.LE=B:=h4;obtain hs|hs:=hs
  .exact c.dead j x hx b B h1 (e▸hs)
  .have:=c.Np j x hx b (by rw[<-hs,e];exact h1);rw[h2] at this;cases this
 .have e:a.LE=B:=h4;obtain⟨t1,t2⟩:=c.JA B h1;obtain hs|hs:=hs
  .exact t2 (e▸hs)
  .exact t1 (e.LH.trans hs)
def Cw.Q4 {tp:Bool}{k:Nat}{x':Lone}(c:Cw P SB zZ Gn Wg zO zN Kp L own W)(hk:L k=bc x')(he:∀E∈ES,QC x'.β x'.w E){fn:bo}{pos:String} :
  ∀op∈bb k fn pos ES.LK,OkOp (Nn zO Wg) (Ol zN L tp) (LR zN L tp) k op:=by
 intro op hop;obtain⟨e,a7,rfl⟩:=bh hop;refine⟨rfl,λt ht=>?_⟩;have hE:=he e (by simpa using a7);have a6:∀b B,x'.β b B->(∃n,(x'.w.L[b]?).map FK=bc n/\n≠1)->x'.H b=false:=by
  intro b B hb ⟨n,hn,h1⟩;cases hh:x'.H b with
  |false=>rfl
  |true =>
   rw[((c.like k x' hk).Ge b B hb hh).1] at hn;simp[FK] at hn;exact AS hn.LH h1
 cases hE with
 |@cell a A wr sy hb ho hn hw =>
  have hh:=a6 _ _ hb (let ⟨n,h1,_⟩:=hn;⟨_,h1,by omega⟩);have hr:LR zN L tp k (.cell A):=.inl ⟨x',hk,a.LE,A.LE,hb,hh,rfl⟩;have hl:t.loc=.cell A/\t.write=wr:=by
   simp[ak,b5] at ht;subst ht;exact⟨rfl,rfl⟩
  rw[hl.1];refine .inr (.inr ⟨c.Li hr,λhwr=>.inl ⟨x',hk,a.LE,A.LE,hb,hh,?_,rfl⟩,λ_=>hr⟩);rintro⟨cs,ty,f,hc,hf⟩;obtain⟨n,h1,h2⟩:=hn;rw[hc] at h1;simp[FK] at h1;have h0:=hw (by rw[<-hl.2];exact hwr);rw[bg,hc] at h0;obtain⟨p,q⟩:=hf a.off (by omega);simp[QW,p,q] at h0
 |@obj r R wr sy hb hn =>
  have hh:=a6 _ _ hb ⟨2,hn,by decide⟩;have hr:LR zN L tp k (.obj R):=.inl ⟨x',hk,r,R,hb,hh,rfl⟩;have hl:t.loc=.obj R:=by
   cases wr<;>cases sy<;>simp[ak,b5] at ht<;>subst ht<;>rfl
  rw[hl];refine .inr (.inr ⟨c.Li hr,λ_=>.inl ⟨x',hk,r,R,hb,hh,?_,rfl⟩,λ_=>hr⟩);rintro⟨cs,ty,f,hc,_⟩;rw[hc] at hn;simp[FK] at hn
 |mark hm=>cases hm<;>simp[ak,b5] at ht
 |out=>simp[ak,b5] at ht;subst ht;exact .inl rfl
def Cw.OD {tp:Bool}{N:Nat}{t:e9}(c:Cw P SB zZ Gn Wg zO zN Kp L own W)(hi:L i=bc x)(f:Ik P SB zZ Gn x W Ef w' W' ES)(g':Y)(ht:tp=I->own=b6)(hN:i<N)
  (h:TI (Nn zO Wg) (Ol zN L tp) (LR zN L tp) N t) (a6:∀op∈t,op.act.LK W.L.size) {fn:bo} {pos:String} :
  TI (Nn zO Wg) (Ol zN (put L i (bc ⟨g',w',x.H,Ef,x.T⟩)) tp) (LR zN (put L i (bc ⟨g',w',x.H,Ef,x.T⟩)) tp) N (t++bb i fn pos ES.LK):=by
 have c':=c.step hi f g';have fresh:∀B l,W.L.size<=B->inBlock B l->ir t l:=by
  intro B l hB hl j a ha e;obtain⟨op,hop,a7⟩:=fq ha;have Fa:=a6 op (Bn hop);rw[<-e] at hl;have key:∀(act:MemAct) (a:Touch),act.L=bc a->act.LK W.L.size->inBlock B a.loc->False:=by
   intro act a ha Fa hl;cases act with
   |access ev =>
    simp only[b5,cF] at ha;subst ha;obtain⟨loc,wr,sy⟩:=ev;cases loc<;>first|exact hl.S|(simp only[inBlock] at hl;simp only[cK,Loc.low] at Fa;omega)
   |mark m =>
    cases m<;>simp[b5] at ha
    all_goals
     subst ha;simp only[inBlock] at hl;simp only[cK] at Fa;omega
   |_=>simp[b5] at ha
  exact key op.act a a7 Fa hl
 refine h.app hN (c'.Q4 (EG L i _) (λE hE=>f.evs (c.Fg i x hi) E hE)) (λj hj l=>?_) (λl hl=>?_) (λl hl=>?_) (λj l hs=>?_) (λl hl=>?_) (λj hj _ l=>?_)
 .unfold Ol LR;rw[EJ L _ hj];exact⟨id,id⟩
 .obtain⟨y,hy,b,B,h1,h2,h3,h4⟩|⟨h1,h2,h3⟩:=hl
  .rw[EG] at hy;cases hy;obtain h0|⟨_,h0⟩:=f.new b B h1
   .exact .inl (.inl ⟨x,hi,b,B,h0,h2,λhr=>h3 (hr.kept f h0),h4⟩)
   .exact .inr (fresh B l h0 h4)
  .exact .inl (.inr ⟨h1,h2,h3⟩)
 .obtain⟨y,hy,b,B,h1,h2,h4⟩|⟨h1,h2,h3⟩:=hl
  .rw[EG] at hy;cases hy;obtain h0|⟨_,h0⟩:=f.new b B h1
   .exact .inl (.inl ⟨x,hi,b,B,h0,h2,h4⟩)
   .exact .inr (fresh B l h0 h4)
  .exact .inl (.inr ⟨h1,h2,h3⟩)
 .exact⟨λhw=>c'.Li (gF hw) hs,λhr=>c'.Li hr hs⟩
 .obtain⟨a,rfl,_⟩|⟨j,hl⟩:=hl
  .rfl
  .have hr:LR zN (put L i (bc ⟨g',w',x.H,Ef,x.T⟩)) tp j l:=hl.S gF id;rcases hr with⟨y,_,b,B,_,_,h4⟩|⟨_,_,B,_,h4⟩<;>exact Il h4
 .exact⟨λhw=>⟨c'.apart ht (e8 hj) l hw,λhw'=>c'.apart ht (e8 hj) l hw (gF hw')⟩,λhr hw'=>c'.apart ht hj l hw' hr⟩
def eY (f:Ik P SB zZ Gn x W Ef w' W' ES)(ht:x.H.Fg=U){k:Nat}{fn:bo}{pos:String}:∀op∈bb k fn pos ES.LK,op.act.LK W'.L.size:=by
 intro op hop;obtain⟨e,a6,rfl⟩:=bh hop;have hE:=f.evs ht e (by simpa using a6);cases hE with
 |@cell a A wr sy hb _ _ _ =>
  have:=(f.rel.lt hb).2;show cK _ (ak ⟨.cell A,wr,sy⟩);simpa [ak,cK,Loc.low] using this
 |@obj r R wr sy hb _ =>
  have:=(f.rel.lt hb).2;show cK _ (ak ⟨.obj R,wr,sy⟩);cases wr<;>cases sy<;>simpa [ak,cK,Loc.low] using this
 |mark hm=>cases hm<;>simp[ak,cK]
 |out=>simp[ak,cK,Loc.low]
def cN (f:Ik P SB zZ Gn x W Ef w' W' ES)(ht:x.H.Fg=U):∀e∈ES.LK,e.loc≠.mark .disable/\e.loc≠.mark .enable/\∀a,e.loc≠.mark (.release a):=by
 intro e a6;have hE:=f.evs ht e (by simpa using a6);cases hE with
 |mark hm=>cases hm<;>simp
 |_=>simp
end
open Go.ConcR (KK WgAt stA smA rd wr mk DC0 Bk g_of_ofEvents bk_of_mute ofEvent_loc_mark ofEvent_cell ofEvent_mk)
inductive Wm where
 |born (Q:Y->J->Prop) (y:Y×J)
 |tree (Q:Y->J->Prop) (y:Y×J)
 |st (s m:Nat)
inductive L4 (p:b7):Wm->Wm->Prop
 |tree {Q:Y->J->Prop} {x y:Y×J}:¬Q y.1 y.2->After p x y->L4 p (.tree Q x) (.tree Q y)
 |off {s m:Nat} {Q:Y->J->Prop} {y:Y×J}:L4 p (.st s m) (.tree Q y)
 |un {Q:Y->J->Prop} {y:Y×J}:L4 p (.tree Q y) (.born Q y)
 |R3 {s m:Nat} {Q:Y->J->Prop} {y:Y×J}:L4 p (.st s m) (.born Q y)
 |stage {s m s' m':Nat}:s<s'->L4 p (.st s m) (.st s' m')
 |fuel {s m m':Nat}:m<m'->L4 p (.st s m) (.st s m')
def DC (p:b7):∀s m,Acc (L4 p) (.st s m):=by
 intro s
 induction s using kx with
 |_ s ihs =>
  intro m
  induction m using kx with
  |_ m ihm =>
   refine .intro _ λy h=>?_;cases h with
   |stage h=>exact ihs _ h _
   |fuel h=>exact ihm _ h
def DB {p:b7}{BB:bo->Bool}{Q:Y->J->Prop}{d:Nat}{g:Y}{w:J}(h:E5 p BB Q d g w):Acc (L4 p) (.tree Q (g,w)):=by
 induction h with
 |fin h =>
  refine .intro _ λz hz=>?_;cases hz with
  |tree hn _=>exact AS h hn
  |off=>exact DC p _ _
 |next ng nw h1 h2 _ ih =>
  refine .intro _ λz hz=>?_;cases hz with
  |@tree _ x _ _ ha =>
   obtain⟨g',w'⟩:=x;obtain⟨τ,d,es,e,_⟩:=ha;obtain⟨⟨es',e'⟩,_⟩:=h2 τ d;rw[e] at e';cases e';exact ih τ d
  |off=>exact DC p _ _
 |spec h1 h2 h3 h4 h5 h6 _ ih =>
  refine .intro _ λz hz=>?_;cases hz with
  |@tree _ x _ _ ha =>
   obtain⟨g',w'⟩:=x;obtain⟨τ,n,es,e,_⟩:=ha;dsimp only at e;rw[(h6.same Dt).step h3 h4 h5] at e;cases e;exact ih τ n
  |off=>exact DC p _ _
def DV {p:b7}{BB:bo->Bool}{Q:Y->J->Prop}{d:Nat}{g:Y}{w:J}(h:E5 p BB Q d g w):Acc (L4 p) (.born Q (g,w)):=by
 refine .intro _ λz hz=>?_;cases hz with
 |un=>exact DB h
 |R3=>exact DC p _ _
section
variable (P:EK) (SB BB:bo->Bool) (zZ:Bool) (Gn:Nat) (ty Wg:Nat) (Ψ2:J->Prop)
def cO (Q:Y->J->Prop)(H:Hid)(T:List bw)(wl:Ey)(o:Bool):Prop :=
 ∀(x:Lone) (g:Y) (W:J),x.H=H->x.T=T->wl.le x.β->Q x.g x.w->Fx P SB BB zZ x g->GQ P SB zZ Gn x W->lA ty Wg W ->
  (∃m,GW P.b ty Wg U (R0 P.b ty Wg) m g W)/\(o=I->Ψ2 W)
def mN (x:Lone)(child:Y):Prop:=child.status=.L/\∃G1,(∀W,cf P.b U child W=.go G1 W #[])/\Fx P SB BB zZ x G1
inductive G3:Nat->Nat->Wm->Option Lone->Bool->Y->J->Prop
 | born {x : Lone} {wl : Ey} {Q : Y -> J -> Prop} {o : Bool} {g : Y} {W : J} : wl.le x.β -> cO P SB BB zZ Gn ty Wg Ψ2 Q x.H x.T wl o -> (∀ g w, Q g w -> BB g.L.fn = U) -> E5 P.a BB Q 0 x.g x.w -> mN P SB BB zZ x g ->
   G3 7 0 (.born Q (x.g,x.w)) (bc x) o g W
 | tree {x : Lone} {wl : Ey} {Q : Y -> J -> Prop} {o : Bool} {d : Nat} {g : Y} {W : J} : wl.le x.β -> cO P SB BB zZ Gn ty Wg Ψ2 Q x.H x.T wl o -> (∀ g w, Q g w -> BB g.L.fn = U) -> E5 P.a BB Q d x.g x.w -> Fx P SB BB zZ x g ->
   G3 7 d (.tree Q (x.g,x.w)) (bc x) o g W
 |r0 {m:Nat} {g:Y} {W:J}:GW P.b ty Wg U (R0 P.b ty Wg) m g W->G3 7 0 (.st 7 m) b6 U g W
 |k1 {m:Nat} {g:Y} {W:J}:GW P.b ty Wg U (K1 P.b ty Wg) m g W->G3 6 0 (.st 6 m) b6 U g W
 |d1 {m:Nat} {g:Y} {W:J}:GW P.b ty Wg U (D1 P.b ty Wg) m g W->G3 5 1 (.st 5 m) b6 U g W
 |d2 {m:Nat} {g:Y} {W:J}:GW P.b ty Wg U (D2 P.b ty Wg) m g W->G3 4 1 (.st 4 m) b6 U g W
 |d3 {m:Nat} {g:Y} {W:J}:GW P.b ty Wg U (D3 P.b ty Wg) m g W->G3 3 1 (.st 3 m) b6 U g W
 |d4 {m:Nat} {g:Y} {W:J}:GW P.b ty Wg U (AtD4 P.b ty Wg) m g W->G3 2 1 (.st 2 m) b6 U g W
 |quit {q d:Nat} {g:Y} {W:J}:QuitsD P.b q d g->G3 1 d (.st 1 q) b6 U g W
end
section
variable {P:EK} {SB BB:bo->Bool} {zZ:Bool} {Gn:Nat} {ty Wg:Nat} {Ψ2:J->Prop} {s d:Nat} {m:Wm} {x:Option Lone} {o:Bool} {g:Y} {W W':J}
def G3.rely (h:G3 P SB BB zZ Gn ty Wg Ψ2 s d m x o g W)(r:RL ty Wg W W'):G3 P SB BB zZ Gn ty Wg Ψ2 s d m x o g W':=by
 cases h with
 |born a b z c e=>exact .born a b z c e
 |tree a b z c e=>exact .tree a b z c e
 |r0 h=>exact .r0 (Goes.rely RL.trans h r)
 |k1 h=>exact .k1 (Goes.rely RL.trans h r)
 |d1 h=>exact .d1 (Goes.rely RL.trans h r)
 |d2 h=>exact .d2 (Goes.rely RL.trans h r)
 |d3 h=>exact .d3 (Goes.rely RL.trans h r)
 |d4 h=>exact .d4 (Goes.rely RL.trans h r)
 |quit h=>exact .quit h
def G3.status (h:G3 P SB BB zZ Gn ty Wg Ψ2 s d m x o g W):g.status=.L\/(g.status=.finished/\s=1):=by
 cases h with
 |born _ _ _ _ e=>exact .inl e.1
 |tree _ _ _ _ e=>exact .inl e.status.2
 |r0 h=>exact .inl (Goes.running (λ_ _ x=>x.1) W (RL.refl W) h)
 |k1 h=>exact .inl (Goes.running (λ_ _ x=>x.1) W (RL.refl W) h)
 |d1 h=>exact .inl (Goes.running (λ_ _ x=>x.1) W (RL.refl W) h)
 |d2 h=>exact .inl (Goes.running (λ_ _ x=>x.1) W (RL.refl W) h)
 |d3 h=>exact .inl (Goes.running (λ_ _ x=>x.1) W (RL.refl W) h)
 |d4 h=>exact .inl (Goes.running (λ_ _ x=>x.1) W (RL.refl W) h)
 |quit h=>exact h.status.imp id λe=>⟨e,rfl⟩
def G3.acc (h:G3 P SB BB zZ Gn ty Wg Ψ2 s d m x o g W):Acc (L4 P.a) m:=by
 cases h with
 |born _ _ _ h _=>exact DV h
 |tree _ _ _ h _=>exact DB h
 |_=>exact DC _ _ _
def G3.Qc (h:G3 P SB BB zZ Gn ty Wg Ψ2 s d m x o g W):s<=6\/s=7:=by
 cases h<;>omega
def G3.woken (h:G3 P SB BB zZ Gn ty Wg Ψ2 s d m x o g W)(a a':Y)(w':J):woken P.b a a' w' g=g:=by
 unfold l9;split
 .exact again_running _ (h.status.imp id (·.1))
 .rfl
end
inductive TS where
 |start|at_ (k:Nat)|done
def TS.LH:TS->Option Nat
 |.at_ k=>bc k
 |_=>b6
def TS.tp:TS->Bool
 |.start=>I
 |_=>U
def DG {ts:TS}(h:ts.tp=I):ts.LH=none:=by cases ts<;>first|rfl|cases h
def Qd (j0 j:Nat)(D:Nat->WD)(rr:Nat->Nat)(k i:Nat):Prop:=∃a,k=a+1/\j0<=a/\a<j/\((D a).stage=7\/i<=rr a)
section
variable (P:EK) (SB BB:bo->Bool) (zZ:Bool) (Gn:Nat) (ty Wg:Nat) (zO zN:Nat->Prop) (Kp:IB) (Ψ0 Ψ2:J->Prop)
structure WI (j0 j:Nat)(gs:Array Y)(W:J)(t:e9)(D:Nat->WD)(M:Nat->Wm)(O:Nat->Bool)(L:Nat->Option Lone)(ts:TS)(rr:Nat->Nat)(st sm:Int):Prop where
 size:gs.size=j+1
 wk:∀i,i<j->∃g,gs[i+1]?=bc g/\G3 P SB BB zZ Gn ty Wg Ψ2 (D i).stage (D i).LE (M i) (L (i+1)) (O i) g W
 cw:Cw P SB zZ Gn Wg zO zN Kp L ts.LH W
 tr:Tr (Nn zO Wg) (Ol zN L ts.tp) (LR zN L ts.tp) (j+1) (Qd j0 j D rr) (stA Wg) t
 LK:∀op∈t,op.act.LK W.L.size
 deafW:∀i,i<j->n4 t (i+1)=(D i).LE
 rel:∀i,j0<=i->i<j->(D i).stage<=6->RelBy (stA Wg) t (i+1) (rr i)
 wg:WgAt ty Wg W st sm
 KN:∀i,i<j->O i=I->ts=.at_ (i+1)
 LC:∀k,ts=.at_ k->∃i,i<j/\k=i+1/\O i=I
 Hv:(ts=.start->Ψ0 W)/\(ts=.done->Ψ2 W)
 out:∀i,j<i->L i=b6
 old:∀i,i<j0->(D i).stage=1
 jj:j0<=j
def ax (zN:Nat->Prop)(Ψ:J->Prop):Prop:=∀W W':J,(∀B,zN B->W'.L[B]?=W.L[B]?)->Ψ W->Ψ W'
end
section
variable {P:EK} {SB BB:bo->Bool} {zZ:Bool} {Gn:Nat} {ty Wg:Nat} {zO zN:Nat->Prop} {Kp:IB} {Ψ0 Ψ2:J->Prop}
 {j0 j:Nat} {gs:Array Y} {W W':J} {t:e9} {D:Nat->WD} {M:Nat->Wm} {O:Nat->Bool} {L:Nat->Option Lone} {ts ts':TS} {rr:Nat->Nat} {st sm JD J8:Int}
def WI.live (h:WI P SB BB zZ Gn ty Wg zO zN Kp Ψ0 Ψ2 j0 j gs W t D M O L ts rr st sm):lA ty Wg W:=⟨_,_,h.wg⟩
def WI.next (h:WI P SB BB zZ Gn ty Wg zO zN Kp Ψ0 Ψ2 j0 j gs W t D M O L ts rr st sm){i:Nat}(hi:i<j){g g':Y}{fn:bo}{pos:String}{es:Array cE}{s' dd':Nat}{m':Wm}{x':Option Lone}{o':Bool}{r':Nat}
  (hk:G3 P SB BB zZ Gn ty Wg Ψ2 s' dd' m' x' o' g' W') (aC:WgAt ty Wg W' JD J8) (zP:Cw P SB zZ Gn Wg zO zN Kp (put L (i+1) x') ts'.LH W')
  (aG:TI (Nn zO Wg) (Ol zN (put L (i+1) x') ts'.tp) (LR zN (put L (i+1) x') ts'.tp) (j+1) (t++bb (i+1) fn pos es))
  (aH:∀e∈es,∀a,e.loc≠.mark (.release a))
  (zG:s'<=(D i).stage) (hold:i<j0->s'=1)
  (a6:s'=7\/(∀i',i'<t.size->(D i).stage=7->i'<=r')/\((D i).stage<=6->r'=rr i)/\∀i',t.size<=i'->(t++bb (i+1) fn pos es).g? i'=bc (i+1)->i'<=r'/\j0<=i\/((∀x,touchAt (t++bb (i+1) fn pos es) i'=bc x->x.loc.L=I->Nn zO Wg x.loc/\x.kind=.atomic)/\¬(t++bb (i+1) fn pos es).counts i'))
  (h7:s'=7->j0<=i/\(D i).stage=7)
  (aF:∀op∈bb (i+1) fn pos es,op.act.LK W'.L.size) (zv:W.L.size<=W'.L.size)
  (aA:bA (D i).LE es=dd')
  (hrel:j0<=i->s'<=6->RelBy (stA Wg) (t++bb (i+1) fn pos es) (i+1) r')
  (o1:o'=I->ts'=.at_ (i+1)) (o2:ts'=ts/\o'=O i\/(ts=.at_ (i+1)/\ts'=.done/\o'=U)) (aB:(ts'=.start->Ψ0 W')/\(ts'=.done->Ψ2 W')) :
  WI P SB BB zZ Gn ty Wg zO zN Kp Ψ0 Ψ2 j0 j ((gs.map (woken P.b g g' W')).L (i+1) g') W' (t++bb (i+1) fn pos es) (upd D i ⟨s',0,dd'⟩) (upd M i m') (upd O i o') (put L (i+1) x') ts' (upd rr i r') JD J8:=by
 have a7:∀op∈bb (i+1) fn pos es,op.g=i+1:=g_of_ofEvents;have pd0:∀k a,a<t.size->Qd j0 j D rr k a->Qd j0 j (upd D i ⟨s',0,dd'⟩) (upd rr i r') k a:=by
  rintro k a ha ⟨b,rfl,hb0,aD,hb⟩;refine⟨b,rfl,hb0,aD,?_⟩;by_cases e:b=i
  .subst e;rw[bn,bn];obtain h1|⟨h1,h2,_⟩:=a6
   .exact .inl h1
   .obtain hb'|hb':=hb
    .exact .inr (h1 a ha hb')
    .by_cases h6:(D b).stage<=6
     .rw[h2 h6];exact .inr hb'
     .have : (D b).stage = 7 := by
       obtain⟨_,_,hs⟩:=h.wk b aD;exact hs.Qc.L h6
      exact .inr (h1 a ha this)
  .rw[bq D _ e,bq rr _ e];exact hb
 refine⟨by simp[h.size],λa ha=>?_,zP,?_,λop hop=>?_,λa ha=>?_,λa h0 ha hs=>?_,aC,λa ha ho=>?_,λk a8=>?_,aB,λa ha=>?_,λa ha=>?_,h.jj⟩
 .by_cases e:a=i
  .subst e;exact⟨g',get_map_set_same _ _ _ (by rw[h.size];omega),by rw[bn,bn,bn,EG];exact hk⟩
  .obtain⟨y,hy,hs⟩:=h.wk a ha;refine⟨y,by rw[get_map_set _ _ _ _ (by omega),hy,B5,hs.woken],?_⟩;rw[bq D _ e,bq M _ e,bq O _ e,EJ L _ (by omega)];exact hs.rely λ_=>⟨_,_,aC⟩
 .refine(h.tr.Qb pd0).app aG a7 (λop hop e=>?_) (λa ha aI _=>?_)
  .obtain⟨x,hx,rfl⟩:=bh hop;exact aH x hx _ (eH e)
  .obtain h1|⟨_,_,h3⟩:=a6
   .exact .inl ⟨i,rfl,(h7 h1).1,hi,.inl (by rw[bn];exact h1)⟩
   .obtain⟨hx,h0⟩|hx:=h3 a ha aI
    .exact .inl ⟨i,rfl,h0,hi,.inr (by rw[bn];exact hx)⟩
    .exact .inr hx
 .obtain hop|hop:=eT.1 hop
  .exact lh zv (h.LK op hop)
  .exact aF op hop
 .by_cases e:a=i
  .subst e;rw[Deaf_own,h.deafW a ha,bn];exact aA
  .rw[Deaf_other t (by omega) _ a7,h.deafW a ha,bq D _ e]
 .by_cases e:a=i
  .subst e;rw[bn] at hs ⊢;exact hrel h0 hs
  .rw[bq D _ e] at hs;rw[bq rr _ e];exact(h.rel a h0 ha hs).appOther a7 (by omega)
 .by_cases e:a=i
  .subst e;rw[bn] at ho;exact o1 ho
  .rw[bq O _ e] at ho;have:=h.KN a ha ho;obtain⟨rfl,_⟩|⟨h1,_,_⟩:=o2
   .exact this
   .rw[h1] at this;have:=TS.at_.inj this;omega
 .obtain⟨rfl,h2⟩|⟨_,h1,_⟩:=o2
  .obtain⟨a,ha,e1,e2⟩:=h.LC k a8;refine⟨a,ha,e1,?_⟩;by_cases e:a=i
   .subst e;rw[bn,h2];exact e2
   .rw[bq O _ e];exact e2
  .rw[h1] at a8;cases a8
 .rw[EJ L _ (by omega)];exact h.out a ha
 .by_cases e:a=i
  .subst e;rw[bn];exact hold ha
  .rw[bq D _ e];exact h.old a ha
def WI.J9 (h:WI P SB BB zZ Gn ty Wg zO zN Kp Ψ0 Ψ2 j0 j gs W t D M O L ts rr st sm){k:Nat}(hk:k<j+1){u:e9}(hu:∀op∈u,op.g=k/\∀x,op.act.L=bc x->Nn zO Wg x.loc/\x.kind≠.plain/\(x.kind=.said->k=0)) :
  TI (Nn zO Wg) (Ol zN L ts.tp) (LR zN L ts.tp) (j+1) (t++u):=by
 have a6:ts.tp=I->ts.LH=none:=DG;refine h.tr.ti.app hk (λop hop=>⟨(hu op hop).1,λx hx=>.inr (.inl ((hu op hop).2 x hx))⟩) (λ_ _ _=>⟨id,id⟩) (λ_=>.inl) (λ_=>.inl) (λa l hs=>⟨λhw=>h.cw.Li (gF hw) hs,λhr=>h.cw.Li hr hs⟩) (λl hl=>?_)
  (λa ha _ l=>⟨λhw=>⟨h.cw.apart a6 (e8 ha) l hw,λhw'=>h.cw.apart a6 (e8 ha) l hw (gF hw')⟩,λhr hw'=>h.cw.apart a6 ha l hw' hr⟩)
 obtain⟨a,rfl,_⟩|⟨a,hl⟩:=hl
 .rfl
 .have hr:LR zN L ts.tp a l:=hl.S gF id;rcases hr with⟨y,_,b,B,_,_,h4⟩|⟨_,_,B,_,h4⟩<;>exact Il h4
def H6 {L:Nat->Option Lone}{k:Nat}(h:L k=b6):put L k b6=L:=by
 funext a;unfold put;split
 .rename_i e;rw[e,h]
 .rfl
def L5 {Wg:Nat}{e:cE}(h:Bk Wg e){x:Touch}(hx:(ak e).L=bc x):(∃a:ko,x.loc=.cell a/\a.LE=Wg)/\x.kind=.atomic:=by
 obtain h1|h1|⟨a,wr,rfl,ha⟩:=h
 .rw[ofEvent_loc_mark h1] at hx;cases hx
 .rw[ofEvent_loc_mark h1] at hx;cases hx
 .cases wr<;>simp[ak,b5] at hx<;>subst hx<;>exact⟨⟨a,rfl,ha⟩,rfl⟩
def OE {Wg B:Nat}{e:cE}(h:Bk Wg e)(hB:Wg<B):(ak e).LK B:=by
 obtain h1|h1|⟨a,wr,rfl,ha⟩:=h
 .rw[ofEvent_loc_mark h1];trivial
 .rw[ofEvent_loc_mark h1];trivial
 .have:a.LE<B:=by omega
  cases wr<;>simpa [ak,cK,Loc.low] using this
def mO {Wg:Nat}{e:cE}(h:Bk Wg e)(a:ko):e.loc≠.mark (.release a):=by
 obtain h1|h1|⟨a',wr,rfl,ha⟩:=h
 .rw[h1];simp
 .rw[h1];simp
 .simp
def WI.LH (h:WI P SB BB zZ Gn ty Wg zO zN Kp Ψ0 Ψ2 j0 j gs W t D M O L ts rr st sm)(tz:ax zN Ψ0)(aH:ax zN Ψ2){i:Nat}(hi:i<j){g g':Y}{fn:bo}{pos:String}{es:Array cE}{s' dd':Nat}{m':Wm}
  (hk:G3 P SB BB zZ Gn ty Wg Ψ2 s' dd' m' b6 U g' W') (h6:(D i).stage<=6) (hL:L (i+1)=b6) (hO:O i=U) (zG:s'<=(D i).stage) (hold:i<j0->s'=1)
  (aA:Aside Wg W W') (aF:WgAt ty Wg W' JD J8) (aB:∀e∈es,Bk Wg e) (hd:∀a e,es[a]?=bc e->(ak e).L=b6\/0<bA (D i).LE (es.extract 0 a)) (aD:bA (D i).LE es=dd') :
  WI P SB BB zZ Gn ty Wg zO zN Kp Ψ0 Ψ2 j0 j ((gs.map (woken P.b g g' W')).L (i+1) g') W' (t++bb (i+1) fn pos es) (upd D i ⟨s',0,dd'⟩) (upd M i m') (upd O i U) L ts (upd rr i (rr i)) JD J8:=by
 have hrel:j0<=i->RelBy (stA Wg) (t++bb (i+1) fn pos es) (i+1) (rr i):=λh0=>(h.rel i h0 hi h6).LH (h.deafW i hi) fn pos aB hd;have a6:∀op∈bb (i+1) fn pos es,op.g=i+1/\∀x,op.act.L=bc x->Nn zO Wg x.loc/\x.kind=.atomic:=by
  intro op hop;obtain⟨e,he,rfl⟩:=bh hop;refine⟨rfl,λx hx=>?_⟩;obtain⟨⟨a,h1,h2⟩,h3⟩:=L5 (aB e he) hx;exact⟨⟨a,h1,.inr h2⟩,h3⟩
 have hbl:∀B,zN B->W'.L[B]?=W.L[B]?:=λB hB=>aA.LE B (h.cw.JA B hB).1;have:=h.next hi (g:=g) (fn:=fn) (pos:=pos) (r':=rr i) (ts':=ts) hk aF (by rw[H6 hL];exact h.cw.group aA ⟨_,_,_,aF⟩)
  (by rw[H6 hL];exact h.J9 (by omega) (λop hop=>⟨(a6 op hop).1,λx hx=>⟨((a6 op hop).2 x hx).1,by rw[((a6 op hop).2 x hx).2];simp,λe=>by rw[((a6 op hop).2 x hx).2] at e;cases e⟩⟩))
  (λe he a=>mO (aB e he) a) zG hold
  (.inr ⟨λ_ _ h7=>by omega,λ_=>rfl,λa ha aI=>.inr ⟨λx hx _=>?_,λhc=>?_⟩⟩) (λh7=>by omega)
  (λop hop=>by obtain⟨e,he,rfl⟩:=bh hop;exact OE (aB e he) (by rw[aA.size];exact h.cw.LK.1)) (by rw[aA.size];exact AK _) aD (λh0 _=>hrel h0) (by simp) (.inl ⟨rfl,hO.LH⟩)
  ⟨λe=>tz W W' hbl (h.Hv.1 e),λe=>aH W W' hbl (h.Hv.2 e)⟩
 .rwa [H6 hL] at this
 .obtain⟨op,hop,a7⟩:=fq hx;obtain⟨zY,_⟩|⟨_,a8⟩:=br hop
  .omega
  .exact(a6 op a8).2 x a7
 ·
  obtain⟨x,hx,_,aC⟩:=hc;have aJ:touchAt (t++bb (i+1) fn pos es) a=bc x:=hx;obtain⟨op,hop,a7⟩:=fq aJ;obtain⟨zY,_⟩|⟨_,a8⟩:=br hop
  .omega
  .have hat:=((a6 op a8).2 x a7).2;obtain aC|⟨gg,aG,aK⟩:=aC
   .exact aC hat
   .have eg:gg=i+1:=by rw[aI] at aG;exact(dS aG).LH
    subst eg;have hj:(bb (i+1) fn pos es)[a-t.size]?=bc op:=by
     rw[C9] at hop;simpa [nx.2 ha] using hop
    rw[ofEvents_eq,BT] at hj;obtain⟨e,he,rfl⟩:=Bo.1 hj;have aL:a-t.size<=es.size:=by
     obtain h'|h':=BV (a-t.size) es.size
     .omega
     .rw[Cz h'] at he;cases he
    obtain h0|h0:=hd _ e he
    .simp only at a7;rw[h0] at a7;cases a7
    .have:=deaf_inside t (i+1) fn pos es (a-t.size) aL;rw[show t.size+(a-t.size)=a by omega,aK,h.deafW i hi] at this;omega
end
open Go.ConcR (KK WgAt stA smA rd wr mk DC0 Bk g_of_ofEvents bk_of_mute ofEvent_loc_mark ofEvent_cell ofEvent_mk)
def L4.Qe {p:b7}{a:Wm}{s m:Nat}(h:L4 p a (.st s m)):∃s' m',a=.st s' m':=by
 cases h<;>exact⟨_,_,rfl⟩
section
variable (P:EK) (SB BB:bo->Bool) (zZ:Bool) (Gn:Nat) (ty Wg:Nat) (zO zN:Nat->Prop) (Kp:IB) (Ψ0 Ψ2:J->Prop)
def Ko (j0 j:Nat)(gs:Array Y)(W:J)(t:e9)(D:Nat->WD)(M:Nat->Wm)(L:Nat->Option Lone)(rr:Nat->Nat)(tag:CTag)(tp:Bool)(i:Nat)(g:Y):Prop :=
 ∃(g':Y) (W':J) (es:Array cE) (D':Nat->WD) (M':Nat->Wm) (O':Nat->Bool) (L':Nat->Option Lone) (ts':TS) (a6:Nat->Nat) (JD J8:Int),
  cf P.b U g W=.go g' W' es /\
  WI P SB BB zZ Gn ty Wg zO zN Kp Ψ0 Ψ2 j0 j ((gs.map (woken P.b g g' W')).L (i+1) g') W' (t++bb (i+1) g.L.fn g.L.LH es) D' M' O' L' ts' a6 JD J8 /\
  (∀tag',(tag'=tag\/(tag=.blk/\tag'=.w3))->(mayWake P.b g=I->g'.status=.L->tag'≠.blk)->cU j D' tag' JD J8) /\
  L4 P.a (M' i) (M i)/\(∀k,k≠i->M' k=M k)/\L' 0=L 0/\Vc j D'<=Vc j D/\(∀k,k<j->(D k).stage<=6->(D' k).stage<=6/\a6 k=rr k)/\ts'.tp=tp
end
section
variable {P:EK} {SB BB:bo->Bool} {zZ:Bool} {Gn:Nat} {ty Wg:Nat} {zO zN:Nat->Prop} {Kp:IB} {Ψ0 Ψ2:J->Prop}
 {j0 j:Nat} {gs:Array Y} {W W':J} {t:e9} {D:Nat->WD} {M:Nat->Wm} {O:Nat->Bool} {L:Nat->Option Lone} {ts ts':TS} {rr:Nat->Nat} {st sm JD J8:Int} {tag:CTag} {i:Nat} {g:Y}
def dv (hi:i<j){x:WD}(hx:cnt x<=cnt (D i)):Vc j (upd D i x)<=Vc j D:=by
 have:=Vc_upd D x hi;omega
def bL (h:WI P SB BB zZ Gn ty Wg zO zN Kp Ψ0 Ψ2 j0 j gs W t D M O L ts rr st sm)(tz:ax zN Ψ0)(a8:ax zN Ψ2)(hi:i<j)(hL:L (i+1)=b6)(hO:O i=U){s:Nat}(hs:(D i).stage=s)(h6:s<=6)
  {g':Y} {es:Array cE} {s' dd':Nat} {m':Wm} (zK:cf P.b U g W=.go g' W' es) (hk:G3 P SB BB zZ Gn ty Wg Ψ2 s' dd' m' b6 U g' W') (zG:s'<=s) (hold:i<j0->s'=1)
  (aA:Aside Wg W W') (aB:WgAt ty Wg W' JD J8) (aC:∀e∈es,Bk Wg e) (hd:∀a e,es[a]?=bc e->(ak e).L=b6\/0<bA (D i).LE (es.extract 0 a)) (a6:bA (D i).LE es=dd')
  (a7:∀tag',(tag'=tag\/(tag=.blk/\tag'=.w3))->(mayWake P.b g=I->g'.status=.L->tag'≠.blk)->cU j (upd D i ⟨s',0,dd'⟩) tag' JD J8)
  (zY:L4 P.a m' (M i)):Ko P SB BB zZ Gn ty Wg zO zN Kp Ψ0 Ψ2 j0 j gs W t D M L rr tag ts.tp i g:=by
 refine⟨g',W',es,_,_,_,_,_,_,JD,J8,zK,h.LH tz a8 hi hk (by omega) hL hO (by omega) hold aA aB aC hd a6,a7,by rw[bn];exact zY,λk hk=>bq M _ hk,rfl,dv hi ?_,λk hk aD=>?_,rfl⟩
 .simp only[cnt];split<;>split<;>omega
 .by_cases e:k=i
  .subst e;rw[bn,bn];exact⟨by show s'<=6;omega,rfl⟩
  .rw[bq D _ e,bq rr _ e];exact⟨aD,rfl⟩
def ff {es:Array cE}{k:Nat}{fn:bo}{pos:String}(h:∀e∈es,(ak e).L=b6):∀op∈bb k fn pos es,op.g=k/\∀x,op.act.L=bc x->False:=by
 intro op hop;obtain⟨e,he,rfl⟩:=bh hop;exact⟨rfl,λx hx=>by rw[h e he] at hx;cases hx⟩
def L6 (h:WI P SB BB zZ Gn ty Wg zO zN Kp Ψ0 Ψ2 j0 j gs W t D M O L ts rr st sm)(hi:i<j)(hL:L (i+1)=b6)(hO:O i=U)(hs:(D i).stage=7)(hd:(D i).LE=0){m:Nat}(hM:M i=.st 7 m)(a7:cU j D tag st sm)
  (hk:GW P.b ty Wg U (R0 P.b ty Wg) m g W):Ko P SB BB zZ Gn ty Wg zO zN Kp Ψ0 Ψ2 j0 j gs W t D M L rr tag ts.tp i g:=by
 have aA:j0<=i:=dn λzY=>by have:=h.old i zY;omega
 have aB:n4 t (i+1)=0:=by rw[h.deafW i hi,hd]
 obtain a8|⟨m',rfl,hstep⟩:=Goes.cases hk
 .obtain⟨_,g',zK,m₂,aC⟩:=a8 W (RL.refl W);have a6:∀e∈(#[mk (.releaseMerge (stA Wg))]:Array cE),(ak e).L=none:=by intro e he;simp at he;subst he;rfl
  have hw:=h.next hi (g:=g) (fn:=g.L.fn) (pos:=g.L.LH) (r':=t.size) (ts':=ts) (.k1 aC) h.wg (by rw[H6 hL];exact h.cw)
   (by rw[H6 hL];exact h.J9 (by omega) (λop hop=>⟨(ff a6 op hop).1,λx hx=>((ff a6 op hop).2 x hx).S⟩))
   (by intro e he a;simp at he;subst he;simp[mk]) (by omega) (λe=>by omega)
   (.inr ⟨λa ha _=>by omega,λh6=>by omega,λa ha aD=>.inl ⟨by
    obtain⟨z,hz,_⟩:=Bo.1 aD;have:=cq hz;rw[ofEvents_eq] at this;simp at this
    omega,aA⟩⟩) (λe=>by omega)
   (λop hop=>by
    obtain⟨e,he,rfl⟩:=bh hop;simp at he;subst he
    exact h.cw.LK.1) (AK _) (by rw[hd];rfl) (λ_ _=>RelBy.new aB _ _) (by simp) (.inl ⟨rfl,hO.LH⟩) h.Hv
  refine⟨g',W,_,_,_,_,_,_,_,st,sm,zK,hw,λtag' ht _=>(a7.counted hi (by omega) (.inl rfl) _ _).retag ht,by rw[bn,hM];exact .stage (by omega),λk hk=>bq M _ hk,EJ L _ (by omega),dv hi (by simp[cnt,hs]),λk hk h6=>?_,rfl⟩;have e:k≠i:=λe=>by subst e;omega
  rw[bq D _ e,bq rr _ e];exact⟨h6,rfl⟩
 .obtain⟨g',w',es,zK,⟨rfl,rfl⟩,aF⟩:=hstep W (RL.refl W);have a6:∀e∈(#[]:Array cE),(ak e).L=none:=by simp
  have hw:=h.next hi (g:=g) (fn:=g.L.fn) (pos:=g.L.LH) (r':=rr i) (ts':=ts) (.r0 aF) h.wg (by rw[H6 hL];exact h.cw)
   (by rw[H6 hL];exact h.J9 (by omega) (λop hop=>⟨(ff a6 op hop).1,λx hx=>((ff a6 op hop).2 x hx).S⟩))
   (by simp) (by omega) (λe=>by omega) (.inl rfl) (λ_=>⟨aA,hs⟩) (λop hop=>by obtain⟨e,he,rfl⟩:=bh hop;simp at he) (AK _) (by rw[hd];rfl) (λ_ e=>by omega) (by simp) (.inl ⟨rfl,hO.LH⟩) h.Hv
  refine⟨g',w',_,_,_,_,_,_,_,st,sm,zK,hw,λtag' ht _=>bs (by have:=a7.same (i:=i) 0 0;rwa [hs] at this) ht,by rw[bn,hM];exact .fuel (by omega),λk hk=>bq M _ hk,EJ L _ (by omega),dv hi (by simp[cnt,hs]),λk hk h6=>?_,rfl⟩;have e:k≠i:=λe=>by subst e;omega
  rw[bq D _ e,bq rr _ e];exact⟨h6,rfl⟩
def Cw.free (c:Cw P SB zZ Gn Wg zO zN Kp L (bc (i+1)) W):Cw P SB zZ Gn Wg zO zN Kp (put L (i+1) b6) b6 W:=by
 have d:=c.drop (i+1);refine⟨d.like,d.Fg,d.Np,d.dead,λa x ha _=>?_,d.sep,d.LK,d.JA,d.keep,d.F2,d.L3,d.OC⟩;have e:a≠i+1:=λe=>by subst e;rw[EG] at ha;cases ha
 exact d.Jz a x ha (λe'=>e (dS e').LH)
def WI.turn (h:WI P SB BB zZ Gn ty Wg zO zN Kp Ψ0 Ψ2 j0 j gs W t D M O L ts rr st sm)(hi:i<j)(hg:gs[i+1]?=bc g)(hs:(D i).stage=7)(hd:(D i).LE=0){m:Nat}(hk:GW P.b ty Wg U (R0 P.b ty Wg) m g W)(a7:O i=I->Ψ2 W) :
  ∃ts',WI P SB BB zZ Gn ty Wg zO zN Kp Ψ0 Ψ2 j0 j gs W t D (upd M i (.st 7 m)) (upd O i U) (put L (i+1) b6) ts' rr st sm/\ts'.tp=ts.tp:=by
 have a6:∀ {a y},put L (i+1) b6 a=bc y->L a=bc y:=λ{a y} e=>by
  by_cases e':a=i+1
  .subst e';rw[EG] at e;cases e
  .rwa [EJ L _ e'] at e
 have wk:∀a,a<j->∃g,gs[a+1]?=bc g/\G3 P SB BB zZ Gn ty Wg Ψ2 (D a).stage (D a).LE (upd M i (.st 7 m) a) (put L (i+1) b6 (a+1)) (upd O i U a) g W:=λa ha=>by
  by_cases e:a=i
  .subst e;refine⟨g,hg,?_⟩;rw[bn,bn,EG,hs,hd];exact .r0 hk
  .obtain⟨y,hy,hs⟩:=h.wk a ha;refine⟨y,hy,?_⟩;rw[bq M _ e,bq O _ e,EJ L _ (by omega)];exact hs
 have out:∀a,j<a->put L (i+1) b6 a=none:=λa ha=>by rw[EJ L _ (by omega)];exact h.out a ha
 by_cases ho:O i=I
 .have e:=h.KN i hi ho;subst e;refine⟨.done,⟨h.size,wk,Cw.free h.cw,h.tr.MS (λk l=>?_) (λk l=>?_),h.LK,h.deafW,h.rel,h.wg,λa ha e=>?_,λk e=>(by cases e),⟨λe=>(by cases e),λ_=>a7 ho⟩,out,h.old,h.jj⟩,rfl⟩
  .rintro(⟨x,hx,hw⟩|⟨_,h2,_⟩)
   .exact .inl ⟨x,a6 hx,hw⟩
   .cases h2
  .rintro(⟨x,hx,hw⟩|⟨_,h2,_⟩)
   .exact .inl ⟨x,a6 hx,hw⟩
   .cases h2
  .by_cases e':a=i
   .subst e';rw[bn] at e;cases e
   .rw[bq O _ e'] at e;have:=TS.at_.inj (h.KN a ha e);omega
 .have a8:O i=false:=by simpa using ho
  refine⟨ts,⟨h.size,wk,h.cw.drop (i+1),h.tr.MS (λk l=>?_) (λk l=>?_),h.LK,h.deafW,h.rel,h.wg,λa ha e=>?_,λk e=>?_,h.Hv,out,h.old,h.jj⟩,rfl⟩
  .rintro(⟨x,hx,hw⟩|h2)
   .exact .inl ⟨x,a6 hx,hw⟩
   .exact .inr h2
  .rintro(⟨x,hx,hw⟩|h2)
   .exact .inl ⟨x,a6 hx,hw⟩
   .exact .inr h2
  .by_cases e':a=i
   .subst e';rw[bn] at e;cases e
   .rw[bq O _ e'] at e;exact h.KN a ha e
  .obtain⟨a,ha,e1,e2⟩:=h.LC k e;refine⟨a,ha,e1,?_⟩;rw[bq O _ (λe'=>by subst e';rw[a8] at e2;cases e2)];exact e2
def qd (h:WI P SB BB zZ Gn ty Wg zO zN Kp Ψ0 Ψ2 j0 j gs W t D M O L ts rr st sm)(hi:i<j)(hs:(D i).stage=7)(hd:(D i).LE=0){x:Lone}(hL:L (i+1)=bc x)
  {wl:Ey} {Q:Y->J->Prop} (hM:M i=.born Q (x.g,x.w)) (a6:cU j D tag st sm) (a8:wl.le x.β) (hQ:cO P SB BB zZ Gn ty Wg Ψ2 Q x.H x.T wl (O i)) (aA:∀g w,Q g w->BB g.L.fn=U) (hr:E5 P.a BB Q 0 x.g x.w) (hb:mN P SB BB zZ x g) :
  Ko P SB BB zZ Gn ty Wg zO zN Kp Ψ0 Ψ2 j0 j gs W t D M L rr tag ts.tp i g:=by
 have aB:j0<=i:=dn λzY=>by have:=h.old i zY;omega
 obtain⟨_,g',zK,aC⟩:=hb;have a7:∀e∈(#[]:Array cE),(ak e).L=none:=by simp
 have hp:put L (i+1) (bc x)=L:=by
  funext a;unfold put;split
  .rename_i e;rw[e,hL]
  .rfl
 have hw:=h.next hi (g:=g) (fn:=g.L.fn) (pos:=g.L.LH) (r':=rr i) (ts':=ts) (o':=O i) (.tree a8 hQ aA hr aC) h.wg (by rw[hp];exact h.cw)
  (by rw[hp];exact h.J9 (by omega) (λop hop=>⟨(ff a7 op hop).1,λx hx=>((ff a7 op hop).2 x hx).S⟩))
  (by simp) (by omega) (λe=>by omega) (.inl rfl) (λ_=>⟨aB,hs⟩) (λop hop=>by obtain⟨e,he,rfl⟩:=bh hop;simp at he) (AK _) (by rw[hd];rfl) (λ_ e=>by omega) (λho=>h.KN i hi ho) (.inl ⟨rfl,rfl⟩) h.Hv
 refine⟨g',W,_,_,_,_,_,_,_,st,sm,zK W,hw,λtag' ht _=>bs (by have:=a6.same (i:=i) 0 0;rwa [hs] at this) ht,by rw[bn,hM];exact .un,λk hk=>bq M _ hk,EJ L _ (by omega),dv hi (by simp[cnt,hs]),λk hk h6=>?_,rfl⟩;have e:k≠i:=λe=>by subst e;omega
 rw[bq D _ e,bq rr _ e];exact⟨h6,rfl⟩
def qe (lib:∀H,Lib P SB H zZ BB Gn)(h:WI P SB BB zZ Gn ty Wg zO zN Kp Ψ0 Ψ2 j0 j gs W t D M O L ts rr st sm)(tz:ax zN Ψ0)(aD:ax zN Ψ2)(hi:i<j)(hs:(D i).stage=7){d:Nat}(hd:(D i).LE=d){x:Lone}(hL:L (i+1)=bc x)
  {wl:Ey} {Q:Y->J->Prop} (hM:M i=.tree Q (x.g,x.w)) (a8:cU j D tag st sm) (aF:wl.le x.β) (hQ:cO P SB BB zZ Gn ty Wg Ψ2 Q x.H x.T wl (O i)) (aA:∀g w,Q g w->BB g.L.fn=U)
  {ng:Tape->Nat->Y} {nw:Tape->Nat->J} (h1:Fp P.a BB x.g x.w) (h2:∀τ d,(∃es,cf P.a I x.g (on x.w τ d)=.go (ng τ d) (nw τ d) es)/\(ng τ d).callers≠[]) (h3:∀τ n,E5 P.a BB Q d (ng τ n) (nw τ n)) (hg:Fx P SB BB zZ x g) :
  Ko P SB BB zZ Gn ty Wg zO zN Kp Ψ0 Ψ2 j0 j gs W t D M L rr tag ts.tp i g:=by
 have aG:j0<=i:=dn λzY=>by have:=h.old i zY;omega
 have hq:¬Q x.g x.w:=λhq=>by have:=h1.1;rw[aA _ _ hq] at this;cases this
 obtain⟨g',w',es,Ef,g2,W',ES,e1,e2,e3,e4,e5⟩:=Km (lib x.H) (main2:=U) h1 h2 hg (h.cw.like _ x hL);have aH:E5 P.a BB Q d g' w':=by obtain⟨rfl,rfl⟩:=e2;exact h3 _ _
 have f:Ik P SB zZ Gn x W Ef w' W' ES.LK:=e5;have aB:=h.cw.Fg _ x hL;have aC:W'.L[Wg]?=W.L[Wg]?:=h.cw.same hL f h.cw.LK.1 (h.cw.Np _ x hL);have aI:WgAt ty Wg W' st sm:=by unfold WgAt;rw[aC];exact h.wg
 have hes:ES=ES.LK.LK:=by simp
 have a7:ts.LH≠bc (i+1)->∀B,zN B->W'.L[B]?=W.L[B]?:=λho B hB=>h.cw.same hL f (h.cw.LK.2.2 B hB) λb hb=>h.cw.Jz _ x hL ho b B hb hB;have a6:=cN f aB;rw[<-hes] at a6;have hw:=h.next hi (g:=g) (g':=g2) (fn:=g.L.fn) (pos:=g.L.LH) (es:=ES) (r':=rr i) (ts':=ts) (x':=bc ⟨g',w',x.H,Ef,x.T⟩) (o':=O i) (.tree (x:=⟨g',w',x.H,Ef,x.T⟩) (Ey.le_trans aF e5.le) hQ aA aH e4) aI (h.cw.step hL f g')
  (by rw[hes];exact h.cw.OD hL f g' DG (by omega) h.tr.ti h.LK) (λe he a=>(a6 e he).2.2 a) (by omega) (λe=>by omega) (.inl rfl) (λ_=>⟨aG,hs⟩)
  (by rw[hes];exact eY f aB) f.SIZE (by rw[hd];exact deafBehind_idle (λe he=>⟨(a6 e he).1,(a6 e he).2.1⟩) d) (λ_ e=>by omega) (λho=>h.KN i hi ho) (.inl ⟨rfl,rfl⟩)
  ⟨λe=>tz W W' (a7 (by rw[e];simp[TS.LH])) (h.Hv.1 e),λe=>aD W W' (a7 (by rw[e];simp[TS.LH])) (h.Hv.2 e)⟩
 refine⟨g2,W',ES,_,_,_,_,_,_,st,sm,e3,hw,λtag' ht _=>bs (by have:=a8.same (i:=i) 0 d;rwa [hs] at this) ht,?_,λk hk=>bq M _ hk,EJ L _ (by omega),dv hi (by simp[cnt,hs]),λk hk h6=>?_,rfl⟩
 .rw[bn,hM];exact .tree hq ⟨W.tape,W.drawn,es,e1,e4.callers.ne⟩
 .have e:k≠i:=λe=>by subst e;omega
  rw[bq D _ e,bq rr _ e];exact⟨h6,rfl⟩
def _root_.Go.EB.Hc.mem {β:Ey}{es ES:Array cE}(h:Hc β es ES):∀e∈ES,(ak e).L=b6/\(∀a,e.loc≠.mark (.release a)):=by
 intro e he;cases h with
 |Ij m hm=>simp only[Cd,AT,AQ,or_false] at he;subst he;rcases hm with rfl|rfl<;>exact⟨rfl,by simp⟩
 |Hr o s mk hm hb=>simp only[Cd,AT,AQ,or_false] at he;subst he;rcases hm with rfl|rfl<;>exact⟨rfl,by simp⟩
 |none=>simp at he
def _root_.Go.EB.Hc.LK {β:Ey}{es ES:Array cE}(h:Hc β es ES){B:Nat}(hl:∀e∈ES,∀ad,e.loc=.mark (.acquire ad)\/e.loc=.mark (.releaseMerge ad)->ad.LE<B):∀e∈ES,(ak e).LK B:=by
 intro e he;cases h with
 |Ij m hm=>simp only[Cd,AT,AQ,or_false] at he;subst he;rcases hm with rfl|rfl<;>trivial
 |Hr o s mk hm hb =>
  have:=hl e he;simp only[Cd,AT,AQ,or_false] at he;subst he;obtain rfl|rfl:=hm
  .exact this _ (.inl rfl)
  .exact this _ (.inr rfl)
 |none=>simp at he
def qg (lib:∀H,Lib P SB H zZ BB Gn)(aB:∀(f:bo) (fn:Func),P.a.L[f]?=bc fn->fn.body.L=I->P.fs[f]?=bc fn)(h:WI P SB BB zZ Gn ty Wg zO zN Kp Ψ0 Ψ2 j0 j gs W t D M O L ts rr st sm)(hi:i<j)(hs:(D i).stage=7){d:Nat}(hd:(D i).LE=d){x:Lone}(hL:L (i+1)=bc x)
  {wl:Ey} {Q:Y->J->Prop} (hM:M i=.tree Q (x.g,x.w)) (a8:cU j D tag st sm) (aC:wl.le x.β) (hQ:cO P SB BB zZ Gn ty Wg Ψ2 Q x.H x.T wl (O i)) (aA:∀g w,Q g w->BB g.L.fn=U)
  {b:bw} {a:Act} {ops:Array j3} {i0:Nat} {rest:List Nat} {k:List eC} {cs:List bw} {o:j3} {es:Array cE} {v:cu} (a6:x.g=Fc (b.at a (.inRegion ops (i0::rest)::k)) cs)
  (h1:BB b.fn=I) (h2:cs≠[]) (h3:ops[i0]?=bc o) (h4:ik o (yielded ops a.tmps)=I) (h5:b.kind≠.early) (h6:FP P.a a x.w o es v) (h7:∀τ n,E5 P.a BB Q (bA d es) (Fc (b.at (a.put o.L v) (.inRegion ops rest::k)) cs) (on x.w τ n)) (hg:Fx P SB BB zZ x g) :
  Ko P SB BB zZ Gn ty Wg zO zN Kp Ψ0 Ψ2 j0 j gs W t D M L rr tag ts.tp i g:=by
 have aD:j0<=i:=dn λzY=>by have:=h.old i zY;omega
 have hq:¬Q x.g x.w:=λhq=>by have:=aA _ _ hq;rw[a6] at this;exact AS h1 (by rw[show b.fn=(Fc (b.at a (.inRegion ops (i0::rest)::k)) cs).L.fn from rfl,this];decide)
 have hw0:=h.cw.like _ x hL;have zL:Gf P SB x.H zZ BB x.T x.β (Fc (b.at a (.inRegion ops (i0::rest)::k)) cs) g:=a6▸hg;obtain⟨g2,ES,e3,e4,e5,e6⟩:=LV aB (main2:=U) h1 zL hw0 h3 h4 h5 h6;have aF:EU (SP SB x.H) (CK P.a SB zZ) Gn x.β (on x.w W.tape W.drawn) W:=hw0.same rfl rfl hw0.env;have f0:Ik P SB zZ Gn x W x.β (on x.w W.tape W.drawn) W []:=Fin.refl aF;have zP:=h.cw.step hL f0 (Fc (b.at (a.put o.L v) (.inRegion ops rest::k)) cs)
 have a7:=e5.mem;have hw:=h.next hi (g:=g) (g':=g2) (fn:=g.L.fn) (pos:=g.L.LH) (es:=ES) (r':=rr i) (ts':=ts) (x':=bc ⟨Fc (b.at (a.put o.L v) (.inRegion ops rest::k)) cs,on x.w W.tape W.drawn,x.H,x.β,x.T⟩) (o':=O i)
  (.tree (x:=⟨Fc (b.at (a.put o.L v) (.inRegion ops rest::k)) cs,on x.w W.tape W.drawn,x.H,x.β,x.T⟩) aC hQ aA (h7 _ _) e4) h.wg zP
  ((h.J9 (k:=i+1) (by omega) (u:=bb (i+1) g.L.fn g.L.LH ES) (λop hop=>by
   obtain⟨e,he,rfl⟩:=bh hop
   exact⟨rfl,λy hy=>by rw[(a7 e he).1] at hy;cases hy⟩)).LT (λj l hl=>?_) (λj l hl=>?_))
  (λe he a=>(a7 e he).2 a) (by omega) (λe=>by omega) (.inl rfl) (λ_=>⟨aD,hs⟩)
  (λop hop=>by obtain⟨e,he,rfl⟩:=bh hop;exact e5.LK e6 e he) (AK _) (by rw[hd];exact e5.LE d) (λ_ e=>by omega) (λho=>h.KN i hi ho) (.inl ⟨rfl,rfl⟩) h.Hv
 .refine⟨g2,W,ES,_,_,_,_,_,_,st,sm,e3,hw,λtag' ht _=>bs (by have:=a8.same (i:=i) 0 (bA d es);rwa [hs] at this) ht,?_,λk hk=>bq M _ hk,EJ L _ (by omega),dv hi (by simp[cnt,hs]),λk hk h6=>?_,rfl⟩
  .rw[bn,hM];refine .tree hq ⟨W.tape,W.drawn,es,?_,h2⟩;show cf P.a I x.g (on x.w W.tape W.drawn)=_;rw[a6];exact(h6.same Dt).step h3 h4 h5
  .have e:k≠i:=λe=>by subst e;omega
   rw[bq D _ e,bq rr _ e];exact⟨h6,rfl⟩
 .obtain⟨y,hy,hr⟩|hl:=hl
  .by_cases e:j=i+1
   .subst e;rw[EG] at hy;cases hy;exact .inl ⟨x,hL,hr⟩
   .rw[EJ L _ e] at hy;exact .inl ⟨y,hy,hr⟩
  .exact .inr hl
 .obtain⟨y,hy,hr⟩|hl:=hl
  .by_cases e:j=i+1
   .subst e;rw[EG] at hy;cases hy;exact .inl ⟨x,hL,hr⟩
   .rw[EJ L _ e] at hy;exact .inl ⟨y,hy,hr⟩
  .exact .inr hl
end
open Go.ConcR (KK WgAt stA smA rd wr mk DC0 Bk g_of_ofEvents bk_of_mute ofEvent_loc_mark ofEvent_cell ofEvent_mk)
section
variable {P:EK} {SB BB:bo->Bool} {zZ:Bool} {Gn:Nat} {ty Wg:Nat} {zO zN:Nat->Prop} {Kp:IB} {Ψ0 Ψ2:J->Prop}
 {j0 j:Nat} {gs:Array Y} {W W':J} {t:e9} {D:Nat->WD} {M:Nat->Wm} {O:Nat->Bool} {L:Nat->Option Lone} {ts ts':TS} {rr:Nat->Nat} {st sm JD J8:Int} {tag:CTag} {i:Nat} {g:Y}
def qh (h:WI P SB BB zZ Gn ty Wg zO zN Kp Ψ0 Ψ2 j0 j gs W t D M O L ts rr st sm)(tz:ax zN Ψ0)(a8:ax zN Ψ2)(hi:i<j)(hL:L (i+1)=b6)(hO:O i=U)(hs:(D i).stage=1){q d:Nat}(hd:(D i).LE=d)(hM:M i=.st 1 q)(zA:g.status=.L)(a7:cU j D tag st sm)
  (hk:QuitsD P.b q d g):Ko P SB BB zZ Gn ty Wg zO zN Kp Ψ0 Ψ2 j0 j gs W t D M L rr tag ts.tp i g:=by
 cases q with
 |zero=>rw[hk.1] at zA;cases zA
 |succ q =>
  obtain⟨hf,_⟩|⟨_,g',es,a6,hstep,hq⟩:=hk
  .rw[hf] at zA;cases zA
  .have aA:∀e∈es,Bk Wg e:=λe he=>bk_of_mute (a6 e he)
   have hno:∀a e,es[a]?=bc e->(ak e).L=b6\/0<bA (D i).LE (es.extract 0 a):=λa e he=>.inl (by
    rcases bk_of_mute (Wg:=Wg) (a6 e (Bn he)) with h1|h1|⟨b,wr,rfl,_⟩
    .rw[ofEvent_loc_mark h1];rfl
    .rw[ofEvent_loc_mark h1];rfl
    .have:=a6 _ (Bn he);simp[Event.mute] at this)
   exact bL h tz a8 hi hL hO hs (by omega) (hstep W) (.quit hq) (by omega) (λ_=>rfl) (.refl Wg W) h.wg aA hno (by rw[hd])
    (λ_ ht _=>bs (by have:=a7.same (i:=i) 0 (bA d es);rwa [hs] at this) ht) (by rw[hM];exact .fuel (by omega))
def moved (lib:∀H,Lib P SB H zZ BB Gn)(aN:∀(f:bo) (fn:Func),P.a.L[f]?=bc fn->fn.body.L=I->P.fs[f]?=bc fn)(h:WI P SB BB zZ Gn ty Wg zO zN Kp Ψ0 Ψ2 j0 j gs W t D M O L ts rr st sm)(tz:ax zN Ψ0)(aB:ax zN Ψ2)(hi:i<j)(hg:gs[i+1]?=bc g)(zA:g.status=.L)(a6:cU j D tag st sm)(hb:j+pend tag<2147483648) :
  Ko P SB BB zZ Gn ty Wg zO zN Kp Ψ0 Ψ2 j0 j gs W t D M L rr tag ts.tp i g:=by
 obtain⟨g₁,aH,hs⟩:=h.wk i hi;obtain rfl:g=g₁:=by rw[hg] at aH;exact dS aH
 generalize zG:(D i).stage=s at hs;generalize a7:(D i).LE=dd at hs;generalize hM:M i=mm at hs;generalize hL:L (i+1)=lx at hs;generalize hO:O i=oo at hs;have hVj:=Vc_le j D;have idle:∀ {g':Y} {m' m0:Nat},M i=.st s m0->lx=b6->oo=U->cf P.b U g W=.go g' W #[]->G3 P SB BB zZ Gn ty Wg Ψ2 s dd (.st s m') b6 U g' W->m'<m0->s<=6->s≠1->Ko P SB BB zZ Gn ty Wg zO zN Kp Ψ0 Ψ2 j0 j gs W t D M L rr tag ts.tp i g:=by
  intro g' m' m0 hM0 hl ho zK hs' hm h6 h1;exact bL h tz aB hi (by rw[hL,hl]) (by rw[hO,ho]) zG h6 zK hs' (by omega) (λzY=>by have:=h.old i zY;omega) (.refl Wg W) h.wg (by simp) (by simp) (by rw[a7];rfl)
   (λ_ ht _=>bs (by have:=a6.same (i:=i) 0 dd;rwa [zG] at this) ht) (by rw[hM0];exact .fuel hm)
 cases hs with
 |born aG hQ aI hr hbn=>exact qd h hi zG a7 hL hM a6 aG (by rw[hO];exact hQ) aI hr hbn
 |tree aG hQ aI hr zQ =>
  rename_i x wl Q;generalize aJ:x.g=gx at hr;generalize aK:x.w=wx at hr;cases hr with
  |fin hq =>
   subst aJ aK;obtain⟨⟨m,hm⟩,aO⟩:=hQ x g W rfl rfl aG hq zQ (h.cw.like _ x hL) h.live;obtain⟨ts',h',aP⟩:=h.turn hi hg zG a7 hm (by rw[hO];exact aO);obtain⟨g',W',es,D',M',O',L',aQ,aR,JD,J8,k1,k2,k3,k4,k5,k6,k7,k8,k9⟩:=L6 h' hi (EG L _ _) (bn O _ _) zG a7 (bn M _ _) a6 hm;refine⟨g',W',es,D',M',O',L',aQ,aR,JD,J8,k1,k2,k3,?_,λk hk=>(k5 k hk).trans (bq M _ hk),k6.trans (EJ L _ (by omega)),k7,k8,k9.trans aP⟩
   rw[bn] at k4;obtain⟨s',m',e⟩:=k4.Qe;rw[e,hM];exact .off
  |next ng nw f1 f2 f3 =>
   subst aJ aK;exact qe lib h tz aB hi zG a7 hL hM a6 aG (by rw[hO];exact hQ) aI f1 f2 f3 zQ
  |spec f1 f2 f3 f4 f5 f6 f7 =>
   subst aK;exact qg lib aN h hi zG a7 hL hM a6 aG (by rw[hO];exact hQ) aI aJ f1 f2 f3 f4 f5 f6 f7 zQ
 |r0 hk=>exact L6 h hi hL hO zG a7 hM a6 hk
 |k1 hk =>
  obtain aA|⟨m',rfl,hstep⟩:=Goes.cases hk
  .obtain⟨_,g',zK,m₂,aF⟩:=aA W (RL.refl W);exact bL h tz aB hi hL hO zG (by omega) zK (.d1 aF) (by omega) (λzY=>by have:=h.old i zY;omega) (.refl Wg W) h.wg (by intro e he;simp at he;subst he;exact .inl rfl) (by intro a e he;exact .inl (by have:=Bn he;simp at this;subst this;rfl)) (by rw[a7];rfl)
    (λ_ ht _=>(a6.counted hi (by omega) (.inr rfl) _ _).retag ht) (by rw[hM];exact .stage (by omega))
  .obtain⟨g',w',es,zK,⟨rfl,rfl⟩,aD⟩:=hstep W (RL.refl W);exact idle hM rfl rfl zK (.k1 aD) (by omega) (by omega) (by omega)
 |d1 hk =>
  obtain aA|⟨m',rfl,hstep⟩:=Goes.cases hk
  .obtain⟨_,hall⟩:=aA W (RL.refl W);have zu:cnt (D i)=1:=by simp[cnt,zG]
   have hV1:1<=Vc j D:=by have:=le_sumTo (f:=λx=>cnt (D x)) hi;simp only[Vc];omega
   have bk2:∀e∈#[rd (stA Wg),wr (stA Wg)],Bk Wg e:=by intro e he;simp at he;rcases he with rfl|rfl<;>exact ll _ _ rfl
   have aL:∀jx e,(#[rd (stA Wg),wr (stA Wg)]:Array cE)[jx]?=bc e->(ak e).L=b6\/0<bA (D i).LE ((#[rd (stA Wg),wr (stA Wg)]:Array cE).extract 0 jx):=by
    intro jx e he;rw[a7]
    match jx,he with
    |0,_=>exact .inr (by simp[bA])
    |1,_=>exact .inr (by simp[bA,rd])
    |jx+2,he=>simp at he
   have opq:OpenSt j D->OpenSt j (upd D i ⟨1,0,1⟩):=λh a ha=>by
    by_cases e:a=i
    .subst e;rw[bn];simp
    .rw[bq D _ e];exact h a ha
   have aT:cnt (⟨1,0,1⟩:WD)=0:=rfl;have hold:∀ {s':Nat},i<j0->s'=1:=λzY=>by have:=h.old i zY;omega
   have a8:=h.wg;cases a6 with
   |opn h1 h2 h3 =>
    obtain⟨v,hv⟩:∃v,Vc j D+pend tag=v+1:=⟨Vc j D+pend tag-1,by omega⟩;rw[hv] at a8;have aM:WgAt ty Wg W (((v:Nat)+1)*KK+((0:Nat):Int)) 0:=by simpa using a8
    obtain⟨g',zK,_,hq⟩:=hall v 0 (by omega) (by omega) aM;obtain⟨q,hq⟩:=hq (by omega);have hv':Vc j (upd D i ⟨1,0,1⟩)+pend tag=v:=by have:=Vc_upd D (⟨1,0,1⟩:WD) hi;omega
    refine bL h tz aB hi hL hO zG (by omega) zK (.quit hq) (by omega) hold (dr W (stA Wg) _) (a8.setSt _) bk2 aL (by rw[a7];rfl) (λ_ ht _=>bs ?_ ht) (by rw[hM];exact .stage (by omega));have e:((v:Nat):Int)*KK+((0:Nat):Int)=((Vc j (upd D i ⟨1,0,1⟩)+pend tag:Nat):Int)*KK:=by rw[hv'];simp
    rw[e];exact .opn h1 (opq h2) (λvs ev=>by have:=h3 vs ev;omega)
   |reg h1 h2 h3 =>
    obtain⟨v,hv⟩:∃v,Vc j D=v+1:=⟨Vc j D-1,by omega⟩;rw[hv] at a8;have aM:WgAt ty Wg W (((v:Nat)+1)*KK+((1:Nat):Int)) 0:=by simpa using a8
    obtain⟨g',zK,hl,hq⟩:=hall v 1 (by omega) (by omega) aM;by_cases hv0:v=0
    .subst hv0;obtain⟨m₂,aF⟩:=hl ⟨rfl,rfl⟩;refine bL h tz aB hi hL hO zG (by omega) zK (.d2 aF) (by omega) hold (dr W (stA Wg) _) (a8.setSt _) bk2 aL (by rw[a7];rfl) (λ_ ht _=>bs ?_ ht) (by rw[hM];exact .stage (by omega));have aC:∀a,a<j->a≠i->(D a).stage=1:=λa ha e=>by
      have c0:=others_uncounted hi hv zu a ha e;have:=h2 a ha;simp only[cnt] at c0;split at c0<;>omega
     have:=fc (j:=j) (D:=upd D i ⟨4,0,1⟩) (tag:=tag) i h1 hi (by rw[bn];simp) (λa ha e=>by rw[bq D _ e];exact aC a ha e);rw[bn] at this;simpa using this
    .obtain⟨q,hq⟩:=hq (by omega);have hv':Vc j (upd D i ⟨1,0,1⟩)=v:=by have:=Vc_upd D (⟨1,0,1⟩:WD) hi;omega
     refine bL h tz aB hi hL hO zG (by omega) zK (.quit hq) (by omega) hold (dr W (stA Wg) _) (a8.setSt _) bk2 aL (by rw[a7];rfl) (λ_ ht _=>bs ?_ ht) (by rw[hM];exact .stage (by omega));have e:((v:Nat):Int)*KK+((1:Nat):Int)=((Vc j (upd D i ⟨1,0,1⟩):Nat):Int)*KK+1:=by rw[hv'];simp
     rw[e];exact .reg h1 (opq h2) (by omega)
   |last Lx _ h2 h3 h4 =>
    by_cases e:i=Lx
    .subst e;omega
    .have:=h4 i hi e;omega
   |sema h2=>have:=h2 i hi;omega
   |fin _ h2=>have:=h2 i hi;omega
  .obtain⟨g',w',es,zK,⟨rfl,rfl⟩,aD⟩:=hstep W (RL.refl W);exact idle hM rfl rfl zK (.d1 aD) (by omega) (by omega) (by omega)
 |d2 hk =>
  obtain aA|⟨m',rfl,hstep⟩:=Goes.cases hk
  .obtain⟨_,hx⟩:=aA W (RL.refl W);obtain⟨hW3,aC,rfl,rfl⟩:=a6.isLast hi (by omega);have a8:=h.wg;simp only[zG] at a8;obtain⟨g',zK,m₂,aF⟩:=hx (by simpa using a8);refine bL h tz aB hi hL hO zG (by omega) zK (.d3 aF) (by omega) (λzY=>by have:=h.old i zY;omega) (.refl Wg W) a8 (by intro e he;simp at he;subst he;exact ll _ _ rfl) (by intro jx e he;rw[a7];match jx,he with|0,_=>exact .inr (by simp[bA])|jx+1,he=>simp at he) (by rw[a7];rfl) (λ_ ht _=>bs ?_ ht) (by rw[hM];exact .stage (by omega))
   have:=fc (j:=j) (D:=upd D i ⟨3,0,1⟩) (tag:=tag) i hW3 hi (by rw[bn];simp) (λa ha e=>by rw[bq D _ e];exact aC a ha e);rw[bn] at this;simpa using this
  .obtain⟨g',w',es,zK,⟨rfl,rfl⟩,aD⟩:=hstep W (RL.refl W);exact idle hM rfl rfl zK (.d2 aD) (by omega) (by omega) (by omega)
 |d3 hk =>
  obtain aA|⟨m',rfl,hstep⟩:=Goes.cases hk
  .obtain⟨_,hx⟩:=aA W (RL.refl W);obtain⟨hW3,aC,rfl,rfl⟩:=a6.isLast hi (by omega);have a8:=h.wg;simp only[zG] at a8;obtain⟨g',zK,m₂,aF⟩:=hx (by simpa using a8);refine bL h tz aB hi hL hO zG (by omega) zK (.d4 aF) (by omega) (λzY=>by have:=h.old i zY;omega) (dr W (stA Wg) _) (a8.setSt 0) (by intro e he;simp at he;subst he;exact ll _ _ rfl) (by intro jx e he;rw[a7];match jx,he with|0,_=>exact .inr (by simp[bA])|jx+1,he=>simp at he) (by rw[a7];rfl) (λ_ ht _=>bs ?_ ht) (by rw[hM];exact .stage (by omega))
   have:=fc (j:=j) (D:=upd D i ⟨2,0,1⟩) (tag:=tag) i hW3 hi (by rw[bn];simp) (λa ha e=>by rw[bq D _ e];exact aC a ha e);rw[bn] at this;simpa using this
  .obtain⟨g',w',es,zK,⟨rfl,rfl⟩,aD⟩:=hstep W (RL.refl W);exact idle hM rfl rfl zK (.d3 aD) (by omega) (by omega) (by omega)
 |d4 hk =>
  obtain aA|⟨m',rfl,hstep⟩:=Goes.cases hk
  .obtain⟨_,hmw,hx⟩:=aA W (RL.refl W);obtain⟨hW3,aC,rfl,rfl⟩:=a6.isLast hi (by omega);have a8:=h.wg;simp only[zG] at a8;obtain⟨g',zK,q,hq⟩:=hx (by simpa using a8);have hrun':g'.status=.L:=by
    cases q with
    |zero=>exact AS hq.2 (by decide)
    |succ q=>exact hq.S (λx=>AS x.2 (by decide)) (λx=>x.1)
   refine bL h tz aB hi hL hO zG (by omega) zK (es:=df (smA Wg)) (dd':=1) (.quit hq) (by omega) (λzY=>by have:=h.old i zY;omega) (dr W (smA Wg) _) (a8.setSm 1) ?_ ?_ (by rw[a7];simp[bA,df]) ?_ (by rw[hM];exact .stage (by omega))
   .intro e he;simp[df] at he;obtain rfl|rfl|rfl|rfl:=he
    .exact .inl rfl
    .exact ll _ _ rfl
    .exact ll _ _ rfl
    .exact .inr (.inl rfl)
   .intro jx e he;rw[a7]
    match jx,he with
    |0,he=>simp[df] at he;subst he;exact .inl rfl
    |1,_=>exact .inr (by simp[bA,df])
    |2,_=>exact .inr (by simp[bA,df])
    |3,he=>simp[df] at he;subst he;exact .inl rfl
    |jx+4,he=>simp[df] at he
   .intro tag' ht hw;have aS:=hw hmw hrun';have e3:tag'=.w3:=by
     obtain rfl|⟨_,rfl⟩:=ht
     .cases tag'<;>first|rfl|exact hW3.S|exact AS rfl aS
     .rfl
    subst e3;simp only[if_true];exact .sema λa ha=>by
     by_cases e:a=i
     .subst e;rw[bn]
     .rw[bq D _ e];exact aC a ha e
  .obtain⟨g',w',es,zK,⟨rfl,rfl⟩,aD⟩:=hstep W (RL.refl W);exact idle hM rfl rfl zK (.d4 aD) (by omega) (by omega) (by omega)
 |quit hk=>exact qh h tz aB hi hL hO zG a7 hM zA a6 hk
end
open Go.ConcR (KK WgAt stA smA rd wr mk DC0 Bk g_of_ofEvents bk_of_mute ofEvent_loc_mark ofEvent_cell ofEvent_mk)
section
variable (P:EK) (SB BB:bo->Bool) (zZ:Bool) (Gn:Nat) (ty Wg:Nat) (zN:Nat->Prop) (Ψ0 Ψ2:J->Prop)
structure Split (x:Lone)(G' child:Y)(W:J)(tp MT o:Bool)(x' xk:Lone)(Po:Ey):Prop where
 gl:Fx P SB BB zZ x' G'
 wl:GQ P SB zZ Gn x' W
 tw:x'.H.Fg=U
 gk:mN P SB BB zZ xk child
 wk:GQ P SB zZ Gn xk W
 twk:xk.H.Fg=U
 bk:Po.le xk.β
 sub:∀b B,x'.β b B->∃b0,x.β b0 B/\(x'.H b=U->x.H b0=U/\(Ro x.w b0->Ro x'.w b))
 OG:∀b B,xk.β b B->(∃b0,x.β b0 B/\(xk.H b=U->x.H b0=U/\(Ro x.w b0->Ro xk.w b)))\/(o=I/\zN B)
 LH:∀b,x'.β b Wg->x'.H b=I
 R4:∀b,xk.β b Wg->xk.H b=I
 Jz:∀b B,x'.β b B->zN B->x'.H b=I
 R5:o=U->∀b B,xk.β b B->zN B->xk.H b=I
 sep:Sep (SP SB x'.H) x'.β x'.w (SP SB xk.H) xk.β xk.w
 R6:(o=I->tp=I/\MT=U)/\(o=U->MT=tp)
end
section
variable {P:EK} {SB BB:bo->Bool} {zZ:Bool} {Gn:Nat} {ty Wg:Nat} {zO zN:Nat->Prop} {Kp:IB} {Ψ0 Ψ2:J->Prop}
 {j0 j:Nat} {gs:Array Y} {W W':J} {t:e9} {D:Nat->WD} {M:Nat->Wm} {O:Nat->Bool} {L:Nat->Option Lone} {ts ts':TS} {rr:Nat->Nat} {st sm JD J8:Int} {a a':Y}
def WI.main (h:WI P SB BB zZ Gn ty Wg zO zN Kp Ψ0 Ψ2 j0 j gs W t D M O L ts rr st sm){fn:bo}{pos:String}{es:Array cE}{x':Option Lone}
  (a8:WgAt ty Wg W' JD J8) (zP:Cw P SB zZ Gn Wg zO zN Kp (put L 0 x') ts.LH W')
  (aB:TI (Nn zO Wg) (Ol zN (put L 0 x') ts.tp) (LR zN (put L 0 x') ts.tp) (j+1) (t++bb 0 fn pos es))
  (aC:∀e∈es,∀a,e.loc≠.mark (.release a))
  (aA:∀op∈bb 0 fn pos es,op.act.LK W'.L.size) (zv:W.L.size<=W'.L.size)
  (a7:(ts=.start->Ψ0 W')/\(ts=.done->Ψ2 W')) :
  WI P SB BB zZ Gn ty Wg zO zN Kp Ψ0 Ψ2 j0 j ((gs.map (woken P.b a a' W')).L 0 a') W' (t++bb 0 fn pos es) D M O (put L 0 x') ts rr JD J8:=by
 have a6:∀op∈bb 0 fn pos es,op.g=0:=g_of_ofEvents;refine⟨by simp[h.size],λb hb=>?_,zP,h.tr.app aB a6 (λop hop e=>?_) (λb hb hgb zU=>AS rfl zU),λop hop=>?_,λb hb=>by rw[Deaf_other t (by omega) _ a6,h.deafW b hb],λb h0 hb hs=>(h.rel b h0 hb hs).appOther a6 (by omega),a8,h.KN,h.LC,a7,λb hb=>?_,h.old,h.jj⟩
 .obtain⟨y,hy,hs⟩:=h.wk b hb;refine⟨y,by rw[get_map_set _ _ _ _ (by omega),hy,B5,hs.woken],?_⟩;rw[EJ L _ (by omega)];exact hs.rely λ_=>⟨_,_,a8⟩
 .obtain⟨x,hx,rfl⟩:=bh hop;exact aC x hx _ (eH e)
 .obtain hop|hop:=eT.1 hop
  .exact lh zv (h.LK op hop)
  .exact aA op hop
 .rw[EJ L _ (by omega)];exact h.out b hb
def gW (Wg:Nat)(e:cE):Prop:=Bk Wg e\/∃b:ko,b.LE=Wg/\(e=mk (.read b)\/e=mk (.write b)\/e=mk (.acquire b))
def NN {e:cE}(h:gW Wg e){x:Touch}(hx:(ak e).L=bc x):(∃a:ko,x.loc=.cell a/\a.LE=Wg)/\x.kind≠.plain:=by
 obtain h|⟨b,hb,rfl|rfl|rfl⟩:=h
 .obtain⟨h1,h2⟩:=L5 h hx;exact⟨h1,by rw[h2];simp⟩
 .simp[mk,ak,b5] at hx;subst hx;exact⟨⟨b,rfl,hb⟩,by simp⟩
 .simp[mk,ak,b5] at hx;subst hx;exact⟨⟨b,rfl,hb⟩,by simp⟩
 .simp[mk,ak,b5] at hx
def WI.book0 (h:WI P SB BB zZ Gn ty Wg zO zN Kp Ψ0 Ψ2 j0 j gs W t D M O L ts rr st sm)(tz:ax zN Ψ0)(aA:ax zN Ψ2){fn:bo}{pos:String}{es:Array cE}
  (a6:Aside Wg W W') (a8:WgAt ty Wg W' JD J8) (a7:∀e∈es,gW Wg e) :
  WI P SB BB zZ Gn ty Wg zO zN Kp Ψ0 Ψ2 j0 j ((gs.map (woken P.b a a' W')).L 0 a') W' (t++bb 0 fn pos es) D M O L ts rr JD J8:=by
 have hbl:∀B,zN B->W'.L[B]?=W.L[B]?:=λB hB=>a6.LE B (h.cw.JA B hB).1;have hp:put L 0 (L 0)=L:=by
  funext b;unfold put;split
  .rename_i e;rw[e]
  .rfl
 have:=h.main (a:=a) (a':=a') (fn:=fn) (pos:=pos) (es:=es) (x':=L 0) a8 (by rw[hp];exact h.cw.group a6 ⟨_,_,_,a8⟩)
  (by
   rw[hp];refine h.J9 (k:=0) (by omega) λop hop=>?_;obtain⟨e,he,rfl⟩:=bh hop;refine⟨rfl,λx hx=>?_⟩;obtain⟨⟨b,h1,h2⟩,h3⟩:=NN (a7 e he) hx
   exact⟨⟨b,h1,.inr h2⟩,h3,λ_=>rfl⟩)
  (λe he b=>by
   obtain h1|⟨b',_,rfl|rfl|rfl⟩:=a7 e he
   .exact mO h1 b
   .simp[kq]
   .simp[kq]
   .simp[kq])
  (λop hop=>by
   obtain⟨e,he,rfl⟩:=bh hop;rw[a6.size];obtain h1|⟨b',h2,rfl|rfl|rfl⟩:=a7 e he
   .exact OE h1 h.cw.LK.1
   .show b'.LE<_;rw[h2];exact h.cw.LK.1
   .show b'.LE<_;rw[h2];exact h.cw.LK.1
   .show b'.LE<_;rw[h2];exact h.cw.LK.1)
  (by rw[a6.size];exact AK _) ⟨λe=>tz W W' hbl (h.Hv.1 e),λe=>aA W W' hbl (h.Hv.2 e)⟩
 rwa [hp] at this
def WI.Q6 (h:WI P SB BB zZ Gn ty Wg zO zN Kp Ψ0 Ψ2 j0 j gs W t D M O L ts rr st sm)(tz:ax zN Ψ0)(aB:ax zN Ψ2){x:Lone}(hL:L 0=bc x){Ef:Ey}{w':J}{ES:Array cE}(f:Ik P SB zZ Gn x W Ef w' W' ES.LK)(g':Y){fn:bo}{pos:String} :
  WI P SB BB zZ Gn ty Wg zO zN Kp Ψ0 Ψ2 j0 j ((gs.map (woken P.b a a' W')).L 0 a') W' (t++bb 0 fn pos ES) D M O (put L 0 (bc ⟨g',w',x.H,Ef,x.T⟩)) ts rr st sm:=by
 have a7:=h.cw.Fg _ x hL;have aA:W'.L[Wg]?=W.L[Wg]?:=h.cw.same hL f h.cw.LK.1 (h.cw.Np _ x hL);have aC:WgAt ty Wg W' st sm:=by unfold WgAt;rw[aA];exact h.wg
 have hes:ES=ES.LK.LK:=by simp
 have zl:ts.LH≠bc 0:=λe=>by
  cases ts with
  |at_ k =>
   obtain⟨i,_,e1,_⟩:=h.LC k rfl;simp only[TS.LH,cF] at e;omega
  |_=>cases e
 have a6:∀B,zN B->W'.L[B]?=W.L[B]?:=λB hB=>h.cw.same hL f (h.cw.LK.2.2 B hB) λb hb=>h.cw.Jz _ x hL zl b B hb hB;have a8:=cN f a7;rw[<-hes] at a8;exact h.main (a:=a) (a':=a') aC (h.cw.step hL f g') (by rw[hes];exact h.cw.OD hL f g' DG (by omega) h.tr.ti h.LK) (λe he a=>(a8 e he).2.2 a) (by rw[hes];exact eY f a7) f.SIZE
  ⟨λe=>tz W W' a6 (h.Hv.1 e),λe=>aB W W' a6 (h.Hv.2 e)⟩
def TS.next (ts:TS)(o:Bool)(j:Nat):TS:=if o then .at_ (j+1) else ts
def WI.spawn (h:WI P SB BB zZ Gn ty Wg zO zN Kp Ψ0 Ψ2 j0 j gs W t D M O L ts rr st sm){x x' xk:Lone}(hL:L 0=bc x){child:Y}{MT o:Bool}{Po:Ey}(s:Split P SB BB zZ Gn Wg zN x a' child W ts.tp MT o x' xk Po)
  {Q:Y->J->Prop} (hQ:cO P SB BB zZ Gn ty Wg Ψ2 Q xk.H xk.T Po o) (aD:(∀g w,Q g w->BB g.L.fn=U)) (hr:E5 P.a BB Q 0 xk.g xk.w) (NP:n4 t 0=0) {p q:mA} (hp:p.g=0/\p.act=.go (j+1)) (hq:q.g=j+1/\q.act=.start) :
  WI P SB BB zZ Gn ty Wg zO zN Kp Ψ0 Ψ2 j0 (j+1) ((gs.L 0 a').LE child) W (t++#[p,q]) (upd D j ⟨7,0,0⟩) (upd M j (.born Q (xk.g,xk.w))) (upd O j o) (put (put L 0 (bc x')) (j+1) (bc xk)) (ts.next o j) rr st sm/\(ts.next o j).tp=MT:=by
 have a8:(o=I->ts=.start):=λho=>by
  have:=(s.R6.1 ho).1;cases ts<;>first|rfl|cases this
 have aF:(ts.next o j).tp=MT:=by
  cases o with
  |true=>exact((s.R6.1 rfl).2).LH
  |false=>exact(s.R6.2 rfl).LH
 refine⟨?_,aF⟩;have zK:∀op∈#[p,q],op=p\/op=q:=by intro op hop;simpa using hop
 have aA:∀op∈#[p,q],op.act≠.mark .disable/\op.act≠.mark .enable:=by
  intro op hop;obtain rfl|rfl:=zK op hop
  .rw[hp.2];exact⟨by simp,by simp⟩
  .rw[hq.2];exact⟨by simp,by simp⟩
 have a6:∀ {b y},put (put L 0 (bc x')) (j+1) (bc xk) b=bc y->(b=j+1/\y=xk)\/(b=0/\y=x')\/(b≠0/\b≠j+1/\L b=bc y):=by
  intro b y e;by_cases h1:b=j+1
  .subst h1;rw[EG] at e;cases e;exact .inl ⟨rfl,rfl⟩
  .rw[EJ _ _ h1] at e;by_cases h2:b=0
   .subst h2;rw[EG] at e;cases e;exact .inr (.inl ⟨rfl,rfl⟩)
   .rw[EJ _ _ h2] at e;exact .inr (.inr ⟨h2,h1,e⟩)
 have a7:∀b y,b≠0->L b=bc y->Sep (SP SB x'.H) x'.β x'.w (SP SB y.H) y.β y.w/\Sep (SP SB xk.H) xk.β xk.w (SP SB y.H) y.β y.w:=by
  intro b y hb hy;have sp:=h.cw.sep 0 b x y (e8 hb) hL hy;refine⟨λc c' B h1 h2=>?_,λc c' B h1 h2=>?_⟩
  .obtain⟨b0,k1,k2⟩:=s.sub c B h1;cases hh:x'.H c with
   |true=>exact .inl rfl
   |false =>
    obtain⟨k3,k4⟩:=k2 hh;obtain e|e|⟨e1,e2⟩:=sp b0 c' B k1 h2
    .have e':x.H b0=true:=e;rw[k3] at e';cases e'
    .exact .inr (.inl e)
    .exact .inr (.inr ⟨k4 e1,e2⟩)
  .cases hh:xk.H c with
   |true=>exact .inl rfl
   |false =>
    obtain⟨b0,k1,k2⟩|⟨ho,hB⟩:=s.OG c B h1
    .obtain⟨k3,k4⟩:=k2 hh;obtain e|e|⟨e1,e2⟩:=sp b0 c' B k1 h2
     .have e':x.H b0=true:=e;rw[k3] at e';cases e'
     .exact .inr (.inl e)
     .exact .inr (.inr ⟨k4 e1,e2⟩)
    .exact .inr (.inl (h.cw.Jz b y hy (by rw[a8 ho];simp[TS.LH]) c' B h2 hB))
 have aC:∀b B,x'.β b B->∃b0,x.β b0 B:=λb B hb=>let ⟨b0,k1,_⟩:=s.sub b B hb;⟨b0,k1⟩;have cw':Cw P SB zZ Gn Wg zO zN Kp (put (put L 0 (bc x')) (j+1) (bc xk)) (ts.next o j).LH W:=by
  refine⟨λb y hy=>?_,λb y hy=>?_,λb y hy=>?_,λb y hy c B hc=>?_,λb y hy ho c B hc hB=>?_,λb c y z zU hy hz=>?_,h.cw.LK,h.cw.JA,h.cw.keep,λb y hy c B hc hB=>?_,h.cw.L3,h.cw.OC⟩
  .obtain⟨_,rfl⟩|⟨_,rfl⟩|⟨_,_,e⟩:=a6 hy
   .exact s.wk
   .exact s.wl
   .exact h.cw.like b y e
  .obtain⟨_,rfl⟩|⟨_,rfl⟩|⟨_,_,e⟩:=a6 hy
   .exact s.twk
   .exact s.tw
   .exact h.cw.Fg b y e
  .obtain⟨_,rfl⟩|⟨_,rfl⟩|⟨_,_,e⟩:=a6 hy
   .exact s.R4
   .exact s.LH
   .exact h.cw.Np b y e
  .obtain⟨_,rfl⟩|⟨_,rfl⟩|⟨_,_,e⟩:=a6 hy
   .obtain⟨b0,k1,_⟩|⟨_,hB⟩:=s.OG c B hc
    .exact h.cw.dead 0 x hL b0 B k1
    .exact(h.cw.JA B hB).2
   .obtain⟨b0,k1⟩:=aC c B hc;exact h.cw.dead 0 x hL b0 B k1
   .exact h.cw.dead b y e c B hc
  .obtain⟨rfl,rfl⟩|⟨rfl,rfl⟩|⟨h0,h1,e⟩:=a6 hy
   .have : o = false := by
     cases o with
     |false=>rfl
     |true=>exact AS rfl ho
    exact s.R5 this c B hc hB
   .exact s.Jz c B hc hB
   .refine h.cw.Jz b y e (λe'=>ho ?_) c B hc hB;cases o with
    |false=>exact e'
    |true=>rw[a8 rfl] at e';cases e'
  .rcases a6 hy with⟨rfl,rfl⟩|⟨rfl,rfl⟩|⟨h0,h1,e⟩<;>obtain⟨rfl,rfl⟩|⟨rfl,rfl⟩|⟨k0,k1,e'⟩:=a6 hz
   .exact AS rfl zU
   .exact s.sep.LH
   .exact(a7 c z k0 e').2
   .exact s.sep
   .exact AS rfl zU
   .exact(a7 c z k0 e').1
   .exact(a7 b y h0 e).2.LH
   .exact(a7 b y h0 e).1.LH
   .exact h.cw.sep b c y z zU e e'
  .obtain⟨_,rfl⟩|⟨_,rfl⟩|⟨_,_,e⟩:=a6 hy
   .cases hh:y.H c with
    |true=>exact .inl rfl
    |false =>
     obtain⟨b0,k1,k2⟩|⟨ho,hT⟩:=s.OG c B hc
     .obtain⟨k3,k4⟩:=k2 hh;obtain e|e:=h.cw.F2 0 x hL b0 B k1 hB
      .rw[k3] at e;cases e
      .exact .inr (k4 e)
     .exact AS hB (h.cw.L3 B hT)
   .cases hh:y.H c with
    |true=>exact .inl rfl
    |false =>
     obtain⟨b0,k1,k2⟩:=s.sub c B hc;obtain⟨k3,k4⟩:=k2 hh;obtain e|e:=h.cw.F2 0 x hL b0 B k1 hB
     .rw[k3] at e;cases e
     .exact .inr (k4 e)
   .exact h.cw.F2 b y e c B hc hB
 have wrx:∀l,Pu x' l->Pu x l:=by
  rintro l ⟨b,B,h1,h2,h3,h4⟩;obtain⟨b0,k1,k2⟩:=s.sub b B h1;obtain⟨k3,k4⟩:=k2 h2;exact⟨b0,B,k1,k3,λhr=>h3 (k4 hr),h4⟩
 have aG:∀l,Pv x' l->Pv x l:=by
  rintro l ⟨b,B,h1,h2,h4⟩;obtain⟨b0,k1,k2⟩:=s.sub b B h1;exact⟨b0,B,k1,(k2 h2).1,h4⟩
 have tpx:(ts.next o j).tp=I->ts.tp=true:=λe=>by
  cases o with
  |true=>cases e
  |false=>exact e
 refine⟨by simp[h.size],λb hb=>?_,cw',?_,λop hop=>?_,λb hb=>?_,λb h0 hb hs=>?_,h.wg,λb hb ho=>?_,λk hk=>?_,⟨λe=>?_,λe=>?_⟩,λb hb=>?_,λb hb=>?_,C3 h.jj⟩
 .obtain zY|aB:=BV b j
  .obtain⟨y,hy,hs⟩:=h.wk b zY;refine⟨y,?_,?_⟩
   .rw[Array.getElem?_push_lt (by simp[h.size];omega),<-AV,Br (by omega)];exact hy
   .rw[bq D _ (by omega),bq M _ (by omega),bq O _ (by omega),EJ _ _ (by omega),EJ _ _ (by omega)];exact hs
  .obtain rfl:b=j:=by omega
   refine⟨child,?_,?_⟩
   .rw[show b+1=(gs.L 0 a').size by simp[h.size],Array.getElem?_push_size]
   .rw[bn,bn,bn,EG];exact .born s.bk hQ aD hr s.gk
 .have t1:=h.tr.fork (Wr':=Ol zN (put (put L 0 (bc x')) (j+1) (bc xk)) (ts.next o j).tp) (Rd':=LR zN (put (put L 0 (bc x')) (j+1) (bc xk)) (ts.next o j).tp) (by omega) hp hq NP (λb hb l=>?_) (λl=>?_)
  .refine t1.Qb λk i _ aH=>?_;obtain⟨c,e1,e2,e3,e4⟩:=aH;exact⟨c,e1,e2,by omega,by rw[bq D _ (by omega)];exact e4⟩
  .constructor
   .rintro(⟨y,hy,hw⟩|⟨h1,h2,h3⟩)
    .obtain⟨e,_⟩|⟨rfl,rfl⟩|⟨_,_,e⟩:=a6 hy
     .omega
     .exact .inl ⟨x,hL,wrx l hw⟩
     .exact .inl ⟨y,e,hw⟩
    .exact .inr ⟨h1,tpx h2,h3⟩
   .rintro(⟨y,hy,hw⟩|⟨h1,h2,h3⟩)
    .obtain⟨e,_⟩|⟨rfl,rfl⟩|⟨_,_,e⟩:=a6 hy
     .omega
     .exact .inl ⟨x,hL,aG l hw⟩
     .exact .inl ⟨y,e,hw⟩
    .exact .inr ⟨h1,tpx h2,h3⟩
  .constructor
   .rintro(⟨y,hy,b,B,h1,h2,h3,h4⟩|⟨h1,_⟩)
    .rw[EG] at hy;cases hy;obtain⟨b0,k1,k2⟩|⟨ho,hB⟩:=s.OG b B h1
     .obtain⟨k3,k4⟩:=k2 h2;exact .inl ⟨x,hL,b0,B,k1,k3,λhr=>h3 (k4 hr),h4⟩
     .exact .inr ⟨rfl,by rw[a8 ho];rfl,B,hB,h4⟩
    .omega
   .rintro(⟨y,hy,b,B,h1,h2,h4⟩|⟨h1,_⟩)
    .rw[EG] at hy;cases hy;obtain⟨b0,k1,k2⟩|⟨ho,hB⟩:=s.OG b B h1
     .exact .inl ⟨x,hL,b0,B,k1,(k2 h2).1,h4⟩
     .exact .inr ⟨rfl,by rw[a8 ho];rfl,B,hB,h4⟩
    .omega
 .obtain hop|hop:=eT.1 hop
  .exact h.LK op hop
  .obtain rfl|rfl:=zK op hop
   .rw[hp.2];trivial
   .rw[hq.2];trivial
 .rw[Deaf_still t _ _ aA];obtain zY|aB:=BV b j
  .rw[h.deafW b zY,bq D _ (by omega)]
  .obtain rfl:b=j:=by omega
   rw[bn];exact Deaf_absent λc op hc e=>by have:=h.tr.ti.gs c op hc;omega
 .obtain zY|aB:=BV b j
  .rw[bq D _ (by omega)] at hs;refine(h.rel b h0 zY hs).appNot λop hop=>?_;obtain rfl|rfl:=zK op hop
   .rw[hp.1];omega
   .rw[hq.1];omega
  .obtain rfl:b=j:=by omega
   rw[bn] at hs;simp at hs
 .obtain zY|aB:=BV b j
  .rw[bq O _ (by omega)] at ho;have e:=h.KN b zY ho;cases o with
   |false=>exact e
   |true=>rw[a8 rfl] at e;cases e
  .obtain rfl:b=j:=by omega
   rw[bn] at ho;subst ho;rfl
 .cases o with
  |true =>
   cases hk
   exact⟨j,by omega,rfl,by rw[bn]⟩
  |false =>
   obtain⟨b,hb,e1,e2⟩:=h.LC k hk;exact⟨b,by omega,e1,by rw[bq O _ (by omega)];exact e2⟩
 .cases o with
  |true=>cases e
  |false=>exact h.Hv.1 e
 .cases o with
  |true=>cases e
  |false=>exact h.Hv.2 e
 .rw[EJ _ _ (by omega),EJ _ _ (by omega)];exact h.out b (by omega)
 .have:=h.jj;rw[bq D _ (by omega)];exact h.old b hb
end
open Go.ConcR (KK WgAt stA smA rd wr mk DC0 Bk g_of_ofEvents bk_of_mute ofEvent_loc_mark ofEvent_cell ofEvent_mk)
section
variable (P:EK) (SB BB:bo->Bool) (zZ:Bool) (Gn:Nat) (ty Wg:Nat) (zN:Nat->Prop) (Ψ0 Ψ2:J->Prop) (fA fW:bo) (wl:Nat) (Pr:Ey) (T:List bw) (Fn:Bool->Hid->Y->J->Prop)
def JW (wl:Nat):Value:=.S (bc ⟨wl,0,b6⟩)
def cm (f:bo)(args:Array cu)(fr:bw)(cs:List bw):Goroutine:=Fc (b8 P.a f args .L) (fr::cs)
def back (fr:bw)(cs:List bw):Goroutine:=Fc (fr.finish (.tuple #[])) cs
def fw (fr:bw):Prop:=fr.mode=.run/\fr.roundOf=b6/\∃ops i rest k,fr.todo=.inRegion ops (i::rest)::k
def iu (tp:Bool)(H:Hid)(g:Y)(w:J):Prop:=∃fr cs,g=cm P fW #[JW wl] fr cs/\fw fr/\Fn tp H (back fr cs) w
def AtGo (S:Bool->Hid->Y->J->Prop)(tp:Bool)(H:Hid)(g:Y)(w:J):Prop :=
 ∀(x:Lone) (G:Y) (W:J),x.g=g->EE w x.w->x.H=H->x.T=T->Pr.le x.β->Fx P SB BB zZ x G->GQ P SB zZ Gn x W->(tp=I->Ψ0 W)->(∀b B,x.β b B->zN B->x.H b=I)->(∀b,x.β b Wg->x.H b=I)->x.H.Fg=U ->
  ∃(G' child:Y) (x' xk:Lone) (MT o:Bool) (Po:Ey) (Q:Y->J->Prop),cf P.b I G W=.spawn G' child W #[]/\Split P SB BB zZ Gn Wg zN x G' child W tp MT o x' xk Po/\x'.T=T/\Pr.le x'.β /\
   S MT x'.H x'.g x'.w/\cO P SB BB zZ Gn ty Wg Ψ2 Q xk.H xk.T Po o/\(∀g w,Q g w->BB g.L.fn=U)/\E5 P.a BB Q 0 xk.g xk.w
def Kw:Nat->Bool->Hid->Y->J->Prop
 |0,tp,H=>iu P fW wl Fn tp H
 | k + 1, tp, H => fun g w => iu P fW wl Fn tp H g w ∨ ∃ fr cs, g = cm P fA #[JW wl, .int .i64 1] fr cs ∧ fw fr ∧
   Ep P.a (Fp P.a BB) (AtGo P SB BB zZ Gn ty Wg zN Ψ0 Ψ2 Pr T (λtp H=>Ep P.a (Fp P.a BB) (Kw k tp H)) tp H) (back fr cs) w
abbrev Q7 (k:Nat):Bool->Hid->Y->J->Prop:=AtGo P SB BB zZ Gn ty Wg zN Ψ0 Ψ2 Pr T (λtp H=>Ep P.a (Fp P.a BB) (Kw P SB BB zZ Gn ty Wg zN Ψ0 Ψ2 fA fW wl Pr T Fn k tp H))
abbrev Qf (k:Nat)(tp:Bool)(H:Hid):Y->J->Prop:=Ep P.a (Fp P.a BB) (Kw P SB BB zZ Gn ty Wg zN Ψ0 Ψ2 fA fW wl Pr T Fn k tp H)
structure Rest (k:Nat)(x:Lone)(tp:Bool)(gR:Y):Prop where
 run:Ep P.a (Fp P.a BB) (Q7 P SB BB zZ Gn ty Wg zN Ψ0 Ψ2 fA fW wl Pr T Fn k tp x.H) x.g x.w
 wl:Pr.le x.β
 t:x.T=T
 gl:Fx P SB BB zZ x gR
structure Ka (x:Lone)(tp:Bool)(gR:Y):Prop where
 fin:Fn tp x.H x.g x.w
 wl:Pr.le x.β
 t:x.T=T
 gl:Fx P SB BB zZ x gR
def iw (Hs:Y->J->Prop)(gR:Y):Prop:=∀g w,Hs g w->g.status=.L/\∃m,GW P.b ty Wg I (W1 P.b ty Wg Hs (λg _=>g=gR)) m g w
abbrev Pre:=Nat×Nat×Wm
inductive Gx:CTag->Nat->Pre->(Nat->Nat)->Nat->Lone->Bool->Y->J->Prop
 | free {k : Nat} {x : Lone} {tp : Bool} {G : Y} {W : J} : Qf P SB BB zZ Gn ty Wg zN Ψ0 Ψ2 fA fW wl Pr T Fn k tp x.H x.g x.w -> Pr.le x.β -> x.T = T -> Fx P SB BB zZ x G ->
   Gx (.sp 0 5) 0 (k,9,.tree (Kw P SB BB zZ Gn ty Wg zN Ψ0 Ψ2 fA fW wl Pr T Fn k tp x.H) (x.g,x.w)) (λ_=>0) 0 x tp G W
 |QF {k m:Nat} {x:Lone} {tp:Bool} {gR G:Y} {W:J}:GW P.b ty Wg I (RX P.b ty Wg (λg _=>g=gR)) m G W->Rest P SB BB zZ Gn ty Wg zN Ψ0 Ψ2 fA fW wl Pr T Fn k x tp gR->Gx (.sp 0 5) 0 (k+1,8,.st 0 m) (λ_=>0) 0 x tp G W
 |QG {k m:Nat} {x:Lone} {tp:Bool} {gR G:Y} {W:J}:GW P.b ty Wg I (AA1 P.b ty Wg (λg _=>g=gR)) m G W->Rest P SB BB zZ Gn ty Wg zN Ψ0 Ψ2 fA fW wl Pr T Fn k x tp gR->Gx (.sp 0 4) 1 (k+1,7,.st 0 m) (λ_=>0) 0 x tp G W
 |arr {k m:Nat} {x:Lone} {tp:Bool} {gR G:Y} {W:J}:GW P.b ty Wg I (ARr P.b ty Wg (λg _=>g=gR)) m G W->Rest P SB BB zZ Gn ty Wg zN Ψ0 Ψ2 fA fW wl Pr T Fn k x tp gR->Gx (.sp 0 3) 1 (k+1,6,.st 0 m) (λ_=>0) 0 x tp G W
 |Qg {k m:Nat} {x:Lone} {tp:Bool} {gR G:Y} {W:J}:GW P.b ty Wg I (RV P.b ty Wg (λg _=>g=gR)) m G W->Rest P SB BB zZ Gn ty Wg zN Ψ0 Ψ2 fA fW wl Pr T Fn k x tp gR->Gx (.sp 0 3) 1 (k+1,5,.st 0 m) (λ_=>0) 0 x tp G W
 |KO {k m:Nat} {x:Lone} {tp:Bool} {gR G:Y} {W:J}:GW P.b ty Wg I (λg _=>g=gR) m G W->Rest P SB BB zZ Gn ty Wg zN Ψ0 Ψ2 fA fW wl Pr T Fn k x tp gR->Gx (.sp 0 2) 0 (k+1,4,.st 0 m) (λ_=>0) 0 x tp G W
 |mid {k:Nat} {x:Lone} {tp:Bool} {G:Y} {W:J}:Rest P SB BB zZ Gn ty Wg zN Ψ0 Ψ2 fA fW wl Pr T Fn k x tp G->Gx (.sp 0 2) 0 (k+1,3,.tree (Q7 P SB BB zZ Gn ty Wg zN Ψ0 Ψ2 fA fW wl Pr T Fn k tp x.H) (x.g,x.w)) (λ_=>0) 0 x tp G W
 |QH {k m:Nat} {x:Lone} {tp:Bool} {gR G:Y} {Hs:Y->J->Prop} {W:J}:GW P.b ty Wg I (RZ P.b ty Wg Hs) m G W->Ka P SB BB zZ Pr T Fn x tp gR->iw P ty Wg Hs gR->Gx .kd 0 (k,2,.st 0 0) (λv=>16*v+14) m x tp G W
 |anch {k m:Nat} {x:Lone} {tp:Bool} {gR G:Y} {Hs:Y->J->Prop} {W:J}:GW P.b ty Wg I Hs m G W->Ka P SB BB zZ Pr T Fn x tp gR->iw P ty Wg Hs gR->Gx .anch 1 (k,2,.st 0 0) (λv=>16*v+12) m x tp G W
 |w1 {k m:Nat} {x:Lone} {tp:Bool} {gR G:Y} {Hs:Y->J->Prop} {W:J}:GW P.b ty Wg I (W1 P.b ty Wg Hs (λg _=>g=gR)) m G W->Ka P SB BB zZ Pr T Fn x tp gR->iw P ty Wg Hs gR->Gx .w1 1 (k,2,.st 0 0) (λv=>16*v+10) m x tp G W
 |w2 {k vs m:Nat} {x:Lone} {tp:Bool} {gR G:Y} {Hs:Y->J->Prop} {W:J}:GW P.b ty Wg I (W2 P.b ty Wg Hs (λg _=>g=gR) vs) m G W->Ka P SB BB zZ Pr T Fn x tp gR->iw P ty Wg Hs gR->Gx (.w2 vs) 1 (k,2,.st 0 0) (λ_=>16*vs+8) m x tp G W
 |QI {k m:Nat} {x:Lone} {tp:Bool} {gR G:Y} {W:J}:GW P.b ty Wg I (WRw P.b ty Wg (λg _=>g=gR)) m G W->Ka P SB BB zZ Pr T Fn x tp gR->Gx .w3 1 (k,2,.st 0 0) (λ_=>7) m x tp G W
 |w3 {k m:Nat} {x:Lone} {tp:Bool} {gR G:Y} {W:J}:GW P.b ty Wg I (W3 P.b ty Wg (λg _=>g=gR)) m G W->Ka P SB BB zZ Pr T Fn x tp gR->Gx .w3 1 (k,2,.st 0 0) (λ_=>6) (m+1) x tp G W
 |blk {k:Nat} {x:Lone} {tp:Bool} {gR G:Y} {W:J}:(∀w₁,RL ty Wg W w₁->W3 P.b ty Wg (λg _=>g=gR) G w₁)->Ka P SB BB zZ Pr T Fn x tp gR->Gx .blk 1 (k,2,.st 0 0) (λ_=>6) 0 x tp { G with status:=.blocked } W
 |w4 {k m:Nat} {x:Lone} {tp:Bool} {gR G:Y} {W:J}:GW P.b ty Wg I (W4 P.b ty Wg (λg _=>g=gR)) m G W->Ka P SB BB zZ Pr T Fn x tp gR->Gx .w4 1 (k,2,.st 0 0) (λ_=>5) m x tp G W
 |PL {k m:Nat} {x:Lone} {tp:Bool} {gR G:Y} {W:J}:GW P.b ty Wg I (RY P.b ty Wg (λg _=>g=gR)) m G W->Ka P SB BB zZ Pr T Fn x tp gR->Gx .ke 1 (k,2,.st 0 0) (λ_=>4) m x tp G W
 |NQ {k m:Nat} {x:Lone} {tp:Bool} {gR G:Y} {W:J}:GW P.b ty Wg I (Q2 P.b ty Wg (λg _=>g=gR)) m G W->Ka P SB BB zZ Pr T Fn x tp gR->Gx .acq 0 (k,2,.st 0 0) (λ_=>3) m x tp G W
 |fin {k m:Nat} {x:Lone} {tp:Bool} {gR G:Y} {W:J}:GW P.b ty Wg I (λg _=>g=gR) m G W->Ka P SB BB zZ Pr T Fn x tp gR->Gx .ret 0 (k,2,.st 0 0) (λ_=>2) m x tp G W
end
section
variable {P:EK} {SB BB:bo->Bool} {zZ:Bool} {Gn:Nat} {ty Wg:Nat} {zN:Nat->Prop} {Ψ0 Ψ2:J->Prop} {fA fW:bo} {wl:Nat} {Pr:Ey} {T:List bw} {Fn:Bool->Hid->Y->J->Prop}
 {tag:CTag} {d0:Nat} {pre:Pre} {rk:Nat->Nat} {fu:Nat} {x:Lone} {tp:Bool} {G:Y} {W W':J}
def Gx.rely (h:Gx P SB BB zZ Gn ty Wg zN Ψ0 Ψ2 fA fW wl Pr T Fn tag d0 pre rk fu x tp G W)(r:RL ty Wg W W'):Gx P SB BB zZ Gn ty Wg zN Ψ0 Ψ2 fA fW wl Pr T Fn tag d0 pre rk fu x tp G W':=by
 cases h with
 |free a b c d=>exact .free a b c d
 |QF a b=>exact .QF (Goes.rely RL.trans a r) b
 |QG a b=>exact .QG (Goes.rely RL.trans a r) b
 |arr a b=>exact .arr (Goes.rely RL.trans a r) b
 |Qg a b=>exact .Qg (Goes.rely RL.trans a r) b
 |KO a b=>exact .KO (Goes.rely RL.trans a r) b
 |mid a=>exact .mid a
 |QH a b c=>exact .QH (Goes.rely RL.trans a r) b c
 |anch a b c=>exact .anch (Goes.rely RL.trans a r) b c
 |w1 a b c=>exact .w1 (Goes.rely RL.trans a r) b c
 |w2 a b c=>exact .w2 (Goes.rely RL.trans a r) b c
 |QI a b=>exact .QI (Goes.rely RL.trans a r) b
 |w3 a b=>exact .w3 (Goes.rely RL.trans a r) b
 |blk a b=>exact .blk (λw₂ h₂=>a w₂ (RL.trans _ _ _ r h₂)) b
 |w4 a b=>exact .w4 (Goes.rely RL.trans a r) b
 |PL a b=>exact .PL (Goes.rely RL.trans a r) b
 |NQ a b=>exact .NQ (Goes.rely RL.trans a r) b
 |fin a b=>exact .fin (Goes.rely RL.trans a r) b
def PM {gR:Y}(h:gR.status=.L):∀(g:Y) (_:J),g=gR->g.status=.L:=λg _ e=>e▸h
def Gx.status (h:Gx P SB BB zZ Gn ty Wg zN Ψ0 Ψ2 fA fW wl Pr T Fn tag d0 pre rk fu x tp G W):(G.status=.L/\tag≠.blk)\/(G.status=.blocked/\tag=.blk):=by
 cases h with
 |free _ _ _ d=>exact .inl ⟨d.status.2,by simp⟩
 |QF a _=>exact .inl ⟨Goes.running (λ_ _ x=>x.1) W (RL.refl W) a,by simp⟩
 |QG a _=>exact .inl ⟨Goes.running (λ_ _ x=>x.1) W (RL.refl W) a,by simp⟩
 |arr a _=>exact .inl ⟨Goes.running (λ_ _ x=>x.1) W (RL.refl W) a,by simp⟩
 |Qg a _=>exact .inl ⟨Goes.running (λ_ _ x=>x.1) W (RL.refl W) a,by simp⟩
 |KO a b=>exact .inl ⟨Goes.running (PM b.gl.status.2) W (RL.refl W) a,by simp⟩
 |mid a=>exact .inl ⟨a.gl.status.2,by simp⟩
 |QH a _ _=>exact .inl ⟨Goes.running (λ_ _ x=>x.1) W (RL.refl W) a,by simp⟩
 |anch a _ c=>exact .inl ⟨Goes.running (λg w x=>(c g w x).1) W (RL.refl W) a,by simp⟩
 |w1 a _ _=>exact .inl ⟨Goes.running (λ_ _ x=>x.1) W (RL.refl W) a,by simp⟩
 |w2 a _ _=>exact .inl ⟨Goes.running (λ_ _ x=>x.1) W (RL.refl W) a,by simp⟩
 |QI a _=>exact .inl ⟨Goes.running (λ_ _ x=>x.1) W (RL.refl W) a,by simp⟩
 |w3 a _=>exact .inl ⟨Goes.running (λ_ _ x=>x.1) W (RL.refl W) a,by simp⟩
 |blk _ _=>exact .inr ⟨rfl,rfl⟩
 |w4 a _=>exact .inl ⟨Goes.running (λ_ _ x=>x.1) W (RL.refl W) a,by simp⟩
 |PL a _=>exact .inl ⟨Goes.running (λ_ _ x=>x.1) W (RL.refl W) a,by simp⟩
 |NQ a _=>exact .inl ⟨Goes.running (λ_ _ x=>x.1) W (RL.refl W) a,by simp⟩
 |fin a b=>exact .inl ⟨Goes.running (PM b.gl.status.2) W (RL.refl W) a,by simp⟩
def Gx.wokenBy (h:Gx P SB BB zZ Gn ty Wg zN Ψ0 Ψ2 fA fW wl Pr T Fn tag d0 pre rk fu x tp G W)(r:RL ty Wg W W')(g g':Y) :
  ∃tag' MU MV,Gx P SB BB zZ Gn ty Wg zN Ψ0 Ψ2 fA fW wl Pr T Fn tag' d0 pre MU MV x tp (woken P.b g g' W' G) W'/\(tag'=tag\/(tag=.blk/\tag'=.w3))/\(mayWake P.b g=I->g'.status=.L->tag'≠.blk):=by
 have h':=h.rely r;unfold l9;split
 .obtain⟨hs,zU⟩|⟨_,rfl⟩:=h'.status
  .exact⟨tag,rk,fu,by rw[again_running _ (.inl hs)];exact h',.inl rfl,λ_ _=>zU⟩
  .cases h' with
   |blk hb hf =>
    have h3:=hb W' (RL.refl W');exact⟨.w3,λ_=>6,0+1,by rw[Go.ConcR.again_blocked h3.1 h3.2.1];exact .w3 (Goes.stop hb) hf,.inr ⟨rfl,rfl⟩,λ_ _=>by simp⟩
 .rename_i hc;exact⟨tag,rk,fu,h',.inl rfl,λh1 h2=>AS (by simp[h1,h2]) hc⟩
end
end Go.Co
