/- Parts of the proof. -/
import Derived.Test.YtgllajjoinefcaaGreatP01
import Derived.Conc.WgGenN3
import Derived.Conc.Beside
set_option linter.all false
open Go renaming Goroutine->Y,World->J,Frame->bn,FuncId->bo,Program->bs,stepG->bD,Value->bW,unsupported->b9,Item->cu,Oper->cK,step_lone_go->di,TypeId->dn,Next->dS,Event->ed,Code->ew,IntKind->eH,Addr->eT,doReturn->e7,execOp->e9,HappensBefore->fW,callFunc->gR,frozen->hP,Operand->jk,deafBehind->js,step_seq->j0,Func->kq,CallKind->kx,MemOp->kV,Trace->k8,Steps->k9
open Bool renaming true->bb,false->bc
open Option renaming some->bh,none->b8
open Go.Extern.Atomic renaming touchesFrozen->bk,read->bq,casT->cd,update->cF,loadT->df
open Classical renaming choose_spec->br,choose->cf
open Go.Value renaming pointer->bw,bool->eC
open Go.Frame renaming enter->bA,finish_at->c0,todo->gg,oper?->kt,mode->k6
open Go.Conc renaming getElem?_append_cases->b5,lt_size_of_getElem?->ck,stepG_value->fl,noRace_append->fz,stepG_region_end->gU,touchAt_of->jx,g?_old->j1,seen_none->j2,touch_of->k0,G->lh
open Go.Result renaming andThen->b6,ok->ln
open Go.Region renaming wanted->b7,Mode->er,binds->j3,ready->kp
open Go.GStep renaming after->cq
open Go.Sem renaming run->cw,runT_fst->gl
open Go.World renaming cell?->cA
open Go.stepG renaming apply->cE,exec->k5
open Go.Extern renaming findNext->cU,find->e8
open List renaming range->dt,range'->fx
open Option.some renaming injEq->ek,inj->hZ
open Array renaming append_right_inj->ez,getD->eG,sizeOf_getElem->fu,replicate->iv,ofFn->k7
open Go.Mode renaming atomic->fo
open Go.Steps renaming trans->fq
open SizeOf renaming sizeOf->fA
open Array renaming getD->Array.LE,setIfInBounds->Array.L
open Eq renaming symm->Eq.LT
open Go renaming underlying->Go.LT
open Go.Addr renaming block->Go.Addr.Lo
open Go.Code renaming region->Go.Code.L
open Go.Ending renaming returned->Go.Ending.L
open Go.GoStatus renaming running->Go.GoStatus.L
open Go.Goroutine renaming frame->Go.Goroutine.L
open Go.MemAct renaming low->Go.MemAct.Li,touch?->Go.MemAct.L
open Go.Program renaming funcs->Go.Program.L,underlying->Go.Program.LT
open Go.Sem renaming runT->Go.Sem.L
open Go.TypeDesc renaming pointer->Go.TypeDesc.S
open Go.Unsupported renaming addressObserved->Go.Unsupported.L
open Go.Value renaming pointer->Go.Value.S
open Go.World renaming cell?->Go.World.L,frozen?->Go.World.H,setCell->Go.World.LE,shape?->Go.World.T
open List renaming contains->List.H,length->List.L,set->List.SS,take->List.LT,toArray->List.Li
open Ne renaming symm->Ne.LT
open Option renaming getD->Option.LE,isNone->Option.L
namespace Go.Em
def E7 (p:bs)(BB:bo->Bool)(g:Y)(_:J):Prop:=BB g.L.fn=bb/\∀o,g.L.oper?=bh o->aH p o.op=bb
def D9.LT {p:bs}{Ev Ev' Q Q':Y->J->Prop}(he:∀g w,Ev g w->Ev' g w)(hq:∀g w,Q g w->Q' g w){g:Y}{w:J}(h:D9 p Ev Q g w):D9 p Ev' Q' g w:=by
 induction h with
 |fin h=>exact .fin (hq _ _ h)
 |next ng nw h1 h2 _ ih=>exact .next ng nw (he _ _ h1) h2 ih
def D9.bind {p:bs}{Ev Q Q':Y->J->Prop}{g:Y}{w:J}(h:D9 p Ev Q g w)(k:∀g w,Q g w->D9 p Ev Q' g w):D9 p Ev Q' g w:=by
 induction h with
 |fin h=>exact k _ _ h
 |next ng nw h1 h2 _ ih=>exact .next ng nw h1 h2 ih
section
variable {P:Er} {SB Ep:bo->Bool} {H H0:Hid} {zZ:Bool} {BB:bo->Bool} {T:List bn} {β:Ef} {G G0:Nat}
def Ga.IZ {f F:bn}(h:Ga P SB H zZ BB β f F)(hb:BB f.fn=bb):Ej P.a SB H zZ β f F:=by
 cases h with
 |on h=>exact h
 |@stop f' _ _ _ _ h2 =>
  have hb':BB f'=true:=hb;rw[h2] at hb';cases hb'
def mr {g:Y}{w:J}(h:E7 P.a BB g w):Ready P.a SB g:=λ_ o ho=>pM (h.2 o ho)
def follow (L:Lib P SB H zZ BB G){main2:Bool}{Q:Y->J->Prop}{g g2:Y}{w W:J}(hr:D9 P.a (E7 P.a BB) Q g w)(hq:¬Q g w)
  (hg:FV P SB H zZ BB T β g g2) (hw:EA (SP SB H) (CK P.a SB zZ) G β w W) :
  ∃g' w' es DZ a6 W' ES,bD P.a bb g (on w W.tape W.drawn)=.go g' w' es/\D9 P.a (E7 P.a BB) Q g' w'/\bD P.b main2 g2 W=.go a6 W' ES/\FV P SB H zZ BB T DZ g' a6 /\
   Fin (SP SB H) (CK P.a SB zZ) G β DZ (on w W.tape W.drawn) W w' W' ES.toList:=by
 cases hr with
 |fin h=>exact AH h hq
 |next ng nw h1 h2 h3 =>
  obtain⟨⟨es,e⟩,zU⟩:=h2 W.tape W.drawn;have hw':EA (SP SB H) (CK P.a SB zZ) G β (on w W.tape W.drawn) W:=hw.same rfl rfl hw.env;have:=dL (main:=bb) (main2:=main2) L hg (hg.top.IZ h1.1) (mr h1) hw' (n:=(nw W.tape W.drawn).drawn) (λ_ _ _=>rfl) (by rw[e];exact C3 _ _);rw[e] at this;obtain⟨h0,_⟩|⟨DZ,a6,W',ES,k1,k2,k3⟩:=this
  .exact AH h0 zU
  .exact⟨_,_,es,DZ,a6,W',ES,e,h3 _ _,k1,k2,k3⟩
def J2 (L:Lib P SB H zZ BB G){main2:Bool}{g g2:Y}{w W:J}{ng:Tape->Nat->Y}{nw:Tape->Nat->J}(h1:E7 P.a BB g w)(h2:∀τ d,(∃es,bD P.a bb g (on w τ d)=.go (ng τ d) (nw τ d) es)/\(ng τ d).callers≠[])
  (hg:FV P SB H zZ BB T β g g2) (hw:EA (SP SB H) (CK P.a SB zZ) G β w W) :
  ∃g' w' es DZ a6 W' ES,bD P.a bb g (on w W.tape W.drawn)=.go g' w' es/\(g'=ng W.tape W.drawn/\w'=nw W.tape W.drawn)/\bD P.b main2 g2 W=.go a6 W' ES/\FV P SB H zZ BB T DZ g' a6 /\
   Fin (SP SB H) (CK P.a SB zZ) G β DZ (on w W.tape W.drawn) W w' W' ES.toList:=by
 obtain⟨⟨es,e⟩,zU⟩:=h2 W.tape W.drawn;have hw':EA (SP SB H) (CK P.a SB zZ) G β (on w W.tape W.drawn) W:=hw.same rfl rfl hw.env;have:=dL (main:=bb) (main2:=main2) L hg (hg.top.IZ h1.1) (mr h1) hw' (n:=(nw W.tape W.drawn).drawn) (λ_ _ _=>rfl) (by rw[e];exact C3 _ _);rw[e] at this;obtain⟨h0,_⟩|⟨DZ,a6,W',ES,k1,k2,k3⟩:=this
 .exact AH h0 zU
 .exact⟨_,_,es,DZ,a6,W',ES,e,⟨rfl,rfl⟩,k1,k2,k3⟩
end
section
variable {P:Er} {SB:bo->Bool} {H:Hid} {zZ:Bool} {BB:bo->Bool} {T:List bn} {β:Ef} {G:Nat}
def leave (L:Lib P SB H zZ BB G){main2:Bool}{f:bo}{R:bW->J->Prop}{g g2:Y}{w W:J}{C:bn}{CS:List bn}(hl:Left P.a f R g w)(aI:BB f=bb)
  (hg:FV P SB H zZ BB (C::CS) β g g2) (hw:EA (SP SB H) (CK P.a SB zZ) G β w W) :
  ∃v w0 w1 V W' ES DZ,Ek w w0/\R v w0/\Ek w w1/\bD P.b main2 g2 W=.go (ER (C.finish V) CS) W' ES/\DX (SP SB H) DZ v V /\
   Fin (SP SB H) (CK P.a SB zZ) G β DZ (on w W.tape W.drawn) W w1 W' ES.toList:=by
 obtain⟨w0,v,fr,hs,hR,rfl,hf,hm,hd,hk,fn,hfn,hres⟩:=hl;have aH:=hg.top.IZ (show BB fr.fn=bb by rw[hf];exact aI);have e0:=hg.status.2;have e1:=hg.dying.2;have e2:=hg.offers.2;have zW:=hg.callers;obtain⟨FR,aJ,st,dy,off⟩:=g2;dsimp only at e0 e1 e2 zW aH;subst e0 e1 e2;have aK:aJ=C::CS:=by
  cases zW with
  |base=>rfl
  |cons _ h=>exact AH rfl h.ne
 subst aK;obtain⟨aB,tmps,todo,defers,mode,kind,round⟩:=fr;obtain⟨aO,aA,aF,aC,aG,aN,aD⟩:=FR;obtain⟨a1,a2,a3,a4,a5,a6,a7,a8⟩:=aH;dsimp only[ER] at a1 a2 a3 a4 a5 a6 a7 a8 hm hd hk hfn hres hf;subst a1 a6 hm hd hk;have d2:aC=[]:=by cases a4;rfl
 have m2:aG=.returning:=by cases a5;rfl
 subst d2 m2;obtain⟨q,q',g1,g2,g3⟩:=L.like aB a7.2;rw[hfn] at g1;cases g1;have aL:P.b.L[aB]?=bh q':=g2;have g4:results q' aA=results fn aA:=by unfold results;rw[g3]
 have aM:EA (SP SB H) (CK P.a SB zZ) G β w0 W:=hw.same hs.1.LT rfl (by rw[<-hs.2.1];exact hw.env);have hm:=jH (P:=P) (Ck:=CK P.a SB zZ) (G:=G) (S:=SP SB H) fn a2;have zA:((results fn tmps).L P.a w0 #[]).1=.ok v w0:=by rw[gl];exact hres
 have hE:=hm w0 W 0 aM (λi hi=>AH hi (BY _)) #[] #[];rcases hr:(results fn tmps).L P.a w0 #[] with⟨r,es⟩
 rw[hr] at hE zA;dsimp only at zA;subst zA;obtain⟨DZ,V,W',ES,k1,k2,k3⟩:=hE (AD _);refine⟨v,w0,on w0 W.tape W.drawn,V,W',seen P.b aB ES.Li,DZ,hs.LT,hR,(hs.LT).trans Dc,?_,k2,?_⟩
 .unfold bD;dsimp only;unfold unwind;dsimp only;rw[aL];dsimp only;rw[g4,k1];simp only[Bp];show cq _ (e7 P.b main2 ⟨aB,aA,aF,[],.returning,.normal,aD⟩ (C::CS) b8 V W')=_;unfold e7;simp[cq,ER]
 .have k4:=k3.seen (P:=P) (SB:=SB) (H:=H) (zZ:=zZ) aB;have hh:w.heap=w0.heap:=hs.1;have dr:=k4.draws;have W'd:W'.drawn=W.drawn:=by omega
  exact {
   le:=k4.le
   rel:=k4.rel.same rfl rfl k4.rel.env
   tape:=rfl
   TAPE:=k4.TAPE
   drawn:=AD _
   draws:=by show W'.drawn+W.drawn=W.drawn+W.drawn;omega
   os:=hs.2.1.LT
   OS:=k4.OS
   out:=hs.2.2.LT
   OUT:=k4.OUT
   size:=by show w.heap.size<=w0.heap.size;rw[hh];exact AD _
   SIZE:=k4.SIZE
   new:=λb B h=>by show β b B\/(w.heap.size<=b/\_);rw[hh];exact k4.new b B h
   NEW:=k4.NEW
   frozen:=λa _=>by show w0.H a=w.H a;rw[aY,aY,hh]
   KEPT:=k4.KEPT
   ro:=λb B c t z hb hc hz=>by
    have hc':w0.heap[b]?=bh (.cells c t z):=by rw[<-hh];exact hc
    exact⟨by show w0.heap[b]?=w.heap[b]?;rw[hh],(k4.ro b B c t z hb hc' hz).2⟩
   kind:=λb _=>by show(w0.heap[b]?).map Fo=(w.heap[b]?).map Fo;rw[hh]
   evs:=λht E hE=>by
    have:=k4.evs ht E hE;cases this with
    |cell h1 h2 h3 h4=>exact .cell h1 h2 h3 h4
    |obj h1 h2=>exact .obj h1 h2
    |mark h=>exact .mark h
    |out=>exact .out
   same:=λi e=>by
    have:=k4.same i (by rw[<-hh];exact e);exact this
   hk:=k4.hk }
end
def kid (n:Nat)(d:Deferred):Goroutine:={ frame:={ (default:bn) with fn:=n,defers:=[d],mode:=.panicking [goexitEntry] },callers:=[],status:=.L,dying:=b8 }
section
variable {p:bs} {Ev Q:Y->J->Prop}
def D9.same (hE:∀g w W,Ek w W->Ev g w->Ev g W)(hQ:∀g w W,Ek w W->Q g w->Q g W){g:Y}{w W:J}(h:D9 p Ev Q g w)(hs:Ek w W):D9 p Ev Q g W:=by
 cases h with
 |fin h=>exact .fin (hQ _ _ _ hs h)
 |next ng nw h1 h2 h3 =>
  refine .next ng nw (hE _ _ _ hs h1) (λτ d=>?_) h3;have e:on W τ d=on w τ d:=by
   obtain⟨a,b,c,d',e'⟩:=W;obtain⟨k1,k2,k3⟩:=hs;dsimp only at k1 k2 k3;subst k1 k2 k3
   rfl
  rw[e];exact h2 τ d
inductive Walk (p:bs)(C:Y->Prop):Y->J->Y->J->Prop
 |refl {g:Y} {w:J}:Walk p C g w g w
 |step {g g' g2:Y} {w w' w2:J} {es:Array ed}:C g->bD p bb g w=.go g' w' es->Walk p C g' w' g2 w2->Walk p C g w g2 w2
def D9.descend {C:Y->Prop}(hE:∀g w W,Ek w W->Ev g w->Ev g W)(hQ:∀g w W,Ek w W->Q g w->Q g W)(hC:∀g w,C g->¬Q g w){g g2:Y}{w w1 w2:J}(h:D9 p Ev Q g w)(hs:Ek w w1)(k:Walk p C g w1 g2 w2):D9 p Ev Q g2 w2:=by
 induction k generalizing w with
 |refl=>exact h.same hE hQ hs
 |step c e _ ih =>
  cases h with
  |fin h=>exact AH h (hC _ _ c)
  |next ng nw h1 h2 h3 =>
   rename_i w1 _ _ _ _;obtain⟨⟨es',e'⟩,_⟩:=h2 w1.tape w1.drawn;rw[<-hs.eq,e] at e';cases e';exact ih (h3 _ _) ⟨rfl,rfl,rfl⟩
def After (p:bs)(x y:Y×J):Prop:=∃τ d es,bD p bb y.1 (on y.2 τ d)=.go x.1 x.2 es/\x.1.callers≠[]
def Left.last {f:bo}{R:bW->J->Prop}{g:Y}{w:J}(h:Left p f R g w)(x:Y×J):¬After p x (g,w):=by
 rintro⟨τ,d,es,e,zU⟩;obtain⟨w0,v,fr,hs,_,rfl,_,hm,hd,hk,fn,hfn,_⟩:=h;obtain⟨a6,tmps,todo,defers,mode,kind,round⟩:=fr;dsimp only at hm hd hk hfn;subst hm hd hk;unfold bD ER at e;dsimp only at e;unfold unwind at e;dsimp only at e;rw[hfn] at e;dsimp only at e;rcases hr:(results fn tmps).L p (on w τ d) #[] with⟨r,es'⟩
 rw[hr] at e;cases r with
 |ok v w' =>
  simp[e7,cq] at e;exact zU (by rw[<-e.1])
 |halt x w'=>cases x<;>simp[cq] at e
end
open Go.Conc
inductive Fp (p:bs)(a:Act)(w:J)(o:cK):Array ed->bW->Prop
 |Hv {f:bo} {Az:Array jk} {ats:Array dn} {fn:kq} (m:Mark):(m=.disable\/m=.enable)->o.op=.call { callee:=.value (.func f),args:=Az,argTypes:=ats }->p.L[f]?=bh fn->(fn.name == "runtime.NumGoroutine")=bc->fn.body.L=bb->cU fn=b8 ->
   e8 fn=bh (λ_=>do mark m;pure Extern.Race.none_)->Fp p a w o #[⟨.mark m,bc,bb⟩] (.tuple #[])
 |G3 {f:bo} {Az:Array jk} {ats:Array dn} {fn:kq} {ad:eT} (mk:eT->Mark):(mk=.acquire\/mk=.releaseMerge)->o.op=.call { callee:=.value (.func f),args:=Az,argTypes:=ats }->p.L[f]?=bh fn->(fn.name == "runtime.NumGoroutine")=bc->fn.body.L=bb->cU fn=b8 ->
   e8 fn=bh (Extern.Race.marked mk)->(Az.map a.eval)[0]?=bh (.S (bh ad))->(∃u,w.L ad=bh u)->Fp p a w o #[⟨.mark (mk ad),bc,bb⟩] (.tuple #[])
 |conv {s d t:dn} {x:jk} {ad:eT}:o.op=.convert s d x->p.LT s=bh (.S t)->p.LT d=bh .unsafePointer->(p.info? t).map (λi=>decide (i.size=0))=bh bc->a.eval x=.S (bh ad)->(∃u,w.L ad=bh u)->Fp p a w o #[] (.S (bh ad))
section
variable {p:bs} {main:Bool} {b:bn} {a:Act} {k:List cu} {cs:List bn} {w W:J} {ops:Array cK} {i:Nat} {rest:List Nat} {o:cK} {es:Array ed} {v:bW}
def Fp.step (h:Fp p a w o es v)(ho:ops[i]?=bh o)(hw:b7 o (yielded ops a.tmps)=bb)(hk:b.kind≠.early) :
  bD p main (ER (b.at a (.inRegion ops (i::rest)::k)) cs) w=.go (ER (b.at (a.put o.dst v) (.inRegion ops rest::k)) cs) w es:=by
 cases h with
 |Hv m hm hop hf hn hb hx he=>exact stepG_mark0 m (by rcases hm with rfl|rfl<;>simp) ho hw hk hop hf hn hb hx he
 |G3 mk hm hop hf hn hb hx he hp=>exact stepG_markAt mk (by rcases hm with rfl|rfl<;>simp) ho hw hk hop hf hn hb hx he hp
 |@conv s d t x ad hop hs hd hz hx hc =>
  obtain⟨u,hc⟩:=hc;have a6:a.eval x=.S (bh ad):=hx;have e1:e9 a.eval o=(do let r<-convert s d (a.eval x);pure (.value r)):=by unfold e9;rw[hop]
  have hr:=run_convert_to_unsafe hs hd hz hc;rw[show ER (b.at a (.inRegion ops (i::rest)::k)) cs=lh (b.at a (.inRegion ops (i::rest)::k)) cs from rfl,fl (v:=.S (bh ad)) (w':=w) ho hw hk (by rw[e1,a6];simp[hr,b6])];have:listed p b.fn a o w=#[]:=by
   unfold listed;rw[e1,a6];have he:=events_convert_to_unsafe hs hd hz hc #[];simp[he,hr,Result.evThen,j2]
  rw[this];rfl
def Fp.same (h:Fp p a w o es v)(hs:Ek w W):Fp p a W o es v:=by
 have hc:∀ad:eT,W.L ad=w.L ad:=λad=>by unfold cA;rw[hs.1]
 cases h with
 |Hv m hm hop hf hn hb hx he=>exact .Hv m hm hop hf hn hb hx he
 |G3 mk hm hop hf hn hb hx he hp hu=>exact .G3 mk hm hop hf hn hb hx he hp (hu.imp λu e=>(hc _).trans e)
 |conv hop hs hd hz hx hu=>exact .conv hop hs hd hz hx (hu.imp λu e=>(hc _).trans e)
end
inductive GM (β:Ef):Array ed->Array ed->Prop
 |Hv (m:Mark):(m=.disable\/m=.enable)->GM β #[⟨.mark m,bc,bb⟩] #[⟨.mark m,bc,bb⟩]
 |G3 {b B:Nat} (o:Nat) (s:Option Nat) (mk:eT->Mark):(mk=.acquire\/mk=.releaseMerge)->β b B->GM β #[⟨.mark (mk ⟨b,o,s⟩),bc,bb⟩] #[⟨.mark (mk ⟨B,o,s⟩),bc,bb⟩]
 |none:GM β #[] #[]
def GM.Lo {β:Ef}{es ES:Array ed}(h:GM β es ES)(d:Nat):js d ES=js d es:=by
 cases h with
 |Hv m hm=>rfl
 |G3 o s mk hm hb=>rcases hm with rfl|rfl<;>rfl
 |none=>rfl
section
variable {P:Er} {SB:bo->Bool} {H:Hid} {zZ:Bool} {BB:bo->Bool} {T:List bn} {β:Ef} {Gn:Nat}
def Lh {S:Fu}{ad:eT}{V:bW}(h:DX S β (.S (bh ad)) V):∃B,β ad.Lo B/\V=.S (bh ⟨B,ad.off,ad.spot⟩):=by
 cases h with
 |ptr o s hb=>exact⟨_,hb,rfl⟩
def LB (aF:∀(f:bo) (fn:kq),P.a.L[f]?=bh fn->fn.body.L=bb->P.fs[f]?=bh fn){main2:Bool}{b:bn}{a:Act}{ops:Array cK}{i:Nat}{rest:List Nat}{k:List cu}{cs:List bn}{g2:Y}{w W:J}{o:cK}{es:Array ed}{v:bW}
  (hb:BB b.fn=bb) (hg:FV P SB H zZ BB T β (ER (b.at a (.inRegion ops (i::rest)::k)) cs) g2) (hw:EA (SP SB H) (CK P.a SB zZ) Gn β w W) (ho:ops[i]?=bh o) (hwt:b7 o (yielded ops a.tmps)=bb) (hk:b.kind≠.early) (h:Fp P.a a w o es v) :
  ∃a8 ES,bD P.b main2 g2 W=.go a8 W ES/\FV P SB H zZ BB T β (ER (b.at (a.put o.dst v) (.inRegion ops rest::k)) cs) a8/\GM β es ES/\∀e∈ES,∀ad,e.loc=.mark (.acquire ad)\/e.loc=.mark (.releaseMerge ad)->ad.Lo<W.heap.size:=by
 have aC:Ej P.a SB H zZ β (b.at a (.inRegion ops (i::rest)::k)) g2.L:=hg.top.IZ hb;obtain⟨FR,CS,st,dy,off⟩:=g2;obtain⟨_,hc,⟨_,h3⟩,⟨_,h4⟩,⟨_,h5⟩⟩:=hg;dsimp only at aC hc h3 h4 h5;subst h3 h4 h5;have aD:=aC;obtain⟨G2,A,Hu,aA,aH,aI,round'⟩:=FR;obtain⟨f1,f2,f3,f4,f5,f6,f7,f8⟩:=aC;dsimp only[Frame.at] at f1 f2 f3 f4 f5 f6 f7 f8;subst f1 f6;cases f5;cases f8;cases f3 with
 |@cons _ I _ K hi hK =>
 cases hi with
 |inRegion hall =>
 have hy:yielded ops A=yielded ops a.tmps:=(funext λj=>iZ f2 ops j).LT;have a7:cn P.a SB zZ (b8:Option Nat).L o=true:=by
  have:=(Bb.1 hall) o (Bi ho);exact this
 have ev:∀x,ah SB x=bb->DX (SP SB H) β (a.eval x) (Act.eval ⟨A,aA⟩ x):=λx hx=>by
  have:=aD.eval hx;rw[Frame.eval_at] at this;exact this
 have inW:∀ad B,β ad.Lo B->(∃u,w.L ad=bh u)->∃u,W.L ⟨B,ad.off,ad.spot⟩=bh u:=by
  rintro ad B a6 ⟨u,hu⟩;cases hh:H ad.Lo with
  |true =>
   have:=(hw.FU _ _ a6 hh).1;unfold cA at hu;rw[this] at hu;cases hu
  |false =>
   obtain⟨o',O',e1,e2,e3⟩:=hw.FD _ _ a6 hh;unfold cA at hu ⊢;rw[e1] at hu;rw[e2];cases e3 with
   |@cells c C t f F hc' hf' =>
    dsimp only at hu ⊢;split at hu
    .cases hu
    .rename_i hsp;rw[AE hsp];have:=(AC.1 hu).1;have hs:=hc'.size;exact⟨C[ad.off]'(by omega),AL _⟩
   |_=>cases hu
 have fin : ∀ (v V : bW) (ES : Array ed) , DX (SP SB H) β v V -> Fp P.b ⟨A, aA⟩ W o ES V -> GM β es ES -> (∀ e ∈ ES, ∀ ad, e.loc = .mark (.acquire ad) ∨ e.loc = .mark (.releaseMerge ad) -> ad.Lo < W.heap.size) ->
   ∃a8 ES,bD P.b main2 ⟨⟨b.fn,A,.inRegion ops (i::rest)::K,aA,.run,b.kind,b8⟩,CS,.L,b8,b8⟩ W=.go a8 W ES/\FV P SB H zZ BB T β (ER (b.at (a.put o.dst v) (.inRegion ops rest::k)) cs) a8/\GM β es ES/\∀e∈ES,∀ad,e.loc=.mark (.acquire ad)\/e.loc=.mark (.releaseMerge ad)->ad.Lo<W.heap.size:=by
  intro v V ES hv hs he hl;have zG:=hs.step (main:=main2) (b:=b) (k:=K) (cs:=CS) (rest:=rest) ho (by show b7 o (yielded ops A)=bb;rw[hy];exact hwt) hk;refine⟨_,ES,zG,⟨.on ?_,hc,⟨rfl,rfl⟩,⟨rfl,rfl⟩,⟨rfl,rfl⟩⟩,he,hl⟩;have h2:=bf (P:=P) aD hv;rw[c0,ho] at h2;have e2:(⟨b.fn,A,.inRegion ops (i::rest)::K,aA,.run,b.kind,b8⟩:bn)=b.at ⟨A,aA⟩ (.inRegion ops (i::rest)::K):=rfl
  rw[e2,c0,ho] at h2;exact h2
 cases h with
 |@Hv f Az ats fn m hm hop hf hn hb' hx he =>
  exact fin _ _ _ (.tuple rfl (by simp)) (.Hv m hm hop (aF f fn hf hb') hn hb' hx he) (.Hv m hm) (by
   intro e aB ad h;simp only[B2,AM,AK,or_false] at aB;subst aB
   rcases hm with rfl|rfl<;>rcases h with h|h<;>cases h)
 |@G3 f Az ats fn ad mk hm hop hf hn hb' hx he hp hu =>
  have has:Az.all (ah SB)=true:=by
   unfold cn dH Nh KB at a7;rw[hop] at a7;simp only[bG,AO,Bm] at a7;obtain h|h:=a7
   .exact h.1.1.1
   .exact h.2.1.2
  obtain⟨x0,hx0,hx1⟩:∃x,Az[0]?=bh x/\a.eval x=.S (bh ad):=by
   rw[BF] at hp;cases h0:Az[0]? with
   |none=>rw[h0] at hp;cases hp
   |some x=>rw[h0] at hp;exact⟨x,rfl,hZ hp⟩
  have hv:=ev x0 ((Bb.1 has) x0 (Bi hx0));rw[hx1] at hv;obtain⟨B,a6,hV⟩:=Lh hv;obtain⟨b',o',s'⟩:=ad
  exact fin _ _ _ (.tuple rfl (by simp)) (.G3 (ad:=⟨B,o',s'⟩) mk hm hop (aF f fn hf hb') hn hb' hx he (by rw[BF,hx0];exact AZ bh hV) (inW _ _ a6 hu)) (.G3 o' s' mk hm a6) (by
   intro e aB ad h;simp only[B2,AM,AK,or_false] at aB;subst aB;have hBl:=(hw.lt a6).2
   rcases hm with rfl|rfl<;>rcases h with h|h<;>first|(cases h;exact hBl)|cases h)
 |@conv s d t x ad hop hs hd hz hx hu =>
  have aG:ah SB x=true:=by
   unfold cn dH Nh KB at a7;rw[hop] at a7;simp only[AO,Bm] at a7;obtain h|h:=a7
   .exact h.1.1.2
   .exact h.2.2
  have hv:=ev x aG;rw[hx] at hv;obtain⟨B,a6,hV⟩:=Lh hv;obtain⟨b',o',s'⟩:=ad;exact fin _ _ _ (.ptr o' s' a6) (.conv hop hs hd hz hV (inW _ _ a6 hu)) .none (by simp)
end
inductive EL (p:bs)(BB:bo->Bool)(Q:Y->J->Prop):Nat->Y->J->Prop
 |fin {g:Y} {w:J}:Q g w->EL p BB Q 0 g w
 |next {d:Nat} {g:Y} {w:J} (ng:Tape->Nat->Y) (nw:Tape->Nat->J):E7 p BB g w->(∀τ d,(∃es,bD p bb g (on w τ d)=.go (ng τ d) (nw τ d) es)/\(ng τ d).callers≠[])->(∀τ n,EL p BB Q d (ng τ n) (nw τ n))->EL p BB Q d g w
 | spec {d : Nat} {b : bn} {a : Act} {ops : Array cK} {i : Nat} {rest : List Nat} {k : List cu} {cs : List bn} {w : J} {o : cK} {es : Array ed} {v : bW} : BB b.fn = bb -> cs ≠ [] -> ops[i]? = bh o -> b7 o (yielded ops a.tmps) = bb -> b.kind ≠ .early -> Fp p a w o es v ->
   (∀τ n,EL p BB Q (js d es) (ER (b.at (a.put o.dst v) (.inRegion ops rest::k)) cs) (on w τ n))->EL p BB Q d (ER (b.at a (.inRegion ops (i::rest)::k)) cs) w
section
variable {p:bs} {BB:bo->Bool} {Q Q':Y->J->Prop} {d:Nat} {g:Y} {w W:J}
def EL.of (h:D9 p (E7 p BB) Q g w):EL p BB Q 0 g w:=by
 induction h with
 |fin h=>exact .fin h
 |next ng nw h1 h2 _ ih=>exact .next ng nw h1 h2 ih
def EL.bind (h:EL p BB Q d g w)(k:∀g w,Q g w->EL p BB Q' 0 g w):EL p BB Q' d g w:=by
 induction h with
 |fin h=>exact k _ _ h
 |next ng nw h1 h2 _ ih=>exact .next ng nw h1 h2 ih
 |spec h1 h2 h3 h4 h5 h6 _ ih=>exact .spec h1 h2 h3 h4 h5 h6 ih
def EL.LT (h:EL p BB Q d g w)(hq:∀g w,Q g w->Q' g w):EL p BB Q' d g w:=h.bind λg w h=>.fin (hq g w h)
def EL.same (hQ:∀g w W,Ek w W->Q g w->Q g W)(h:EL p BB Q d g w):∀ {W:J},Ek w W->EL p BB Q d g W:=by
 induction h with
 |fin h=>exact λhs=>.fin (hQ _ _ _ hs h)
 |@next d g w ng nw h1 h2 h3 _ =>
  intro W hs;have e:∀τ n,on W τ n=on w τ n:=λτ n=>by rw[hs.eq];rfl
  exact .next ng nw h1 (λτ n=>by rw[e];exact h2 τ n) h3
 |@spec d b a ops i rest k cs w o es v h1 h2 h3 h4 h5 h6 h7 _ =>
  intro W hs;have e:∀τ n,on W τ n=on w τ n:=λτ n=>by rw[hs.eq];rfl
  exact .spec h1 h2 h3 h4 h5 (h6.same hs) (λτ n=>by rw[e];exact h7 τ n)
def EL.step (hf:E7 p BB g w)(h:∀τ n,∃g' w' es,bD p bb g (on w τ n)=.go g' w' es/\g'.callers≠[]/\EL p BB Q d g' w'):EL p BB Q d g w :=
 .next (λτ n=>cf (h τ n)) (λτ n=>cf (br (h τ n))) hf
  (λτ n=>by
   obtain⟨es,h1,h2,_⟩:=br (br (h τ n))
   exact⟨⟨es,h1⟩,h2⟩)
  (λτ n=>by
   obtain⟨es,_,_,h3⟩:=br (br (h τ n))
   exact h3)
end
section
variable {p:bs} {Ep:bo->Bool} {H:Hid} {G:Nat} {BB:bo->Bool} {T:List bn} {β:Ef}
def cC {q:bs}{f F:bn}(h:Ej p Ep H bc β f F)(hn:∀f,Ep f=bb->dI q f=bc)(hu:∀t,q.LT t=p.LT t):∀o,f.oper?=bh o->aH q o.op=true:=λo ho=>by
 have key:∀(t U:List cu),E3 (F6 p Ep H bc f.roundOf.L β) t U->(match t with|.inRegion ops (i::_)::_=>ops[i]?|_=>b8)=bh o->aH q o.op=true:=by
  intro t U h e;cases h with
  |nil=>cases e
  |cons hi _ =>
   cases hi with
   |@inRegion ops l a6 =>
    cases l with
    |nil=>cases e
    |cons i rest =>
     simp only[Bb] at a6;have:=a6 o (Bi e);unfold cn at this;simp only[B7,CW,AO] at this;exact tB this.1 hn hu
   |_=>cases e
 refine key f.todo F.todo h.todo ?_;unfold kt at ho;exact ho
def lX {zZ:Bool}{c:bn}{cs l m:List bn}(h:Fi p Ep H zZ (c::cs) β l m):m≠[]:=by
 cases h<;>simp
end
def i4 {p:bs}{f:bo}{fn:kq}{s:String}(h:p.L[f]?=bh fn)(hb:fn.body=bh (.refuse s))(a:Array bW)(k:kx)(cs:List bn)(w:J)(main:Bool){g':Y}{w':J}{es:Array ed} :
  bD p main (ER (bA p f a k) cs) w≠.go g' w' es:=by
 intro e;simp[bD,ER,bA,h,hb,k5] at e
section
variable {P:Er} {Ep BC BB:bo->Bool} {H:Hid} {G:Nat}
def kz (P:Er)(Ep BC:bo->Bool):Prop:=∀f,Ep f=bb\/aK Ep f=bb->BC f=bc->∃fn s,P.a.L[f]?=bh fn/\fn.body=bh (.refuse s)
def tD (zG:kz P Ep BC){T:List bn}{β:Ef}{g g2:Y}{w:J}(hg:FV P Ep H bc BC T β g g2){g':Y}{w':J}{es:Array ed}(e:bD P.a bb g w=.go g' w' es):Ej P.a Ep H bc β g.L g2.L:=by
 have eg:=hg.ER;have a6:=hg.top;generalize hf:g.L=fr at a6 ⊢;generalize g2.L=FR at a6 ⊢;cases a6 with
 |on h=>exact h
 |@stop f a A k h1 h2 h3 h4 =>
  exfalso;obtain⟨fn,s,q1,q2⟩:=zG f h1 h2;rw[eg,hf] at e;exact i4 q1 q2 _ _ _ _ _ e
def rh {P:Er}{fr F:bn}{β:Ef}(h:Ej P.a Ep H bc β fr F):MS P.a Ep fr:=NS (P:=P.a) (SB:=Ep) (H:=H) h
def D9.swap (Lc:Lib P Ep H bc BC G)(zG:kz P Ep BC)(hb:∀f,Ep f=bb->BB f=bb){Qa:Y->J->Prop}{c:bn}{cs:List bn}{g:Y}{w:J}(h:D9 P.a (Self P.a Ep H G) Qa g w) :
  ∀ {β:Ef} {g2:Y},KX H β->FV P Ep H bc BC (c::cs) β g g2->EA (SP Ep H) (CK P.a Ep bc) G β w w ->
  D9 P.b (E7 P.b BB) (λa7 w'=>∃g' w0 DZ,Qa g' w0/\Ek w0 w'/\KX H DZ/\FV P Ep H bc BC (c::cs) DZ g' a7/\EA (SP Ep H) (CK P.a Ep bc) G DZ w0 w0) g2 w:=by
 induction h with
 |@fin g w hq=>exact λhi hg hw=>.fin ⟨_,_,_,hq,⟨rfl,rfl,rfl⟩,hi,hg,hw⟩
 |@next g w ng nw h1 h2 _ ih =>
  intro β g2 hi hg hw;have a6:Ej P.a Ep H bc β g.L g2.L:=by
   obtain⟨⟨es,e⟩,_⟩:=h2 w.tape w.drawn;exact tD zG hg e
  have eF:g.L=g2.L:=Ej.id (P:=Er.of P.a) hi a6;have a8:E7 P.b BB g2 w:=by
   have hf:BB g.L.fn=bb/\∀o,g.L.oper?=bh o->aH P.b o.op=true:=⟨hb _ a6.late.2,cC a6 (λf h=>(Lc.nm f h).2) λ_=>rfl⟩;unfold E7;rw[<-eF];exact hf
  refine D9.step a8 λτ d=>?_;obtain⟨⟨es,e⟩,hn⟩:=h2 τ d;have hw':EA (SP Ep H) (CK P.a Ep bc) G β (on w τ d) (on w τ d):=hw.same rfl rfl rfl;have:=dL (P:=P) (main:=bb) (main2:=bb) Lc hg a6 (λ_=>rh a6) hw' (n:=(nw τ d).drawn) (λ_ _ _=>rfl) (by rw[e];exact C3 _ _);rw[e] at this;obtain⟨h0,_⟩|⟨DZ,a7,W',ES,k1,k2,k3⟩:=this
  .exact AH h0 hn
  obtain⟨i1,i2⟩:=k3.same hi rfl;have hr:=ih τ d i1 k2 (k3.rel.same rfl i2 rfl);refine⟨a7,W',ES,k1,lX k2.callers,hr.same (λ_ _ _ _ x=>x) (λg w W s x=>?_) ⟨i2.LT,?_,?_⟩⟩
  .obtain⟨g1,w0,aA,x1,x2,x3⟩:=x;exact⟨g1,w0,aA,x1,x2.trans s,x3⟩
  .rw[k3.OS,k3.os]
  .rw[k3.OUT,k3.out]
end
def EI (K:Nat->Prop):Ef:=λb B=>K b/\b=B
def cut (K:Nat->Prop)(β:Ef):Ef:=λb B=>K b/\β b B
section
variable {S S1:Fu} {K:Nat->Prop} {β:Ef}
def IA.cut {f F:Fn}(r:IA S β f F)(k:IA S1 (EI K) f f):IA S1 (cut K β) f F:=by
 cases r with
 |func _=>cases k with|func h=>exact .func h
 |yield hl _=>cases k with|yield h1 h2=>exact .yield ⟨h1.1,hl⟩ h2
def DX.cut {v V:bW}(hb:S1.LT.bl=bb)(r:DX S β v V)(k:DX S1 (EI K) v v):DX S1 (cut K β) v V:=by
 induction r with
 |bool b=>exact .bool b
 |int ik n=>exact .int ik n
 |string s=>exact .string s
 |He=>exact .He
 |ptr o s h1=>cases k with|ptr _ _ h=>exact .ptr o s ⟨h.1,h1⟩
 |GA l c=>exact .GA l c
 |slice o s l c h1=>cases k with|slice _ _ _ _ h=>exact .slice o s l c ⟨h.1,h1⟩|E8 _=>exact .E8 (.inr hb)
 |func hf h1 _ h2 _ i1 i2 =>
  cases k with
  |EN _=>cases hf
  |func kf _ k1 _ k2=>exact .func (hf.cut kf) h1 (λi v V hv hV=>i1 i v V hv hV (k1 i v v hv hv)) h2 (λi v V hv hV=>i2 i v V hv hV (k2 i v v hv hv))
 |nilFunc=>exact .nilFunc
 |GZ=>exact .GZ
 |Gt=>exact .Gt
 |nilIface=>exact .nilIface
 |iface t _ ih=>cases k with|iface _ k=>exact .iface t (ih k)
 |agg h1 _ i1=>cases k with|agg _ k1=>exact .agg h1 λi v V hv hV=>i1 i v V hv hV (k1 i v v hv hv)
 |tuple h1 _ i1=>cases k with|tuple _ k1=>exact .tuple h1 λi v V hv hV=>i1 i v V hv hV (k1 i v v hv hv)
 |blank _ h2=>exact .blank (.inr hb) h2
 |EN _=>exact .EN (.inr hb)
 |E8 _=>exact .E8 (.inr hb)
def D6.cut (hb:S1.LT.bl=bb){x X:Array bW}(r:D6 S β x X)(k:D6 S1 (EI K) x x):D6 S1 (cut K β) x X:=⟨r.size,λi v V hv hV=>(r.at_ i v V hv hV).cut hb (k.at_ i v v hv hv)⟩
def E3.cut {α:Type}{R R1 R2:α->α->Prop}(h:∀a A,R a A->R1 a a->R2 a A){l L:List α}(r:E3 R l L)(k:E3 R1 l l):E3 R2 l L:=by
 induction r with
 |nil=>exact .nil
 |cons ha _ ih=>cases k with|cons k1 k2=>exact .cons (h _ _ ha k1) (ih k2)
def Fx.cut (hb:S1.LT.bl=bb){d D:Deferred}(r:Fx S β d D)(k:Fx S1 (EI K) d d):Fx S1 (cut K β) d D:=by
 cases r with
 |fn f c a=>cases k with
  |fn f' c' a'=>exact .fn (f.cut f') (c.cut hb c') (a.cut hb a')
  |EN a A h1 h2 h3=>cases h2;cases f
 |nil a=>cases k with
  |nil a'=>exact .nil (a.cut hb a')
  |EN a A h1 h2 h3=>cases h2
 |collected r _=>cases k with
  |collected h1 h2=>exact .collected ⟨h1.1,r⟩ h2
  |EN a A h1 h2 h3=>cases h2
 |EN a A h1 h2 h3 =>
  subst h2;cases k with
  |fn f c a'=>cases f
  |EN a' A' k1 k2 k3 =>
   have e:a'=a:=(ez _ |>.1 (AZ Deferred.args k2)).LT;subst e;have e:A'=a':=by
    obtain k3|⟨_,n,c,x,k3⟩:=k3
    .exact ez _ |>.1 (AZ Deferred.args k3).LT
    .exact(Array.append_inj_right' (AZ Deferred.args k3) k1.size).LT
   subst e;exact .EN _ _ (h1.cut hb k1) rfl (h3.imp (λh=>h) λh=>⟨hb,h.2⟩)
def EP.cut (hb:S1.LT.bl=bb){Ck Ck1:ew->Prop}{o O:Obj}(r:EP S Ck β o O)(k:EP S1 Ck1 (EI K) o o):EP S1 Ck1 (cut K β) o O:=by
 cases r with
 |cells a f=>cases k with|cells a' _=>exact .cells (a.cut hb a') f
 |loop p a b x d h=>cases k with|loop p' a' b' x' d' h'=>exact .loop p' a' b' (x.cut hb x') ⟨d'.1,d⟩ h'
 |number o s l hb=>cases k with|number _ _ _ h=>exact .number o s l ⟨h.1,hb⟩
 |taken=>exact .taken
 |defs l=>cases k with|defs l'=>exact .defs (l.cut (λ_ _=>Fx.cut hb) l')
def EP.QG {Ck:ew->Prop}{c:Array bW}{t:dn}{f f1:Nat×Nat}{O:Obj}(r:EP S Ck β (.cells c t f) O)(h:∀i,f.1<=i->i<f.2->f1.1<=i/\i<f1.2):EP S Ck β (.cells c t f1) O:=by
 cases r with
 |cells a z=>exact .cells a λi h1 h2=>let ⟨p,q⟩:=z i h1 h2;h i p q
end
section
variable {p:bs} {SB:bo->Bool} {H H1:Hid} {zZ:Bool} {K:Nat->Prop} {β:Ef}
def F6.cut {ad:Bool}{i I:cu}(r:F6 p SB H zZ ad β i I)(k:F6 p SB H1 zZ ad (EI K) i i):F6 p SB H1 zZ ad (Go.Em.cut K β) i I:=by
 cases r with
 |code c=>exact .code c
 |inBlock id=>exact .inBlock id
 |inLoop c=>exact .inLoop c
 |inScope c=>exact .inScope c
 |inRegion c=>exact .inRegion c
 |inRangeFunc a _=>cases k with|inRangeFunc h1 h2=>exact .inRangeFunc ⟨h1.1,a⟩ h2
 |endRangeFunc a _=>cases k with|endRangeFunc h1 h2=>exact .endRangeFunc ⟨h1.1,a⟩ h2
 |beginRound=>exact .beginRound
def Jn.cut (hb:H1.bl=bb){i I:PanicEntry}(r:Jn SB H β i I)(k:Jn SB H1 (EI K) i i):Jn SB H1 (Go.Em.cut K β) i I:=by
 cases r with
 |mk a b v=>cases k with|mk _ _ k=>exact .mk a b (v.cut hb k)
def Jw.cut (hb:H1.bl=bb){i I:FrameMode}(r:Jw SB H β i I)(k:Jw SB H1 (EI K) i i):Jw SB H1 (Go.Em.cut K β) i I:=by
 cases r with
 |run=>exact .run
 |returning=>exact .returning
 |panicking l=>cases k with|panicking l'=>exact .panicking (l.cut (λ_ _=>Jn.cut hb) l')
def Ht.cut {i I:Option Nat}(r:Ht H β i I)(k:Ht H1 (EI K) i i):Ht H1 (Go.Em.cut K β) i I:=by
 cases r with
 |none=>exact .none
 |some a _=>cases k with|some h1 h2=>exact .some ⟨h1.1,a⟩ h2
def Ej.cut (hb:H1.bl=bb){f F:bn}(r:Ej p SB H zZ β f F)(k:Ej p SB H1 zZ (EI K) f f):Ej p SB H1 zZ (Go.Em.cut K β) f F :=
 ⟨r.fn,r.tmps.cut hb k.tmps,r.todo.cut (λ_ _=>F6.cut) k.todo,r.defers.cut (λ_ _=>Fx.cut hb) k.defers,r.mode.cut hb k.mode,r.kind,r.late,r.round.cut k.round⟩
def Fi.cut (hb:H1.bl=bb){T T1:List bn}{cs CS:List bn}(r:Fi p SB H zZ T β cs CS)(k:Fi p SB H1 zZ T1 (EI K) cs cs):Fi p SB H1 zZ T (Go.Em.cut K β) cs CS:=by
 induction r with
 |base=>exact .base
 |cons a h ih =>
  cases k with
  |base=>exact AH rfl (Fi.ne (P:=Er.of p) h)
  |cons k1 k2=>exact .cons (a.cut hb k1) (ih k2)
end
section
variable {P:Er} {SB BB:bo->Bool} {H H1:Hid} {zZ:Bool} {T:List bn} {β:Ef} {Gn:Nat} {K:Nat->Prop} {g G:Y} {w w1 W:J}
structure LC (p:bs)(SB:bo->Bool)(zZ:Bool)(H H1:Hid)(K:Nat->Prop)(g:Y)(w w1:J):Prop where
 top:Ej p SB H1 zZ (EI K) g.L g.L
 callers:∃T1,Fi p SB H1 zZ T1 (EI K) g.callers g.callers
 FD:∀b,K b->H1 b=bc->H b=bc/\∃o,w1.heap[b]?=bh o/\EP (SP SB H1) (CK p SB zZ) (EI K) o o /\
  (w.heap[b]?=bh o\/∃c t f f1,w.heap[b]?=bh (.cells c t f)/\o=.cells c t f1/\∀i,f.1<=i->i<f.2->f1.1<=i/\i<f1.2)
 FU:∀b,K b->H1 b=bb->w1.heap[b]?=bh (.coro b8)/\(H b=bb\/∃c t f,w.heap[b]?=bh (.cells c t f))
 size:w.heap.size<=w1.heap.size
 old:∀b,H1 b=bb->b<w1.heap.size
 env:w1.os=w.os
 EX:H1.EX=bc/\H.EX=bc
 bl:H1.bl=bb
def mt (hb:BB g.L.fn=bb)(k:LC P.a SB zZ H H1 K g w w1)(h:FV P SB H zZ BB T β g G):FV P SB H1 zZ BB T (cut K β) g G:=by
 obtain⟨T1,hc⟩:=k.callers;exact⟨.on ((h.top.IZ hb).cut k.bl k.top),h.callers.cut k.bl hc,h.status,h.dying,h.offers⟩
def mu (k:LC P.a SB zZ H H1 K g w w1)(h:EA (SP SB H) (CK P.a SB zZ) Gn β w W):EA (SP SB H1) (CK P.a SB zZ) Gn (cut K β) w1 W:=by
 refine⟨⟨λa b=>h.Fl.fn a.2 b.2,λa b=>h.Fl.inj a.2 b.2,λa=>h.Fl.lo a.2⟩,⟨AX h.room.1 k.size,h.room.2⟩,λb B hb hh=>?_,λb B hb hh=>?_,k.old,by rw[k.env];exact h.env⟩
 .obtain⟨h0,o,e1,e2,e3⟩:=k.FD b hb.1 hh;obtain⟨o',O,q1,q2,q3⟩:=h.FD b B hb.2 h0;refine⟨o,O,e1,q2,?_⟩;obtain e3|⟨c,t,f,f1,e3,rfl,e4⟩:=e3
  .rw[q1] at e3;cases e3;exact q3.cut k.bl e2
  .rw[q1] at e3;cases e3;exact(q3.QG e4).cut k.bl e2
 .obtain⟨e1,e2⟩:=k.FU b hb.1 hh;refine⟨e1,λ_=>?_,λe=>?_⟩
  .obtain e2|⟨c,t,f,e2⟩:=e2
   .exact(h.FU b B hb.2 e2).2.1 k.EX.2
   .cases h0:H b with
    |true=>exact(h.FU b B hb.2 h0).2.1 k.EX.2
    |false =>
     obtain⟨o',O,q1,q2,q3⟩:=h.FD b B hb.2 h0;rw[q1] at e2;cases e2;cases q3 with
     |cells _ _=>exact⟨_,_,_,q2⟩
  .have:=k.EX.1;have e':H1.EX=true:=e;rw[this] at e';cases e'
end
def Dd:Hid:=⟨λ_=>bc,bc,bc⟩
section
variable {P:bs} {SB:bo->Bool} {H:Hid} {G:Nat}
def IC (b:bn)(k:List cu)(cs:List bn)(N:Exit->Act->J->Prop)(g:Y)(w:J):Prop :=
 ∃a' w0,Ek w0 w/\((N .normal a' w0/\g=ER (b.at a' k) cs)\/(N .ret a' w0/\∃todo,g=ER { b.at a' todo with mode:=.returning } cs))
def IC.same {b:bn}{k:List cu}{cs:List bn}{N:Exit->Act->J->Prop}(g:Y)(w W:J)(h:Ek w W)(q:IC b k cs N g w):IC b k cs N g W:=by
 obtain⟨a',w0,h1,h2⟩:=q;exact⟨a',w0,h1.trans h,h2⟩
def Mw (L:Lib (Er.of P) SB H bc SB G){b:bn}{a:Act}{c:ew}{k:List cu}{cs:List bn}{w:J}{N:Exit->Act->J->Prop}(zU:cs≠[])(hs:Self P SB H G (ER (b.at a (.code c::k)) cs) w)
  (h:∀τ d,c.wp P (λe a' w'=>(e=.normal\/e=.ret)/\N e a' w') a (on w τ d)):D9 P (Self P SB H G) (IC b k cs N) (ER (b.at a (.code c::k)) cs) w:=by
 refine fe L IC.same ⟨hs,λτ d=>?_⟩;obtain⟨e,a',w',⟨he,hn⟩,a6⟩:=h τ d b k cs;obtain rfl|rfl:=he
 .obtain⟨n,hr⟩:=a6;exact dh L (hs.same Dc) hr zU ⟨a',w',⟨rfl,rfl,rfl⟩,.inl ⟨hn,rfl⟩⟩
 .obtain⟨todo,n,hr⟩:=a6;exact dh L (hs.same Dc) hr zU ⟨a',w',⟨rfl,rfl,rfl⟩,.inr ⟨hn,todo,rfl⟩⟩
end
section
variable {P:Er} {Ep BC BB:bo->Bool} {G:Nat} {Q:Y->J->Prop}
structure Mx (P:Er)(Ep BC BB:bo->Bool)(G:Nat):Prop where
 la:Lib (Er.of P.a) Ep Dd bc Ep G
 lc:Lib P Ep Dd bc BC G
 ref:kz P Ep BC
 sub:∀f,Ep f=bb->BB f=bb
def vK {K0:Nat->Prop}{w:J}{Ck:ew->Prop}(a6:∀b,K0 b->G<=b)(hroom:G<=w.heap.size)(a7:∀b,K0 b->∃o,w.heap[b]?=bh o/\EP (SP Ep Dd) Ck (EI K0) o o):EA (SP Ep Dd) Ck G (EI K0) w w:=by
 refine⟨⟨λh1 h2=>h1.2.LT.trans h2.2,λh1 h2=>h1.2.trans h2.2.LT,λ{b B} h=>⟨a6 b h.1,h.2▸a6 b h.1⟩⟩,⟨hroom,hroom⟩,λb B hb _=>?_,λb B _ hh=>(by cases hh),λb hh=>(by cases hh),rfl⟩;obtain⟨hb,rfl⟩:=hb;obtain⟨o,h1,h2⟩:=a7 b hb;exact⟨o,o,h1,h1,h2⟩
def Mx.run (B:Mx P Ep BC BB G){Qa:Y->J->Prop}{fr:bn}{C:bn}{cs:List bn}{K0:Nat->Prop}{w:J}{F:bn}(ha:Ga (Er.of P.a) Ep Dd bc Ep (EI K0) fr fr)(hc:Ga P Ep Dd bc BC (EI K0) fr F)
  (a7:∀b,K0 b->G<=b) (hroom:G<=w.heap.size) (a6:∀b,K0 b->∃o,w.heap[b]?=bh o/\EP (SP Ep Dd) (CK P.a Ep bc) (EI K0) o o)
  (h:Self P.a Ep Dd G (ER fr [bad]) w->D9 P.a (Self P.a Ep Dd G) Qa (ER fr [bad]) w) :
  D9 P.b (E7 P.b BB) (λa8 w'=>∃g' w0 DZ,Qa g' w0/\Ek w0 w'/\KX Dd DZ/\FV P Ep Dd bc BC (C::cs) DZ g' a8/\EA (SP Ep Dd) (CK P.a Ep bc) G DZ w0 w0) (ER F (C::cs)) w:=by
 have hi:KX Dd (EI K0):=⟨rfl,λ_ _ h=>h.2⟩;have hw:=vK (Ck:=CK P.a Ep bc) a7 hroom a6;have hs:Self P.a Ep Dd G (ER fr [bad]) w:=⟨_,hi,⟨ha,.base,⟨rfl,rfl⟩,⟨rfl,rfl⟩,⟨rfl,rfl⟩⟩,hw⟩;exact(h hs).swap B.lc B.ref B.sub hi ⟨hc,.base,⟨rfl,rfl⟩,⟨rfl,rfl⟩,⟨rfl,rfl⟩⟩ hw
def Mx.fn (B:Mx P Ep BC BB G){f:bo}(hf:Ep f=bb)(a7:BC f=bb){K0:Nat->Prop}{w:J}{args:Array bW}{C:bn}{cs:List bn}(zU:cs≠[])
  (aB:∀b,K0 b->G<=b) (hroom:G<=w.heap.size) (a6:D6 (SP Ep Dd) (EI K0) args args)
  (aA:∀b,K0 b->∃o,w.heap[b]?=bh o/\EP (SP Ep Dd) (CK P.a Ep bc) (EI K0) o o)
  (hQ:∀g w W,Ek w W->Q g w->Q g W) {R:bW->J->Prop}
  (hc:∀τ d,Calls P.a f args (on w τ d) (λe w'=>∃v,e=.L v/\R v w'))
  (h:∀v w',R v w'->D9 P.b (E7 P.b BB) Q (ER (C.finish v) cs) w') :
  D9 P.b (E7 P.b BB) Q (ER (bA P.b f args .normal) (C::cs)) w:=by
 have h1:=B.run (C:=C) (cs:=cs) (E4 B.la (.inl hf) a6 .normal (by decide)) (E4 B.lc (.inl hf) a6 .normal (by decide)) aB hroom aA λhs=>Ia B.la hs hc;refine h1.bind λg2 w' hq=>?_;obtain⟨g',w0,DZ,q1,q2,q3,q4,q5⟩:=hq;have aC:=q1;obtain⟨wl,vl,fr,l1,l2,l3,l4,l5⟩:=aC;have aD:BB g'.L.fn=true:=B.sub _ (by rw[l3];show Ep fr.fn=bb;rw[l4];exact hf);have a8:=q4.top.IZ (by rw[l3];show BC fr.fn=bb;rw[l4];exact a7)
 have eF:g'.L=g2.L:=Ej.id (P:=Er.of P.a) q3 a8;refine D9.step ⟨by rw[<-eF];exact aD,λo ho=>?_⟩ λτ d=>?_
 .rw[<-eF] at ho;exact cC a8 (λf h=>(B.lc.nm f h).2) (λ_=>rfl) o ho
 .have hw':EA (SP Ep Dd) (CK P.a Ep bc) G DZ w0 (on w' τ d):=q5.same rfl q2.1 (by rw[show(on w' τ d).os=w'.os from rfl,q2.2.1]);obtain⟨v,wa,wb,V,W',ES,aF,e1,e2,e3,e4,e5,e6⟩:=leave (P:=P) B.lc (main2:=bb) q1 a7 q4 hw';obtain⟨i1,i2⟩:=e6.same q3 q2.1.LT;have eV:=e5.id i1;subst eV;refine⟨_,W',ES,e4,zU,(h v wa e2).same (λ_ _ _ _ x=>x) hQ ⟨?_,?_,?_⟩⟩
  .rw[<-i2,e3.1,<-e1.1]
  .rw[e6.OS,show(on w' τ d).os=w'.os from rfl,q2.2.1,e1.2.1]
  .rw[e6.OUT,show(on w' τ d).output=w'.output from rfl,q2.2.2,e1.2.2]
end
def Fatal:Halt->Prop
 |.stuck _=>True
 |.unsupported u=>∀g,u≠.initOrder g
 |_=>False
def GN {α:Type}:Result α->Prop
 |.halt h _=>Fatal h
 |_=>False
section
variable {p:bs}
def OU {c:bo} {fc:kq} (hf:p.L[c]?=bh fc) (hname:(fc.name == "runtime.NumGoroutine")=bc) (hb:fc.body.L=bb) (hn:cU fc=b8) (he:e8 fc=bh (cd (.int .i32)))
  {a:eT} {w:J} {x y:Int} (h1:∃s,w.farLoad p a bb=.error (.stuck s)) (h2:∀t u,w.heap[a.Lo]?≠bh (.view t u)) :
  (∃z,w.L a=bh (.int .i32 z)/\w.H a=bc)\/GN ((gR c #[.S (bh a),.int .i32 x,.int .i32 y]).run p w):=by
 obtain⟨s,h1⟩:=h1;rw[run_callFunc_extern hf hname hb hn he]
 have e0:(cd (.int .i32) #[.S (bh a),.int .i32 x,.int .i32 y])=(do
  let a'<-asAddr (.S (bh a))
  if<-bk a' then b9 (.unsafePointer "a write to bytes that a string shares")
  let eq<-match Extern.Atomic.T.int .i32,<-bq (.int .i32) a',Value.int .i32 x with
   |_,.int _ x,.int _ y=>pure (x==y)
   |.ptr,.S x,.S y=>samePointer x y
   |.int _,.S (bh _),.int _ 0|.int _,.int _ 0,.S (bh _)=>pure bc
   |.int _,.S (bh _),_|.int _,_,.S (bh _)=>b9 .L
   |_,_,_=>stuck "atomic.CompareAndSwap: old is no T"
  if eq then store a' (.int .i32 y) .atomic
  pure (eC eq)):=rfl
 rw[e0];by_cases hv:∃o,w.T a.Lo=b8/\w.heap[a.Lo]?=o/\(o=b8\/∃c t f,o=bh (.cells c t f))
 .obtain⟨o,q1,q2,q3⟩:=hv;refine .inr ?_;obtain rfl|⟨c,t,f,rfl⟩:=q3
  .simp[bk,asAddr,viewAt,shape,getObj,cw,q1,q2,b6,GN,Fatal,stuck,b9]
  .simp[bk,asAddr,viewAt,shape,getObj,cw,q1,q2,b6,GN,Fatal,stuck,b9]
 have a6:(viewAt a.Lo).run p w=.ok b8 w:=by
  cases hs:w.T a.Lo with
  |some z=>simp[viewAt,shape,cw,hs,b6]
  |none =>
   cases ho:w.heap[a.Lo]? with
   |none=>exact AH ⟨_,hs,ho,.inl rfl⟩ hv
   |some o =>
    cases o with
    |cells c t f=>exact AH ⟨_,hs,ho,.inr ⟨_,_,_,rfl⟩⟩ hv
    |view t u=>exact AH ho (h2 t u)
    |_=>simp[viewAt,shape,getObj,cw,hs,ho,b6]
 cases hz:w.H a with
 |true=>exact .inr (by simp[bk,asAddr,a6,hz,frozen,cw,b6,GN,Fatal,stuck,b9])
 |false =>
  cases hc:w.L a with
  |none =>
   have hl:(load a .atomic).run p w=.halt (.stuck s) w:=by
    have:(fo==fo)=true:=rfl;simp[load,cw,hc,this,h1]
   exact .inr (by simp[bk,bq,asAddr,a6,hz,frozen,cw,hl,b6,GN,Fatal,stuck,b9])
  |some v =>
   have hl:(load a .atomic).run p w=.ok v w:=by simp[load,cw,hc]
   cases v with
   |int k z =>
    by_cases hk:k=.i32
    .subst hk;exact .inl ⟨z,rfl,rfl⟩
    .have a7:¬IntKind.i32=k:=λe=>hk e.LT;exact .inr (by simp[bk,bq,asAddr,a6,hz,frozen,cw,hl,a7,b6,GN,Fatal,stuck,b9])
   |pointer q=>cases q<;>exact .inr (by simp[bk,bq,asAddr,a6,hz,frozen,cw,hl,b6,GN,Fatal,stuck,b9])
   |_=>exact .inr (by simp[bk,bq,asAddr,a6,hz,frozen,cw,hl,b6,GN,Fatal,stuck,b9])
def jJ {main:Bool}{b:bn}{a:Act}{ops:Array cK}{i:Nat}{rest:List Nat}{k:List cu}{cs:List bn}{w:J}{o:cK}(ho:ops[i]?=bh o)(hw:b7 o (yielded ops a.tmps)=bb)(hk:b.kind≠.early)
  (h:GN ((e9 a.eval o).run p w)) {g':Y} {w':J} {es:Array ed}:bD p main (ER (b.at a (.inRegion ops (i::rest)::k)) cs) w≠.go g' w' es:=by
 intro e;have e':=(stepG_oper (P:=p) (main:=main) (b:=b) (a:=a) (k:=k) (cs:=cs) (w:=w) ho hw).LT.trans e;have a6:(b.kind==CallKind.early)=false:=by simpa using hk
 unfold cE at e';rw[<-gl p _ w #[]] at h;simp only[if_true,Frame.at,a6,Ba,if_false] at e';revert e' h;obtain⟨r,es⟩:=(e9 a.eval o).L p w #[];intro h e';cases r with
 |ok v w'=>exact h.elim
 |halt x w' =>
  cases x with
  |stuck s=>cases e'
  |unsupported u =>
   cases u with
   |initOrder g=>exact AH rfl (h g)
   |_=>cases e'
  |_=>exact h.elim
structure LD (p:bs)(f:bo)(x y:Int)(fn:kq)(r:Nat)(o1 o2:cK)(s:String):Prop where
 func:p.L[f]?=bh fn
 text:fn.body=bh (.seq (.L r #[o1,o2] bc) (.cond (.tmp 1) .ret (.refuse s)))
 room:3<=fn.ntmps
 res:fn.results=#[]
 free:o1.guard=b8/\o1.dst=bh 2/\o2.guard=b8/\o2.dst=bh 1
 one:∀(a:Act) w,(∃q,a.eval (.tmp 0)=.S (bh q)/\(e9 a.eval o1).run p w=.ok (.value (.S (bh q))) w)\/GN ((e9 a.eval o1).run p w)
 two:∀(a:Act) q w,a.eval (.tmp 2)=.S (bh q)->(∃s,w.farLoad p q bb=.error (.stuck s))->(∀t u,w.heap[q.Lo]?≠bh (.view t u)) ->
  (∃z,w.L q=bh (.int .i32 z)/\w.H q=bc/\(z=x->(e9 a.eval o2).run p w=.ok (.value (.bool bb)) (w.LE q (.int .i32 y)))/\(z≠x->(e9 a.eval o2).run p w=.ok (.value (.bool bc)) w))\/GN ((e9 a.eval o2).run p w)
variable {f:bo} {x y:Int} {fn:kq} {r:Nat} {o1 o2:cK} {s:String} {args:Array bW} {k:kx} {cs:List bn} {w:J}
def nR (h:LD p f x y fn r o1 o2 s):bA p f args k={ base f with kind:=k }.at { tmps:=args++iv (fn.ntmps-args.size) undef,defers:=[] } [.code (.seq (.L r #[o1,o2] bc) (.cond (.tmp 1) .ret (.refuse s)))]:=by
 simp[bA,Frame.at,h.func,h.text,base]
def bg {o:cK}{ops:Array cK}{t:Array bW}(h:o.guard=b8):b7 o (yielded ops t)=true:=by unfold b7;rw[h]
def KC (h:LD p f x y fn r o1 o2 s)(hk:k≠.early){Ev Qa:Y->J->Prop}(hE:∀g w W,Ek w W->Ev g w->Ev g W)(hQ:∀g w W,Ek w W->Qa g w->Qa g W)(hC:∀g w,g.L.fn=f->¬Qa g w)
  (aA:∀q,args[0]?=bh (.S (bh q))->(∃s,w.farLoad p q bb=.error (.stuck s))/\∀t u,w.heap[q.Lo]?≠bh (.view t u))
  (hr:D9 p Ev Qa (ER (bA p f args k) cs) w) :
  ∃q fr,args[0]?=bh (.S (bh q))/\w.L q=bh (.int .i32 x)/\w.H q=bc/\fr.fn=f/\fr.kind=k/\fr.mode=.returning/\fr.defers=[] /\
   Walk p (λg=>∀w,¬Qa g w) (ER (bA p f args k) cs) w (ER fr cs) (w.LE q (.int .i32 y)):=by
 rw[nR h] at hr ⊢;generalize hT:args++iv (fn.ntmps-args.size) undef=T at hr ⊢;have hTs:3<=T.size:=by rw[<-hT];simp;have:=h.room;omega
 generalize hb:({ base f with kind:=k }:bn)=b at hr ⊢;have a6:b.kind≠.early:=by rw[<-hb];exact hk
 have hbf:b.fn=f:=by rw[<-hb];rfl
 obtain⟨f1,f2,f3,f4⟩:=h.free;have C:∀(a:Act) t,∀w,¬Qa (ER (b.at a t) cs) w:=λa t w=>hC _ _ hbf;have w2 : ∀ {w2 : J} {g2 : Y}, Walk p (fun g => ∀ w, ¬ Qa g w) (ER (b.at ⟨T, []⟩ [.inRegion #[o1, o2] [0, 1], .code (.cond (.tmp 1) .ret (.refuse s))]) cs) w g2 w2 ->
   Walk p (λg=>∀w,¬Qa g w) (ER (b.at ⟨T,[]⟩ [.code (.seq (.L r #[o1,o2] bc) (.cond (.tmp 1) .ret (.refuse s)))]) cs) w g2 w2:=λz =>
  .step (C _ _) stepG_seq (.step (C _ _) stepG_region z)
 have zz:=hr.descend hE hQ (λg w c=>c w) ⟨rfl,rfl,rfl⟩ (w2 .refl);obtain⟨q,q1,q2⟩|a7:=h.one ⟨T,[]⟩ w
 rotate_left
 .exfalso;cases zz with
  |fin h=>exact C _ _ _ h
  |next ng nw _ h2 _ =>
   obtain⟨⟨es,e⟩,_⟩:=h2 w.tape w.drawn;exact jJ (o:=o1) rfl (bg f1) a6 a7 e
 have hq:args[0]?=bh (.S (bh q)):=by
  have e0:T.LE 0 undef=.S (bh q):=q1;rw[<-hT] at e0;by_cases hz:0<args.size
  .have h9:0<args.size+(fn.ntmps-args.size):=by omega
   simpa [eG,Array.getElem_append,hz,h9] using e0
  .exfalso;have:args=#[]:=Array.eq_empty_of_size_eq_zero (by omega);subst this;simp[eG] at e0;simp[undef] at e0
 obtain⟨n1,n2⟩:=aA q hq;have e2:bD p bb (ER (b.at ⟨T,[]⟩ [.inRegion #[o1,o2] [0,1],.code (.cond (.tmp 1) .ret (.refuse s))]) cs) w=.go (ER (b.at ((Act.mk T []).put o1.dst (.S (bh q))) [.inRegion #[o1,o2] [1],.code (.cond (.tmp 1) .ret (.refuse s))]) cs) w (listed p b.fn ⟨T,[]⟩ o1 w) :=
  fl (o:=o1) rfl (bg f1) a6 q2
 rw[f2] at e2;generalize hA:(Act.mk T []).put (bh 2) (.S (bh q))=A at e2;have zj:A.eval (.tmp 2)=.S (bh q):=by
  rw[<-hA];show(T.L 2 _).LE 2 undef=_;have:2<T.size:=hTs;simp[eG,this]
 have hAd:A.defers=[]:=by rw[<-hA];rfl
 have aB:A.tmps.size=T.size:=by rw[<-hA];exact Array.size_setIfInBounds
 have hr3:=zz.descend (C:=λg=>∀w,¬Qa g w) hE hQ (λg w c=>c w) ⟨rfl,rfl,rfl⟩ (.step (C _ _) e2 .refl);obtain⟨z,z1,z2,z3,z4⟩|a7:=h.two A q w zj n1 n2
 rotate_left
 .exfalso;cases hr3 with
  |fin h=>exact C _ _ _ h
  |next ng nw _ h2 _ =>
   obtain⟨⟨es,e⟩,_⟩:=h2 w.tape w.drawn;exact jJ (o:=o2) rfl (bg f3) a6 a7 e
 have hT1:∀v,(A.put (bh 1) v).eval (.tmp 1)=v:=λv=>by
  show(A.tmps.L 1 v).LE 1 undef=v;have:1<A.tmps.size:=by rw[aB];omega
  simp[eG,this]
 by_cases a8:z=x
 .have e3 : bD p bb (ER (b.at A [.inRegion #[o1, o2] [1], .code (.cond (.tmp 1) .ret (.refuse s))]) cs) w = .go (ER (b.at (A.put o2.dst (.bool bb)) [.inRegion #[o1, o2] [], .code (.cond (.tmp 1) .ret (.refuse s))]) cs) (w.LE q (.int .i32 y)) (listed p b.fn A o2 w) :=
   fl (o:=o2) rfl (bg f3) a6 (z3 a8)
  rw[f4] at e3;subst a8;refine⟨q,_,hq,z1,z2,?_,?_,?_,?_,w2 (.step (C _ _) e2 (.step (C _ _) e3 (.step (C _ _) gU (.step (C _ _) (stepG_cond (t:=bb) (hT1 _)) (.step (C _ _) stepG_ret' .refl)))))⟩
  .exact hbf
  .show b.kind=k;rw[<-hb]
  .rfl
  .exact hAd
 .exfalso;have e3:bD p bb (ER (b.at A [.inRegion #[o1,o2] [1],.code (.cond (.tmp 1) .ret (.refuse s))]) cs) w=.go (ER (b.at (A.put o2.dst (.bool bc)) [.inRegion #[o1,o2] [],.code (.cond (.tmp 1) .ret (.refuse s))]) cs) w (listed p b.fn A o2 w) :=
   fl (o:=o2) rfl (bg f3) a6 (z4 a8)
  rw[f4] at e3;have hr4:=hr3.descend (C:=λg=>∀w,¬Qa g w) hE hQ (λg w c=>c w) ⟨rfl,rfl,rfl⟩ (.step (C _ _) e3 (.step (C _ _) gU (.step (C _ _) (stepG_cond (t:=bc) (hT1 _)) .refl)));cases hr4 with
  |fin h=>exact C _ _ _ h
  |next ng nw _ h2 _ =>
   obtain⟨⟨es,e⟩,_⟩:=h2 w.tape w.drawn;simp[bD,lh,Frame.at,k5] at e
end
def mv {p:bs}{main:Bool}{fr:bn}{cs:List bn}{w:J}{fn:kq}(hm:fr.mode=.returning)(hd:fr.defers=[])(hf:p.L[fr.fn]?=bh fn)(hr:fn.results=#[]) :
  bD p main (ER fr cs) w=cq #[] (e7 p main fr cs b8 (.tuple #[]) w):=by
 obtain⟨f1,tmps,todo,defers,mode,kind,round⟩:=fr;dsimp only at hm hd hf;subst hm hd;unfold bD ER;dsimp only;unfold unwind;dsimp only;rw[hf];dsimp only;have e:(results fn tmps).L p w #[]=(.ok (.tuple #[]) w,#[]):=Prod.ext ((gl ..).trans (results_none hr _ _ _)) (events_results_none hr _ _);rw[e];simp only[j2]
section
variable {S:Fu} {Ck:ew->Prop} {G:Nat} {β:Ef}
def tE {w:J}(hw:EA S Ck G β w w)(hi:β.NM){q:eT}{u:bW}(hc:w.L q=bh u){v:bW}(hv:DX S β v v):EA S Ck G β (w.LE q v) (w.LE q v):=by
 have a6:∀b,b=q.Lo->w.heap[b]?≠bh (.coro b8):=by
  intro b e h;subst e;unfold cA at hc;rw[h] at hc;cases hc
 refine⟨hw.Fl,by rw[bj];exact hw.room,λb B hb hh=>?_,λb B hb hh=>?_,λb hb=>by rw[bj];exact hw.old b hb,rfl⟩
 .obtain⟨o,O,k1,k2,k3⟩:=hw.FD b B hb hh;have:=hi _ _ hb;subst this;rw[k1] at k2;cases k2;rw[EC];by_cases e:b=q.Lo
  .rw[AJ e,k1];refine⟨_,_,rfl,rfl,?_⟩;cases k3 with
   |@cells c C t f F h1 h2 =>
    simp only[IB];split
    .exact .cells h1 h2
    .exact .cells (h1.SS _ hv) h2
   |loop a b c d e f=>exact .loop a b c d e f
   |number o s l h=>exact .number o s l h
   |taken=>exact .taken
   |defs h=>exact .defs h
  .rw[AE e];exact⟨_,_,k1,k1,k3⟩
 .have:=hi _ _ hb;subst this;have h:=hw.FU _ _ hb hh;rw[EC];by_cases e:b=q.Lo
  .exact AH h.1 (a6 _ e)
  .rw[AE e];exact h
end
def Walk.split {p:bs}{C:Y->Prop}{g1 g2:Y}{w1 w2:J}(h:Walk p C g1 w1 g2 w2):(g1=g2/\w1=w2)\/∃g w es,C g1/\bD p bb g1 w1=.go g w es/\Walk p C g w g2 w2:=by
 cases h with
 |refl=>exact .inl ⟨rfl,rfl⟩
 |step c e k=>exact .inr ⟨_,_,_,c,e,k⟩
def Walk.trans {p:bs}{C:Y->Prop}{g1 g2 g3:Y}{w1 w2 w3:J}(h:Walk p C g1 w1 g2 w2)(k:Walk p C g2 w2 g3 w3):Walk p C g1 w1 g3 w3:=by
 induction h with
 |refl=>exact k
 |step c e _ ih=>exact .step c e (ih k)
section
variable {P:Er} {Ep BC BB:bo->Bool} {H:Hid} {G:Nat}
def Held (p:bs)(BB:bo->Bool)(f:bo)(x y:Int):Prop:=∀(args:Array bW) (q:eT) (k:kx) (cs:List bn) (w:J),k≠.early->cs≠[]->args[0]?=bh (.S (bh q))->w.L q=bh (.int .i32 x)->w.H q=bc ->
 EL p BB (λg W=>Ek (w.LE q (.int .i32 y)) W/\∃fr,g=ER fr cs/\fr.fn=f/\fr.kind=k/\fr.mode=.returning/\fr.defers=[]/\fr.oper?=b8) 0 (ER (bA p f args k) cs) w
def LF (P:Er)(BB:bo->Bool)(f:bo):Prop:=∃x y fn r o1 o2 s G2,LD P.a f x y fn r o1 o2 s/\Held P.b BB f x y/\P.fs[f]?=bh G2/\G2.results=#[]
def mw (P:Er)(Ep BC BB:bo->Bool):Prop:=∀f,Ep f=bb\/aK Ep f=bb->BC f=bc->(∃fn s,P.a.L[f]?=bh fn/\fn.body=bh (.refuse s))\/LF P BB f
def Jy (P:Er)(Ep BC:bo->Bool)(H:Hid)(G:Nat)(T:List bn)(Qa:Y->J->Prop)(a6:Y)(w':J):Prop :=
 ∃g' w0 DZ,Qa g' w0/\Ek w0 w'/\KX H DZ/\FV P Ep H bc BC T DZ g' a6/\EA (SP Ep H) (CK P.a Ep bc) G DZ w0 w0
def Jy.same {T:List bn}{Qa:Y->J->Prop}(g:Y)(w W:J)(s:Ek w W)(x:Jy P Ep BC H G T Qa g w):Jy P Ep BC H G T Qa g W:=by
 obtain⟨g1,w0,a6,x1,x2,x3⟩:=x;exact⟨g1,w0,a6,x1,x2.trans s,x3⟩
def D9.QH (Lc:Lib P Ep H bc BC G)(zG:mw P Ep BC BB)(hb:∀f,Ep f=bb->BB f=bb){Qa:Y->J->Prop}(hQ:∀g w W,Ek w W->Qa g w->Qa g W)(aS:∀g w f,Qa g w->BC f=bc->LF P BB f->g.L.fn≠f)(hE:∀g w W,Ek w W->Self P.a Ep H G g w->Self P.a Ep H G g W)
  {c:bn} {cs:List bn} {g:Y} {w:J} (h:D9 P.a (Self P.a Ep H G) Qa g w) :
  ∀ {g':Y} {w1 w':J},Ek w w1->Walk P.a (λg=>∀w,¬Qa g w) g w1 g' w'->∀ {β:Ef} {g2:Y},KX H β->FV P Ep H bc BC (c::cs) β g' g2->EA (SP Ep H) (CK P.a Ep bc) G β w' w' ->
  EL P.b BB (Jy P Ep BC H G (c::cs) Qa) 0 g2 w':=by
 induction h with
 |@fin g w hq =>
  intro g' w1 w' hs hk β g2 hi hg hw;cases hk with
  |refl=>exact .fin ⟨_,_,_,hQ _ _ _ hs hq,⟨rfl,rfl,rfl⟩,hi,hg,hw⟩
  |step hc _ _=>exact AH hq (hc w)
 |@next g w ng nw h1 h2 h3 ih =>
  intro g' w1 w' hs hk β g2 hi hg hw;cases hk with
  |step hc e aT =>
   obtain⟨⟨es',e'⟩,_⟩:=h2 w1.tape w1.drawn;rw[<-hs.eq,e] at e';cases e';exact ih _ _ ⟨rfl,rfl,rfl⟩ aT hi hg hw
  |refl =>
  have eon:∀τ n,on w1 τ n=on w τ n:=λτ n=>by rw[hs.eq];rfl
  have zA:D9 P.a (Self P.a Ep H G) Qa g w1:=(D9.next ng nw h1 h2 h3).same hE hQ hs;have aJ:∀τ n,(∃es,bD P.a bb g (on w1 τ n)=.go (ng τ n) (nw τ n) es)/\(ng τ n).callers≠[]:=λτ n=>by rw[eon];exact h2 τ n
  have ih':∀τ n {g':Y} {w2 w':J},Ek (nw τ n) w2->Walk P.a (λg=>∀w,¬Qa g w) (ng τ n) w2 g' w'->∀ {β:Ef} {g2:Y},KX H β->FV P Ep H bc BC (c::cs) β g' g2->EA (SP Ep H) (CK P.a Ep bc) G β w' w' ->
   EL P.b BB (Jy P Ep BC H G (c::cs) Qa) 0 g2 w':=λτ n=>ih τ n
  have eg:=hg.ER;have aC:=hg.top;have zW:=hg.callers;have e2:g2=ER g2.L g2.callers:=by
   obtain⟨x1,x2,x3,x4,x5⟩:=g2;obtain⟨_,_,⟨_,s1⟩,⟨_,d1⟩,⟨_,o1⟩⟩:=hg;dsimp only at *;subst s1 d1 o1
   rfl
  generalize hf:g.L=fr at aC eg;generalize hF:g2.L=FR at aC e2;generalize g.callers=a7 at eg zW;generalize g2.callers=a6 at e2 zW;subst eg e2;cases aC with
  |on a8 =>
   have eF:fr=FR:=Ej.id (P:=Er.of P.a) hi a8
   have aL:E7 P.b BB (ER FR a6) w1:=⟨by show BB FR.fn=bb;rw[<-eF];exact hb _ a8.late.2,λo ho=>by
    have aA:FR.oper?=bh o:=ho;rw[<-eF] at aA
    exact cC a8 (λf h=>(Lc.nm f h).2) (λ_=>rfl) o aA⟩
   refine EL.step aL λτ d=>?_;obtain⟨⟨es,e⟩,hn⟩:=aJ τ d;have hw':EA (SP Ep H) (CK P.a Ep bc) G β (on w1 τ d) (on w1 τ d):=hw.same rfl rfl rfl;have:=dL (P:=P) (main:=bb) (main2:=bb) Lc hg a8 (λ_=>rh a8) hw' (n:=(nw τ d).drawn) (λ_ _ _=>rfl) (by rw[e];exact C3 _ _);rw[e] at this;obtain⟨h0,_⟩|⟨DZ,aD,W',ES,k1,k2,k3⟩:=this
   .exact AH h0 hn
   obtain⟨i1,i2⟩:=k3.same hi rfl;have hr:=ih' τ d ⟨rfl,rfl,rfl⟩ .refl i1 k2 (k3.rel.same rfl i2 rfl);refine⟨aD,W',ES,k1,lX k2.callers,hr.same Jy.same ⟨i2.LT,?_,?_⟩⟩
   .rw[k3.OS,k3.os]
   .rw[k3.OUT,k3.out]
  |@stop f a A k s1 s2 s3 s4 =>
   have eA:a=A:=s4.id hi;subst eA;obtain⟨fn,s,q1,q2⟩|⟨x,y,fn,r,o1,o2,s,G2,hp,aF,hf',aN⟩:=zG f s1 s2
   .exfalso;obtain⟨⟨es,e⟩,_⟩:=aJ w1.tape w1.drawn;exact i4 q1 q2 _ _ _ _ _ e
   have s0:Ep f=true:=by
    obtain s1|s1:=s1
    .exact s1
    .exfalso;obtain⟨fn9,s9,z1,z2⟩:=Lc.bars f s1;rw[hp.func] at z1;cases z1;rw[hp.text] at z2;cases z2
   have aK:∀ww,EA (SP Ep H) (CK P.a Ep bc) G β ww ww->∀q:eT,a[0]?=bh (.S (bh q))->(∃s,ww.farLoad P.a q bb=.error (.stuck s))/\∀t u,ww.heap[q.Lo]?≠bh (.view t u):=by
    intro ww hw q hq;have hv:DX (SP Ep H) β (.S (bh q)) (.S (bh q)):=s4.at_ 0 _ _ hq hq;obtain⟨B,aG,hB⟩:=Lh hv;have hB2:q.Lo=B:=hi.2 _ _ aG;subst hB2;refine⟨(MQ (P:=P) hw ⟨aG,rfl,rfl⟩).1 bb,λt u hu=>?_⟩;cases hh:(SP Ep H).LT q.Lo with
    |true=>rw[(hw.FU _ _ aG hh).1] at hu;cases hu
    |false =>
     obtain⟨o,O,k1,k2,k3⟩:=hw.FD _ _ aG hh;rw[hu] at k1;cases k1;cases k3
   have aH:∀g w,g.L.fn=f->¬Qa g w:=λg w e hq=>aS g w f hq s2 ⟨x,y,fn,r,o1,o2,s,G2,hp,aF,hf',aN⟩ e;obtain⟨q,fr,hq,hc,hz,_⟩:=KC hp s3 hE hQ aH (aK _ hw) zA;have hCS:a6≠[]:=lX zW;have aQ:a7≠[]:=by cases zW<;>simp
   refine((aF a q k a6 w1 s3 hCS hq hc hz).bind λgB WB hB=>?_);obtain⟨hs2,FR,rfl,t1,t2,t3,t4,t5⟩:=hB
   refine EL.step ⟨by show BB FR.fn=bb;rw[t1];exact hb f s0,λo ho=>by
    have aA:FR.oper?=bh o:=ho
    rw[t5] at aA;cases aA⟩ λτ n=>?_
   have aO:EA (SP Ep H) (CK P.a Ep bc) G β (on w1 τ n) (on w1 τ n):=hw.same rfl rfl rfl;obtain⟨q',fr,hq',hc',hz',r1,r2,r3,r4,aI⟩:=KC hp s3 hE hQ aH (aK _ aO) (zA.same hE hQ Dc);have eq:q'=q:=by rw[hq] at hq';cases hq';rfl
   subst eq;have hw2:EA (SP Ep H) (CK P.a Ep bc) G β ((on w1 τ n).LE q' (.int .i32 y)) ((on w1 τ n).LE q' (.int .i32 y)):=tE aO hi.2 hc' (.int _ _);have aM:D9 P.a (Self P.a Ep H G) Qa (ER fr a7) ((on w1 τ n).LE q' (.int .i32 y)):=(zA.same hE hQ Dc).descend (C:=λg=>∀w,¬Qa g w) hE hQ (λg w c=>c w) ⟨rfl,rfl,rfl⟩ aI;have eWB:on WB τ n=(on w1 τ n).LE q' (.int .i32 y):=by rw[hs2.eq];rfl
   rw[eWB];cases aM with
   |fin h=>exact AH h (aH _ _ r1)
   |next ng2 nw2 _ h2b _ =>
    obtain⟨⟨es,e⟩,hn⟩:=h2b τ n;have aR:on ((on w1 τ n).LE q' (.int .i32 y)) τ n=(on w1 τ n).LE q' (.int .i32 y):=rfl;rw[aR] at e;have ea:=mv (main:=bb) (cs:=a7) (w:=(on w1 τ n).LE q' (.int .i32 y)) r3 r4 (by rw[r1];exact hp.func) hp.res;have eb:=mv (p:=P.b) (main:=bb) (cs:=a6) (w:=(on w1 τ n).LE q' (.int .i32 y)) t3 t4 (by rw[t1];exact hf') aN;have:=fd (P:=P) (BB:=BC) (main:=bb) (main2:=bb) (fr:=fr) (FR:=FR) (r2.trans t2.LT) (by rw[r2];exact s3) zW aQ (v:=.tuple #[]) (V:=.tuple #[]) (.tuple rfl (by simp)) (Fin.refl hw2) #[]
    rw[<-ea,e,<-show cq #[] (e7 P.b bb FR a6 b8 (.tuple #[]) ((on w1 τ n).LE q' (.int .i32 y)))=cq ([]:List ed).Li (e7 P.b bb FR a6 b8 (.tuple #[]) ((on w1 τ n).LE q' (.int .i32 y))) from rfl,<-eb] at this;obtain⟨h0,_⟩|⟨DZ,aD,W',ES,k1,k2,k3⟩:=this
    .exact AH h0 hn
    obtain⟨i1,i2⟩:=k3.same hi rfl;have hr:EL P.b BB (Jy P Ep BC H G (c::cs) Qa) 0 aD (nw2 τ n):=by
     have aB:Walk P.a (λg=>∀w,¬Qa g w) (ER fr a7) ((on w1 τ n).LE q' (.int .i32 y)) (ng2 τ n) (nw2 τ n):=.step (λw=>aH _ w r1) e .refl;have rel:=k3.rel.same rfl i2 rfl;obtain⟨e0,_⟩|⟨ga,wa,esa,_,e1,rest⟩:=aI.split
     .exfalso;have:=AZ (λg:Y=>g.L.mode) e0;rw[show(ER fr a7).L.mode=.returning from r3] at this;cases this
     .obtain⟨⟨aU,aP⟩,_⟩:=aJ τ n;rw[e1] at aP;cases aP;exact ih' τ n ⟨rfl,rfl,rfl⟩ (rest.trans aB) i1 k2 rel
    refine⟨aD,W',ES,k1,lX k2.callers,hr.same Jy.same ⟨i2.LT,?_,?_⟩⟩
    .rw[k3.OS,k3.os]
    .rw[k3.OUT,k3.out]
end
section
variable {P:Er} {Ep BC BB:bo->Bool} {H:Hid} {G:Nat} {Q:Y->J->Prop}
structure II (P:Er)(Ep BC BB:bo->Bool)(H:Hid)(G:Nat):Prop where
 la:Lib (Er.of P.a) Ep H bc Ep G
 lc:Lib P Ep H bc BC G
 ref:mw P Ep BC BB
 sub:∀f,Ep f=bb->BB f=bb
 nb:H.bl=bc
def tF {K0:Nat->Prop}{w:J}{Ck:ew->Prop}(a6:∀b,K0 b->G<=b)(hroom:G<=w.heap.size)(a7:∀b,K0 b->H b=bb->H.EX=bb/\w.heap[b]?=bh (.coro b8))(hold:∀b,H b=bb->b<w.heap.size)
  (a8:∀b,K0 b->H b=bc->∃o,w.heap[b]?=bh o/\EP (SP Ep H) Ck (EI K0) o o):EA (SP Ep H) Ck G (EI K0) w w:=by
 refine⟨⟨λh1 h2=>h1.2.LT.trans h2.2,λh1 h2=>h1.2.trans h2.2.LT,λ{b B} h=>⟨a6 b h.1,h.2▸a6 b h.1⟩⟩,⟨hroom,hroom⟩,λb B hb hh=>?_,λb B hb hh=>?_,hold,rfl⟩
 .obtain⟨hb,rfl⟩:=hb;obtain⟨o,h1,h2⟩:=a8 b hb hh;exact⟨o,o,h1,h1,h2⟩
 .obtain⟨hb,rfl⟩:=hb;obtain⟨h1,h2⟩:=a7 b hb hh;exact⟨h2,(λh=>AH (h1.LT.trans h) (by decide)),λ_=>h2⟩
def II.run (B:II P Ep BC BB H G){Qa:Y->J->Prop}(hQ:∀g w W,Ek w W->Qa g w->Qa g W)(a8:∀g w f,Qa g w->BC f=bc->LF P BB f->g.L.fn≠f){fr:bn}{C:bn}{cs:List bn}{K0:Nat->Prop}{w:J}{F:bn}(ha:Ga (Er.of P.a) Ep H bc Ep (EI K0) fr fr)(hc:Ga P Ep H bc BC (EI K0) fr F)
  (aA:∀b,K0 b->G<=b) (hroom:G<=w.heap.size) (a6:∀b,K0 b->H b=bb->H.EX=bb/\w.heap[b]?=bh (.coro b8)) (hold:∀b,H b=bb->b<w.heap.size) (a7:∀b,K0 b->H b=bc->∃o,w.heap[b]?=bh o/\EP (SP Ep H) (CK P.a Ep bc) (EI K0) o o)
  (h:Self P.a Ep H G (ER fr [bad]) w->D9 P.a (Self P.a Ep H G) Qa (ER fr [bad]) w) :
  EL P.b BB (Jy P Ep BC H G (C::cs) Qa) 0 (ER F (C::cs)) w:=by
 have hi:KX H (EI K0):=⟨B.nb,λ_ _ h=>h.2⟩;have hw:=tF (Ck:=CK P.a Ep bc) aA hroom a6 hold a7;have hs:Self P.a Ep H G (ER fr [bad]) w:=⟨_,hi,⟨ha,.base,⟨rfl,rfl⟩,⟨rfl,rfl⟩,⟨rfl,rfl⟩⟩,hw⟩;exact(h hs).QH B.lc B.ref B.sub hQ a8 (λ_ _ _ s h=>h.same s) ⟨rfl,rfl,rfl⟩ .refl hi ⟨hc,.base,⟨rfl,rfl⟩,⟨rfl,rfl⟩,⟨rfl,rfl⟩⟩ hw
def II.fn (B:II P Ep BC BB H G){f:bo}(hf:Ep f=bb)(a7:BC f=bb){K0:Nat->Prop}{w:J}{args:Array bW}{C:bn}{cs:List bn}(zU:cs≠[])
  (aC:∀b,K0 b->G<=b) (hroom:G<=w.heap.size) (a6:D6 (SP Ep H) (EI K0) args args)
  (aA:∀b,K0 b->H b=bb->H.EX=bb/\w.heap[b]?=bh (.coro b8)) (hold:∀b,H b=bb->b<w.heap.size) (aB:∀b,K0 b->H b=bc->∃o,w.heap[b]?=bh o/\EP (SP Ep H) (CK P.a Ep bc) (EI K0) o o)
  (hQ:∀g w W,Ek w W->Q g w->Q g W) {R:bW->J->Prop}
  (hc:∀τ d,Calls P.a f args (on w τ d) (λe w'=>∃v,e=.L v/\R v w'))
  (h:∀v w',R v w'->EL P.b BB Q 0 (ER (C.finish v) cs) w') :
  EL P.b BB Q 0 (ER (bA P.b f args .normal) (C::cs)) w:=by
 have h1:=B.run (Qa:=Left P.a f R) Left.same (λg w f' hl hf' _ e=>by
  obtain⟨_,_,fr,_,_,rfl,e2,_⟩:=hl;have e3:fr.fn=f':=e;rw[e2] at e3;rw[<-e3,a7] at hf'
  cases hf') (C:=C) (cs:=cs) (E4 B.la (.inl hf) a6 .normal (by decide)) (E4 B.lc (.inl hf) a6 .normal (by decide)) aC hroom aA hold aB λhs=>Ia B.la hs hc
 refine h1.bind λg2 w' hq=>?_;obtain⟨g',w0,DZ,q1,q2,q3,q4,q5⟩:=hq;have aD:=q1;obtain⟨wl,vl,fr,l1,l2,l3,l4,l5⟩:=aD;have aF:BB g'.L.fn=true:=B.sub _ (by rw[l3];show Ep fr.fn=bb;rw[l4];exact hf);have a8:=q4.top.IZ (by rw[l3];show BC fr.fn=bb;rw[l4];exact a7);have eF:g'.L=g2.L:=Ej.id (P:=Er.of P.a) q3 a8;refine EL.step ⟨by rw[<-eF];exact aF,λo ho=>?_⟩ λτ d=>?_
 .rw[<-eF] at ho;exact cC a8 (λf h=>(B.lc.nm f h).2) (λ_=>rfl) o ho
 .have hw':EA (SP Ep H) (CK P.a Ep bc) G DZ w0 (on w' τ d):=q5.same rfl q2.1 (by rw[show(on w' τ d).os=w'.os from rfl,q2.2.1]);obtain⟨v,wa,wb,V,W',ES,aG,e1,e2,e3,e4,e5,e6⟩:=leave (P:=P) B.lc (main2:=bb) q1 a7 q4 hw';obtain⟨i1,i2⟩:=e6.same q3 q2.1.LT;have eV:=e5.id i1;subst eV;refine⟨_,W',ES,e4,zU,(h v wa e2).same hQ ⟨?_,?_,?_⟩⟩
  .rw[<-i2,e3.1,<-e1.1]
  .rw[e6.OS,show(on w' τ d).os=w'.os from rfl,q2.2.1,e1.2.1]
  .rw[e6.OUT,show(on w' τ d).output=w'.output from rfl,q2.2.2,e1.2.2]
def II.fnK (B:II P Ep BC BB H G){f:bo}(hf:Ep f=bb)(a8:BC f=bb){K0:Nat->Prop}{w:J}{args:Array bW}{C:bn}{cs:List bn}(zU:cs≠[])
  (aG:∀b,K0 b->G<=b) (hroom:G<=w.heap.size) (a7:D6 (SP Ep H) (EI K0) args args)
  (aC:∀b,K0 b->H b=bb->H.EX=bb/\w.heap[b]?=bh (.coro b8)) (hold:∀b,H b=bb->b<w.heap.size) (aD:∀b,K0 b->H b=bc->∃o,w.heap[b]?=bh o/\EP (SP Ep H) (CK P.a Ep bc) (EI K0) o o)
  (hQ:∀g w W,Ek w W->Q g w->Q g W) {R:bW->J->Prop}
  (hc:∀τ d,Calls P.a f args (on w τ d) (λe w'=>∃v,e=.L v/\R v w'))
  (h:∀v w' (K':Nat->Prop),R v w'->DX (SP Ep H) (EI K') v v->(∀b,K' b->G<=b)->(∀b,K' b->H b=bc->∃o,w'.heap[b]?=bh o/\EP (SP Ep H) (CK P.a Ep bc) (EI K') o o)->EL P.b BB Q 0 (ER (C.finish v) cs) w') :
  EL P.b BB Q 0 (ER (bA P.b f args .normal) (C::cs)) w:=by
 have h1:=B.run (Qa:=Left P.a f R) Left.same (λg w f' hl hf' _ e=>by
  obtain⟨_,_,fr,_,_,rfl,e2,_⟩:=hl;have e3:fr.fn=f':=e;rw[e2] at e3;rw[<-e3,a8] at hf'
  cases hf') (C:=C) (cs:=cs) (E4 B.la (.inl hf) a7 .normal (by decide)) (E4 B.lc (.inl hf) a7 .normal (by decide)) aG hroom aC hold aD λhs=>Ia B.la hs hc
 refine h1.bind λg2 w' hq=>?_;obtain⟨g',w0,DZ,q1,q2,q3,q4,q5⟩:=hq;have aH:=q1;obtain⟨wl,vl,fr,l1,l2,l3,l4,l5⟩:=aH;have aI:BB g'.L.fn=true:=B.sub _ (by rw[l3];show Ep fr.fn=bb;rw[l4];exact hf);have aB:=q4.top.IZ (by rw[l3];show BC fr.fn=bb;rw[l4];exact a8);have eF:g'.L=g2.L:=Ej.id (P:=Er.of P.a) q3 aB;refine EL.step ⟨by rw[<-eF];exact aI,λo ho=>?_⟩ λτ d=>?_
 .rw[<-eF] at ho;exact cC aB (λf h=>(B.lc.nm f h).2) (λ_=>rfl) o ho
 .have hw':EA (SP Ep H) (CK P.a Ep bc) G DZ w0 (on w' τ d):=q5.same rfl q2.1 (by rw[show(on w' τ d).os=w'.os from rfl,q2.2.1]);obtain⟨v,wa,wb,V,W',ES,a6,e1,e2,e3,e4,e5,e6⟩:=leave (P:=P) B.lc (main2:=bb) q1 a8 q4 hw';obtain⟨i1,i2⟩:=e6.same q3 q2.1.LT;have eV:=e5.id i1;subst eV;have aA:a6.le (EI λb=>a6 b b):=λb B hb=>by
   have:=i1.2 _ _ hb;subst this;exact⟨hb,rfl⟩
  have aF:∀b,a6 b b->H b=bc->∃o,wa.heap[b]?=bh o/\EP (SP Ep H) (CK P.a Ep bc) (EI λb=>a6 b b) o o:=λb hb hh=>by
   obtain⟨o,O,k1,k2,k3⟩:=e6.rel.FD b b hb hh;have eo:O=o:=by
    rw[<-i2,k1] at k2;exact(hZ k2).LT
   subst eo;exact⟨O,by rw[e1.1,<-e3.1];exact k1,k3.LT aA⟩
  refine⟨_,W',ES,e4,zU,(h v wa (λb=>a6 b b) e2 (e5.LT aA) (λb hb=>(e6.rel.Fl.lo hb).1) aF).same hQ ⟨?_,?_,?_⟩⟩
  .rw[<-i2,e3.1,<-e1.1]
  .rw[e6.OS,show(on w' τ d).os=w'.os from rfl,q2.2.1,e1.2.1]
  .rw[e6.OUT,show(on w' τ d).output=w'.output from rfl,q2.2.2,e1.2.2]
def II.seg (B:II P Ep BC BB H G){b:bn}{a:Act}{c:ew}{k:List cu}{C:bn}{cs:List bn}{K0:Nat->Prop}{w:J}
  (zR:Ej P.a Ep H bc (EI K0) (b.at a (.code c::k)) (b.at a (.code c::k)))
  (aC:∀b,K0 b->G<=b) (hroom:G<=w.heap.size) (aA:∀b,K0 b->H b=bb->H.EX=bb/\w.heap[b]?=bh (.coro b8)) (hold:∀b,H b=bb->b<w.heap.size) (aB:∀b,K0 b->H b=bc->∃o,w.heap[b]?=bh o/\EP (SP Ep H) (CK P.a Ep bc) (EI K0) o o)
  (hk:∀s,k≠[.code (.refuse s)]) (aD:∀f x y fn r o1 o2 s,LD P.a f x y fn r o1 o2 s->∀c,fn.body=bh c->k≠[.code c]) (hbl:BC b.fn=bb\/∃fn s,P.a.L[b.fn]?=bh fn/\fn.body=bh (.refuse s)) (hQ:∀g w W,Ek w W->Q g w->Q g W) {N:Exit->Act->J->Prop}
  (hc:∀τ d,c.wp P.a (λe a' w'=>(e=.normal\/e=.ret)/\N e a' w') a (on w τ d))
  (h1:∀a' w',N .normal a' w'->EL P.b BB Q 0 (ER (b.at a' k) (C::cs)) w')
  (h2:∀a' w' todo,N .ret a' w'->(∀o,({ b.at a' todo with mode:=.returning }:bn).oper?=bh o->aH P.b o.op=bb)->EL P.b BB Q 0 (ER { b.at a' todo with mode:=.returning } (C::cs)) w') :
  EL P.b BB Q 0 (ER (b.at a (.code c::k)) (C::cs)) w:=by
 have h0:=B.run (Qa:=IC b k [bad] N) IC.same (λg w f' hl hf' hlk e=>by
  obtain⟨a',w0,_,h⟩:=hl;have e3:b.fn=f':=by rcases h with⟨_,rfl⟩|⟨_,_,rfl⟩<;>exact e
  obtain h|⟨fn,s,r1,r2⟩:=hbl
  .rw[e3,hf'] at h;cases h
  .obtain⟨x,y,aG,r,o1,o2,s2,aF,hp,_⟩:=hlk;have:=hp.func;rw[<-e3,r1] at this;cases this;have:=hp.text;rw[r2] at this
   cases this) (C:=C) (cs:=cs) (.on zR) (.on zR) aC hroom aA hold aB λhs=>Mw (N:=N) B.la (by simp) hs hc
 refine h0.bind λg2 w' hq=>?_;obtain⟨g',w0,DZ,q1,q2,q3,q4,q5⟩:=hq;have a7:∀g2:Y,g'.callers=[bad]->FV P Ep H bc BC (C::cs) DZ g' g2->g2.callers=C::cs:=by
  intro g2 e1 e2;have:=e2.callers;rw[e1] at this;generalize g2.callers=X at this;cases this with
  |base=>rfl
  |cons _ h=>exact AH rfl h.ne
 have a8:Ej P.a Ep H bc DZ g'.L g2.L:=by
  have a6:=q4.top;obtain⟨a',wl,l1,l2⟩:=q1;generalize hf:g'.L=fr at a6 ⊢;generalize g2.L=FR at a6 ⊢;cases a6 with
  |on h=>exact h
  |@stop f A A' kd s1 s2 s3 s4 =>
   exfalso;obtain⟨fn,s,r1,r2⟩|⟨x,y,fn,r,o1,o2,s,aF,hp,_⟩:=B.ref f s1 s2
   rotate_left
   .obtain⟨_,rfl⟩|⟨_,todo,rfl⟩:=l2
    .have e : k = [.code (.seq (.L r #[o1, o2] bc) (.cond (.tmp 1) .ret (.refuse s)))] := by
      have:=AZ gg hf;simpa [Go.Em.ER,bA,hp.func,hp.text,Frame.at] using this
     exact aD f x y fn r o1 o2 s hp _ hp.text e
    .have:=AZ k6 hf;simp[Go.Em.ER,bA] at this
   obtain⟨_,rfl⟩|⟨_,todo,rfl⟩:=l2
   .have : k = [.code (.refuse s)] := by
     have:=AZ gg hf;simpa [Go.Em.ER,bA,r1,r2,Frame.at] using this
    exact hk s this
   .have:=AZ k6 hf;simp[Go.Em.ER,bA] at this
 have eF:g'.L=g2.L:=Ej.id (P:=Er.of P.a) q3 a8;have e2:g2=ER g2.L g2.callers:=by
  obtain⟨x1,x2,x3,x4,x5⟩:=g2;obtain⟨_,_,⟨_,s1⟩,⟨_,d1⟩,⟨_,o1⟩⟩:=q4;dsimp only at *;subst s1 d1 o1
  rfl
 obtain⟨a',wl,l1,l2⟩:=q1;obtain⟨l3,l4⟩|⟨l3,todo,l4⟩:=l2
 .have:=a7 g2 (by rw[l4];rfl) q4;rw[e2,this,<-eF,l4];exact(h1 a' wl l3).same hQ (l1.trans q2)
 .have:=a7 g2 (by rw[l4];rfl) q4;have hpl:∀o,g'.L.oper?=bh o->aH P.b o.op=true:=λo ho=>cC a8 (λf h=>(B.lc.nm f h).2) (λ_=>rfl) o ho;rw[l4] at hpl;rw[e2,this,<-eF,l4];exact(h2 a' wl todo l3 hpl).same hQ (l1.trans q2)
end
section
variable {P:Er} {S:Fu} {Ck:ew->Prop} {G:Nat} {β:Ef}
def rj {α Hh:Type}{m:Sem α}{M:Sem Hh}{R:Ef->α->Hh->Prop}(h:∀w W,EA S Ck G β w W->∀es,∃s w' es',m.L P.a w es=(.halt (.stuck s) w',es')):D8 P S Ck G β m M R:=by
 intro w W n hw ht a6 a7 _;obtain⟨s,w',es',e⟩:=h w W hw a6;rw[e];trivial
def pR (f:bo):D8 P S Ck G β (mark (.extern f)) (mark (.extern f)) (λ_ _ _=>True):=by
 intro w W n hw ht a6 a7 _;have e1:(mark (.extern f)).L P.a w a6=(.ok () w,a6.push ⟨.mark (.extern f),bc,bb⟩):=rfl;have e2:(mark (.extern f)).L P.b W a7=(.ok () W,a7.push ⟨.mark (.extern f),bc,bb⟩):=rfl;rw[e1,e2];exact⟨β,(),W,[⟨.mark (.extern f),bc,bb⟩],by simp,trivial,{ Fin.refl hw with evs:=λ_ E hE=>by cases Cg.1 hE;exact .mark (.extern f) }⟩
def kY (k:eH){a A:eT}(h:EY β a A):D8 P S Ck G β (bq (.int k) a) (bq (.int k) A) (λDZ v V=>DX S DZ v V):=by
 unfold bq;refine DT (iH h .atomic) ?_;intro a6 v V _ hv;cases hv with
 |int k' n =>
  split
  .rename_i k2 k3 _ e1 e2;cases e1;cases e2;split
   .exact DV (.int _ _)
   .exact D7 (by intro g e;cases e)
  all_goals simp_all
 |ptr o s hb =>
  cases k<;>first|exact DV (.ptr o s hb)|exact D7 (by intro g e;cases e)
 |_=>cases k<;>exact D7 (by intro g e;cases e)
def pS {k:eH}(hk:k≠.u64){a A:eT}(h:EY β a A):D8 P S Ck G β (bq (.int k) a) (bq (.int k) A) (λ_ v V=>∃n,v=.int k n/\V=.int k n):=by
 unfold bq;refine DT (iH h .atomic) ?_;intro a6 v V _ hv;cases hv with
 |int k' n =>
  split
  .rename_i k2 k3 _ e1 e2;cases e1;cases e2;split
   .rename_i e;subst e;exact DV ⟨n,rfl,rfl⟩
   .exact D7 (by intro g e;cases e)
  all_goals simp_all
 |ptr o s hb =>
  cases k<;>first|exact AH rfl hk|exact D7 (by intro g e;cases e)
 |_=>cases k<;>exact D7 (by intro g e;cases e)
def rm (k:eH){x X:Array bW}(h:D6 S β x X):D8 P S Ck G β (df (.int k) x) (df (.int k) X) (λDZ v V=>DX S DZ v V):=by
 have hl:=h.toList;obtain⟨l⟩:=x;obtain⟨L⟩:=X;simp only at hl;cases hl with
 |nil=>exact D4
 |cons ha hr =>
  cases hr with
  |cons _ _=>exact D4
  |nil =>
   refine DT (ef ha) ?_;intro a6 a A _ hA;exact kY k hA
def tG (k:eH){x X:Array bW}(h:D6 S β x X):D8 P S Ck G β (cF (Op.intArith .add) k bb x) (cF (Op.intArith .add) k bb X) (λDZ v V=>DX S DZ v V):=by
 have hl:=h.toList;obtain⟨l⟩:=x;obtain⟨L⟩:=X;simp only at hl;cases hl with
 |nil=>exact D4
 |cons ha hr =>
  cases hr with
  |nil=>exact D4
  |cons hb hr =>
   cases hr with
   |cons _ _=>exact D4
   |nil =>
    refine DT (ef ha) ?_;intro aB a A a8 hA;refine DT (kY k hA) ?_;intro aC v V a6 hv;refine DT (eU hv) ?_;rintro aD n _ a7 rfl;refine DT (eU ((((hb.LT a8).LT a6)).LT a7)) ?_;rintro aF m _ aA rfl;refine DT (R:=λDZ a A=>DX S DZ a A) (DV (.int _ _)) ?_;intro aG z Z le5 hz;refine DT (jc ((((hA.LT a6).LT a7).LT aA).LT le5) .atomic hz) ?_;intro aH _ _ le6 _
    exact DV (hz.LT le6)
def rn {a A:eT}(h:EY β a A)(hh:S.LT a.Lo=bc):D8 P S Ck G β (hP a) (hP A) (λ_ x X=>x=bc->X=bc):=by
 intro w W n hw ht a6 a7 _;have e1:(hP a).L P.a w a6=(.ok (w.H a) w,a6):=rfl;have e2:(hP A).L P.b W a7=(.ok (W.H A) W,a7):=rfl;rw[e1,e2];refine⟨β,W.H A,W,[],by simp,λhz=>?_,Fin.refl hw⟩;obtain⟨o,O,h1,h2,h3⟩:=hw.FD _ _ h.Lo hh;rw[aY,h1] at hz;rw[aY,h2];cases h3 with
 |cells ha hf =>
  simp only[BT,AS,QC] at hz ⊢;rw[<-h.off];refine Bool.eq_false_iff.2 λhc=>?_;simp only[AO,decide_eq_true_eq,Bool.decide_and] at hc;obtain⟨p,q⟩:=hf _ hc.1 hc.2;simp[p,q] at hz
 |_=>rfl
def tH {w W:J}(hw:EA S Ck G β w W){a A:eT}(h:EY β a A)(hh:S.LT a.Lo=bb):w.L a=none:=by
 unfold cA;rw[(hw.FU _ _ h.Lo hh).1]
def tI {a A:eT}(h:EY β a A)(hh:S.LT a.Lo=bc):D8 P S Ck G β (bk a) (bk A) (λ_ x X=>x=bc->X=bc):=by
 unfold bk;refine DT (gS h.Lo) ?_;rintro a6 _ _ zX ⟨rfl,rfl⟩;exact rn (h.LT zX) hh
def Nk {w W:J}(hw:EA S Ck G β w W){a A:eT}(h:EY β a A)(hh:S.LT a.Lo=bb)(es:Array ed):∃es',(bk a).L P.a w es=(.ok bc w,es'):=by
 have e0:(shape a.Lo).L P.a w es=(.ok b8 w,es):=by
  show(ln (w.T a.Lo) w,es)=_;unfold World.shape?;rw[(hw.FU _ _ h.Lo hh).1]
 have e1:(viewAt a.Lo).L P.a w es=(.ok b8 w,es.push ⟨.obj a.Lo,bc,bc⟩):=by
  unfold viewAt;rw[aj,e0];simp only[Cq,Ba,if_false];rw[aj];have:(Go.getObj a.Lo).L P.a w es=(.ok (.coro b8) w,es.push ⟨.obj a.Lo,bc,bc⟩):=by
   simp only[Go.getObj,Sem.runT,(hw.FU _ _ h.Lo hh).1];rfl
  rw[this]
  rfl
 refine⟨es.push ⟨.obj a.Lo,bc,bc⟩,?_⟩;unfold bk;rw[aj,e1];show(ln (w.H a) w,_)=_;rw[aY,(hw.FU _ _ h.Lo hh).1]
 rfl
def tJ {k:eH}(hk:k≠.u64){x X:Array bW}(h:D6 S β x X):D8 P S Ck G β (cd (.int k) x) (cd (.int k) X) (λDZ v V=>DX S DZ v V):=by
 have hl:=h.toList;obtain⟨l⟩:=x;obtain⟨L⟩:=X;simp only at hl;cases hl with
 |nil=>exact D4
 |cons ha hr =>
  cases hr with
  |nil=>exact D4
  |cons hb hr =>
   cases hr with
   |nil=>exact D4
   |cons hc hr =>
    cases hr with
    |cons _ _=>exact D4
    |nil =>
     refine DT (ef ha) ?_;intro aF a A aC hA;cases hh:S.LT a.Lo with
     |true =>
      refine rj λw W hw es=>?_;obtain⟨aA,e1⟩:=Nk (P:=P) hw hA hh es;obtain⟨s,hs⟩:=(MQ (P:=P) hw hA).1 bb;have e2:∀es,(bq (.int k) a).L P.a w es=(.halt (.stuck s) w,es):=λes=>by
       unfold bq;rw[aj];have:(Go.load a .atomic).L P.a w es=(.halt (.stuck s) w,es):=by
        simp only[Go.load,Sem.runT,tH hw hA hh];have:(fo==fo)=true:=rfl;rw[this,hs]
       rw[this]
      refine⟨s,w,aA,?_⟩;rw[aj,e1];simp only[Ba,if_false];rw[aj];have e3:(pure PUnit.unit:Sem PUnit).L P.a w aA=(.ok PUnit.unit w,aA):=rfl
      first
       |(rw[e3];simp only;rw[aj,aj,e2])
       |(rw[aj,e2])
       |(rw[e2])
     |false =>
      refine DT (tI hA hh) ?_;intro aG z Z a8 hz;cases z with
      |true=>exact D7 (by intro g e;cases e)
      |false =>
       rw[hz rfl];simp only[Ba,if_false];refine DT (pS hk (hA.LT a8)) ?_;rintro aD v V aB ⟨n1,rfl,rfl⟩;have hA3:=(hA.LT a8).LT aB;have hb3:=((hb.LT aC).LT a8).LT aB;have hc3:=((hc.LT aC).LT a8).LT aB;have fin:∀(a6:Ef) (q:Bool),aD.le a6->∀ {c C:bW},DX S aD c C->D8 P S Ck G a6 (do if q=bb then do store a c .atomic;pure (eC q) else pure (eC q)) (do if q=bb then do store A C .atomic;pure (eC q) else pure (eC q)) (λDZ v V=>DX S DZ v V):=by
        intro a6 q a7 c C hcc;cases q with
        |false=>exact DV (.bool _)
        |true =>
         refine DT (jc (hA3.LT a7) .atomic (hcc.LT a7)) ?_;intro aH _ _ _ _;exact DV (.bool _)
       cases hb3 with
       |int k2 n2 =>
        refine DT (m:=pure (n1==n2)) (R:=λ_ a A=>a=A) (DV rfl) ?_;rintro a6 q _ a7 rfl;exact fin a6 q a7 hc3
       |ptr o s hb =>
        cases n1 with
        |ofNat m =>
         cases m with
         |zero =>
          refine DT (m:=pure bc) (R:=λ_ a A=>a=A) (DV rfl) ?_;rintro a6 q _ a7 rfl;exact fin a6 q a7 hc3
         |succ m=>exact DT (R:=λ_ _ _=>False) (D7 (u:=.L) (by intro g e;cases e)) (λ_ _ _ _ h=>h.elim)
        |negSucc m=>exact DT (R:=λ_ _ _=>False) (D7 (u:=.L) (by intro g e;cases e)) (λ_ _ _ _ h=>h.elim)
       |blank _ _ =>
        cases n1 with
        |ofNat m=>cases m<;>exact Gi ((show zO P (stuck "atomic.CompareAndSwap: old is no T":Sem Bool) from λw es=>.inl ⟨_,_,_,rfl⟩).bind _)
        |negSucc m=>exact Gi ((show zO P (stuck "atomic.CompareAndSwap: old is no T":Sem Bool) from λw es=>.inl ⟨_,_,_,rfl⟩).bind _)
       |_ =>
        cases n1 with
        |ofNat m=>cases m<;>exact DT (R:=λ_ _ _=>False) (D4 (s := "atomic.CompareAndSwap: old is no T")) (λ_ _ _ _ h=>h.elim)
        |negSucc m=>exact DT (R:=λ_ _ _=>False) (D4 (s := "atomic.CompareAndSwap: old is no T")) (λ_ _ _ _ h=>h.elim)
end
def Jz (p:bs)(SB:bo->Bool)(zZ:Bool)(f:bo):Bool:=match p.L[f]? with
 |some fn=>fn.name != "runtime.NumGoroutine"&&match fn.body with
  |some c=>codeOk p SB zZ bb c
  |none=>bc
 |none=>bc
def Fv {p:bs}{SB:bo->Bool}{zZ:Bool}{f:bo}(this:Jz p SB zZ f=bb):∃fn c,p.L[f]?=bh fn/\fn.name ≠ "runtime.NumGoroutine"/\fn.body=bh c/\codeOk p SB zZ bb c=true:=by
 unfold Jz at this;cases hq:p.L[f]? with
 |none=>rw[hq] at this;cases this
 |some fn =>
  rw[hq] at this;cases hb:fn.body with
  |none=>simp[hb] at this
  |some c=>simp[hb] at this;exact⟨fn,c,rfl,this.1,hb,this.2⟩
def IJ (P:Er)(f:bo):Prop:=∃fn G2 s,P.a.L[f]?=bh fn/\P.fs[f]?=bh G2/\fn.name ≠ "runtime.NumGoroutine"/\G2.name ≠ "runtime.NumGoroutine"/\fn.body=bh (.refuse s)/\G2.body.isSome=bb
def eD {P:Er}{S:Fu}{Ck:ew->Prop}{G:Nat}{β:Ef}{f:bo}(h:IJ P f)(hf:S.fn f){a A:Array bW}(ha:D6 S β a A):D8 P S Ck G β (gR f a) (gR f A) (H9 S Ck):=by
 obtain⟨fn,G2,s,h1,h2,h3,h4,h5,h6⟩:=h;exact bS h1 h2 h3 h4 (by rw[h5];rfl) h6 hf ha
def IJ.bars {P:Er}{f:bo}(h:IJ P f):∃fn s,P.a.L[f]?=bh fn/\fn.body=bh (.refuse s):=by
 obtain⟨fn,G2,s,h1,h2,h3,h4,h5,h6⟩:=h;exact⟨fn,s,h1,h5⟩
def xX {p:bs}{SB:bo->Bool}{H:Hid}{Gn:Nat}(h:∀f,SB f=bb->Jz p SB bc f=bb)(a6:∀f,aK SB f=bb->IJ (Er.of p) f)(hg:p.globals.size<=Gn/\p.info? big=b8):Lib (Er.of p) SB H bc SB Gn:=by
 refine⟨⟨hg.2,λf hf β a A ha=>?_⟩,λf hf=>?_,λf hf=>?_,hg.1,λf hf=>?_,λ_ h=>h,λf hf=>(a6 f hf).bars⟩
 .have a7:=hf;obtain hf|hf:=hf
  .obtain⟨fn,c,h1,h2,h3,_⟩:=Fv (h f hf);exact bS (P:=Er.of p) h1 h1 h2 h2 (by rw[h3];rfl) (by rw[h3];rfl) a7 ha
  .exact eD (a6 f hf) a7 ha
 .obtain⟨fn,c,h1,_,h3,h4⟩:=Fv (h f hf);exact⟨fn,c,h1,by rw[h3];rfl,h4,h1⟩
 .obtain⟨fn,c,h1,_,_,_⟩:=Fv (h f hf);exact⟨fn,fn,h1,h1,rfl⟩
 .obtain⟨fn,c,h1,_,h3,_⟩:=Fv (h f hf);have:=aT h1 (by rw[h3];rfl);exact⟨this,this⟩
def vL {P:Er}{SB BB:bo->Bool}{H:Hid}{zZ:Bool}{Gn:Nat}(h:∀f,BB f=bb->Jz P.a SB zZ f=bb)(same:∀f,BB f=bb->P.fs[f]?=P.a.L[f]?)
  (stops:∀f,SB f=bb->BB f=bc->∃fn G2,P.a.L[f]?=bh fn/\P.fs[f]?=bh G2/\fn.results=G2.results/\fn.name ≠ "runtime.NumGoroutine"/\G2.name ≠ "runtime.NumGoroutine"/\fn.body.isSome=bb/\G2.body.isSome=bb)
  (sub:∀f,BB f=bb->SB f=bb) (a7:∀f,aK SB f=bb->IJ P f) (hg:P.a.globals.size<=Gn/\P.a.info? big=b8):Lib P SB H zZ BB Gn:=by
 refine⟨⟨hg.2,λf hf β a A ha=>?_⟩,λf hf=>?_,λf hf=>?_,hg.1,λf hf=>?_,sub,λf hf=>(a7 f hf).bars⟩
 .have a6:=hf;obtain hf|hf:=hf
  rotate_left
  .exact eD (a7 f hf) a6 ha
  cases hb:BB f with
  |true =>
   obtain⟨fn,c,h1,h2,h3,_⟩:=Fv (h f hb);exact bS h1 ((same f hb).trans h1) h2 h2 (by rw[h3];rfl) (by rw[h3];rfl) a6 ha
  |false =>
   obtain⟨fn,G2,h1,h2,_,h3,h4,h5,h6⟩:=stops f hf hb;exact bS h1 h2 h3 h4 h5 h6 a6 ha
 .obtain⟨fn,c,h1,_,h3,h4⟩:=Fv (h f hf);exact⟨fn,c,h1,by rw[h3];rfl,h4,(same f hf).trans h1⟩
 .cases hb:BB f with
  |true =>
   obtain⟨fn,c,h1,_,_,_⟩:=Fv (h f hb);exact⟨fn,fn,h1,(same f hb).trans h1,rfl⟩
  |false =>
   obtain⟨fn,G2,h1,h2,h3,_⟩:=stops f hf hb;exact⟨fn,G2,h1,h2,h3⟩
 .cases hb:BB f with
  |true =>
   obtain⟨fn,c,h1,_,h3,_⟩:=Fv (h f hb);exact⟨aT h1 (by rw[h3];rfl),aT (p:=P.b) ((same f hb).trans h1) (by rw[h3];rfl)⟩
  |false =>
   obtain⟨fn,G2,h1,h2,_,_,_,h5,h6⟩:=stops f hf hb;exact⟨aT h1 h5,aT (p:=P.b) h2 h6⟩
inductive KD:(Array bW->Sem bW)->Prop
 |load (k:eH):KD (df (.int k))
 |add (k:eH):KD (cF (Op.intArith .add) k bb)
 |Rl (k:eH):k≠.u64->KD (cd (.int k))
section
variable {P:Er} {S:Fu} {Ck:ew->Prop} {G:Nat} {β:Ef}
def rp {e:Array bW->Sem bW}(h:KD e){a A:Array bW}(ha:D6 S β a A):D8 P S Ck G β (e a) (e A) (λDZ v V=>DX S DZ v V):=by
 cases h with
 |load k=>exact rm k ha
 |add k=>exact tG k ha
 |Rl k hk=>exact tJ hk ha
def LG (P:Er)(f:bo):Prop:=∃fn e,P.a.L[f]?=bh fn/\P.fs[f]?=bh fn/\(fn.name == "runtime.NumGoroutine")=bc/\fn.body.L=bb/\cU fn=b8/\e8 fn=bh e/\KD e/\jh fn.name=bc
def jK {f:bo}(h:LG P f){a A:Array bW}(ha:D6 S β a A):D8 P S Ck G β (gR f a) (gR f A) (H9 S Ck):=by
 obtain⟨fn,e,h1,h2,h3,h4,h5,h6,h7,_⟩:=h;refine DT aN ?_;rintro a7 p p' zX ⟨hp,a8⟩;subst p p';rw[h1,show P.b.L[f]?=bh fn from h2];simp only[h3,h4,h5,h6,Ba,if_false,if_true];refine DT (pR f) ?_;intro aA _ _ a6 _;refine DT (rp h7 ((ha.LT zX).LT a6)) ?_;intro aB v V _ hv;exact DV (.value hv)
def oH {p:bs}{SB:bo->Bool}{H:Hid}{Gn:Nat}(h:∀f,SB f=bb->Jz p SB bc f=bb\/LG (Er.of p) f)(a6:∀f,aK SB f=bb->IJ (Er.of p) f)(hg:p.globals.size<=Gn/\p.info? big=b8):Lib (Er.of p) SB H bc SB Gn:=by
 refine⟨⟨hg.2,λf hf β a A ha=>?_⟩,λf hf=>?_,λf hf=>?_,hg.1,λf hf=>?_,λ_ h=>h,λf hf=>(a6 f hf).bars⟩
 .have a7:=hf;obtain hf|hf:=hf
  rotate_left
  .exact eD (a6 f hf) a7 ha
  obtain h0|h0:=h f hf
  .obtain⟨fn,c,h1,h2,h3,_⟩:=Fv h0;exact bS (P:=Er.of p) h1 h1 h2 h2 (by rw[h3];rfl) (by rw[h3];rfl) a7 ha
  .exact jK h0 ha
 .obtain h0|⟨fn,e,h1,h2,_,h4,_⟩:=h f hf
  .obtain⟨fn,c,h1,_,h3,h4⟩:=Fv h0;exact⟨fn,c,h1,by rw[h3];rfl,h4,h1⟩
  .refine⟨fn,_,h1,rfl,?_,h2⟩;have:fn.body=none:=by simpa using h4
   rw[this];rfl
 .obtain h0|⟨fn,e,h1,h2,_⟩:=h f hf
  .obtain⟨fn,c,h1,_,_,_⟩:=Fv h0;exact⟨fn,fn,h1,h1,rfl⟩
  .exact⟨fn,fn,h1,h2,rfl⟩
 .obtain h0|⟨fn,e,h1,h2,_,_,_,_,_,h8⟩:=h f hf
  .obtain⟨fn,c,h1,_,h3,_⟩:=Fv h0;have:=aT h1 (by rw[h3];rfl);exact⟨this,this⟩
  .exact⟨dW h1 h8,dW (p:=(Er.of p).b) h2 h8⟩
def iJ {P:Er}{SB BB:bo->Bool}{H:Hid}{zZ:Bool}{Gn:Nat}(h:∀f,BB f=bb->(Jz P.a SB zZ f=bb/\P.fs[f]?=P.a.L[f]?)\/LG P f)
  (stops:∀f,SB f=bb->BB f=bc->∃fn G2,P.a.L[f]?=bh fn/\P.fs[f]?=bh G2/\fn.results=G2.results/\fn.name ≠ "runtime.NumGoroutine"/\G2.name ≠ "runtime.NumGoroutine"/\fn.body.isSome=bb/\G2.body.isSome=bb)
  (sub:∀f,BB f=bb->SB f=bb) (a7:∀f,aK SB f=bb->IJ P f) (hg:P.a.globals.size<=Gn/\P.a.info? big=b8):Lib P SB H zZ BB Gn:=by
 refine⟨⟨hg.2,λf hf β a A ha=>?_⟩,λf hf=>?_,λf hf=>?_,hg.1,λf hf=>?_,sub,λf hf=>(a7 f hf).bars⟩
 .have a6:=hf;obtain hf|hf:=hf
  rotate_left
  .exact eD (a7 f hf) a6 ha
  cases hb:BB f with
  |true =>
   obtain⟨h0,hs⟩|h0:=h f hb
   .obtain⟨fn,c,h1,h2,h3,_⟩:=Fv h0;exact bS h1 (hs.trans h1) h2 h2 (by rw[h3];rfl) (by rw[h3];rfl) a6 ha
   .exact jK h0 ha
  |false =>
   obtain⟨fn,G2,h1,h2,_,h3,h4,h5,h6⟩:=stops f hf hb;exact bS h1 h2 h3 h4 h5 h6 a6 ha
 .obtain⟨h0,hs⟩|⟨fn,e,h1,h2,_,h4,_⟩:=h f hf
  .obtain⟨fn,c,h1,_,h3,h4⟩:=Fv h0;exact⟨fn,c,h1,by rw[h3];rfl,h4,hs.trans h1⟩
  .refine⟨fn,_,h1,rfl,?_,h2⟩;have:fn.body=none:=by simpa using h4
   rw[this];rfl
 .cases hb:BB f with
  |true =>
   obtain⟨h0,hs⟩|⟨fn,e,h1,h2,_⟩:=h f hb
   .obtain⟨fn,c,h1,_,_,_⟩:=Fv h0;exact⟨fn,fn,h1,hs.trans h1,rfl⟩
   .exact⟨fn,fn,h1,h2,rfl⟩
  |false =>
   obtain⟨fn,G2,h1,h2,h3,_⟩:=stops f hf hb;exact⟨fn,G2,h1,h2,h3⟩
 .cases hb:BB f with
  |true =>
   obtain⟨h0,hs⟩|⟨fn,e,h1,h2,_,_,_,_,_,h8⟩:=h f hb
   .obtain⟨fn,c,h1,_,h3,_⟩:=Fv h0;exact⟨aT h1 (by rw[h3];rfl),aT (p:=P.b) (hs.trans h1) (by rw[h3];rfl)⟩
   .exact⟨dW h1 h8,dW (p:=P.b) h2 h8⟩
  |false =>
   obtain⟨fn,G2,h1,h2,_,_,_,h5,h6⟩:=stops f hf hb;exact⟨aT h1 h5,aT (p:=P.b) h2 h6⟩
end
open Go.ConcN
structure TI (Sh:Loc->Prop)(Wr Rd:Nat->Loc->Prop)(N:Nat)(t:k8):Prop where
 quiet:Quiet Sh t
 LE:∀k,k<N->∀l,Wr k l->Perm t k l
 rd:∀k,k<N->∀l,Rd k l->PermW t k l
 nr:∀said,¬Race said t
 gs:∀(i:Nat) (op:kV),t[i]?=bh op->op.g<N
def ib (t:k8)(l:Loc):Prop:=∀i a,touchAt t i=bh a->a.loc≠l
section
variable {Sh:Loc->Prop} {Wr Rd Wr' Rd':Nat->Loc->Prop} {N k:Nat} {t u:k8}
def OkOp (Sh:Loc->Prop)(Wr Rd:Nat->Loc->Prop)(k:Nat)(op:kV):Prop :=
 op.g=k/\∀x,op.act.L=bh x->x.loc.isMemory=bc\/(Sh x.loc/\x.kind≠.plain/\(x.kind=.said->k=0))\/(¬Sh x.loc/\(x.write=bb->Wr k x.loc)/\(x.write=bc->Rd k x.loc))
def TI.app (h:TI Sh Wr Rd N t)(hk:k<N)(hu:∀op∈u,OkOp Sh Wr' Rd' k op)
  (others:∀j,j≠k->∀l,(Wr' j l->Wr j l)/\(Rd' j l->Rd j l)) (a8:∀l,Wr' k l->Wr k l\/ib t l) (aA:∀l,Rd' k l->Rd k l\/ib t l)
  (sh:∀j l,Sh l->¬Wr' j l/\¬Rd' j l) (mem:∀l,(Sh l\/∃j,Wr' j l\/Rd' j l)->l.isMemory=bb) (apart:∀j,j≠k->j<N->∀l,(Wr' k l->¬Rd' j l/\¬Wr' j l)/\(Rd' k l->¬Wr' j l)):TI Sh Wr' Rd' N (t++u):=by
 have perm:∀l,Wr' k l->Perm t k l:=λl hl=>(a8 l hl).elim (h.LE k hk l) λhf i a ha e=>AH e (hf i a ha);have a6:∀l,Rd' k l->PermW t k l:=λl hl=>(aA l hl).elim (h.rd k hk l) λhf i a ha e=>AH e (hf i a ha);refine⟨h.quiet.app λop hop x hx hs=>?_,λj hj l hl=>?_,λj hj l hl=>?_,λsaid=>?_,λi op hi=>?_⟩
 .obtain hm|⟨_,h1,h2⟩|⟨hn,_⟩:=(hu op hop).2 x hx
  .rw[mem _ (.inl hs)] at hm;cases hm
  .exact⟨h1,λe=>(hu op hop).1.trans (h2 e)⟩
  .exact AH hs hn
 .by_cases e:j=k
  .subst e;exact(perm l hl).app λop hop _ _ _=>(hu op hop).1
  .refine(h.LE j hj l ((others j e l).1 hl)).app λop hop b hb e'=>?_;obtain hm|⟨hs,_⟩|⟨_,h1,h2⟩:=(hu op hop).2 b hb
   .rw[e',mem _ (.inr ⟨j,.inl hl⟩)] at hm;cases hm
   .exact AH hl (sh j l (e'▸hs)).1
   .cases hw:b.write with
    |true=>exact AH hl ((apart j e hj l).1 (e'▸h1 hw)).2
    |false=>exact AH hl ((apart j e hj l).2 (e'▸h2 hw))
 .by_cases e:j=k
  .subst e;exact(a6 l hl).app λop hop _ _ _ _=>(hu op hop).1
  .refine(h.rd j hj l ((others j e l).2 hl)).app λop hop b hb e' hw=>?_;obtain hm|⟨hs,_⟩|⟨_,h1,_⟩:=(hu op hop).2 b hb
   .rw[e',mem _ (.inr ⟨j,.inr hl⟩)] at hm;cases hm
   .exact AH hl (sh j l (e'▸hs)).2
   .exact AH hl ((apart j e hj l).1 (e'▸h1 hw)).1
 .refine fz (h.nr said) (λop hop=>(hu op hop).1) (λi a ha op hop b hb hc=>?_);obtain hm|⟨hs,h1,h2⟩|⟨_,h1,h2⟩:=(hu op hop).2 b hb
  .have:=hc.2.1;rw[hc.1,hm] at this;cases this
  .exact h.quiet.known hs h1 h2 i a ha hc
  .cases a7:b.write with
   |true=>exact perm b.loc (h1 a7) i a ha hc.1
   |false=>exact a6 b.loc (h2 a7) i a ha hc.1 (hc.2.2.1.resolve_right (by simp[a7]))
 .obtain⟨_,hi'⟩|⟨_,aB⟩:=b5 hi
  .exact h.gs i op hi'
  .rw[(hu op aB).1];exact hk
def TI.LT (h:TI Sh Wr Rd N t)(hw:∀k l,Wr' k l->Wr k l)(hr:∀k l,Rd' k l->Rd k l):TI Sh Wr' Rd' N t :=
 ⟨h.quiet,λk hk l hl=>h.LE k hk l (hw k l hl),λk hk l hl=>h.rd k hk l (hr k l hl),h.nr,h.gs⟩
def TI.fork (h:TI Sh Wr Rd N t){x y:kV}(hN:0<N)(hx:x.g=0/\x.act=.go N)(hy:y.g=N/\y.act=.start)(h0:Deaf t 0=0)
  (others:∀j,j<N->∀l,(Wr' j l->Wr j l)/\(Rd' j l->Rd j l)) (child:∀l,(Wr' N l->Wr 0 l)/\(Rd' N l->Rd 0 l)):TI Sh Wr' Rd' (N+1) (t++#[x,y]):=by
 have hk:Deaf t N=0:=Deaf_absent λi op hi e=>by have:=h.gs i op hi;omega
 have a6:∀op∈#[x,y],∀b,op.act.L=bh b->False:=by
  intro op hop b hb;simp only[B2,AM,AK,or_false] at hop;obtain rfl|rfl:=hop
  .rw[hx.2] at hb;cases hb
  .rw[hy.2] at hb;cases hb
 have old:∀ {i:Nat} {a:Touch},touchAt (t++#[x,y]) i=bh a->touchAt t i=bh a:=by
  intro i a ha;obtain⟨z,hz,hza⟩:=k0 ha;obtain⟨_,hz'⟩|⟨_,a8⟩:=b5 hz
  .rw[jx hz'];exact hza
  .exact(a6 z a8 a hza).elim
 refine⟨h.quiet.app λop hop b hb _=>(a6 op hop b hb).elim,λk aA l hl=>?_,λk aA l hl=>?_,λsaid=>?_,λi op hi=>?_⟩
 .obtain zY|aB:=BP k N
  .exact(h.LE k zY l ((others k zY l).1 hl)).app λop hop b hb _=>(a6 op hop b hb).elim
  .obtain rfl:k=N:=by omega
   exact λi a ha e=>fork_knows hx hy h0 hk (h.LE 0 hN l ((child l).1 hl) i a (old ha) e)
 .obtain zY|aB:=BP k N
  .exact(h.rd k zY l ((others k zY l).2 hl)).app λop hop b hb _ _=>(a6 op hop b hb).elim
  .obtain rfl:k=N:=by omega
   exact λi a ha e hw=>fork_knows hx hy h0 hk (h.rd 0 hN l ((child l).2 hl) i a (old ha) e hw)
 .have e:t++#[x,y]=(t++#[x])++#[y]:=by apply Array.ext';simp
  rw[e];refine fz (g:=N) (fz (g:=0) (h.nr said) (λop hop=>by simp at hop;rw[hop];exact hx.1) (λi a _ op hop b hb _=>(a6 op (by simp at hop ⊢;exact .inl hop) b hb).elim))
   (λop hop=>by simp at hop;rw[hop];exact hy.1) (λi a _ op hop b hb _=>(a6 op (by simp at hop ⊢;exact .inr hop) b hb).elim)
 .obtain⟨_,hi'⟩|⟨_,a7⟩:=b5 hi
  .have:=h.gs i op hi';omega
  .simp only[B2,AM,AK,or_false] at a7;obtain rfl|rfl:=a7
   .rw[hx.1];omega
   .rw[hy.1];omega
end
inductive One {α:Type}(R:α->α->Prop):List α->List α->Prop
 |head {x y:α} {l:List α}:R x y->One R (x::l) (y::l)
 |tail {a:α} {l l':List α}:One R l l'->One R (a::l) (a::l')
def One.cons {α:Type}{R:α->α->Prop}{a:α}(ha:Acc R a):∀ {l:List α},Acc (One R) l->Acc (One R) (a::l):=by
 induction ha with
 |intro a _ iha =>
  intro l hl
  induction hl with
  |intro l hl ihl =>
   refine .intro _ λm hm=>?_;cases hm with
   |head h=>exact iha _ h (.intro l hl)
   |tail h=>exact ihl _ h
def One.acc {α:Type}{R:α->α->Prop}:∀ {l:List α},(∀x∈l,Acc R x)->Acc (One R) l
 |[],_=>.intro _ λm hm=>by cases hm
 |a::l,h=>One.cons (h a (by simp)) (One.acc λx hx=>h x (by simp[hx]))
def One.SS {α:Type}{R:α->α->Prop}:∀ {l:List α} {i:Nat} {x y:α},l[i]?=bh y->R x y->One R (l.SS i x) l
 |_::_,0,_,_,h,r=>by
  simp only[Br,ek] at h;subst h;exact .head r
 |_::l,i+1,_,_,h,r=>by
  simp only[Bu] at h;exact .tail (One.SS h r)
def iw (P:bs)(l C:ew)(N:Act->J->Prop)(a:Act)(w:J):Prop :=
 ∀(b:bn) (k:List cu) (cs:List bn),∃a' w',N a' w'/\k9 P (lone (b.at a (.code C::k)) cs w) (lone (b.at a' (.code l::k)) cs w')
def i8 {P:bs}{l:ew}{N:Act->J->Prop}{a:Act}{w:J}(h:N a w):iw P l l N a w:=λ_ _ _=>⟨a,w,h,.refl _ _⟩
def j5 {P:bs}{l c r:ew}{N:Act->J->Prop}{a:Act}{w:J}(h:c.wp P (Exit.then (iw P l r N) λ_ _ _=>False) a w):iw P l (.seq c r) N a w:=λb k cs=>by
 obtain⟨e,a1,w1,hq,a6⟩:=h b (.code r::k) cs;cases e with
 |normal =>
  obtain⟨a2,w2,hn,hs⟩:=hq b k cs;exact⟨a2,w2,hn,.head j0 (fq a6 hs)⟩
 |_=>exact hq.elim
def mX:∀(n:Nat) (V:bW),fA V<=n->∃v,(∀(S:Fu) (β:Ef),S.LT.bl=bb->DX S β v V)/\∀(S:Fu) (β:Ef),DX S β v v:=by
 intro n
 induction n with
 |zero=>intro V h;cases V<;>simp at h
 |succ n ih =>
  intro V h;have un:ow V=bb->∃v,(∀(S:Fu) (β:Ef),S.LT.bl=bb->DX S β v V)/\∀(S:Fu) (β:Ef),DX S β v v:=λhb=>⟨hole,λS β h=>.blank (.inr h) hb,λS β=>.blank (.inl rfl) rfl⟩;cases V with
  |agg X =>
   have hx:∀i:_root_.Fin X.size,∃v,(∀(S:Fu) (β:Ef),S.LT.bl=bb->DX S β v X[i])/\∀(S:Fu) (β:Ef),DX S β v v:=λi=>ih _ (by
    have:=fu X i.1 i.2;simp at h;simp only[Fin.getElem_fin]
    omega)
   refine⟨.agg (k7 λi=>cf (hx i)),λS β hb=>.agg (by simp) λi v V h1 h2=>?_,λS β=>.agg rfl λi v V h1 h2=>?_⟩
   .obtain⟨hi,rfl⟩:=AC.1 h2;obtain⟨_,rfl⟩:=AC.1 h1;rw[Da];exact(br (hx ⟨i,hi⟩)).1 S β hb
   .rw[h1] at h2;cases h2;obtain⟨hi,rfl⟩:=AC.1 h1;rw[Da];exact(br (hx _)).2 S β
  |tuple X =>
   have hx:∀i:_root_.Fin X.size,∃v,(∀(S:Fu) (β:Ef),S.LT.bl=bb->DX S β v X[i])/\∀(S:Fu) (β:Ef),DX S β v v:=λi=>ih _ (by
    have:=fu X i.1 i.2;simp at h;simp only[Fin.getElem_fin]
    omega)
   refine⟨.tuple (k7 λi=>cf (hx i)),λS β hb=>.tuple (by simp) λi v V h1 h2=>?_,λS β=>.tuple rfl λi v V h1 h2=>?_⟩
   .obtain⟨hi,rfl⟩:=AC.1 h2;obtain⟨_,rfl⟩:=AC.1 h1;rw[Da];exact(br (hx ⟨i,hi⟩)).1 S β hb
   .rw[h1] at h2;cases h2;obtain⟨hi,rfl⟩:=AC.1 h1;rw[Da];exact(br (hx _)).2 S β
  |pointer a=>cases a with
   |none=>exact⟨.S b8,λ_ _ _=>.He,λ_ _=>.He⟩
   |some a=>exact un rfl
  |bool b=>exact⟨.bool b,λ_ _ _=>.bool b,λ_ _=>.bool b⟩
  |int k n=>exact⟨.int k n,λ_ _ _=>.int k n,λ_ _=>.int k n⟩
  |string s=>exact⟨.string s,λ_ _ _=>.string s,λ_ _=>.string s⟩
  |nilIface=>exact⟨.nilIface,λ_ _ _=>.nilIface,λ_ _=>.nilIface⟩
  |nilFunc=>exact⟨.nilFunc,λ_ _ _=>.nilFunc,λ_ _=>.nilFunc⟩
  |func f x c=>cases f with
   |method n=>exact⟨hm,λ_ _ h=>.EN (.inr h),λ_ _=>.EN (.inl rfl)⟩
   |_=>exact un rfl
  |_=>exact un rfl
noncomputable def fT (V:bW):Value:=cf (mX (fA V) V (AD _))
def i9 (V:bW):(∀(S:Fu) (β:Ef),S.LT.bl=bb->DX S β (fT V) V)/\∀(S:Fu) (β:Ef),DX S β (fT V) (fT V):=br (mX (fA V) V (AD _))
noncomputable def cD (k:Nat->Bool)(C:Array bW):Array Value:=C.mapIdx λi V=>if k i then V else fT V
def ix (k:Nat->Bool)(C:Array bW):(cD k C).size=C.size:=by simp[cD]
def fH (k:Nat->Bool)(C:Array bW)(i:Nat):(cD k C)[i]?=(C[i]?).map λV=>if k i then V else fT V:=by simp[cD]
def lS {k:Nat->Bool}{C:Array bW}{i:Nat}(h:k i=bb):(cD k C)[i]?=C[i]?:=by
 rw[fH];simp[h]
def n8 {S:Fu}{β:Ef}{k:Nat->Bool}{C:Array bW}(hb:S.LT.bl=bb)(h:∀i v,k i=bb->C[i]?=bh v->DX S β v v):D6 S β (cD k C) C:=by
 refine⟨ix _ _,λi v V h1 h2=>?_⟩;rw[fH,h2] at h1;simp only[BT,ek] at h1;subst h1;split
 .exact h i V ‹_› h2
 .exact(i9 V).1 S β hb
def mY {S:Fu}{β:Ef}{k:Nat->Bool}{C:Array bW}(h:∀i v,k i=bb->C[i]?=bh v->DX S β v v):D6 S β (cD k C) (cD k C):=by
 refine⟨rfl,λi v V h1 h2=>?_⟩;rw[h1] at h2;cases h2;rw[fH] at h1;cases hC:C[i]? with
 |none=>rw[hC] at h1;cases h1
 |some V =>
  rw[hC] at h1;simp only[BT,ek] at h1;subst h1;split
  .exact h i V ‹_› hC
  .exact(i9 V).2 S β
noncomputable def iM (k:Nat->Bool):Obj->Obj
 |.cells C t f=>.cells (cD k C) t (0,max C.size f.2)
 |o=>o
noncomputable def aZ (K:Nat->Bool)(k:Nat->Nat->Bool)(W:J):World:={ W with heap:=W.heap.mapIdx λb o=>if K b then iM (k b) o else o }
section
variable {K:Nat->Bool} {k:Nat->Nat->Bool} {W:J}
def oa:(aZ K k W).heap.size=W.heap.size:=by simp[aZ]
def j6 (b:Nat):(aZ K k W).heap[b]?=(W.heap[b]?).map λo=>if K b then iM (k b) o else o:=by simp[aZ]
def fj {b:Nat}(hb:K b=bb){C:Array bW}{t:dn}{f:Nat×Nat}(h:W.heap[b]?=bh (.cells C t f)):(aZ K k W).heap[b]?=bh (.cells (cD (k b) C) t (0,max C.size f.2)):=by
 rw[j6,h];simp[hb,iM]
def oc {b o:Nat}(h:K b=bb->k b o=bb):(aZ K k W).L ⟨b,o,b8⟩=W.L ⟨b,o,b8⟩:=by
 unfold cA;dsimp only;rw[j6];cases hb:K b with
 |false=>cases W.heap[b]?<;>simp
 |true =>
  cases hW:W.heap[b]? with
  |none=>rfl
  |some o' =>
   cases o' with
   |cells C t f=>simp[iM,lS (h hb)]
   |_=>rfl
def si {b:Nat}(hb:K b=bb){C:Array bW}{t:dn}{f:Nat×Nat}(h:W.heap[b]?=bh (.cells C t f)):Ro (aZ K k W) b :=
 ⟨_,_,_,fj hb h,λi hi=>by
  rw[ix] at hi
  exact⟨Bc _,AI hi (Nat.le_max_left _ _)⟩⟩
def Ma (S:Fu)(K:Nat->Bool)(k:Nat->Nat->Bool)(W:J):Prop:=∀b,K b=bb->∃C t f,W.heap[b]?=bh (.cells C t f)/\∀i v,k b i=bb->C[i]?=bh v->DX S (EI λb=>K b=bb) v v
def od {S:Fu}{Ck:ew->Prop}(hb:S.LT.bl=bb)(hh:∀b,S.LT b=bc)(h:Ma S K k W):EA S Ck 0 (EI λb=>K b=bb) (aZ K k W) W:=by
 refine⟨⟨λh1 h2=>h1.2.LT.trans h2.2,λh1 h2=>h1.2.trans h2.2.LT,λ_=>⟨Bc _,Bc _⟩⟩,⟨Bc _,Bc _⟩,λb B hB _=>?_,λb B _ h=>?_,λb h=>?_,rfl⟩
 .obtain⟨hk,rfl⟩:=hB;obtain⟨C,t,f,h1,h2⟩:=h b hk;exact⟨_,_,fj hk h1,h1,.cells (n8 hb h2) λi _ hi=>⟨Bc _,AI hi (Nat.le_max_right _ _)⟩⟩
 .rw[hh] at h;cases h
 .rw[hh] at h;cases h
def Mb {S:Fu}{Ck:ew->Prop}(h:Ma S K k W):∀b,K b=bb->∃o,(aZ K k W).heap[b]?=bh o/\EP S Ck (EI λb=>K b=bb) o o:=λb hk=>by
 obtain⟨C,t,f,h1,h2⟩:=h b hk;exact⟨_,fj hk h1,.cells (mY h2) λi h1 h2=>⟨h1,h2⟩⟩
end
def Hid.nb:Hid:=⟨λ_=>bc,bc,bb⟩
def cG (P:bs)(tgt:List cu)(C:ew)(N:Act->J->Prop)(a:Act)(w:J):Prop :=
 ∀(b:bn) (k:List cu) (cs:List bn),∃a' w',N a' w'/\k9 P (lone (b.at a (.code C::k)) cs w) (lone (b.at a' (tgt++k)) cs w')
def bB (P:bs)(tg:Act->List cu)(C:ew)(N:Act->J->Prop)(a:Act)(w:J):Prop :=
 ∀(b:bn) (k:List cu) (cs:List bn),∃a' w',N a' w'/\k9 P (lone (b.at a (.code C::k)) cs w) (lone (b.at a' (tg a'++k)) cs w')
section
variable {P:bs} {tgt:List cu} {C c r:ew} {N:Act->J->Prop} {a:Act} {w:J}
def oe (h:c.wp P (Exit.then (cG P tgt r N) λ_ _ _=>False) a w):cG P tgt (.seq c r) N a w:=λb k cs=>by
 obtain⟨e,a1,w1,hq,a6⟩:=h b (.code r::k) cs;cases e with
 |normal =>
  obtain⟨a2,w2,hn,hs⟩:=hq b k cs;exact⟨a2,w2,hn,.head j0 (fq a6 hs)⟩
 |_=>exact hq.elim
def lT (h:∀K:Act->J->Prop,(∀a w,cG P tgt r N a w->K a w)->c.wp P (Exit.then K λ_ _ _=>False) a w):cG P tgt (.seq c r) N a w :=
 oe (h _ λ_ _ h=>h)
def aE {tg:Act->List cu}(h:∀K:Act->J->Prop,(∀a w,bB P tg r N a w->K a w)->c.wp P (Exit.then K λ_ _ _=>False) a w):bB P tg (.seq c r) N a w:=λb k cs=>by
 obtain⟨e,a1,w1,hq,a6⟩:=h _ (λ_ _ h=>h) b (.code r::k) cs;cases e with
 |normal =>
  obtain⟨a2,w2,hn,hs⟩:=hq b k cs;exact⟨a2,w2,hn,.head j0 (fq a6 hs)⟩
 |_=>exact hq.elim
def ja {tg:Act->List cu}{N':Act->J->Prop}(h:cG P tgt C N a w)(hN:∀a w,N a w->tg a=tgt/\N' a w):bB P tg C N' a w:=λb k cs=>by
 obtain⟨a',w',hn,hs⟩:=h b k cs;obtain⟨h1,h2⟩:=hN a' w' hn;exact⟨a',w',h2,by rw[h1];exact hs⟩
def fI (h:cG P tgt c N a w):cG P (tgt++[.code r]) (.seq c r) N a w:=λb k cs=>by
 obtain⟨a',w',hn,hs⟩:=h b (.code r::k) cs;exact⟨a',w',hn,.head j0 (by simpa using hs)⟩
def mZ {t:jk}{x y:ew}{v:Bool}(hv:a.eval t=.bool v)(h:cG P tgt (if v then x else y) N a w):cG P tgt (.cond t x y) N a w:=λb k cs=>by
 obtain⟨a',w',hn,hs⟩:=h b k cs;exact⟨a',w',hn,.head (step_cond hv) hs⟩
def Ox {ops:Array cK}{N K:Act->J->Prop}{i:Nat}{a:Act}{w:J}(h:wpOp P ops (Exit.then N λ_ _ _=>False) i K a w)(b:bn)(l2:List Nat)(k:List cu)(cs:List bn) :
  ∃a' w',K a' w'/\k9 P (lone (b.at a (.inRegion ops (i::l2)::k)) cs w) (lone (b.at a' (.inRegion ops l2::k)) cs w'):=by
 simp only[wpOp] at h;cases ho:ops[i]? with
 |none =>
  simp only[ho] at h;have zG:=step_op_skip (P:=P) (b:=b) (a:=a) (k:=k) (cs:=cs) (w:=w) (ops:=ops) (i:=i) (rest:=l2) (by simp[ho]);simp only[ho,Option.bind_none,Act.put] at zG;exact⟨a,w,h,.head zG (.refl _ _)⟩
 |some o =>
  simp only[ho] at h;have a6:∀v,(b.at a (.inRegion ops (i::l2)::k)).finish v=b.at (a.put o.dst v) (.inRegion ops l2::k):=λv=>by
   rw[c0,ho];rfl
  by_cases hw:b7 o (yielded ops a.tmps)=bb
  .simp only[hw,if_true] at h;obtain h|⟨_,a0,w0,hq⟩:=h
   case inr=>exact hq.elim
   have hg:=stepG_op (P:=P) (b:=b) (k:=k) (cs:=cs) (w:=w) (rest:=l2) ho hw;simp only[Oper.wp,Oper.upon] at h;split at h
   .rename_i v w' hr;exact⟨_,_,h,.head (di (by rw[hg,<-a6];simp[cE,hr])) (.refl _ _)⟩
   .rename_i w' hr;exact⟨_,_,h,.head (di (by rw[hg,<-a6];simp[cE,hr])) (.refl _ _)⟩
   .rename_i d w' hr;have hd:({ b.at a (.inRegion ops (i::l2)::k) with defers:=d::a.defers }:bn).finish undef=b.at ({ a with defers:=d::a.defers }.put o.dst undef) (.inRegion ops l2::k):=by
     have:=c0 b { a with defers:=d::a.defers } ops i l2 k undef;rw[ho] at this;exact this
    refine⟨_,_,h,.head (di ?_) (.refl _ _)⟩;rw[hg];simp only[cE,Sem.runT_eq,hr,GStep.bare_after];exact AZ (λfr=>GStep.go { frame:=fr,callers:=cs,status:=.L,dying:=b8 } w') hd
   .rename_i f args w' hr;obtain⟨e,w2,fr,hR,zG,_,hlv⟩:=h (b.at a (.inRegion ops (i::l2)::k)::cs);have hen:step P (lone (b.at a (.inRegion ops (i::l2)::k)) cs w)=.next (lone (bA P f args .normal) (b.at a (.inRegion ops (i::l2)::k)::cs) w') :=
     di (by rw[hg];simp[cE,hr,Frame.at])
    cases e with
    |returned v =>
     refine⟨_,_,hR,.head hen (zG.trans (.head ?_ (.refl _ _)))⟩;rw[<-a6];exact step_leave_returned hlv
    |panicked chain=>exact hR.elim
    |outgrown =>
     obtain⟨a0,w0,hq⟩:=hR;exact hq.elim
   .rename_i row args w' hr;obtain⟨v,w2,hR,zG⟩:=h (b.at a (.inRegion ops (i::l2)::k)) cs;have hen:step P (lone (b.at a (.inRegion ops (i::l2)::k)) cs w)=.next (lone (Frame.ofRow P row args .normal) (b.at a (.inRegion ops (i::l2)::k)::cs) w') :=
     di (by rw[hg];simp[cE,hr,Frame.at])
    refine⟨_,_,hR,.head hen (fq ?_ (.refl _ _))⟩;rw[<-a6];exact zG
   .exact h.elim
   .exact h.elim
  .simp only[hw,if_false,Ba] at h;have zG:=step_op_skip (P:=P) (b:=b) (a:=a) (k:=k) (cs:=cs) (w:=w) (ops:=ops) (i:=i) (rest:=l2) (by simp[ho];simpa using hw);simp only[ho,BD] at zG;exact⟨_,_,h,.head zG (.refl _ _)⟩
def Nz {ops:Array cK}{K:Act->J->Prop}(l2:List Nat)(l:List Nat):∀(a:Act) (w:J),wpOps P ops (Exit.then K λ_ _ _=>False) l a w->∀(b:bn) (k:List cu) (cs:List bn),
  ∃a' w',K a' w'/\k9 P (lone (b.at a (.inRegion ops (l++l2)::k)) cs w) (lone (b.at a' (.inRegion ops l2::k)) cs w'):=by
 induction l with
 |nil=>exact λa w h b k cs=>⟨a,w,h,.refl _ _⟩
 |cons i rest ih =>
  intro a w h b k cs;rw[wpOps_cons] at h;obtain⟨a1,w1,h1,h2⟩:=Ox h b (rest++l2) k cs;obtain⟨a2,w2,h3,h4⟩:=ih a1 w1 h1 b k cs;exact⟨a2,w2,h3,h2.trans h4⟩
def qp {ops:Array cK}{Q:Exit->Act->J->Prop}(l:List cK):∀k,(∀j,j<l.L->l[j]?=ops[k+j]?)->wpOps P ops Q (fx k l.L)=wpList P ops Q l:=by
 induction l with
 |nil=>intro k _;funext a w;simp[wpOps,wpList]
 |cons o l ih =>
  intro k h;have h0:ops[k]?=bh o:=by simpa using(h 0 (by simp)).LT
  have ih':=ih (k+1) λj hj=>by have:=h (j+1) (by simpa using hj);simpa [Nat.add_assoc,Nat.add_comm 1 j] using this
  funext a w;simp only[AQ,List.range'_succ,wpOps,h0,wpList,ih']
def fU {id:Nat}{ops:Array cK}{l:List cK}{l2:List Nat}(hl:∀j,j<l.L->l[j]?=ops[j]?)(h2:dt ops.size=fx 0 l.L++l2)(h:wpList P ops (Exit.then N λ_ _ _=>False) l a w):cG P [.inRegion ops l2] (.L id ops bc) N a w:=λb k cs=>by
 rw[<-qp l 0 (λj hj=>by rw[AU];exact hl j hj)] at h;obtain⟨a',w',hq,hs⟩:=Nz l2 _ a w h b k cs;exact⟨a',w',hq,.head step_region (by rw[h2];exact hs)⟩
end
section
variable {P:bs} {SB:bo->Bool} {H:Hid} {G:Nat}
def IG (b:bn)(tg:Act->List cu)(cs:List bn)(N:Act->J->Prop)(g:Y)(w:J):Prop :=
 ∃a' w0,Ek w0 w/\N a' w0/\g=ER (b.at a' (tg a')) cs
def IG.same {b:bn}{tgt:Act->List cu}{cs:List bn}{N:Act->J->Prop}(g:Y)(w W:J)(h:Ek w W)(q:IG b tgt cs N g w):IG b tgt cs N g W:=by
 obtain⟨a',w0,h1,h2⟩:=q;exact⟨a',w0,h1.trans h,h2⟩
def Kk (L:Lib (Er.of P) SB H bc SB G){b:bn}{a:Act}{tgt:Act->List cu}{C:ew}{k:List cu}{cs:List bn}{w:J}{N:Act->J->Prop}(zU:cs≠[])(hs:Self P SB H G (ER (b.at a (.code C::k)) cs) w)
  (h:∀τ d,bB P tgt C N a (on w τ d)):D9 P (Self P SB H G) (IG b (λa=>tgt a++k) cs N) (ER (b.at a (.code C::k)) cs) w:=by
 refine fe L IG.same ⟨hs,λτ d=>?_⟩;obtain⟨a',w',hn,n,hr⟩:=h τ d b k cs;exact dh L (hs.same Dc) hr zU ⟨a',w',⟨rfl,rfl,rfl⟩,hn,rfl⟩
end
section
variable {P:Er} {Ep BC BB:bo->Bool} {H:Hid} {G:Nat} {Q:Y->J->Prop}
def II.PL (B:II P Ep BC BB H G){b:bn}{a:Act}{tgt:Act->List cu}{c:ew}{k:List cu}{C:bn}{cs:List bn}{K0:Nat->Prop}{w:J}
  (zR:Ej P.a Ep H bc (EI K0) (b.at a (.code c::k)) (b.at a (.code c::k)))
  (aA:∀b,K0 b->G<=b) (hroom:G<=w.heap.size) (a7:∀b,K0 b->H b=bb->H.EX=bb/\w.heap[b]?=bh (.coro b8)) (hold:∀b,H b=bb->b<w.heap.size) (a8:∀b,K0 b->H b=bc->∃o,w.heap[b]?=bh o/\EP (SP Ep H) (CK P.a Ep bc) (EI K0) o o)
  (hk:∀a c t,tgt a++k≠.code c::t) (hbl:BC b.fn=bb\/∃fn s,P.a.L[b.fn]?=bh fn/\fn.body=bh (.refuse s)) (hQ:∀g w W,Ek w W->Q g w->Q g W) {N:Act->J->Prop}
  (hc:∀τ d,bB P.a tgt c N a (on w τ d))
  (h1:∀a' w',N a' w'->EL P.b BB Q 0 (ER (b.at a' (tgt a'++k)) (C::cs)) w') :
  EL P.b BB Q 0 (ER (b.at a (.code c::k)) (C::cs)) w:=by
 have h0:=B.run (Qa:=IG b (λa=>tgt a++k) [bad] N) IG.same (λg w f' hl hf' hlk e=>by
  obtain⟨a',w0,_,_,rfl⟩:=hl;have e3:b.fn=f':=e;obtain h|⟨fn,s,r1,r2⟩:=hbl
  .rw[e3,hf'] at h;cases h
  .obtain⟨x,y,aF,r,o1,o2,s2,aB,hp,_⟩:=hlk;have:=hp.func;rw[<-e3,r1] at this;cases this;have:=hp.text;rw[r2] at this
   cases this) (C:=C) (cs:=cs) (.on zR) (.on zR) aA hroom a7 hold a8 λhs=>Kk (N:=N) (tgt:=tgt) B.la (by simp) hs hc
 refine h0.bind λg2 w' hq=>?_;obtain⟨g',w0,DZ,q1,q2,q3,q4,q5⟩:=hq;have aC:Ej P.a Ep H bc DZ g'.L g2.L:=by
  have a6:=q4.top;obtain⟨a',wl,l1,l2,l3⟩:=q1;generalize hf:g'.L=fr at a6 ⊢;generalize g2.L=FR at a6 ⊢;cases a6 with
  |on h=>exact h
  |@stop f A A' kd s1 s2 s3 s4 =>
   exfalso;obtain⟨fn,s,r1,r2⟩|⟨x,y,fn,r,o1,o2,s,aB,hp,_⟩:=B.ref f s1 s2
   .subst l3;have:=AZ gg hf;simp only[Go.Em.ER,bA,r1,Frame.at] at this;exact hk _ _ _ this
   .subst l3;have:=AZ gg hf;simp only[Go.Em.ER,bA,hp.func,Frame.at] at this;exact hk _ _ _ this
 have eF:g'.L=g2.L:=Ej.id (P:=Er.of P.a) q3 aC;have e2:g2=ER g2.L g2.callers:=by
  obtain⟨x1,x2,x3,x4,x5⟩:=g2;obtain⟨_,_,⟨_,s1⟩,⟨_,d1⟩,⟨_,o1⟩⟩:=q4;dsimp only at *;subst s1 d1 o1
  rfl
 obtain⟨a',wl,l1,l2,l3⟩:=q1;have aD:g2.callers=C::cs:=by
  have:=q4.callers;rw[show g'.callers=[bad] by rw[l3];rfl] at this;generalize g2.callers=X at this;cases this with
  |base=>rfl
  |cons _ h=>exact AH rfl h.ne
 rw[e2,aD,<-eF,l3];exact(h1 a' wl l2).same hQ (l1.trans q2)
end
def JY (md:er)(ops:Array cK)(i:Nat):List Nat:=match ops[i]? with
 |some o=>(o.after.toList.filter (j3 md)).map (·.on)
 |none=>[]
def Iw {md:er}{ops:Array cK}{listed:Array Bool}{i:Nat}:i∈kp md ops listed↔i<ops.size/\listed.LE i bb=bc/\∀j∈JY md ops i,listed.LE j bc=true:=by
 unfold kp JY;rw[Cr,BM];refine and_congr_right λhi=>?_;rw[AL hi];simp only[BT,AS,AO,BX,BO,Cr,Array.mem_toList_iff];refine and_congr_right λ_=>?_;rw[Bb];constructor
 .rintro h j ⟨e,⟨he,hb⟩,rfl⟩;have:=h e he;simpa [hb] using this
 .intro h e he;cases hb:j3 md e with
  |false=>rfl
  |true=>simpa using h e.on ⟨e,⟨he,hb⟩,rfl⟩
def nu (md:er)(ops:Array cK)(m:Nat):Bool :=
 (dt m).all (λi=>(fx (i+1) (m-i)).any λj=>(JY md ops j).H i)&&(fx (m+1) (ops.size-m-1)).all (λi=>(JY md ops i).H (i-1))&&(dt ops.size).all (λi=>(JY md ops i).all λj=>decide (j<i)) &&
  (ops.toList.LT m).all (λo=>match o.guard with|some (j,_)=>decide (j<m)|none=>bb)&&decide (m<ops.size)
section
variable {md:er} {ops:Array cK} {m:Nat}
structure O7 (md:er)(ops:Array cK)(m:Nat):Prop where
 up:∀i,i<m->∃j,i<j/\j<=m/\i∈JY md ops j
 next:∀i,m<i->i<ops.size->i-1∈JY md ops i
 lt:∀i,i<ops.size->∀j∈JY md ops i,j<i
 guard:∀i o j b,i<m->ops[i]?=bh o->o.guard=bh (j,b)->j<m
 size:m<ops.size
def wZ (h:nu md ops m=bb):O7 md ops m:=by
 simp only[nu,AO,B6,List.any_eq_true,BM,List.mem_range'_1,Cv,decide_eq_true_eq] at h;obtain⟨⟨⟨⟨h1,h2⟩,h3⟩,h4⟩,h5⟩:=h;refine⟨λi hi=>?_,λi hi hn=>h2 i ⟨by omega,by omega⟩,h3,λi o j b hi ho hg=>?_,h5⟩
 .obtain⟨j,hj,hm⟩:=h1 i hi;exact⟨j,by omega,by omega,hm⟩
 .have:=h4 o (List.mem_iff_getElem?.2 ⟨i,by rw[CF,AJ hi];simpa using ho⟩);rw[hg] at this;simpa using this
def filter_one {p:Nat->Bool}{n k:Nat}(hk:k<n)(h:∀i,i<n->(p i=bb↔i=k)):(dt n).filter p=[k]:=by
 have e:(dt n).filter p=(dt n).filter λi=>i==k:=List.filter_congr λi hi=>by
  have:=h i (BM.1 hi);cases hp:p i with
  |true=>simpa using(this.1 hp)
  |false =>
   have:i≠k:=λe=>by rw[this.2 e] at hp;cases hp
   simpa using this
 rw[e,List.filter_beq,List.count_range];simp[hk]
def dQ {l:Array Bool}{i:Nat}(h:i<l.size):l.LE i bb=l.LE i false:=by
 simp[eG,h]
end
end Go.Em
namespace Go.Co
open Go.Em Go.Conc
def bH (p:bs):List cu->Bool
 |.inRegion ops (i::_)::_=>match ops[i]? with
  |some o=>aH p o.op
  |none=>bb
 |_=>bb
section
variable {p:bs} {BB:bo->Bool} {Q:Y->J->Prop} {b:bn} {a:Act} {todo:List cu} {cs:List bn} {w:J}
def ji (h:bH p todo=bb):∀o,(b.at a todo).oper?=bh o->aH p o.op=true:=by
 intro o ho;unfold kt Frame.at at ho;dsimp only at ho
 match todo,h,ho with
 |.inRegion ops (i::rest)::k,h,ho =>
  simp only[bH] at h;have a6:ops[i]?=bh o:=ho;rw[a6] at h;exact h
 |[],_,ho=>cases ho
 |.inRegion ops []::k,_,ho=>cases ho
 |.code c::k,_,ho=>cases ho
 |.inBlock i::k,_,ho=>cases ho
 |.inLoop c::k,_,ho=>cases ho
 |.inScope c::k,_,ho=>cases ho
 |.inRangeFunc l::k,_,ho=>cases ho
 |.endRangeFunc l::k,_,ho=>cases ho
 |.beginRound::k,_,ho=>cases ho
 |.call _ _ _ _::k,_,ho=>cases ho
def D9.LE (hQ:∀g w W,Ek w W->Q g w->Q g W)(hf:BB b.fn=bb)(hg:bH p todo=bb)(h:∀τ d,(bD p bb (G (b.at a todo) cs) (on w τ d)).goes (λg' w' _=>g'.callers≠[]/\∃W,Ek W w'/\D9 p (E7 p BB) Q g' W)) :
  D9 p (E7 p BB) Q (G (b.at a todo) cs) w:=by
 refine D9.step ⟨hf,ji hg⟩ λτ d=>?_;have:=h τ d;cases hs:bD p bb (G (b.at a todo) cs) (on w τ d) with
 |go g' w' es =>
  rw[hs] at this;obtain⟨h1,W,h2,h3⟩:=this;exact⟨g',w',es,rfl,h1,h3.same (λ_ _ _ _ x=>x) hQ h2⟩
 |_=>rw[hs] at this;exact this.elim
end
section
variable {P:bs} {main:Bool} {b:bn} {a:Act} {k:List cu} {cs:List bn} {w:J}
def aD {ops:Array cK}{i:Nat}{rest:List Nat}{o:cK}{K:Y->J->Array ed->Prop}{f:bo}{fn:kq}{args:Array jk}{ats:Array dn}
  (ho:ops[i]?=bh o) (hw:b7 o (yielded ops a.tmps)=bb) (hk:b.kind≠.early) (hop:o.op=.call { callee:=.value (.func f),args,argTypes:=ats })
  (hf:P.L[f]?=bh fn) (hname:(fn.name == "runtime.NumGoroutine")=bc) (hb:fn.body.L=bc)
  (h:K (G (bA P f (args.map a.eval) .normal) (b.at a (.inRegion ops (i::rest)::k)::cs)) w #[]) :
  (bD P main (G (b.at a (.inRegion ops (i::rest)::k)) cs) w).goes K:=by
 rw[stepG_enter ho hw hk (run_call_body hop hf hname hb)];have:listed P b.fn a o w=#[]:=by unfold listed;rw[events_call_body hop hf hname hb];exact j2 P _
 rw[this];exact h
end
open Go.ConcN Go.RowKit Go.Conc.Lib Go.ConcR.Gen Go.ConcN.Gen
open Go.ConcR (KK wgBlock WgAt stA smA rd wr mk Payload Aside2 DC0)
def RL (ty:dn)(Wg:Nat)(w w₁:J):Prop:=WgLive ty Wg w->WgLive ty Wg w₁
def RL.refl {ty:dn}{Wg:Nat}(w:J):RL ty Wg w w:=id
def RL.trans {ty:dn}{Wg:Nat}(a b c:J)(h:RL ty Wg a b)(k:RL ty Wg b c):RL ty Wg a c:=k ∘ h
def rl {ty:dn}{Wg:Nat}{w w₁:J}(h:WgLive ty Wg w)(r:RL ty Wg w w₁):WgLive ty Wg w₁:=r h
section
variable (P:bs) (ty:dn) (Wg:Nat)
abbrev GW (main:Bool)(Stop:Y->J->Prop)(m:Nat)(g:Y)(w:J):Prop:=Goes P main (RL ty Wg) DC0 Stop m g w
def D3 (g:Y)(w:J):Prop :=
 g.status=.L/\(WgAt ty Wg w 1 0->∃g',bD P bc g w=.go g' (w.LE (stA Wg) (.int .u64 0)) #[wr (stA Wg)]/\∃m,GW P ty Wg bc (AtD4 P ty Wg) m g' (w.LE (stA Wg) (.int .u64 0)))
def D2 (g:Y)(w:J):Prop :=
 g.status=.L/\(WgAt ty Wg w 1 0->∃g',bD P bc g w=.go g' w #[rd (stA Wg)]/\∃m,GW P ty Wg bc (D3 P ty Wg) m g' w)
def D1 (g:Y)(w:J):Prop :=
 g.status=.L/\∀v wt:Nat,wt<=1->v<2147483647->WgAt ty Wg w ((v+1)*KK+wt) 0 ->
  ∃g',bD P bc g w=.go g' (w.LE (stA Wg) (.int .u64 (v*KK+wt))) #[rd (stA Wg),wr (stA Wg)] /\
   ((v=0/\wt=1)->∃m,GW P ty Wg bc (D2 P ty Wg) m g' (w.LE (stA Wg) (.int .u64 (v*KK+wt))))/\(¬(v=0/\wt=1)->∃q,QuitsD P q 1 g')
def K1 (g:Y)(w:J):Prop :=
 g.status=.L/\∃g',bD P bc g w=.go g' w #[mk .disable]/\∃m,GW P ty Wg bc (D1 P ty Wg) m g' w
def R0 (g:Y)(w:J):Prop :=
 g.status=.L/\∃g',bD P bc g w=.go g' w #[mk (.releaseMerge (stA Wg))]/\∃m,GW P ty Wg bc (K1 P ty Wg) m g' w
def Rm (dS:Y->J->Prop)(g:Y)(w:J):Prop:=g.status=.L/\∃g',bD P bb g w=.go g' w #[mk .enable]/\∃m,GW P ty Wg bb dS m g' w
def ARr (dS:Y->J->Prop)(g:Y)(w:J):Prop:=g.status=.L/\∃g',bD P bb g w=.go g' w #[mk (.read (smA Wg))]/\∃m,GW P ty Wg bb (Rm P ty Wg dS) m g' w
def AA1 (dS:Y->J->Prop)(g:Y)(w:J):Prop :=
 g.status=.L/\∀v:Nat,v<2147483647->WgAt ty Wg w (v*KK) 0->∃g',bD P bb g w=.go g' (w.LE (stA Wg) (.int .u64 ((v+1)*KK))) #[rd (stA Wg),wr (stA Wg)] /\
  (v=0->∃m,GW P ty Wg bb (ARr P ty Wg dS) m g' (w.LE (stA Wg) (.int .u64 ((v+1)*KK))))/\(v≠0->∃m,GW P ty Wg bb (Rm P ty Wg dS) m g' (w.LE (stA Wg) (.int .u64 ((v+1)*KK))))
def Rn (dS:Y->J->Prop)(g:Y)(w:J):Prop:=g.status=.L/\∃g',bD P bb g w=.go g' w #[mk .disable]/\∃m,GW P ty Wg bb (AA1 P ty Wg dS) m g' w
def QI (dS:Y->J->Prop)(g:Y)(w:J):Prop:=g.status=.L/\∃g',bD P bb g w=.go g' w #[mk (.acquire (stA Wg))]/\∃m,GW P ty Wg bb dS m g' w
def Rp (dS:Y->J->Prop)(g:Y)(w:J):Prop:=g.status=.L/\∃g',bD P bb g w=.go g' w #[mk .enable]/\∃m,GW P ty Wg bb (QI P ty Wg dS) m g' w
def W4 (dS:Y->J->Prop)(g:Y)(w:J):Prop:=g.status=.L/\(WgAt ty Wg w 0 0->∃g',bD P bb g w=.go g' w #[rd (stA Wg)]/\∃m,GW P ty Wg bb (Rp P ty Wg dS) m g' w)
def W3 (dS:Y->J->Prop)(g:Y)(w:J):Prop :=
 g.status=.L/\g.offers=b8/\((∃st,WgAt ty Wg w st 0)->bD P bb g w=.go { g with status:=.blocked } w #[]) /\
  (WgAt ty Wg w 0 1->∃g',bD P bb g w=.go g' (w.LE (smA Wg) (.int .u32 0)) (semEvents (smA Wg))/\∃m,GW P ty Wg bb (W4 P ty Wg dS) m g' (w.LE (smA Wg) (.int .u32 0)))
def WRw (dS:Y->J->Prop)(g:Y)(w:J):Prop:=g.status=.L/\∃g',bD P bb g w=.go g' w #[mk (.write (smA Wg))]/\∃m,GW P ty Wg bb (W3 P ty Wg dS) m g' w
def W2 (G4 dS:Y->J->Prop)(vs:Nat)(g:Y)(w:J):Prop :=
 g.status=.L/\∀v:Nat,v<2147483648->WgAt ty Wg w (v*KK) 0 ->
  (v=vs->∃g',bD P bb g w=.go g' (w.LE (stA Wg) (.int .u64 (v*KK+1))) #[rd (stA Wg),wr (stA Wg)]/\∃m,GW P ty Wg bb (WRw P ty Wg dS) m g' (w.LE (stA Wg) (.int .u64 (v*KK+1)))) /\
  (v≠vs->∃g',bD P bb g w=.go g' w #[rd (stA Wg)]/\∃m,GW P ty Wg bb G4 m g' w)
def W1 (G4 dS:Y->J->Prop)(g:Y)(w:J):Prop :=
 g.status=.L/\∀v:Nat,v<2147483648->WgAt ty Wg w (v*KK) 0->∃g',bD P bb g w=.go g' w #[rd (stA Wg)] /\
  (v=0->∃m,GW P ty Wg bb (Rp P ty Wg dS) m g' w)/\(v≠0->∃m,GW P ty Wg bb (W2 P ty Wg G4 dS v) m g' w)
def Rq (G4:Y->J->Prop)(g:Y)(w:J):Prop:=g.status=.L/\∃g',bD P bb g w=.go g' w #[mk .disable]/\∃m,GW P ty Wg bb G4 m g' w
end
structure Tr (Sh:Loc->Prop)(Wr Rd:Nat->Loc->Prop)(N:Nat)(Pd:Nat->Nat->Prop)(a:eT)(t:k8):Prop where
 ti:TI Sh Wr Rd N t
 norel:NoRelease a t
 QJ:∀i x,touchAt t i=bh x->x.loc.isMemory=bb->Knows t 0 i\/(Sh x.loc/\x.kind=.atomic)\/∃k,t.g? i=bh k/\k≠0/\Pd k i
 ho:∀i k,t.g? i=bh k->k≠0->t.counts i->(∃q,t.g? q=bh 0/\fW t i q)\/Pd k i
section
variable {Sh:Loc->Prop} {Wr Rd Wr' Rd':Nat->Loc->Prop} {N k:Nat} {Pd Pd':Nat->Nat->Prop} {a:eT} {t u:k8}
def za {i:Nat}{op:kV}(h:t[i]?=bh op):t.g? i=bh op.g:=by simp[Trace.g?,h]
def Tr.app (h:Tr Sh Wr Rd N Pd a t)(aB:TI Sh Wr' Rd' N (t++u))(hg:∀op∈u,op.g=k)(aC:∀op∈u,op.act≠.mark (.release a))
  (a7:∀i,t.size<=i->(t++u).g? i=bh k->k≠0->Pd k i\/((∀x,touchAt (t++u) i=bh x->x.loc.isMemory=bb->Sh x.loc/\x.kind=.atomic)/\¬(t++u).counts i)):Tr Sh Wr' Rd' N Pd a (t++u):=by
 refine⟨aB,h.norel.app aC,λi x hx hm=>?_,λi j hj zU hc=>?_⟩
 .obtain⟨op,hop,aD⟩:=k0 hx;obtain⟨hi,a8⟩|⟨hi,a6⟩:=b5 hop
  .rcases h.QJ i x (by rw[jx a8];exact aD) hm with h1|h1|⟨j,h1,h2⟩
   .exact .inl (h1.app u)
   .exact .inr (.inl h1)
   .exact .inr (.inr ⟨j,by rw[j1 hi];exact h1,h2⟩)
  .have aA:(t++u).g? i=bh k:=by rw[za hop,hg op a6]
   by_cases h0:k=0
   .subst h0;have:=knows_own hop;rw[hg op a6] at this;exact .inl this
   .obtain h1|⟨h1,_⟩:=a7 i hi aA h0
    .exact .inr (.inr ⟨k,aA,h0,h1⟩)
    .exact .inr (.inl (h1 x hx hm))
 .obtain⟨op,hop,aF⟩:=Bl.1 hj;obtain⟨hi,a8⟩|⟨hi,a6⟩:=b5 hop
  .rcases h.ho i j (by rw[j1 hi] at hj;exact hj) zU ((counts_old hi).1 hc) with⟨q,hq,hb⟩|h1
   .have aG : q < t.size := by
     obtain⟨z,hz,_⟩:=Bl.1 hq;exact ck hz
    exact .inl ⟨q,by rw[j1 aG];exact hq,hb_app u hb⟩
   .exact .inr h1
  .have e:k=j:=(hg op a6).LT.trans aF;subst e;obtain h1|⟨_,h1⟩:=a7 i hi hj zU
   .exact .inr h1
   .exact AH hc h1
def Tr.Px (h:Tr Sh Wr Rd N Pd a t)(hp:∀k i,i<t.size->Pd k i->Pd' k i):Tr Sh Wr Rd N Pd' a t:=by
 refine⟨h.ti,h.norel,λi x hx hm=>?_,λi j hj zU hc=>?_⟩
 .obtain h1|h1|⟨k,h1,h2,h3⟩:=h.QJ i x hx hm
  .exact .inl h1
  .exact .inr (.inl h1)
  .obtain⟨z,hz,_⟩:=Bl.1 h1;exact .inr (.inr ⟨k,h1,h2,hp k i (ck hz) h3⟩)
 .obtain h1|h1:=h.ho i j hj zU hc
  .exact .inl h1
  .obtain⟨z,hz,_⟩:=Bl.1 hj;exact .inr (hp j i (ck hz) h1)
def Tr.My (h:Tr Sh Wr Rd N Pd a t)(hw:∀k l,Wr' k l->Wr k l)(hr:∀k l,Rd' k l->Rd k l):Tr Sh Wr' Rd' N Pd a t:=⟨h.ti.LT hw hr,h.norel,h.QJ,h.ho⟩
def Tr.fork (h:Tr Sh Wr Rd N Pd a t){x y:kV}(hN:0<N)(hx:x.g=0/\x.act=.go N)(hy:y.g=N/\y.act=.start)(h0:Deaf t 0=0)
  (others:∀j,j<N->∀l,(Wr' j l->Wr j l)/\(Rd' j l->Rd j l)) (child:∀l,(Wr' N l->Wr 0 l)/\(Rd' N l->Rd 0 l)):Tr Sh Wr' Rd' (N+1) Pd a (t++#[x,y]):=by
 have aA:∀op∈#[x,y],op.act.L=none:=by
  intro op hop;simp only[B2,AM,AK,or_false] at hop;obtain rfl|rfl:=hop
  .rw[hx.2];rfl
  .rw[hy.2];rfl
 refine⟨h.ti.fork hN hx hy h0 others child,h.norel.app λop hop e=>?_,λi z hz hm=>?_,λi j hj zU hc=>?_⟩
 .simp only[B2,AM,AK,or_false] at hop;obtain rfl|rfl:=hop
  .rw[hx.2] at e;cases e
  .rw[hy.2] at e;cases e
 .obtain⟨op,hop,a7⟩:=k0 hz;obtain⟨hi,a8⟩|⟨_,a6⟩:=b5 hop
  .rcases h.QJ i z (by rw[jx a8];exact a7) hm with h1|h1|⟨j,h1,h2⟩
   .exact .inl (h1.app _)
   .exact .inr (.inl h1)
   .exact .inr (.inr ⟨j,by rw[j1 hi];exact h1,h2⟩)
  .rw[aA op a6] at a7;cases a7
 .obtain⟨op,hop,aC⟩:=Bl.1 hj;obtain⟨hi,a8⟩|⟨_,a6⟩:=b5 hop
  .rcases h.ho i j (by rw[j1 hi] at hj;exact hj) zU ((counts_old hi).1 hc) with⟨q,hq,hb⟩|h1
   .have aB : q < t.size := by
     obtain⟨z,hz,_⟩:=Bl.1 hq;exact ck hz
    exact .inl ⟨q,by rw[j1 aB];exact hq,hb_app _ hb⟩
   .exact .inr h1
  .obtain⟨z,hz,_⟩:=hc;rw[act?_of hop] at hz;rw[BD,aA op a6] at hz;cases hz
def Tr.past (h:Tr Sh Wr Rd N Pd a t){B q:Nat}(hq:t.act? q=bh (.mark (.acquire a)))(hg:t.g? q=bh 0)(hh:t.heard q)(hd:Deaf t 0=0)(hl:∀op∈t,op.act.Li B)
  (hp:∀k i,t.g? i=bh k->k≠0->Pd k i->∃r,RelBy a t k r/\r<q/\i<=r):Past Sh B t:=by
 have a6:∀k i,t.g? i=bh k->k≠0->Pd k i->fW t i q:=by
  intro k i hk zU a7;obtain⟨r,hr,a8,hir⟩:=hp k i hk zU a7;have e1:fW t r q:=.single (.inr ⟨.marked a8 (.inr hr.act) hq (λk _ _=>h.norel k),hr.heard,hh⟩);obtain zY|aA:=BP i r
  .exact .trans (.single (.inl ⟨zY,k,hk,hr.g⟩)) e1
  .obtain rfl:i=r:=by omega
   exact e1
 obtain⟨z,hz,hzg⟩:=Bl.1 hg;refine⟨h.ti.nr,λi x hx hm=>?_,λi k hk zU hc=>?_,hd,hl⟩
 .obtain h1|h1|⟨k,h1,h2,h3⟩:=h.QJ i x hx hm
  .exact .inl h1
  .exact .inr h1
  .exact .inl ⟨q,z,hz,hzg,.inr (a6 k i h1 h2 h3)⟩
 .obtain h1|h1:=h.ho i k hk zU hc
  .exact h1
  .exact⟨q,hg,a6 k i hk zU h1⟩
def DO {Shun:Loc->Prop}{B:Nat}(h:Past Shun B t)(aA:∀l,Sh l->Shun l\/∃b:eT,l=.cell b/\B<=b.Lo)(a7:∀l,Shun l->Sh l)(hq:Quiet Sh t)(ha:B<=a.Lo)(hN:∀(i:Nat) (op:kV),t[i]?=bh op->op.g<N)(hN0:0<N)
  (hw:∀k l,Wr k l->k=0/\l.isMemory=bb/\¬Shun l) (hr:∀k l,Rd k l->k=0/\l.isMemory=bb/\¬Shun l):Tr Sh Wr Rd N Pd a t:=by
 have kn:∀l,l.isMemory=bb->¬Shun l->Perm t 0 l:=λl hm hs i x hx e=>(h.known i x hx (e▸hm)).elim id λa6=>AH (e▸a6.1) hs;refine⟨⟨hq,λk _ l hl=>?_,λk _ l hl=>?_,h.clean,hN⟩,λi e=>?_,λi x hx hm=>(h.known i x hx hm).imp id λa6=>.inl ⟨a7 _ a6.1,a6.2⟩,λi k hk zU hc=>.inl (h.over i k hk zU hc)⟩
 .obtain⟨rfl,h1,h2⟩:=hw k l hl;exact kn l h1 h2
 .obtain⟨rfl,h1,h2⟩:=hr k l hl;exact .of (kn l h1 h2)
 .obtain⟨op,hop,a8⟩:=Bl.1 e;have:=h.seen op (Bi hop);rw[a8] at this;exact AH this (Nat.not_lt.2 ha)
end
end Go.Co
