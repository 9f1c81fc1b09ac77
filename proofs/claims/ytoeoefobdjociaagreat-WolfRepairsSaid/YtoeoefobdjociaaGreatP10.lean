/- Parts of the proof. -/
import Derived.Test.YtoeoefobdjociaaGreatP09
import Derived.Test.YtoeoefobdjociaaGreatChecked
import Derived.WalkSpells
import Derived.WalkLawsBesides
set_option linter.all false
set_option maxRecDepth 1000000
open Go.Conc renaming mem_ofEvents->Z,getElem?_append_cases->E,Deaf_other->L,crowd->bh,runT_crowd_go->bk,woken_quitsD->bo,awake_of->b6,handedOver_app->b8
open Array renaming replicate->Y,mem_iff_getElem->bq
open Go renaming Goroutine->J,Program->D,World->V,Trace->bc,FuncId->bn,TypeId->br,Func->bW,run_call_cas_hit->b5,deafBehind->b7,sizeOf->cf,Machine->ck,typeInfo->cq
open Option renaming some->U
open Go.MemOp renaming ofEvents->I
open Go.Result renaming andThen->C
open Go.MemAct renaming ofEvent->M,touch?->bl
open Go.Sem renaming run_bind->G,run->ak,run_pure->bw
open Go.Frame renaming enter->bb
open Bool renaming false->bs,true->bD
open List renaming find?_append->bA,range->b9
namespace Go.Co
open Go.Eu Go.Conc Go.ConcN
section
variable {P:D} {zO:Nat->Prop}
def IZ.awake {gs:Array J}{W:V}{t:bc}{q:Nat->Nat}(hb:IZ P zO gs W t q){a:J}(h0:gs[0]?=U a)(zA:a.status=.running):∀g∈gs,Go.Conc.awake g:=by
 intro g hg;obtain⟨i,hi,rfl⟩:=bq.1 hg;obtain rfl|a6:=Bs i
 .have:gs[0]=a:=by simpa [AK hi] using h0
  rw[this];exact b6 (.inl zA)
 .exact b6 ((hb.lv.old i _ a6 (AK hi)).status.elim .inl λx=>.inr (.inr x))
end
section
variable {P:ED} {SB BB:bn->Bool} {zZ:Bool} {Gn:Nat} {zO:Nat->Prop} {Kp:H6}
def KJ {gs:Array J}{W:V}{t:bc}{q:Nat->Nat}{sl:Option (Nat×Nat)}{a:J}(hb:IZ P.b zO gs W t q)(h0:gs[0]?=U a)(zA:a.status=.running) :
  ∃N m1 t1,runNT P.b N (bh gs W sl) t=(.next m1,t1)/\∃a6 d a7 q1,stepT P.b m1=runT P.b (bh a6 (W.at d) a7) 0/\a6[0]?=U a/\a6.size=gs.size/\IZ P.b zO a6 (W.at d) t1 q1:=by
 refine jP (P:=P.b) (r:=(·<·:Nat->Nat->Prop)) Nat.lt_wfRel.wf (λn m t=>∃a6 d a7 q1,m=bh a6 (W.at d) a7/\a6[0]?=U a/\a6.size=gs.size/\IZ P.b zO a6 (W.at d) t q1/\n=sumTo gs.size q1)
  (λm1 t1=>∃a6 d a7 q1,stepT P.b m1=runT P.b (bh a6 (W.at d) a7) 0/\a6[0]?=U a/\a6.size=gs.size/\IZ P.b zO a6 (W.at d) t1 q1) ?_ (sumTo gs.size q) (bh gs W sl) t ⟨gs,W.drawn,sl,q,rfl,h0,rfl,hb,rfl⟩
 rintro n m t ⟨a6,d,a7,q1,rfl,a8,hs1,hb1,rfl⟩;obtain⟨i,g,d',sl',hi,hg,zG⟩:=crowd_pick (P:=P.b) (w:=W.at d) (sl:=a7) (hb1.awake a8 zA) ⟨0,a,a8,zA⟩;obtain rfl|aA:=Bs i
 .exact .inl ⟨a6,d',sl',q1,zG,a8,hs1,hb1.at d'⟩
 .obtain⟨gs',t',q',k1,k2,k3,k4,k5⟩:=(hb1.at d').slip aA hi hg a8 zA sl';exact .inr ⟨_,_,sumTo gs.size q',by rw[zG,k1];rfl,by rw[<-hs1];exact k4,gs',d',sl',q',rfl,k3,k2.trans hs1,k5,rfl⟩
def IZ.QP {gs:Array J}{W W':V}{t:bc}{q:Nat->Nat}{sl:Option (Nat×Nat)}{a a':J}(hb:IZ P.b zO gs W t q)(h0:gs[0]?=U a)(zK:stepG P.b bD a W=.go a' W' #[]) :
  ∃gs',runT P.b (bh gs W sl) 0=(.next (bh gs' W' sl),#[])/\gs'.size=gs.size/\gs'[0]?=U a'/\Leavers P.b t gs' q:=by
 have zY:0<gs.size:=(Az.1 h0).1;have hr:=bk (P:=P.b) (sl:=sl) (i:=0) h0 (by simpa using zK);have e0:I 0 a.frame.fn a.frame.place #[]=#[]:=by rw[ofEvents_eq];simp
 rw[e0] at hr;refine⟨_,hr,by simp,by simp[zY],λj y hj hy=>?_,λj hj=>hb.lv.above j (by simpa using hj)⟩;have zU:0≠j:=by omega
 rw[Bn zU,BG] at hy;obtain⟨z,hz,rfl⟩:=Bj.1 hy;have a6:=hb.lv.old j z hj hz;rw[bo a6];exact a6
end
def more (β:Em)(b B:Nat):Em:=λx y=>β x y\/(x=b/\y=B)
def oQ (β:Em)(b B:Nat):β.le (more β b B):=λ_ _ h=>.inl h
section
variable {P:ED} {SB BB:bn->Bool} {zZ:Bool} {Gn:Nat} {H:Hid} {β:Em} {w W:V}
def rL {Ck:Code->Prop}(h:EI (SP SB H) Ck Gn β w W){b:Nat}(hb:∀B,¬β b B)(hH:H b=bD)(a7:H.EZ=bs)(hw:w.heap[b]?=U (.coro none))(hG:Gn<=b){c:Array Value}{ty:br}{f:Nat×Nat} :
  EI (SP SB H) Ck Gn (more β b W.heap.size) w (W.alloc (.cells c ty f)):=by
 have zY:∀x y,β x y->y<W.heap.size:=λx y a6=>by
  cases e:H x with
  |false=>obtain⟨o,O,_,h2,_⟩:=h.FJ x y a6 e;exact(Az.1 h2).1
  |true=>obtain⟨_,h2,_⟩:=h.FV x y a6 e;obtain⟨c,t,f,h3⟩:=h2 a7;exact(Az.1 h3).1
 have get:∀y,(W.alloc (.cells c ty f)).heap[y]?=if y=W.heap.size then U (.cells c ty f) else W.heap[y]?:=λy=>Cm ..
 have size:(W.alloc (.cells c ty f)).heap.size=W.heap.size+1:=Array.size_push _;refine⟨⟨?_,?_,?_⟩,⟨h.room.1,by rw[size];exact CZ h.room.2⟩,λx y a6 hh=>?_,λx y a6 hh=>?_,h.old,h.env⟩
 .rintro x y y' (h1|⟨rfl,rfl⟩) (h2|⟨h2,rfl⟩)
  .exact h.Fv.fn h1 h2
  .subst h2;exact AI h1 (hb _)
  .exact AI h2 (hb _)
  .rfl
 .rintro x x' y (h1|⟨rfl,rfl⟩) (h2|⟨rfl,h2⟩)
  .exact h.Fv.inj h1 h2
  .have:=zY _ _ h1;omega
  .have:=zY _ _ h2;omega
  .rfl
 .rintro x y (h1|⟨rfl,rfl⟩)
  .exact h.Fv.lo h1
  .exact⟨hG,h.room.2⟩
 .obtain a6|⟨rfl,rfl⟩:=a6
  .obtain⟨o,O,h1,h2,h3⟩:=h.FJ x y a6 hh;exact⟨o,O,h1,by rw[get,AD (Dg (zY x y a6))];exact h2,h3.mono (oQ _ _ _)⟩
  .have a8:H x=false:=hh;rw[hH] at a8;cases a8
 .obtain a6|⟨rfl,rfl⟩:=a6
  .obtain⟨h1,h2,h3⟩:=h.FV x y a6 hh;exact⟨h1,λe=>by rw[get,AD (Dg (zY x y a6))];exact h2 e,λe=>by rw[get,AD (Dg (zY x y a6))];exact h3 e⟩
  .exact⟨hw,λ_=>⟨c,ty,f,by rw[get,AF rfl]⟩,λe=>by have e':H.EZ=true:=e;rw[a7] at e';cases e'⟩
end
section
variable {P:ED} {SB BB:bn->Bool} {zZ:Bool} {Gn:Nat} {H:Hid} {T:List Frame} {β:Em}
def LM {f:bn}{fa fb:bW}{c:Code}(h1:P.a.funcs[f]?=U fa)(h2:P.b.funcs[f]?=U fb)(h3:fa.body=U c)(h4:codeOk P.a SB zZ bD c=bs)(hn:fb.ntmps=fa.ntmps)
  {args:Array Value} (zx:args.size<=fa.ntmps) {k:CallKind} {F:Frame} (h:F7 P SB H zZ BB β (bb P.a f args k) F):∃ARGS,F=bb P.b f ARGS k/\D8 (SP SB H) β args ARGS:=by
 generalize hF:bb P.a f args k=fr at h;cases h with
 |on h =>
  exfalso;have ht:=h.todo;rw[<-hF] at ht;simp only[bb,h1,h3,BF,AY] at ht;generalize F.todo=X at ht;cases ht with
  |cons hi _ =>
   cases hi with
   |code hc =>
    simp only[Option.isNone_none] at hc;rw[h4] at hc;cases hc
 |@stop f' a A k' _ _ _ ha =>
  have e1:f=f':=AX Frame.fn hF;have e2:k=k':=AX Frame.kind hF;subst e1 e2;have e3:args++Y (fa.ntmps-args.size) undef=a++Y (fa.ntmps-a.size) undef:=by
   have:=AX Frame.tmps hF;simpa [bb,h1] using this
  have hs:=AX Array.size e3;simp only[Array.size_append,Array.size_replicate] at hs;have hA:=ha.size;have all:D8 (SP SB H) β (args++Y (fa.ntmps-args.size) undef) (A++Y (fa.ntmps-A.size) undef):=by
   rw[e3,<-hA];exact ha.append (D8.replicate (DZ.undef _ _) _)
  refine⟨(A++Y (fa.ntmps-A.size) undef).extract 0 args.size,?_,?_⟩
  .have e4 : A ++ Y (fa.ntmps - A.size) undef = (A ++ Y (fa.ntmps - A.size) undef).extract 0 args.size ++ Y (fa.ntmps - ((A ++ Y (fa.ntmps - A.size) undef).extract 0 args.size).size) undef := by
    have zl:((A++Y (fa.ntmps-A.size) undef).extract 0 args.size).size=args.size:=by simp;omega
    rw[zl];generalize hX:A++Y (fa.ntmps-A.size) undef=X at all zl ⊢;have hXs:X.size=fa.ntmps:=by rw[<-hX];simp;omega
    apply Array.ext (by simp;omega);intro i i1 i2;by_cases hi:i<args.size
    .rw[Array.getElem_append_left (by rw[zl];exact hi)];simp
    .rw[Array.getElem_append_right (by rw[zl];omega)];simp only[Array.getElem_replicate];have:=all.at_ i undef X[i] (by rw[Array.getElem?_append_right (by omega),BQ,AF (by omega)]) (AK i1);exact O5.undef _ this
   simp only[bb,h2,BW,AY,hn];rw[<-e4]
  .have:=all.extract 0 args.size;have e5:(args++Y (fa.ntmps-args.size) undef).extract 0 args.size=args:=by simp
   rwa [e5] at this
def rO {S:Fy}{Ck:Code->Prop}{w w1 W:V}(h:EI S Ck Gn β w W)(hs:w1.heap.size=w.heap.size)(ho:w1.os=w.os)
  (hb:∀b:Nat,w1.heap[b]?=w.heap[b]?\/∃(c:Array Value) (t:br) (f f1:Nat×Nat),w.heap[b]?=U (.cells c t f)/\w1.heap[b]?=U (.cells c t f1)/\∀i,f.1<=i->i<f.2->f1.1<=i/\i<f1.2):EI S Ck Gn β w1 W:=by
 refine⟨h.Fv,by rw[hs];exact h.room,λb B a6 hh=>?_,λb B a6 hh=>?_,λb hh=>by rw[hs];exact h.old b hh,by rw[ho];exact h.env⟩
 .obtain⟨o,O,e1,e2,e3⟩:=h.FJ b B a6 hh;obtain e|⟨c,t,f,f1,q1,q2,q3⟩:=hb b
  .exact⟨o,O,e.trans e1,e2,e3⟩
  .rw[q1] at e1;cases e1;exact⟨_,O,q2,e2,EW.Qz e3 q3⟩
 .obtain⟨e1,e2,e3⟩:=h.FV b B a6 hh;obtain e|⟨c,t,f,f1,q1,q2,q3⟩:=hb b
  .exact⟨e.trans e1,e2,e3⟩
  .rw[q1] at e1;cases e1
end
def cZ {P:D}{K:Nat}{m1:ck}{t1:bc}:∀ {N:Nat} {m:ck} {t:bc},runNT P N m t=(.next m1,t1)->runNT P (N+K) m t=runNT P K m1 t1:=by
 intro N
 induction N with
 |zero=>intro m t h;simp only[runNT,Prod.mk.injEq,Stepped.next.injEq] at h;obtain⟨rfl,rfl⟩:=h;rw[AO]
 |succ N ih =>
  intro m t h;rw[show N+1+K=(N+K)+1 by omega];have e : ∀ n, runNT P (n + 1) m t = match stepT P m with
    |(.next m,ops)=>runNT P n m (t++ops)
    |(e,ops)=>(e,t++ops):=λ_=>rfl
  rw[e] at h ⊢;rcases hs:stepT P m with⟨s,ops⟩
  rw[hs] at h;cases s with
  |next m'=>exact ih h
  |ended o w=>simp at h
def oS {P:D}{m m':ck}{t:bc}{ops:Array MemOp}(h:stepT P m=(.next m',ops)):runNT P 1 m t=(.next m',t++ops):=by
 unfold runNT;rw[h];rfl
structure Hy (Shun:Loc->Prop)(B d:Nat)(t:bc):Prop where
 calm:∀said,¬Race said t
 knows:∀i x,touchAt t i=U x->x.loc.isMemory=bD->Knows t 0 i\/(Shun x.loc/\x.kind=.atomic)
 handed:t.HandedOver
 deaf:Deaf t 0=d
 below:∀op∈t,op.act.low B
section
variable {Shun:Loc->Prop} {B B' d d':Nat} {t u:bc}
def Hy.of (h:Past Shun B t):Hy Shun B 0 t:=⟨h.clean,h.known,h.over,h.hears,h.seen⟩
def Hy.past (h:Hy Shun B 0 t):Past Shun B t:=⟨h.calm,h.knows,h.handed,h.deaf,h.below⟩
def Hy.mono (h:Hy Shun B d t)(hB:B<=B'):Hy Shun B' d t:=⟨h.calm,h.knows,h.handed,h.deaf,λop hop=>MemAct.low_mono hB (h.below op hop)⟩
def M6 {t u:bc}(ht:∀op∈t,op.act.low B)(hu:∀op∈u,op.act.low B):∀op∈t++u,op.act.low B:=λop hop=>(Array.mem_append.1 hop).elim (ht op) (hu op)
def Hy.own (h:Hy Shun B d t){fn:bn}{pos:String}{es:Array Event}(hes:∀e∈es,(∀x,(M e).touch?=U x->Shun x.loc->x.kind≠.plain)/\(M e).low B)(hd:b7 d es=d'):Hy Shun B d' (t++I 0 fn pos es):=by
 have hg:∀op∈I 0 fn pos es,op.g=0:=λop hop=>by obtain⟨e,_,rfl⟩:=Z hop;rfl
 refine⟨λsaid=>noRace_append (h.calm said) hg λi x hx op hop y hy hc=>?_,λi x hx hm=>?_,b8 h.handed λop hop=>.inl (hg op hop),by rw[Deaf_own,h.deaf];exact hd,M6 h.below λop hop=>by obtain⟨e,he,rfl⟩:=Z hop;exact(hes e he).2⟩
 .obtain⟨e,he,rfl⟩:=Z hop;obtain hk|⟨s1,s2⟩:=h.knows i x hx hc.2.1
  .exact hk
  .exfalso;have np:=(hes e he).1 y hy (hc.1▸s1);obtain⟨_,_,_,a6⟩:=hc;rw[s2] at a6;obtain z|z|⟨_,z,_⟩:=a6
   .cases z
   .exact np z
   .cases z
 .obtain⟨z,hz,a7⟩:=touch_of hx;obtain⟨_,hz'⟩|⟨_,a8⟩:=E hz
  .exact(h.knows i x (by rw[touchAt_of hz'];exact a7) hm).imp (·.app _) id
  .have:=knows_own hz;rw[hg z a8] at this;exact .inl this
def Hy.mute (h:Hy Shun B d t){g:Nat}(hg:g≠0){fn:bn}{pos:String}{es:Array Event}(hm:∀e∈es,e.mute=bD):Hy Shun B d (t++I g fn pos es):=by
 have hu:∀op∈I g fn pos es,op.g=g/\op.act.touch?=none/\op.act.low B:=λop hop=>by
  obtain⟨e,he,rfl⟩:=Z hop;exact⟨rfl,touch_mute (hm e he),low_mute (hm e he) B⟩
 refine⟨λsaid=>noRace_append (h.calm said) (λop hop=>(hu op hop).1) λi x _ op hop y hy _=>(by rw[(hu op hop).2.1] at hy;cases hy),λi x hx hmm=>?_,b8 h.handed λop hop=>.inr (hu op hop).2.1,(L t hg _ λop hop=>(hu op hop).1).trans h.deaf,M6 h.below λop hop=>(hu op hop).2.2⟩;obtain⟨z,hz,a6⟩:=touch_of hx;obtain⟨_,hz'⟩|⟨_,a7⟩:=E hz
 .exact(h.knows i x (by rw[touchAt_of hz'];exact a6) hmm).imp (·.app _) id
 .rw[(hu z a7).2.1] at a6;cases a6
end
structure Ii (P:D)(zO:Nat->Prop)(d:Nat)(gs:Array J)(W:V)(t:bc)(q:Nat->Nat):Prop where
 lv:Leavers P t gs q
 past:Hy (I9 zO) W.heap.size d t
 quiet:Quiet (I9 zO) t
 Ob:∀(i:Nat) (op:MemOp),t[i]?=U op->op.g<gs.size
 low:∀B,zO B->B<W.heap.size
def Ii.of {P:D}{zO:Nat->Prop}{gs:Array J}{W:V}{t:bc}{q:Nat->Nat}(h:IZ P zO gs W t q):Ii P zO 0 gs W t q:=⟨h.lv,.of h.past,h.quiet,h.Ob,h.low⟩
def Ii.Rb {P:D}{zO:Nat->Prop}{gs:Array J}{W:V}{t:bc}{q:Nat->Nat}(h:Ii P zO 0 gs W t q):IZ P zO gs W t q:=⟨h.lv,h.past.past,h.quiet,h.Ob,h.low⟩
section
variable {P:ED} {SB BB:bn->Bool} {zZ:Bool} {Gn:Nat} {zO:Nat->Prop} {Kp:H6} {dd:Nat}
def Ii.at {gs:Array J}{W:V}{t:bc}{q:Nat->Nat}(h:Ii P.b zO dd gs W t q)(d:Nat):Ii P.b zO dd gs (W.at d) t q:=⟨h.lv,h.past,h.quiet,h.Ob,h.low⟩
def Ii.slip {gs:Array J}{W:V}{t:bc}{q:Nat->Nat}(h:Ii P.b zO dd gs W t q){i:Nat}{g a:J}(aC:0<i)(hi:gs[i]?=U g)(zA:g.status=.running)(h0:gs[0]?=U a)(ha:a.status=.running)(sl:Option (Nat×Nat)) :
  ∃gs' t' q',runT P.b (bh gs W sl) i=(.next (bh gs' W sl),t')/\gs'.size=gs.size/\gs'[0]?=U a/\sumTo gs.size q'<sumTo gs.size q/\Ii P.b zO dd gs' W (t++t') q':=by
 have hq:=h.lv.old i g aC hi;have aH:(i==0)=false:=by simp;omega
 have zY:i<gs.size:=(Az.1 hi).1;cases a7:q i with
 |zero=>rw[a7] at hq;rw[hq.1] at zA;cases zA
 |succ k =>
  rw[a7] at hq;obtain⟨hf,_⟩|⟨_,g',es,hm,aD,hq'⟩:=hq
  .rw[hf] at zA;cases zA
  have aA:=bk (P:=P.b) (sl:=sl) (i:=i) hi (by rw[aH];exact aD W);have aI:sumTo gs.size (upd q i k)+(k+1)=sumTo gs.size q+k:=by
   have:=sumTo_upd q k id zY;simpa [a7] using this
  have a8:∀op∈I i g.frame.fn g.frame.place es,op.g=i:=λop hop=>by obtain⟨e,_,rfl⟩:=Z hop;rfl
  refine⟨_,_,upd q i k,aA,by simp,?_,by omega,⟨λj x hj hx=>?_,λj hj=>?_⟩,h.past.mute (by omega) hm,h.quiet.app λop hop x hx hs=>?_,λj op hop=>?_,h.low⟩
  .have zU:i≠0:=by omega
   rw[Bn zU,BG,h0];simp[woken_run ha]
  .by_cases a6:i=j
   .subst a6;rw[CB (by simpa using zY)] at hx;obtain rfl:=Option.some.inj hx;rw[upd_same,Deaf_own];exact hq'
   .rw[Bn a6,BG] at hx;obtain⟨y,hy,rfl⟩:=Bj.1 hx;have aB:=h.lv.old j y hj hy;rw[bo aB,upd_ne q k (Ne.symm a6),L t a6 _ a8];exact aB
  .rw[L t (g':=i) (by simp at hj;omega) _ a8];exact h.lv.above j (by simpa using hj)
  .obtain⟨e,he,rfl⟩:=Z hop;rw[touch_mute (hm e he)] at hx;cases hx
  .obtain⟨_,aF⟩|⟨_,aG⟩:=E hop
   .simpa using h.Ob j op aF
   .rw[a8 op aG];simpa using zY
def Ii.fin {gs:Array J}{W W':V}{t:bc}{q:Nat->Nat}(h:Ii P.b zO dd gs W t q){x:Lone}{a g2:J}{D6:Em}{w':V}{ES:Array Event}(a7:x.H.EZ=bs)(aC:∀b B,x.β b B->zO B->x.H b=bD)
  (h0:gs[0]?=U a) (e3:stepG P.b bD a W=.go g2 W' ES) (f:Hu P SB zZ Gn x W D6 w' W' ES.toList) (sl:Option (Nat×Nat)) :
  ∃gs' t',runT P.b (bh gs W sl) 0=(.next (bh gs' W' sl),t')/\gs'.size=gs.size/\gs'[0]?=U g2/\Ii P.b zO dd gs' W' (t++t') q:=by
 have aF:ES.toList.toArray=ES:=by simp
 have a8:=cP f a7;rw[aF] at a8;have aA:=eD f a7 (k:=0) (fn:=a.frame.fn) (pos:=a.frame.place);rw[aF] at aA;have aB:∀op∈I 0 a.frame.fn a.frame.place ES,op.g=0:=λop hop=>by obtain⟨e,_,rfl⟩:=Z hop;rfl
 have old:∀b B,D6 b B->B<W.heap.size->x.β b B:=λb B hb hB=>(f.new b B hb).elim id λh=>AI h.2 (Nat.not_le.2 hB);have aD:∀b B,D6 b B->zO B->x.H b=true:=λb B hb hd=>aC b B (old b B hb (h.low B hd)) hd;have a6:∀e∈ES,∀z,(M e).touch?=U z->¬I9 zO z.loc:=by
  intro e he z hz ⟨b,hb,hd⟩;have hE:=f.evs a7 e (by simpa using he);cases hE with
  |@cell a A wr sy hab _ hc _ =>
   have:z.loc=.cell A:=by simp[M,bl] at hz;subst hz;rfl
   rw[this] at hb;cases hb;obtain⟨n,hn,_⟩:=hc;have:=(f.rel.FV _ _ hab (aD _ _ hab hd)).1;rw[this] at hn;simp[Fw] at hn
  |@obj r R wr sy _ _ =>
   have:z.loc=.obj R:=by cases wr<;>cases sy<;>simp[M,bl] at hz<;>subst hz<;>rfl
   rw[this] at hb;cases hb
  |mark hm=>cases hm<;>simp[M,bl] at hz
  |out =>
   have:z.loc=.output:=by simp[M,bl] at hz;subst hz;rfl
   rw[this] at hb;cases hb
 have zY:0<gs.size:=(Az.1 h0).1
 refine⟨_,_,bk (P:=P.b) (sl:=sl) (i:=0) h0 (by simpa using e3),by simp,by simp[zY],
  ⟨⟨λj y hj hy=>?_,λj hj=>?_⟩,(h.past.mono f.SIZE).own (λe he=>⟨λz hz hs=>AI hs (a6 e he z hz),?_⟩) (deafBehind_idle (λe he=>⟨(a8 e he).1,(a8 e he).2.1⟩) dd),h.quiet.app λop hop z hz hs=>?_,λj op hop=>?_,λB hB=>AC (h.low B hB) f.SIZE⟩⟩
 .have zU:0≠j:=by omega
  rw[Bn zU,BG] at hy;obtain⟨z,hz,rfl⟩:=Bj.1 hy;have aG:=h.lv.old j z hj hz;rw[bo aG,L t (by omega) _ aB];exact aG
 .rw[L t (g':=0) (by simp at hj;omega) _ aB];exact h.lv.above j (by simpa using hj)
 .exact aA { g:=0,fn:=a.frame.fn,pos:=a.frame.place,act:=.ofEvent e } (by rw[ofEvents_eq];exact Array.mem_map.2 ⟨e,he,rfl⟩)
 .obtain⟨e,he,rfl⟩:=Z hop;exact AI hs (a6 e he z hz)
 .obtain⟨_,aH⟩|⟨_,aI⟩:=E hop
  .simpa using h.Ob j op aH
  .rw[aB op aI];simpa using zY
def Ii.spec {gs:Array J}{W:V}{t:bc}{q:Nat->Nat}(h:Ii P.b zO dd gs W t q){a g2:J}{β:Em}{es ES:Array Event}
  (h0:gs[0]?=U a) (e3:stepG P.b bD a W=.go g2 W ES) (e5:GM β es ES) (e6:∀e∈ES,∀ad,e.loc=.mark (.acquire ad)\/e.loc=.mark (.releaseMerge ad)->ad.block<W.heap.size) (sl:Option (Nat×Nat)) :
  ∃gs' t',runT P.b (bh gs W sl) 0=(.next (bh gs' W sl),t')/\gs'.size=gs.size/\gs'[0]?=U g2/\Ii P.b zO (b7 dd es) gs' W (t++t') q:=by
 have a6:=e5.mem;have a7:∀op∈I 0 a.frame.fn a.frame.place ES,op.g=0:=λop hop=>by obtain⟨e,_,rfl⟩:=Z hop;rfl
 have zY:0<gs.size:=(Az.1 h0).1
 refine⟨_,_,bk (P:=P.b) (sl:=sl) (i:=0) h0 (by simpa using e3),by simp,by simp[zY],
  ⟨⟨λj y hj hy=>?_,λj hj=>?_⟩,h.past.own (λe he=>⟨λz hz hs=>?_,e5.low e6 e he⟩) (e5.deaf dd),h.quiet.app λop hop z hz hs=>?_,λj op hop=>?_,h.low⟩⟩
 .have zU:0≠j:=by omega
  rw[Bn zU,BG] at hy;obtain⟨z,hz,rfl⟩:=Bj.1 hy;have a8:=h.lv.old j z hj hz;rw[bo a8,L t (by omega) _ a7];exact a8
 .rw[L t (g':=0) (by simp at hj;omega) _ a7];exact h.lv.above j (by simpa using hj)
 .rw[(a6 e he).1] at hz;cases hz
 .obtain⟨e,he,rfl⟩:=Z hop;rw[(a6 e he).1] at hz;cases hz
 .obtain⟨_,aA⟩|⟨_,aB⟩:=E hop
  .simpa using h.Ob j op aA
  .rw[a7 op aB];simpa using zY
def Iy (lib:∀H,Lib P SB H zZ BB Gn)(aI:∀(f:bn) (fn:bW),P.a.funcs[f]?=U fn->fn.body.isNone=bD->P.fs[f]?=U fn){H:Hid}{T:List Frame}{β:Em}{Q:J->V->Prop}(aH:∀g w,Q g w->BB g.frame.fn=bs\/∃f R,Eu.Left P.a f R g w){os:Os}{ou:V}{n b0 B0:Nat}:∀(μ:Wm×Nat) (m:ck) (t:bc),
  (∃gs W sl q x a d,m=bh gs W sl/\gs[0]?=U a/\gs.size=n/\Ii P.b zO d gs W t q/\Tw P SB BB zZ Gn zO Kp x a W/\EO P.a BB Q d x.g x.w/\x.H=H/\x.T=T/\β.le x.β/\(W.os=os/\W.output=ou.output)/\(B0<=W.heap.size/\b0<=x.w.heap.size/\∀b B,x.β b B->β b B\/(b0<=b/\B0<=B))/\μ=(.tree Q (x.g,x.w),sumTo n q)) ->
  ∃N m' t',runNT P.b N m t=(.next m',t')/\∃gs W sl q x a,m'=bh gs W sl/\gs[0]?=U a/\gs.size=n/\Ii P.b zO 0 gs W t' q/\Tw P SB BB zZ Gn zO Kp x a W/\Q x.g x.w/\x.H=H/\x.T=T/\β.le x.β/\(W.os=os/\W.output=ou.output)/\(B0<=W.heap.size/\b0<=x.w.heap.size/\∀b B,x.β b B->β b B\/(b0<=b/\B0<=B)):=by
 have wf:WellFounded (Prod.Lex (J2 P.a) (·<·:Nat->Nat->Prop)):=(Prod.lex ⟨_,J2.wf P.a⟩ Nat.lt_wfRel).wf;refine jP (P:=P.b) wf (λμ m t=>∃gs W sl q x a d,m=bh gs W sl/\gs[0]?=U a/\gs.size=n/\Ii P.b zO d gs W t q/\Tw P SB BB zZ Gn zO Kp x a W/\EO P.a BB Q d x.g x.w/\x.H=H/\x.T=T/\β.le x.β/\(W.os=os/\W.output=ou.output)/\(B0<=W.heap.size/\b0<=x.w.heap.size/\∀b B,x.β b B->β b B\/(b0<=b/\B0<=B))/\μ=(.tree Q (x.g,x.w),sumTo n q))
  (λm t=>∃gs W sl q x a,m=bh gs W sl/\gs[0]?=U a/\gs.size=n/\Ii P.b zO 0 gs W t q/\Tw P SB BB zZ Gn zO Kp x a W/\Q x.g x.w/\x.H=H/\x.T=T/\β.le x.β/\(W.os=os/\W.output=ou.output)/\(B0<=W.heap.size/\b0<=x.w.heap.size/\∀b B,x.β b B->β b B\/(b0<=b/\B0<=B))) ?_
 rintro μ m t ⟨gs,W,sl,q,x,a,d,rfl,h0,hn,hb,ht,hr,eH,eT,zX,aA,zx,rfl⟩;have aB:=Dr hr;have a8:a.status=.running:=ht.gl.status.2;have aJ:∀g∈gs,awake g:=by
  intro g hg;obtain⟨i,hi,rfl⟩:=bq.1 hg;obtain rfl|aC:=Bs i
  .have:gs[0]=a:=by simpa [AK hi] using h0
   rw[this];exact b6 (.inl a8)
  .exact b6 ((hb.lv.old i _ aC (AK hi)).status.elim .inl λx=>.inr (.inr x))
 by_cases aD:d=0/\Q x.g x.w
 .obtain⟨rfl,hq⟩:=aD;exact .inl ⟨gs,W,sl,q,x,a,rfl,h0,hn,hb,ht,hq,eH,eT,zX,aA,zx⟩
 refine .inr ?_;obtain⟨i,g,e,sl',hi,hg,zG⟩:=crowd_pick (P:=P.b) (w:=W) (sl:=sl) aJ ⟨0,a,h0,a8⟩;obtain rfl|aC:=Bs i
 .generalize a7:x.g=gx at hr;generalize aF:x.w=wx at hr;cases hr with
  |fin hq=>exact AI ⟨rfl,by rw[a7,aF];exact hq⟩ aD
  |next ng nw f1 f2 f3 =>
   subst a7 aF;have hq:¬Q x.g x.w:=λhq=>by
    obtain h|⟨f,R,h⟩:=aH _ _ hq
    .have:=f1.1;rw[h] at this;cases this
    .obtain⟨⟨es,e9⟩,n9⟩:=f2 x.w.tape x.w.drawn;exact Eu.Left.last h (_,_) ⟨x.w.tape,x.w.drawn,es,e9,n9⟩
   have a6:=ht.at e;have hb':=hb.at e;obtain⟨g',w',es,D6,g2,W',ES,e1,e2,e3,e4,e5⟩:=JL (lib x.H) (main2:=bD) f1 f2 a6.gl a6.wl;have f:Hu P SB zZ Gn x (W.at e) D6 w' W' ES.toList:=e5;obtain⟨gs',t',k1,k2,k3,k4⟩:=hb'.fin a6.tw a6.dead h0 e3 f sl';obtain⟨k5,k6⟩:=Ko f a6.keep a6.FI;have aG:∀b B,D6 b B->zO B->x.H b=true:=λb B hb1 hd=>(f.new b B hb1).elim (λh1=>ht.dead b B h1 hd) λh1=>AI h1.2 (Nat.not_le.2 (hb'.low B hd))
   obtain⟨rfl,rfl⟩:=e2;refine⟨_,_,(.tree Q (ng (W.at e).tape (W.at e).drawn,nw (W.at e).tape (W.at e).drawn),sumTo n q),by rw[zG,k1],Prod.Lex.left _ _ ⟨.tree hq ⟨(W.at e).tape,(W.at e).drawn,es,e1,e4.callers.ne⟩,aB⟩,gs',W',sl',q,⟨_,_,x.H,D6,x.T⟩,g2,d,rfl,k3,k2.trans hn,k4,⟨e4,f.rel,ht.tw,aG,k5,k6⟩,f3 _ _,eH,eT,Em.le_trans zX f.le,⟨f.OS.trans aA.1,f.OUT.trans aA.2⟩,⟨AH zx.1 f.SIZE,AH zx.2.1 f.size,λb B hb1=>(f.new b B hb1).elim (zx.2.2 b B) λh=>.inr ⟨AH zx.2.1 h.1,AH zx.1 h.2⟩⟩,rfl⟩
  |@spec _ b a' ops i0 rest k cs _ o es v f1 f2 f3 f4 f5 f6 f7 =>
   subst aF;have hq:¬Q x.g x.w:=λhq=>by
    obtain this|⟨f,R,w9,v9,fr,_,_,h9,_,hm,_⟩:=aH _ _ hq
    .rw[a7] at this;exact AI f1 (by rw[show b.fn=(EX (b.at a' (.inRegion ops (i0::rest)::k)) cs).frame.fn from rfl,this];decide)
    .rw[a7] at h9;have e9:b.at a' (.inRegion ops (i0::rest)::k)=fr:=AX Goroutine.frame h9;rw[<-e9] at hm;cases hm
   have a6:=ht.at e;have hb':=hb.at e;have zL:FX P SB x.H zZ BB x.T x.β (EX (b.at a' (.inRegion ops (i0::rest)::k)) cs) a:=a7▸a6.gl;obtain⟨g2,ES,e3,e4,e5,e6⟩:=Lq aI (main2:=bD) f1 zL a6.wl f3 f4 f5 f6;obtain⟨gs',t',k1,k2,k3,k4⟩:=hb'.spec h0 e3 e5 e6 sl';refine⟨_,_,(.tree Q (EX (b.at (a'.put o.dst v) (.inRegion ops rest::k)) cs,on x.w (W.at e).tape (W.at e).drawn),sumTo n q),by rw[zG,k1],Prod.Lex.left _ _ ⟨.tree (by have:=hq;rwa [a7] at this) ⟨(W.at e).tape,(W.at e).drawn,es,?_,f2⟩,by rw[a7] at aB;exact aB⟩,gs',W.at e,sl',q,⟨EX (b.at (a'.put o.dst v) (.inRegion ops rest::k)) cs,on x.w (W.at e).tape (W.at e).drawn,x.H,x.β,x.T⟩,g2,b7 d es,rfl,k3,k2.trans hn,k4,⟨e4,a6.wl.same rfl rfl a6.wl.env,ht.tw,ht.dead,a6.keep,a6.FI⟩,f7 _ _,eH,eT,zX,aA,zx,rfl⟩
   exact(f6.same Di).step f3 f4 f5
 .obtain⟨gs',t',q',k1,k2,k3,k4,k5⟩:=(hb.at e).slip aC hi hg h0 a8 sl';exact⟨_,_,(.tree Q (x.g,x.w),sumTo n q'),by rw[zG,k1],Prod.Lex.right _ (by rw[<-hn];exact k4),gs',W.at e,sl',q',x,a,d,rfl,k3,k2.trans hn,k5,ht.at e,hr,eH,eT,zX,aA,zx,rfl⟩
end
end Go.Co
namespace Go.Sq
open Go.Proofs
open Go.RowKit
def eR {p q:D}(h:p.toTables=q.toTables)(t:br)(w:V):ak p (typeInfo t) w=ak q (typeInfo t) w:=by
 simp only[typeInfo,G,run_program,C,h];cases Tables.info? q.toTables t<;>rfl
def kO {p q:D}(h:p.toTables=q.toTables)(t:br):p.underlying t=q.underlying t:=by simp only[Program.underlying,h]
def oy {p q:D}(h:p.toTables=q.toTables)(t:br)(w:V):ak p (underlying t) w=ak q (underlying t) w:=by
 simp only[underlying,G,run_program,C,kO h];cases q.underlying t<;>rfl
def qS {p q:D}(h:p.toTables=q.toTables)(t:br)(w:V):ak p (isAgg t) w=ak q (isAgg t) w:=by
 unfold isAgg;rw[G,G,oy h t w];generalize (underlying t).run q w=r;cases r with
 |ok d w1=>cases d<;>simp only[C,bw]
 |halt _ _=>simp only[C]
def pw {p q:D}(h:p.toTables=q.toTables)(t:br)(w:V):ak p (cf t) w=ak q (cf t) w:=by
 unfold cf;rw[G,G,eR h t w];generalize (cq t).run q w=r;cases r with
 |ok d w1=>simp only[C,bw]
 |halt _ _=>simp only[C]
def lE {p q:D}(h:p.toTables=q.toTables)(t:br)(w:V):ak p (zeroValue t) w=ak q (zeroValue t) w:=by
 unfold zeroValue;rw[G,G,eR h t w];generalize (cq t).run q w=r;cases r with
 |ok i w1 =>
  simp only[C];cases i.zero with
  |some v2=>simp only[bw]
  |none=>simp[unsupported]
 |halt _ _=>simp only[C]
def I7 (i:bn):Bool:=i==53||i==88||i==89||i==90||i==91||i==3
noncomputable def casBody (x y:Int):Code:=.seq (.region 0 #[{ dst:=U 2,op:=.fieldAddr 97 (.tmp 0) 1,type:=0,pos := "",after:=#[],guard:=none },{ dst:=U 1,op:=.call { callee:=.value (.func 153),args:=#[.tmp 2,.const (.int .i32 x),.const (.int .i32 y)],argTypes:=#[212,21,21] },type:=4,pos := "",after:=#[{ on:=0,ground:=.data }],guard:=none }] bs)
 (.cond (.tmp 1) .ret (.refuse "held"))
noncomputable def NR (i:bn)(f:bW):Func:=if i==6||I7 i then { f with body:=U (.refuse "put aside") } else if i==85 then { f with body:=U (casBody 0 1) } else if i==86 then { f with body:=U (casBody 1 0) } else f
def MP (p:D)(g:Nat->bW->bW):Program:=⟨p.toTables,p.funcs.mapIdx g⟩
def qT (p:D)(g:Nat->bW->bW)(i:Nat):(MP p g).funcs[i]?=(p.funcs[i]?).map (g i):=by
 show(p.funcs.mapIdx g)[i]?=_;rw[C0]
def qU (p:D)(g:Nat->bW->bW):(MP p g).toTables=p.toTables:=rfl
def lF {p:D}{g:Nat->bW->bW}{n:Nat}(h:p.globals.size=n):(MP p g).globals.size=n:=h
noncomputable def DU:Program:=MP Tryz.prog NR
def Sq.get (i:Nat):DU.funcs[i]?=(Tryz.prog.funcs[i]?).map (NR i):=by rw[DU];exact qT _ _ _
def Sq.fn {i:Nat}{f:bW}(h:Tryz.prog.funcs[i]?=U f)(hi:(i==6||I7 i||i==85||i==86)=bs):DU.funcs[i]?=U f:=by
 rw[Sq.get,h];simp only[Cy] at hi;simp only[BW,NR,hi.1.1.1,hi.1.1.2,hi.1.2,hi.2,Bool.or_self,AZ,if_false]
def Sq.put {i:Nat}{f:bW}(h:Tryz.prog.funcs[i]?=U f)(hi:(i != 6&&I7 i)=bD):DU.funcs[i]?=U { f with body:=U (.refuse "put aside") }:=by
 rw[Sq.get,h];simp only[AN,bne_iff_ne,ne_eq] at hi;have h9:(i==6)=false:=by simpa using hi.1
 simp only[BW,NR,h9,hi.2,Bool.or_true,if_true]
def DL:DU.funcs[6]?=U { Tryz.f6 with body:=U (.refuse "put aside") }:=by
 rw[Sq.get,Tryz.func6];rfl
noncomputable def DC:Func:={ Tryz.f85 with body:=U (casBody 0 1) }
noncomputable def Dz:Func:={ Tryz.f86 with body:=U (casBody 1 0) }
def Sq.f85:DU.funcs[85]?=U DC:=by
 rw[Sq.get,Tryz.func85];rfl
def Sq.f86:DU.funcs[86]?=U Dz:=by
 rw[Sq.get,Tryz.func86];rfl
def DD:DC.ntmps=6:=rfl
def DB:Dz.ntmps=6:=rfl
def Do:DU.toTables=Tryz.prog.toTables:=by rw[DU];exact qU _ _
@[go_sem] theorem Sq.typeInfo (t:TypeId)(w:World):Sem.run DU (typeInfo t) w=Sem.run Tryz.prog (typeInfo t) w:=eR Do t w
@[go_sem] theorem Sq.run (t:TypeId)(w:World):Sem.run DU (underlying t) w=Sem.run Tryz.prog (underlying t) w:=oy Do t w
@[go_sem] theorem Dk (t:TypeId)(w:World):Sem.run DU (isAgg t) w=Sem.run Tryz.prog (isAgg t) w:=qS Do t w
@[go_sem] theorem Sq.sizeOf (t:TypeId)(w:World):Sem.run DU (Go.sizeOf t) w=Sem.run Tryz.prog (Go.sizeOf t) w:=pw Do t w
@[go_sem] theorem Sq.zeroValue (t:TypeId)(w:World):Sem.run DU (Go.zeroValue t) w=Sem.run Tryz.prog (Go.zeroValue t) w:=lE Do t w
@[go_sem] theorem Sq.underlying (t:TypeId):DU.underlying t=Tryz.prog.underlying t:=kO Do t
@[go_sem] theorem Sq.globals_size:DU.globals.size=0:=(by rw[DU];exact lF Tryz.globals_size)
def af {P:D} {i:Nat} {f:bW} (h:P.funcs[i]?=U f) (hn:(f.name == "runtime.NumGoroutine")=false:=by decide +kernel) (hb:f.body.isSome=true:=by rfl) (args:Array Value) (w:V):ak P (callFunc i args) w=.ok (.enter i args) w:=by
 have a6:¬f.name = "runtime.NumGoroutine":=by simpa using hn
 have hb':f.body≠none:=Option.isSome_iff_ne_none.1 hb;simp[callFunc,h,a6,hb']
def Sq.func4:=Sq.fn Tryz.func4 rfl
def Sq.func8:=Sq.fn Tryz.func8 rfl
def Sq.func7:=Sq.fn Tryz.func7 rfl
def Sq.func11:=Sq.fn Tryz.func11 rfl
def Sq.func17:=Sq.fn Tryz.func17 rfl
@[go_sem] def Sq.call17:=af Sq.func17
def Sq.func19:=Sq.fn Tryz.func19 rfl
def Sq.func5:=Sq.fn Tryz.func5 rfl
def Sq.func9:=Sq.fn Tryz.func9 rfl
def Sq.func10:=Sq.fn Tryz.func10 rfl
@[go_sem] def Sq.call10:=af Sq.func10
def Sq.func12:=Sq.fn Tryz.func12 rfl
@[go_sem] def Sq.call12:=af Sq.func12
def Sq.func13:=Sq.fn Tryz.func13 rfl
@[go_sem] def Sq.call13:=af Sq.func13
def Sq.func14:=Sq.fn Tryz.func14 rfl
def Sq.func15:=Sq.fn Tryz.func15 rfl
@[go_sem] def Sq.call15:=af Sq.func15
def Sq.func16:=Sq.fn Tryz.func16 rfl
def Sq.func18:=Sq.fn Tryz.func18 rfl
@[go_sem] def Sq.call18:=af Sq.func18
def Sq.func84:=Sq.fn Tryz.func84 rfl
@[go_sem] def Sq.call84:=af Sq.func84
def Sq.func51:=Sq.fn Tryz.func51 rfl
@[go_sem] def Sq.call51:=af Sq.func51
def Sq.func29:=Sq.fn Tryz.func29 rfl
@[go_sem] def Sq.call29:=af Sq.func29
def Sq.func21:=Sq.fn Tryz.func21 rfl
@[go_sem] def Sq.call21:=af Sq.func21
def Sq.func23:=Sq.fn Tryz.func23 rfl
@[go_sem] def Sq.call23:=af Sq.func23
def Sq.func24:=Sq.fn Tryz.func24 rfl
@[go_sem] def Sq.call24:=af Sq.func24
def Sq.func25:=Sq.fn Tryz.func25 rfl
@[go_sem] def Sq.call25:=af Sq.func25
def Sq.func26:=Sq.fn Tryz.func26 rfl
@[go_sem] def Sq.call26:=af Sq.func26
def Sq.func27:=Sq.fn Tryz.func27 rfl
@[go_sem] def Sq.call27:=af Sq.func27
def Sq.func31:=Sq.fn Tryz.func31 rfl
@[go_sem] def Sq.call31:=af Sq.func31
def Sq.func46:=Sq.fn Tryz.func46 rfl
@[go_sem] def Sq.call46:=af Sq.func46
def Sq.func54:=Sq.fn Tryz.func54 rfl
def Sq.func55:=Sq.fn Tryz.func55 rfl
@[go_sem] def Sq.call55:=af Sq.func55
def Sq.func56:=Sq.fn Tryz.func56 rfl
def Sq.func28:=Sq.fn Tryz.func28 rfl
@[go_sem] def Sq.call28:=af Sq.func28
def Sq.func60:=Sq.fn Tryz.func60 rfl
@[go_sem] def Sq.call60:=af Sq.func60
def Sq.func62:=Sq.fn Tryz.func62 rfl
def Sq.func63:=Sq.fn Tryz.func63 rfl
@[go_sem] def Sq.call63:=af Sq.func63
def Sq.func41:=Sq.fn Tryz.func41 rfl
@[go_sem] def Sq.call41:=af Sq.func41
def Sq.func30:=Sq.fn Tryz.func30 rfl
@[go_sem] def Sq.call30:=af Sq.func30
def Sq.func32:=Sq.fn Tryz.func32 rfl
@[go_sem] def Sq.call32:=af Sq.func32
def Sq.func33:=Sq.fn Tryz.func33 rfl
@[go_sem] def Sq.call33:=af Sq.func33
def Sq.func34:=Sq.fn Tryz.func34 rfl
@[go_sem] def Sq.call34:=af Sq.func34
def Sq.func35:=Sq.fn Tryz.func35 rfl
@[go_sem] def Sq.call35:=af Sq.func35
def Sq.func36:=Sq.fn Tryz.func36 rfl
@[go_sem] def Sq.call36:=af Sq.func36
def Sq.func37:=Sq.fn Tryz.func37 rfl
@[go_sem] def Sq.call37:=af Sq.func37
def Sq.func38:=Sq.fn Tryz.func38 rfl
@[go_sem] def Sq.call38:=af Sq.func38
def Sq.func39:=Sq.fn Tryz.func39 rfl
@[go_sem] def Sq.call39:=af Sq.func39
def Sq.func40:=Sq.fn Tryz.func40 rfl
@[go_sem] def Sq.call40:=af Sq.func40
def Sq.func42:=Sq.fn Tryz.func42 rfl
@[go_sem] def Sq.call42:=af Sq.func42
def Sq.func43:=Sq.fn Tryz.func43 rfl
@[go_sem] def Sq.call43:=af Sq.func43
def Sq.func44:=Sq.fn Tryz.func44 rfl
@[go_sem] def Sq.call44:=af Sq.func44
def Sq.func45:=Sq.fn Tryz.func45 rfl
@[go_sem] def Sq.call45:=af Sq.func45
def Sq.func47:=Sq.fn Tryz.func47 rfl
@[go_sem] def Sq.call47:=af Sq.func47
def Sq.func48:=Sq.fn Tryz.func48 rfl
@[go_sem] def Sq.call48:=af Sq.func48
def Sq.func49:=Sq.fn Tryz.func49 rfl
@[go_sem] def Sq.call49:=af Sq.func49
def Sq.func50:=Sq.fn Tryz.func50 rfl
@[go_sem] def Sq.call50:=af Sq.func50
def Sq.func52:=Sq.fn Tryz.func52 rfl
@[go_sem] def Sq.call52:=af Sq.func52
def Sq.func79:=Sq.fn Tryz.func79 rfl
@[go_sem] def Sq.call79:=af Sq.func79
def Sq.func66:=Sq.fn Tryz.func66 rfl
@[go_sem] def Sq.call66:=af Sq.func66
def Sq.func68:=Sq.fn Tryz.func68 rfl
@[go_sem] def Sq.call68:=af Sq.func68
def Sq.func69:=Sq.fn Tryz.func69 rfl
@[go_sem] def Sq.call69:=af Sq.func69
def Sq.func81:=Sq.fn Tryz.func81 rfl
@[go_sem] def Sq.call81:=af Sq.func81
def Sq.func82:=Sq.fn Tryz.func82 rfl
@[go_sem] def Sq.call82:=af Sq.func82
def Sq.func67:=Sq.fn Tryz.func67 rfl
@[go_sem] def Sq.call67:=af Sq.func67
def Sq.func96:=Sq.fn Tryz.func96 rfl
def Sq.func64:=Sq.fn Tryz.func64 rfl
@[go_sem] def Sq.call64:=af Sq.func64
def Sq.func92:=Sq.fn Tryz.func92 rfl
def Sq.func93:=Sq.fn Tryz.func93 rfl
def Sq.func65:=Sq.fn Tryz.func65 rfl
@[go_sem] def Sq.call65:=af Sq.func65
def Sq.func76:=Sq.fn Tryz.func76 rfl
@[go_sem] def Sq.call76:=af Sq.func76
def Sq.func85:DU.funcs[85]?=U DC:=Sq.f85
@[go_sem] def Sq.call85:=af Sq.func85
def Sq.func86:DU.funcs[86]?=U Dz:=Sq.f86
@[go_sem] def Sq.call86:=af Sq.func86
def Sq.func70:=Sq.fn Tryz.func70 rfl
@[go_sem] def Sq.call70:=af Sq.func70
def Sq.func71:=Sq.fn Tryz.func71 rfl
@[go_sem] def Sq.call71:=af Sq.func71
def Sq.func72:=Sq.fn Tryz.func72 rfl
def Sq.func73:=Sq.fn Tryz.func73 rfl
def Sq.func74:=Sq.fn Tryz.func74 rfl
@[go_sem] def Sq.call74:=af Sq.func74
def Sq.func75:=Sq.fn Tryz.func75 rfl
@[go_sem] def DO:=af Sq.func75
def Sq.func77:=Sq.fn Tryz.func77 rfl
@[go_sem] def Sq.call77:=af Sq.func77
def Sq.func78:=Sq.fn Tryz.func78 rfl
@[go_sem] def Sq.call78:=af Sq.func78
def Sq.func80:=Sq.fn Tryz.func80 rfl
@[go_sem] def Sq.call80:=af Sq.func80
def Sq.func83:=Sq.fn Tryz.func83 rfl
@[go_sem] def Sq.call83:=af Sq.func83
def Sq.func87:=Sq.fn Tryz.func87 rfl
@[go_sem] def Sq.call87:=af Sq.func87
def Sq.func111:=Sq.fn Tryz.func111 rfl
@[go_sem] def Sq.call111:=af Sq.func111
def Sq.func112:=Sq.fn Tryz.func112 rfl
@[go_sem] def Sq.call112:=af Sq.func112
def Sq.func113:=Sq.fn Tryz.func113 rfl
@[go_sem] def Sq.call113:=af Sq.func113
def Sq.func114:=Sq.fn Tryz.func114 rfl
@[go_sem] def Sq.call114:=af Sq.func114
def Sq.func97:=Sq.fn Tryz.func97 rfl
def Sq.func94:=Sq.fn Tryz.func94 rfl
@[go_sem] def Sq.call94:=af Sq.func94
def Sq.func95:=Sq.fn Tryz.func95 rfl
@[go_sem] def Sq.call95:=af Sq.func95
def Sq.func110:=Sq.fn Tryz.func110 rfl
@[go_sem] def Sq.call110:=af Sq.func110
def Sq.func98:=Sq.fn Tryz.func98 rfl
def Sq.func99:=Sq.fn Tryz.func99 rfl
def Sq.func100:=Sq.fn Tryz.func100 rfl
def Sq.func101:=Sq.fn Tryz.func101 rfl
def Sq.func102:=Sq.fn Tryz.func102 rfl
def Sq.func103:=Sq.fn Tryz.func103 rfl
def Sq.func104:=Sq.fn Tryz.func104 rfl
def Sq.func105:=Sq.fn Tryz.func105 rfl
def Sq.func106:=Sq.fn Tryz.func106 rfl
def Sq.func107:=Sq.fn Tryz.func107 rfl
def Sq.func108:=Sq.fn Tryz.func108 rfl
def Sq.func109:=Sq.fn Tryz.func109 rfl
def Sq.func117:=Sq.fn Tryz.func117 rfl
@[go_sem] def Sq.call117:=af Sq.func117
def Sq.func136:=Sq.fn Tryz.func136 rfl
@[go_sem] def Sq.call136:=af Sq.func136
def Sq.func137:=Sq.fn Tryz.func137 rfl
@[go_sem] def Sq.call137:=af Sq.func137
def Sq.func138:=Sq.fn Tryz.func138 rfl
@[go_sem] def Sq.call138:=af Sq.func138
def Sq.func139:=Sq.fn Tryz.func139 rfl
@[go_sem] def Sq.call139:=af Sq.func139
def Sq.func153:=Sq.fn Tryz.func153 rfl
def Sq.func140:=Sq.fn Tryz.func140 rfl
def Sq.func141:=Sq.fn Tryz.func141 rfl
def Sq.func142:=Sq.fn Tryz.func142 rfl
def Sq.func143:=Sq.fn Tryz.func143 rfl
def Sq.func144:=Sq.fn Tryz.func144 rfl
def Sq.func145:=Sq.fn Tryz.func145 rfl
def Sq.func146:=Sq.fn Tryz.func146 rfl
def Sq.func147:=Sq.fn Tryz.func147 rfl
def Sq.func148:=Sq.fn Tryz.func148 rfl
def Sq.func149:=Sq.fn Tryz.func149 rfl
def Sq.func150:=Sq.fn Tryz.func150 rfl
def Sq.func151:=Sq.fn Tryz.func151 rfl
def Sq.func152:=Sq.fn Tryz.func152 rfl
def Sq.func162:=Sq.fn Tryz.func162 rfl
@[go_sem] def Sq.call162:=af Sq.func162
def Sq.func163:=Sq.fn Tryz.func163 rfl
def Sq.func164:=Sq.fn Tryz.func164 rfl
def Sq.func165:=Sq.fn Tryz.func165 rfl
def Sq.func166:=Sq.fn Tryz.func166 rfl
def Sq.func174:=Sq.fn Tryz.func174 rfl
def Sq.underlying22:DU.underlying 22=U (.slice 3):=(Sq.underlying 22).trans Tryz.underlying22
def Sq.underlying26:DU.underlying 26=U (.slice 22):=(Sq.underlying 26).trans Tryz.underlying26
def Sq.underlying23:DU.underlying 23=U (.slice 49):=(Sq.underlying 23).trans Tryz.underlying23
def Sq.underlying135:DU.underlying 135=U (.slice 70):=(Sq.underlying 135).trans Tryz.underlying135
structure EG where
 heads:Int
 E3:Int
 most:Int
 off:List Int
instance:Inhabited EG:=⟨⟨0,0,0,[]⟩⟩
structure D9 where
 DW:List Int
 DV:List EG
def D9.h (c:D9)(i:Nat):EG:=c.DV[i]?.getD default
def IK:List Int->List Int->Int
 |[],[]=>0
 |[],_::_=>-1
 |_::_,[]=>1
 |a::l,b::m=>if a<b then -1 else if b<a then 1 else IK l m
def lW (l:List Int):IK [] l=if l.length=0 then 0 else -1:=by cases l<;>simp[IK]
def qW (l:List Int)(h:0<l.length):IK l []=1:=by cases l with
 |nil=>simp at h
 |cons a l=>rfl
def qX (l m:List Int)(k:Nat)(h1:k<l.length)(h2:k<m.length):IK (l.drop k) (m.drop k)=if l[k]?.getD 0<m[k]?.getD 0 then -1 else if m[k]?.getD 0<l[k]?.getD 0 then 1 else IK (l.drop (k+1)) (m.drop (k+1)):=by
 rw[C8 h1,C8 h2,AB h1,AB h2]
 rfl
def dQ (a b:Int):Int:=if a<b then -1 else if b<a then 1 else 0
def bz {α:Type}(d:α)(l:List α)(k:Nat)(h:k<l.length):l.take (k+1)=l.take k++[l[k]?.getD d]:=by
 rw[BZ,AB h];rfl
def jg (l:List Int)(k:Nat)(h:k<l.length):(l.take (k+1)).sum=(l.take k).sum+l[k]?.getD 0:=by
 rw[bz 0 l k h,List.sum_append];simp
def Hb (a b:Int)(l:List Int)(h:∀x∈l,a<=x/\x<=b):l.length*a<=l.sum/\l.sum<=l.length*b:=by
 induction l with
 |nil=>simp
 |cons x l ih =>
  obtain⟨h1,h2⟩:=ih λy hy=>h y (Ci _ hy);obtain⟨h3,h4⟩:=h x B4;simp only[AM,List.sum_cons,C9,Int.natCast_one,Int.add_mul,Int.one_mul] at *;omega
def Ge (l:List Int)(k:Nat)(h:k<l.length):l[k]?.getD 0∈l:=by
 rw[AB h];exact Bh h
structure D9.Ok (c:D9):Prop where
 n1:1<=c.DW.length
 n5:c.DW.length<=5
 need:∀x∈c.DW,0<=x/\x<=12
 h1:1<=c.DV.length
 h4:c.DV.length<=4
 heads:∀h∈c.DV,1<=h.heads/\h.heads<=40
 E3:∀h∈c.DV,1<=h.E3/\h.E3<=5
 most:∀h∈c.DV,0<=h.most/\h.most<=5
 off:∀h∈c.DV,h.off.length<=5/\∀x∈h.off,0<=x/\x<c.DW.length
def D9.Gs (c:D9){i:Nat}(hi:i<c.DV.length):c.h i∈c.DV:=by
 unfold D9.h;rw[AB hi];exact Bh hi
def below (x k:Nat):List Int:=((b9 k).filter x.testBit).map (λn:Nat=>(n:Int))
def wl (x:Nat):List Int:=below x 4
def Kf {x:Nat}{z:Int}(h:z∈wl x):∃n:Nat,z=n/\n<4/\x.testBit n=true:=by
 unfold wl below at h;simp only[Bf,Ca,Bu] at h;obtain⟨n,⟨h1,h2⟩,rfl⟩:=h;exact⟨n,rfl,h1,h2⟩
def aY (x:Nat):(wl x).length<=4:=by
 unfold wl below;rw[Bq];exact AH (CM _ _) (by simp)
def D9.has (c:D9)(x:Nat):Prop:=x<2 ^ c.DV.length
def gP {x n m:Nat}(h:x<2 ^ m)(hb:x.testBit n=bD):n<m:=by
 obtain h1|h1:=Br n m
 .exact h1
 .rw[Nat.testBit_lt_two_pow (AC h (BN (by omega) h1))] at hb;cases hb
def Dp {c:D9}(h4:c.DV.length<=4){x:Nat}(hx:c.has x):x<16:=AC hx (BN (by omega) h4)
def Kg {c:D9}{x:Nat}(hx:c.has x){k:Nat}(hk:k<(wl x).length):∃n:Nat,(wl x)[k]?.getD 0=n/\n<c.DV.length/\n<4/\x.testBit n=true:=by
 obtain⟨n,h1,h2,h3⟩:=Kf (Ge _ k hk);exact⟨n,h1,gP hx h3,h2,h3⟩
def D9.E3 (c:D9)(x:Nat):Int:=((wl x).map λh=>(c.h h.toNat).E3).sum
def D9.JZ (c:D9)(x:Nat):List Int:=(wl x).map λh=>(c.h h.toNat).E3
def D9.Kh (c:D9)(x:Nat):(c.JZ x).length=(wl x).length:=Bq ..
def D9.OX (c:D9){x k n:Nat}(hk:k<(wl x).length)(hn:(wl x)[k]?.getD 0=n):(c.JZ x)[k]?.getD 0=(c.h n).E3:=by
 unfold D9.JZ;rw[BK];rw[AB hk] at hn ⊢;simp only[AY] at hn;simp[hn]
def DG (c:D9)(x:Nat):c.E3 x=(c.JZ x).sum:=rfl
def MQ (c:D9){x:Nat}(hx:c.has x)(hd:∀h∈c.DV,1<=h.E3/\h.E3<=5)(k:Nat):0<=((c.JZ x).take k).sum/\((c.JZ x).take k).sum<=20:=by
 have hb:=Hb 0 5 ((c.JZ x).take k) λy hy=>by
  obtain⟨z,hz,rfl⟩:=Bf.1 (Cz hy);obtain⟨n,rfl,_,h3⟩:=Kf hz;have:=hd _ (c.Gs (gP hx h3));simp only[CY];omega
 have hl:((c.JZ x).take k).length<=4:=by
  rw[CT,c.Kh];have:=aY x;omega
 omega
def Gt (r:Nat->Nat)(n:Nat):Nat->Nat
 |0=>0
 |k+1=>Gt r n k+if(r k).testBit n then 1 else 0
def qY (r:Nat->Nat)(n k:Nat):Gt r n k<=k:=by
 induction k with
 |zero=>exact AA _
 |succ k ih=>simp only[Gt];split<;>omega
def Qu (c:D9)(night n:Nat):Bool:=decide ((night:Int)∈(c.h n).off)
def fR (r:Nat->Nat)(night n:Nat):Bool:=decide (0<night)&&(r (night-1)).testBit n
def qZ (c:D9)(r:Nat->Nat)(night n:Nat):Bool:=decide ((c.h n).most<=(Gt r n night:Int))
def Gu (c:D9)(r:Nat->Nat)(night:Nat):Nat->Nat->Bool
 |0,n=>Qu c night n
 |1,n=>fR r night n
 |_,n=>qZ c r night n
def breaks (c:D9)(r:Nat->Nat)(night i:Nat):Option Int:=(wl (r night)).find? λh=>Gu c r night i h.toNat
def D9.need (c:D9)(night:Nat):Int:=c.DW[night]?.getD 0
def Ej (c:D9)(r:Nat->Nat)(night:Nat):Int×Int×Int :=
 match breaks c r night 0 with
 |some h=>(1,night,h)
 |none=>match breaks c r night 1 with
  |some h=>(2,night,h)
  |none=>match breaks c r night 2 with
   |some h=>(3,night,h)
   |none=>if c.E3 (r night)<c.need night then(4,night,-1) else(0,-1,-1)
def dp {l:List Int}{p:Int->Bool}{k:Nat}(hk:k<l.length)(hn:(l.take k).find? p=none)(hp:p (l[k]?.getD 0)=bD):l.find? p=U (l[k]?.getD 0):=by
 have e:l.find? p=(l.take k++l.drop k).find? p:=by rw[List.take_append_drop]
 rw[e,bA,hn,C8 hk,List.find?_cons];rw[AB hk] at hp ⊢;simp only[AY] at hp ⊢;simp only[hp,Option.none_or]
def cJ {l:List Int}{p:Int->Bool}{k:Nat}(hk:k<l.length)(hn:(l.take k).find? p=none)(hp:p (l[k]?.getD 0)=bs):(l.take (k+1)).find? p=none:=by
 rw[bz 0 l k hk,bA,hn];simp[hp]
def Ez (n lo hi:Int):Int:=if n<lo then 7 else if hi<n then 6 else 0
def FY (l:List Int)(n:Int)(i:Nat):Int:=if 0<=l[i]?.getD 0/\l[i]?.getD 0<=n-1 then(if 0<i/\l[i]?.getD 0<=l[i-1]?.getD 0 then 5 else 0) else 3
def bF (l:List Int):Int:=(l.find? (· != 0)).getD 0
def Fi (l:List Int)(n:Int):Int:=bF ((b9 l.length).map (FY l n))
def FC (x lo hi:Int):Bool:=decide (lo<=x)&&decide (x<=hi)
def Fq (n:Int)(h:EG):Int:=if FC h.heads 1 40&&FC h.E3 1 5&&FC h.most 0 5 then Fi h.off n else 1
def Eg (c:D9):Int :=
 if Ez c.DW.length 1 5≠0 then Ez c.DW.length 1 5 else if(c.DW.all λx=>FC x 0 12)=bs then 1
 else if Ez c.DV.length 1 4≠0 then Ez c.DV.length 1 4 else bF (c.DV.map (Fq c.DW.length))
def fN {l:List Int}(h:∀x∈l,x=0):bF l=0:=by
 unfold bF;rw[Cu.2 λx hx=>by simp[h x hx]];rfl
def be {l:List Int}{k:Nat}(hk:k<l.length)(hn:∀i,i<k->l[i]?.getD 0=0)(hp:l[k]?.getD 0≠0):bF l=l[k]?.getD 0:=by
 unfold bF;rw[dp hk (Cu.2 λx hx=>?_) (by simpa using hp)]
 .rfl
 .obtain⟨i,hi,rfl⟩:=List.mem_take_iff_getElem.1 hx;have:=hn i (by omega);rw[AB (by omega)] at this;simpa using this
def dc {l:List Int}(hn:∀i,i<l.length->l[i]?.getD 0=0):bF l=0:=fN λx hx=>by
 obtain⟨i,hi,rfl⟩:=Cc.1 hx;have:=hn i hi;rw[AB hi] at this;simpa using this
def gm {l:List Int}{n:Int}{k:Nat}(hk:k<l.length)(hn:∀i,i<k->FY l n i=0)(hp:FY l n k≠0):Fi l n=FY l n k:=by
 have e:∀i,i<l.length->((b9 l.length).map (FY l n))[i]?.getD 0=FY l n i:=λi hi=>by simp[hi]
 unfold Fi;rw[be (k:=k) (by simpa using hk) (λi hi=>by rw[e i (by omega)];exact hn i hi) (by rw[e k hk];exact hp),e k hk]
def kP {l:List Int}{n:Int}(hn:∀i,i<l.length->FY l n i=0):Fi l n=0:=by
 unfold Fi;exact dc λi hi=>by
  have hi':i<l.length:=by simpa using hi
  simp[hi',hn i hi']
def GF (l:List Int):Nat:=l.foldl (λx h=>x ||| 2 ^ h.toNat) 0
def tx (l:List Int)(k:Nat)(hk:k<l.length):GF (l.take (k+1))=GF (l.take k) ||| 2 ^ (l[k]?.getD 0).toNat:=by
 rw[bz 0 l k hk];unfold GF;rw[List.foldl_append];rfl
def yU:∀x:Fin 16,∀n:Fin 4,(x.val ||| 2 ^ n.val)<16:=by decide
def q9 (l:List Int)(h:∀x∈l,0<=x/\x<4):GF l<16:=by
 have key:∀(l:List Int) (x:Nat),(∀y∈l,0<=y/\y<4)->x<16->l.foldl (λx h=>x ||| 2 ^ h.toNat) x<16:=by
  intro l
  induction l with
  |nil=>intro x _ hx;exact hx
  |cons a l ih =>
   intro x h hx;have ha:=h a B4;exact ih _ (λy hy=>h y (Ci _ hy)) (yU ⟨x,hx⟩ ⟨a.toNat,by omega⟩)
 exact key l 0 h (by decide)
def Dw (a:Addr)(w:V)(hc:w.cell? a=U (.int .i32 0))(hz:w.frozen? a=bs) :
  Calls DU 85 #[.pointer (U a)] w λe w'=>e=.returned (.tuple #[])/\w'=w.setCell a (.int .i32 1):=by
 have a6:=b5 (P:=DU) Sq.func153 (by kernel_rfl) (by kernel_rfl) (by kernel_rfl) .i32 (by kernel_rfl) (x:=0) (y:=1) hc hz;go_enter Sq.func85,DD;simp only[casBody];go_wp2;refine bodyPost_ret (results_none rfl _ _ _) rfl ?_;exact⟨rfl,rfl⟩
def Dv (a:Addr)(u:FrameMode)(w:V)(hc:w.cell? a=U (.int .i32 1))(hz:w.frozen? a=bs) :
  CallsD DU 86 #[.pointer (U a)] u w λe u' w'=>u'=u/\(e=.returned (.tuple #[])/\w'=w.setCell a (.int .i32 0)):=by
 have a6:=b5 (P:=DU) Sq.func153 (by kernel_rfl) (by kernel_rfl) (by kernel_rfl) .i32 (by kernel_rfl) (x:=1) (y:=0) hc hz;go_enter_d Sq.func86,DB;simp only[casBody];go_wp2;refine bodyPost_ret (results_none rfl _ _ _) rfl ?_;exact⟨rfl,rfl⟩
end Go.Sq
