/- Parts of the proof. -/
import Derived.Test.YtghipmneleifpaaGreatP09
import Derived.Test.YtghipmneleifpaaGreatP00
import Derived.Test.YtghipmneleifpaaGreatP04
import Derived.Test.YtghipmneleifpaaGreatChecked
import Derived.WalkKit
import Derived.WalkSpells
import Derived.WalkLawsBesides
import Derived.Defers
import Derived.Laws.LoneSync
set_option linter.all false
set_option maxRecDepth 1000000
open Go.Conc renaming mem_ofEvents->a6,getElem?_append_cases->bk,Deaf_other->br,runT_crowd_go->bD,woken_quitsD->b6,awake_of->cE,handedOver_app->cK
open Array renaming replicate->a7,mem_iff_getElem->b7
open Go renaming Goroutine->a8,Program->bl,World->bq,Trace->bA,FuncId->b5,TypeId->b8,Func->cu,run_call_cas_hit->cw,deafBehind->cF,sizeOf->c0,Machine->df,typeInfo->dn
open Option renaming some->bb
open Go.MemOp renaming ofEvents->bc
open Go.Result renaming andThen->bh
open Go.MemAct renaming ofEvent->bn,touch?->bW
open Go.Sem renaming run_bind->bo,run->bs,run_pure->cf
open Go.Frame renaming enter->bw
open Bool renaming false->b9,true->cr
open List renaming find?_append->cq,range->cU
namespace Go.Co
open Go.Ct Go.Conc Go.ConcN
section
variable {P:bl} {Dead:Nat->Prop}
def H7.awake {gs:Array a8}{W:bq}{t:bA}{q:Nat->Nat}(hb:H7 P Dead gs W t q){a:a8}(h0:gs[0]?=bb a)(hrun:a.status=.running):∀g∈gs,Go.Conc.awake g:=by
 intro g hg;obtain⟨i,hi,rfl⟩:=b7.1 hg;rcases zp i with rfl|Ii
 .have:gs[0]=a:=by simpa [yS hi] using h0
  rw[this];exact cE (.inl hrun)
 .exact cE ((hb.lv.old i _ Ii (yS hi)).status.elim .inl λx=>.inr (.inr x))
end
section
variable {P:CL} {SB BB:b5->Bool} {lets:Bool} {Gn:Nat} {Dead:Nat->Prop} {Kp:Gm}
def Lg {gs:Array a8}{W:bq}{t:bA}{q:Nat->Nat}{sl:Option (Nat×Nat)}{a:a8}(hb:H7 P.b Dead gs W t q)(h0:gs[0]?=bb a)(hrun:a.status=.running) :
  ∃N m1 t1,runNT P.b N (crowd gs W sl) t=(.next m1,t1)/\∃Lh d Qc q1,stepT P.b m1=runT P.b (crowd Lh (W.at d) Qc) 0/\Lh[0]?=bb a/\Lh.size=gs.size/\H7 P.b Dead Lh (W.at d) t1 q1:=by
 refine jO (P:=P.b) (r:=(·<·:Nat->Nat->Prop)) Nat.lt_wfRel.wf (λn m t=>∃Lh d Qc q1,m=crowd Lh (W.at d) Qc/\Lh[0]?=bb a/\Lh.size=gs.size/\H7 P.b Dead Lh (W.at d) t q1/\n=sumTo gs.size q1)
  (λm1 t1=>∃Lh d Qc q1,stepT P.b m1=runT P.b (crowd Lh (W.at d) Qc) 0/\Lh[0]?=bb a/\Lh.size=gs.size/\H7 P.b Dead Lh (W.at d) t1 q1) ?_ (sumTo gs.size q) (crowd gs W sl) t ⟨gs,W.drawn,sl,q,rfl,h0,rfl,hb,rfl⟩
 rintro n m t ⟨Lh,d,Qc,q1,rfl,RS,hs1,hb1,rfl⟩;obtain⟨i,g,d',sl',hi,hg,hst⟩:=crowd_pick (P:=P.b) (w:=W.at d) (sl:=Qc) (hb1.awake RS hrun) ⟨0,a,RS,hrun⟩;rcases zp i with rfl|Ii
 .exact .inl ⟨Lh,d',sl',q1,hst,RS,hs1,hb1.at d'⟩
 .obtain⟨gs',t',q',k1,k2,k3,k4,k5⟩:=(hb1.at d').slip Ii hi hg RS hrun sl';exact .inr ⟨_,_,sumTo gs.size q',by rw[hst,k1];rfl,by rw[<-hs1];exact k4,gs',d',sl',q',rfl,k3,k2.trans hs1,k5,rfl⟩
def H7.abE {gs:Array a8}{W W':bq}{t:bA}{q:Nat->Nat}{sl:Option (Nat×Nat)}{a a':a8}(hb:H7 P.b Dead gs W t q)(h0:gs[0]?=bb a)(hgo:stepG P.b cr a W=.go a' W' #[]) :
  ∃gs',runT P.b (crowd gs W sl) 0=(.next (crowd gs' W' sl),#[])/\gs'.size=gs.size/\gs'[0]?=bb a'/\Leavers P.b t gs' q:=by
 have hlt:0<gs.size:=(yK.1 h0).1;have hr:=bD (P:=P.b) (sl:=sl) (i:=0) h0 (by simpa using hgo);have e0:bc 0 a.frame.fn a.frame.place #[]=#[]:=by rw[ofEvents_eq];simp
 rw[e0] at hr;refine⟨_,hr,by simp,by simp[hlt],λj y hj hy=>?_,λj hj=>hb.lv.above j (by simpa using hj)⟩;have hne:0≠j:=by omega
 rw[zn hne,zI] at hy;obtain⟨z,hz,rfl⟩:=zm.1 hy;have MS:=hb.lv.old j z hj hz;rw[b6 MS];exact MS
end
def more (β:Cm)(b B:Nat):Cm:=λx y=>β x y\/(x=b/\y=B)
def oz (β:Cm)(b B:Nat):β.le (more β b B):=λ_ _ h=>.inl h
section
variable {P:CL} {SB BB:b5->Bool} {lets:Bool} {Gn:Nat} {H:Hid} {β:Cm} {w W:bq}
def ra {Ck:Code->Prop}(h:CV (SP SB H) Ck Gn β w W){b:Nat}(hb:∀B,¬β b B)(hH:H b=cr)(H2:H.C8=b9)(hw:w.heap[b]?=bb (.coro none))(hG:Gn<=b){c:Array Value}{ty:b8}{f:Nat×Nat} :
  CV (SP SB H) Ck Gn (more β b W.heap.size) w (W.alloc (.cells c ty f)):=by
 have hlt:∀x y,β x y->y<W.heap.size:=λx y KR=>by
  cases e:H x with
  |false=>obtain⟨o,O,_,h2,_⟩:=h.D8 x y KR e;exact(yK.1 h2).1
  |true=>obtain⟨_,h2,_⟩:=h.Ej x y KR e;obtain⟨c,t,f,h3⟩:=h2 H2;exact(yK.1 h3).1
 have get:∀y,(W.alloc (.cells c ty f)).heap[y]?=if y=W.heap.size then bb (.cells c ty f) else W.heap[y]?:=λy=>Al ..
 have size:(W.alloc (.cells c ty f)).heap.size=W.heap.size+1:=Array.size_push _;refine⟨⟨?_,?_,?_⟩,⟨h.room.1,by rw[size];exact AN h.room.2⟩,λx y KR hh=>?_,λx y KR hh=>?_,h.old,h.env⟩
 .rintro x y y' (h1|⟨rfl,rfl⟩) (h2|⟨h2,rfl⟩)
  .exact h.DG.fn h1 h2
  .subst h2;exact absurd h1 (hb _)
  .exact absurd h2 (hb _)
  .rfl
 .rintro x x' y (h1|⟨rfl,rfl⟩) (h2|⟨rfl,h2⟩)
  .exact h.DG.inj h1 h2
  .have:=hlt _ _ h1;omega
  .have:=hlt _ _ h2;omega
  .rfl
 .rintro x y (h1|⟨rfl,rfl⟩)
  .exact h.DG.lo h1
  .exact⟨hG,h.room.2⟩
 .rcases KR with KR|⟨rfl,rfl⟩
  .obtain⟨o,O,h1,h2,h3⟩:=h.D8 x y KR hh;exact⟨o,O,h1,by rw[get,if_neg (Bg (hlt x y KR))];exact h2,h3.mono (oz _ _ _)⟩
  .have GQ:H x=false:=hh;rw[hH] at GQ;cases GQ
 .rcases KR with KR|⟨rfl,rfl⟩
  .obtain⟨h1,h2,h3⟩:=h.Ej x y KR hh;exact⟨h1,λe=>by rw[get,if_neg (Bg (hlt x y KR))];exact h2 e,λe=>by rw[get,if_neg (Bg (hlt x y KR))];exact h3 e⟩
  .exact⟨hw,λ_=>⟨c,ty,f,by rw[get,if_pos rfl]⟩,λe=>by have e':H.C8=true:=e;rw[H2] at e';cases e'⟩
end
section
variable {P:CL} {SB BB:b5->Bool} {lets:Bool} {Gn:Nat} {H:Hid} {T:List Frame} {β:Cm}
def M3 {f:b5}{fa fb:cu}{c:Code}(h1:P.a.funcs[f]?=bb fa)(h2:P.b.funcs[f]?=bb fb)(h3:fa.body=bb c)(h4:codeOk P.a SB lets cr c=b9)(hn:fb.ntmps=fa.ntmps)
  {args:Array Value} (hsz:args.size<=fa.ntmps) {k:CallKind} {F:Frame} (h:ED P SB H lets BB β (bw P.a f args k) F):∃ARGS,F=bw P.b f ARGS k/\Ca (SP SB H) β args ARGS:=by
 generalize hF:bw P.a f args k=fr at h;cases h with
 |on h =>
  exfalso;have ht:=h.todo;rw[<-hF] at ht;simp only[bw,h1,h3,zK,zc] at ht;generalize F.todo=X at ht;cases ht with
  |cons hi _ =>
   cases hi with
   |code hc =>
    simp only[Option.isNone_none] at hc;rw[h4] at hc;cases hc
 |@stop f' a A k' _ _ _ ha =>
  have e1:f=f':=congrArg Frame.fn hF;have e2:k=k':=congrArg Frame.kind hF;subst e1 e2;have e3:args++a7 (fa.ntmps-args.size) undef=a++a7 (fa.ntmps-a.size) undef:=by
   have:=congrArg Frame.tmps hF;simpa [bw,h1] using this
  have hs:=congrArg Array.size e3;simp only[Array.size_append,Array.size_replicate] at hs;have hA:=ha.size;have all:Ca (SP SB H) β (args++a7 (fa.ntmps-args.size) undef) (A++a7 (fa.ntmps-A.size) undef):=by
   rw[e3,<-hA];exact ha.append (Ca.replicate (B6.undef _ _) _)
  refine⟨(A++a7 (fa.ntmps-A.size) undef).extract 0 args.size,?_,?_⟩
  .have e4 : A ++ a7 (fa.ntmps - A.size) undef = (A ++ a7 (fa.ntmps - A.size) undef).extract 0 args.size ++ a7 (fa.ntmps - ((A ++ a7 (fa.ntmps - A.size) undef).extract 0 args.size).size) undef := by
    have hlen:((A++a7 (fa.ntmps-A.size) undef).extract 0 args.size).size=args.size:=by simp;omega
    rw[hlen];generalize hX:A++a7 (fa.ntmps-A.size) undef=X at all hlen ⊢;have hXs:X.size=fa.ntmps:=by rw[<-hX];simp;omega
    apply Array.ext (by simp;omega);intro i i1 i2;by_cases hi:i<args.size
    .rw[Array.getElem_append_left (by rw[hlen];exact hi)];simp
    .rw[Array.getElem_append_right (by rw[hlen];omega)];simp only[Array.getElem_replicate];have:=all.at_ i undef X[i] (by rw[Array.getElem?_append_right (by omega),zO,if_pos (by omega)]) (yS i1);exact U7.undef _ this
   simp only[bw,h2,zT,zc,hn];rw[<-e4]
  .have:=all.extract 0 args.size;have e5:(args++a7 (fa.ntmps-args.size) undef).extract 0 args.size=args:=by simp
   rwa [e5] at this
def rg {S:DT}{Ck:Code->Prop}{w w1 W:bq}(h:CV S Ck Gn β w W)(hs:w1.heap.size=w.heap.size)(ho:w1.os=w.os)
  (hb:∀b:Nat,w1.heap[b]?=w.heap[b]?\/∃(c:Array Value) (t:b8) (f f1:Nat×Nat),w.heap[b]?=bb (.cells c t f)/\w1.heap[b]?=bb (.cells c t f1)/\∀i,f.1<=i->i<f.2->f1.1<=i/\i<f1.2):CV S Ck Gn β w1 W:=by
 refine⟨h.DG,by rw[hs];exact h.room,λb B KX hh=>?_,λb B KX hh=>?_,λb hh=>by rw[hs];exact h.old b hh,by rw[ho];exact h.env⟩
 .obtain⟨o,O,e1,e2,e3⟩:=h.D8 b B KX hh;rcases hb b with e|⟨c,t,f,f1,q1,q2,q3⟩
  .exact⟨o,O,e.trans e1,e2,e3⟩
  .rw[q1] at e1;cases e1;exact⟨_,O,q2,e2,C5.aa9 e3 q3⟩
 .obtain⟨e1,e2,e3⟩:=h.Ej b B KX hh;rcases hb b with e|⟨c,t,f,f1,q1,q2,q3⟩
  .exact⟨e.trans e1,e2,e3⟩
  .rw[q1] at e1;cases e1
end
def cT {P:bl}{K:Nat}{m1:df}{t1:bA}:∀ {N:Nat} {m:df} {t:bA},runNT P N m t=(.next m1,t1)->runNT P (N+K) m t=runNT P K m1 t1:=by
 intro N
 induction N with
 |zero=>intro m t h;simp only[runNT,Prod.mk.injEq,Stepped.next.injEq] at h;obtain⟨rfl,rfl⟩:=h;rw[yZ]
 |succ N ih =>
  intro m t h;rw[show N+1+K=(N+K)+1 by omega];have e : ∀ n, runNT P (n + 1) m t = match stepT P m with
    |(.next m,ops)=>runNT P n m (t++ops)
    |(e,ops)=>(e,t++ops):=λ_=>rfl
  rw[e] at h ⊢;rcases hs:stepT P m with⟨s,ops⟩
  rw[hs] at h;cases s with
  |next m'=>exact ih h
  |ended o w=>simp at h
def oC {P:bl}{m m':df}{t:bA}{ops:Array MemOp}(h:stepT P m=(.next m',ops)):runNT P 1 m t=(.next m',t++ops):=by
 unfold runNT;rw[h];rfl
structure Ge (Shun:Loc->Prop)(B d:Nat)(t:bA):Prop where
 calm:∀said,¬Race said t
 knows:∀i x,touchAt t i=bb x->x.loc.isMemory=cr->Knows t 0 i\/(Shun x.loc/\x.kind=.atomic)
 handed:t.HandedOver
 deaf:Deaf t 0=d
 below:∀op∈t,op.act.low B
section
variable {Shun:Loc->Prop} {B B' d d':Nat} {t u:bA}
def Ge.of (h:Past Shun B t):Ge Shun B 0 t:=⟨h.clean,h.known,h.over,h.hears,h.seen⟩
def Ge.past (h:Ge Shun B 0 t):Past Shun B t:=⟨h.calm,h.knows,h.handed,h.deaf,h.below⟩
def Ge.mono (h:Ge Shun B d t)(hB:B<=B'):Ge Shun B' d t:=⟨h.calm,h.knows,h.handed,h.deaf,λop hop=>MemAct.low_mono hB (h.below op hop)⟩
def Pv {t u:bA}(ht:∀op∈t,op.act.low B)(hu:∀op∈u,op.act.low B):∀op∈t++u,op.act.low B:=λop hop=>(Array.mem_append.1 hop).elim (ht op) (hu op)
def Ge.own (h:Ge Shun B d t){fn:b5}{pos:String}{es:Array Event}(hes:∀e∈es,(∀x,(bn e).touch?=bb x->Shun x.loc->x.kind≠.plain)/\(bn e).low B)(hd:cF d es=d'):Ge Shun B d' (t++bc 0 fn pos es):=by
 have hg:∀op∈bc 0 fn pos es,op.g=0:=λop hop=>by obtain⟨e,_,rfl⟩:=a6 hop;rfl
 refine⟨λsaid=>noRace_append (h.calm said) hg λi x hx op hop y hy hc=>?_,λi x hx hm=>?_,cK h.handed λop hop=>.inl (hg op hop),by rw[Deaf_own,h.deaf];exact hd,Pv h.below λop hop=>by obtain⟨e,he,rfl⟩:=a6 hop;exact(hes e he).2⟩
 .obtain⟨e,he,rfl⟩:=a6 hop;rcases h.knows i x hx hc.2.1 with hk|⟨s1,s2⟩
  .exact hk
  .exfalso;have np:=(hes e he).1 y hy (hc.1▸s1);obtain⟨_,_,_,Pa⟩:=hc;rw[s2] at Pa;rcases Pa with z|z|⟨_,z,_⟩
   .cases z
   .exact np z
   .cases z
 .obtain⟨z,hz,UX⟩:=touch_of hx;rcases bk hz with⟨_,hz'⟩|⟨_,hzu⟩
  .exact(h.knows i x (by rw[touchAt_of hz'];exact UX) hm).imp (·.app _) id
  .have:=knows_own hz;rw[hg z hzu] at this;exact .inl this
def Ge.mute (h:Ge Shun B d t){g:Nat}(hg:g≠0){fn:b5}{pos:String}{es:Array Event}(hm:∀e∈es,e.mute=cr):Ge Shun B d (t++bc g fn pos es):=by
 have hu:∀op∈bc g fn pos es,op.g=g/\op.act.touch?=none/\op.act.low B:=λop hop=>by
  obtain⟨e,he,rfl⟩:=a6 hop;exact⟨rfl,touch_mute (hm e he),low_mute (hm e he) B⟩
 refine⟨λsaid=>noRace_append (h.calm said) (λop hop=>(hu op hop).1) λi x _ op hop y hy _=>(by rw[(hu op hop).2.1] at hy;cases hy),λi x hx hmm=>?_,cK h.handed λop hop=>.inr (hu op hop).2.1,(br t hg _ λop hop=>(hu op hop).1).trans h.deaf,Pv h.below λop hop=>(hu op hop).2.2⟩;obtain⟨z,hz,UX⟩:=touch_of hx;rcases bk hz with⟨_,hz'⟩|⟨_,hzu⟩
 .exact(h.knows i x (by rw[touchAt_of hz'];exact UX) hmm).imp (·.app _) id
 .rw[(hu z hzu).2.1] at UX;cases UX
end
structure GG (P:bl)(Dead:Nat->Prop)(d:Nat)(gs:Array a8)(W:bq)(t:bA)(q:Nat->Nat):Prop where
 lv:Leavers P t gs q
 past:Ge (Ip Dead) W.heap.size d t
 quiet:Quiet (Ip Dead) t
 RP:∀(i:Nat) (op:MemOp),t[i]?=bb op->op.g<gs.size
 low:∀B,Dead B->B<W.heap.size
def GG.of {P:bl}{Dead:Nat->Prop}{gs:Array a8}{W:bq}{t:bA}{q:Nat->Nat}(h:H7 P Dead gs W t q):GG P Dead 0 gs W t q:=⟨h.lv,.of h.past,h.quiet,h.RP,h.low⟩
def GG.btw {P:bl}{Dead:Nat->Prop}{gs:Array a8}{W:bq}{t:bA}{q:Nat->Nat}(h:GG P Dead 0 gs W t q):H7 P Dead gs W t q:=⟨h.lv,h.past.past,h.quiet,h.RP,h.low⟩
section
variable {P:CL} {SB BB:b5->Bool} {lets:Bool} {Gn:Nat} {Dead:Nat->Prop} {Kp:Gm} {dd:Nat}
def GG.at {gs:Array a8}{W:bq}{t:bA}{q:Nat->Nat}(h:GG P.b Dead dd gs W t q)(d:Nat):GG P.b Dead dd gs (W.at d) t q:=⟨h.lv,h.past,h.quiet,h.RP,h.low⟩
def GG.slip {gs:Array a8}{W:bq}{t:bA}{q:Nat->Nat}(h:GG P.b Dead dd gs W t q){i:Nat}{g a:a8}(Ii:0<i)(hi:gs[i]?=bb g)(hrun:g.status=.running)(h0:gs[0]?=bb a)(ha:a.status=.running)(sl:Option (Nat×Nat)) :
  ∃gs' t' q',runT P.b (crowd gs W sl) i=(.next (crowd gs' W sl),t')/\gs'.size=gs.size/\gs'[0]?=bb a/\sumTo gs.size q'<sumTo gs.size q/\GG P.b Dead dd gs' W (t++t') q':=by
 have hq:=h.lv.old i g Ii hi;have Uu:(i==0)=false:=by simp;omega
 have hlt:i<gs.size:=(yK.1 hi).1;cases Ye:q i with
 |zero=>rw[Ye] at hq;rw[hq.1] at hrun;cases hrun
 |succ k =>
  rw[Ye] at hq;rcases hq with⟨hf,_⟩|⟨_,g',es,hm,Yf,hq'⟩
  .rw[hf] at hrun;cases hrun
  have RQ:=bD (P:=P.b) (sl:=sl) (i:=i) hi (by rw[Uu];exact Yf W);have RR:sumTo gs.size (upd q i k)+(k+1)=sumTo gs.size q+k:=by
   have:=sumTo_upd q k id hlt;simpa [Ye] using this
  have GK:∀op∈bc i g.frame.fn g.frame.place es,op.g=i:=λop hop=>by obtain⟨e,_,rfl⟩:=a6 hop;rfl
  refine⟨_,_,upd q i k,RQ,by simp,?_,by omega,⟨λj x hj hx=>?_,λj hj=>?_⟩,h.past.mute (by omega) hm,h.quiet.app λop hop x hx hs=>?_,λj op hop=>?_,h.low⟩
  .have hne:i≠0:=by omega
   rw[zn hne,zI,h0];simp[woken_run ha]
  .by_cases U8:i=j
   .subst U8;rw[Az (by simpa using hlt)] at hx;obtain rfl:=Option.some.inj hx;rw[upd_same,Deaf_own];exact hq'
   .rw[zn U8,zI] at hx;obtain⟨y,hy,rfl⟩:=zm.1 hx;have MS:=h.lv.old j y hj hy;rw[b6 MS,upd_ne q k (Ne.symm U8),br t U8 _ GK];exact MS
  .rw[br t (g':=i) (by simp at hj;omega) _ GK];exact h.lv.above j (by simpa using hj)
  .obtain⟨e,he,rfl⟩:=a6 hop;rw[touch_mute (hm e he)] at hx;cases hx
  .rcases bk hop with⟨_,IA⟩|⟨_,F2⟩
   .simpa using h.RP j op IA
   .rw[GK op F2];simpa using hlt
def GG.fin {gs:Array a8}{W W':bq}{t:bA}{q:Nat->Nat}(h:GG P.b Dead dd gs W t q){x:Lone}{a g2:a8}{B8:Cm}{w':bq}{ES:Array Event}(H2:x.H.C8=b9)(MT:∀b B,x.β b B->Dead B->x.H b=cr)
  (h0:gs[0]?=bb a) (e3:stepG P.b cr a W=.go g2 W' ES) (f:F9 P SB lets Gn x W B8 w' W' ES.toList) (sl:Option (Nat×Nat)) :
  ∃gs' t',runT P.b (crowd gs W sl) 0=(.next (crowd gs' W' sl),t')/\gs'.size=gs.size/\gs'[0]?=bb g2/\GG P.b Dead dd gs' W' (t++t') q:=by
 have hES:ES.toList.toArray=ES:=by simp
 have JE:=cL f H2;rw[hES] at JE;have IB:=ep f H2 (k:=0) (fn:=a.frame.fn) (pos:=a.frame.place);rw[hES] at IB;have GK:∀op∈bc 0 a.frame.fn a.frame.place ES,op.g=0:=λop hop=>by obtain⟨e,_,rfl⟩:=a6 hop;rfl
 have old:∀b B,B8 b B->B<W.heap.size->x.β b B:=λb B hb hB=>(f.new b B hb).elim id λh=>absurd h.2 (Nat.not_le.2 hB);have Ks:∀b B,B8 b B->Dead B->x.H b=true:=λb B hb hd=>MT b B (old b B hb (h.low B hd)) hd;have I4:∀e∈ES,∀z,(bn e).touch?=bb z->¬Ip Dead z.loc:=by
  intro e he z hz ⟨b,hb,hd⟩;have hE:=f.evs H2 e (by simpa using he);cases hE with
  |@cell a A wr sy hab _ hc _ =>
   have:z.loc=.cell A:=by simp[bn,bW] at hz;subst hz;rfl
   rw[this] at hb;cases hb;obtain⟨n,hn,_⟩:=hc;have:=(f.rel.Ej _ _ hab (Ks _ _ hab hd)).1;rw[this] at hn;simp[DK] at hn
  |@obj r R wr sy _ _ =>
   have:z.loc=.obj R:=by cases wr<;>cases sy<;>simp[bn,bW] at hz<;>subst hz<;>rfl
   rw[this] at hb;cases hb
  |mark hm=>cases hm<;>simp[bn,bW] at hz
  |out =>
   have:z.loc=.output:=by simp[bn,bW] at hz;subst hz;rfl
   rw[this] at hb;cases hb
 have hlt:0<gs.size:=(yK.1 h0).1
 refine⟨_,_,bD (P:=P.b) (sl:=sl) (i:=0) h0 (by simpa using e3),by simp,by simp[hlt],
  ⟨⟨λj y hj hy=>?_,λj hj=>?_⟩,(h.past.mono f.SIZE).own (λe he=>⟨λz hz hs=>absurd hs (I4 e he z hz),?_⟩) (deafBehind_idle (λe he=>⟨(JE e he).1,(JE e he).2.1⟩) dd),h.quiet.app λop hop z hz hs=>?_,λj op hop=>?_,λB hB=>yO (h.low B hB) f.SIZE⟩⟩
 .have hne:0≠j:=by omega
  rw[zn hne,zI] at hy;obtain⟨z,hz,rfl⟩:=zm.1 hy;have MS:=h.lv.old j z hj hz;rw[b6 MS,br t (by omega) _ GK];exact MS
 .rw[br t (g':=0) (by simp at hj;omega) _ GK];exact h.lv.above j (by simpa using hj)
 .exact IB { g:=0,fn:=a.frame.fn,pos:=a.frame.place,act:=.ofEvent e } (by rw[ofEvents_eq];exact Array.mem_map.2 ⟨e,he,rfl⟩)
 .obtain⟨e,he,rfl⟩:=a6 hop;exact absurd hs (I4 e he z hz)
 .rcases bk hop with⟨_,IA⟩|⟨_,F2⟩
  .simpa using h.RP j op IA
  .rw[GK op F2];simpa using hlt
def GG.spec {gs:Array a8}{W:bq}{t:bA}{q:Nat->Nat}(h:GG P.b Dead dd gs W t q){a g2:a8}{β:Cm}{es ES:Array Event}
  (h0:gs[0]?=bb a) (e3:stepG P.b cr a W=.go g2 W ES) (e5:Fe β es ES) (e6:∀e∈ES,∀ad,e.loc=.mark (.acquire ad)\/e.loc=.mark (.releaseMerge ad)->ad.block<W.heap.size) (sl:Option (Nat×Nat)) :
  ∃gs' t',runT P.b (crowd gs W sl) 0=(.next (crowd gs' W sl),t')/\gs'.size=gs.size/\gs'[0]?=bb g2/\GG P.b Dead (cF dd es) gs' W (t++t') q:=by
 have GV:=e5.mem;have GK:∀op∈bc 0 a.frame.fn a.frame.place ES,op.g=0:=λop hop=>by obtain⟨e,_,rfl⟩:=a6 hop;rfl
 have hlt:0<gs.size:=(yK.1 h0).1
 refine⟨_,_,bD (P:=P.b) (sl:=sl) (i:=0) h0 (by simpa using e3),by simp,by simp[hlt],
  ⟨⟨λj y hj hy=>?_,λj hj=>?_⟩,h.past.own (λe he=>⟨λz hz hs=>?_,e5.low e6 e he⟩) (e5.deaf dd),h.quiet.app λop hop z hz hs=>?_,λj op hop=>?_,h.low⟩⟩
 .have hne:0≠j:=by omega
  rw[zn hne,zI] at hy;obtain⟨z,hz,rfl⟩:=zm.1 hy;have MS:=h.lv.old j z hj hz;rw[b6 MS,br t (by omega) _ GK];exact MS
 .rw[br t (g':=0) (by simp at hj;omega) _ GK];exact h.lv.above j (by simpa using hj)
 .rw[(GV e he).1] at hz;cases hz
 .obtain⟨e,he,rfl⟩:=a6 hop;rw[(GV e he).1] at hz;cases hz
 .rcases bk hop with⟨_,IA⟩|⟨_,F2⟩
  .simpa using h.RP j op IA
  .rw[GK op F2];simpa using hlt
def GY (lib:∀H,Lib P SB H lets BB Gn)(NX:∀(f:b5) (fn:cu),P.a.funcs[f]?=bb fn->fn.body.isNone=cr->P.fs[f]?=bb fn){H:Hid}{T:List Frame}{β:Cm}{Q:a8->bq->Prop}(MO:∀g w,Q g w->BB g.frame.fn=b9\/∃f R,Ct.Left P.a f R g w){os:Os}{ou:bq}{n b0 B0:Nat}:∀(μ:Wm×Nat) (m:df) (t:bA),
  (∃gs W sl q x a d,m=crowd gs W sl/\gs[0]?=bb a/\gs.size=n/\GG P.b Dead d gs W t q/\Tw P SB BB lets Gn Dead Kp x a W/\C1 P.a BB Q d x.g x.w/\x.H=H/\x.T=T/\β.le x.β/\(W.os=os/\W.output=ou.output)/\(B0<=W.heap.size/\b0<=x.w.heap.size/\∀b B,x.β b B->β b B\/(b0<=b/\B0<=B))/\μ=(.tree Q (x.g,x.w),sumTo n q)) ->
  ∃N m' t',runNT P.b N m t=(.next m',t')/\∃gs W sl q x a,m'=crowd gs W sl/\gs[0]?=bb a/\gs.size=n/\GG P.b Dead 0 gs W t' q/\Tw P SB BB lets Gn Dead Kp x a W/\Q x.g x.w/\x.H=H/\x.T=T/\β.le x.β/\(W.os=os/\W.output=ou.output)/\(B0<=W.heap.size/\b0<=x.w.heap.size/\∀b B,x.β b B->β b B\/(b0<=b/\B0<=B)):=by
 have wf:WellFounded (Prod.Lex (J3 P.a) (·<·:Nat->Nat->Prop)):=(Prod.lex ⟨_,J3.wf P.a⟩ Nat.lt_wfRel).wf;refine jO (P:=P.b) wf (λμ m t=>∃gs W sl q x a d,m=crowd gs W sl/\gs[0]?=bb a/\gs.size=n/\GG P.b Dead d gs W t q/\Tw P SB BB lets Gn Dead Kp x a W/\C1 P.a BB Q d x.g x.w/\x.H=H/\x.T=T/\β.le x.β/\(W.os=os/\W.output=ou.output)/\(B0<=W.heap.size/\b0<=x.w.heap.size/\∀b B,x.β b B->β b B\/(b0<=b/\B0<=B))/\μ=(.tree Q (x.g,x.w),sumTo n q))
  (λm t=>∃gs W sl q x a,m=crowd gs W sl/\gs[0]?=bb a/\gs.size=n/\GG P.b Dead 0 gs W t q/\Tw P SB BB lets Gn Dead Kp x a W/\Q x.g x.w/\x.H=H/\x.T=T/\β.le x.β/\(W.os=os/\W.output=ou.output)/\(B0<=W.heap.size/\b0<=x.w.heap.size/\∀b B,x.β b B->β b B\/(b0<=b/\B0<=B))) ?_
 rintro μ m t ⟨gs,W,sl,q,x,a,d,rfl,h0,hn,hb,ht,hr,eH,eT,hle,Pn,hsz,rfl⟩;have PM:=Bu hr;have Ku:a.status=.running:=ht.gl.status.2;have haw:∀g∈gs,awake g:=by
  intro g hg;obtain⟨i,hi,rfl⟩:=b7.1 hg;rcases zp i with rfl|Ii
  .have:gs[0]=a:=by simpa [yS hi] using h0
   rw[this];exact cE (.inl Ku)
  .exact cE ((hb.lv.old i _ Ii (yS hi)).status.elim .inl λx=>.inr (.inr x))
 by_cases Ie:d=0/\Q x.g x.w
 .obtain⟨rfl,hq⟩:=Ie;exact .inl ⟨gs,W,sl,q,x,a,rfl,h0,hn,hb,ht,hq,eH,eT,hle,Pn,hsz⟩
 refine .inr ?_;obtain⟨i,g,e,sl',hi,hg,hst⟩:=crowd_pick (P:=P.b) (w:=W) (sl:=sl) haw ⟨0,a,h0,Ku⟩;rcases zp i with rfl|Ii
 .generalize Om:x.g=gx at hr;generalize Wn:x.w=wx at hr;cases hr with
  |fin hq=>exact absurd ⟨rfl,by rw[Om,Wn];exact hq⟩ Ie
  |next ng nw f1 f2 f3 =>
   subst Om Wn;have hq:¬Q x.g x.w:=λhq=>by
    rcases MO _ _ hq with h|⟨f,R,h⟩
    .have:=f1.1;rw[h] at this;cases this
    .obtain⟨⟨es,e9⟩,n9⟩:=f2 x.w.tape x.w.drawn;exact Ct.Left.last h (_,_) ⟨x.w.tape,x.w.drawn,es,e9,n9⟩
   have KS:=ht.at e;have hb':=hb.at e;obtain⟨g',w',es,B8,g2,W',ES,e1,e2,e3,e4,e5⟩:=JA (lib x.H) (main2:=cr) f1 f2 KS.gl KS.wl;have f:F9 P SB lets Gn x (W.at e) B8 w' W' ES.toList:=e5;obtain⟨gs',t',k1,k2,k3,k4⟩:=hb'.fin KS.tw KS.dead h0 e3 f sl';obtain⟨k5,k6⟩:=Kt f KS.keep KS.D7;have Ks:∀b B,B8 b B->Dead B->x.H b=true:=λb B hb1 hd=>(f.new b B hb1).elim (λh1=>ht.dead b B h1 hd) λh1=>absurd h1.2 (Nat.not_le.2 (hb'.low B hd))
   obtain⟨rfl,rfl⟩:=e2;refine⟨_,_,(.tree Q (ng (W.at e).tape (W.at e).drawn,nw (W.at e).tape (W.at e).drawn),sumTo n q),by rw[hst,k1],Prod.Lex.left _ _ ⟨.tree hq ⟨(W.at e).tape,(W.at e).drawn,es,e1,e4.callers.ne⟩,PM⟩,gs',W',sl',q,⟨_,_,x.H,B8,x.T⟩,g2,d,rfl,k3,k2.trans hn,k4,⟨e4,f.rel,ht.tw,Ks,k5,k6⟩,f3 _ _,eH,eT,Cm.le_trans hle f.le,⟨f.OS.trans Pn.1,f.OUT.trans Pn.2⟩,⟨yR hsz.1 f.SIZE,yR hsz.2.1 f.size,λb B hb1=>(f.new b B hb1).elim (hsz.2.2 b B) λh=>.inr ⟨yR hsz.2.1 h.1,yR hsz.1 h.2⟩⟩,rfl⟩
  |@spec _ b a' ops i0 rest k cs _ o es v f1 f2 f3 f4 f5 f6 f7 =>
   subst Wn;have hq:¬Q x.g x.w:=λhq=>by
    rcases MO _ _ hq with this|⟨f,R,w9,v9,fr,_,_,h9,_,hm,_⟩
    .rw[Om] at this;exact absurd f1 (by rw[show b.fn=(C6 (b.at a' (.inRegion ops (i0::rest)::k)) cs).frame.fn from rfl,this];decide)
    .rw[Om] at h9;have e9:b.at a' (.inRegion ops (i0::rest)::k)=fr:=congrArg Goroutine.frame h9;rw[<-e9] at hm;cases hm
   have KS:=ht.at e;have hb':=hb.at e;have hg0:El P SB x.H lets BB x.T x.β (C6 (b.at a' (.inRegion ops (i0::rest)::k)) cs) a:=Om▸KS.gl;obtain⟨g2,ES,e3,e4,e5,e6⟩:=MA NX (main2:=cr) f1 hg0 KS.wl f3 f4 f5 f6;obtain⟨gs',t',k1,k2,k3,k4⟩:=hb'.spec h0 e3 e5 e6 sl';refine⟨_,_,(.tree Q (C6 (b.at (a'.put o.dst v) (.inRegion ops rest::k)) cs,on x.w (W.at e).tape (W.at e).drawn),sumTo n q),by rw[hst,k1],Prod.Lex.left _ _ ⟨.tree (by have:=hq;rwa [Om] at this) ⟨(W.at e).tape,(W.at e).drawn,es,?_,f2⟩,by rw[Om] at PM;exact PM⟩,gs',W.at e,sl',q,⟨C6 (b.at (a'.put o.dst v) (.inRegion ops rest::k)) cs,on x.w (W.at e).tape (W.at e).drawn,x.H,x.β,x.T⟩,g2,cF d es,rfl,k3,k2.trans hn,k4,⟨e4,KS.wl.same rfl rfl KS.wl.env,ht.tw,ht.dead,KS.keep,KS.D7⟩,f7 _ _,eH,eT,hle,Pn,hsz,rfl⟩
   exact(f6.same Bm).step f3 f4 f5
 .obtain⟨gs',t',q',k1,k2,k3,k4,k5⟩:=(hb.at e).slip Ii hi hg h0 Ku sl';exact⟨_,_,(.tree Q (x.g,x.w),sumTo n q'),by rw[hst,k1],Prod.Lex.right _ (by rw[<-hn];exact k4),gs',W.at e,sl',q',x,a,d,rfl,k3,k2.trans hn,k5,ht.at e,hr,eH,eT,hle,Pn,hsz,rfl⟩
end
end Go.Co
namespace Go.Sq
open Go.Proofs
open Go.RowKit
def eN {p q:bl}(h:p.toTables=q.toTables)(t:b8)(w:bq):bs p (typeInfo t) w=bs q (typeInfo t) w:=by
 simp only[typeInfo,bo,run_program,bh,h];cases Tables.info? q.toTables t<;>rfl
def kR {p q:bl}(h:p.toTables=q.toTables)(t:b8):p.underlying t=q.underlying t:=by simp only[Program.underlying,h]
def n7 {p q:bl}(h:p.toTables=q.toTables)(t:b8)(w:bq):bs p (underlying t) w=bs q (underlying t) w:=by
 simp only[underlying,bo,run_program,bh,kR h];cases q.underlying t<;>rfl
def qs {p q:bl}(h:p.toTables=q.toTables)(t:b8)(w:bq):bs p (isAgg t) w=bs q (isAgg t) w:=by
 unfold isAgg;rw[bo,bo,n7 h t w];generalize (underlying t).run q w=r;cases r with
 |ok d w1=>cases d<;>simp only[bh,cf]
 |halt _ _=>simp only[bh]
def oX {p q:bl}(h:p.toTables=q.toTables)(t:b8)(w:bq):bs p (c0 t) w=bs q (c0 t) w:=by
 unfold c0;rw[bo,bo,eN h t w];generalize (dn t).run q w=r;cases r with
 |ok d w1=>simp only[bh,cf]
 |halt _ _=>simp only[bh]
def lG {p q:bl}(h:p.toTables=q.toTables)(t:b8)(w:bq):bs p (zeroValue t) w=bs q (zeroValue t) w:=by
 unfold zeroValue;rw[bo,bo,eN h t w];generalize (dn t).run q w=r;cases r with
 |ok i w1 =>
  simp only[bh];cases i.zero with
  |some v2=>simp only[cf]
  |none=>simp[unsupported]
 |halt _ _=>simp only[bh]
def Im (i:b5):Bool:=i==45||i==81||i==82||i==83||i==84||i==3
noncomputable def casBody (x y:Int):Code:=.seq (.region 0 #[{ dst:=bb 2,op:=.fieldAddr 107 (.tmp 0) 1,type:=0,pos := "",after:=#[],guard:=none },{ dst:=bb 1,op:=.call { callee:=.value (.func 143),args:=#[.tmp 2,.const (.int .i32 x),.const (.int .i32 y)],argTypes:=#[207,21,21] },type:=4,pos := "",after:=#[{ on:=0,ground:=.data }],guard:=none }] b9)
 (.cond (.tmp 1) .ret (.refuse "held"))
noncomputable def QZ (i:b5)(f:cu):Func:=if i==6||Im i then { f with body:=bb (.refuse "put aside") } else if i==87 then { f with body:=bb (casBody 0 1) } else if i==88 then { f with body:=bb (casBody 1 0) } else f
def O0 (p:bl)(g:Nat->cu->cu):Program:=⟨p.toTables,p.funcs.mapIdx g⟩
def qu (p:bl)(g:Nat->cu->cu)(i:Nat):(O0 p g).funcs[i]?=(p.funcs[i]?).map (g i):=by
 show(p.funcs.mapIdx g)[i]?=_;rw[AO]
def qv (p:bl)(g:Nat->cu->cu):(O0 p g).toTables=p.toTables:=rfl
def lH {p:bl}{g:Nat->cu->cu}{n:Nat}(h:p.globals.size=n):(O0 p g).globals.size=n:=h
noncomputable def B1:Program:=O0 Tryz.prog QZ
def Sq.get (i:Nat):B1.funcs[i]?=(Tryz.prog.funcs[i]?).map (QZ i):=by rw[B1];exact qu _ _ _
def Sq.fn {i:Nat}{f:cu}(h:Tryz.prog.funcs[i]?=bb f)(hi:(i==6||Im i||i==87||i==88)=b9):B1.funcs[i]?=bb f:=by
 rw[Sq.get,h];simp only[Au] at hi;simp only[zT,QZ,hi.1.1.1,hi.1.1.2,hi.1.2,hi.2,Bool.or_self,zg,if_false]
def Sq.put {i:Nat}{f:cu}(h:Tryz.prog.funcs[i]?=bb f)(hi:(i != 6&&Im i)=cr):B1.funcs[i]?=bb { f with body:=bb (.refuse "put aside") }:=by
 rw[Sq.get,h];simp only[yY,bne_iff_ne,ne_eq] at hi;have h9:(i==6)=false:=by simpa using hi.1
 simp only[zT,QZ,h9,hi.2,Bool.or_true,if_true]
def BR:B1.funcs[6]?=bb { Tryz.f6 with body:=bb (.refuse "put aside") }:=by
 rw[Sq.get,Tryz.func6];rfl
noncomputable def BH:Func:={ Tryz.f87 with body:=bb (casBody 0 1) }
noncomputable def BE:Func:={ Tryz.f88 with body:=bb (casBody 1 0) }
def Sq.f87:B1.funcs[87]?=bb BH:=by
 rw[Sq.get,Tryz.func87];rfl
def Sq.f88:B1.funcs[88]?=bb BE:=by
 rw[Sq.get,Tryz.func88];rfl
def BI:BH.ntmps=6:=rfl
def BG:BE.ntmps=6:=rfl
def Br:B1.toTables=Tryz.prog.toTables:=by rw[B1];exact qv _ _
@[go_sem] theorem Sq.typeInfo (t:TypeId)(w:World):Sem.run B1 (typeInfo t) w=Sem.run Tryz.prog (typeInfo t) w:=eN Br t w
@[go_sem] theorem Sq.run (t:TypeId)(w:World):Sem.run B1 (underlying t) w=Sem.run Tryz.prog (underlying t) w:=n7 Br t w
@[go_sem] theorem Bo (t:TypeId)(w:World):Sem.run B1 (isAgg t) w=Sem.run Tryz.prog (isAgg t) w:=qs Br t w
@[go_sem] theorem Sq.sizeOf (t:TypeId)(w:World):Sem.run B1 (Go.sizeOf t) w=Sem.run Tryz.prog (Go.sizeOf t) w:=oX Br t w
@[go_sem] theorem Sq.zeroValue (t:TypeId)(w:World):Sem.run B1 (Go.zeroValue t) w=Sem.run Tryz.prog (Go.zeroValue t) w:=lG Br t w
@[go_sem] theorem Sq.underlying (t:TypeId):B1.underlying t=Tryz.prog.underlying t:=kR Br t
@[go_sem] theorem Sq.globals_size:B1.globals.size=0:=(by rw[B1];exact lH Tryz.globals_size)
def ae {P:bl} {i:Nat} {f:cu} (h:P.funcs[i]?=bb f) (hn:(f.name == "runtime.NumGoroutine")=false:=by decide +kernel) (hb:f.body.isSome=true:=by rfl) (args:Array Value) (w:bq):bs P (callFunc i args) w=.ok (.enter i args) w:=by
 have Us:¬f.name = "runtime.NumGoroutine":=by simpa using hn
 have hb':f.body≠none:=Option.isSome_iff_ne_none.1 hb;simp[callFunc,h,Us,hb']
def Sq.func4:=Sq.fn Tryz.func4 rfl
@[go_sem] def Sq.call4:=ae Sq.func4
def Sq.func8:=Sq.fn Tryz.func8 rfl
@[go_sem] def Sq.call8:=ae Sq.func8
def Sq.func7:=Sq.fn Tryz.func7 rfl
@[go_sem] def Sq.call7:=ae Sq.func7
def Sq.func11:=Sq.fn Tryz.func11 rfl
@[go_sem] def Sq.call11:=ae Sq.func11
def Sq.func18:=Sq.fn Tryz.func18 rfl
@[go_sem] def Sq.call18:=ae Sq.func18
def Sq.func17:=Sq.fn Tryz.func17 rfl
def Sq.func5:=Sq.fn Tryz.func5 rfl
@[go_sem] def Sq.call5:=ae Sq.func5
def Sq.func9:=Sq.fn Tryz.func9 rfl
@[go_sem] def Sq.call9:=ae Sq.func9
def Sq.func29:=Sq.fn Tryz.func29 rfl
@[go_sem] def Sq.call29:=ae Sq.func29
def Sq.func10:=Sq.fn Tryz.func10 rfl
@[go_sem] def Sq.call10:=ae Sq.func10
def Sq.func22:=Sq.fn Tryz.func22 rfl
@[go_sem] def Sq.call22:=ae Sq.func22
def Sq.func23:=Sq.fn Tryz.func23 rfl
@[go_sem] def Sq.call23:=ae Sq.func23
def Sq.func26:=Sq.fn Tryz.func26 rfl
@[go_sem] def Sq.call26:=ae Sq.func26
def Sq.func12:=Sq.fn Tryz.func12 rfl
@[go_sem] def Sq.call12:=ae Sq.func12
def Sq.func13:=Sq.fn Tryz.func13 rfl
def Sq.func14:=Sq.fn Tryz.func14 rfl
def Sq.func15:=Sq.fn Tryz.func15 rfl
@[go_sem] def Sq.call15:=ae Sq.func15
def Sq.func16:=Sq.fn Tryz.func16 rfl
@[go_sem] def Sq.call16:=ae Sq.func16
def Sq.func32:=Sq.fn Tryz.func32 rfl
@[go_sem] def Sq.call32:=ae Sq.func32
def Sq.func20:=Sq.fn Tryz.func20 rfl
@[go_sem] def Sq.call20:=ae Sq.func20
def Sq.func24:=Sq.fn Tryz.func24 rfl
@[go_sem] def Sq.call24:=ae Sq.func24
def Sq.func25:=Sq.fn Tryz.func25 rfl
@[go_sem] def Sq.call25:=ae Sq.func25
def Sq.func27:=Sq.fn Tryz.func27 rfl
@[go_sem] def Sq.call27:=ae Sq.func27
def Sq.func28:=Sq.fn Tryz.func28 rfl
@[go_sem] def Sq.call28:=ae Sq.func28
def Sq.func30:=Sq.fn Tryz.func30 rfl
@[go_sem] def Sq.call30:=ae Sq.func30
def Sq.func33:=Sq.fn Tryz.func33 rfl
@[go_sem] def Sq.call33:=ae Sq.func33
def Sq.func44:=Sq.fn Tryz.func44 rfl
@[go_sem] def Sq.call44:=ae Sq.func44
def Sq.func46:=Sq.fn Tryz.func46 rfl
def Sq.func47:=Sq.fn Tryz.func47 rfl
@[go_sem] def Sq.call47:=ae Sq.func47
def Sq.func48:=Sq.fn Tryz.func48 rfl
def Sq.func31:=Sq.fn Tryz.func31 rfl
@[go_sem] def Sq.call31:=ae Sq.func31
def Sq.func52:=Sq.fn Tryz.func52 rfl
@[go_sem] def Sq.call52:=ae Sq.func52
def Sq.func54:=Sq.fn Tryz.func54 rfl
def Sq.func55:=Sq.fn Tryz.func55 rfl
@[go_sem] def Sq.call55:=ae Sq.func55
def Sq.func56:=Sq.fn Tryz.func56 rfl
@[go_sem] def Sq.call56:=ae Sq.func56
def Sq.func69:=Sq.fn Tryz.func69 rfl
@[go_sem] def Sq.call69:=ae Sq.func69
def Sq.func34:=Sq.fn Tryz.func34 rfl
@[go_sem] def Sq.call34:=ae Sq.func34
def Sq.func39:=Sq.fn Tryz.func39 rfl
@[go_sem] def Sq.call39:=ae Sq.func39
def Sq.func57:=Sq.fn Tryz.func57 rfl
@[go_sem] def Sq.call57:=ae Sq.func57
def Sq.func58:=Sq.fn Tryz.func58 rfl
@[go_sem] def Sq.call58:=ae Sq.func58
def Sq.func59:=Sq.fn Tryz.func59 rfl
@[go_sem] def Sq.call59:=ae Sq.func59
def Sq.func60:=Sq.fn Tryz.func60 rfl
@[go_sem] def Sq.call60:=ae Sq.func60
def Sq.func61:=Sq.fn Tryz.func61 rfl
@[go_sem] def Sq.call61:=ae Sq.func61
def Sq.func62:=Sq.fn Tryz.func62 rfl
@[go_sem] def Sq.call62:=ae Sq.func62
def Sq.func63:=Sq.fn Tryz.func63 rfl
@[go_sem] def Sq.call63:=ae Sq.func63
def Sq.func36:=Sq.fn Tryz.func36 rfl
@[go_sem] def Sq.call36:=ae Sq.func36
def Sq.func42:=Sq.fn Tryz.func42 rfl
@[go_sem] def Sq.call42:=ae Sq.func42
def Sq.func64:=Sq.fn Tryz.func64 rfl
@[go_sem] def Sq.call64:=ae Sq.func64
def Sq.func65:=Sq.fn Tryz.func65 rfl
@[go_sem] def Sq.call65:=ae Sq.func65
def Sq.func66:=Sq.fn Tryz.func66 rfl
@[go_sem] def Sq.call66:=ae Sq.func66
def Sq.func67:=Sq.fn Tryz.func67 rfl
@[go_sem] def Sq.call67:=ae Sq.func67
def Sq.func35:=Sq.fn Tryz.func35 rfl
@[go_sem] def Sq.call35:=ae Sq.func35
def Sq.func37:=Sq.fn Tryz.func37 rfl
@[go_sem] def Sq.call37:=ae Sq.func37
def Sq.func38:=Sq.fn Tryz.func38 rfl
@[go_sem] def Sq.call38:=ae Sq.func38
def Sq.func40:=Sq.fn Tryz.func40 rfl
@[go_sem] def Sq.call40:=ae Sq.func40
def Sq.func41:=Sq.fn Tryz.func41 rfl
@[go_sem] def Sq.call41:=ae Sq.func41
def Sq.func43:=Sq.fn Tryz.func43 rfl
@[go_sem] def Sq.call43:=ae Sq.func43
def Sq.func71:=Sq.fn Tryz.func71 rfl
@[go_sem] def Sq.call71:=ae Sq.func71
def Sq.func79:=Sq.fn Tryz.func79 rfl
def Sq.func68:=Sq.fn Tryz.func68 rfl
@[go_sem] def Sq.call68:=ae Sq.func68
def Sq.func85:=Sq.fn Tryz.func85 rfl
def Sq.func86:=Sq.fn Tryz.func86 rfl
def Sq.func70:=Sq.fn Tryz.func70 rfl
@[go_sem] def Sq.call70:=ae Sq.func70
def Sq.func76:=Sq.fn Tryz.func76 rfl
@[go_sem] def Sq.call76:=ae Sq.func76
def Sq.func87:B1.funcs[87]?=bb BH:=Sq.f87
@[go_sem] def Sq.call87:=ae Sq.func87
def Sq.func88:B1.funcs[88]?=bb BE:=Sq.f88
@[go_sem] def Sq.call88:=ae Sq.func88
def Sq.func72:=Sq.fn Tryz.func72 rfl
@[go_sem] def Sq.call72:=ae Sq.func72
def Sq.func89:=Sq.fn Tryz.func89 rfl
@[go_sem] def Sq.call89:=ae Sq.func89
def Sq.func90:=Sq.fn Tryz.func90 rfl
def Sq.func91:=Sq.fn Tryz.func91 rfl
def Sq.func92:=Sq.fn Tryz.func92 rfl
@[go_sem] def Sq.call92:=ae Sq.func92
def Sq.func93:=Sq.fn Tryz.func93 rfl
@[go_sem] def BU:=ae Sq.func93
def Sq.func94:=Sq.fn Tryz.func94 rfl
@[go_sem] def Sq.call94:=ae Sq.func94
def Sq.func95:=Sq.fn Tryz.func95 rfl
@[go_sem] def Sq.call95:=ae Sq.func95
def Sq.func96:=Sq.fn Tryz.func96 rfl
@[go_sem] def Sq.call96:=ae Sq.func96
def Sq.func78:=Sq.fn Tryz.func78 rfl
@[go_sem] def Sq.call78:=ae Sq.func78
def Sq.func97:=Sq.fn Tryz.func97 rfl
@[go_sem] def Sq.call97:=ae Sq.func97
def Sq.func73:=Sq.fn Tryz.func73 rfl
@[go_sem] def Sq.call73:=ae Sq.func73
def Sq.func74:=Sq.fn Tryz.func74 rfl
@[go_sem] def Sq.call74:=ae Sq.func74
def Sq.func75:=Sq.fn Tryz.func75 rfl
@[go_sem] def Sq.call75:=ae Sq.func75
def Sq.func77:=Sq.fn Tryz.func77 rfl
@[go_sem] def Sq.call77:=ae Sq.func77
def Sq.func80:=Sq.fn Tryz.func80 rfl
def Sq.func98:=Sq.fn Tryz.func98 rfl
@[go_sem] def Sq.call98:=ae Sq.func98
def Sq.func99:=Sq.fn Tryz.func99 rfl
@[go_sem] def Sq.call99:=ae Sq.func99
def Sq.func100:=Sq.fn Tryz.func100 rfl
@[go_sem] def Sq.call100:=ae Sq.func100
def Sq.func121:=Sq.fn Tryz.func121 rfl
def Sq.func122:=Sq.fn Tryz.func122 rfl
def Sq.func123:=Sq.fn Tryz.func123 rfl
def Sq.func124:=Sq.fn Tryz.func124 rfl
def Sq.func125:=Sq.fn Tryz.func125 rfl
def Sq.func126:=Sq.fn Tryz.func126 rfl
def Sq.func127:=Sq.fn Tryz.func127 rfl
def Sq.func128:=Sq.fn Tryz.func128 rfl
def Sq.func129:=Sq.fn Tryz.func129 rfl
def Sq.func130:=Sq.fn Tryz.func130 rfl
def Sq.func131:=Sq.fn Tryz.func131 rfl
def Sq.func132:=Sq.fn Tryz.func132 rfl
def Sq.func133:=Sq.fn Tryz.func133 rfl
@[go_sem] def Sq.call133:=ae Sq.func133
def Sq.func134:=Sq.fn Tryz.func134 rfl
@[go_sem] def Sq.call134:=ae Sq.func134
def Sq.func135:=Sq.fn Tryz.func135 rfl
@[go_sem] def Sq.call135:=ae Sq.func135
def Sq.func136:=Sq.fn Tryz.func136 rfl
@[go_sem] def Sq.call136:=ae Sq.func136
def Sq.func137:=Sq.fn Tryz.func137 rfl
@[go_sem] def Sq.call137:=ae Sq.func137
def Sq.func143:=Sq.fn Tryz.func143 rfl
def Sq.func147:=Sq.fn Tryz.func147 rfl
def Sq.func148:=Sq.fn Tryz.func148 rfl
def Sq.func149:=Sq.fn Tryz.func149 rfl
def Sq.func150:=Sq.fn Tryz.func150 rfl
def Sq.func151:=Sq.fn Tryz.func151 rfl
def Sq.func152:=Sq.fn Tryz.func152 rfl
def Sq.func153:=Sq.fn Tryz.func153 rfl
def Sq.func154:=Sq.fn Tryz.func154 rfl
def Sq.func155:=Sq.fn Tryz.func155 rfl
def Sq.func156:=Sq.fn Tryz.func156 rfl
def Sq.func157:=Sq.fn Tryz.func157 rfl
def Sq.func158:=Sq.fn Tryz.func158 rfl
def Sq.func159:=Sq.fn Tryz.func159 rfl
def Sq.func160:=Sq.fn Tryz.func160 rfl
@[go_sem] def Sq.call160:=ae Sq.func160
def Sq.func168:=Sq.fn Tryz.func168 rfl
def Sq.func169:=Sq.fn Tryz.func169 rfl
def Sq.func170:=Sq.fn Tryz.func170 rfl
def Sq.func171:=Sq.fn Tryz.func171 rfl
def Sq.func172:=Sq.fn Tryz.func172 rfl
def Sq.underlying22:B1.underlying 22=bb (.slice 3):=(Sq.underlying 22).trans Tryz.underlying22
def Sq.underlying26:B1.underlying 26=bb (.slice 22):=(Sq.underlying 26).trans Tryz.underlying26
def Sq.underlying23:B1.underlying 23=bb (.slice 28):=(Sq.underlying 23).trans Tryz.underlying23
def Sq.underlying137:B1.underlying 137=bb (.slice 74):=(Sq.underlying 137).trans Tryz.underlying137
structure CF where
 heads:Int
 Dd:Int
 most:Int
 off:List Int
instance:Inhabited CF:=⟨⟨0,0,0,[]⟩⟩
structure Cc where
 B3:List Int
 B2:List CF
def Cc.h (c:Cc)(i:Nat):CF:=c.B2[i]?.getD default
def Hc:List Int->List Int->Int
 |[],[]=>0
 |[],_::_=>-1
 |_::_,[]=>1
 |a::l,b::m=>if a<b then -1 else if b<a then 1 else Hc l m
def lX (l:List Int):Hc [] l=if l.length=0 then 0 else -1:=by cases l<;>simp[Hc]
def qx (l:List Int)(h:0<l.length):Hc l []=1:=by cases l with
 |nil=>simp at h
 |cons a l=>rfl
def qy (l m:List Int)(k:Nat)(h1:k<l.length)(h2:k<m.length):Hc (l.drop k) (m.drop k)=if l[k]?.getD 0<m[k]?.getD 0 then -1 else if m[k]?.getD 0<l[k]?.getD 0 then 1 else Hc (l.drop (k+1)) (m.drop (k+1)):=by
 rw[AX h1,AX h2,yM h1,yM h2]
 rfl
def dL (a b:Int):Int:=if a<b then -1 else if b<a then 1 else 0
def bt {α:Type}(d:α)(l:List α)(k:Nat)(h:k<l.length):l.take (k+1)=l.take k++[l[k]?.getD d]:=by
 rw[AH,yM h];rfl
def jf (l:List Int)(k:Nat)(h:k<l.length):(l.take (k+1)).sum=(l.take k).sum+l[k]?.getD 0:=by
 rw[bt 0 l k h,List.sum_append];simp
def FI (a b:Int)(l:List Int)(h:∀x∈l,a<=x/\x<=b):l.length*a<=l.sum/\l.sum<=l.length*b:=by
 induction l with
 |nil=>simp
 |cons x l ih =>
  obtain⟨h1,h2⟩:=ih λy hy=>h y (Aj _ hy);obtain⟨h3,h4⟩:=h x Ac;simp only[yV,List.sum_cons,Int.natCast_add,Int.natCast_one,Int.add_mul,Int.one_mul] at *;omega
def EK (l:List Int)(k:Nat)(h:k<l.length):l[k]?.getD 0∈l:=by
 rw[yM h];exact zx h
structure Cc.Ok (c:Cc):Prop where
 n1:1<=c.B3.length
 n5:c.B3.length<=5
 need:∀x∈c.B3,0<=x/\x<=12
 h1:1<=c.B2.length
 h4:c.B2.length<=4
 heads:∀h∈c.B2,1<=h.heads/\h.heads<=40
 Dd:∀h∈c.B2,1<=h.Dd/\h.Dd<=5
 most:∀h∈c.B2,0<=h.most/\h.most<=5
 off:∀h∈c.B2,h.off.length<=5/\∀x∈h.off,0<=x/\x<c.B3.length
def Cc.Gw (c:Cc){i:Nat}(hi:i<c.B2.length):c.h i∈c.B2:=by
 unfold Cc.h;rw[yM hi];exact zx hi
def below (x k:Nat):List Int:=((cU k).filter x.testBit).map (λn:Nat=>(n:Int))
def wl (x:Nat):List Int:=below x 4
def Kg {x:Nat}{z:Int}(h:z∈wl x):∃n:Nat,z=n/\n<4/\x.testBit n=true:=by
 unfold wl below at h;simp only[zu,AE,zB] at h;obtain⟨n,⟨h1,h2⟩,rfl⟩:=h;exact⟨n,rfl,h1,h2⟩
def bF (x:Nat):(wl x).length<=4:=by
 unfold wl below;rw[zy];exact yR (AF _ _) (by simp)
def Cc.has (c:Cc)(x:Nat):Prop:=x<2 ^ c.B2.length
def gJ {x n m:Nat}(h:x<2 ^ m)(hb:x.testBit n=cr):n<m:=by
 rcases zC n m with h1|h1
 .exact h1
 .rw[Nat.testBit_lt_two_pow (yO h (Av (by omega) h1))] at hb;cases hb
def Bs {c:Cc}(h4:c.B2.length<=4){x:Nat}(hx:c.has x):x<16:=yO hx (Av (by omega) h4)
def Kh {c:Cc}{x:Nat}(hx:c.has x){k:Nat}(hk:k<(wl x).length):∃n:Nat,(wl x)[k]?.getD 0=n/\n<c.B2.length/\n<4/\x.testBit n=true:=by
 obtain⟨n,h1,h2,h3⟩:=Kg (EK _ k hk);exact⟨n,h1,gJ hx h3,h2,h3⟩
def Cc.Dd (c:Cc)(x:Nat):Int:=((wl x).map λh=>(c.h h.toNat).Dd).sum
def Cc.JW (c:Cc)(x:Nat):List Int:=(wl x).map λh=>(c.h h.toNat).Dd
def Cc.Ki (c:Cc)(x:Nat):(c.JW x).length=(wl x).length:=zy ..
def Cc.UL (c:Cc){x k n:Nat}(hk:k<(wl x).length)(hn:(wl x)[k]?.getD 0=n):(c.JW x)[k]?.getD 0=(c.h n).Dd:=by
 unfold Cc.JW;rw[zL];rw[yM hk] at hn ⊢;simp only[zc] at hn;simp[hn]
def BM (c:Cc)(x:Nat):c.Dd x=(c.JW x).sum:=rfl
def O1 (c:Cc){x:Nat}(hx:c.has x)(hd:∀h∈c.B2,1<=h.Dd/\h.Dd<=5)(k:Nat):0<=((c.JW x).take k).sum/\((c.JW x).take k).sum<=20:=by
 have hb:=FI 0 5 ((c.JW x).take k) λy hy=>by
  obtain⟨z,hz,rfl⟩:=zu.1 (Aw hy);obtain⟨n,rfl,_,h3⟩:=Kg hz;have:=hd _ (c.Gw (gJ hx h3));simp only[AM];omega
 have hl:((c.JW x).take k).length<=4:=by
  rw[AQ,c.Ki];have:=bF x;omega
 omega
def EY (r:Nat->Nat)(n:Nat):Nat->Nat
 |0=>0
 |k+1=>EY r n k+if(r k).testBit n then 1 else 0
def qz (r:Nat->Nat)(n k:Nat):EY r n k<=k:=by
 induction k with
 |zero=>exact yL _
 |succ k ih=>simp only[EY];split<;>omega
def aaI (c:Cc)(night n:Nat):Bool:=decide ((night:Int)∈(c.h n).off)
def fM (r:Nat->Nat)(night n:Nat):Bool:=decide (0<night)&&(r (night-1)).testBit n
def qA (c:Cc)(r:Nat->Nat)(night n:Nat):Bool:=decide ((c.h n).most<=(EY r n night:Int))
def Fo (c:Cc)(r:Nat->Nat)(night:Nat):Nat->Nat->Bool
 |0,n=>aaI c night n
 |1,n=>fM r night n
 |_,n=>qA c r night n
def breaks (c:Cc)(r:Nat->Nat)(night i:Nat):Option Int:=(wl (r night)).find? λh=>Fo c r night i h.toNat
def Cc.need (c:Cc)(night:Nat):Int:=c.B3[night]?.getD 0
def Ci (c:Cc)(r:Nat->Nat)(night:Nat):Int×Int×Int :=
 match breaks c r night 0 with
 |some h=>(1,night,h)
 |none=>match breaks c r night 1 with
  |some h=>(2,night,h)
  |none=>match breaks c r night 2 with
   |some h=>(3,night,h)
   |none=>if c.Dd (r night)<c.need night then(4,night,-1) else(0,-1,-1)
def dg {l:List Int}{p:Int->Bool}{k:Nat}(hk:k<l.length)(hn:(l.take k).find? p=none)(hp:p (l[k]?.getD 0)=cr):l.find? p=bb (l[k]?.getD 0):=by
 have e:l.find? p=(l.take k++l.drop k).find? p:=by rw[List.take_append_drop]
 rw[e,cq,hn,AX hk,List.find?_cons];rw[yM hk] at hp ⊢;simp only[zc] at hp ⊢;simp only[hp,Option.none_or]
def cG {l:List Int}{p:Int->Bool}{k:Nat}(hk:k<l.length)(hn:(l.take k).find? p=none)(hp:p (l[k]?.getD 0)=b9):(l.take (k+1)).find? p=none:=by
 rw[bt 0 l k hk,cq,hn];simp[hp]
def CM (n lo hi:Int):Int:=if n<lo then 7 else if hi<n then 6 else 0
def En (l:List Int)(n:Int)(i:Nat):Int:=if 0<=l[i]?.getD 0/\l[i]?.getD 0<=n-1 then(if 0<i/\l[i]?.getD 0<=l[i-1]?.getD 0 then 5 else 0) else 3
def bG (l:List Int):Int:=(l.find? (· != 0)).getD 0
def Dw (l:List Int)(n:Int):Int:=bG ((cU l.length).map (En l n))
def Ez (x lo hi:Int):Bool:=decide (lo<=x)&&decide (x<=hi)
def D6 (n:Int)(h:CF):Int:=if Ez h.heads 1 40&&Ez h.Dd 1 5&&Ez h.most 0 5 then Dw h.off n else 1
def Cn (c:Cc):Int :=
 if CM c.B3.length 1 5≠0 then CM c.B3.length 1 5 else if(c.B3.all λx=>Ez x 0 12)=b9 then 1
 else if CM c.B2.length 1 4≠0 then CM c.B2.length 1 4 else bG (c.B2.map (D6 c.B3.length))
def iS {l:List Int}(h:∀x∈l,x=0):bG l=0:=by
 unfold bG;rw[Bd.2 λx hx=>by simp[h x hx]];rfl
def aX {l:List Int}{k:Nat}(hk:k<l.length)(hn:∀i,i<k->l[i]?.getD 0=0)(hp:l[k]?.getD 0≠0):bG l=l[k]?.getD 0:=by
 unfold bG;rw[dg hk (Bd.2 λx hx=>?_) (by simpa using hp)]
 .rfl
 .obtain⟨i,hi,rfl⟩:=List.mem_take_iff_getElem.1 hx;have:=hn i (by omega);rw[yM (by omega)] at this;simpa using this
def cX {l:List Int}(hn:∀i,i<l.length->l[i]?.getD 0=0):bG l=0:=iS λx hx=>by
 obtain⟨i,hi,rfl⟩:=zZ.1 hx;have:=hn i hi;rw[yM hi] at this;simpa using this
def gd {l:List Int}{n:Int}{k:Nat}(hk:k<l.length)(hn:∀i,i<k->En l n i=0)(hp:En l n k≠0):Dw l n=En l n k:=by
 have e:∀i,i<l.length->((cU l.length).map (En l n))[i]?.getD 0=En l n i:=λi hi=>by simp[hi]
 unfold Dw;rw[aX (k:=k) (by simpa using hk) (λi hi=>by rw[e i (by omega)];exact hn i hi) (by rw[e k hk];exact hp),e k hk]
def kS {l:List Int}{n:Int}(hn:∀i,i<l.length->En l n i=0):Dw l n=0:=by
 unfold Dw;exact cX λi hi=>by
  have hi':i<l.length:=by simpa using hi
  simp[hi',hn i hi']
def IU (l:List Int):Nat:=l.foldl (λx h=>x ||| 2 ^ h.toNat) 0
def sC (l:List Int)(k:Nat)(hk:k<l.length):IU (l.take (k+1))=IU (l.take k) ||| 2 ^ (l[k]?.getD 0).toNat:=by
 rw[bt 0 l k hk];unfold IU;rw[List.foldl_append];rfl
def yb:∀x:Fin 16,∀n:Fin 4,(x.val ||| 2 ^ n.val)<16:=by decide
def qC (l:List Int)(h:∀x∈l,0<=x/\x<4):IU l<16:=by
 have key:∀(l:List Int) (x:Nat),(∀y∈l,0<=y/\y<4)->x<16->l.foldl (λx h=>x ||| 2 ^ h.toNat) x<16:=by
  intro l
  induction l with
  |nil=>intro x _ hx;exact hx
  |cons a l ih =>
   intro x h hx;have ha:=h a Ac;exact ih _ (λy hy=>h y (Aj _ hy)) (yb ⟨x,hx⟩ ⟨a.toNat,by omega⟩)
 exact key l 0 h (by decide)
def Bz (a:Addr)(w:bq)(hc:w.cell? a=bb (.int .i32 0))(hz:w.frozen? a=b9) :
  Calls B1 87 #[.pointer (bb a)] w λe w'=>e=.returned (.tuple #[])/\w'=w.setCell a (.int .i32 1):=by
 have aaS:=cw (P:=B1) Sq.func143 (by kernel_rfl) (by kernel_rfl) (by kernel_rfl) .i32 (by kernel_rfl) (x:=0) (y:=1) hc hz;go_enter Sq.func87,BI;simp only[casBody];go_wp2;refine bodyPost_ret (results_none rfl _ _ _) rfl ?_;exact⟨rfl,rfl⟩
def Bx (a:Addr)(u:FrameMode)(w:bq)(hc:w.cell? a=bb (.int .i32 1))(hz:w.frozen? a=b9) :
  CallsD B1 88 #[.pointer (bb a)] u w λe u' w'=>u'=u/\(e=.returned (.tuple #[])/\w'=w.setCell a (.int .i32 0)):=by
 have aaS:=cw (P:=B1) Sq.func143 (by kernel_rfl) (by kernel_rfl) (by kernel_rfl) .i32 (by kernel_rfl) (x:=1) (y:=0) hc hz;go_enter_d Sq.func88,BG;simp only[casBody];go_wp2;refine bodyPost_ret (results_none rfl _ _ _) rfl ?_;exact⟨rfl,rfl⟩
end Go.Sq
