/- Parts of the proof. -/
import Derived.Test.YtghipmneleifpaaGreatP06
import Derived.Test.YtghipmneleifpaaGreatP00
set_option linter.all false
set_option maxHeartbeats 1600000
open Go renaming Goroutine->a6,World->a8,deafBehind->bn,FuncId->bw,Event->b6,Frame->cf
open Go.ConcN renaming upd_same->a7,upd_ne->bl,Mode->bA,bk_cell->cq
open Go.Conc renaming mem_ofEvents->bb,semEvents->bW,aside_setCell->b5
open Go.MemAct renaming ofEvent->bc,touch?->b9
open Go.ConcN.Mode renaming retag->bh,last->b7
open Go.MemOp renaming ofEvents->bo
open Bool renaming false->bq,true->bs
open Option renaming some->br,none->b8
open Nat renaming le_of_not_lt->bD
namespace Go.Co
open Go.Ct Go.Conc Go.ConcN
open Go.ConcR (KK WgAt stA smA rd wr mk DC0 Bk g_of_ofEvents bk_of_mute ofEvent_loc_mark ofEvent_cell ofEvent_mk)
def MJ.X6 {p:Program}{a:Wm}{s m:Nat}(h:MJ p a (.st s m)):∃s' m',a=.st s' m':=by
 cases h<;>exact⟨_,_,rfl⟩
section
variable (P:CL) (SB BB:bw->Bool) (lets:Bool) (Gn:Nat) (ty Wg:Nat) (Dead Toy:Nat->Prop) (Kp:Gm) (Ψ0 Ψ2:a8->Prop)
def JD (j0 j:Nat)(gs:Array a6)(W:a8)(t:Trace)(D:Nat->WD)(M:Nat->Wm)(L:Nat->Option Lone)(rr:Nat->Nat)(tag:CTag)(tp:Bool)(i:Nat)(g:a6):Prop :=
 ∃(g':a6) (W':a8) (es:Array b6) (D':Nat->WD) (M':Nat->Wm) (O':Nat->Bool) (L':Nat->Option Lone) (ts':TS) (ZW:Nat->Nat) (Io Jl:Int),
  stepG P.b bq g W=.go g' W' es /\
  WI P SB BB lets Gn ty Wg Dead Toy Kp Ψ0 Ψ2 j0 j ((gs.map (woken P.b g g' W')).setIfInBounds (i+1) g') W' (t++bo (i+1) g.frame.fn g.frame.place es) D' M' O' L' ts' ZW Io Jl /\
  (∀tag',(tag'=tag\/(tag=.blk/\tag'=.w3))->(mayWake P.b g=bs->g'.status=.running->tag'≠.blk)->bA j D' tag' Io Jl) /\
  MJ P.a (M' i) (M i)/\(∀k,k≠i->M' k=M k)/\L' 0=L 0/\Vc j D'<=Vc j D/\(∀k,k<j->(D k).stage<=6->(D' k).stage<=6/\ZW k=rr k)/\ts'.tp=tp
end
section
variable {P:CL} {SB BB:bw->Bool} {lets:Bool} {Gn:Nat} {ty Wg:Nat} {Dead Toy:Nat->Prop} {Kp:Gm} {Ψ0 Ψ2:a8->Prop}
 {j0 j:Nat} {gs:Array a6} {W W':a8} {t:Trace} {D:Nat->WD} {M:Nat->Wm} {O:Nat->Bool} {L:Nat->Option Lone} {ts ts':TS} {rr:Nat->Nat} {st sm Io Jl:Int} {tag:CTag} {i:Nat} {g:a6}
def dp (hi:i<j){x:WD}(hx:cnt x<=cnt (D i)):Vc j (upd D i x)<=Vc j D:=by
 have:=Vc_upd D x hi;omega
def bI (h:WI P SB BB lets Gn ty Wg Dead Toy Kp Ψ0 Ψ2 j0 j gs W t D M O L ts rr st sm)(tz:av Toy Ψ0)(DZ:av Toy Ψ2)(hi:i<j)(hL:L (i+1)=b8)(hO:O i=bq){s:Nat}(hs:(D i).stage=s)(h6:s<=6)
  {g':a6} {es:Array b6} {s' dd':Nat} {m':Wm} (hgo:stepG P.b bq g W=.go g' W' es) (hk:E7 P SB BB lets Gn ty Wg Ψ2 s' dd' m' b8 bq g' W') (hst:s'<=s) (hold:i<j0->s'=1)
  (Og:Aside Wg W W') (DX:WgAt ty Wg W' Io Jl) (Iz:∀e∈es,Bk Wg e) (hd:∀a e,es[a]?=br e->(bc e).touch?=b8\/0<bn (D i).deaf (es.extract 0 a)) (MK:bn (D i).deaf es=dd')
  (Cx:∀tag',(tag'=tag\/(tag=.blk/\tag'=.w3))->(mayWake P.b g=bs->g'.status=.running->tag'≠.blk)->bA j (upd D i ⟨s',0,dd'⟩) tag' Io Jl)
  (hlt:MJ P.a m' (M i)):JD P SB BB lets Gn ty Wg Dead Toy Kp Ψ0 Ψ2 j0 j gs W t D M L rr tag ts.tp i g:=by
 refine⟨g',W',es,_,_,_,_,_,_,Io,Jl,hgo,h.book tz DZ hi hk (by omega) hL hO (by omega) hold Og DX Iz hd MK,Cx,by rw[a7];exact hlt,λk hk=>bl M _ hk,rfl,dp hi ?_,λk hk h6'=>?_,rfl⟩
 .simp only[cnt];split<;>split<;>omega
 .by_cases e:k=i
  .subst e;rw[a7,a7];exact⟨by show s'<=6;omega,rfl⟩
  .rw[bl D _ e,bl rr _ e];exact⟨h6',rfl⟩
def ey {es:Array b6}{k:Nat}{fn:bw}{pos:String}(h:∀e∈es,(bc e).touch?=b8):∀op∈bo k fn pos es,op.g=k/\∀x,op.act.touch?=br x->False:=by
 intro op hop;obtain⟨e,he,rfl⟩:=bb hop;exact⟨rfl,λx hx=>by rw[h e he] at hx;cases hx⟩
def MN (h:WI P SB BB lets Gn ty Wg Dead Toy Kp Ψ0 Ψ2 j0 j gs W t D M O L ts rr st sm)(hi:i<j)(hL:L (i+1)=b8)(hO:O i=bq)(hs:(D i).stage=7)(hd:(D i).deaf=0){m:Nat}(hM:M i=.st 7 m)(Cx:bA j D tag st sm)
  (hk:GW P.b ty Wg bq (R0 P.b ty Wg) m g W):JD P SB BB lets Gn ty Wg Dead Toy Kp Ψ0 Ψ2 j0 j gs W t D M L rr tag ts.tp i g:=by
 have U3:j0<=i:=bD λhlt=>by have:=h.old i hlt;omega
 have hdk:Deaf t (i+1)=0:=by rw[h.deafW i hi,hd]
 rcases Goes.cases hk with CQ|⟨m',rfl,hstep⟩
 .obtain⟨_,g',hgo,m₂,E5⟩:=CQ W (RL.refl W);have Mi:∀e∈(#[mk (.releaseMerge (stA Wg))]:Array b6),(bc e).touch?=none:=by intro e he;simp at he;subst he;rfl
  have hw:=h.next hi (g:=g) (fn:=g.frame.fn) (pos:=g.frame.place) (r':=t.size) (ts':=ts) (.k1 E5) h.wg (by rw[FN hL];exact h.cw)
   (by rw[FN hL];exact h.Jm (by omega) (λop hop=>⟨(ey Mi op hop).1,λx hx=>((ey Mi op hop).2 x hx).elim⟩))
   (by intro e he a;simp at he;subst he;simp[mk]) (by omega) (λe=>by omega)
   (.inr ⟨λa ha _=>by omega,λh6=>by omega,λa ha PZ=>.inl ⟨by
    obtain⟨z,hz,_⟩:=zm.1 PZ;have:=lt_size_of_getElem? hz;rw[ofEvents_eq] at this;simp at this
    omega,U3⟩⟩) (λe=>by omega)
   (λop hop=>by
    obtain⟨e,he,rfl⟩:=bb hop;simp at he;subst he
    exact h.cw.low.1) (yL _) (by rw[hd];rfl) (λ_ _=>RelBy.new hdk _ _) (by simp) (.inl ⟨rfl,hO.symm⟩) h.FE
  refine⟨g',W,_,_,_,_,_,_,_,st,sm,hgo,hw,λtag' ht _=>(Cx.counted hi (by omega) (.inl rfl) _ _).retag ht,by rw[a7,hM];exact .stage (by omega),λk hk=>bl M _ hk,CJ L _ (by omega),dp hi (by simp[cnt,hs]),λk hk h6=>?_,rfl⟩;have e:k≠i:=λe=>by subst e;omega
  rw[bl D _ e,bl rr _ e];exact⟨h6,rfl⟩
 .obtain⟨g',w',es,hgo,⟨rfl,rfl⟩,EE⟩:=hstep W (RL.refl W);have Mi:∀e∈(#[]:Array b6),(bc e).touch?=none:=by simp
  have hw:=h.next hi (g:=g) (fn:=g.frame.fn) (pos:=g.frame.place) (r':=rr i) (ts':=ts) (.r0 EE) h.wg (by rw[FN hL];exact h.cw)
   (by rw[FN hL];exact h.Jm (by omega) (λop hop=>⟨(ey Mi op hop).1,λx hx=>((ey Mi op hop).2 x hx).elim⟩))
   (by simp) (by omega) (λe=>by omega) (.inl rfl) (λ_=>⟨U3,hs⟩) (λop hop=>by obtain⟨e,he,rfl⟩:=bb hop;simp at he) (yL _) (by rw[hd];rfl) (λ_ e=>by omega) (by simp) (.inl ⟨rfl,hO.symm⟩) h.FE
  refine⟨g',w',_,_,_,_,_,_,_,st,sm,hgo,hw,λtag' ht _=>bh (by have:=Cx.same (i:=i) 0 0;rwa [hs] at this) ht,by rw[a7,hM];exact .fuel (by omega),λk hk=>bl M _ hk,CJ L _ (by omega),dp hi (by simp[cnt,hs]),λk hk h6=>?_,rfl⟩;have e:k≠i:=λe=>by subst e;omega
  rw[bl D _ e,bl rr _ e];exact⟨h6,rfl⟩
def Cw.free (c:Cw P SB lets Gn Wg Dead Toy Kp L (br (i+1)) W):Cw P SB lets Gn Wg Dead Toy Kp (put L (i+1) b8) b8 W:=by
 have d:=c.drop (i+1);refine⟨d.like,d.C8,d.Pg,d.dead,λa x ha _=>?_,d.sep,d.low,d.Ih,d.keep,d.D7,d.MH,d.Rx⟩;have e:a≠i+1:=λe=>by subst e;rw[Cu] at ha;cases ha
 exact d.Ig a x ha (λe'=>e (Option.some.inj e').symm)
def WI.turn (h:WI P SB BB lets Gn ty Wg Dead Toy Kp Ψ0 Ψ2 j0 j gs W t D M O L ts rr st sm)(hi:i<j)(hg:gs[i+1]?=br g)(hs:(D i).stage=7)(hd:(D i).deaf=0){m:Nat}(hk:GW P.b ty Wg bq (R0 P.b ty Wg) m g W)(RF:O i=bs->Ψ2 W) :
  ∃ts',WI P SB BB lets Gn ty Wg Dead Toy Kp Ψ0 Ψ2 j0 j gs W t D (upd M i (.st 7 m)) (upd O i bq) (put L (i+1) b8) ts' rr st sm/\ts'.tp=ts.tp:=by
 have I2:∀ {a y},put L (i+1) b8 a=br y->L a=br y:=λ{a y} e=>by
  by_cases e':a=i+1
  .subst e';rw[Cu] at e;cases e
  .rwa [CJ L _ e'] at e
 have wk:∀a,a<j->∃g,gs[a+1]?=br g/\E7 P SB BB lets Gn ty Wg Ψ2 (D a).stage (D a).deaf (upd M i (.st 7 m) a) (put L (i+1) b8 (a+1)) (upd O i bq a) g W:=λa ha=>by
  by_cases e:a=i
  .subst e;refine⟨g,hg,?_⟩;rw[a7,a7,Cu,hs,hd];exact .r0 hk
  .obtain⟨y,hy,hs⟩:=h.wk a ha;refine⟨y,hy,?_⟩;rw[bl M _ e,bl O _ e,CJ L _ (by omega)];exact hs
 have out:∀a,j<a->put L (i+1) b8 a=none:=λa ha=>by rw[CJ L _ (by omega)];exact h.out a ha
 by_cases ho:O i=bs
 .have e:=h.Ko i hi ho;subst e;refine⟨.done,⟨h.size,wk,Cw.free h.cw,h.tr.Oj (λk l=>?_) (λk l=>?_),h.low,h.deafW,h.rel,h.wg,λa ha e=>?_,λk e=>(by cases e),⟨λe=>(by cases e),λ_=>RF ho⟩,out,h.old,h.jj⟩,rfl⟩
  .rintro(⟨x,hx,hw⟩|⟨_,h2,_⟩)
   .exact .inl ⟨x,I2 hx,hw⟩
   .cases h2
  .rintro(⟨x,hx,hw⟩|⟨_,h2,_⟩)
   .exact .inl ⟨x,I2 hx,hw⟩
   .cases h2
  .by_cases e':a=i
   .subst e';rw[a7] at e;cases e
   .rw[bl O _ e'] at e;have:=TS.at_.inj (h.Ko a ha e);omega
 .have Oh:O i=false:=by simpa using ho
  refine⟨ts,⟨h.size,wk,h.cw.drop (i+1),h.tr.Oj (λk l=>?_) (λk l=>?_),h.low,h.deafW,h.rel,h.wg,λa ha e=>?_,λk e=>?_,h.FE,out,h.old,h.jj⟩,rfl⟩
  .rintro(⟨x,hx,hw⟩|h2)
   .exact .inl ⟨x,I2 hx,hw⟩
   .exact .inr h2
  .rintro(⟨x,hx,hw⟩|h2)
   .exact .inl ⟨x,I2 hx,hw⟩
   .exact .inr h2
  .by_cases e':a=i
   .subst e';rw[a7] at e;cases e
   .rw[bl O _ e'] at e;exact h.Ko a ha e
  .obtain⟨a,ha,e1,e2⟩:=h.LS k e;refine⟨a,ha,e1,?_⟩;rw[bl O _ (λe'=>by subst e';rw[Oh] at e2;cases e2)];exact e2
def pF (h:WI P SB BB lets Gn ty Wg Dead Toy Kp Ψ0 Ψ2 j0 j gs W t D M O L ts rr st sm)(hi:i<j)(hs:(D i).stage=7)(hd:(D i).deaf=0){x:Lone}(hL:L (i+1)=br x)
  {wl:Cm} {Q:a6->a8->Prop} (hM:M i=.born Q (x.g,x.w)) (Cx:bA j D tag st sm) (Gb:wl.le x.β) (hQ:cM P SB BB lets Gn ty Wg Ψ2 Q x.H x.T wl (O i)) (MO:∀g w,Q g w->BB g.frame.fn=bq) (hr:C1 P.a BB Q 0 x.g x.w) (hb:mq P SB BB lets x g) :
  JD P SB BB lets Gn ty Wg Dead Toy Kp Ψ0 Ψ2 j0 j gs W t D M L rr tag ts.tp i g:=by
 have U3:j0<=i:=bD λhlt=>by have:=h.old i hlt;omega
 obtain⟨_,g',hgo,EE⟩:=hb;have Mi:∀e∈(#[]:Array b6),(bc e).touch?=none:=by simp
 have hp:put L (i+1) (br x)=L:=by
  funext a;unfold put;split
  .rename_i e;rw[e,hL]
  .rfl
 have hw:=h.next hi (g:=g) (fn:=g.frame.fn) (pos:=g.frame.place) (r':=rr i) (ts':=ts) (o':=O i) (.tree Gb hQ MO hr EE) h.wg (by rw[hp];exact h.cw)
  (by rw[hp];exact h.Jm (by omega) (λop hop=>⟨(ey Mi op hop).1,λx hx=>((ey Mi op hop).2 x hx).elim⟩))
  (by simp) (by omega) (λe=>by omega) (.inl rfl) (λ_=>⟨U3,hs⟩) (λop hop=>by obtain⟨e,he,rfl⟩:=bb hop;simp at he) (yL _) (by rw[hd];rfl) (λ_ e=>by omega) (λho=>h.Ko i hi ho) (.inl ⟨rfl,rfl⟩) h.FE
 refine⟨g',W,_,_,_,_,_,_,_,st,sm,hgo W,hw,λtag' ht _=>bh (by have:=Cx.same (i:=i) 0 0;rwa [hs] at this) ht,by rw[a7,hM];exact .un,λk hk=>bl M _ hk,CJ L _ (by omega),dp hi (by simp[cnt,hs]),λk hk h6=>?_,rfl⟩;have e:k≠i:=λe=>by subst e;omega
 rw[bl D _ e,bl rr _ e];exact⟨h6,rfl⟩
def pG (lib:∀H,Lib P SB H lets BB Gn)(h:WI P SB BB lets Gn ty Wg Dead Toy Kp Ψ0 Ψ2 j0 j gs W t D M O L ts rr st sm)(tz:av Toy Ψ0)(DZ:av Toy Ψ2)(hi:i<j)(hs:(D i).stage=7){d:Nat}(hd:(D i).deaf=d){x:Lone}(hL:L (i+1)=br x)
  {wl:Cm} {Q:a6->a8->Prop} (hM:M i=.tree Q (x.g,x.w)) (Cx:bA j D tag st sm) (Gb:wl.le x.β) (hQ:cM P SB BB lets Gn ty Wg Ψ2 Q x.H x.T wl (O i)) (MO:∀g w,Q g w->BB g.frame.fn=bq)
  {ng:Tape->Nat->a6} {nw:Tape->Nat->a8} (h1:Dk P.a BB x.g x.w) (h2:∀τ d,(∃es,stepG P.a bs x.g (on x.w τ d)=.go (ng τ d) (nw τ d) es)/\(ng τ d).callers≠[]) (h3:∀τ n,C1 P.a BB Q d (ng τ n) (nw τ n)) (hg:Dv P SB BB lets x g) :
  JD P SB BB lets Gn ty Wg Dead Toy Kp Ψ0 Ψ2 j0 j gs W t D M L rr tag ts.tp i g:=by
 have U3:j0<=i:=bD λhlt=>by have:=h.old i hlt;omega
 have hq:¬Q x.g x.w:=λhq=>by have:=h1.1;rw[MO _ _ hq] at this;cases this
 obtain⟨g',w',es,B8,g2,W',ES,e1,e2,e3,e4,e5⟩:=JA (lib x.H) (main2:=bq) h1 h2 hg (h.cw.like _ x hL);have NJ:C1 P.a BB Q d g' w':=by obtain⟨rfl,rfl⟩:=e2;exact h3 _ _
 have f:F9 P SB lets Gn x W B8 w' W' ES.toList:=e5;have H2:=h.cw.C8 _ x hL;have X7:W'.heap[Wg]?=W.heap[Wg]?:=h.cw.same hL f h.cw.low.1 (h.cw.Pg _ x hL);have DX:WgAt ty Wg W' st sm:=by unfold WgAt;rw[X7];exact h.wg
 have hes:ES=ES.toList.toArray:=by simp
 have Ol:ts.own≠br (i+1)->∀B,Toy B->W'.heap[B]?=W.heap[B]?:=λho B hB=>h.cw.same hL f (h.cw.low.2.2 B hB) λb hb=>h.cw.Ig _ x hL ho b B hb hB;have JE:=cL f H2;rw[<-hes] at JE;have hw:=h.next hi (g:=g) (g':=g2) (fn:=g.frame.fn) (pos:=g.frame.place) (es:=ES) (r':=rr i) (ts':=ts) (x':=br ⟨g',w',x.H,B8,x.T⟩) (o':=O i) (.tree (x:=⟨g',w',x.H,B8,x.T⟩) (Cm.le_trans Gb e5.le) hQ MO NJ e4) DX (h.cw.step hL f g')
  (by rw[hes];exact h.cw.Rz hL f g' BA (by omega) h.tr.ti h.low) (λe he a=>(JE e he).2.2 a) (by omega) (λe=>by omega) (.inl rfl) (λ_=>⟨U3,hs⟩)
  (by rw[hes];exact ep f H2) f.SIZE (by rw[hd];exact deafBehind_idle (λe he=>⟨(JE e he).1,(JE e he).2.1⟩) d) (λ_ e=>by omega) (λho=>h.Ko i hi ho) (.inl ⟨rfl,rfl⟩)
  ⟨λe=>tz W W' (Ol (by rw[e];simp[TS.own])) (h.FE.1 e),λe=>DZ W W' (Ol (by rw[e];simp[TS.own])) (h.FE.2 e)⟩
 refine⟨g2,W',ES,_,_,_,_,_,_,st,sm,e3,hw,λtag' ht _=>bh (by have:=Cx.same (i:=i) 0 d;rwa [hs] at this) ht,?_,λk hk=>bl M _ hk,CJ L _ (by omega),dp hi (by simp[cnt,hs]),λk hk h6=>?_,rfl⟩
 .rw[a7,hM];exact .tree hq ⟨W.tape,W.drawn,es,e1,e4.callers.ne⟩
 .have e:k≠i:=λe=>by subst e;omega
  rw[bl D _ e,bl rr _ e];exact⟨h6,rfl⟩
def _root_.Go.Ct.Fe.mem {β:Cm}{es ES:Array b6}(h:Fe β es ES):∀e∈ES,(bc e).touch?=b8/\(∀a,e.loc≠.mark (.release a)):=by
 intro e he;cases h with
 |F8 m hm=>simp only[z8,yT,yQ,or_false] at he;subst he;rcases hm with rfl|rfl<;>exact⟨rfl,by simp⟩
 |Fx o s mk hm hb=>simp only[z8,yT,yQ,or_false] at he;subst he;rcases hm with rfl|rfl<;>exact⟨rfl,by simp⟩
 |none=>simp at he
def _root_.Go.Ct.Fe.low {β:Cm}{es ES:Array b6}(h:Fe β es ES){B:Nat}(hl:∀e∈ES,∀ad,e.loc=.mark (.acquire ad)\/e.loc=.mark (.releaseMerge ad)->ad.block<B):∀e∈ES,(bc e).low B:=by
 intro e he;cases h with
 |F8 m hm=>simp only[z8,yT,yQ,or_false] at he;subst he;rcases hm with rfl|rfl<;>trivial
 |Fx o s mk hm hb =>
  have:=hl e he;simp only[z8,yT,yQ,or_false] at he;subst he;rcases hm with rfl|rfl
  .exact this _ (.inl rfl)
  .exact this _ (.inr rfl)
 |none=>simp at he
def pH (lib:∀H,Lib P SB H lets BB Gn)(NX:∀(f:bw) (fn:Func),P.a.funcs[f]?=br fn->fn.body.isNone=bs->P.fs[f]?=br fn)(h:WI P SB BB lets Gn ty Wg Dead Toy Kp Ψ0 Ψ2 j0 j gs W t D M O L ts rr st sm)(hi:i<j)(hs:(D i).stage=7){d:Nat}(hd:(D i).deaf=d){x:Lone}(hL:L (i+1)=br x)
  {wl:Cm} {Q:a6->a8->Prop} (hM:M i=.tree Q (x.g,x.w)) (Cx:bA j D tag st sm) (Gb:wl.le x.β) (hQ:cM P SB BB lets Gn ty Wg Ψ2 Q x.H x.T wl (O i)) (MO:∀g w,Q g w->BB g.frame.fn=bq)
  {b:cf} {a:Act} {ops:Array Oper} {i0:Nat} {rest:List Nat} {k:List Item} {cs:List cf} {o:Oper} {es:Array b6} {v:Value} (Om:x.g=C6 (b.at a (.inRegion ops (i0::rest)::k)) cs)
  (h1:BB b.fn=bs) (h2:cs≠[]) (h3:ops[i0]?=br o) (h4:Region.wanted o (yielded ops a.tmps)=bs) (h5:b.kind≠.early) (h6:DU P.a a x.w o es v) (h7:∀τ n,C1 P.a BB Q (bn d es) (C6 (b.at (a.put o.dst v) (.inRegion ops rest::k)) cs) (on x.w τ n)) (hg:Dv P SB BB lets x g) :
  JD P SB BB lets Gn ty Wg Dead Toy Kp Ψ0 Ψ2 j0 j gs W t D M L rr tag ts.tp i g:=by
 have U3:j0<=i:=bD λhlt=>by have:=h.old i hlt;omega
 have hq:¬Q x.g x.w:=λhq=>by have:=MO _ _ hq;rw[Om] at this;exact absurd h1 (by rw[show b.fn=(C6 (b.at a (.inRegion ops (i0::rest)::k)) cs).frame.fn from rfl,this];decide)
 have hw0:=h.cw.like _ x hL;have hg0:El P SB x.H lets BB x.T x.β (C6 (b.at a (.inRegion ops (i0::rest)::k)) cs) g:=Om▸hg;obtain⟨g2,ES,e3,e4,e5,e6⟩:=MA NX (main2:=bq) h1 hg0 hw0 h3 h4 h5 h6;have KY:CV (SP SB x.H) (CK P.a SB lets) Gn x.β (on x.w W.tape W.drawn) W:=hw0.same rfl rfl hw0.env;have f0:F9 P SB lets Gn x W x.β (on x.w W.tape W.drawn) W []:=Fin.refl KY;have hcw:=h.cw.step hL f0 (C6 (b.at (a.put o.dst v) (.inRegion ops rest::k)) cs)
 have GV:=e5.mem;have hw:=h.next hi (g:=g) (g':=g2) (fn:=g.frame.fn) (pos:=g.frame.place) (es:=ES) (r':=rr i) (ts':=ts) (x':=br ⟨C6 (b.at (a.put o.dst v) (.inRegion ops rest::k)) cs,on x.w W.tape W.drawn,x.H,x.β,x.T⟩) (o':=O i)
  (.tree (x:=⟨C6 (b.at (a.put o.dst v) (.inRegion ops rest::k)) cs,on x.w W.tape W.drawn,x.H,x.β,x.T⟩) Gb hQ MO (h7 _ _) e4) h.wg hcw
  ((h.Jm (k:=i+1) (by omega) (u:=bo (i+1) g.frame.fn g.frame.place ES) (λop hop=>by
   obtain⟨e,he,rfl⟩:=bb hop
   exact⟨rfl,λy hy=>by rw[(GV e he).1] at hy;cases hy⟩)).mono (λj l hl=>?_) (λj l hl=>?_))
  (λe he a=>(GV e he).2 a) (by omega) (λe=>by omega) (.inl rfl) (λ_=>⟨U3,hs⟩)
  (λop hop=>by obtain⟨e,he,rfl⟩:=bb hop;exact e5.low e6 e he) (yL _) (by rw[hd];exact e5.deaf d) (λ_ e=>by omega) (λho=>h.Ko i hi ho) (.inl ⟨rfl,rfl⟩) h.FE
 .refine⟨g2,W,ES,_,_,_,_,_,_,st,sm,e3,hw,λtag' ht _=>bh (by have:=Cx.same (i:=i) 0 (bn d es);rwa [hs] at this) ht,?_,λk hk=>bl M _ hk,CJ L _ (by omega),dp hi (by simp[cnt,hs]),λk hk h6=>?_,rfl⟩
  .rw[a7,hM];refine .tree hq ⟨W.tape,W.drawn,es,?_,h2⟩;show stepG P.a bs x.g (on x.w W.tape W.drawn)=_;rw[Om];exact(h6.same Bm).step h3 h4 h5
  .have e:k≠i:=λe=>by subst e;omega
   rw[bl D _ e,bl rr _ e];exact⟨h6,rfl⟩
 .rcases hl with⟨y,hy,hr⟩|hl
  .by_cases e:j=i+1
   .subst e;rw[Cu] at hy;cases hy;exact .inl ⟨x,hL,hr⟩
   .rw[CJ L _ e] at hy;exact .inl ⟨y,hy,hr⟩
  .exact .inr hl
 .rcases hl with⟨y,hy,hr⟩|hl
  .by_cases e:j=i+1
   .subst e;rw[Cu] at hy;cases hy;exact .inl ⟨x,hL,hr⟩
   .rw[CJ L _ e] at hy;exact .inl ⟨y,hy,hr⟩
  .exact .inr hl
end
open Go.ConcR (KK WgAt stA smA rd wr mk DC0 Bk g_of_ofEvents bk_of_mute ofEvent_loc_mark ofEvent_cell ofEvent_mk)
section
variable {P:CL} {SB BB:bw->Bool} {lets:Bool} {Gn:Nat} {ty Wg:Nat} {Dead Toy:Nat->Prop} {Kp:Gm} {Ψ0 Ψ2:a8->Prop}
 {j0 j:Nat} {gs:Array a6} {W W':a8} {t:Trace} {D:Nat->WD} {M:Nat->Wm} {O:Nat->Bool} {L:Nat->Option Lone} {ts ts':TS} {rr:Nat->Nat} {st sm Io Jl:Int} {tag:CTag} {i:Nat} {g:a6}
def pI (h:WI P SB BB lets Gn ty Wg Dead Toy Kp Ψ0 Ψ2 j0 j gs W t D M O L ts rr st sm)(tz:av Toy Ψ0)(DZ:av Toy Ψ2)(hi:i<j)(hL:L (i+1)=b8)(hO:O i=bq)(hs:(D i).stage=1){q d:Nat}(hd:(D i).deaf=d)(hM:M i=.st 1 q)(hrun:g.status=.running)(Cx:bA j D tag st sm)
  (hk:QuitsD P.b q d g):JD P SB BB lets Gn ty Wg Dead Toy Kp Ψ0 Ψ2 j0 j gs W t D M L rr tag ts.tp i g:=by
 cases q with
 |zero=>rw[hk.1] at hrun;cases hrun
 |succ q =>
  rcases hk with⟨hf,_⟩|⟨_,g',es,RG,hstep,hq⟩
  .rw[hf] at hrun;cases hrun
  .have Iz:∀e∈es,Bk Wg e:=λe he=>bk_of_mute (RG e he)
   have hno:∀a e,es[a]?=br e->(bc e).touch?=b8\/0<bn (D i).deaf (es.extract 0 a):=λa e he=>.inl (by
    rcases bk_of_mute (Wg:=Wg) (RG e (zl he)) with h1|h1|⟨b,wr,rfl,_⟩
    .rw[ofEvent_loc_mark h1];rfl
    .rw[ofEvent_loc_mark h1];rfl
    .have:=RG _ (zl he);simp[Event.mute] at this)
   exact bI h tz DZ hi hL hO hs (by omega) (hstep W) (.quit hq) (by omega) (λ_=>rfl) (.refl Wg W) h.wg Iz hno (by rw[hd])
    (λ_ ht _=>bh (by have:=Cx.same (i:=i) 0 (bn d es);rwa [hs] at this) ht) (by rw[hM];exact .fuel (by omega))
def moved (lib:∀H,Lib P SB H lets BB Gn)(NX:∀(f:bw) (fn:Func),P.a.funcs[f]?=br fn->fn.body.isNone=bs->P.fs[f]?=br fn)(h:WI P SB BB lets Gn ty Wg Dead Toy Kp Ψ0 Ψ2 j0 j gs W t D M O L ts rr st sm)(tz:av Toy Ψ0)(DZ:av Toy Ψ2)(hi:i<j)(hg:gs[i+1]?=br g)(hrun:g.status=.running)(Cx:bA j D tag st sm)(hb:j+pend tag<2147483648) :
  JD P SB BB lets Gn ty Wg Dead Toy Kp Ψ0 Ψ2 j0 j gs W t D M L rr tag ts.tp i g:=by
 obtain⟨g₁,WC,hs⟩:=h.wk i hi;obtain rfl:g=g₁:=by rw[hg] at WC;exact Option.some.inj WC
 generalize hst:(D i).stage=s at hs;generalize LU:(D i).deaf=dd at hs;generalize hM:M i=mm at hs;generalize hL:L (i+1)=lx at hs;generalize hO:O i=oo at hs;have hVj:=Vc_le j D;have idle:∀ {g':a6} {m' m0:Nat},M i=.st s m0->lx=b8->oo=bq->stepG P.b bq g W=.go g' W #[]->E7 P SB BB lets Gn ty Wg Ψ2 s dd (.st s m') b8 bq g' W->m'<m0->s<=6->s≠1->JD P SB BB lets Gn ty Wg Dead Toy Kp Ψ0 Ψ2 j0 j gs W t D M L rr tag ts.tp i g:=by
  intro g' m' m0 hM0 hl ho hgo hs' hm h6 h1;exact bI h tz DZ hi (by rw[hL,hl]) (by rw[hO,ho]) hst h6 hgo hs' (by omega) (λhlt=>by have:=h.old i hlt;omega) (.refl Wg W) h.wg (by simp) (by simp) (by rw[LU];rfl)
   (λ_ ht _=>bh (by have:=Cx.same (i:=i) 0 dd;rwa [hst] at this) ht) (by rw[hM0];exact .fuel hm)
 cases hs with
 |born Gb hQ MO hr hbn=>exact pF h hi hst LU hL hM Cx Gb (by rw[hO];exact hQ) MO hr hbn
 |tree Gb hQ MO hr Jn =>
  rename_i x wl Q;generalize Om:x.g=gx at hr;generalize Wn:x.w=wx at hr;cases hr with
  |fin hq =>
   subst Om Wn;obtain⟨⟨m,hm⟩,RF⟩:=hQ x g W rfl rfl Gb hq Jn (h.cw.like _ x hL) h.live;obtain⟨ts',h',PT⟩:=h.turn hi hg hst LU hm (by rw[hO];exact RF);obtain⟨g',W',es,D',M',O',L',ts2,ZW,Io,Jl,k1,k2,k3,k4,k5,k6,k7,k8,k9⟩:=MN h' hi (Cu L _ _) (a7 O _ _) hst LU (a7 M _ _) Cx hm;refine⟨g',W',es,D',M',O',L',ts2,ZW,Io,Jl,k1,k2,k3,?_,λk hk=>(k5 k hk).trans (bl M _ hk),k6.trans (CJ L _ (by omega)),k7,k8,k9.trans PT⟩
   rw[a7] at k4;obtain⟨s',m',e⟩:=k4.X6;rw[e,hM];exact .off
  |next ng nw f1 f2 f3 =>
   subst Om Wn;exact pG lib h tz DZ hi hst LU hL hM Cx Gb (by rw[hO];exact hQ) MO f1 f2 f3 Jn
  |spec f1 f2 f3 f4 f5 f6 f7 =>
   subst Wn;exact pH lib NX h hi hst LU hL hM Cx Gb (by rw[hO];exact hQ) MO Om f1 f2 f3 f4 f5 f6 f7 Jn
 |r0 hk=>exact MN h hi hL hO hst LU hM Cx hk
 |k1 hk =>
  rcases Goes.cases hk with CQ|⟨m',rfl,hstep⟩
  .obtain⟨_,g',hgo,m₂,E5⟩:=CQ W (RL.refl W);exact bI h tz DZ hi hL hO hst (by omega) hgo (.d1 E5) (by omega) (λhlt=>by have:=h.old i hlt;omega) (.refl Wg W) h.wg (by intro e he;simp at he;subst he;exact .inl rfl) (by intro a e he;exact .inl (by have:=zl he;simp at this;subst this;rfl)) (by rw[LU];rfl)
    (λ_ ht _=>(Cx.counted hi (by omega) (.inr rfl) _ _).retag ht) (by rw[hM];exact .stage (by omega))
  .obtain⟨g',w',es,hgo,⟨rfl,rfl⟩,EE⟩:=hstep W (RL.refl W);exact idle hM rfl rfl hgo (.k1 EE) (by omega) (by omega) (by omega)
 |d1 hk =>
  rcases Goes.cases hk with CQ|⟨m',rfl,hstep⟩
  .obtain⟨_,hall⟩:=CQ W (RL.refl W);have hc1:cnt (D i)=1:=by simp[cnt,hst]
   have hV1:1<=Vc j D:=by have:=le_sumTo (f:=λx=>cnt (D x)) hi;simp only[Vc];omega
   have bk2:∀e∈#[rd (stA Wg),wr (stA Wg)],Bk Wg e:=by intro e he;simp at he;rcases he with rfl|rfl<;>exact cq _ _ rfl
   have df2:∀jx e,(#[rd (stA Wg),wr (stA Wg)]:Array b6)[jx]?=br e->(bc e).touch?=b8\/0<bn (D i).deaf ((#[rd (stA Wg),wr (stA Wg)]:Array b6).extract 0 jx):=by
    intro jx e he;rw[LU]
    match jx,he with
    |0,_=>exact .inr (by simp[bn])
    |1,_=>exact .inr (by simp[bn,rd])
    |jx+2,he=>simp at he
   have opq:OpenSt j D->OpenSt j (upd D i ⟨1,0,1⟩):=λh a ha=>by
    by_cases e:a=i
    .subst e;rw[a7];simp
    .rw[bl D _ e];exact h a ha
   have hq0:cnt (⟨1,0,1⟩:WD)=0:=rfl;have hold:∀ {s':Nat},i<j0->s'=1:=λhlt=>by have:=h.old i hlt;omega
   have DX:=h.wg;cases Cx with
   |opn h1 h2 h3 =>
    obtain⟨v,hv⟩:∃v,Vc j D+pend tag=v+1:=⟨Vc j D+pend tag-1,by omega⟩;rw[hv] at DX;have F0:WgAt ty Wg W (((v:Nat)+1)*KK+((0:Nat):Int)) 0:=by simpa using DX
    obtain⟨g',hgo,_,hq⟩:=hall v 0 (by omega) (by omega) F0;obtain⟨q,hq⟩:=hq (by omega);have hv':Vc j (upd D i ⟨1,0,1⟩)+pend tag=v:=by have:=Vc_upd D (⟨1,0,1⟩:WD) hi;omega
    refine bI h tz DZ hi hL hO hst (by omega) hgo (.quit hq) (by omega) hold (b5 W (stA Wg) _) (DX.setSt _) bk2 df2 (by rw[LU];rfl) (λ_ ht _=>bh ?_ ht) (by rw[hM];exact .stage (by omega));have e:((v:Nat):Int)*KK+((0:Nat):Int)=((Vc j (upd D i ⟨1,0,1⟩)+pend tag:Nat):Int)*KK:=by rw[hv'];simp
    rw[e];exact .opn h1 (opq h2) (λvs ev=>by have:=h3 vs ev;omega)
   |reg h1 h2 h3 =>
    obtain⟨v,hv⟩:∃v,Vc j D=v+1:=⟨Vc j D-1,by omega⟩;rw[hv] at DX;have F0:WgAt ty Wg W (((v:Nat)+1)*KK+((1:Nat):Int)) 0:=by simpa using DX
    obtain⟨g',hgo,hl,hq⟩:=hall v 1 (by omega) (by omega) F0;by_cases hv0:v=0
    .subst hv0;obtain⟨m₂,E5⟩:=hl ⟨rfl,rfl⟩;refine bI h tz DZ hi hL hO hst (by omega) hgo (.d2 E5) (by omega) hold (b5 W (stA Wg) _) (DX.setSt _) bk2 df2 (by rw[LU];rfl) (λ_ ht _=>bh ?_ ht) (by rw[hM];exact .stage (by omega));have Oo:∀a,a<j->a≠i->(D a).stage=1:=λa ha e=>by
      have c0:=others_uncounted hi hv hc1 a ha e;have:=h2 a ha;simp only[cnt] at c0;split at c0<;>omega
     have:=b7 (j:=j) (D:=upd D i ⟨4,0,1⟩) (tag:=tag) i h1 hi (by rw[a7];simp) (λa ha e=>by rw[bl D _ e];exact Oo a ha e);rw[a7] at this;simpa using this
    .obtain⟨q,hq⟩:=hq (by omega);have hv':Vc j (upd D i ⟨1,0,1⟩)=v:=by have:=Vc_upd D (⟨1,0,1⟩:WD) hi;omega
     refine bI h tz DZ hi hL hO hst (by omega) hgo (.quit hq) (by omega) hold (b5 W (stA Wg) _) (DX.setSt _) bk2 df2 (by rw[LU];rfl) (λ_ ht _=>bh ?_ ht) (by rw[hM];exact .stage (by omega));have e:((v:Nat):Int)*KK+((1:Nat):Int)=((Vc j (upd D i ⟨1,0,1⟩):Nat):Int)*KK+1:=by rw[hv'];simp
     rw[e];exact .reg h1 (opq h2) (by omega)
   |last Lx _ h2 h3 h4 =>
    by_cases e:i=Lx
    .subst e;omega
    .have:=h4 i hi e;omega
   |sema h2=>have:=h2 i hi;omega
   |fin _ h2=>have:=h2 i hi;omega
  .obtain⟨g',w',es,hgo,⟨rfl,rfl⟩,EE⟩:=hstep W (RL.refl W);exact idle hM rfl rfl hgo (.d1 EE) (by omega) (by omega) (by omega)
 |d2 hk =>
  rcases Goes.cases hk with CQ|⟨m',rfl,hstep⟩
  .obtain⟨_,hx⟩:=CQ W (RL.refl W);obtain⟨hW3,Oo,rfl,rfl⟩:=Cx.isLast hi (by omega);have DX:=h.wg;simp only[hst] at DX;obtain⟨g',hgo,m₂,E5⟩:=hx (by simpa using DX);refine bI h tz DZ hi hL hO hst (by omega) hgo (.d3 E5) (by omega) (λhlt=>by have:=h.old i hlt;omega) (.refl Wg W) DX (by intro e he;simp at he;subst he;exact cq _ _ rfl) (by intro jx e he;rw[LU];match jx,he with|0,_=>exact .inr (by simp[bn])|jx+1,he=>simp at he) (by rw[LU];rfl) (λ_ ht _=>bh ?_ ht) (by rw[hM];exact .stage (by omega))
   have:=b7 (j:=j) (D:=upd D i ⟨3,0,1⟩) (tag:=tag) i hW3 hi (by rw[a7];simp) (λa ha e=>by rw[bl D _ e];exact Oo a ha e);rw[a7] at this;simpa using this
  .obtain⟨g',w',es,hgo,⟨rfl,rfl⟩,EE⟩:=hstep W (RL.refl W);exact idle hM rfl rfl hgo (.d2 EE) (by omega) (by omega) (by omega)
 |d3 hk =>
  rcases Goes.cases hk with CQ|⟨m',rfl,hstep⟩
  .obtain⟨_,hx⟩:=CQ W (RL.refl W);obtain⟨hW3,Oo,rfl,rfl⟩:=Cx.isLast hi (by omega);have DX:=h.wg;simp only[hst] at DX;obtain⟨g',hgo,m₂,E5⟩:=hx (by simpa using DX);refine bI h tz DZ hi hL hO hst (by omega) hgo (.d4 E5) (by omega) (λhlt=>by have:=h.old i hlt;omega) (b5 W (stA Wg) _) (DX.setSt 0) (by intro e he;simp at he;subst he;exact cq _ _ rfl) (by intro jx e he;rw[LU];match jx,he with|0,_=>exact .inr (by simp[bn])|jx+1,he=>simp at he) (by rw[LU];rfl) (λ_ ht _=>bh ?_ ht) (by rw[hM];exact .stage (by omega))
   have:=b7 (j:=j) (D:=upd D i ⟨2,0,1⟩) (tag:=tag) i hW3 hi (by rw[a7];simp) (λa ha e=>by rw[bl D _ e];exact Oo a ha e);rw[a7] at this;simpa using this
  .obtain⟨g',w',es,hgo,⟨rfl,rfl⟩,EE⟩:=hstep W (RL.refl W);exact idle hM rfl rfl hgo (.d3 EE) (by omega) (by omega) (by omega)
 |d4 hk =>
  rcases Goes.cases hk with CQ|⟨m',rfl,hstep⟩
  .obtain⟨_,hmw,hx⟩:=CQ W (RL.refl W);obtain⟨hW3,Oo,rfl,rfl⟩:=Cx.isLast hi (by omega);have DX:=h.wg;simp only[hst] at DX;obtain⟨g',hgo,q,hq⟩:=hx (by simpa using DX);have hrun':g'.status=.running:=by
    cases q with
    |zero=>exact absurd hq.2 (by decide)
    |succ q=>exact hq.elim (λx=>absurd x.2 (by decide)) (λx=>x.1)
   refine bI h tz DZ hi hL hO hst (by omega) hgo (es:=bW (smA Wg)) (dd':=1) (.quit hq) (by omega) (λhlt=>by have:=h.old i hlt;omega) (b5 W (smA Wg) _) (DX.setSm 1) ?_ ?_ (by rw[LU];simp[bn,bW]) ?_ (by rw[hM];exact .stage (by omega))
   .intro e he;simp[bW] at he;rcases he with rfl|rfl|rfl|rfl
    .exact .inl rfl
    .exact cq _ _ rfl
    .exact cq _ _ rfl
    .exact .inr (.inl rfl)
   .intro jx e he;rw[LU]
    match jx,he with
    |0,he=>simp[bW] at he;subst he;exact .inl rfl
    |1,_=>exact .inr (by simp[bn,bW])
    |2,_=>exact .inr (by simp[bn,bW])
    |3,he=>simp[bW] at he;subst he;exact .inl rfl
    |jx+4,he=>simp[bW] at he
   .intro tag' ht hw;have Ms:=hw hmw hrun';have e3:tag'=.w3:=by
     rcases ht with rfl|⟨_,rfl⟩
     .cases tag'<;>first|rfl|exact hW3.elim|exact absurd rfl Ms
     .rfl
    subst e3;simp only[if_true];exact .sema λa ha=>by
     by_cases e:a=i
     .subst e;rw[a7]
     .rw[bl D _ e];exact Oo a ha e
  .obtain⟨g',w',es,hgo,⟨rfl,rfl⟩,EE⟩:=hstep W (RL.refl W);exact idle hM rfl rfl hgo (.d4 EE) (by omega) (by omega) (by omega)
 |quit hk=>exact pI h tz DZ hi hL hO hst LU hM hrun Cx hk
end
open Go.ConcR (KK WgAt stA smA rd wr mk DC0 Bk g_of_ofEvents bk_of_mute ofEvent_loc_mark ofEvent_cell ofEvent_mk)
section
variable (P:CL) (SB BB:bw->Bool) (lets:Bool) (Gn:Nat) (ty Wg:Nat) (Toy:Nat->Prop) (Ψ0 Ψ2:a8->Prop)
structure Split (x:Lone)(G' child:a6)(W:a8)(tp Oq o:Bool)(x' xk:Lone)(Uz:Cm):Prop where
 gl:Dv P SB BB lets x' G'
 wl:E2 P SB lets Gn x' W
 tw:x'.H.C8=bq
 gk:mq P SB BB lets xk child
 wk:E2 P SB lets Gn xk W
 twk:xk.H.C8=bq
 bk:Uz.le xk.β
 sub:∀b B,x'.β b B->∃b0,x.β b0 B/\(x'.H b=bq->x.H b0=bq/\(Ro x.w b0->Ro x'.w b))
 RH:∀b B,xk.β b B->(∃b0,x.β b0 B/\(xk.H b=bq->x.H b0=bq/\(Ro x.w b0->Ro xk.w b)))\/(o=bs/\Toy B)
 hid:∀b,x'.β b Wg->x'.H b=bs
 ago:∀b,xk.β b Wg->xk.H b=bs
 Ig:∀b B,x'.β b B->Toy B->x'.H b=bs
 agp:o=bq->∀b B,xk.β b B->Toy B->xk.H b=bs
 sep:Sep (SP SB x'.H) x'.β x'.w (SP SB xk.H) xk.β xk.w
 tps:(o=bs->tp=bs/\Oq=bq)/\(o=bq->Oq=tp)
end
section
variable {P:CL} {SB BB:bw->Bool} {lets:Bool} {Gn:Nat} {ty Wg:Nat} {Dead Toy:Nat->Prop} {Kp:Gm} {Ψ0 Ψ2:a8->Prop}
 {j0 j:Nat} {gs:Array a6} {W W':a8} {t:Trace} {D:Nat->WD} {M:Nat->Wm} {O:Nat->Bool} {L:Nat->Option Lone} {ts ts':TS} {rr:Nat->Nat} {st sm Io Jl:Int} {a a':a6}
def WI.main (h:WI P SB BB lets Gn ty Wg Dead Toy Kp Ψ0 Ψ2 j0 j gs W t D M O L ts rr st sm){fn:bw}{pos:String}{es:Array b6}{x':Option Lone}
  (DX:WgAt ty Wg W' Io Jl) (hcw:Cw P SB lets Gn Wg Dead Toy Kp (put L 0 x') ts.own W')
  (QM:TI (Pf Dead Wg) (QN Toy (put L 0 x') ts.tp) (Mj Toy (put L 0 x') ts.tp) (j+1) (t++bo 0 fn pos es))
  (hnr:∀e∈es,∀a,e.loc≠.mark (.release a))
  (IB:∀op∈bo 0 fn pos es,op.act.low W'.heap.size) (hsz:W.heap.size<=W'.heap.size)
  (ML:(ts=.start->Ψ0 W')/\(ts=.done->Ψ2 W')) :
  WI P SB BB lets Gn ty Wg Dead Toy Kp Ψ0 Ψ2 j0 j ((gs.map (woken P.b a a' W')).setIfInBounds 0 a') W' (t++bo 0 fn pos es) D M O (put L 0 x') ts rr Io Jl:=by
 have GK:∀op∈bo 0 fn pos es,op.g=0:=g_of_ofEvents;refine⟨by simp[h.size],λb hb=>?_,hcw,h.tr.app QM GK (λop hop e=>?_) (λb hb hgb hne=>absurd rfl hne),λop hop=>?_,λb hb=>by rw[Deaf_other t (by omega) _ GK,h.deafW b hb],λb h0 hb hs=>(h.rel b h0 hb hs).appOther GK (by omega),DX,h.Ko,h.LS,ML,λb hb=>?_,h.old,h.jj⟩
 .obtain⟨y,hy,hs⟩:=h.wk b hb;refine⟨y,by rw[get_map_set _ _ _ _ (by omega),hy,zT,hs.woken],?_⟩;rw[CJ L _ (by omega)];exact hs.rely λ_=>⟨_,_,DX⟩
 .obtain⟨x,hx,rfl⟩:=bb hop;exact hnr x hx _ (Go.ConcR.loc_of_ofEvent e)
 .rcases Array.mem_append.1 hop with hop|hop
  .exact MemAct.low_mono hsz (h.low op hop)
  .exact IB op hop
 .rw[CJ L _ (by omega)];exact h.out b hb
def gI (Wg:Nat)(e:b6):Prop:=Bk Wg e\/∃b:Addr,b.block=Wg/\(e=mk (.read b)\/e=mk (.write b)\/e=mk (.acquire b))
def P0 {e:b6}(h:gI Wg e){x:Touch}(hx:(bc e).touch?=br x):(∃a:Addr,x.loc=.cell a/\a.block=Wg)/\x.kind≠.plain:=by
 rcases h with h|⟨b,hb,rfl|rfl|rfl⟩
 .obtain⟨h1,h2⟩:=MM h hx;exact⟨h1,by rw[h2];simp⟩
 .simp[mk,bc,b9] at hx;subst hx;exact⟨⟨b,rfl,hb⟩,by simp⟩
 .simp[mk,bc,b9] at hx;subst hx;exact⟨⟨b,rfl,hb⟩,by simp⟩
 .simp[mk,bc,b9] at hx
def WI.book0 (h:WI P SB BB lets Gn ty Wg Dead Toy Kp Ψ0 Ψ2 j0 j gs W t D M O L ts rr st sm)(tz:av Toy Ψ0)(DZ:av Toy Ψ2){fn:bw}{pos:String}{es:Array b6}
  (Og:Aside Wg W W') (DX:WgAt ty Wg W' Io Jl) (Iz:∀e∈es,gI Wg e) :
  WI P SB BB lets Gn ty Wg Dead Toy Kp Ψ0 Ψ2 j0 j ((gs.map (woken P.b a a' W')).setIfInBounds 0 a') W' (t++bo 0 fn pos es) D M O L ts rr Io Jl:=by
 have hbl:∀B,Toy B->W'.heap[B]?=W.heap[B]?:=λB hB=>Og.block B (h.cw.Ih B hB).1;have hp:put L 0 (L 0)=L:=by
  funext b;unfold put;split
  .rename_i e;rw[e]
  .rfl
 have:=h.main (a:=a) (a':=a') (fn:=fn) (pos:=pos) (es:=es) (x':=L 0) DX (by rw[hp];exact h.cw.group Og ⟨_,_,_,DX⟩)
  (by
   rw[hp];refine h.Jm (k:=0) (by omega) λop hop=>?_;obtain⟨e,he,rfl⟩:=bb hop;refine⟨rfl,λx hx=>?_⟩;obtain⟨⟨b,h1,h2⟩,h3⟩:=P0 (Iz e he) hx
   exact⟨⟨b,h1,.inr h2⟩,h3,λ_=>rfl⟩)
  (λe he b=>by
   rcases Iz e he with h1|⟨b',_,rfl|rfl|rfl⟩
   .exact mr h1 b
   .simp[Go.ConcR.mk]
   .simp[Go.ConcR.mk]
   .simp[Go.ConcR.mk])
  (λop hop=>by
   obtain⟨e,he,rfl⟩:=bb hop;rw[Og.size];rcases Iz e he with h1|⟨b',h2,rfl|rfl|rfl⟩
   .exact RD h1 h.cw.low.1
   .show b'.block<_;rw[h2];exact h.cw.low.1
   .show b'.block<_;rw[h2];exact h.cw.low.1
   .show b'.block<_;rw[h2];exact h.cw.low.1)
  (by rw[Og.size];exact yL _) ⟨λe=>tz W W' hbl (h.FE.1 e),λe=>DZ W W' hbl (h.FE.2 e)⟩
 rwa [hp] at this
def WI.abo (h:WI P SB BB lets Gn ty Wg Dead Toy Kp Ψ0 Ψ2 j0 j gs W t D M O L ts rr st sm)(tz:av Toy Ψ0)(DZ:av Toy Ψ2){x:Lone}(hL:L 0=br x){B8:Cm}{w':a8}{ES:Array b6}(f:F9 P SB lets Gn x W B8 w' W' ES.toList)(g':a6){fn:bw}{pos:String} :
  WI P SB BB lets Gn ty Wg Dead Toy Kp Ψ0 Ψ2 j0 j ((gs.map (woken P.b a a' W')).setIfInBounds 0 a') W' (t++bo 0 fn pos ES) D M O (put L 0 (br ⟨g',w',x.H,B8,x.T⟩)) ts rr st sm:=by
 have H2:=h.cw.C8 _ x hL;have X7:W'.heap[Wg]?=W.heap[Wg]?:=h.cw.same hL f h.cw.low.1 (h.cw.Pg _ x hL);have DX:WgAt ty Wg W' st sm:=by unfold WgAt;rw[X7];exact h.wg
 have hes:ES=ES.toList.toArray:=by simp
 have hown:ts.own≠br 0:=λe=>by
  cases ts with
  |at_ k =>
   obtain⟨i,_,e1,_⟩:=h.LS k rfl;simp only[TS.own,Option.some.injEq] at e;omega
  |_=>cases e
 have Ol:∀B,Toy B->W'.heap[B]?=W.heap[B]?:=λB hB=>h.cw.same hL f (h.cw.low.2.2 B hB) λb hb=>h.cw.Ig _ x hL hown b B hb hB;have JE:=cL f H2;rw[<-hes] at JE;exact h.main (a:=a) (a':=a') DX (h.cw.step hL f g') (by rw[hes];exact h.cw.Rz hL f g' BA (by omega) h.tr.ti h.low) (λe he a=>(JE e he).2.2 a) (by rw[hes];exact ep f H2) f.SIZE
  ⟨λe=>tz W W' Ol (h.FE.1 e),λe=>DZ W W' Ol (h.FE.2 e)⟩
def TS.next (ts:TS)(o:Bool)(j:Nat):TS:=if o then .at_ (j+1) else ts
def WI.spawn (h:WI P SB BB lets Gn ty Wg Dead Toy Kp Ψ0 Ψ2 j0 j gs W t D M O L ts rr st sm){x x' xk:Lone}(hL:L 0=br x){child:a6}{Oq o:Bool}{Uz:Cm}(s:Split P SB BB lets Gn Wg Toy x a' child W ts.tp Oq o x' xk Uz)
  {Q:a6->a8->Prop} (hQ:cM P SB BB lets Gn ty Wg Ψ2 Q xk.H xk.T Uz o) (MO:(∀g w,Q g w->BB g.frame.fn=bq)) (hr:C1 P.a BB Q 0 xk.g xk.w) (P3:Deaf t 0=0) {p q:MemOp} (hp:p.g=0/\p.act=.go (j+1)) (hq:q.g=j+1/\q.act=.start) :
  WI P SB BB lets Gn ty Wg Dead Toy Kp Ψ0 Ψ2 j0 (j+1) ((gs.setIfInBounds 0 a').push child) W (t++#[p,q]) (upd D j ⟨7,0,0⟩) (upd M j (.born Q (xk.g,xk.w))) (upd O j o) (put (put L 0 (br x')) (j+1) (br xk)) (ts.next o j) rr st sm/\(ts.next o j).tp=Oq:=by
 have P4:(o=bs->ts=.start):=λho=>by
  have:=(s.tps.1 ho).1;cases ts<;>first|rfl|cases this
 have PT:(ts.next o j).tp=Oq:=by
  cases o with
  |true=>exact((s.tps.1 rfl).2).symm
  |false=>exact(s.tps.2 rfl).symm
 refine⟨?_,PT⟩;have hgo:∀op∈#[p,q],op=p\/op=q:=by intro op hop;simpa using hop
 have X8:∀op∈#[p,q],op.act≠.mark .disable/\op.act≠.mark .enable:=by
  intro op hop;rcases hgo op hop with rfl|rfl
  .rw[hp.2];exact⟨by simp,by simp⟩
  .rw[hq.2];exact⟨by simp,by simp⟩
 have Gp:∀ {b y},put (put L 0 (br x')) (j+1) (br xk) b=br y->(b=j+1/\y=xk)\/(b=0/\y=x')\/(b≠0/\b≠j+1/\L b=br y):=by
  intro b y e;by_cases h1:b=j+1
  .subst h1;rw[Cu] at e;cases e;exact .inl ⟨rfl,rfl⟩
  .rw[CJ _ _ h1] at e;by_cases h2:b=0
   .subst h2;rw[Cu] at e;cases e;exact .inr (.inl ⟨rfl,rfl⟩)
   .rw[CJ _ _ h2] at e;exact .inr (.inr ⟨h2,h1,e⟩)
 have LV:∀b y,b≠0->L b=br y->Sep (SP SB x'.H) x'.β x'.w (SP SB y.H) y.β y.w/\Sep (SP SB xk.H) xk.β xk.w (SP SB y.H) y.β y.w:=by
  intro b y hb hy;have sp:=h.cw.sep 0 b x y (Ne.symm hb) hL hy;refine⟨λc c' B h1 h2=>?_,λc c' B h1 h2=>?_⟩
  .obtain⟨b0,k1,k2⟩:=s.sub c B h1;cases hh:x'.H c with
   |true=>exact .inl rfl
   |false =>
    obtain⟨k3,k4⟩:=k2 hh;rcases sp b0 c' B k1 h2 with e|e|⟨e1,e2⟩
    .have e':x.H b0=true:=e;rw[k3] at e';cases e'
    .exact .inr (.inl e)
    .exact .inr (.inr ⟨k4 e1,e2⟩)
  .cases hh:xk.H c with
   |true=>exact .inl rfl
   |false =>
    rcases s.RH c B h1 with⟨b0,k1,k2⟩|⟨ho,hB⟩
    .obtain⟨k3,k4⟩:=k2 hh;rcases sp b0 c' B k1 h2 with e|e|⟨e1,e2⟩
     .have e':x.H b0=true:=e;rw[k3] at e';cases e'
     .exact .inr (.inl e)
     .exact .inr (.inr ⟨k4 e1,e2⟩)
    .exact .inr (.inl (h.cw.Ig b y hy (by rw[P4 ho];simp[TS.own]) c' B h2 hB))
 have abp:∀b B,x'.β b B->∃b0,x.β b0 B:=λb B hb=>let ⟨b0,k1,_⟩:=s.sub b B hb;⟨b0,k1⟩;have cw':Cw P SB lets Gn Wg Dead Toy Kp (put (put L 0 (br x')) (j+1) (br xk)) (ts.next o j).own W:=by
  refine⟨λb y hy=>?_,λb y hy=>?_,λb y hy=>?_,λb y hy c B hc=>?_,λb y hy ho c B hc hB=>?_,λb c y z hne hy hz=>?_,h.cw.low,h.cw.Ih,h.cw.keep,λb y hy c B hc hB=>?_,h.cw.MH,h.cw.Rx⟩
  .rcases Gp hy with⟨_,rfl⟩|⟨_,rfl⟩|⟨_,_,e⟩
   .exact s.wk
   .exact s.wl
   .exact h.cw.like b y e
  .rcases Gp hy with⟨_,rfl⟩|⟨_,rfl⟩|⟨_,_,e⟩
   .exact s.twk
   .exact s.tw
   .exact h.cw.C8 b y e
  .rcases Gp hy with⟨_,rfl⟩|⟨_,rfl⟩|⟨_,_,e⟩
   .exact s.ago
   .exact s.hid
   .exact h.cw.Pg b y e
  .rcases Gp hy with⟨_,rfl⟩|⟨_,rfl⟩|⟨_,_,e⟩
   .rcases s.RH c B hc with⟨b0,k1,_⟩|⟨_,hB⟩
    .exact h.cw.dead 0 x hL b0 B k1
    .exact(h.cw.Ih B hB).2
   .obtain⟨b0,k1⟩:=abp c B hc;exact h.cw.dead 0 x hL b0 B k1
   .exact h.cw.dead b y e c B hc
  .rcases Gp hy with⟨rfl,rfl⟩|⟨rfl,rfl⟩|⟨h0,h1,e⟩
   .have : o = false := by
     cases o with
     |false=>rfl
     |true=>exact absurd rfl ho
    exact s.agp this c B hc hB
   .exact s.Ig c B hc hB
   .refine h.cw.Ig b y e (λe'=>ho ?_) c B hc hB;cases o with
    |false=>exact e'
    |true=>rw[P4 rfl] at e';cases e'
  .rcases Gp hy with⟨rfl,rfl⟩|⟨rfl,rfl⟩|⟨h0,h1,e⟩<;>rcases Gp hz with⟨rfl,rfl⟩|⟨rfl,rfl⟩|⟨k0,k1,e'⟩
   .exact absurd rfl hne
   .exact s.sep.symm
   .exact(LV c z k0 e').2
   .exact s.sep
   .exact absurd rfl hne
   .exact(LV c z k0 e').1
   .exact(LV b y h0 e).2.symm
   .exact(LV b y h0 e).1.symm
   .exact h.cw.sep b c y z hne e e'
  .rcases Gp hy with⟨_,rfl⟩|⟨_,rfl⟩|⟨_,_,e⟩
   .cases hh:y.H c with
    |true=>exact .inl rfl
    |false =>
     rcases s.RH c B hc with⟨b0,k1,k2⟩|⟨ho,hT⟩
     .obtain⟨k3,k4⟩:=k2 hh;rcases h.cw.D7 0 x hL b0 B k1 hB with e|e
      .rw[k3] at e;cases e
      .exact .inr (k4 e)
     .exact absurd hB (h.cw.MH B hT)
   .cases hh:y.H c with
    |true=>exact .inl rfl
    |false =>
     obtain⟨b0,k1,k2⟩:=s.sub c B hc;obtain⟨k3,k4⟩:=k2 hh;rcases h.cw.D7 0 x hL b0 B k1 hB with e|e
     .rw[k3] at e;cases e
     .exact .inr (k4 e)
   .exact h.cw.D7 b y e c B hc hB
 have wrx:∀l,U0 x' l->U0 x l:=by
  rintro l ⟨b,B,h1,h2,h3,h4⟩;obtain⟨b0,k1,k2⟩:=s.sub b B h1;obtain⟨k3,k4⟩:=k2 h2;exact⟨b0,B,k1,k3,λhr=>h3 (k4 hr),h4⟩
 have rdx:∀l,U1 x' l->U1 x l:=by
  rintro l ⟨b,B,h1,h2,h4⟩;obtain⟨b0,k1,k2⟩:=s.sub b B h1;exact⟨b0,B,k1,(k2 h2).1,h4⟩
 have tpx:(ts.next o j).tp=bs->ts.tp=true:=λe=>by
  cases o with
  |true=>cases e
  |false=>exact e
 refine⟨by simp[h.size],λb hb=>?_,cw',?_,λop hop=>?_,λb hb=>?_,λb h0 hb hs=>?_,h.wg,λb hb ho=>?_,λk hk=>?_,⟨λe=>?_,λe=>?_⟩,λb hb=>?_,λb hb=>?_,AN h.jj⟩
 .rcases zC b j with hlt|GK
  .obtain⟨y,hy,hs⟩:=h.wk b hlt;refine⟨y,?_,?_⟩
   .rw[Array.getElem?_push_lt (by simp[h.size];omega),<-yS,zn (by omega)];exact hy
   .rw[bl D _ (by omega),bl M _ (by omega),bl O _ (by omega),CJ _ _ (by omega),CJ _ _ (by omega)];exact hs
  .obtain rfl:b=j:=by omega
   refine⟨child,?_,?_⟩
   .rw[show b+1=(gs.setIfInBounds 0 a').size by simp[h.size],Array.getElem?_push_size]
   .rw[a7,a7,a7,Cu];exact .born s.bk hQ MO hr s.gk
 .have t1:=h.tr.fork (Wr':=QN Toy (put (put L 0 (br x')) (j+1) (br xk)) (ts.next o j).tp) (Rd':=Mj Toy (put (put L 0 (br x')) (j+1) (br xk)) (ts.next o j).tp) (by omega) hp hq P3 (λb hb l=>?_) (λl=>?_)
  .refine t1.X3 λk i _ hpd=>?_;obtain⟨c,e1,e2,e3,e4⟩:=hpd;exact⟨c,e1,e2,by omega,by rw[bl D _ (by omega)];exact e4⟩
  .constructor
   .rintro(⟨y,hy,hw⟩|⟨h1,h2,h3⟩)
    .rcases Gp hy with⟨e,_⟩|⟨rfl,rfl⟩|⟨_,_,e⟩
     .omega
     .exact .inl ⟨x,hL,wrx l hw⟩
     .exact .inl ⟨y,e,hw⟩
    .exact .inr ⟨h1,tpx h2,h3⟩
   .rintro(⟨y,hy,hw⟩|⟨h1,h2,h3⟩)
    .rcases Gp hy with⟨e,_⟩|⟨rfl,rfl⟩|⟨_,_,e⟩
     .omega
     .exact .inl ⟨x,hL,rdx l hw⟩
     .exact .inl ⟨y,e,hw⟩
    .exact .inr ⟨h1,tpx h2,h3⟩
  .constructor
   .rintro(⟨y,hy,b,B,h1,h2,h3,h4⟩|⟨h1,_⟩)
    .rw[Cu] at hy;cases hy;rcases s.RH b B h1 with⟨b0,k1,k2⟩|⟨ho,hB⟩
     .obtain⟨k3,k4⟩:=k2 h2;exact .inl ⟨x,hL,b0,B,k1,k3,λhr=>h3 (k4 hr),h4⟩
     .exact .inr ⟨rfl,by rw[P4 ho];rfl,B,hB,h4⟩
    .omega
   .rintro(⟨y,hy,b,B,h1,h2,h4⟩|⟨h1,_⟩)
    .rw[Cu] at hy;cases hy;rcases s.RH b B h1 with⟨b0,k1,k2⟩|⟨ho,hB⟩
     .exact .inl ⟨x,hL,b0,B,k1,(k2 h2).1,h4⟩
     .exact .inr ⟨rfl,by rw[P4 ho];rfl,B,hB,h4⟩
    .omega
 .rcases Array.mem_append.1 hop with hop|hop
  .exact h.low op hop
  .rcases hgo op hop with rfl|rfl
   .rw[hp.2];trivial
   .rw[hq.2];trivial
 .rw[Deaf_still t _ _ X8];rcases zC b j with hlt|GK
  .rw[h.deafW b hlt,bl D _ (by omega)]
  .obtain rfl:b=j:=by omega
   rw[a7];exact Deaf_absent λc op hc e=>by have:=h.tr.ti.gs c op hc;omega
 .rcases zC b j with hlt|GK
  .rw[bl D _ (by omega)] at hs;refine(h.rel b h0 hlt hs).appNot λop hop=>?_;rcases hgo op hop with rfl|rfl
   .rw[hp.1];omega
   .rw[hq.1];omega
  .obtain rfl:b=j:=by omega
   rw[a7] at hs;simp at hs
 .rcases zC b j with hlt|GK
  .rw[bl O _ (by omega)] at ho;have e:=h.Ko b hlt ho;cases o with
   |false=>exact e
   |true=>rw[P4 rfl] at e;cases e
  .obtain rfl:b=j:=by omega
   rw[a7] at ho;subst ho;rfl
 .cases o with
  |true =>
   cases hk
   exact⟨j,by omega,rfl,by rw[a7]⟩
  |false =>
   obtain⟨b,hb,e1,e2⟩:=h.LS k hk;exact⟨b,by omega,e1,by rw[bl O _ (by omega)];exact e2⟩
 .cases o with
  |true=>cases e
  |false=>exact h.FE.1 e
 .cases o with
  |true=>cases e
  |false=>exact h.FE.2 e
 .rw[CJ _ _ (by omega),CJ _ _ (by omega)];exact h.out b (by omega)
 .have:=h.jj;rw[bl D _ (by omega)];exact h.old b hb
end
open Go.ConcR (KK WgAt stA smA rd wr mk DC0 Bk g_of_ofEvents bk_of_mute ofEvent_loc_mark ofEvent_cell ofEvent_mk)
section
variable (P:CL) (SB BB:bw->Bool) (lets:Bool) (Gn:Nat) (ty Wg:Nat) (Toy:Nat->Prop) (Ψ0 Ψ2:a8->Prop) (fA fW:bw) (wl:Nat) (Pr:Cm) (T:List cf) (Fn:Bool->Hid->a6->a8->Prop)
def I3 (wl:Nat):Value:=.pointer (br ⟨wl,0,b8⟩)
def ca (f:bw)(args:Array Value)(fr:cf)(cs:List cf):Goroutine:=C6 (Frame.enter P.a f args .normal) (fr::cs)
def back (fr:cf)(cs:List cf):Goroutine:=C6 (fr.finish (.tuple #[])) cs
def eY (fr:cf):Prop:=fr.mode=.run/\fr.roundOf=b8/\∃ops i rest k,fr.todo=.inRegion ops (i::rest)::k
def ic (tp:Bool)(H:Hid)(g:a6)(w:a8):Prop:=∃fr cs,g=ca P fW #[I3 wl] fr cs/\eY fr/\Fn tp H (back fr cs) w
def AtGo (S:Bool->Hid->a6->a8->Prop)(tp:Bool)(H:Hid)(g:a6)(w:a8):Prop :=
 ∀(x:Lone) (G:a6) (W:a8),x.g=g->Cs w x.w->x.H=H->x.T=T->Pr.le x.β->Dv P SB BB lets x G->E2 P SB lets Gn x W->(tp=bs->Ψ0 W)->(∀b B,x.β b B->Toy B->x.H b=bs)->(∀b,x.β b Wg->x.H b=bs)->x.H.C8=bq ->
  ∃(G' child:a6) (x' xk:Lone) (Oq o:Bool) (Uz:Cm) (Q:a6->a8->Prop),stepG P.b bs G W=.spawn G' child W #[]/\Split P SB BB lets Gn Wg Toy x G' child W tp Oq o x' xk Uz/\x'.T=T/\Pr.le x'.β /\
   S Oq x'.H x'.g x'.w/\cM P SB BB lets Gn ty Wg Ψ2 Q xk.H xk.T Uz o/\(∀g w,Q g w->BB g.frame.fn=bq)/\C1 P.a BB Q 0 xk.g xk.w
def J2:Nat->Bool->Hid->a6->a8->Prop
 |0,tp,H=>ic P fW wl Fn tp H
 | k + 1, tp, H => fun g w => ic P fW wl Fn tp H g w ∨ ∃ fr cs, g = ca P fA #[I3 wl, .int .i64 1] fr cs ∧ eY fr ∧
   Ch P.a (Dk P.a BB) (AtGo P SB BB lets Gn ty Wg Toy Ψ0 Ψ2 Pr T (λtp H=>Ch P.a (Dk P.a BB) (J2 k tp H)) tp H) (back fr cs) w
abbrev GoQ (k:Nat):Bool->Hid->a6->a8->Prop:=AtGo P SB BB lets Gn ty Wg Toy Ψ0 Ψ2 Pr T (λtp H=>Ch P.a (Dk P.a BB) (J2 P SB BB lets Gn ty Wg Toy Ψ0 Ψ2 fA fW wl Pr T Fn k tp H))
abbrev X9 (k:Nat)(tp:Bool)(H:Hid):a6->a8->Prop:=Ch P.a (Dk P.a BB) (J2 P SB BB lets Gn ty Wg Toy Ψ0 Ψ2 fA fW wl Pr T Fn k tp H)
structure Rest (k:Nat)(x:Lone)(tp:Bool)(gR:a6):Prop where
 run:Ch P.a (Dk P.a BB) (GoQ P SB BB lets Gn ty Wg Toy Ψ0 Ψ2 fA fW wl Pr T Fn k tp x.H) x.g x.w
 wl:Pr.le x.β
 t:x.T=T
 gl:Dv P SB BB lets x gR
structure Jo (x:Lone)(tp:Bool)(gR:a6):Prop where
 fin:Fn tp x.H x.g x.w
 wl:Pr.le x.β
 t:x.T=T
 gl:Dv P SB BB lets x gR
def ie (Fy:a6->a8->Prop)(gR:a6):Prop:=∀g w,Fy g w->g.status=.running/\∃m,GW P.b ty Wg bs (W1 P.b ty Wg Fy (λg _=>g=gR)) m g w
abbrev Pre:=Nat×Nat×Wm
inductive EG:CTag->Nat->Pre->(Nat->Nat)->Nat->Lone->Bool->a6->a8->Prop
 | free {k : Nat} {x : Lone} {tp : Bool} {G : a6} {W : a8} : X9 P SB BB lets Gn ty Wg Toy Ψ0 Ψ2 fA fW wl Pr T Fn k tp x.H x.g x.w -> Pr.le x.β -> x.T = T -> Dv P SB BB lets x G ->
   EG (.sp 0 5) 0 (k,9,.tree (J2 P SB BB lets Gn ty Wg Toy Ψ0 Ψ2 fA fW wl Pr T Fn k tp x.H) (x.g,x.w)) (λ_=>0) 0 x tp G W
 |ZX {k m:Nat} {x:Lone} {tp:Bool} {gR G:a6} {W:a8}:GW P.b ty Wg bs (AKd P.b ty Wg (λg _=>g=gR)) m G W->Rest P SB BB lets Gn ty Wg Toy Ψ0 Ψ2 fA fW wl Pr T Fn k x tp gR->EG (.sp 0 5) 0 (k+1,8,.st 0 m) (λ_=>0) 0 x tp G W
 |ZY {k m:Nat} {x:Lone} {tp:Bool} {gR G:a6} {W:a8}:GW P.b ty Wg bs (AA1 P.b ty Wg (λg _=>g=gR)) m G W->Rest P SB BB lets Gn ty Wg Toy Ψ0 Ψ2 fA fW wl Pr T Fn k x tp gR->EG (.sp 0 4) 1 (k+1,7,.st 0 m) (λ_=>0) 0 x tp G W
 |arr {k m:Nat} {x:Lone} {tp:Bool} {gR G:a6} {W:a8}:GW P.b ty Wg bs (ARr P.b ty Wg (λg _=>g=gR)) m G W->Rest P SB BB lets Gn ty Wg Toy Ψ0 Ψ2 fA fW wl Pr T Fn k x tp gR->EG (.sp 0 3) 1 (k+1,6,.st 0 m) (λ_=>0) 0 x tp G W
 |Ya {k m:Nat} {x:Lone} {tp:Bool} {gR G:a6} {W:a8}:GW P.b ty Wg bs (AKe P.b ty Wg (λg _=>g=gR)) m G W->Rest P SB BB lets Gn ty Wg Toy Ψ0 Ψ2 fA fW wl Pr T Fn k x tp gR->EG (.sp 0 3) 1 (k+1,5,.st 0 m) (λ_=>0) 0 x tp G W
 |Kq {k m:Nat} {x:Lone} {tp:Bool} {gR G:a6} {W:a8}:GW P.b ty Wg bs (λg _=>g=gR) m G W->Rest P SB BB lets Gn ty Wg Toy Ψ0 Ψ2 fA fW wl Pr T Fn k x tp gR->EG (.sp 0 2) 0 (k+1,4,.st 0 m) (λ_=>0) 0 x tp G W
 |mid {k:Nat} {x:Lone} {tp:Bool} {G:a6} {W:a8}:Rest P SB BB lets Gn ty Wg Toy Ψ0 Ψ2 fA fW wl Pr T Fn k x tp G->EG (.sp 0 2) 0 (k+1,3,.tree (GoQ P SB BB lets Gn ty Wg Toy Ψ0 Ψ2 fA fW wl Pr T Fn k tp x.H) (x.g,x.w)) (λ_=>0) 0 x tp G W
 |ZZ {k m:Nat} {x:Lone} {tp:Bool} {gR G:a6} {Fy:a6->a8->Prop} {W:a8}:GW P.b ty Wg bs (WKd P.b ty Wg Fy) m G W->Jo P SB BB lets Pr T Fn x tp gR->ie P ty Wg Fy gR->EG .kd 0 (k,2,.st 0 0) (λv=>16*v+14) m x tp G W
 |anch {k m:Nat} {x:Lone} {tp:Bool} {gR G:a6} {Fy:a6->a8->Prop} {W:a8}:GW P.b ty Wg bs Fy m G W->Jo P SB BB lets Pr T Fn x tp gR->ie P ty Wg Fy gR->EG .anch 1 (k,2,.st 0 0) (λv=>16*v+12) m x tp G W
 |w1 {k m:Nat} {x:Lone} {tp:Bool} {gR G:a6} {Fy:a6->a8->Prop} {W:a8}:GW P.b ty Wg bs (W1 P.b ty Wg Fy (λg _=>g=gR)) m G W->Jo P SB BB lets Pr T Fn x tp gR->ie P ty Wg Fy gR->EG .w1 1 (k,2,.st 0 0) (λv=>16*v+10) m x tp G W
 |w2 {k vs m:Nat} {x:Lone} {tp:Bool} {gR G:a6} {Fy:a6->a8->Prop} {W:a8}:GW P.b ty Wg bs (W2 P.b ty Wg Fy (λg _=>g=gR) vs) m G W->Jo P SB BB lets Pr T Fn x tp gR->ie P ty Wg Fy gR->EG (.w2 vs) 1 (k,2,.st 0 0) (λ_=>16*vs+8) m x tp G W
 |Z0 {k m:Nat} {x:Lone} {tp:Bool} {gR G:a6} {W:a8}:GW P.b ty Wg bs (WRw P.b ty Wg (λg _=>g=gR)) m G W->Jo P SB BB lets Pr T Fn x tp gR->EG .w3 1 (k,2,.st 0 0) (λ_=>7) m x tp G W
 |w3 {k m:Nat} {x:Lone} {tp:Bool} {gR G:a6} {W:a8}:GW P.b ty Wg bs (W3 P.b ty Wg (λg _=>g=gR)) m G W->Jo P SB BB lets Pr T Fn x tp gR->EG .w3 1 (k,2,.st 0 0) (λ_=>6) (m+1) x tp G W
 |blk {k:Nat} {x:Lone} {tp:Bool} {gR G:a6} {W:a8}:(∀w₁,RL ty Wg W w₁->W3 P.b ty Wg (λg _=>g=gR) G w₁)->Jo P SB BB lets Pr T Fn x tp gR->EG .blk 1 (k,2,.st 0 0) (λ_=>6) 0 x tp { G with status:=.blocked } W
 |w4 {k m:Nat} {x:Lone} {tp:Bool} {gR G:a6} {W:a8}:GW P.b ty Wg bs (W4 P.b ty Wg (λg _=>g=gR)) m G W->Jo P SB BB lets Pr T Fn x tp gR->EG .w4 1 (k,2,.st 0 0) (λ_=>5) m x tp G W
 |WE {k m:Nat} {x:Lone} {tp:Bool} {gR G:a6} {W:a8}:GW P.b ty Wg bs (WKe P.b ty Wg (λg _=>g=gR)) m G W->Jo P SB BB lets Pr T Fn x tp gR->EG .ke 1 (k,2,.st 0 0) (λ_=>4) m x tp G W
 |P5 {k m:Nat} {x:Lone} {tp:Bool} {gR G:a6} {W:a8}:GW P.b ty Wg bs (abe P.b ty Wg (λg _=>g=gR)) m G W->Jo P SB BB lets Pr T Fn x tp gR->EG .acq 0 (k,2,.st 0 0) (λ_=>3) m x tp G W
 |fin {k m:Nat} {x:Lone} {tp:Bool} {gR G:a6} {W:a8}:GW P.b ty Wg bs (λg _=>g=gR) m G W->Jo P SB BB lets Pr T Fn x tp gR->EG .ret 0 (k,2,.st 0 0) (λ_=>2) m x tp G W
end
section
variable {P:CL} {SB BB:bw->Bool} {lets:Bool} {Gn:Nat} {ty Wg:Nat} {Toy:Nat->Prop} {Ψ0 Ψ2:a8->Prop} {fA fW:bw} {wl:Nat} {Pr:Cm} {T:List cf} {Fn:Bool->Hid->a6->a8->Prop}
 {tag:CTag} {d0:Nat} {pre:Pre} {rk:Nat->Nat} {fu:Nat} {x:Lone} {tp:Bool} {G:a6} {W W':a8}
def EG.rely (h:EG P SB BB lets Gn ty Wg Toy Ψ0 Ψ2 fA fW wl Pr T Fn tag d0 pre rk fu x tp G W)(r:RL ty Wg W W'):EG P SB BB lets Gn ty Wg Toy Ψ0 Ψ2 fA fW wl Pr T Fn tag d0 pre rk fu x tp G W':=by
 cases h with
 |free a b c d=>exact .free a b c d
 |ZX a b=>exact .ZX (Goes.rely RL.trans a r) b
 |ZY a b=>exact .ZY (Goes.rely RL.trans a r) b
 |arr a b=>exact .arr (Goes.rely RL.trans a r) b
 |Ya a b=>exact .Ya (Goes.rely RL.trans a r) b
 |Kq a b=>exact .Kq (Goes.rely RL.trans a r) b
 |mid a=>exact .mid a
 |ZZ a b c=>exact .ZZ (Goes.rely RL.trans a r) b c
 |anch a b c=>exact .anch (Goes.rely RL.trans a r) b c
 |w1 a b c=>exact .w1 (Goes.rely RL.trans a r) b c
 |w2 a b c=>exact .w2 (Goes.rely RL.trans a r) b c
 |Z0 a b=>exact .Z0 (Goes.rely RL.trans a r) b
 |w3 a b=>exact .w3 (Goes.rely RL.trans a r) b
 |blk a b=>exact .blk (λw₂ h₂=>a w₂ (RL.trans _ _ _ r h₂)) b
 |w4 a b=>exact .w4 (Goes.rely RL.trans a r) b
 |WE a b=>exact .WE (Goes.rely RL.trans a r) b
 |P5 a b=>exact .P5 (Goes.rely RL.trans a r) b
 |fin a b=>exact .fin (Goes.rely RL.trans a r) b
def WG {gR:a6}(h:gR.status=.running):∀(g:a6) (_:a8),g=gR->g.status=.running:=λg _ e=>e▸h
def EG.status (h:EG P SB BB lets Gn ty Wg Toy Ψ0 Ψ2 fA fW wl Pr T Fn tag d0 pre rk fu x tp G W):(G.status=.running/\tag≠.blk)\/(G.status=.blocked/\tag=.blk):=by
 cases h with
 |free _ _ _ d=>exact .inl ⟨d.status.2,by simp⟩
 |ZX a _=>exact .inl ⟨Goes.running (λ_ _ x=>x.1) W (RL.refl W) a,by simp⟩
 |ZY a _=>exact .inl ⟨Goes.running (λ_ _ x=>x.1) W (RL.refl W) a,by simp⟩
 |arr a _=>exact .inl ⟨Goes.running (λ_ _ x=>x.1) W (RL.refl W) a,by simp⟩
 |Ya a _=>exact .inl ⟨Goes.running (λ_ _ x=>x.1) W (RL.refl W) a,by simp⟩
 |Kq a b=>exact .inl ⟨Goes.running (WG b.gl.status.2) W (RL.refl W) a,by simp⟩
 |mid a=>exact .inl ⟨a.gl.status.2,by simp⟩
 |ZZ a _ _=>exact .inl ⟨Goes.running (λ_ _ x=>x.1) W (RL.refl W) a,by simp⟩
 |anch a _ c=>exact .inl ⟨Goes.running (λg w x=>(c g w x).1) W (RL.refl W) a,by simp⟩
 |w1 a _ _=>exact .inl ⟨Goes.running (λ_ _ x=>x.1) W (RL.refl W) a,by simp⟩
 |w2 a _ _=>exact .inl ⟨Goes.running (λ_ _ x=>x.1) W (RL.refl W) a,by simp⟩
 |Z0 a _=>exact .inl ⟨Goes.running (λ_ _ x=>x.1) W (RL.refl W) a,by simp⟩
 |w3 a _=>exact .inl ⟨Goes.running (λ_ _ x=>x.1) W (RL.refl W) a,by simp⟩
 |blk _ _=>exact .inr ⟨rfl,rfl⟩
 |w4 a _=>exact .inl ⟨Goes.running (λ_ _ x=>x.1) W (RL.refl W) a,by simp⟩
 |WE a _=>exact .inl ⟨Goes.running (λ_ _ x=>x.1) W (RL.refl W) a,by simp⟩
 |P5 a _=>exact .inl ⟨Goes.running (λ_ _ x=>x.1) W (RL.refl W) a,by simp⟩
 |fin a b=>exact .inl ⟨Goes.running (WG b.gl.status.2) W (RL.refl W) a,by simp⟩
def EG.wokenBy (h:EG P SB BB lets Gn ty Wg Toy Ψ0 Ψ2 fA fW wl Pr T Fn tag d0 pre rk fu x tp G W)(r:RL ty Wg W W')(g g':a6) :
  ∃tag' Ot Ou,EG P SB BB lets Gn ty Wg Toy Ψ0 Ψ2 fA fW wl Pr T Fn tag' d0 pre Ot Ou x tp (woken P.b g g' W' G) W'/\(tag'=tag\/(tag=.blk/\tag'=.w3))/\(mayWake P.b g=bs->g'.status=.running->tag'≠.blk):=by
 have h':=h.rely r;unfold Go.Conc.woken;split
 .rcases h'.status with⟨hs,hne⟩|⟨_,rfl⟩
  .exact⟨tag,rk,fu,by rw[again_running _ (.inl hs)];exact h',.inl rfl,λ_ _=>hne⟩
  .cases h' with
   |blk hb hf =>
    have h3:=hb W' (RL.refl W');exact⟨.w3,λ_=>6,0+1,by rw[Go.ConcR.again_blocked h3.1 h3.2.1];exact .w3 (Goes.stop hb) hf,.inr ⟨rfl,rfl⟩,λ_ _=>by simp⟩
 .rename_i hc;exact⟨tag,rk,fu,h',.inl rfl,λh1 h2=>absurd (by simp[h1,h2]) hc⟩
end
end Go.Co
