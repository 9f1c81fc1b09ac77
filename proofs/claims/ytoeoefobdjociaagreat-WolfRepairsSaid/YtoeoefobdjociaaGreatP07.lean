/- Parts of the proof. -/
import Derived.Test.YtoeoefobdjociaaGreatP06
set_option linter.all false
set_option maxHeartbeats 1600000
open Go renaming Goroutine->Z,World->J,deafBehind->N,FuncId->A,Event->bl,Frame->br,stepG->bw
open Go.ConcN renaming upd_same->Y,upd_ne->F,Mode->ak,bk_cell->bs
open Go.Conc renaming mem_ofEvents->U,semEvents->bc,aside_setCell->bh
open Go.MemAct renaming ofEvent->I,touch?->bq
open Go.ConcN.Mode renaming retag->X,last->bn
open Go.MemOp renaming ofEvents->C
open Bool renaming false->E,true->V
open Option renaming some->R,none->bo
open Nat renaming le_of_not_lt->bb
namespace Go.Co
open Go.Eu Go.Conc Go.ConcN
open Go.ConcR (KK WgAt stA smA rd wr mk DC0 Bk g_of_ofEvents bk_of_mute ofEvent_loc_mark ofEvent_cell ofEvent_mk)
def LB.PK {p:Program}{a:Wm}{s m:Nat}(h:LB p a (.st s m)):∃s' m',a=.st s' m':=by
 cases h<;>exact⟨_,_,rfl⟩
section
variable (P:ED) (SB BB:A->Bool) (zZ:Bool) (Gn:Nat) (ty Wg:Nat) (zO zN:Nat->Prop) (Kp:H6) (Ψ0 Ψ2:J->Prop)
def JN (j0 j:Nat)(gs:Array Z)(W:J)(t:Trace)(D:Nat->WD)(M:Nat->Wm)(L:Nat->Option Lone)(rr:Nat->Nat)(tag:CTag)(tp:Bool)(i:Nat)(g:Z):Prop :=
 ∃(g':Z) (W':J) (es:Array bl) (D':Nat->WD) (M':Nat->Wm) (O':Nat->Bool) (L':Nat->Option Lone) (ts':TS) (a6:Nat->Nat) (I8 JB:Int),
  bw P.b E g W=.go g' W' es /\
  WI P SB BB zZ Gn ty Wg zO zN Kp Ψ0 Ψ2 j0 j ((gs.map (woken P.b g g' W')).setIfInBounds (i+1) g') W' (t++C (i+1) g.frame.fn g.frame.place es) D' M' O' L' ts' a6 I8 JB /\
  (∀tag',(tag'=tag\/(tag=.blk/\tag'=.w3))->(mayWake P.b g=V->g'.status=.running->tag'≠.blk)->ak j D' tag' I8 JB) /\
  LB P.a (M' i) (M i)/\(∀k,k≠i->M' k=M k)/\L' 0=L 0/\Vc j D'<=Vc j D/\(∀k,k<j->(D k).stage<=6->(D' k).stage<=6/\a6 k=rr k)/\ts'.tp=tp
end
section
variable {P:ED} {SB BB:A->Bool} {zZ:Bool} {Gn:Nat} {ty Wg:Nat} {zO zN:Nat->Prop} {Kp:H6} {Ψ0 Ψ2:J->Prop}
 {j0 j:Nat} {gs:Array Z} {W W':J} {t:Trace} {D:Nat->WD} {M:Nat->Wm} {O:Nat->Bool} {L:Nat->Option Lone} {ts ts':TS} {rr:Nat->Nat} {st sm I8 JB:Int} {tag:CTag} {i:Nat} {g:Z}
def dw (hi:i<j){x:WD}(hx:cnt x<=cnt (D i)):Vc j (upd D i x)<=Vc j D:=by
 have:=Vc_upd D x hi;omega
def bH (h:WI P SB BB zZ Gn ty Wg zO zN Kp Ψ0 Ψ2 j0 j gs W t D M O L ts rr st sm)(tz:ax zN Ψ0)(a8:ax zN Ψ2)(hi:i<j)(hL:L (i+1)=bo)(hO:O i=E){s:Nat}(hs:(D i).stage=s)(h6:s<=6)
  {g':Z} {es:Array bl} {s' dd':Nat} {m':Wm} (zK:bw P.b E g W=.go g' W' es) (hk:GG P SB BB zZ Gn ty Wg Ψ2 s' dd' m' bo E g' W') (zG:s'<=s) (hold:i<j0->s'=1)
  (aA:Aside Wg W W') (aB:WgAt ty Wg W' I8 JB) (aC:∀e∈es,Bk Wg e) (hd:∀a e,es[a]?=R e->(I e).touch?=bo\/0<N (D i).deaf (es.extract 0 a)) (a6:N (D i).deaf es=dd')
  (a7:∀tag',(tag'=tag\/(tag=.blk/\tag'=.w3))->(mayWake P.b g=V->g'.status=.running->tag'≠.blk)->ak j (upd D i ⟨s',0,dd'⟩) tag' I8 JB)
  (zY:LB P.a m' (M i)):JN P SB BB zZ Gn ty Wg zO zN Kp Ψ0 Ψ2 j0 j gs W t D M L rr tag ts.tp i g:=by
 refine⟨g',W',es,_,_,_,_,_,_,I8,JB,zK,h.book tz a8 hi hk (by omega) hL hO (by omega) hold aA aB aC hd a6,a7,by rw[Y];exact zY,λk hk=>F M _ hk,rfl,dw hi ?_,λk hk h6'=>?_,rfl⟩
 .simp only[cnt];split<;>split<;>omega
 .by_cases e:k=i
  .subst e;rw[Y,Y];exact⟨by show s'<=6;omega,rfl⟩
  .rw[F D _ e,F rr _ e];exact⟨h6',rfl⟩
def eM {es:Array bl}{k:Nat}{fn:A}{pos:String}(h:∀e∈es,(I e).touch?=bo):∀op∈C k fn pos es,op.g=k/\∀x,op.act.touch?=R x->False:=by
 intro op hop;obtain⟨e,he,rfl⟩:=U hop;exact⟨rfl,λx hx=>by rw[h e he] at hx;cases hx⟩
def LD (h:WI P SB BB zZ Gn ty Wg zO zN Kp Ψ0 Ψ2 j0 j gs W t D M O L ts rr st sm)(hi:i<j)(hL:L (i+1)=bo)(hO:O i=E)(hs:(D i).stage=7)(hd:(D i).deaf=0){m:Nat}(hM:M i=.st 7 m)(a7:ak j D tag st sm)
  (hk:GW P.b ty Wg E (R0 P.b ty Wg) m g W):JN P SB BB zZ Gn ty Wg zO zN Kp Ψ0 Ψ2 j0 j gs W t D M L rr tag ts.tp i g:=by
 have aA:j0<=i:=bb λzY=>by have:=h.old i zY;omega
 have aB:Deaf t (i+1)=0:=by rw[h.deafW i hi,hd]
 obtain a8|⟨m',rfl,hstep⟩:=Goes.cases hk
 .obtain⟨_,g',zK,m₂,aC⟩:=a8 W (RL.refl W);have a6:∀e∈(#[mk (.releaseMerge (stA Wg))]:Array bl),(I e).touch?=none:=by intro e he;simp at he;subst he;rfl
  have hw:=h.next hi (g:=g) (fn:=g.frame.fn) (pos:=g.frame.place) (r':=t.size) (ts':=ts) (.k1 aC) h.wg (by rw[Hg hL];exact h.cw)
   (by rw[Hg hL];exact h.JC (by omega) (λop hop=>⟨(eM a6 op hop).1,λx hx=>((eM a6 op hop).2 x hx).elim⟩))
   (by intro e he a;simp at he;subst he;simp[mk]) (by omega) (λe=>by omega)
   (.inr ⟨λa ha _=>by omega,λh6=>by omega,λa ha aD=>.inl ⟨by
    obtain⟨z,hz,_⟩:=Bj.1 aD;have:=lt_size_of_getElem? hz;rw[ofEvents_eq] at this;simp at this
    omega,aA⟩⟩) (λe=>by omega)
   (λop hop=>by
    obtain⟨e,he,rfl⟩:=U hop;simp at he;subst he
    exact h.cw.low.1) (AA _) (by rw[hd];rfl) (λ_ _=>RelBy.new aB _ _) (by simp) (.inl ⟨rfl,hO.symm⟩) h.G6
  refine⟨g',W,_,_,_,_,_,_,_,st,sm,zK,hw,λtag' ht _=>(a7.counted hi (by omega) (.inl rfl) _ _).retag ht,by rw[Y,hM];exact .stage (by omega),λk hk=>F M _ hk,EC L _ (by omega),dw hi (by simp[cnt,hs]),λk hk h6=>?_,rfl⟩;have e:k≠i:=λe=>by subst e;omega
  rw[F D _ e,F rr _ e];exact⟨h6,rfl⟩
 .obtain⟨g',w',es,zK,⟨rfl,rfl⟩,aF⟩:=hstep W (RL.refl W);have a6:∀e∈(#[]:Array bl),(I e).touch?=none:=by simp
  have hw:=h.next hi (g:=g) (fn:=g.frame.fn) (pos:=g.frame.place) (r':=rr i) (ts':=ts) (.r0 aF) h.wg (by rw[Hg hL];exact h.cw)
   (by rw[Hg hL];exact h.JC (by omega) (λop hop=>⟨(eM a6 op hop).1,λx hx=>((eM a6 op hop).2 x hx).elim⟩))
   (by simp) (by omega) (λe=>by omega) (.inl rfl) (λ_=>⟨aA,hs⟩) (λop hop=>by obtain⟨e,he,rfl⟩:=U hop;simp at he) (AA _) (by rw[hd];rfl) (λ_ e=>by omega) (by simp) (.inl ⟨rfl,hO.symm⟩) h.G6
  refine⟨g',w',_,_,_,_,_,_,_,st,sm,zK,hw,λtag' ht _=>X (by have:=a7.same (i:=i) 0 0;rwa [hs] at this) ht,by rw[Y,hM];exact .fuel (by omega),λk hk=>F M _ hk,EC L _ (by omega),dw hi (by simp[cnt,hs]),λk hk h6=>?_,rfl⟩;have e:k≠i:=λe=>by subst e;omega
  rw[F D _ e,F rr _ e];exact⟨h6,rfl⟩
def Cw.free (c:Cw P SB zZ Gn Wg zO zN Kp L (R (i+1)) W):Cw P SB zZ Gn Wg zO zN Kp (put L (i+1) bo) bo W:=by
 have d:=c.drop (i+1);refine⟨d.like,d.EZ,d.MW,d.dead,λa x ha _=>?_,d.sep,d.low,d.I4,d.keep,d.FI,d.Lz,d.N0⟩;have e:a≠i+1:=λe=>by subst e;rw[Ex] at ha;cases ha
 exact d.I3 a x ha (λe'=>e (Option.some.inj e').symm)
def WI.turn (h:WI P SB BB zZ Gn ty Wg zO zN Kp Ψ0 Ψ2 j0 j gs W t D M O L ts rr st sm)(hi:i<j)(hg:gs[i+1]?=R g)(hs:(D i).stage=7)(hd:(D i).deaf=0){m:Nat}(hk:GW P.b ty Wg E (R0 P.b ty Wg) m g W)(a7:O i=V->Ψ2 W) :
  ∃ts',WI P SB BB zZ Gn ty Wg zO zN Kp Ψ0 Ψ2 j0 j gs W t D (upd M i (.st 7 m)) (upd O i E) (put L (i+1) bo) ts' rr st sm/\ts'.tp=ts.tp:=by
 have a6:∀ {a y},put L (i+1) bo a=R y->L a=R y:=λ{a y} e=>by
  by_cases e':a=i+1
  .subst e';rw[Ex] at e;cases e
  .rwa [EC L _ e'] at e
 have wk:∀a,a<j->∃g,gs[a+1]?=R g/\GG P SB BB zZ Gn ty Wg Ψ2 (D a).stage (D a).deaf (upd M i (.st 7 m) a) (put L (i+1) bo (a+1)) (upd O i E a) g W:=λa ha=>by
  by_cases e:a=i
  .subst e;refine⟨g,hg,?_⟩;rw[Y,Y,Ex,hs,hd];exact .r0 hk
  .obtain⟨y,hy,hs⟩:=h.wk a ha;refine⟨y,hy,?_⟩;rw[F M _ e,F O _ e,EC L _ (by omega)];exact hs
 have out:∀a,j<a->put L (i+1) bo a=none:=λa ha=>by rw[EC L _ (by omega)];exact h.out a ha
 by_cases ho:O i=V
 .have e:=h.Km i hi ho;subst e;refine⟨.done,⟨h.size,wk,Cw.free h.cw,h.tr.Mv (λk l=>?_) (λk l=>?_),h.low,h.deafW,h.rel,h.wg,λa ha e=>?_,λk e=>(by cases e),⟨λe=>(by cases e),λ_=>a7 ho⟩,out,h.old,h.jj⟩,rfl⟩
  .rintro(⟨x,hx,hw⟩|⟨_,h2,_⟩)
   .exact .inl ⟨x,a6 hx,hw⟩
   .cases h2
  .rintro(⟨x,hx,hw⟩|⟨_,h2,_⟩)
   .exact .inl ⟨x,a6 hx,hw⟩
   .cases h2
  .by_cases e':a=i
   .subst e';rw[Y] at e;cases e
   .rw[F O _ e'] at e;have:=TS.at_.inj (h.Km a ha e);omega
 .have a8:O i=false:=by simpa using ho
  refine⟨ts,⟨h.size,wk,h.cw.drop (i+1),h.tr.Mv (λk l=>?_) (λk l=>?_),h.low,h.deafW,h.rel,h.wg,λa ha e=>?_,λk e=>?_,h.G6,out,h.old,h.jj⟩,rfl⟩
  .rintro(⟨x,hx,hw⟩|h2)
   .exact .inl ⟨x,a6 hx,hw⟩
   .exact .inr h2
  .rintro(⟨x,hx,hw⟩|h2)
   .exact .inl ⟨x,a6 hx,hw⟩
   .exact .inr h2
  .by_cases e':a=i
   .subst e';rw[Y] at e;cases e
   .rw[F O _ e'] at e;exact h.Km a ha e
  .obtain⟨a,ha,e1,e2⟩:=h.K8 k e;refine⟨a,ha,e1,?_⟩;rw[F O _ (λe'=>by subst e';rw[a8] at e2;cases e2)];exact e2
def pX (h:WI P SB BB zZ Gn ty Wg zO zN Kp Ψ0 Ψ2 j0 j gs W t D M O L ts rr st sm)(hi:i<j)(hs:(D i).stage=7)(hd:(D i).deaf=0){x:Lone}(hL:L (i+1)=R x)
  {wl:Em} {Q:Z->J->Prop} (hM:M i=.born Q (x.g,x.w)) (a6:ak j D tag st sm) (a8:wl.le x.β) (hQ:cQ P SB BB zZ Gn ty Wg Ψ2 Q x.H x.T wl (O i)) (aA:∀g w,Q g w->BB g.frame.fn=E) (hr:EO P.a BB Q 0 x.g x.w) (hb:mp P SB BB zZ x g) :
  JN P SB BB zZ Gn ty Wg zO zN Kp Ψ0 Ψ2 j0 j gs W t D M L rr tag ts.tp i g:=by
 have aB:j0<=i:=bb λzY=>by have:=h.old i zY;omega
 obtain⟨_,g',zK,aC⟩:=hb;have a7:∀e∈(#[]:Array bl),(I e).touch?=none:=by simp
 have hp:put L (i+1) (R x)=L:=by
  funext a;unfold put;split
  .rename_i e;rw[e,hL]
  .rfl
 have hw:=h.next hi (g:=g) (fn:=g.frame.fn) (pos:=g.frame.place) (r':=rr i) (ts':=ts) (o':=O i) (.tree a8 hQ aA hr aC) h.wg (by rw[hp];exact h.cw)
  (by rw[hp];exact h.JC (by omega) (λop hop=>⟨(eM a7 op hop).1,λx hx=>((eM a7 op hop).2 x hx).elim⟩))
  (by simp) (by omega) (λe=>by omega) (.inl rfl) (λ_=>⟨aB,hs⟩) (λop hop=>by obtain⟨e,he,rfl⟩:=U hop;simp at he) (AA _) (by rw[hd];rfl) (λ_ e=>by omega) (λho=>h.Km i hi ho) (.inl ⟨rfl,rfl⟩) h.G6
 refine⟨g',W,_,_,_,_,_,_,_,st,sm,zK W,hw,λtag' ht _=>X (by have:=a6.same (i:=i) 0 0;rwa [hs] at this) ht,by rw[Y,hM];exact .un,λk hk=>F M _ hk,EC L _ (by omega),dw hi (by simp[cnt,hs]),λk hk h6=>?_,rfl⟩;have e:k≠i:=λe=>by subst e;omega
 rw[F D _ e,F rr _ e];exact⟨h6,rfl⟩
def pY (lib:∀H,Lib P SB H zZ BB Gn)(h:WI P SB BB zZ Gn ty Wg zO zN Kp Ψ0 Ψ2 j0 j gs W t D M O L ts rr st sm)(tz:ax zN Ψ0)(aD:ax zN Ψ2)(hi:i<j)(hs:(D i).stage=7){d:Nat}(hd:(D i).deaf=d){x:Lone}(hL:L (i+1)=R x)
  {wl:Em} {Q:Z->J->Prop} (hM:M i=.tree Q (x.g,x.w)) (a8:ak j D tag st sm) (aF:wl.le x.β) (hQ:cQ P SB BB zZ Gn ty Wg Ψ2 Q x.H x.T wl (O i)) (aA:∀g w,Q g w->BB g.frame.fn=E)
  {ng:Tape->Nat->Z} {nw:Tape->Nat->J} (h1:Fa P.a BB x.g x.w) (h2:∀τ d,(∃es,bw P.a V x.g (on x.w τ d)=.go (ng τ d) (nw τ d) es)/\(ng τ d).callers≠[]) (h3:∀τ n,EO P.a BB Q d (ng τ n) (nw τ n)) (hg:Fp P SB BB zZ x g) :
  JN P SB BB zZ Gn ty Wg zO zN Kp Ψ0 Ψ2 j0 j gs W t D M L rr tag ts.tp i g:=by
 have aG:j0<=i:=bb λzY=>by have:=h.old i zY;omega
 have hq:¬Q x.g x.w:=λhq=>by have:=h1.1;rw[aA _ _ hq] at this;cases this
 obtain⟨g',w',es,D6,g2,W',ES,e1,e2,e3,e4,e5⟩:=JL (lib x.H) (main2:=E) h1 h2 hg (h.cw.like _ x hL);have aH:EO P.a BB Q d g' w':=by obtain⟨rfl,rfl⟩:=e2;exact h3 _ _
 have f:Hu P SB zZ Gn x W D6 w' W' ES.toList:=e5;have aB:=h.cw.EZ _ x hL;have aC:W'.heap[Wg]?=W.heap[Wg]?:=h.cw.same hL f h.cw.low.1 (h.cw.MW _ x hL);have aI:WgAt ty Wg W' st sm:=by unfold WgAt;rw[aC];exact h.wg
 have hes:ES=ES.toList.toArray:=by simp
 have a7:ts.own≠R (i+1)->∀B,zN B->W'.heap[B]?=W.heap[B]?:=λho B hB=>h.cw.same hL f (h.cw.low.2.2 B hB) λb hb=>h.cw.I3 _ x hL ho b B hb hB;have a6:=cP f aB;rw[<-hes] at a6;have hw:=h.next hi (g:=g) (g':=g2) (fn:=g.frame.fn) (pos:=g.frame.place) (es:=ES) (r':=rr i) (ts':=ts) (x':=R ⟨g',w',x.H,D6,x.T⟩) (o':=O i) (.tree (x:=⟨g',w',x.H,D6,x.T⟩) (Em.le_trans aF e5.le) hQ aA aH e4) aI (h.cw.step hL f g')
  (by rw[hes];exact h.cw.N7 hL f g' Dx (by omega) h.tr.ti h.low) (λe he a=>(a6 e he).2.2 a) (by omega) (λe=>by omega) (.inl rfl) (λ_=>⟨aG,hs⟩)
  (by rw[hes];exact eD f aB) f.SIZE (by rw[hd];exact deafBehind_idle (λe he=>⟨(a6 e he).1,(a6 e he).2.1⟩) d) (λ_ e=>by omega) (λho=>h.Km i hi ho) (.inl ⟨rfl,rfl⟩)
  ⟨λe=>tz W W' (a7 (by rw[e];simp[TS.own])) (h.G6.1 e),λe=>aD W W' (a7 (by rw[e];simp[TS.own])) (h.G6.2 e)⟩
 refine⟨g2,W',ES,_,_,_,_,_,_,st,sm,e3,hw,λtag' ht _=>X (by have:=a8.same (i:=i) 0 d;rwa [hs] at this) ht,?_,λk hk=>F M _ hk,EC L _ (by omega),dw hi (by simp[cnt,hs]),λk hk h6=>?_,rfl⟩
 .rw[Y,hM];exact .tree hq ⟨W.tape,W.drawn,es,e1,e4.callers.ne⟩
 .have e:k≠i:=λe=>by subst e;omega
  rw[F D _ e,F rr _ e];exact⟨h6,rfl⟩
def _root_.Go.Eu.GM.mem {β:Em}{es ES:Array bl}(h:GM β es ES):∀e∈ES,(I e).touch?=bo/\(∀a,e.loc≠.mark (.release a)):=by
 intro e he;cases h with
 |Ht m hm=>simp only[B8,AJ,AG,or_false] at he;subst he;rcases hm with rfl|rfl<;>exact⟨rfl,by simp⟩
 |GZ o s mk hm hb=>simp only[B8,AJ,AG,or_false] at he;subst he;rcases hm with rfl|rfl<;>exact⟨rfl,by simp⟩
 |none=>simp at he
def _root_.Go.Eu.GM.low {β:Em}{es ES:Array bl}(h:GM β es ES){B:Nat}(hl:∀e∈ES,∀ad,e.loc=.mark (.acquire ad)\/e.loc=.mark (.releaseMerge ad)->ad.block<B):∀e∈ES,(I e).low B:=by
 intro e he;cases h with
 |Ht m hm=>simp only[B8,AJ,AG,or_false] at he;subst he;rcases hm with rfl|rfl<;>trivial
 |GZ o s mk hm hb =>
  have:=hl e he;simp only[B8,AJ,AG,or_false] at he;subst he;obtain rfl|rfl:=hm
  .exact this _ (.inl rfl)
  .exact this _ (.inr rfl)
 |none=>simp at he
def pZ (lib:∀H,Lib P SB H zZ BB Gn)(aB:∀(f:A) (fn:Func),P.a.funcs[f]?=R fn->fn.body.isNone=V->P.fs[f]?=R fn)(h:WI P SB BB zZ Gn ty Wg zO zN Kp Ψ0 Ψ2 j0 j gs W t D M O L ts rr st sm)(hi:i<j)(hs:(D i).stage=7){d:Nat}(hd:(D i).deaf=d){x:Lone}(hL:L (i+1)=R x)
  {wl:Em} {Q:Z->J->Prop} (hM:M i=.tree Q (x.g,x.w)) (a8:ak j D tag st sm) (aC:wl.le x.β) (hQ:cQ P SB BB zZ Gn ty Wg Ψ2 Q x.H x.T wl (O i)) (aA:∀g w,Q g w->BB g.frame.fn=E)
  {b:br} {a:Act} {ops:Array Oper} {i0:Nat} {rest:List Nat} {k:List Item} {cs:List br} {o:Oper} {es:Array bl} {v:Value} (a6:x.g=EX (b.at a (.inRegion ops (i0::rest)::k)) cs)
  (h1:BB b.fn=V) (h2:cs≠[]) (h3:ops[i0]?=R o) (h4:Region.wanted o (yielded ops a.tmps)=V) (h5:b.kind≠.early) (h6:Fz P.a a x.w o es v) (h7:∀τ n,EO P.a BB Q (N d es) (EX (b.at (a.put o.dst v) (.inRegion ops rest::k)) cs) (on x.w τ n)) (hg:Fp P SB BB zZ x g) :
  JN P SB BB zZ Gn ty Wg zO zN Kp Ψ0 Ψ2 j0 j gs W t D M L rr tag ts.tp i g:=by
 have aD:j0<=i:=bb λzY=>by have:=h.old i zY;omega
 have hq:¬Q x.g x.w:=λhq=>by have:=aA _ _ hq;rw[a6] at this;exact AI h1 (by rw[show b.fn=(EX (b.at a (.inRegion ops (i0::rest)::k)) cs).frame.fn from rfl,this];decide)
 have hw0:=h.cw.like _ x hL;have zL:FX P SB x.H zZ BB x.T x.β (EX (b.at a (.inRegion ops (i0::rest)::k)) cs) g:=a6▸hg;obtain⟨g2,ES,e3,e4,e5,e6⟩:=Lq aB (main2:=E) h1 zL hw0 h3 h4 h5 h6;have aF:EI (SP SB x.H) (CK P.a SB zZ) Gn x.β (on x.w W.tape W.drawn) W:=hw0.same rfl rfl hw0.env;have f0:Hu P SB zZ Gn x W x.β (on x.w W.tape W.drawn) W []:=Fin.refl aF;have zP:=h.cw.step hL f0 (EX (b.at (a.put o.dst v) (.inRegion ops rest::k)) cs)
 have a7:=e5.mem;have hw:=h.next hi (g:=g) (g':=g2) (fn:=g.frame.fn) (pos:=g.frame.place) (es:=ES) (r':=rr i) (ts':=ts) (x':=R ⟨EX (b.at (a.put o.dst v) (.inRegion ops rest::k)) cs,on x.w W.tape W.drawn,x.H,x.β,x.T⟩) (o':=O i)
  (.tree (x:=⟨EX (b.at (a.put o.dst v) (.inRegion ops rest::k)) cs,on x.w W.tape W.drawn,x.H,x.β,x.T⟩) aC hQ aA (h7 _ _) e4) h.wg zP
  ((h.JC (k:=i+1) (by omega) (u:=C (i+1) g.frame.fn g.frame.place ES) (λop hop=>by
   obtain⟨e,he,rfl⟩:=U hop
   exact⟨rfl,λy hy=>by rw[(a7 e he).1] at hy;cases hy⟩)).mono (λj l hl=>?_) (λj l hl=>?_))
  (λe he a=>(a7 e he).2 a) (by omega) (λe=>by omega) (.inl rfl) (λ_=>⟨aD,hs⟩)
  (λop hop=>by obtain⟨e,he,rfl⟩:=U hop;exact e5.low e6 e he) (AA _) (by rw[hd];exact e5.deaf d) (λ_ e=>by omega) (λho=>h.Km i hi ho) (.inl ⟨rfl,rfl⟩) h.G6
 .refine⟨g2,W,ES,_,_,_,_,_,_,st,sm,e3,hw,λtag' ht _=>X (by have:=a8.same (i:=i) 0 (N d es);rwa [hs] at this) ht,?_,λk hk=>F M _ hk,EC L _ (by omega),dw hi (by simp[cnt,hs]),λk hk h6=>?_,rfl⟩
  .rw[Y,hM];refine .tree hq ⟨W.tape,W.drawn,es,?_,h2⟩;show bw P.a V x.g (on x.w W.tape W.drawn)=_;rw[a6];exact(h6.same Di).step h3 h4 h5
  .have e:k≠i:=λe=>by subst e;omega
   rw[F D _ e,F rr _ e];exact⟨h6,rfl⟩
 .obtain⟨y,hy,hr⟩|hl:=hl
  .by_cases e:j=i+1
   .subst e;rw[Ex] at hy;cases hy;exact .inl ⟨x,hL,hr⟩
   .rw[EC L _ e] at hy;exact .inl ⟨y,hy,hr⟩
  .exact .inr hl
 .obtain⟨y,hy,hr⟩|hl:=hl
  .by_cases e:j=i+1
   .subst e;rw[Ex] at hy;cases hy;exact .inl ⟨x,hL,hr⟩
   .rw[EC L _ e] at hy;exact .inl ⟨y,hy,hr⟩
  .exact .inr hl
end
open Go.ConcR (KK WgAt stA smA rd wr mk DC0 Bk g_of_ofEvents bk_of_mute ofEvent_loc_mark ofEvent_cell ofEvent_mk)
section
variable {P:ED} {SB BB:A->Bool} {zZ:Bool} {Gn:Nat} {ty Wg:Nat} {zO zN:Nat->Prop} {Kp:H6} {Ψ0 Ψ2:J->Prop}
 {j0 j:Nat} {gs:Array Z} {W W':J} {t:Trace} {D:Nat->WD} {M:Nat->Wm} {O:Nat->Bool} {L:Nat->Option Lone} {ts ts':TS} {rr:Nat->Nat} {st sm I8 JB:Int} {tag:CTag} {i:Nat} {g:Z}
def p6 (h:WI P SB BB zZ Gn ty Wg zO zN Kp Ψ0 Ψ2 j0 j gs W t D M O L ts rr st sm)(tz:ax zN Ψ0)(a8:ax zN Ψ2)(hi:i<j)(hL:L (i+1)=bo)(hO:O i=E)(hs:(D i).stage=1){q d:Nat}(hd:(D i).deaf=d)(hM:M i=.st 1 q)(zA:g.status=.running)(a7:ak j D tag st sm)
  (hk:QuitsD P.b q d g):JN P SB BB zZ Gn ty Wg zO zN Kp Ψ0 Ψ2 j0 j gs W t D M L rr tag ts.tp i g:=by
 cases q with
 |zero=>rw[hk.1] at zA;cases zA
 |succ q =>
  obtain⟨hf,_⟩|⟨_,g',es,a6,hstep,hq⟩:=hk
  .rw[hf] at zA;cases zA
  .have aA:∀e∈es,Bk Wg e:=λe he=>bk_of_mute (a6 e he)
   have hno:∀a e,es[a]?=R e->(I e).touch?=bo\/0<N (D i).deaf (es.extract 0 a):=λa e he=>.inl (by
    rcases bk_of_mute (Wg:=Wg) (a6 e (Bi he)) with h1|h1|⟨b,wr,rfl,_⟩
    .rw[ofEvent_loc_mark h1];rfl
    .rw[ofEvent_loc_mark h1];rfl
    .have:=a6 _ (Bi he);simp[Event.mute] at this)
   exact bH h tz a8 hi hL hO hs (by omega) (hstep W) (.quit hq) (by omega) (λ_=>rfl) (.refl Wg W) h.wg aA hno (by rw[hd])
    (λ_ ht _=>X (by have:=a7.same (i:=i) 0 (N d es);rwa [hs] at this) ht) (by rw[hM];exact .fuel (by omega))
def moved (lib:∀H,Lib P SB H zZ BB Gn)(aN:∀(f:A) (fn:Func),P.a.funcs[f]?=R fn->fn.body.isNone=V->P.fs[f]?=R fn)(h:WI P SB BB zZ Gn ty Wg zO zN Kp Ψ0 Ψ2 j0 j gs W t D M O L ts rr st sm)(tz:ax zN Ψ0)(aB:ax zN Ψ2)(hi:i<j)(hg:gs[i+1]?=R g)(zA:g.status=.running)(a6:ak j D tag st sm)(hb:j+pend tag<2147483648) :
  JN P SB BB zZ Gn ty Wg zO zN Kp Ψ0 Ψ2 j0 j gs W t D M L rr tag ts.tp i g:=by
 obtain⟨g₁,aH,hs⟩:=h.wk i hi;obtain rfl:g=g₁:=by rw[hg] at aH;exact Option.some.inj aH
 generalize zG:(D i).stage=s at hs;generalize a7:(D i).deaf=dd at hs;generalize hM:M i=mm at hs;generalize hL:L (i+1)=lx at hs;generalize hO:O i=oo at hs;have hVj:=Vc_le j D;have idle:∀ {g':Z} {m' m0:Nat},M i=.st s m0->lx=bo->oo=E->bw P.b E g W=.go g' W #[]->GG P SB BB zZ Gn ty Wg Ψ2 s dd (.st s m') bo E g' W->m'<m0->s<=6->s≠1->JN P SB BB zZ Gn ty Wg zO zN Kp Ψ0 Ψ2 j0 j gs W t D M L rr tag ts.tp i g:=by
  intro g' m' m0 hM0 hl ho zK hs' hm h6 h1;exact bH h tz aB hi (by rw[hL,hl]) (by rw[hO,ho]) zG h6 zK hs' (by omega) (λzY=>by have:=h.old i zY;omega) (.refl Wg W) h.wg (by simp) (by simp) (by rw[a7];rfl)
   (λ_ ht _=>X (by have:=a6.same (i:=i) 0 dd;rwa [zG] at this) ht) (by rw[hM0];exact .fuel hm)
 cases hs with
 |born aG hQ aI hr hbn=>exact pX h hi zG a7 hL hM a6 aG (by rw[hO];exact hQ) aI hr hbn
 |tree aG hQ aI hr zQ =>
  rename_i x wl Q;generalize aJ:x.g=gx at hr;generalize aK:x.w=wx at hr;cases hr with
  |fin hq =>
   subst aJ aK;obtain⟨⟨m,hm⟩,aO⟩:=hQ x g W rfl rfl aG hq zQ (h.cw.like _ x hL) h.live;obtain⟨ts',h',aP⟩:=h.turn hi hg zG a7 hm (by rw[hO];exact aO);obtain⟨g',W',es,D',M',O',L',aQ,aR,I8,JB,k1,k2,k3,k4,k5,k6,k7,k8,k9⟩:=LD h' hi (Ex L _ _) (Y O _ _) zG a7 (Y M _ _) a6 hm;refine⟨g',W',es,D',M',O',L',aQ,aR,I8,JB,k1,k2,k3,?_,λk hk=>(k5 k hk).trans (F M _ hk),k6.trans (EC L _ (by omega)),k7,k8,k9.trans aP⟩
   rw[Y] at k4;obtain⟨s',m',e⟩:=k4.PK;rw[e,hM];exact .off
  |next ng nw f1 f2 f3 =>
   subst aJ aK;exact pY lib h tz aB hi zG a7 hL hM a6 aG (by rw[hO];exact hQ) aI f1 f2 f3 zQ
  |spec f1 f2 f3 f4 f5 f6 f7 =>
   subst aK;exact pZ lib aN h hi zG a7 hL hM a6 aG (by rw[hO];exact hQ) aI aJ f1 f2 f3 f4 f5 f6 f7 zQ
 |r0 hk=>exact LD h hi hL hO zG a7 hM a6 hk
 |k1 hk =>
  obtain aA|⟨m',rfl,hstep⟩:=Goes.cases hk
  .obtain⟨_,g',zK,m₂,aF⟩:=aA W (RL.refl W);exact bH h tz aB hi hL hO zG (by omega) zK (.d1 aF) (by omega) (λzY=>by have:=h.old i zY;omega) (.refl Wg W) h.wg (by intro e he;simp at he;subst he;exact .inl rfl) (by intro a e he;exact .inl (by have:=Bi he;simp at this;subst this;rfl)) (by rw[a7];rfl)
    (λ_ ht _=>(a6.counted hi (by omega) (.inr rfl) _ _).retag ht) (by rw[hM];exact .stage (by omega))
  .obtain⟨g',w',es,zK,⟨rfl,rfl⟩,aD⟩:=hstep W (RL.refl W);exact idle hM rfl rfl zK (.k1 aD) (by omega) (by omega) (by omega)
 |d1 hk =>
  obtain aA|⟨m',rfl,hstep⟩:=Goes.cases hk
  .obtain⟨_,hall⟩:=aA W (RL.refl W);have zw:cnt (D i)=1:=by simp[cnt,zG]
   have hV1:1<=Vc j D:=by have:=le_sumTo (f:=λx=>cnt (D x)) hi;simp only[Vc];omega
   have bk2:∀e∈#[rd (stA Wg),wr (stA Wg)],Bk Wg e:=by intro e he;simp at he;rcases he with rfl|rfl<;>exact bs _ _ rfl
   have aL:∀jx e,(#[rd (stA Wg),wr (stA Wg)]:Array bl)[jx]?=R e->(I e).touch?=bo\/0<N (D i).deaf ((#[rd (stA Wg),wr (stA Wg)]:Array bl).extract 0 jx):=by
    intro jx e he;rw[a7]
    match jx,he with
    |0,_=>exact .inr (by simp[N])
    |1,_=>exact .inr (by simp[N,rd])
    |jx+2,he=>simp at he
   have opq:OpenSt j D->OpenSt j (upd D i ⟨1,0,1⟩):=λh a ha=>by
    by_cases e:a=i
    .subst e;rw[Y];simp
    .rw[F D _ e];exact h a ha
   have aT:cnt (⟨1,0,1⟩:WD)=0:=rfl;have hold:∀ {s':Nat},i<j0->s'=1:=λzY=>by have:=h.old i zY;omega
   have a8:=h.wg;cases a6 with
   |opn h1 h2 h3 =>
    obtain⟨v,hv⟩:∃v,Vc j D+pend tag=v+1:=⟨Vc j D+pend tag-1,by omega⟩;rw[hv] at a8;have aM:WgAt ty Wg W (((v:Nat)+1)*KK+((0:Nat):Int)) 0:=by simpa using a8
    obtain⟨g',zK,_,hq⟩:=hall v 0 (by omega) (by omega) aM;obtain⟨q,hq⟩:=hq (by omega);have hv':Vc j (upd D i ⟨1,0,1⟩)+pend tag=v:=by have:=Vc_upd D (⟨1,0,1⟩:WD) hi;omega
    refine bH h tz aB hi hL hO zG (by omega) zK (.quit hq) (by omega) hold (bh W (stA Wg) _) (a8.setSt _) bk2 aL (by rw[a7];rfl) (λ_ ht _=>X ?_ ht) (by rw[hM];exact .stage (by omega));have e:((v:Nat):Int)*KK+((0:Nat):Int)=((Vc j (upd D i ⟨1,0,1⟩)+pend tag:Nat):Int)*KK:=by rw[hv'];simp
    rw[e];exact .opn h1 (opq h2) (λvs ev=>by have:=h3 vs ev;omega)
   |reg h1 h2 h3 =>
    obtain⟨v,hv⟩:∃v,Vc j D=v+1:=⟨Vc j D-1,by omega⟩;rw[hv] at a8;have aM:WgAt ty Wg W (((v:Nat)+1)*KK+((1:Nat):Int)) 0:=by simpa using a8
    obtain⟨g',zK,hl,hq⟩:=hall v 1 (by omega) (by omega) aM;by_cases hv0:v=0
    .subst hv0;obtain⟨m₂,aF⟩:=hl ⟨rfl,rfl⟩;refine bH h tz aB hi hL hO zG (by omega) zK (.d2 aF) (by omega) hold (bh W (stA Wg) _) (a8.setSt _) bk2 aL (by rw[a7];rfl) (λ_ ht _=>X ?_ ht) (by rw[hM];exact .stage (by omega));have aC:∀a,a<j->a≠i->(D a).stage=1:=λa ha e=>by
      have c0:=others_uncounted hi hv zw a ha e;have:=h2 a ha;simp only[cnt] at c0;split at c0<;>omega
     have:=bn (j:=j) (D:=upd D i ⟨4,0,1⟩) (tag:=tag) i h1 hi (by rw[Y];simp) (λa ha e=>by rw[F D _ e];exact aC a ha e);rw[Y] at this;simpa using this
    .obtain⟨q,hq⟩:=hq (by omega);have hv':Vc j (upd D i ⟨1,0,1⟩)=v:=by have:=Vc_upd D (⟨1,0,1⟩:WD) hi;omega
     refine bH h tz aB hi hL hO zG (by omega) zK (.quit hq) (by omega) hold (bh W (stA Wg) _) (a8.setSt _) bk2 aL (by rw[a7];rfl) (λ_ ht _=>X ?_ ht) (by rw[hM];exact .stage (by omega));have e:((v:Nat):Int)*KK+((1:Nat):Int)=((Vc j (upd D i ⟨1,0,1⟩):Nat):Int)*KK+1:=by rw[hv'];simp
     rw[e];exact .reg h1 (opq h2) (by omega)
   |last Lx _ h2 h3 h4 =>
    by_cases e:i=Lx
    .subst e;omega
    .have:=h4 i hi e;omega
   |sema h2=>have:=h2 i hi;omega
   |fin _ h2=>have:=h2 i hi;omega
  .obtain⟨g',w',es,zK,⟨rfl,rfl⟩,aD⟩:=hstep W (RL.refl W);exact idle hM rfl rfl zK (.d1 aD) (by omega) (by omega) (by omega)
 |d2 hk =>
  obtain aA|⟨m',rfl,hstep⟩:=Goes.cases hk
  .obtain⟨_,hx⟩:=aA W (RL.refl W);obtain⟨hW3,aC,rfl,rfl⟩:=a6.isLast hi (by omega);have a8:=h.wg;simp only[zG] at a8;obtain⟨g',zK,m₂,aF⟩:=hx (by simpa using a8);refine bH h tz aB hi hL hO zG (by omega) zK (.d3 aF) (by omega) (λzY=>by have:=h.old i zY;omega) (.refl Wg W) a8 (by intro e he;simp at he;subst he;exact bs _ _ rfl) (by intro jx e he;rw[a7];match jx,he with|0,_=>exact .inr (by simp[N])|jx+1,he=>simp at he) (by rw[a7];rfl) (λ_ ht _=>X ?_ ht) (by rw[hM];exact .stage (by omega))
   have:=bn (j:=j) (D:=upd D i ⟨3,0,1⟩) (tag:=tag) i hW3 hi (by rw[Y];simp) (λa ha e=>by rw[F D _ e];exact aC a ha e);rw[Y] at this;simpa using this
  .obtain⟨g',w',es,zK,⟨rfl,rfl⟩,aD⟩:=hstep W (RL.refl W);exact idle hM rfl rfl zK (.d2 aD) (by omega) (by omega) (by omega)
 |d3 hk =>
  obtain aA|⟨m',rfl,hstep⟩:=Goes.cases hk
  .obtain⟨_,hx⟩:=aA W (RL.refl W);obtain⟨hW3,aC,rfl,rfl⟩:=a6.isLast hi (by omega);have a8:=h.wg;simp only[zG] at a8;obtain⟨g',zK,m₂,aF⟩:=hx (by simpa using a8);refine bH h tz aB hi hL hO zG (by omega) zK (.d4 aF) (by omega) (λzY=>by have:=h.old i zY;omega) (bh W (stA Wg) _) (a8.setSt 0) (by intro e he;simp at he;subst he;exact bs _ _ rfl) (by intro jx e he;rw[a7];match jx,he with|0,_=>exact .inr (by simp[N])|jx+1,he=>simp at he) (by rw[a7];rfl) (λ_ ht _=>X ?_ ht) (by rw[hM];exact .stage (by omega))
   have:=bn (j:=j) (D:=upd D i ⟨2,0,1⟩) (tag:=tag) i hW3 hi (by rw[Y];simp) (λa ha e=>by rw[F D _ e];exact aC a ha e);rw[Y] at this;simpa using this
  .obtain⟨g',w',es,zK,⟨rfl,rfl⟩,aD⟩:=hstep W (RL.refl W);exact idle hM rfl rfl zK (.d3 aD) (by omega) (by omega) (by omega)
 |d4 hk =>
  obtain aA|⟨m',rfl,hstep⟩:=Goes.cases hk
  .obtain⟨_,hmw,hx⟩:=aA W (RL.refl W);obtain⟨hW3,aC,rfl,rfl⟩:=a6.isLast hi (by omega);have a8:=h.wg;simp only[zG] at a8;obtain⟨g',zK,q,hq⟩:=hx (by simpa using a8);have hrun':g'.status=.running:=by
    cases q with
    |zero=>exact AI hq.2 (by decide)
    |succ q=>exact hq.elim (λx=>AI x.2 (by decide)) (λx=>x.1)
   refine bH h tz aB hi hL hO zG (by omega) zK (es:=bc (smA Wg)) (dd':=1) (.quit hq) (by omega) (λzY=>by have:=h.old i zY;omega) (bh W (smA Wg) _) (a8.setSm 1) ?_ ?_ (by rw[a7];simp[N,bc]) ?_ (by rw[hM];exact .stage (by omega))
   .intro e he;simp[bc] at he;obtain rfl|rfl|rfl|rfl:=he
    .exact .inl rfl
    .exact bs _ _ rfl
    .exact bs _ _ rfl
    .exact .inr (.inl rfl)
   .intro jx e he;rw[a7]
    match jx,he with
    |0,he=>simp[bc] at he;subst he;exact .inl rfl
    |1,_=>exact .inr (by simp[N,bc])
    |2,_=>exact .inr (by simp[N,bc])
    |3,he=>simp[bc] at he;subst he;exact .inl rfl
    |jx+4,he=>simp[bc] at he
   .intro tag' ht hw;have aS:=hw hmw hrun';have e3:tag'=.w3:=by
     obtain rfl|⟨_,rfl⟩:=ht
     .cases tag'<;>first|rfl|exact hW3.elim|exact AI rfl aS
     .rfl
    subst e3;simp only[if_true];exact .sema λa ha=>by
     by_cases e:a=i
     .subst e;rw[Y]
     .rw[F D _ e];exact aC a ha e
  .obtain⟨g',w',es,zK,⟨rfl,rfl⟩,aD⟩:=hstep W (RL.refl W);exact idle hM rfl rfl zK (.d4 aD) (by omega) (by omega) (by omega)
 |quit hk=>exact p6 h tz aB hi hL hO zG a7 hM zA a6 hk
end
open Go.ConcR (KK WgAt stA smA rd wr mk DC0 Bk g_of_ofEvents bk_of_mute ofEvent_loc_mark ofEvent_cell ofEvent_mk)
section
variable (P:ED) (SB BB:A->Bool) (zZ:Bool) (Gn:Nat) (ty Wg:Nat) (zN:Nat->Prop) (Ψ0 Ψ2:J->Prop)
structure Split (x:Lone)(G' child:Z)(W:J)(tp Mw o:Bool)(x' xk:Lone)(OW:Em):Prop where
 gl:Fp P SB BB zZ x' G'
 wl:Gy P SB zZ Gn x' W
 tw:x'.H.EZ=E
 gk:mp P SB BB zZ xk child
 wk:Gy P SB zZ Gn xk W
 twk:xk.H.EZ=E
 bk:OW.le xk.β
 sub:∀b B,x'.β b B->∃b0,x.β b0 B/\(x'.H b=E->x.H b0=E/\(Ro x.w b0->Ro x'.w b))
 N9:∀b B,xk.β b B->(∃b0,x.β b0 B/\(xk.H b=E->x.H b0=E/\(Ro x.w b0->Ro xk.w b)))\/(o=V/\zN B)
 hid:∀b,x'.β b Wg->x'.H b=V
 Rp:∀b,xk.β b Wg->xk.H b=V
 I3:∀b B,x'.β b B->zN B->x'.H b=V
 Rq:o=E->∀b B,xk.β b B->zN B->xk.H b=V
 sep:Sep (SP SB x'.H) x'.β x'.w (SP SB xk.H) xk.β xk.w
 Rs:(o=V->tp=V/\Mw=E)/\(o=E->Mw=tp)
end
section
variable {P:ED} {SB BB:A->Bool} {zZ:Bool} {Gn:Nat} {ty Wg:Nat} {zO zN:Nat->Prop} {Kp:H6} {Ψ0 Ψ2:J->Prop}
 {j0 j:Nat} {gs:Array Z} {W W':J} {t:Trace} {D:Nat->WD} {M:Nat->Wm} {O:Nat->Bool} {L:Nat->Option Lone} {ts ts':TS} {rr:Nat->Nat} {st sm I8 JB:Int} {a a':Z}
def WI.main (h:WI P SB BB zZ Gn ty Wg zO zN Kp Ψ0 Ψ2 j0 j gs W t D M O L ts rr st sm){fn:A}{pos:String}{es:Array bl}{x':Option Lone}
  (a8:WgAt ty Wg W' I8 JB) (zP:Cw P SB zZ Gn Wg zO zN Kp (put L 0 x') ts.own W')
  (aB:TI (MV zO Wg) (NP zN (put L 0 x') ts.tp) (Lm zN (put L 0 x') ts.tp) (j+1) (t++C 0 fn pos es))
  (aC:∀e∈es,∀a,e.loc≠.mark (.release a))
  (aA:∀op∈C 0 fn pos es,op.act.low W'.heap.size) (zx:W.heap.size<=W'.heap.size)
  (a7:(ts=.start->Ψ0 W')/\(ts=.done->Ψ2 W')) :
  WI P SB BB zZ Gn ty Wg zO zN Kp Ψ0 Ψ2 j0 j ((gs.map (woken P.b a a' W')).setIfInBounds 0 a') W' (t++C 0 fn pos es) D M O (put L 0 x') ts rr I8 JB:=by
 have a6:∀op∈C 0 fn pos es,op.g=0:=g_of_ofEvents;refine⟨by simp[h.size],λb hb=>?_,zP,h.tr.app aB a6 (λop hop e=>?_) (λb hb hgb zU=>AI rfl zU),λop hop=>?_,λb hb=>by rw[Deaf_other t (by omega) _ a6,h.deafW b hb],λb h0 hb hs=>(h.rel b h0 hb hs).appOther a6 (by omega),a8,h.Km,h.K8,a7,λb hb=>?_,h.old,h.jj⟩
 .obtain⟨y,hy,hs⟩:=h.wk b hb;refine⟨y,by rw[get_map_set _ _ _ _ (by omega),hy,BW,hs.woken],?_⟩;rw[EC L _ (by omega)];exact hs.rely λ_=>⟨_,_,a8⟩
 .obtain⟨x,hx,rfl⟩:=U hop;exact aC x hx _ (Go.ConcR.loc_of_ofEvent e)
 .obtain hop|hop:=Array.mem_append.1 hop
  .exact MemAct.low_mono zx (h.low op hop)
  .exact aA op hop
 .rw[EC L _ (by omega)];exact h.out b hb
def gO (Wg:Nat)(e:bl):Prop:=Bk Wg e\/∃b:Addr,b.block=Wg/\(e=mk (.read b)\/e=mk (.write b)\/e=mk (.acquire b))
def Nn {e:bl}(h:gO Wg e){x:Touch}(hx:(I e).touch?=R x):(∃a:Addr,x.loc=.cell a/\a.block=Wg)/\x.kind≠.plain:=by
 obtain h|⟨b,hb,rfl|rfl|rfl⟩:=h
 .obtain⟨h1,h2⟩:=LC h hx;exact⟨h1,by rw[h2];simp⟩
 .simp[mk,I,bq] at hx;subst hx;exact⟨⟨b,rfl,hb⟩,by simp⟩
 .simp[mk,I,bq] at hx;subst hx;exact⟨⟨b,rfl,hb⟩,by simp⟩
 .simp[mk,I,bq] at hx
def WI.book0 (h:WI P SB BB zZ Gn ty Wg zO zN Kp Ψ0 Ψ2 j0 j gs W t D M O L ts rr st sm)(tz:ax zN Ψ0)(aA:ax zN Ψ2){fn:A}{pos:String}{es:Array bl}
  (a6:Aside Wg W W') (a8:WgAt ty Wg W' I8 JB) (a7:∀e∈es,gO Wg e) :
  WI P SB BB zZ Gn ty Wg zO zN Kp Ψ0 Ψ2 j0 j ((gs.map (woken P.b a a' W')).setIfInBounds 0 a') W' (t++C 0 fn pos es) D M O L ts rr I8 JB:=by
 have hbl:∀B,zN B->W'.heap[B]?=W.heap[B]?:=λB hB=>a6.block B (h.cw.I4 B hB).1;have hp:put L 0 (L 0)=L:=by
  funext b;unfold put;split
  .rename_i e;rw[e]
  .rfl
 have:=h.main (a:=a) (a':=a') (fn:=fn) (pos:=pos) (es:=es) (x':=L 0) a8 (by rw[hp];exact h.cw.group a6 ⟨_,_,_,a8⟩)
  (by
   rw[hp];refine h.JC (k:=0) (by omega) λop hop=>?_;obtain⟨e,he,rfl⟩:=U hop;refine⟨rfl,λx hx=>?_⟩;obtain⟨⟨b,h1,h2⟩,h3⟩:=Nn (a7 e he) hx
   exact⟨⟨b,h1,.inr h2⟩,h3,λ_=>rfl⟩)
  (λe he b=>by
   obtain h1|⟨b',_,rfl|rfl|rfl⟩:=a7 e he
   .exact mq h1 b
   .simp[Go.ConcR.mk]
   .simp[Go.ConcR.mk]
   .simp[Go.ConcR.mk])
  (λop hop=>by
   obtain⟨e,he,rfl⟩:=U hop;rw[a6.size];obtain h1|⟨b',h2,rfl|rfl|rfl⟩:=a7 e he
   .exact N8 h1 h.cw.low.1
   .show b'.block<_;rw[h2];exact h.cw.low.1
   .show b'.block<_;rw[h2];exact h.cw.low.1
   .show b'.block<_;rw[h2];exact h.cw.low.1)
  (by rw[a6.size];exact AA _) ⟨λe=>tz W W' hbl (h.G6.1 e),λe=>aA W W' hbl (h.G6.2 e)⟩
 rwa [hp] at this
def WI.QF (h:WI P SB BB zZ Gn ty Wg zO zN Kp Ψ0 Ψ2 j0 j gs W t D M O L ts rr st sm)(tz:ax zN Ψ0)(aB:ax zN Ψ2){x:Lone}(hL:L 0=R x){D6:Em}{w':J}{ES:Array bl}(f:Hu P SB zZ Gn x W D6 w' W' ES.toList)(g':Z){fn:A}{pos:String} :
  WI P SB BB zZ Gn ty Wg zO zN Kp Ψ0 Ψ2 j0 j ((gs.map (woken P.b a a' W')).setIfInBounds 0 a') W' (t++C 0 fn pos ES) D M O (put L 0 (R ⟨g',w',x.H,D6,x.T⟩)) ts rr st sm:=by
 have a7:=h.cw.EZ _ x hL;have aA:W'.heap[Wg]?=W.heap[Wg]?:=h.cw.same hL f h.cw.low.1 (h.cw.MW _ x hL);have aC:WgAt ty Wg W' st sm:=by unfold WgAt;rw[aA];exact h.wg
 have hes:ES=ES.toList.toArray:=by simp
 have zm:ts.own≠R 0:=λe=>by
  cases ts with
  |at_ k =>
   obtain⟨i,_,e1,_⟩:=h.K8 k rfl;simp only[TS.own,Option.some.injEq] at e;omega
  |_=>cases e
 have a6:∀B,zN B->W'.heap[B]?=W.heap[B]?:=λB hB=>h.cw.same hL f (h.cw.low.2.2 B hB) λb hb=>h.cw.I3 _ x hL zm b B hb hB;have a8:=cP f a7;rw[<-hes] at a8;exact h.main (a:=a) (a':=a') aC (h.cw.step hL f g') (by rw[hes];exact h.cw.N7 hL f g' Dx (by omega) h.tr.ti h.low) (λe he a=>(a8 e he).2.2 a) (by rw[hes];exact eD f a7) f.SIZE
  ⟨λe=>tz W W' a6 (h.G6.1 e),λe=>aB W W' a6 (h.G6.2 e)⟩
def TS.next (ts:TS)(o:Bool)(j:Nat):TS:=if o then .at_ (j+1) else ts
def WI.spawn (h:WI P SB BB zZ Gn ty Wg zO zN Kp Ψ0 Ψ2 j0 j gs W t D M O L ts rr st sm){x x' xk:Lone}(hL:L 0=R x){child:Z}{Mw o:Bool}{OW:Em}(s:Split P SB BB zZ Gn Wg zN x a' child W ts.tp Mw o x' xk OW)
  {Q:Z->J->Prop} (hQ:cQ P SB BB zZ Gn ty Wg Ψ2 Q xk.H xk.T OW o) (aD:(∀g w,Q g w->BB g.frame.fn=E)) (hr:EO P.a BB Q 0 xk.g xk.w) (KC:Deaf t 0=0) {p q:MemOp} (hp:p.g=0/\p.act=.go (j+1)) (hq:q.g=j+1/\q.act=.start) :
  WI P SB BB zZ Gn ty Wg zO zN Kp Ψ0 Ψ2 j0 (j+1) ((gs.setIfInBounds 0 a').push child) W (t++#[p,q]) (upd D j ⟨7,0,0⟩) (upd M j (.born Q (xk.g,xk.w))) (upd O j o) (put (put L 0 (R x')) (j+1) (R xk)) (ts.next o j) rr st sm/\(ts.next o j).tp=Mw:=by
 have a8:(o=V->ts=.start):=λho=>by
  have:=(s.Rs.1 ho).1;cases ts<;>first|rfl|cases this
 have aF:(ts.next o j).tp=Mw:=by
  cases o with
  |true=>exact((s.Rs.1 rfl).2).symm
  |false=>exact(s.Rs.2 rfl).symm
 refine⟨?_,aF⟩;have zK:∀op∈#[p,q],op=p\/op=q:=by intro op hop;simpa using hop
 have aA:∀op∈#[p,q],op.act≠.mark .disable/\op.act≠.mark .enable:=by
  intro op hop;obtain rfl|rfl:=zK op hop
  .rw[hp.2];exact⟨by simp,by simp⟩
  .rw[hq.2];exact⟨by simp,by simp⟩
 have a6:∀ {b y},put (put L 0 (R x')) (j+1) (R xk) b=R y->(b=j+1/\y=xk)\/(b=0/\y=x')\/(b≠0/\b≠j+1/\L b=R y):=by
  intro b y e;by_cases h1:b=j+1
  .subst h1;rw[Ex] at e;cases e;exact .inl ⟨rfl,rfl⟩
  .rw[EC _ _ h1] at e;by_cases h2:b=0
   .subst h2;rw[Ex] at e;cases e;exact .inr (.inl ⟨rfl,rfl⟩)
   .rw[EC _ _ h2] at e;exact .inr (.inr ⟨h2,h1,e⟩)
 have a7:∀b y,b≠0->L b=R y->Sep (SP SB x'.H) x'.β x'.w (SP SB y.H) y.β y.w/\Sep (SP SB xk.H) xk.β xk.w (SP SB y.H) y.β y.w:=by
  intro b y hb hy;have sp:=h.cw.sep 0 b x y (Ne.symm hb) hL hy;refine⟨λc c' B h1 h2=>?_,λc c' B h1 h2=>?_⟩
  .obtain⟨b0,k1,k2⟩:=s.sub c B h1;cases hh:x'.H c with
   |true=>exact .inl rfl
   |false =>
    obtain⟨k3,k4⟩:=k2 hh;obtain e|e|⟨e1,e2⟩:=sp b0 c' B k1 h2
    .have e':x.H b0=true:=e;rw[k3] at e';cases e'
    .exact .inr (.inl e)
    .exact .inr (.inr ⟨k4 e1,e2⟩)
  .cases hh:xk.H c with
   |true=>exact .inl rfl
   |false =>
    obtain⟨b0,k1,k2⟩|⟨ho,hB⟩:=s.N9 c B h1
    .obtain⟨k3,k4⟩:=k2 hh;obtain e|e|⟨e1,e2⟩:=sp b0 c' B k1 h2
     .have e':x.H b0=true:=e;rw[k3] at e';cases e'
     .exact .inr (.inl e)
     .exact .inr (.inr ⟨k4 e1,e2⟩)
    .exact .inr (.inl (h.cw.I3 b y hy (by rw[a8 ho];simp[TS.own]) c' B h2 hB))
 have aC:∀b B,x'.β b B->∃b0,x.β b0 B:=λb B hb=>let ⟨b0,k1,_⟩:=s.sub b B hb;⟨b0,k1⟩;have cw':Cw P SB zZ Gn Wg zO zN Kp (put (put L 0 (R x')) (j+1) (R xk)) (ts.next o j).own W:=by
  refine⟨λb y hy=>?_,λb y hy=>?_,λb y hy=>?_,λb y hy c B hc=>?_,λb y hy ho c B hc hB=>?_,λb c y z zU hy hz=>?_,h.cw.low,h.cw.I4,h.cw.keep,λb y hy c B hc hB=>?_,h.cw.Lz,h.cw.N0⟩
  .obtain⟨_,rfl⟩|⟨_,rfl⟩|⟨_,_,e⟩:=a6 hy
   .exact s.wk
   .exact s.wl
   .exact h.cw.like b y e
  .obtain⟨_,rfl⟩|⟨_,rfl⟩|⟨_,_,e⟩:=a6 hy
   .exact s.twk
   .exact s.tw
   .exact h.cw.EZ b y e
  .obtain⟨_,rfl⟩|⟨_,rfl⟩|⟨_,_,e⟩:=a6 hy
   .exact s.Rp
   .exact s.hid
   .exact h.cw.MW b y e
  .obtain⟨_,rfl⟩|⟨_,rfl⟩|⟨_,_,e⟩:=a6 hy
   .obtain⟨b0,k1,_⟩|⟨_,hB⟩:=s.N9 c B hc
    .exact h.cw.dead 0 x hL b0 B k1
    .exact(h.cw.I4 B hB).2
   .obtain⟨b0,k1⟩:=aC c B hc;exact h.cw.dead 0 x hL b0 B k1
   .exact h.cw.dead b y e c B hc
  .obtain⟨rfl,rfl⟩|⟨rfl,rfl⟩|⟨h0,h1,e⟩:=a6 hy
   .have : o = false := by
     cases o with
     |false=>rfl
     |true=>exact AI rfl ho
    exact s.Rq this c B hc hB
   .exact s.I3 c B hc hB
   .refine h.cw.I3 b y e (λe'=>ho ?_) c B hc hB;cases o with
    |false=>exact e'
    |true=>rw[a8 rfl] at e';cases e'
  .rcases a6 hy with⟨rfl,rfl⟩|⟨rfl,rfl⟩|⟨h0,h1,e⟩<;>obtain⟨rfl,rfl⟩|⟨rfl,rfl⟩|⟨k0,k1,e'⟩:=a6 hz
   .exact AI rfl zU
   .exact s.sep.symm
   .exact(a7 c z k0 e').2
   .exact s.sep
   .exact AI rfl zU
   .exact(a7 c z k0 e').1
   .exact(a7 b y h0 e).2.symm
   .exact(a7 b y h0 e).1.symm
   .exact h.cw.sep b c y z zU e e'
  .obtain⟨_,rfl⟩|⟨_,rfl⟩|⟨_,_,e⟩:=a6 hy
   .cases hh:y.H c with
    |true=>exact .inl rfl
    |false =>
     obtain⟨b0,k1,k2⟩|⟨ho,hT⟩:=s.N9 c B hc
     .obtain⟨k3,k4⟩:=k2 hh;obtain e|e:=h.cw.FI 0 x hL b0 B k1 hB
      .rw[k3] at e;cases e
      .exact .inr (k4 e)
     .exact AI hB (h.cw.Lz B hT)
   .cases hh:y.H c with
    |true=>exact .inl rfl
    |false =>
     obtain⟨b0,k1,k2⟩:=s.sub c B hc;obtain⟨k3,k4⟩:=k2 hh;obtain e|e:=h.cw.FI 0 x hL b0 B k1 hB
     .rw[k3] at e;cases e
     .exact .inr (k4 e)
   .exact h.cw.FI b y e c B hc hB
 have wrx:∀l,O1 x' l->O1 x l:=by
  rintro l ⟨b,B,h1,h2,h3,h4⟩;obtain⟨b0,k1,k2⟩:=s.sub b B h1;obtain⟨k3,k4⟩:=k2 h2;exact⟨b0,B,k1,k3,λhr=>h3 (k4 hr),h4⟩
 have aG:∀l,O3 x' l->O3 x l:=by
  rintro l ⟨b,B,h1,h2,h4⟩;obtain⟨b0,k1,k2⟩:=s.sub b B h1;exact⟨b0,B,k1,(k2 h2).1,h4⟩
 have tpx:(ts.next o j).tp=V->ts.tp=true:=λe=>by
  cases o with
  |true=>cases e
  |false=>exact e
 refine⟨by simp[h.size],λb hb=>?_,cw',?_,λop hop=>?_,λb hb=>?_,λb h0 hb hs=>?_,h.wg,λb hb ho=>?_,λk hk=>?_,⟨λe=>?_,λe=>?_⟩,λb hb=>?_,λb hb=>?_,CZ h.jj⟩
 .obtain zY|aB:=Br b j
  .obtain⟨y,hy,hs⟩:=h.wk b zY;refine⟨y,?_,?_⟩
   .rw[Array.getElem?_push_lt (by simp[h.size];omega),<-AK,Bn (by omega)];exact hy
   .rw[F D _ (by omega),F M _ (by omega),F O _ (by omega),EC _ _ (by omega),EC _ _ (by omega)];exact hs
  .obtain rfl:b=j:=by omega
   refine⟨child,?_,?_⟩
   .rw[show b+1=(gs.setIfInBounds 0 a').size by simp[h.size],Array.getElem?_push_size]
   .rw[Y,Y,Y,Ex];exact .born s.bk hQ aD hr s.gk
 .have t1:=h.tr.fork (Wr':=NP zN (put (put L 0 (R x')) (j+1) (R xk)) (ts.next o j).tp) (Rd':=Lm zN (put (put L 0 (R x')) (j+1) (R xk)) (ts.next o j).tp) (by omega) hp hq KC (λb hb l=>?_) (λl=>?_)
  .refine t1.PG λk i _ aH=>?_;obtain⟨c,e1,e2,e3,e4⟩:=aH;exact⟨c,e1,e2,by omega,by rw[F D _ (by omega)];exact e4⟩
  .constructor
   .rintro(⟨y,hy,hw⟩|⟨h1,h2,h3⟩)
    .obtain⟨e,_⟩|⟨rfl,rfl⟩|⟨_,_,e⟩:=a6 hy
     .omega
     .exact .inl ⟨x,hL,wrx l hw⟩
     .exact .inl ⟨y,e,hw⟩
    .exact .inr ⟨h1,tpx h2,h3⟩
   .rintro(⟨y,hy,hw⟩|⟨h1,h2,h3⟩)
    .obtain⟨e,_⟩|⟨rfl,rfl⟩|⟨_,_,e⟩:=a6 hy
     .omega
     .exact .inl ⟨x,hL,aG l hw⟩
     .exact .inl ⟨y,e,hw⟩
    .exact .inr ⟨h1,tpx h2,h3⟩
  .constructor
   .rintro(⟨y,hy,b,B,h1,h2,h3,h4⟩|⟨h1,_⟩)
    .rw[Ex] at hy;cases hy;obtain⟨b0,k1,k2⟩|⟨ho,hB⟩:=s.N9 b B h1
     .obtain⟨k3,k4⟩:=k2 h2;exact .inl ⟨x,hL,b0,B,k1,k3,λhr=>h3 (k4 hr),h4⟩
     .exact .inr ⟨rfl,by rw[a8 ho];rfl,B,hB,h4⟩
    .omega
   .rintro(⟨y,hy,b,B,h1,h2,h4⟩|⟨h1,_⟩)
    .rw[Ex] at hy;cases hy;obtain⟨b0,k1,k2⟩|⟨ho,hB⟩:=s.N9 b B h1
     .exact .inl ⟨x,hL,b0,B,k1,(k2 h2).1,h4⟩
     .exact .inr ⟨rfl,by rw[a8 ho];rfl,B,hB,h4⟩
    .omega
 .obtain hop|hop:=Array.mem_append.1 hop
  .exact h.low op hop
  .obtain rfl|rfl:=zK op hop
   .rw[hp.2];trivial
   .rw[hq.2];trivial
 .rw[Deaf_still t _ _ aA];obtain zY|aB:=Br b j
  .rw[h.deafW b zY,F D _ (by omega)]
  .obtain rfl:b=j:=by omega
   rw[Y];exact Deaf_absent λc op hc e=>by have:=h.tr.ti.gs c op hc;omega
 .obtain zY|aB:=Br b j
  .rw[F D _ (by omega)] at hs;refine(h.rel b h0 zY hs).appNot λop hop=>?_;obtain rfl|rfl:=zK op hop
   .rw[hp.1];omega
   .rw[hq.1];omega
  .obtain rfl:b=j:=by omega
   rw[Y] at hs;simp at hs
 .obtain zY|aB:=Br b j
  .rw[F O _ (by omega)] at ho;have e:=h.Km b zY ho;cases o with
   |false=>exact e
   |true=>rw[a8 rfl] at e;cases e
  .obtain rfl:b=j:=by omega
   rw[Y] at ho;subst ho;rfl
 .cases o with
  |true =>
   cases hk
   exact⟨j,by omega,rfl,by rw[Y]⟩
  |false =>
   obtain⟨b,hb,e1,e2⟩:=h.K8 k hk;exact⟨b,by omega,e1,by rw[F O _ (by omega)];exact e2⟩
 .cases o with
  |true=>cases e
  |false=>exact h.G6.1 e
 .cases o with
  |true=>cases e
  |false=>exact h.G6.2 e
 .rw[EC _ _ (by omega),EC _ _ (by omega)];exact h.out b (by omega)
 .have:=h.jj;rw[F D _ (by omega)];exact h.old b hb
end
open Go.ConcR (KK WgAt stA smA rd wr mk DC0 Bk g_of_ofEvents bk_of_mute ofEvent_loc_mark ofEvent_cell ofEvent_mk)
section
variable (P:ED) (SB BB:A->Bool) (zZ:Bool) (Gn:Nat) (ty Wg:Nat) (zN:Nat->Prop) (Ψ0 Ψ2:J->Prop) (fA fW:A) (wl:Nat) (Pr:Em) (T:List br) (Fn:Bool->Hid->Z->J->Prop)
def Jp (wl:Nat):Value:=.pointer (R ⟨wl,0,bo⟩)
def ca (f:A)(args:Array Value)(fr:br)(cs:List br):Goroutine:=EX (Frame.enter P.a f args .normal) (fr::cs)
def back (fr:br)(cs:List br):Goroutine:=EX (fr.finish (.tuple #[])) cs
def ff (fr:br):Prop:=fr.mode=.run/\fr.roundOf=bo/\∃ops i rest k,fr.todo=.inRegion ops (i::rest)::k
def im (tp:Bool)(H:Hid)(g:Z)(w:J):Prop:=∃fr cs,g=ca P fW #[Jp wl] fr cs/\ff fr/\Fn tp H (back fr cs) w
def AtGo (S:Bool->Hid->Z->J->Prop)(tp:Bool)(H:Hid)(g:Z)(w:J):Prop :=
 ∀(x:Lone) (G:Z) (W:J),x.g=g->Et w x.w->x.H=H->x.T=T->Pr.le x.β->Fp P SB BB zZ x G->Gy P SB zZ Gn x W->(tp=V->Ψ0 W)->(∀b B,x.β b B->zN B->x.H b=V)->(∀b,x.β b Wg->x.H b=V)->x.H.EZ=E ->
  ∃(G' child:Z) (x' xk:Lone) (Mw o:Bool) (OW:Em) (Q:Z->J->Prop),bw P.b V G W=.spawn G' child W #[]/\Split P SB BB zZ Gn Wg zN x G' child W tp Mw o x' xk OW/\x'.T=T/\Pr.le x'.β /\
   S Mw x'.H x'.g x'.w/\cQ P SB BB zZ Gn ty Wg Ψ2 Q xk.H xk.T OW o/\(∀g w,Q g w->BB g.frame.fn=E)/\EO P.a BB Q 0 xk.g xk.w
def J1:Nat->Bool->Hid->Z->J->Prop
 |0,tp,H=>im P fW wl Fn tp H
 | k + 1, tp, H => fun g w => im P fW wl Fn tp H g w ∨ ∃ fr cs, g = ca P fA #[Jp wl, .int .i64 1] fr cs ∧ ff fr ∧
   Ee P.a (Fa P.a BB) (AtGo P SB BB zZ Gn ty Wg zN Ψ0 Ψ2 Pr T (λtp H=>Ee P.a (Fa P.a BB) (J1 k tp H)) tp H) (back fr cs) w
abbrev QG (k:Nat):Bool->Hid->Z->J->Prop:=AtGo P SB BB zZ Gn ty Wg zN Ψ0 Ψ2 Pr T (λtp H=>Ee P.a (Fa P.a BB) (J1 P SB BB zZ Gn ty Wg zN Ψ0 Ψ2 fA fW wl Pr T Fn k tp H))
abbrev PL (k:Nat)(tp:Bool)(H:Hid):Z->J->Prop:=Ee P.a (Fa P.a BB) (J1 P SB BB zZ Gn ty Wg zN Ψ0 Ψ2 fA fW wl Pr T Fn k tp H)
structure Rest (k:Nat)(x:Lone)(tp:Bool)(gR:Z):Prop where
 run:Ee P.a (Fa P.a BB) (QG P SB BB zZ Gn ty Wg zN Ψ0 Ψ2 fA fW wl Pr T Fn k tp x.H) x.g x.w
 wl:Pr.le x.β
 t:x.T=T
 gl:Fp P SB BB zZ x gR
structure JD (x:Lone)(tp:Bool)(gR:Z):Prop where
 fin:Fn tp x.H x.g x.w
 wl:Pr.le x.β
 t:x.T=T
 gl:Fp P SB BB zZ x gR
def io (G3:Z->J->Prop)(gR:Z):Prop:=∀g w,G3 g w->g.status=.running/\∃m,GW P.b ty Wg V (W1 P.b ty Wg G3 (λg _=>g=gR)) m g w
abbrev Pre:=Nat×Nat×Wm
inductive F9:CTag->Nat->Pre->(Nat->Nat)->Nat->Lone->Bool->Z->J->Prop
 | free {k : Nat} {x : Lone} {tp : Bool} {G : Z} {W : J} : PL P SB BB zZ Gn ty Wg zN Ψ0 Ψ2 fA fW wl Pr T Fn k tp x.H x.g x.w -> Pr.le x.β -> x.T = T -> Fp P SB BB zZ x G ->
   F9 (.sp 0 5) 0 (k,9,.tree (J1 P SB BB zZ Gn ty Wg zN Ψ0 Ψ2 fA fW wl Pr T Fn k tp x.H) (x.g,x.w)) (λ_=>0) 0 x tp G W
 |Qg {k m:Nat} {x:Lone} {tp:Bool} {gR G:Z} {W:J}:GW P.b ty Wg V (Rk P.b ty Wg (λg _=>g=gR)) m G W->Rest P SB BB zZ Gn ty Wg zN Ψ0 Ψ2 fA fW wl Pr T Fn k x tp gR->F9 (.sp 0 5) 0 (k+1,8,.st 0 m) (λ_=>0) 0 x tp G W
 |Qh {k m:Nat} {x:Lone} {tp:Bool} {gR G:Z} {W:J}:GW P.b ty Wg V (AA1 P.b ty Wg (λg _=>g=gR)) m G W->Rest P SB BB zZ Gn ty Wg zN Ψ0 Ψ2 fA fW wl Pr T Fn k x tp gR->F9 (.sp 0 4) 1 (k+1,7,.st 0 m) (λ_=>0) 0 x tp G W
 |arr {k m:Nat} {x:Lone} {tp:Bool} {gR G:Z} {W:J}:GW P.b ty Wg V (ARr P.b ty Wg (λg _=>g=gR)) m G W->Rest P SB BB zZ Gn ty Wg zN Ψ0 Ψ2 fA fW wl Pr T Fn k x tp gR->F9 (.sp 0 3) 1 (k+1,6,.st 0 m) (λ_=>0) 0 x tp G W
 |PM {k m:Nat} {x:Lone} {tp:Bool} {gR G:Z} {W:J}:GW P.b ty Wg V (Rj P.b ty Wg (λg _=>g=gR)) m G W->Rest P SB BB zZ Gn ty Wg zN Ψ0 Ψ2 fA fW wl Pr T Fn k x tp gR->F9 (.sp 0 3) 1 (k+1,5,.st 0 m) (λ_=>0) 0 x tp G W
 |Kn {k m:Nat} {x:Lone} {tp:Bool} {gR G:Z} {W:J}:GW P.b ty Wg V (λg _=>g=gR) m G W->Rest P SB BB zZ Gn ty Wg zN Ψ0 Ψ2 fA fW wl Pr T Fn k x tp gR->F9 (.sp 0 2) 0 (k+1,4,.st 0 m) (λ_=>0) 0 x tp G W
 |mid {k:Nat} {x:Lone} {tp:Bool} {G:Z} {W:J}:Rest P SB BB zZ Gn ty Wg zN Ψ0 Ψ2 fA fW wl Pr T Fn k x tp G->F9 (.sp 0 2) 0 (k+1,3,.tree (QG P SB BB zZ Gn ty Wg zN Ψ0 Ψ2 fA fW wl Pr T Fn k tp x.H) (x.g,x.w)) (λ_=>0) 0 x tp G W
 |Qi {k m:Nat} {x:Lone} {tp:Bool} {gR G:Z} {G3:Z->J->Prop} {W:J}:GW P.b ty Wg V (Rm P.b ty Wg G3) m G W->JD P SB BB zZ Pr T Fn x tp gR->io P ty Wg G3 gR->F9 .kd 0 (k,2,.st 0 0) (λv=>16*v+14) m x tp G W
 |anch {k m:Nat} {x:Lone} {tp:Bool} {gR G:Z} {G3:Z->J->Prop} {W:J}:GW P.b ty Wg V G3 m G W->JD P SB BB zZ Pr T Fn x tp gR->io P ty Wg G3 gR->F9 .anch 1 (k,2,.st 0 0) (λv=>16*v+12) m x tp G W
 |w1 {k m:Nat} {x:Lone} {tp:Bool} {gR G:Z} {G3:Z->J->Prop} {W:J}:GW P.b ty Wg V (W1 P.b ty Wg G3 (λg _=>g=gR)) m G W->JD P SB BB zZ Pr T Fn x tp gR->io P ty Wg G3 gR->F9 .w1 1 (k,2,.st 0 0) (λv=>16*v+10) m x tp G W
 |w2 {k vs m:Nat} {x:Lone} {tp:Bool} {gR G:Z} {G3:Z->J->Prop} {W:J}:GW P.b ty Wg V (W2 P.b ty Wg G3 (λg _=>g=gR) vs) m G W->JD P SB BB zZ Pr T Fn x tp gR->io P ty Wg G3 gR->F9 (.w2 vs) 1 (k,2,.st 0 0) (λ_=>16*vs+8) m x tp G W
 |Qj {k m:Nat} {x:Lone} {tp:Bool} {gR G:Z} {W:J}:GW P.b ty Wg V (WRw P.b ty Wg (λg _=>g=gR)) m G W->JD P SB BB zZ Pr T Fn x tp gR->F9 .w3 1 (k,2,.st 0 0) (λ_=>7) m x tp G W
 |w3 {k m:Nat} {x:Lone} {tp:Bool} {gR G:Z} {W:J}:GW P.b ty Wg V (W3 P.b ty Wg (λg _=>g=gR)) m G W->JD P SB BB zZ Pr T Fn x tp gR->F9 .w3 1 (k,2,.st 0 0) (λ_=>6) (m+1) x tp G W
 |blk {k:Nat} {x:Lone} {tp:Bool} {gR G:Z} {W:J}:(∀w₁,RL ty Wg W w₁->W3 P.b ty Wg (λg _=>g=gR) G w₁)->JD P SB BB zZ Pr T Fn x tp gR->F9 .blk 1 (k,2,.st 0 0) (λ_=>6) 0 x tp { G with status:=.blocked } W
 |w4 {k m:Nat} {x:Lone} {tp:Bool} {gR G:Z} {W:J}:GW P.b ty Wg V (W4 P.b ty Wg (λg _=>g=gR)) m G W->JD P SB BB zZ Pr T Fn x tp gR->F9 .w4 1 (k,2,.st 0 0) (λ_=>5) m x tp G W
 |Pj {k m:Nat} {x:Lone} {tp:Bool} {gR G:Z} {W:J}:GW P.b ty Wg V (Rl P.b ty Wg (λg _=>g=gR)) m G W->JD P SB BB zZ Pr T Fn x tp gR->F9 .ke 1 (k,2,.st 0 0) (λ_=>4) m x tp G W
 |Np {k m:Nat} {x:Lone} {tp:Bool} {gR G:Z} {W:J}:GW P.b ty Wg V (QC P.b ty Wg (λg _=>g=gR)) m G W->JD P SB BB zZ Pr T Fn x tp gR->F9 .acq 0 (k,2,.st 0 0) (λ_=>3) m x tp G W
 |fin {k m:Nat} {x:Lone} {tp:Bool} {gR G:Z} {W:J}:GW P.b ty Wg V (λg _=>g=gR) m G W->JD P SB BB zZ Pr T Fn x tp gR->F9 .ret 0 (k,2,.st 0 0) (λ_=>2) m x tp G W
end
section
variable {P:ED} {SB BB:A->Bool} {zZ:Bool} {Gn:Nat} {ty Wg:Nat} {zN:Nat->Prop} {Ψ0 Ψ2:J->Prop} {fA fW:A} {wl:Nat} {Pr:Em} {T:List br} {Fn:Bool->Hid->Z->J->Prop}
 {tag:CTag} {d0:Nat} {pre:Pre} {rk:Nat->Nat} {fu:Nat} {x:Lone} {tp:Bool} {G:Z} {W W':J}
def F9.rely (h:F9 P SB BB zZ Gn ty Wg zN Ψ0 Ψ2 fA fW wl Pr T Fn tag d0 pre rk fu x tp G W)(r:RL ty Wg W W'):F9 P SB BB zZ Gn ty Wg zN Ψ0 Ψ2 fA fW wl Pr T Fn tag d0 pre rk fu x tp G W':=by
 cases h with
 |free a b c d=>exact .free a b c d
 |Qg a b=>exact .Qg (Goes.rely RL.trans a r) b
 |Qh a b=>exact .Qh (Goes.rely RL.trans a r) b
 |arr a b=>exact .arr (Goes.rely RL.trans a r) b
 |PM a b=>exact .PM (Goes.rely RL.trans a r) b
 |Kn a b=>exact .Kn (Goes.rely RL.trans a r) b
 |mid a=>exact .mid a
 |Qi a b c=>exact .Qi (Goes.rely RL.trans a r) b c
 |anch a b c=>exact .anch (Goes.rely RL.trans a r) b c
 |w1 a b c=>exact .w1 (Goes.rely RL.trans a r) b c
 |w2 a b c=>exact .w2 (Goes.rely RL.trans a r) b c
 |Qj a b=>exact .Qj (Goes.rely RL.trans a r) b
 |w3 a b=>exact .w3 (Goes.rely RL.trans a r) b
 |blk a b=>exact .blk (λw₂ h₂=>a w₂ (RL.trans _ _ _ r h₂)) b
 |w4 a b=>exact .w4 (Goes.rely RL.trans a r) b
 |Pj a b=>exact .Pj (Goes.rely RL.trans a r) b
 |Np a b=>exact .Np (Goes.rely RL.trans a r) b
 |fin a b=>exact .fin (Goes.rely RL.trans a r) b
def Pm {gR:Z}(h:gR.status=.running):∀(g:Z) (_:J),g=gR->g.status=.running:=λg _ e=>e▸h
def F9.status (h:F9 P SB BB zZ Gn ty Wg zN Ψ0 Ψ2 fA fW wl Pr T Fn tag d0 pre rk fu x tp G W):(G.status=.running/\tag≠.blk)\/(G.status=.blocked/\tag=.blk):=by
 cases h with
 |free _ _ _ d=>exact .inl ⟨d.status.2,by simp⟩
 |Qg a _=>exact .inl ⟨Goes.running (λ_ _ x=>x.1) W (RL.refl W) a,by simp⟩
 |Qh a _=>exact .inl ⟨Goes.running (λ_ _ x=>x.1) W (RL.refl W) a,by simp⟩
 |arr a _=>exact .inl ⟨Goes.running (λ_ _ x=>x.1) W (RL.refl W) a,by simp⟩
 |PM a _=>exact .inl ⟨Goes.running (λ_ _ x=>x.1) W (RL.refl W) a,by simp⟩
 |Kn a b=>exact .inl ⟨Goes.running (Pm b.gl.status.2) W (RL.refl W) a,by simp⟩
 |mid a=>exact .inl ⟨a.gl.status.2,by simp⟩
 |Qi a _ _=>exact .inl ⟨Goes.running (λ_ _ x=>x.1) W (RL.refl W) a,by simp⟩
 |anch a _ c=>exact .inl ⟨Goes.running (λg w x=>(c g w x).1) W (RL.refl W) a,by simp⟩
 |w1 a _ _=>exact .inl ⟨Goes.running (λ_ _ x=>x.1) W (RL.refl W) a,by simp⟩
 |w2 a _ _=>exact .inl ⟨Goes.running (λ_ _ x=>x.1) W (RL.refl W) a,by simp⟩
 |Qj a _=>exact .inl ⟨Goes.running (λ_ _ x=>x.1) W (RL.refl W) a,by simp⟩
 |w3 a _=>exact .inl ⟨Goes.running (λ_ _ x=>x.1) W (RL.refl W) a,by simp⟩
 |blk _ _=>exact .inr ⟨rfl,rfl⟩
 |w4 a _=>exact .inl ⟨Goes.running (λ_ _ x=>x.1) W (RL.refl W) a,by simp⟩
 |Pj a _=>exact .inl ⟨Goes.running (λ_ _ x=>x.1) W (RL.refl W) a,by simp⟩
 |Np a _=>exact .inl ⟨Goes.running (λ_ _ x=>x.1) W (RL.refl W) a,by simp⟩
 |fin a b=>exact .inl ⟨Goes.running (Pm b.gl.status.2) W (RL.refl W) a,by simp⟩
def F9.wokenBy (h:F9 P SB BB zZ Gn ty Wg zN Ψ0 Ψ2 fA fW wl Pr T Fn tag d0 pre rk fu x tp G W)(r:RL ty Wg W W')(g g':Z) :
  ∃tag' Mx My,F9 P SB BB zZ Gn ty Wg zN Ψ0 Ψ2 fA fW wl Pr T Fn tag' d0 pre Mx My x tp (woken P.b g g' W' G) W'/\(tag'=tag\/(tag=.blk/\tag'=.w3))/\(mayWake P.b g=V->g'.status=.running->tag'≠.blk):=by
 have h':=h.rely r;unfold Go.Conc.woken;split
 .obtain⟨hs,zU⟩|⟨_,rfl⟩:=h'.status
  .exact⟨tag,rk,fu,by rw[again_running _ (.inl hs)];exact h',.inl rfl,λ_ _=>zU⟩
  .cases h' with
   |blk hb hf =>
    have h3:=hb W' (RL.refl W');exact⟨.w3,λ_=>6,0+1,by rw[Go.ConcR.again_blocked h3.1 h3.2.1];exact .w3 (Goes.stop hb) hf,.inr ⟨rfl,rfl⟩,λ_ _=>by simp⟩
 .rename_i hc;exact⟨tag,rk,fu,h',.inl rfl,λh1 h2=>AI (by simp[h1,h2]) hc⟩
end
end Go.Co
