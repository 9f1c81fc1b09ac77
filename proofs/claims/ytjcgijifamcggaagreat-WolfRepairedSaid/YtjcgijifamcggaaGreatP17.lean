/- Parts of the proof. -/
import Derived.Test.YtjcgijifamcggaaGreatP12
import Derived.Test.YtjcgijifamcggaaGreatP06
import Derived.Test.YtjcgijifamcggaaGreatP00
import Derived.Test.YtjcgijifamcggaaGreatP16
import Derived.Test.YtjcgijifamcggaaGreatP13
import Derived.Test.YtjcgijifamcggaaGreatP02
import Derived.Test.YtjcgijifamcggaaGreatP08
set_option linter.all false
set_option maxHeartbeats 8000000
set_option maxRecDepth 20000
namespace Go.Co
open Go.Bl Go.Conc Go.ConcN
structure E9 (Shun:Loc->Prop)(B d:Nat)(t:Trace):Prop where
 calm:∀said,¬Race said t
 knows:∀i x,touchAt t i=some x->x.loc.isMemory=true->Knows t 0 i\/(Shun x.loc/\x.kind=.atomic)
 handed:t.HandedOver
 deaf:Deaf t 0=d
 below:∀op∈t,op.act.low B
section
variable {Shun:Loc->Prop} {B B' d d':Nat} {t u:Trace}
def E9.of (h:Past Shun B t):E9 Shun B 0 t:=⟨h.clean,h.known,h.over,h.hears,h.seen⟩
def E9.past (h:E9 Shun B 0 t):Past Shun B t:=⟨h.calm,h.knows,h.handed,h.deaf,h.below⟩
def E9.mono (h:E9 Shun B d t)(hB:B<=B'):E9 Shun B' d t:=⟨h.calm,h.knows,h.handed,h.deaf,λop hop=>MemAct.low_mono hB (h.below op hop)⟩
def Nr {t u:Trace}(ht:∀op∈t,op.act.low B)(hu:∀op∈u,op.act.low B):∀op∈t++u,op.act.low B:=λop hop=>(Array.mem_append.1 hop).elim (ht op) (hu op)
def E9.own (h:E9 Shun B d t){fn:FuncId}{pos:String}{es:Array Event}(hes:∀e∈es,(∀x,(MemAct.ofEvent e).touch?=some x->Shun x.loc->x.kind≠.plain)/\(MemAct.ofEvent e).low B)(hd:deafBehind d es=d'):E9 Shun B d' (t++MemOp.ofEvents 0 fn pos es):=by
 have hg:∀op∈MemOp.ofEvents 0 fn pos es,op.g=0:=λop hop=>by obtain⟨e,_,rfl⟩:=Go.Conc.mem_ofEvents hop;rfl
 refine⟨λsaid=>noRace_append (h.calm said) hg λi x hx op hop y hy hc=>?_,λi x hx hm=>?_,handedOver_app h.handed λop hop=>.inl (hg op hop),by rw[Deaf_own,h.deaf];exact hd,Nr h.below λop hop=>by obtain⟨e,he,rfl⟩:=Go.Conc.mem_ofEvents hop;exact(hes e he).2⟩
 .obtain⟨e,he,rfl⟩:=Go.Conc.mem_ofEvents hop;rcases h.knows i x hx hc.2.1 with hk|⟨s1,s2⟩
  .exact hk
  .exfalso;have np:=(hes e he).1 y hy (hc.1▸s1);obtain⟨_,_,_,M5⟩:=hc;rw[s2] at M5;rcases M5 with z|z|⟨_,z,_⟩
   .cases z
   .exact np z
   .cases z
 .obtain⟨z,hz,Td⟩:=touch_of hx;rcases getElem?_append_cases hz with⟨_,hz'⟩|⟨_,ZA⟩
  .exact(h.knows i x (by rw[touchAt_of hz'];exact Td) hm).imp (·.app _) id
  .have:=knows_own hz;rw[hg z ZA] at this;exact .inl this
def E9.mute (h:E9 Shun B d t){g:Nat}(hg:g≠0){fn:FuncId}{pos:String}{es:Array Event}(hm:∀e∈es,e.mute=true):E9 Shun B d (t++MemOp.ofEvents g fn pos es):=by
 have hu:∀op∈MemOp.ofEvents g fn pos es,op.g=g/\op.act.touch?=none/\op.act.low B:=λop hop=>by
  obtain⟨e,he,rfl⟩:=Go.Conc.mem_ofEvents hop;exact⟨rfl,touch_mute (hm e he),low_mute (hm e he) B⟩
 refine⟨λsaid=>noRace_append (h.calm said) (λop hop=>(hu op hop).1) λi x _ op hop y hy _=>(by rw[(hu op hop).2.1] at hy;cases hy),λi x hx hmm=>?_,handedOver_app h.handed λop hop=>.inr (hu op hop).2.1,(Deaf_other t hg _ λop hop=>(hu op hop).1).trans h.deaf,Nr h.below λop hop=>(hu op hop).2.2⟩;obtain⟨z,hz,Td⟩:=touch_of hx;rcases getElem?_append_cases hz with⟨_,hz'⟩|⟨_,ZA⟩
 .exact(h.knows i x (by rw[touchAt_of hz'];exact Td) hmm).imp (·.app _) id
 .rw[(hu z ZA).2.1] at Td;cases Td
end
structure Fz (P:Program)(Dead:Nat->Prop)(d:Nat)(gs:Array Goroutine)(W:World)(t:Trace)(q:Nat->Nat):Prop where
 lv:Leavers P t gs q
 past:E9 (GM Dead) W.heap.size d t
 quiet:Quiet (GM Dead) t
 PN:∀(i:Nat) (op:MemOp),t[i]?=some op->op.g<gs.size
 low:∀B,Dead B->B<W.heap.size
def Fz.of {P:Program}{Dead:Nat->Prop}{gs:Array Goroutine}{W:World}{t:Trace}{q:Nat->Nat}(h:Gy P Dead gs W t q):Fz P Dead 0 gs W t q:=⟨h.lv,.of h.past,h.quiet,h.PN,h.low⟩
def Fz.btw {P:Program}{Dead:Nat->Prop}{gs:Array Goroutine}{W:World}{t:Trace}{q:Nat->Nat}(h:Fz P Dead 0 gs W t q):Gy P Dead gs W t q:=⟨h.lv,h.past.past,h.quiet,h.PN,h.low⟩
section
variable {P:Bw} {SB BB:FuncId->Bool} {lets:Bool} {Gn:Nat} {Dead:Nat->Prop} {Kp:Fg} {dd:Nat}
def Fz.at {gs:Array Goroutine}{W:World}{t:Trace}{q:Nat->Nat}(h:Fz P.b Dead dd gs W t q)(d:Nat):Fz P.b Dead dd gs (W.at d) t q:=⟨h.lv,h.past,h.quiet,h.PN,h.low⟩
def Fz.slip {gs:Array Goroutine}{W:World}{t:Trace}{q:Nat->Nat}(h:Fz P.b Dead dd gs W t q){i:Nat}{g a:Goroutine}(GD:0<i)(hi:gs[i]?=some g)(hrun:g.status=.running)(h0:gs[0]?=some a)(ha:a.status=.running)(sl:Option (Nat×Nat)) :
  ∃gs' t' q',runT P.b (crowd gs W sl) i=(.next (crowd gs' W sl),t')/\gs'.size=gs.size/\gs'[0]?=some a/\sumTo gs.size q'<sumTo gs.size q/\Fz P.b Dead dd gs' W (t++t') q':=by
 have hq:=h.lv.old i g GD hi;have Sw:(i==0)=false:=by simp;omega
 have hlt:i<gs.size:=(xm.1 hi).1;cases V9:q i with
 |zero=>rw[V9] at hq;rw[hq.1] at hrun;cases hrun
 |succ k =>
  rw[V9] at hq;rcases hq with⟨hf,_⟩|⟨_,g',es,hm,Wa,hq'⟩
  .rw[hf] at hrun;cases hrun
  have PO:=runT_crowd_go (P:=P.b) (sl:=sl) (i:=i) hi (by rw[Sw];exact Wa W);have PR:sumTo gs.size (upd q i k)+(k+1)=sumTo gs.size q+k:=by
   have:=sumTo_upd q k id hlt;simpa [V9] using this
  have F5:∀op∈MemOp.ofEvents i g.frame.fn g.frame.place es,op.g=i:=λop hop=>by obtain⟨e,_,rfl⟩:=Go.Conc.mem_ofEvents hop;rfl
  refine⟨_,_,upd q i k,PO,by simp,?_,by omega,⟨λj x hj hx=>?_,λj hj=>?_⟩,h.past.mute (by omega) hm,h.quiet.app λop hop x hx hs=>?_,λj op hop=>?_,h.low⟩
  .have hne:i≠0:=by omega
   rw[xX hne,yl,h0];simp[woken_run ha]
  .by_cases Tq:i=j
   .subst Tq;rw[zj (by simpa using hlt)] at hx;obtain rfl:=Option.some.inj hx;rw[upd_same,Deaf_own];exact hq'
   .rw[xX Tq,yl] at hx;obtain⟨y,hy,rfl⟩:=xW.1 hx;have KO:=h.lv.old j y hj hy;rw[woken_quitsD KO,upd_ne q k (Ne.symm Tq),Deaf_other t Tq _ F5];exact KO
  .rw[Deaf_other t (g':=i) (by simp at hj;omega) _ F5];exact h.lv.above j (by simpa using hj)
  .obtain⟨e,he,rfl⟩:=Go.Conc.mem_ofEvents hop;rw[touch_mute (hm e he)] at hx;cases hx
  .rcases getElem?_append_cases hop with⟨_,GR⟩|⟨_,EY⟩
   .simpa using h.PN j op GR
   .rw[F5 op EY];simpa using hlt
def Fz.fin {gs:Array Goroutine}{W W':World}{t:Trace}{q:Nat->Nat}(h:Fz P.b Dead dd gs W t q){x:Lone}{a g2:Goroutine}{AQ:Bc}{w':World}{ES:Array Event}(Gu:x.H.BX=false)(Lm:∀b B,x.β b B->Dead B->x.H b=true)
  (h0:gs[0]?=some a) (e3:stepG P.b true a W=.go g2 W' ES) (f:E5 P SB lets Gn x W AQ w' W' ES.toList) (sl:Option (Nat×Nat)) :
  ∃gs' t',runT P.b (crowd gs W sl) 0=(.next (crowd gs' W' sl),t')/\gs'.size=gs.size/\gs'[0]?=some g2/\Fz P.b Dead dd gs' W' (t++t') q:=by
 have ZU:ES.toList.toArray=ES:=by simp
 have GL:=cn f Gu;rw[ZU] at GL;have GU:=dO f Gu (k:=0) (fn:=a.frame.fn) (pos:=a.frame.place);rw[ZU] at GU;have F5:∀op∈MemOp.ofEvents 0 a.frame.fn a.frame.place ES,op.g=0:=λop hop=>by obtain⟨e,_,rfl⟩:=Go.Conc.mem_ofEvents hop;rfl
 have old:∀b B,AQ b B->B<W.heap.size->x.β b B:=λb B hb hB=>(f.new b B hb).elim id λh=>absurd h.2 (Nat.not_le.2 hB);have Jg:∀b B,AQ b B->Dead B->x.H b=true:=λb B hb hd=>Lm b B (old b B hb (h.low B hd)) hd;have Hk:∀e∈ES,∀z,(MemAct.ofEvent e).touch?=some z->¬GM Dead z.loc:=by
  intro e he z hz ⟨b,hb,hd⟩;have hE:=f.evs Gu e (by simpa using he);cases hE with
  |@cell a A wr sy hab _ hc _ =>
   have:z.loc=.cell A:=by simp[MemAct.ofEvent,MemAct.touch?] at hz;subst hz;rfl
   rw[this] at hb;cases hb;obtain⟨n,hn,_⟩:=hc;have:=(f.rel.Db _ _ hab (Jg _ _ hab hd)).1;rw[this] at hn;simp[Cr] at hn
  |@obj r R wr sy _ _ =>
   have:z.loc=.obj R:=by cases wr<;>cases sy<;>simp[MemAct.ofEvent,MemAct.touch?] at hz<;>subst hz<;>rfl
   rw[this] at hb;cases hb
  |mark hm=>cases hm<;>simp[MemAct.ofEvent,MemAct.touch?] at hz
  |out =>
   have:z.loc=.output:=by simp[MemAct.ofEvent,MemAct.touch?] at hz;subst hz;rfl
   rw[this] at hb;cases hb
 have hlt:0<gs.size:=(xm.1 h0).1
 refine⟨_,_,runT_crowd_go (P:=P.b) (sl:=sl) (i:=0) h0 (by simpa using e3),by simp,by simp[hlt],
  ⟨⟨λj y hj hy=>?_,λj hj=>?_⟩,(h.past.mono f.SIZE).own (λe he=>⟨λz hz hs=>absurd hs (Hk e he z hz),?_⟩) (deafBehind_idle (λe he=>⟨(GL e he).1,(GL e he).2.1⟩) dd),h.quiet.app λop hop z hz hs=>?_,λj op hop=>?_,λB hB=>xx (h.low B hB) f.SIZE⟩⟩
 .have hne:0≠j:=by omega
  rw[xX hne,yl] at hy;obtain⟨z,hz,rfl⟩:=xW.1 hy;have KO:=h.lv.old j z hj hz;rw[woken_quitsD KO,Deaf_other t (by omega) _ F5];exact KO
 .rw[Deaf_other t (g':=0) (by simp at hj;omega) _ F5];exact h.lv.above j (by simpa using hj)
 .exact GU { g:=0,fn:=a.frame.fn,pos:=a.frame.place,act:=.ofEvent e } (by rw[ofEvents_eq];exact Array.mem_map.2 ⟨e,he,rfl⟩)
 .obtain⟨e,he,rfl⟩:=Go.Conc.mem_ofEvents hop;exact absurd hs (Hk e he z hz)
 .rcases getElem?_append_cases hop with⟨_,GR⟩|⟨_,EY⟩
  .simpa using h.PN j op GR
  .rw[F5 op EY];simpa using hlt
def Fz.spec {gs:Array Goroutine}{W:World}{t:Trace}{q:Nat->Nat}(h:Fz P.b Dead dd gs W t q){a g2:Goroutine}{β:Bc}{es ES:Array Event}
  (h0:gs[0]?=some a) (e3:stepG P.b true a W=.go g2 W ES) (e5:Ek β es ES) (e6:∀e∈ES,∀ad,e.loc=.mark (.acquire ad)\/e.loc=.mark (.releaseMerge ad)->ad.block<W.heap.size) (sl:Option (Nat×Nat)) :
  ∃gs' t',runT P.b (crowd gs W sl) 0=(.next (crowd gs' W sl),t')/\gs'.size=gs.size/\gs'[0]?=some g2/\Fz P.b Dead (deafBehind dd es) gs' W (t++t') q:=by
 have FL:=e5.mem;have F5:∀op∈MemOp.ofEvents 0 a.frame.fn a.frame.place ES,op.g=0:=λop hop=>by obtain⟨e,_,rfl⟩:=Go.Conc.mem_ofEvents hop;rfl
 have hlt:0<gs.size:=(xm.1 h0).1
 refine⟨_,_,runT_crowd_go (P:=P.b) (sl:=sl) (i:=0) h0 (by simpa using e3),by simp,by simp[hlt],
  ⟨⟨λj y hj hy=>?_,λj hj=>?_⟩,h.past.own (λe he=>⟨λz hz hs=>?_,e5.low e6 e he⟩) (e5.deaf dd),h.quiet.app λop hop z hz hs=>?_,λj op hop=>?_,h.low⟩⟩
 .have hne:0≠j:=by omega
  rw[xX hne,yl] at hy;obtain⟨z,hz,rfl⟩:=xW.1 hy;have KO:=h.lv.old j z hj hz;rw[woken_quitsD KO,Deaf_other t (by omega) _ F5];exact KO
 .rw[Deaf_other t (g':=0) (by simp at hj;omega) _ F5];exact h.lv.above j (by simpa using hj)
 .rw[(FL e he).1] at hz;cases hz
 .obtain⟨e,he,rfl⟩:=Go.Conc.mem_ofEvents hop;rw[(FL e he).1] at hz;cases hz
 .rcases getElem?_append_cases hop with⟨_,GR⟩|⟨_,EY⟩
  .simpa using h.PN j op GR
  .rw[F5 op EY];simpa using hlt
def FP (lib:∀H,Lib P SB H lets BB Gn)(L6:∀(f:FuncId) (fn:Func),P.a.funcs[f]?=some fn->fn.body.isNone=true->P.fs[f]?=some fn){H:Hid}{T:List Frame}{β:Bc}{Q:Goroutine->World->Prop}(Li:∀g w,Q g w->BB g.frame.fn=false\/∃f R,Bl.Left P.a f R g w){os:Os}{ou:World}{n b0 B0:Nat}:∀(μ:Wm×Nat) (m:Machine) (t:Trace),
  (∃gs W sl q x a d,m=crowd gs W sl/\gs[0]?=some a/\gs.size=n/\Fz P.b Dead d gs W t q/\Tw P SB BB lets Gn Dead Kp x a W/\BN P.a BB Q d x.g x.w/\x.H=H/\x.T=T/\β.le x.β/\(W.os=os/\W.output=ou.output)/\(B0<=W.heap.size/\b0<=x.w.heap.size/\∀b B,x.β b B->β b B\/(b0<=b/\B0<=B))/\μ=(.tree Q (x.g,x.w),sumTo n q)) ->
  ∃N m' t',runNT P.b N m t=(.next m',t')/\∃gs W sl q x a,m'=crowd gs W sl/\gs[0]?=some a/\gs.size=n/\Fz P.b Dead 0 gs W t' q/\Tw P SB BB lets Gn Dead Kp x a W/\Q x.g x.w/\x.H=H/\x.T=T/\β.le x.β/\(W.os=os/\W.output=ou.output)/\(B0<=W.heap.size/\b0<=x.w.heap.size/\∀b B,x.β b B->β b B\/(b0<=b/\B0<=B)):=by
 have wf:WellFounded (Prod.Lex (IL P.a) (·<·:Nat->Nat->Prop)):=(Prod.lex ⟨_,IL.wf P.a⟩ Nat.lt_wfRel).wf;refine jg (P:=P.b) wf (λμ m t=>∃gs W sl q x a d,m=crowd gs W sl/\gs[0]?=some a/\gs.size=n/\Fz P.b Dead d gs W t q/\Tw P SB BB lets Gn Dead Kp x a W/\BN P.a BB Q d x.g x.w/\x.H=H/\x.T=T/\β.le x.β/\(W.os=os/\W.output=ou.output)/\(B0<=W.heap.size/\b0<=x.w.heap.size/\∀b B,x.β b B->β b B\/(b0<=b/\B0<=B))/\μ=(.tree Q (x.g,x.w),sumTo n q))
  (λm t=>∃gs W sl q x a,m=crowd gs W sl/\gs[0]?=some a/\gs.size=n/\Fz P.b Dead 0 gs W t q/\Tw P SB BB lets Gn Dead Kp x a W/\Q x.g x.w/\x.H=H/\x.T=T/\β.le x.β/\(W.os=os/\W.output=ou.output)/\(B0<=W.heap.size/\b0<=x.w.heap.size/\∀b B,x.β b B->β b B\/(b0<=b/\B0<=B))) ?_
 rintro μ m t ⟨gs,W,sl,q,x,a,d,rfl,h0,hn,hb,ht,hr,eH,eT,hle,Nf,hsz,rfl⟩;have NH:=Ab hr;have Ji:a.status=.running:=ht.gl.status.2;have haw:∀g∈gs,awake g:=by
  intro g hg;obtain⟨i,hi,rfl⟩:=Array.mem_iff_getElem.1 hg;rcases yg i with rfl|GD
  .have:gs[0]=a:=by simpa [xD hi] using h0
   rw[this];exact awake_of (.inl Ji)
  .exact awake_of ((hb.lv.old i _ GD (xD hi)).status.elim .inl λx=>.inr (.inr x))
 by_cases FK:d=0/\Q x.g x.w
 .obtain⟨rfl,hq⟩:=FK;exact .inl ⟨gs,W,sl,q,x,a,rfl,h0,hn,hb,ht,hq,eH,eT,hle,Nf,hsz⟩
 refine .inr ?_;obtain⟨i,g,e,sl',hi,hg,hst⟩:=crowd_pick (P:=P.b) (w:=W) (sl:=sl) haw ⟨0,a,h0,Ji⟩;rcases yg i with rfl|GD
 .generalize MB:x.g=gx at hr;generalize Uk:x.w=wx at hr;cases hr with
  |fin hq=>exact absurd ⟨rfl,by rw[MB,Uk];exact hq⟩ FK
  |next ng nw f1 f2 f3 =>
   subst MB Uk;have hq:¬Q x.g x.w:=λhq=>by
    rcases Li _ _ hq with h|⟨f,R,h⟩
    .have:=f1.1;rw[h] at this;cases this
    .obtain⟨⟨es,e9⟩,n9⟩:=f2 x.w.tape x.w.drawn;exact Bl.Left.last h (_,_) ⟨x.w.tape,x.w.drawn,es,e9,n9⟩
   have JC:=ht.at e;have hb':=hb.at e;obtain⟨g',w',es,AQ,g2,W',ES,e1,e2,e3,e4,e5⟩:=Ic (lib x.H) (main2:=true) f1 f2 JC.gl JC.wl;have f:E5 P SB lets Gn x (W.at e) AQ w' W' ES.toList:=e5;obtain⟨gs',t',k1,k2,k3,k4⟩:=hb'.fin JC.tw JC.dead h0 e3 f sl';obtain⟨k5,k6⟩:=Jh f JC.keep JC.CN;have Jg:∀b B,AQ b B->Dead B->x.H b=true:=λb B hb1 hd=>(f.new b B hb1).elim (λh1=>ht.dead b B h1 hd) λh1=>absurd h1.2 (Nat.not_le.2 (hb'.low B hd))
   obtain⟨rfl,rfl⟩:=e2;refine⟨_,_,(.tree Q (ng (W.at e).tape (W.at e).drawn,nw (W.at e).tape (W.at e).drawn),sumTo n q),by rw[hst,k1],Prod.Lex.left _ _ ⟨.tree hq ⟨(W.at e).tape,(W.at e).drawn,es,e1,e4.callers.ne⟩,NH⟩,gs',W',sl',q,⟨_,_,x.H,AQ,x.T⟩,g2,d,rfl,k3,k2.trans hn,k4,⟨e4,f.rel,ht.tw,Jg,k5,k6⟩,f3 _ _,eH,eT,Bc.le_trans hle f.le,⟨f.OS.trans Nf.1,f.OUT.trans Nf.2⟩,⟨xI hsz.1 f.SIZE,xI hsz.2.1 f.size,λb B hb1=>(f.new b B hb1).elim (hsz.2.2 b B) λh=>.inr ⟨xI hsz.2.1 h.1,xI hsz.1 h.2⟩⟩,rfl⟩
  |@spec _ b a' ops i0 rest k cs _ o es v f1 f2 f3 f4 f5 f6 f7 =>
   subst Uk;have hq:¬Q x.g x.w:=λhq=>by
    rcases Li _ _ hq with this|⟨f,R,w9,v9,fr,_,_,h9,_,hm,_⟩
    .rw[MB] at this;exact absurd f1 (by rw[show b.fn=(BU (b.at a' (.inRegion ops (i0::rest)::k)) cs).frame.fn from rfl,this];decide)
    .rw[MB] at h9;have e9:b.at a' (.inRegion ops (i0::rest)::k)=fr:=congrArg Goroutine.frame h9;rw[<-e9] at hm;cases hm
   have JC:=ht.at e;have hb':=hb.at e;have hg0:Dc P SB x.H lets BB x.T x.β (BU (b.at a' (.inRegion ops (i0::rest)::k)) cs) a:=MB▸JC.gl;obtain⟨g2,ES,e3,e4,e5,e6⟩:=K4 L6 (main2:=true) f1 hg0 JC.wl f3 f4 f5 f6;obtain⟨gs',t',k1,k2,k3,k4⟩:=hb'.spec h0 e3 e5 e6 sl';refine⟨_,_,(.tree Q (BU (b.at (a'.put o.dst v) (.inRegion ops rest::k)) cs,on x.w (W.at e).tape (W.at e).drawn),sumTo n q),by rw[hst,k1],Prod.Lex.left _ _ ⟨.tree (by have:=hq;rwa [MB] at this) ⟨(W.at e).tape,(W.at e).drawn,es,?_,f2⟩,by rw[MB] at NH;exact NH⟩,gs',W.at e,sl',q,⟨BU (b.at (a'.put o.dst v) (.inRegion ops rest::k)) cs,on x.w (W.at e).tape (W.at e).drawn,x.H,x.β,x.T⟩,g2,deafBehind d es,rfl,k3,k2.trans hn,k4,⟨e4,JC.wl.same rfl rfl JC.wl.env,ht.tw,ht.dead,JC.keep,JC.CN⟩,f7 _ _,eH,eT,hle,Nf,hsz,rfl⟩
   exact(f6.same zU).step f3 f4 f5
 .obtain⟨gs',t',q',k1,k2,k3,k4,k5⟩:=(hb.at e).slip GD hi hg h0 Ji sl';exact⟨_,_,(.tree Q (x.g,x.w),sumTo n q'),by rw[hst,k1],Prod.Lex.right _ (by rw[<-hn];exact k4),gs',W.at e,sl',q',x,a,d,rfl,k3,k2.trans hn,k5,ht.at e,hr,eH,eT,hle,Nf,hsz,rfl⟩
end
end Go.Co
namespace Go.Proofs.YtjcgijifamcggaaGreat
open Go.RowKit Go.Bl Go.Co Go.Conc Go.Sq
attribute [local go_sem] Oper.semAt_some
noncomputable def cB:Code:=Tryz.f30.body.getD .skip
noncomputable def c5:Array Oper:=DN (az (ae (ae (ae (ae cB)))))
noncomputable def x5:Code:=ae (ae (ae (ae (ae cB))))
def th {bn bo bh:Nat}{w:World}{SB:FuncId->Bool}(hn:w.heap[bn]?=some (.cells EB.toArray 3 (0,0)))(ho:w.heap[bo]?=some (.cells #[.int .i64 0] 3 (0,0)))(hh:w.heap[bh]?=some (.cells (E8 bo).toArray 58 (0,0))) :
  ∀b,(b=bn\/b=bo\/b=bh)->∃o,w.heap[b]?=some o/\BS (SP SB zV) (CK AG SB false) (BK λb=>b=bn\/b=bo\/b=bh) o o:=by
 rintro b (rfl|rfl|rfl)
 .refine⟨_,hn,.cells (B9 λv hv=>?_) λi h1 h2=>⟨h1,h2⟩⟩;simp only[EB,xC,xz,or_false] at hv;rcases hv with rfl|rfl|rfl<;>exact AO.int _ _
 .refine⟨_,ho,.cells (B9 (l:=[.int .i64 0]) λv hv=>?_) λi h1 h2=>⟨h1,h2⟩⟩;simp only[xC,xz,or_false] at hv;subst hv;exact AO.int _ _
 .refine⟨_,hh,.cells (B9 λv hv=>?_) λi h1 h2=>⟨h1,h2⟩⟩;simp only[E8,xC,xz,or_false] at hv;rcases hv with rfl|rfl|rfl|rfl|rfl|rfl|rfl|rfl|rfl|rfl|rfl|rfl<;>first|exact AO.int _ _|exact AO.Ei _ _|exact B6.slice (.inr (.inl rfl)) _ _ _ _
def lP (bn bo bh:Nat)(w1:World)(v:Value)(w':World):Prop:=∃(cb sb cap:Nat) (cur:List Value) (t:TypeId),v=.tuple #[.pointer (some ⟨cb,0,none⟩),.int .i64 0]/\w1.heap.size<=cb/\cb<sb/\Dk w' bn bo bh cb sb cap cur t/\w1.heap.size<=w'.heap.size/\∀b,b<w1.heap.size->w'.heap[b]?=w1.heap[b]?
def qj (bn bo bh:Nat){SB:FuncId->Bool}:AU (SP SB zV) (BK λb=>b=bn\/b=bo\/b=bh) #[.agg #[.slice (some ⟨bn,0,none⟩) 3 3,.slice (some ⟨bh,0,none⟩) 3 3]] #[.agg #[.slice (some ⟨bn,0,none⟩) 3 3,.slice (some ⟨bh,0,none⟩) 3 3]] :=
 B9 (l:=[.agg #[.slice (some ⟨bn,0,none⟩) 3 3,.slice (some ⟨bh,0,none⟩) 3 3]]) λv hv=>by
  simp only[xC,xz,or_false] at hv;subst hv;refine B6.agg (l:=[.slice (some ⟨bn,0,none⟩) 3 3,.slice (some ⟨bh,0,none⟩) 3 3]) λv hv=>?_;simp only[xC,xz,or_false] at hv;rcases hv with rfl|rfl
  .exact B6.slice (.inl rfl) _ _ _ _
  .exact B6.slice (.inr (.inr rfl)) _ _ _ _
def ny {bn bo bh:Nat}{w:World}(hn:w.heap[bn]?=some (.cells EB.toArray 3 (0,0)))(ho:w.heap[bo]?=some (.cells #[.int .i64 0] 3 (0,0)))(hh:w.heap[bh]?=some (.cells (E8 bo).toArray 58 (0,0)))(τ:Tape)(d:Nat) :
  Calls AG 40 #[.agg #[.slice (some ⟨bn,0,none⟩) 3 3,.slice (some ⟨bh,0,none⟩) 3 3]] (on w τ d) (λe w'=>∃v,e=.returned v/\lP bn bo bh w v w'):=by
 have ln:=(xm.1 hn).1;have lo:=(xm.1 ho).1;have lh:=(xm.1 hh).1;have hb:∀i:Nat,(on w τ d).cell? ⟨bh,i,none⟩=(E8 bo)[i]?:=λi=>(cell_of (W:=on w τ d) hh i).trans (by simp);have Ea:RI (on w τ d) w.heap.size (some ⟨bn,0,none⟩) A7.AK:=λ_=>by
  refine⟨bn,0,rfl,ln,λi x hx=>?_⟩;rw[cell_of (W:=on w τ d) hn]
  match i,hx with
  |0,hx=>simp[A7,BI] at hx;subst hx;rfl
  |1,hx=>simp[A7,BI] at hx;subst hx;rfl
  |2,hx=>simp[A7,BI] at hx;subst hx;rfl
  |k+3,hx=>simp[A7,BI] at hx
 have hro:RI (on w τ d) w.heap.size (some ⟨bo,0,none⟩) [0]:=λ_=>by
  refine⟨bo,0,rfl,lo,λi x hx=>?_⟩;rw[cell_of (W:=on w τ d) ho]
  match i,hx with
  |0,hx=>simp at hx;subst hx;rfl
  |k+1,hx=>simp at hx
 have WM:Dr (on w τ d) w.heap.size (some ⟨bh,0,none⟩) A7.AH:=λ_=>⟨bh,0,rfl,lh,λi x hx=>by
  match i,hx with
  |0,hx=>simp[A7,BI] at hx;subst hx;exact⟨hb _,hb _,hb _,none,0,hb _,.nil⟩
  |1,hx=>simp[A7,BI] at hx;subst hx;exact⟨hb _,hb _,hb _,_,1,hb _,hro⟩
  |2,hx=>simp[A7,BI] at hx;subst hx;exact⟨hb _,hb _,hb _,none,0,hb _,.nil⟩
  |k+3,hx=>simp[A7,BI] at hx⟩
 refine(jS (some ⟨bn,0,none⟩) (some ⟨bh,0,none⟩) 3 3 A7 (on w τ d) w.heap.size (xp _) Ea WM (by decide) (by decide) (by decide)).mono ?_;rintro e w' ⟨hg,IP⟩;rw[if_pos iq] at IP;obtain⟨cb,g,cap,rfl,hcb,SK,hK,hF1,hF2⟩:=IP;obtain⟨cur,t,q1,q2⟩:=hF1 _ _ _ rfl;have Ns:∀b,b<w.heap.size->w'.heap[b]?=w.heap[b]?:=λb hb=>hg.below.block b hb;refine⟨_,rfl,cb,g,cap,cur.toList,t,rfl,hcb,SK,⟨λp hp=>?_,λi x hx=>?_,q2⟩,hg.size,Ns⟩
 .simp only[BA,xC,xz,or_false] at hp;rcases hp with rfl|rfl|rfl|rfl|rfl
  .exact(Ns bn ln).trans hn
  .exact(Ns bo lo).trans ho
  .exact(Ns bh lh).trans hh
  .exact hF2
  .simpa using q1
 .have h1:=hK.sets i x hx;rw[cell_of q1] at h1;simpa using h1
def qk {BB:FuncId->Bool}(hB:BB 30=true)(Mg:Fi BB){Q:Goroutine->World->Prop}(hQ:∀g w W,Bh w W->Q g w->Q g W){cs:List Frame}(hcs:cs≠[]){bn bo bh:Nat}{w:World}
  (hn:w.heap[bn]?=some (.cells EB.toArray 3 (0,0))) (ho:w.heap[bo]?=some (.cells #[.int .i64 0] 3 (0,0))) (hh:w.heap[bh]?=some (.cells (E8 bo).toArray 58 (0,0)))
  (h:∀(cb sb cap nb:Nat) (cur:List Value) (t:TypeId) (w':World) (T:Array Value),Dk w' bn bo bh cb sb cap cur t->w'.heap[nb]?=some (GZ 0)->hasB (BA bn bo bh cb sb cap cur t) nb=false->T.size=19->T.getD 6 undef=.pointer (some ⟨nb,0,none⟩)->w.heap.size<=w'.heap.size->(∀b,b<w.heap.size->w'.heap[b]?=w.heap[b]?) ->
   BN Tryz.prog BB Q 0 (bQ PP 58 (Fx cb (.func 59) #[] [Value.pointer (some ⟨nb,0,none⟩)].toArray) ((base 30).at ⟨T,[]⟩ [.inRegion c5 [2],.code x5]) cs) w') :
  BN Tryz.prog BB Q 0 (Go.Conc.G (Frame.enter Tryz.prog 30 #[Bp (some ⟨bn,0,none⟩) (some ⟨bh,0,none⟩) A7 3 3] .normal) cs) w:=by
 rw[enter_at _ Tryz.func30 rfl];simp only[Tryz.ntmps30,xF,xH,xK,Nat.reduceAdd,Nat.reduceSub,yj,yk,yx,ym,yI,yF];unfold Bp;change BN Tryz.prog BB Q 0 (G _ cs) w;have ln:A7.AK.length=3:=rfl;have lh:A7.AH.length=3:=rfl;rw[ln,lh];refine am hQ hB hcs ?_;refine ay hQ hB hcs ?_;simp only[xF,xH,xK,Nat.reduceAdd,xM,List.range,List.range.loop];refine af hQ hB hcs rfl rfl λK hK q1 q2 q3=>?_
 go_simp;refine hK _ (w.alloc _) ?_ _ ⟨rfl,rfl,rfl⟩;clear hK K q1 q2 q3
 try walk_nrm
 try simp only[aa]
 obtain⟨w1,EH⟩:∃w1,w1=w.alloc (.cells #[.slice (some ⟨bn,0,none⟩) 3 3,.slice (some ⟨bh,0,none⟩) 3 3] 27):=⟨_,rfl⟩;rw[<-EH];have hz1:w1.heap.size=w.heap.size+1:=by rw[EH,aE]
 have Nh:w1.heap[w.heap.size]?=some (.cells #[.slice (some ⟨bn,0,none⟩) 3 3,.slice (some ⟨bh,0,none⟩) 3 3] 27 (0,0)):=by rw[EH,aA,if_pos rfl]
 have Ho:∀b,b<w.heap.size->w1.heap[b]?=w.heap[b]?:=λb hb=>by rw[EH,aA,if_neg (by omega)]
 have hc0:w1.cell? ⟨w.heap.size,0,none⟩=some (.slice (some ⟨bn,0,none⟩) 3 3):=cell_of Nh 0;have hc1:w1.cell? ⟨w.heap.size,1,none⟩=some (.slice (some ⟨bh,0,none⟩) 3 3):=cell_of Nh 1;have WN:bn<w.heap.size/\bo<w.heap.size/\bh<w.heap.size:=⟨(xm.1 hn).1,(xm.1 ho).1,(xm.1 hh).1⟩;have Hu:=(Ho bn WN.1).trans hn;have ho1:=(Ho bo WN.2.1).trans ho;have Oe:=(Ho bh WN.2.2).trans hh;clear EH;refine af hQ hB hcs rfl rfl λK hK q1 q2 q3=>?_
 go_simp;refine hK _ w1 ?_ _ ⟨rfl,rfl,rfl⟩;clear hK K q1 q2 q3
 try walk_nrm
 try simp only[aa]
 refine af hQ hB hcs rfl rfl λK hK q1 q2 q3=>?_;go_simp;refine hK _ w1 ?_ _ ⟨rfl,rfl,rfl⟩;clear hK K q1 q2 q3
 try walk_nrm
 try simp only[aa]
 refine ax hQ hB hcs ?_;refine am hQ hB hcs ?_;refine ay hQ hB hcs ?_;simp only[xF,xH,xK,Nat.reduceAdd,xM,List.range,List.range.loop];refine af hQ hB hcs rfl rfl λK hK q1 q2 q3=>?_;go_simp;refine hK _ w1 ?_ _ ⟨rfl,rfl,rfl⟩;clear hK K q1 q2 q3
 try walk_nrm
 try simp only[aa]
 refine aw hQ hB (by kernel_rfl) λτ d=>?_;refine aB rfl rfl (by decide) rfl Tryz.func40 (by kernel_rfl) (by kernel_rfl) ⟨Be _ _,w1,zU,?_⟩
 try walk_nrm
 refine(dH (H:=zV) Mg).fn (f:=40) (by decide) (by decide) (K0:=λb=>b=bn\/b=bo\/b=bh) hcs (λ_ _=>xQ _) (xQ _) (qj bn bo bh) (λb _ hb=>by cases hb) (λb hb=>by cases hb)
  (λb hb _=>th Hu ho1 Oe b hb) hQ (R:=lP bn bo bh w1) (ny Hu ho1 Oe) ?_
 rintro v w2 ⟨cb,sb,cap,cur,t,rfl,hcb,WO,hcw,hz2,Qf⟩;change BN Tryz.prog BB Q 0 _ w2;rw[Frame.finish_at];simp only[yd,List.getElem?_cons_succ,List.getElem?_cons_zero,yp]
 try walk_nrm
 refine af hQ hB hcs rfl rfl λK hK q1 q2 q3=>?_;go_simp;refine hK _ w2 ?_ _ ⟨rfl,rfl,rfl⟩;clear hK K q1 q2 q3
 try walk_nrm
 try simp only[aa]
 refine af hQ hB hcs rfl rfl λK hK q1 q2 q3=>?_;go_simp;refine hK _ w2 ?_ _ ⟨rfl,rfl,rfl⟩;clear hK K q1 q2 q3
 try walk_nrm
 try simp only[aa]
 refine af hQ hB hcs rfl rfl λK hK q1 q2 q3=>?_;go_simp;refine hK _ w2 ?_ _ ⟨rfl,rfl,rfl⟩;clear hK K q1 q2 q3
 try walk_nrm
 try simp only[aa]
 refine af hQ hB hcs rfl rfl λK hK q1 q2 q3=>?_;go_simp;refine hK _ w2 ?_ _ ⟨rfl,rfl,rfl⟩;clear hK K q1 q2 q3
 try walk_nrm
 try simp only[aa]
 refine af hQ hB hcs rfl rfl λK hK q1 q2 q3=>?_;go_simp;refine hK _ w2 ?_ _ ⟨rfl,rfl,rfl⟩;clear hK K q1 q2 q3
 try walk_nrm
 try simp only[aa]
 refine ax hQ hB hcs ?_;refine am hQ hB hcs ?_;refine am hQ hB hcs ?_;refine ay hQ hB hcs ?_;simp only[xF,xH,xK,Nat.reduceAdd,xM,List.range,List.range.loop];refine af hQ hB hcs rfl rfl λK hK q1 q2 q3=>?_;go_simp;refine hK _ w2 ?_ _ ⟨rfl,rfl,rfl⟩;clear hK K q1 q2 q3
 try walk_nrm
 try simp only[aa]
 refine af hQ hB hcs rfl rfl λK hK q1 q2 q3=>?_;go_simp;refine hK _ w2 ?_ _ ⟨rfl,rfl,rfl⟩;clear hK K q1 q2 q3
 try walk_nrm
 try simp only[aa]
 refine ax hQ hB hcs ?_;refine jf hQ hB hcs ?_;refine fJ hQ hB hcs ?_;refine am hQ hB hcs ?_;refine ay hQ hB hcs ?_;simp only[xF,xH,xK,Nat.reduceAdd,xM,List.range,List.range.loop];refine af hQ hB hcs rfl rfl λK hK q1 q2 q3=>?_;go_simp;refine hK _ (w2.alloc _) ?_ _ ⟨rfl,rfl,rfl⟩;clear hK K q1 q2 q3
 try walk_nrm
 try simp only[aa]
 obtain⟨w3,hw3⟩:∃w3,w3=w2.alloc (GZ 0):=⟨_,rfl⟩;change BN Tryz.prog BB Q 0 _ (w2.alloc (GZ 0));rw[<-hw3];have hz3:w3.heap.size=w2.heap.size+1:=by rw[hw3,aE]
 have UY:∀b,b<w2.heap.size->w3.heap[b]?=w2.heap[b]?:=λb hb=>by rw[hw3,aA,if_neg (by omega)]
 have MV:w3.heap[w2.heap.size]?=some (GZ 0):=by rw[hw3,aA,if_pos rfl]
 clear hw3;refine ax hQ hB hcs ?_;refine am hQ hB hcs ?_;refine ay hQ hB hcs ?_;simp only[xF,xH,xK,Nat.reduceAdd,xM,List.range,List.range.loop];refine af hQ hB hcs rfl rfl λK hK q1 q2 q3=>?_;go_simp;refine hK _ w3 ?_ _ ⟨rfl,rfl,rfl⟩;clear hK K q1 q2 q3
 try walk_nrm
 try simp only[aa]
 refine af hQ hB hcs rfl rfl λK hK q1 q2 q3=>?_;go_simp;refine hK _ w3 ?_ _ ⟨rfl,rfl,rfl⟩;clear hK K q1 q2 q3
 try walk_nrm
 try simp only[aa]
 refine aw hQ hB (by kernel_rfl) λτ d=>?_;refine aB rfl rfl (by decide) rfl Tryz.func58 (by kernel_rfl) (by kernel_rfl) ⟨Be _ _,w3,zU,?_⟩
 try walk_nrm
 refine h cb sb cap w2.heap.size cur t w3 _ (hcw.keep λb hb=>UY b (hcw.lt hb)) MV (by
  cases hq:hasB (BA bn bo bh cb sb cap cur t) w2.heap.size with
  |false=>rfl
  |true=>exact absurd (hcw.lt hq) (Nat.lt_irrefl _)) rfl rfl (by omega) λb hb=>(UY b (by omega)).trans ((Qf b (by omega)).trans (Ho b hb))
def aaD {T:Array Value}(h:T.size=19):∃y0 y1 y2 y3 y4 y5 y6 y7 y8 y9 Ge Gf Gg Gh Gi Gj Gk Gl Gm:Value,T=#[y0,y1,y2,y3,y4,y5,y6,y7,y8,y9,Ge,Gf,Gg,Gh,Gi,Gj,Gk,Gl,Gm]:=by
 obtain⟨l⟩:=T;have h:l.length=19:=h
 match l,h with
 |[y0,y1,y2,y3,y4,y5,y6,y7,y8,y9,Ge,Gf,Gg,Gh,Gi,Gj,Gk,Gl,Gm],_=>exact⟨y0,y1,y2,y3,y4,y5,y6,y7,y8,y9,Ge,Gf,Gg,Gh,Gi,Gj,Gk,Gl,Gm,rfl⟩
def oJ {BB:FuncId->Bool}(hB:BB 30=true)(Mg:Fi BB){Q:Goroutine->World->Prop}(hQ:∀g w W,Bh w W->Q g w->Q g W){b0:Frame}{a0:Act}{ops:Array Oper}{i:Nat}{rest:List Nat}{k:List Item}{cs:List Frame}(hcs:cs≠[]){nb:Nat}{n:Int}{w:World}
  (hn:w.heap[nb]?=some (GZ n)) {T:Array Value} (hT:T.size=19) (h6:T.getD 6 undef=.pointer (some ⟨nb,0,none⟩))
  (h:BN Tryz.prog BB Q 0 (Go.Conc.G (b0.at (a0.put ((ops[i]?).bind (·.dst)) (.tuple #[.int .i64 n,.int .i64 0])) (.inRegion ops rest::k)) cs) w) :
  BN Tryz.prog BB Q 0 (back ((base 30).at ⟨T,[]⟩ [.inRegion c5 [2],.code x5]) (b0.at a0 (.inRegion ops (i::rest)::k)::cs)) w:=by
 obtain⟨y0,y1,y2,y3,y4,y5,y6,y7,y8,y9,Ge,Gf,Gg,Gh,Gi,Gj,Gk,Gl,Gm,rfl⟩:=aaD hT;have h6:y6=.pointer (some ⟨nb,0,none⟩):=h6;subst h6;unfold back;rw[Frame.finish_at];change BN Tryz.prog BB Q 0 (G _ _) w;have Qg:(c5[2]?.bind (·.dst))=some 17:=rfl;rw[Qg]
 try walk_nrm
 refine ax hQ hB (Be _ _) ?_;have ex5:x5=ae (ae (ae (ae (ae cB)))):=rfl;simp only[cB,Tryz.f30,Option.getD_some,ae] at ex5;rw[ex5];clear ex5;refine am hQ hB (Be _ _) ?_;refine ay hQ hB (Be _ _) ?_;simp only[xF,xH,xK,Nat.reduceAdd,xM,List.range,List.range.loop];refine aw hQ hB (by kernel_rfl) λτ d=>?_;refine aB rfl rfl (by decide) rfl Tryz.func61 (by kernel_rfl) (by kernel_rfl) ⟨Be _ _,w,zU,?_⟩
 try walk_nrm
 refine(dH (H:=zV) Mg).fn (f:=61) (by decide) (by decide) (K0:=λb=>b=nb) (Be _ _) (λ_ _=>xQ _) (xQ _) (B9 (l:=[.pointer (some ⟨nb,0,none⟩)]) λv hv=>?_) (λb _ hb=>by cases hb) (λb hb=>by cases hb)
  (λb hb _=>⟨_,(by rw[hb];exact hn),jV (WK n)⟩) hQ (R:=λv w'=>v=.int .i64 n/\Bh w w') (λτ d=>(rv nb n (on w τ d) hn).mono ?_) ?_
 .simp only[xC,xz,or_false] at hv;subst hv;exact B6.ptr (K:=λb=>b=nb) rfl _ _
 .rintro e w9 ⟨rfl,rfl⟩;exact⟨_,rfl,rfl,zU⟩
 rintro v w2 ⟨rfl,hs2⟩;refine BN.same hQ (W:=w2) ?_ hs2;change BN Tryz.prog BB Q 0 _ w;rw[Frame.finish_at];simp only[yd,List.getElem?_cons_succ,List.getElem?_cons_zero,yp]
 try walk_nrm
 refine af hQ hB (Be _ _) rfl rfl λK hK q1 q2 q3=>?_;go_simp;refine hK _ w ?_ _ ⟨rfl,rfl,rfl⟩;clear hK K q1 q2 q3
 try walk_nrm
 try simp only[aa]
 refine af hQ hB (Be _ _) rfl rfl λK hK q1 q2 q3=>?_;go_simp;refine hK _ w ?_ _ ⟨rfl,rfl,rfl⟩;clear hK K q1 q2 q3
 try walk_nrm
 try simp only[aa]
 refine ax hQ hB (Be _ _) ?_;refine aw hQ hB (by kernel_rfl) λτ d=>?_;rw[stepG_ret'];simp only[goes_go];refine⟨(Be _ _),w,zU,?_⟩;refine du hQ hB (by kernel_rfl) λτ d=>?_;refine goes_leave2 rfl rfl Tryz.func30 rfl ⟨hcs,w,zU,?_⟩;exact h
attribute [local go_sem] Oper.semAt_some
noncomputable def dB:Code:=Tryz.f32.body.getD .skip
noncomputable def d6:Array Oper:=DN (az (ae (ae (ae (ae (ae dB))))))
noncomputable def z6:Code:=ae (ae (ae (ae (ae (ae dB)))))
def ql {W:World}{b i:Nat}{a:Array Value}{u:Value}{t:TypeId}{f:Nat×Nat}(h:W.heap[b]?=some (.cells a t f)):(W.setCell ⟨b,i,none⟩ u).heap[b]?=some (.cells (a.setIfInBounds i u) t f):=by
 unfold World.setCell;simp only[yh,if_true,h]
 rfl
def Bv {W:World}{b i c:Nat}{u:Value}(h:c≠b):(W.setCell ⟨b,i,none⟩ u).heap[c]?=W.heap[c]?:=by
 unfold World.setCell;simp only[yh];rw[if_neg (λe=>h e.symm)]
def qm {W:World}{b i:Nat}{u:Value}:(W.setCell ⟨b,i,none⟩ u).heap.size=W.heap.size:=by
 unfold World.setCell;simp
def qp {W:World}{b:Nat}{l:Array Value}{t:TypeId}(h:W.heap[b]?=some (.cells l t (0,0)))(i:Nat):W.frozen? ⟨b,i,none⟩=false:=by
 unfold World.frozen?;simp[h]
def sk {BB:FuncId->Bool}(hB:BB 32=true)(Mg:Fi BB){Q:Goroutine->World->Prop}(hQ:∀g w W,Bh w W->Q g w->Q g W){cs:List Frame}(hcs:cs≠[]){bn bo bh:Nat}{w:World}
  (hn:w.heap[bn]?=some (.cells EB.toArray 3 (0,0))) (ho:w.heap[bo]?=some (.cells #[.int .i64 0] 3 (0,0))) (hh:w.heap[bh]?=some (.cells (E8 bo).toArray 58 (0,0)))
  (h:∀(cb sb cap qb xb kb:Nat) (cur:List Value) (t:TypeId) (w':World) (T:Array Value),Dk w' bn bo bh cb sb cap cur t->w'.heap[kb]?=some (D8 false λ_=>0)->(∀p∈C8 xb qb cb,w'.heap[p.1]?=some (.cells p.2.1.toArray p.2.2 (0,0)))->hasB (BA bn bo bh cb sb cap cur t++C8 xb qb cb) kb=false ->
   T.size=27->T.getD 4 undef=.pointer (some ⟨qb,0,none⟩)->T.getD 7 undef=.pointer (some ⟨kb,0,none⟩)->w.heap.size<=w'.heap.size->(∀b,b<w.heap.size->w'.heap[b]?=w.heap[b]?) ->
   BN Tryz.prog BB Q 0 (bQ PP 58 (Fx cb (.func 67) #[] [Value.pointer (some ⟨kb,0,none⟩),.pointer (some ⟨xb,0,none⟩)].toArray) ((base 32).at ⟨T,[]⟩ [.inRegion d6 [2],.code z6]) cs) w') :
  BN Tryz.prog BB Q 0 (Go.Conc.G (Frame.enter Tryz.prog 32 #[Bp (some ⟨bn,0,none⟩) (some ⟨bh,0,none⟩) A7 3 3] .normal) cs) w:=by
 rw[enter_at _ Tryz.func32 rfl];simp only[Tryz.ntmps32,xF,xH,xK,Nat.reduceAdd,Nat.reduceSub,yj,yk,yx,ym,yI,yF];unfold Bp;change BN Tryz.prog BB Q 0 (G _ cs) w;have ln:A7.AK.length=3:=rfl;have lh:A7.AH.length=3:=rfl;rw[ln,lh];refine am hQ hB hcs ?_;refine ay hQ hB hcs ?_;simp only[xF,xH,xK,Nat.reduceAdd,xM,List.range,List.range.loop];refine af hQ hB hcs rfl rfl λK hK q1 q2 q3=>?_
 go_simp;refine hK _ (w.alloc _) ?_ _ ⟨rfl,rfl,rfl⟩;clear hK K q1 q2 q3
 try walk_nrm
 try simp only[aa]
 obtain⟨w1,EH⟩:∃w1,w1=w.alloc (.cells #[.slice (some ⟨bn,0,none⟩) 3 3,.slice (some ⟨bh,0,none⟩) 3 3] 27):=⟨_,rfl⟩;rw[<-EH];have hz1:w1.heap.size=w.heap.size+1:=by rw[EH,aE]
 have Nh:w1.heap[w.heap.size]?=some (.cells #[.slice (some ⟨bn,0,none⟩) 3 3,.slice (some ⟨bh,0,none⟩) 3 3] 27 (0,0)):=by rw[EH,aA,if_pos rfl]
 have Ho:∀b,b<w.heap.size->w1.heap[b]?=w.heap[b]?:=λb hb=>by rw[EH,aA,if_neg (by omega)]
 have hc0:w1.cell? ⟨w.heap.size,0,none⟩=some (.slice (some ⟨bn,0,none⟩) 3 3):=cell_of Nh 0;have hc1:w1.cell? ⟨w.heap.size,1,none⟩=some (.slice (some ⟨bh,0,none⟩) 3 3):=cell_of Nh 1;have WN:bn<w.heap.size/\bo<w.heap.size/\bh<w.heap.size:=⟨(xm.1 hn).1,(xm.1 ho).1,(xm.1 hh).1⟩;have Hu:=(Ho bn WN.1).trans hn;have ho1:=(Ho bo WN.2.1).trans ho;have Oe:=(Ho bh WN.2.2).trans hh;clear EH;refine af hQ hB hcs rfl rfl λK hK q1 q2 q3=>?_
 go_simp;refine hK _ w1 ?_ _ ⟨rfl,rfl,rfl⟩;clear hK K q1 q2 q3
 try walk_nrm
 try simp only[aa]
 refine af hQ hB hcs rfl rfl λK hK q1 q2 q3=>?_;go_simp;refine hK _ w1 ?_ _ ⟨rfl,rfl,rfl⟩;clear hK K q1 q2 q3
 try walk_nrm
 try simp only[aa]
 refine ax hQ hB hcs ?_;refine am hQ hB hcs ?_;refine ay hQ hB hcs ?_;simp only[xF,xH,xK,Nat.reduceAdd,xM,List.range,List.range.loop];refine af hQ hB hcs rfl rfl λK hK q1 q2 q3=>?_;go_simp;refine hK _ w1 ?_ _ ⟨rfl,rfl,rfl⟩;clear hK K q1 q2 q3
 try walk_nrm
 try simp only[aa]
 refine aw hQ hB (by kernel_rfl) λτ d=>?_;refine aB rfl rfl (by decide) rfl Tryz.func40 (by kernel_rfl) (by kernel_rfl) ⟨Be _ _,w1,zU,?_⟩
 try walk_nrm
 refine(dH (H:=zV) Mg).fn (f:=40) (by decide) (by decide) (K0:=λb=>b=bn\/b=bo\/b=bh) hcs (λ_ _=>xQ _) (xQ _) (qj bn bo bh) (λb _ hb=>by cases hb) (λb hb=>by cases hb)
  (λb hb _=>th Hu ho1 Oe b hb) hQ (R:=lP bn bo bh w1) (ny Hu ho1 Oe) ?_
 rintro v w2 ⟨cb,sb,cap,cur,t,rfl,hcb,WO,hcw,hz2,Qf⟩;change BN Tryz.prog BB Q 0 _ w2;rw[Frame.finish_at];simp only[yd,List.getElem?_cons_succ,List.getElem?_cons_zero,yp]
 try walk_nrm
 refine af hQ hB hcs rfl rfl λK hK q1 q2 q3=>?_;go_simp;refine hK _ w2 ?_ _ ⟨rfl,rfl,rfl⟩;clear hK K q1 q2 q3
 try walk_nrm
 try simp only[aa]
 refine af hQ hB hcs rfl rfl λK hK q1 q2 q3=>?_;go_simp;refine hK _ w2 ?_ _ ⟨rfl,rfl,rfl⟩;clear hK K q1 q2 q3
 try walk_nrm
 try simp only[aa]
 refine af hQ hB hcs rfl rfl λK hK q1 q2 q3=>?_;go_simp;refine hK _ w2 ?_ _ ⟨rfl,rfl,rfl⟩;clear hK K q1 q2 q3
 try walk_nrm
 try simp only[aa]
 refine af hQ hB hcs rfl rfl λK hK q1 q2 q3=>?_;go_simp;refine hK _ (w2.alloc _) ?_ _ ⟨rfl,rfl,rfl⟩;clear hK K q1 q2 q3
 try walk_nrm
 try simp only[aa]
 obtain⟨w3,hw3⟩:∃w3,w3=w2.alloc (.cells #[.pointer none] 49):=⟨_,rfl⟩;change BN Tryz.prog BB Q 0 _ (w2.alloc (.cells #[.pointer none] 49));rw[<-hw3];have aaE:=xl (show w3.heap.size=w2.heap.size+1 by rw[hw3,aE]);have aaF:∀b,b<w2.heap.size->w3.heap[b]?=w2.heap[b]?:=λb hb=>by rw[hw3,aA,if_neg (by omega)]
 have Qh:w3.heap[w2.heap.size]?=some (.cells #[.pointer none] 49):=by rw[hw3,aA,if_pos rfl]
 clear hw3;refine af hQ hB hcs rfl rfl λK hK q1 q2 q3=>?_;have z1:=cell_of Qh 0;have z2:=qp Qh 0;go_simp;refine hK _ (w3.setCell _ _) ?_ _ ⟨rfl,rfl,rfl⟩;clear hK K q1 q2 q3
 try walk_nrm
 try simp only[aa]
 obtain⟨w4,hw4⟩:∃w4,w4=w3.setCell ⟨w2.heap.size,0,none⟩ (.pointer (some ⟨cb,0,none⟩)):=⟨_,rfl⟩;change BN Tryz.prog BB Q 0 _ (w3.setCell ⟨w2.heap.size,0,none⟩ (.pointer (some ⟨cb,0,none⟩)));rw[<-hw4];have aaG:=xl (show w4.heap.size=w3.heap.size by rw[hw4,qm]);have aaH:∀b,b≠w2.heap.size->w4.heap[b]?=w3.heap[b]?:=λb hb=>by rw[hw4,Bv hb]
 have UZ:=ql (i:=0) (u:=.pointer (some ⟨cb,0,none⟩)) Qh;rw[<-hw4] at UZ;clear hw4;refine af hQ hB hcs rfl rfl λK hK q1 q2 q3=>?_;go_simp;refine hK _ w4 ?_ _ ⟨rfl,rfl,rfl⟩;clear hK K q1 q2 q3
 try walk_nrm
 try simp only[aa]
 refine ax hQ hB hcs ?_;refine am hQ hB hcs ?_;refine am hQ hB hcs ?_;refine ay hQ hB hcs ?_;simp only[xF,xH,xK,Nat.reduceAdd,xM,List.range,List.range.loop];refine af hQ hB hcs rfl rfl λK hK q1 q2 q3=>?_;go_simp;refine hK _ w4 ?_ _ ⟨rfl,rfl,rfl⟩;clear hK K q1 q2 q3
 try walk_nrm
 try simp only[aa]
 refine af hQ hB hcs rfl rfl λK hK q1 q2 q3=>?_;go_simp;refine hK _ w4 ?_ _ ⟨rfl,rfl,rfl⟩;clear hK K q1 q2 q3
 try walk_nrm
 try simp only[aa]
 refine ax hQ hB hcs ?_;refine jf hQ hB hcs ?_;refine fJ hQ hB hcs ?_;refine am hQ hB hcs ?_;refine ay hQ hB hcs ?_;simp only[xF,xH,xK,Nat.reduceAdd,xM,List.range,List.range.loop];refine af hQ hB hcs rfl rfl λK hK q1 q2 q3=>?_;go_simp;refine hK _ w4 ?_ _ ⟨rfl,rfl,rfl⟩;clear hK K q1 q2 q3
 try walk_nrm
 try simp only[aa]
 refine af hQ hB hcs rfl rfl λK hK q1 q2 q3=>?_;go_simp;refine hK _ (w4.alloc _) ?_ _ ⟨rfl,rfl,rfl⟩;clear hK K q1 q2 q3
 try walk_nrm
 try simp only[aa]
 obtain⟨w5,Yv⟩:∃w5,w5=w4.alloc (.cells #[.nilFunc] 124):=⟨_,rfl⟩;change BN Tryz.prog BB Q 0 _ (w4.alloc (.cells #[.nilFunc] 124));rw[<-Yv];have aaI:=xl (show w5.heap.size=w4.heap.size+1 by rw[Yv,aE]);have U0:∀b,b<w4.heap.size->w5.heap[b]?=w4.heap[b]?:=λb hb=>by rw[Yv,aA,if_neg (by omega)]
 have Qi:w5.heap[w4.heap.size]?=some (.cells #[.nilFunc] 124):=by rw[Yv,aA,if_pos rfl]
 clear Yv;refine af hQ hB hcs rfl rfl λK hK q1 q2 q3=>?_;have z1:=cell_of Qi 0;have z2:=qp Qi 0;go_simp;refine hK _ (w5.setCell _ _) ?_ _ ⟨rfl,rfl,rfl⟩;clear hK K q1 q2 q3
 try walk_nrm
 try simp only[aa]
 obtain⟨w6,hw6⟩:∃w6,w6=w5.setCell ⟨w4.heap.size,0,none⟩ (.func (.func 62) #[] #[.pointer (some ⟨w2.heap.size,0,none⟩)]):=⟨_,rfl⟩;change BN Tryz.prog BB Q 0 _ (w5.setCell ⟨w4.heap.size,0,none⟩ (.func (.func 62) #[] #[.pointer (some ⟨w2.heap.size,0,none⟩)]));rw[<-hw6];have aaK:=xl (show w6.heap.size=w5.heap.size by rw[hw6,qm]);have U1:∀b,b≠w4.heap.size->w6.heap[b]?=w5.heap[b]?:=λb hb=>by rw[hw6,Bv hb]
 have U3:=ql (i:=0) (u:=.func (.func 62) #[] #[.pointer (some ⟨w2.heap.size,0,none⟩)]) Qi;rw[<-hw6] at U3;clear hw6;refine ax hQ hB hcs ?_;refine am hQ hB hcs ?_;refine ay hQ hB hcs ?_;simp only[xF,xH,xK,Nat.reduceAdd,xM,List.range,List.range.loop];refine af hQ hB hcs rfl rfl λK hK q1 q2 q3=>?_;go_simp;refine hK _ (w6.alloc _) ?_ _ ⟨rfl,rfl,rfl⟩;clear hK K q1 q2 q3
 try walk_nrm
 try simp only[aa]
 obtain⟨w7,SM⟩:∃w7,w7=w6.alloc (D8 false λ_=>0):=⟨_,rfl⟩;change BN Tryz.prog BB Q 0 _ (w6.alloc (D8 false λ_=>0));rw[<-SM];have aaL:=xl (show w7.heap.size=w6.heap.size+1 by rw[SM,aE]);have Qj:∀b,b<w6.heap.size->w7.heap[b]?=w6.heap[b]?:=λb hb=>by rw[SM,aA,if_neg (by omega)]
 have aaM:w7.heap[w6.heap.size]?=some (D8 false λ_=>0):=by rw[SM,aA,if_pos rfl]
 clear SM;refine ax hQ hB hcs ?_;refine am hQ hB hcs ?_;refine ay hQ hB hcs ?_;simp only[xF,xH,xK,Nat.reduceAdd,xM,List.range,List.range.loop];have aaN:=aaE.out;have aaO:=aaG.out;have aaP:=aaI.out;have aaQ:=aaK.out;have aaR:=aaL.out;have hq7:w7.heap[w2.heap.size]?=some (.cells #[.pointer (some ⟨cb,0,none⟩)] 49 (0,0)):=(Qj _ (by omega)).trans ((U1 _ (by omega)).trans ((U0 _ (by omega)).trans UZ))
 have hx7:w7.heap[w4.heap.size]?=some (.cells #[.func (.func 62) #[] #[.pointer (some ⟨w2.heap.size,0,none⟩)]] 124 (0,0)):=(Qj _ (by omega)).trans U3;have aaS:∀b,b<w2.heap.size->w7.heap[b]?=w2.heap[b]?:=λb hb=>(Qj _ (by omega)).trans ((U1 _ (by omega)).trans ((U0 _ (by omega)).trans ((aaH _ (by omega)).trans (aaF _ hb))));clear aaN aaO aaP aaQ aaR;refine af hQ hB hcs rfl rfl λK hK q1 q2 q3=>?_
 have z1:=cell_of hq7 0;go_simp;refine hK _ w7 ?_ _ ⟨rfl,rfl,rfl⟩;clear hK K q1 q2 q3
 try walk_nrm
 try simp only[aa]
 refine af hQ hB hcs rfl rfl λK hK q1 q2 q3=>?_;go_simp;refine hK _ w7 ?_ _ ⟨rfl,rfl,rfl⟩;clear hK K q1 q2 q3
 try walk_nrm
 try simp only[aa]
 refine aw hQ hB (by kernel_rfl) λτ d=>?_;refine aB rfl rfl (by decide) rfl Tryz.func58 (by kernel_rfl) (by kernel_rfl) ⟨Be _ _,w7,zU,?_⟩
 try walk_nrm
 have aaN:=aaE.out;have aaO:=aaG.out;have aaP:=aaI.out;have aaQ:=aaK.out;have aaR:=aaL.out;refine h cb sb cap w2.heap.size w4.heap.size w6.heap.size cur t w7 _ (hcw.keep λb hb=>aaS b (hcw.lt hb)) aaM (λp hp=>?_) ?_ rfl rfl rfl (by omega) λb hb=>(aaS b (by omega)).trans ((Qf b (by omega)).trans (Ho b hb))
 .simp only[C8,xC,xz,or_false] at hp;rcases hp with rfl|rfl
  .exact hx7
  .exact hq7
 .cases hq:hasB (BA bn bo bh cb sb cap cur t++C8 w4.heap.size w2.heap.size cb) w6.heap.size with
  |false=>rfl
  |true =>
   exfalso;rw[aW,xV] at hq;rcases hq with hq|hq
   .have:=hcw.lt hq;omega
   .simp[hasB,C8] at hq;omega
def aaT {T:Array Value}(h:T.size=27):∃y0 y1 y2 y3 y4 y5 y6 y7 y8 y9 Ge Gf Gg Gh Gi Gj Gk Gl Gm Im Io Ip Iq Ir Iu Mh Mi:Value,T=#[y0,y1,y2,y3,y4,y5,y6,y7,y8,y9,Ge,Gf,Gg,Gh,Gi,Gj,Gk,Gl,Gm,Im,Io,Ip,Iq,Ir,Iu,Mh,Mi]:=by
 obtain⟨l⟩:=T;have h:l.length=27:=h
 match l,h with
 |[y0,y1,y2,y3,y4,y5,y6,y7,y8,y9,Ge,Gf,Gg,Gh,Gi,Gj,Gk,Gl,Gm,Im,Io,Ip,Iq,Ir,Iu,Mh,Mi],_=>exact⟨y0,y1,y2,y3,y4,y5,y6,y7,y8,y9,Ge,Gf,Gg,Gh,Gi,Gj,Gk,Gl,Gm,Im,Io,Ip,Iq,Ir,Iu,Mh,Mi,rfl⟩
def qq {BB:FuncId->Bool}(hB:BB 32=true)(Mg:Fi BB){Q:Goroutine->World->Prop}(hQ:∀g w W,Bh w W->Q g w->Q g W){b0:Frame}{a0:Act}{ops:Array Oper}{i:Nat}{rest:List Nat}{k:List Item}{cs:List Frame}(hcs:cs≠[])
  {bn bo bh cb sb cap qb kb:Nat} {cur:List Value} {t:TypeId} {ρ:Bt} (Dp:∀i,i<5->ρ i<16) {w:World} (hC:Dk w bn bo bh cb sb cap cur t) (hk:w.heap[kb]?=some (D8 true ρ)) (hq:w.heap[qb]?=some (.cells #[.pointer (some ⟨cb,0,none⟩)] 49 (0,0)))
  {T:Array Value} (hT:T.size=27) (h4:T.getD 4 undef=.pointer (some ⟨qb,0,none⟩)) (h7:T.getD 7 undef=.pointer (some ⟨kb,0,none⟩))
  (h:∀(A:Option Addr) (c:Nat) (xs:List Value) (w':World) (K':Nat->Prop),AY w' (w.heap.size+1) (.slice A 3 c) (BJ ρ 3) xs->w.heap.size<=w'.heap.size->(∀b,b<w.heap.size->w'.heap[b]?=w.heap[b]?)->AO (SP Fw zV) (BK K') (.slice A 3 c) (.slice A 3 c) ->
   (∀b,K' b->∃o,w'.heap[b]?=some o/\BS (SP Fw zV) (CK AG Fw false) (BK K') o o)->BN Tryz.prog BB Q 0 (Go.Conc.G (b0.at (a0.put ((ops[i]?).bind (·.dst)) (.tuple #[.slice A 3 c,.int .i64 0])) (.inRegion ops rest::k)) cs) w') :
  BN Tryz.prog BB Q 0 (back ((base 32).at ⟨T,[]⟩ [.inRegion d6 [2],.code z6]) (b0.at a0 (.inRegion ops (i::rest)::k)::cs)) w:=by
 obtain⟨y0,y1,y2,y3,y4,y5,y6,y7,y8,y9,Ge,Gf,Gg,Gh,Gi,Gj,Gk,Gl,Gm,Im,Io,Ip,Iq,Ir,Iu,Mh,Mi,rfl⟩:=aaT hT;have h4:y4=.pointer (some ⟨qb,0,none⟩):=h4;have h7:y7=.pointer (some ⟨kb,0,none⟩):=h7;subst h4 h7;unfold back;rw[Frame.finish_at];change BN Tryz.prog BB Q 0 (G _ _) w;have Qk:(d6[2]?.bind (·.dst))=some 19:=rfl;rw[Qk]
 try walk_nrm
 have k2:=cell_of hk 2;have k3:=cell_of hk 3;have k4:=cell_of hk 4;have k5:=cell_of hk 5;have k6:=cell_of hk 6;have k7:=cell_of hk 7;have kq:=cell_of hq 0;simp only[F9,yd,List.getElem?_cons_succ,List.getElem?_cons_zero] at k2 k3 k4 k5 k6 k7 kq;refine ax hQ hB (Be _ _) ?_;have ez6:z6=ae (ae (ae (ae (ae (ae dB))))):=rfl;simp only[dB,Tryz.f32,Option.getD_some,ae] at ez6;rw[ez6];clear ez6;refine am hQ hB (Be _ _) ?_
 refine am hQ hB (Be _ _) ?_;refine ay hQ hB (Be _ _) ?_;simp only[xF,xH,xK,Nat.reduceAdd,xM,List.range,List.range.loop];refine af hQ hB (Be _ _) rfl rfl λK hK q1 q2 q3=>?_;go_simp;refine hK _ w ?_ _ ⟨rfl,rfl,rfl⟩;clear hK K q1 q2 q3
 try walk_nrm
 try simp only[aa]
 refine af hQ hB (Be _ _) rfl rfl λK hK q1 q2 q3=>?_;go_simp;refine hK _ w ?_ _ ⟨rfl,rfl,rfl⟩;clear hK K q1 q2 q3
 try walk_nrm
 try simp only[aa]
 refine af hQ hB (Be _ _) rfl rfl λK hK q1 q2 q3=>?_;go_simp;refine hK _ w ?_ _ ⟨rfl,rfl,rfl⟩;clear hK K q1 q2 q3
 try walk_nrm
 try simp only[aa]
 refine ax hQ hB (Be _ _) ?_;refine jf hQ hB (Be _ _) ?_;refine fJ hQ hB (Be _ _) ?_;refine am hQ hB (Be _ _) ?_;refine ay hQ hB (Be _ _) ?_;simp only[xF,xH,xK,Nat.reduceAdd,xM,List.range,List.range.loop];refine af hQ hB (Be _ _) rfl rfl λK hK q1 q2 q3=>?_;go_simp;refine hK _ w ?_ _ ⟨rfl,rfl,rfl⟩;clear hK K q1 q2 q3
 try walk_nrm
 try simp only[aa]
 refine af hQ hB (Be _ _) rfl rfl λK hK q1 q2 q3=>?_;go_simp;refine hK _ w ?_ _ ⟨rfl,rfl,rfl⟩;clear hK K q1 q2 q3
 try walk_nrm
 try simp only[aa]
 refine af hQ hB (Be _ _) rfl rfl λK hK q1 q2 q3=>?_;go_simp;refine hK _ w ?_ _ ⟨rfl,rfl,rfl⟩;clear hK K q1 q2 q3
 try walk_nrm
 try simp only[aa]
 refine aw hQ hB (by kernel_rfl) λτ d=>?_;refine aB rfl rfl (by decide) rfl Tryz.func26 (by kernel_rfl) (by kernel_rfl) ⟨Be _ _,w,zU,?_⟩
 try walk_nrm
 have hc0:w.cell? ⟨cb,0,none⟩=some (.slice (some ⟨bn,0,none⟩) 3 3):=cell_of (hC.obj (cb,LG bn bh sb cap,101) (by simp[BA])) 0;have lcb:cb<w.heap.size:=hC.lt ((BW _).2 (by simp));refine(dH (H:=zV) Mg).fnK (f:=26) (by decide) (by decide) (K0:=λb=>hasB (BA bn bo bh cb sb cap cur t) b=true) (Be _ _) (λ_ _=>xQ _) (xQ _) (B9 (l:=[.pointer (some ⟨cb,0,none⟩),Cc ρ]) λv hv=>?_) (λb _ hb=>by cases hb) (λb hb=>by cases hb)
  (λb hb _=>?_) hQ (R:=λv w'=>∃A c xs,v=.slice A 3 c/\AY w' (w.heap.size+1) (.slice A 3 c) (BJ ρ 3) xs/\w.heap.size<=w'.heap.size/\∀b,b<w.heap.size->w'.heap[b]?=w.heap[b]?) (λτ d=>(nk cb (some ⟨bn,0,none⟩) 3 3 ρ (on w τ d) lcb hc0 (by decide) Dp).mono ?_) ?_
 .simp only[xC,xz,or_false] at hv;rcases hv with rfl|rfl
  .exact B6.ptr (K:=λb=>hasB (BA bn bo bh cb sb cap cur t) b=true) ((BW cb).2 (by simp)) _ _
  .refine B6.agg (l:=[.int .u8 (ρ 0),.int .u8 (ρ 1),.int .u8 (ρ 2),.int .u8 (ρ 3),.int .u8 (ρ 4)]) λv hv=>?_;simp only[xC,xz,or_false] at hv;rcases hv with rfl|rfl|rfl|rfl|rfl<;>exact AO.int _ _
 .obtain⟨p,hp,rfl⟩:=E7 hb;exact⟨_,hC.obj p hp,.cells (B9 λv hv=>fQ hC.flat p hp v hv Fw zV) λi z1 z2=>⟨z1,z2⟩⟩
 .rintro e w9 ⟨A,c,xs,rfl,ho,hg⟩;exact⟨_,rfl,A,c,xs,rfl,ho,hg.size,λb hb=>hg.below.block b hb⟩
 rintro v w2 K' ⟨A,c,xs,rfl,ho,hz,hold⟩ hv _ Dj;change BN Tryz.prog BB Q 0 _ w2;rw[Frame.finish_at];simp only[yd,List.getElem?_cons_succ,List.getElem?_cons_zero,yp]
 try walk_nrm
 refine af hQ hB (Be _ _) rfl rfl λK hK q1 q2 q3=>?_;go_simp;refine hK _ w2 ?_ _ ⟨rfl,rfl,rfl⟩;clear hK K q1 q2 q3
 try walk_nrm
 try simp only[aa]
 refine af hQ hB (Be _ _) rfl rfl λK hK q1 q2 q3=>?_;go_simp;refine hK _ w2 ?_ _ ⟨rfl,rfl,rfl⟩;clear hK K q1 q2 q3
 try walk_nrm
 try simp only[aa]
 refine ax hQ hB (Be _ _) ?_;refine aw hQ hB (by kernel_rfl) λτ d=>?_;rw[stepG_ret'];simp only[goes_go];refine⟨(Be _ _),w2,zU,?_⟩;refine du hQ hB (by kernel_rfl) λτ d=>?_;refine goes_leave2 rfl rfl Tryz.func32 rfl ⟨hcs,w2,zU,?_⟩;exact h A c xs w2 K' ho hz hold hv λb hb=>Dj b hb rfl
end Go.Proofs.YtjcgijifamcggaaGreat
