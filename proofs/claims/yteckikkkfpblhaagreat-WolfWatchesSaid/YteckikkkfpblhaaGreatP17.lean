/- Parts of the proof. -/
import Derived.Test.YteckikkkfpblhaaGreatP12
import Derived.Test.YteckikkkfpblhaaGreatP06
import Derived.Test.YteckikkkfpblhaaGreatP00
import Derived.Test.YteckikkkfpblhaaGreatP16
import Derived.Test.YteckikkkfpblhaaGreatP13
import Derived.Test.YteckikkkfpblhaaGreatP02
import Derived.Test.YteckikkkfpblhaaGreatP08
set_option linter.all false
set_option maxHeartbeats 8000000
set_option maxRecDepth 20000
namespace Go.Co
open Go.AW Go.Conc Go.ConcN
structure EJ (Shun:Loc->Prop)(B d:Nat)(t:Trace):Prop where
 calm:∀said,¬Race said t
 knows:∀i x,touchAt t i=some x->x.loc.isMemory=true->Knows t 0 i\/(Shun x.loc/\x.kind=.atomic)
 handed:t.HandedOver
 deaf:Deaf t 0=d
 below:∀op∈t,op.act.low B
section
variable {Shun:Loc->Prop} {B B' d d':Nat} {t u:Trace}
def EJ.of (h:Past Shun B t):EJ Shun B 0 t:=⟨h.clean,h.known,h.over,h.hears,h.seen⟩
def EJ.past (h:EJ Shun B 0 t):Past Shun B t:=⟨h.calm,h.knows,h.handed,h.deaf,h.below⟩
def EJ.mono (h:EJ Shun B d t)(hB:B<=B'):EJ Shun B' d t:=⟨h.calm,h.knows,h.handed,h.deaf,λop hop=>MemAct.low_mono hB (h.below op hop)⟩
def Nl {t u:Trace}(ht:∀op∈t,op.act.low B)(hu:∀op∈u,op.act.low B):∀op∈t++u,op.act.low B:=λop hop=>(Array.mem_append.1 hop).elim (ht op) (hu op)
def EJ.own (h:EJ Shun B d t){fn:FuncId}{pos:String}{es:Array Event}(hes:∀e∈es,(∀x,(MemAct.ofEvent e).touch?=some x->Shun x.loc->x.kind≠.plain)/\(MemAct.ofEvent e).low B)(hd:deafBehind d es=d'):EJ Shun B d' (t++MemOp.ofEvents 0 fn pos es):=by
 have hg:∀op∈MemOp.ofEvents 0 fn pos es,op.g=0:=λop hop=>by obtain⟨e,_,rfl⟩:=Go.Conc.mem_ofEvents hop;rfl
 refine⟨λsaid=>noRace_append (h.calm said) hg λi x hx op hop y hy hc=>?_,λi x hx hm=>?_,handedOver_app h.handed λop hop=>.inl (hg op hop),by rw[Deaf_own,h.deaf];exact hd,Nl h.below λop hop=>by obtain⟨e,he,rfl⟩:=Go.Conc.mem_ofEvents hop;exact(hes e he).2⟩
 .obtain⟨e,he,rfl⟩:=Go.Conc.mem_ofEvents hop;rcases h.knows i x hx hc.2.1 with hk|⟨s1,s2⟩
  .exact hk
  .exfalso;have np:=(hes e he).1 y hy (hc.1▸s1);obtain⟨_,_,_,MU⟩:=hc;rw[s2] at MU;rcases MU with z|z|⟨_,z,_⟩
   .cases z
   .exact np z
   .cases z
 .obtain⟨z,hz,SQ⟩:=touch_of hx;rcases getElem?_append_cases hz with⟨_,hz'⟩|⟨_,YX⟩
  .exact(h.knows i x (by rw[touchAt_of hz'];exact SQ) hm).imp (·.app _) id
  .have:=knows_own hz;rw[hg z YX] at this;exact .inl this
def EJ.mute (h:EJ Shun B d t){g:Nat}(hg:g≠0){fn:FuncId}{pos:String}{es:Array Event}(hm:∀e∈es,e.mute=true):EJ Shun B d (t++MemOp.ofEvents g fn pos es):=by
 have hu:∀op∈MemOp.ofEvents g fn pos es,op.g=g/\op.act.touch?=none/\op.act.low B:=λop hop=>by
  obtain⟨e,he,rfl⟩:=Go.Conc.mem_ofEvents hop;exact⟨rfl,touch_mute (hm e he),low_mute (hm e he) B⟩
 refine⟨λsaid=>noRace_append (h.calm said) (λop hop=>(hu op hop).1) λi x _ op hop y hy _=>(by rw[(hu op hop).2.1] at hy;cases hy),λi x hx hmm=>?_,handedOver_app h.handed λop hop=>.inr (hu op hop).2.1,(Deaf_other t hg _ λop hop=>(hu op hop).1).trans h.deaf,Nl h.below λop hop=>(hu op hop).2.2⟩;obtain⟨z,hz,SQ⟩:=touch_of hx;rcases getElem?_append_cases hz with⟨_,hz'⟩|⟨_,YX⟩
 .exact(h.knows i x (by rw[touchAt_of hz'];exact SQ) hmm).imp (·.app _) id
 .rw[(hu z YX).2.1] at SQ;cases SQ
end
structure E6 (P:Program)(Dead:Nat->Prop)(d:Nat)(gs:Array Goroutine)(W:World)(t:Trace)(q:Nat->Nat):Prop where
 lv:Leavers P t gs q
 past:EJ (Gy Dead) W.heap.size d t
 quiet:Quiet (Gy Dead) t
 PI:∀(i:Nat) (op:MemOp),t[i]?=some op->op.g<gs.size
 low:∀B,Dead B->B<W.heap.size
def E6.of {P:Program}{Dead:Nat->Prop}{gs:Array Goroutine}{W:World}{t:Trace}{q:Nat->Nat}(h:Gd P Dead gs W t q):E6 P Dead 0 gs W t q:=⟨h.lv,.of h.past,h.quiet,h.PI,h.low⟩
def E6.btw {P:Program}{Dead:Nat->Prop}{gs:Array Goroutine}{W:World}{t:Trace}{q:Nat->Nat}(h:E6 P Dead 0 gs W t q):Gd P Dead gs W t q:=⟨h.lv,h.past.past,h.quiet,h.PI,h.low⟩
section
variable {P:Ba} {SB BB:FuncId->Bool} {lets:Bool} {Gn:Nat} {Dead:Nat->Prop} {Kp:EP} {dd:Nat}
def E6.at {gs:Array Goroutine}{W:World}{t:Trace}{q:Nat->Nat}(h:E6 P.b Dead dd gs W t q)(d:Nat):E6 P.b Dead dd gs (W.at d) t q:=⟨h.lv,h.past,h.quiet,h.PI,h.low⟩
def E6.slip {gs:Array Goroutine}{W:World}{t:Trace}{q:Nat->Nat}(h:E6 P.b Dead dd gs W t q){i:Nat}{g a:Goroutine}(Gm:0<i)(hi:gs[i]?=some g)(hrun:g.status=.running)(h0:gs[0]?=some a)(ha:a.status=.running)(sl:Option (Nat×Nat)) :
  ∃gs' t' q',runT P.b (crowd gs W sl) i=(.next (crowd gs' W sl),t')/\gs'.size=gs.size/\gs'[0]?=some a/\sumTo gs.size q'<sumTo gs.size q/\E6 P.b Dead dd gs' W (t++t') q':=by
 have hq:=h.lv.old i g Gm hi;have Sa:(i==0)=false:=by simp;omega
 have hlt:i<gs.size:=(xg.1 hi).1;cases VG:q i with
 |zero=>rw[VG] at hq;rw[hq.1] at hrun;cases hrun
 |succ k =>
  rw[VG] at hq;rcases hq with⟨hf,_⟩|⟨_,g',es,hm,VH,hq'⟩
  .rw[hf] at hrun;cases hrun
  have PK:=runT_crowd_go (P:=P.b) (sl:=sl) (i:=i) hi (by rw[Sa];exact VH W);have Js:sumTo gs.size (upd q i k)+(k+1)=sumTo gs.size q+k:=by
   have:=sumTo_upd q k id hlt;simpa [VG] using this
  have FM:∀op∈MemOp.ofEvents i g.frame.fn g.frame.place es,op.g=i:=λop hop=>by obtain⟨e,_,rfl⟩:=Go.Conc.mem_ofEvents hop;rfl
  refine⟨_,_,upd q i k,PK,by simp,?_,by omega,⟨λj x hj hx=>?_,λj hj=>?_⟩,h.past.mute (by omega) hm,h.quiet.app λop hop x hx hs=>?_,λj op hop=>?_,h.low⟩
  .have hne:i≠0:=by omega
   rw[xR hne,ye,h0];simp[woken_run ha]
  .by_cases S3:i=j
   .subst S3;rw[yU (by simpa using hlt)] at hx;obtain rfl:=Option.some.inj hx;rw[upd_same,Deaf_own];exact hq'
   .rw[xR S3,ye] at hx;obtain⟨y,hy,rfl⟩:=xQ.1 hx;have K9:=h.lv.old j y hj hy;rw[woken_quitsD K9,upd_ne q k (Ne.symm S3),Deaf_other t S3 _ FM];exact K9
  .rw[Deaf_other t (g':=i) (by simp at hj;omega) _ FM];exact h.lv.above j (by simpa using hj)
  .obtain⟨e,he,rfl⟩:=Go.Conc.mem_ofEvents hop;rw[touch_mute (hm e he)] at hx;cases hx
  .rcases getElem?_append_cases hop with⟨_,GD⟩|⟨_,Ey⟩
   .simpa using h.PI j op GD
   .rw[FM op Ey];simpa using hlt
def E6.fin {gs:Array Goroutine}{W W':World}{t:Trace}{q:Nat->Nat}(h:E6 P.b Dead dd gs W t q){x:Lone}{a g2:Goroutine}{Ax:AO}{w':World}{ES:Array Event}(F9:x.H.BA=false)(La:∀b B,x.β b B->Dead B->x.H b=true)
  (h0:gs[0]?=some a) (e3:stepG P.b true a W=.go g2 W' ES) (f:EF P SB lets Gn x W Ax w' W' ES.toList) (sl:Option (Nat×Nat)) :
  ∃gs' t',runT P.b (crowd gs W sl) 0=(.next (crowd gs' W' sl),t')/\gs'.size=gs.size/\gs'[0]?=some g2/\E6 P.b Dead dd gs' W' (t++t') q:=by
 have Zg:ES.toList.toArray=ES:=by simp
 have Hk:=cL f F9;rw[Zg] at Hk;have GF:=dY f F9 (k:=0) (fn:=a.frame.fn) (pos:=a.frame.place);rw[Zg] at GF;have FM:∀op∈MemOp.ofEvents 0 a.frame.fn a.frame.place ES,op.g=0:=λop hop=>by obtain⟨e,_,rfl⟩:=Go.Conc.mem_ofEvents hop;rfl
 have old:∀b B,Ax b B->B<W.heap.size->x.β b B:=λb B hb hB=>(f.new b B hb).elim id λh=>absurd h.2 (Nat.not_le.2 hB);have IY:∀b B,Ax b B->Dead B->x.H b=true:=λb B hb hd=>La b B (old b B hb (h.low B hd)) hd;have G2:∀e∈ES,∀z,(MemAct.ofEvent e).touch?=some z->¬Gy Dead z.loc:=by
  intro e he z hz ⟨b,hb,hd⟩;have hE:=f.evs F9 e (by simpa using he);cases hE with
  |@cell a A wr sy hab _ hc _ =>
   have:z.loc=.cell A:=by simp[MemAct.ofEvent,MemAct.touch?] at hz;subst hz;rfl
   rw[this] at hb;cases hb;obtain⟨n,hn,_⟩:=hc;have:=(f.rel.CG _ _ hab (IY _ _ hab hd)).1;rw[this] at hn;simp[B8] at hn
  |@obj r R wr sy _ _ =>
   have:z.loc=.obj R:=by cases wr<;>cases sy<;>simp[MemAct.ofEvent,MemAct.touch?] at hz<;>subst hz<;>rfl
   rw[this] at hb;cases hb
  |mark hm=>cases hm<;>simp[MemAct.ofEvent,MemAct.touch?] at hz
  |out =>
   have:z.loc=.output:=by simp[MemAct.ofEvent,MemAct.touch?] at hz;subst hz;rfl
   rw[this] at hb;cases hb
 have hlt:0<gs.size:=(xg.1 h0).1
 refine⟨_,_,runT_crowd_go (P:=P.b) (sl:=sl) (i:=0) h0 (by simpa using e3),by simp,by simp[hlt],
  ⟨⟨λj y hj hy=>?_,λj hj=>?_⟩,(h.past.mono f.SIZE).own (λe he=>⟨λz hz hs=>absurd hs (G2 e he z hz),?_⟩) (deafBehind_idle (λe he=>⟨(Hk e he).1,(Hk e he).2.1⟩) dd),h.quiet.app λop hop z hz hs=>?_,λj op hop=>?_,λB hB=>xl (h.low B hB) f.SIZE⟩⟩
 .have hne:0≠j:=by omega
  rw[xR hne,ye] at hy;obtain⟨z,hz,rfl⟩:=xQ.1 hy;have K9:=h.lv.old j z hj hz;rw[woken_quitsD K9,Deaf_other t (by omega) _ FM];exact K9
 .rw[Deaf_other t (g':=0) (by simp at hj;omega) _ FM];exact h.lv.above j (by simpa using hj)
 .exact GF { g:=0,fn:=a.frame.fn,pos:=a.frame.place,act:=.ofEvent e } (by rw[ofEvents_eq];exact Array.mem_map.2 ⟨e,he,rfl⟩)
 .obtain⟨e,he,rfl⟩:=Go.Conc.mem_ofEvents hop;exact absurd hs (G2 e he z hz)
 .rcases getElem?_append_cases hop with⟨_,GD⟩|⟨_,Ey⟩
  .simpa using h.PI j op GD
  .rw[FM op Ey];simpa using hlt
def E6.spec {gs:Array Goroutine}{W:World}{t:Trace}{q:Nat->Nat}(h:E6 P.b Dead dd gs W t q){a g2:Goroutine}{β:AO}{es ES:Array Event}
  (h0:gs[0]?=some a) (e3:stepG P.b true a W=.go g2 W ES) (e5:DI β es ES) (e6:∀e∈ES,∀ad,e.loc=.mark (.acquire ad)\/e.loc=.mark (.releaseMerge ad)->ad.block<W.heap.size) (sl:Option (Nat×Nat)) :
  ∃gs' t',runT P.b (crowd gs W sl) 0=(.next (crowd gs' W sl),t')/\gs'.size=gs.size/\gs'[0]?=some g2/\E6 P.b Dead (deafBehind dd es) gs' W (t++t') q:=by
 have Gl:=e5.mem;have FM:∀op∈MemOp.ofEvents 0 a.frame.fn a.frame.place ES,op.g=0:=λop hop=>by obtain⟨e,_,rfl⟩:=Go.Conc.mem_ofEvents hop;rfl
 have hlt:0<gs.size:=(xg.1 h0).1
 refine⟨_,_,runT_crowd_go (P:=P.b) (sl:=sl) (i:=0) h0 (by simpa using e3),by simp,by simp[hlt],
  ⟨⟨λj y hj hy=>?_,λj hj=>?_⟩,h.past.own (λe he=>⟨λz hz hs=>?_,e5.low e6 e he⟩) (e5.deaf dd),h.quiet.app λop hop z hz hs=>?_,λj op hop=>?_,h.low⟩⟩
 .have hne:0≠j:=by omega
  rw[xR hne,ye] at hy;obtain⟨z,hz,rfl⟩:=xQ.1 hy;have K9:=h.lv.old j z hj hz;rw[woken_quitsD K9,Deaf_other t (by omega) _ FM];exact K9
 .rw[Deaf_other t (g':=0) (by simp at hj;omega) _ FM];exact h.lv.above j (by simpa using hj)
 .rw[(Gl e he).1] at hz;cases hz
 .obtain⟨e,he,rfl⟩:=Go.Conc.mem_ofEvents hop;rw[(Gl e he).1] at hz;cases hz
 .rcases getElem?_append_cases hop with⟨_,GD⟩|⟨_,Ey⟩
  .simpa using h.PI j op GD
  .rw[FM op Ey];simpa using hlt
def Fo (lib:∀H,Lib P SB H lets BB Gn)(LN:∀(f:FuncId) (fn:Func),P.a.funcs[f]?=some fn->fn.body.isNone=true->P.fs[f]?=some fn){H:Hid}{T:List Frame}{β:AO}{Q:Goroutine->World->Prop}(K5:∀g w,Q g w->BB g.frame.fn=false\/∃f R,AW.Left P.a f R g w){os:Os}{ou:World}{n b0 B0:Nat}:∀(μ:Wm×Nat) (m:Machine) (t:Trace),
  (∃gs W sl q x a d,m=crowd gs W sl/\gs[0]?=some a/\gs.size=n/\E6 P.b Dead d gs W t q/\Tw P SB BB lets Gn Dead Kp x a W/\Br P.a BB Q d x.g x.w/\x.H=H/\x.T=T/\β.le x.β/\(W.os=os/\W.output=ou.output)/\(B0<=W.heap.size/\b0<=x.w.heap.size/\∀b B,x.β b B->β b B\/(b0<=b/\B0<=B))/\μ=(.tree Q (x.g,x.w),sumTo n q)) ->
  ∃N m' t',runNT P.b N m t=(.next m',t')/\∃gs W sl q x a,m'=crowd gs W sl/\gs[0]?=some a/\gs.size=n/\E6 P.b Dead 0 gs W t' q/\Tw P SB BB lets Gn Dead Kp x a W/\Q x.g x.w/\x.H=H/\x.T=T/\β.le x.β/\(W.os=os/\W.output=ou.output)/\(B0<=W.heap.size/\b0<=x.w.heap.size/\∀b B,x.β b B->β b B\/(b0<=b/\B0<=B)):=by
 have wf:WellFounded (Prod.Lex (Iw P.a) (·<·:Nat->Nat->Prop)):=(Prod.lex ⟨_,Iw.wf P.a⟩ Nat.lt_wfRel).wf;refine jz (P:=P.b) wf (λμ m t=>∃gs W sl q x a d,m=crowd gs W sl/\gs[0]?=some a/\gs.size=n/\E6 P.b Dead d gs W t q/\Tw P SB BB lets Gn Dead Kp x a W/\Br P.a BB Q d x.g x.w/\x.H=H/\x.T=T/\β.le x.β/\(W.os=os/\W.output=ou.output)/\(B0<=W.heap.size/\b0<=x.w.heap.size/\∀b B,x.β b B->β b B\/(b0<=b/\B0<=B))/\μ=(.tree Q (x.g,x.w),sumTo n q))
  (λm t=>∃gs W sl q x a,m=crowd gs W sl/\gs[0]?=some a/\gs.size=n/\E6 P.b Dead 0 gs W t q/\Tw P SB BB lets Gn Dead Kp x a W/\Q x.g x.w/\x.H=H/\x.T=T/\β.le x.β/\(W.os=os/\W.output=ou.output)/\(B0<=W.heap.size/\b0<=x.w.heap.size/\∀b B,x.β b B->β b B\/(b0<=b/\B0<=B))) ?_
 rintro μ m t ⟨gs,W,sl,q,x,a,d,rfl,h0,hn,hb,ht,hr,eH,eT,hle,M6,hsz,rfl⟩;have Nz:=zL hr;have I0:a.status=.running:=ht.gl.status.2;have haw:∀g∈gs,awake g:=by
  intro g hg;obtain⟨i,hi,rfl⟩:=Array.mem_iff_getElem.1 hg;rcases xV i with rfl|Gm
  .have:gs[0]=a:=by simpa [xp hi] using h0
   rw[this];exact awake_of (.inl I0)
  .exact awake_of ((hb.lv.old i _ Gm (xp hi)).status.elim .inl λx=>.inr (.inr x))
 by_cases Gi:d=0/\Q x.g x.w
 .obtain⟨rfl,hq⟩:=Gi;exact .inl ⟨gs,W,sl,q,x,a,rfl,h0,hn,hb,ht,hq,eH,eT,hle,M6,hsz⟩
 refine .inr ?_;obtain⟨i,g,e,sl',hi,hg,hst⟩:=crowd_pick (P:=P.b) (w:=W) (sl:=sl) haw ⟨0,a,h0,I0⟩;rcases xV i with rfl|Gm
 .generalize Ml:x.g=gx at hr;generalize TV:x.w=wx at hr;cases hr with
  |fin hq=>exact absurd ⟨rfl,by rw[Ml,TV];exact hq⟩ Gi
  |next ng nw f1 f2 f3 =>
   subst Ml TV;have hq:¬Q x.g x.w:=λhq=>by
    rcases K5 _ _ hq with h|⟨f,R,h⟩
    .have:=f1.1;rw[h] at this;cases this
    .obtain⟨⟨es,e9⟩,n9⟩:=f2 x.w.tape x.w.drawn;exact AW.Left.last h (_,_) ⟨x.w.tape,x.w.drawn,es,e9,n9⟩
   have Jk:=ht.at e;have hb':=hb.at e;obtain⟨g',w',es,Ax,g2,W',ES,e1,e2,e3,e4,e5⟩:=Hy (lib x.H) (main2:=true) f1 f2 Jk.gl Jk.wl;have f:EF P SB lets Gn x (W.at e) Ax w' W' ES.toList:=e5;obtain⟨gs',t',k1,k2,k3,k4⟩:=hb'.fin Jk.tw Jk.dead h0 e3 f sl';obtain⟨k5,k6⟩:=IZ f Jk.keep Jk.Cp;have IY:∀b B,Ax b B->Dead B->x.H b=true:=λb B hb1 hd=>(f.new b B hb1).elim (λh1=>ht.dead b B h1 hd) λh1=>absurd h1.2 (Nat.not_le.2 (hb'.low B hd))
   obtain⟨rfl,rfl⟩:=e2;refine⟨_,_,(.tree Q (ng (W.at e).tape (W.at e).drawn,nw (W.at e).tape (W.at e).drawn),sumTo n q),by rw[hst,k1],Prod.Lex.left _ _ ⟨.tree hq ⟨(W.at e).tape,(W.at e).drawn,es,e1,e4.callers.ne⟩,Nz⟩,gs',W',sl',q,⟨_,_,x.H,Ax,x.T⟩,g2,d,rfl,k3,k2.trans hn,k4,⟨e4,f.rel,ht.tw,IY,k5,k6⟩,f3 _ _,eH,eT,AO.le_trans hle f.le,⟨f.OS.trans M6.1,f.OUT.trans M6.2⟩,⟨xx hsz.1 f.SIZE,xx hsz.2.1 f.size,λb B hb1=>(f.new b B hb1).elim (hsz.2.2 b B) λh=>.inr ⟨xx hsz.2.1 h.1,xx hsz.1 h.2⟩⟩,rfl⟩
  |@spec _ b a' ops i0 rest k cs _ o es v f1 f2 f3 f4 f5 f6 f7 =>
   subst TV;have hq:¬Q x.g x.w:=λhq=>by
    rcases K5 _ _ hq with this|⟨f,R,w9,v9,fr,_,_,h9,_,hm,_⟩
    .rw[Ml] at this;exact absurd f1 (by rw[show b.fn=(Bx (b.at a' (.inRegion ops (i0::rest)::k)) cs).frame.fn from rfl,this];decide)
    .rw[Ml] at h9;have e9:b.at a' (.inRegion ops (i0::rest)::k)=fr:=congrArg Goroutine.frame h9;rw[<-e9] at hm;cases hm
   have Jk:=ht.at e;have hb':=hb.at e;have hg0:CI P SB x.H lets BB x.T x.β (Bx (b.at a' (.inRegion ops (i0::rest)::k)) cs) a:=Ml▸Jk.gl;obtain⟨g2,ES,e3,e4,e5,e6⟩:=KN LN (main2:=true) f1 hg0 Jk.wl f3 f4 f5 f6;obtain⟨gs',t',k1,k2,k3,k4⟩:=hb'.spec h0 e3 e5 e6 sl';refine⟨_,_,(.tree Q (Bx (b.at (a'.put o.dst v) (.inRegion ops rest::k)) cs,on x.w (W.at e).tape (W.at e).drawn),sumTo n q),by rw[hst,k1],Prod.Lex.left _ _ ⟨.tree (by have:=hq;rwa [Ml] at this) ⟨(W.at e).tape,(W.at e).drawn,es,?_,f2⟩,by rw[Ml] at Nz;exact Nz⟩,gs',W.at e,sl',q,⟨Bx (b.at (a'.put o.dst v) (.inRegion ops rest::k)) cs,on x.w (W.at e).tape (W.at e).drawn,x.H,x.β,x.T⟩,g2,deafBehind d es,rfl,k3,k2.trans hn,k4,⟨e4,Jk.wl.same rfl rfl Jk.wl.env,ht.tw,ht.dead,Jk.keep,Jk.Cp⟩,f7 _ _,eH,eT,hle,M6,hsz,rfl⟩
   exact(f6.same zC).step f3 f4 f5
 .obtain⟨gs',t',q',k1,k2,k3,k4,k5⟩:=(hb.at e).slip Gm hi hg h0 I0 sl';exact⟨_,_,(.tree Q (x.g,x.w),sumTo n q'),by rw[hst,k1],Prod.Lex.right _ (by rw[<-hn];exact k4),gs',W.at e,sl',q',x,a,d,rfl,k3,k2.trans hn,k5,ht.at e,hr,eH,eT,hle,M6,hsz,rfl⟩
end
end Go.Co
namespace Go.Proofs.Ao
open Go.RowKit Go.AW Go.Co Go.Conc Go.Sq
attribute [local go_sem] Oper.semAt_some
noncomputable def cB:Code:=Tryz.f19.body.getD .skip
noncomputable def c5:Array Oper:=Dg (aE (af (af (af (af cB)))))
noncomputable def x5:Code:=af (af (af (af (af cB))))
def tu {bn bo bh:Nat}{w:World}{SB:FuncId->Bool}(hn:w.heap[bn]?=some (.cells D9.toArray 3 (0,0)))(ho:w.heap[bo]?=some (.cells #[.int .i64 0] 3 (0,0)))(hh:w.heap[bh]?=some (.cells (EI bo).toArray 46 (0,0))) :
  ∀b,(b=bn\/b=bo\/b=bh)->∃o,w.heap[b]?=some o/\Bw (SP SB zD) (CK An SB false) (Bn λb=>b=bn\/b=bo\/b=bh) o o:=by
 rintro b (rfl|rfl|rfl)
 .refine⟨_,hn,.cells (BQ λv hv=>?_) λi h1 h2=>⟨h1,h2⟩⟩;simp only[D9,xu,xm,or_false] at hv;rcases hv with rfl|rfl|rfl<;>exact Aw.int _ _
 .refine⟨_,ho,.cells (BQ (l:=[.int .i64 0]) λv hv=>?_) λi h1 h2=>⟨h1,h2⟩⟩;simp only[xu,xm,or_false] at hv;subst hv;exact Aw.int _ _
 .refine⟨_,hh,.cells (BQ λv hv=>?_) λi h1 h2=>⟨h1,h2⟩⟩;simp only[EI,xu,xm,or_false] at hv;rcases hv with rfl|rfl|rfl|rfl|rfl|rfl|rfl|rfl|rfl|rfl|rfl|rfl<;>first|exact Aw.int _ _|exact Aw.DF _ _|exact BM.slice (.inr (.inl rfl)) _ _ _ _
def mg (bn bo bh:Nat)(w1:World)(v:Value)(w':World):Prop:=∃(cb sb cap:Nat) (cur:List Value) (t:TypeId),v=.tuple #[.pointer (some ⟨cb,0,none⟩),.int .i64 0]/\w1.heap.size<=cb/\cb<sb/\CV w' bn bo bh cb sb cap cur t/\w1.heap.size<=w'.heap.size/\∀b,b<w1.heap.size->w'.heap[b]?=w1.heap[b]?
def qH (bn bo bh:Nat){SB:FuncId->Bool}:AA (SP SB zD) (Bn λb=>b=bn\/b=bo\/b=bh) #[.agg #[.slice (some ⟨bn,0,none⟩) 3 3,.slice (some ⟨bh,0,none⟩) 3 3]] #[.agg #[.slice (some ⟨bn,0,none⟩) 3 3,.slice (some ⟨bh,0,none⟩) 3 3]] :=
 BQ (l:=[.agg #[.slice (some ⟨bn,0,none⟩) 3 3,.slice (some ⟨bh,0,none⟩) 3 3]]) λv hv=>by
  simp only[xu,xm,or_false] at hv;subst hv;refine BM.agg (l:=[.slice (some ⟨bn,0,none⟩) 3 3,.slice (some ⟨bh,0,none⟩) 3 3]) λv hv=>?_;simp only[xu,xm,or_false] at hv;rcases hv with rfl|rfl
  .exact BM.slice (.inl rfl) _ _ _ _
  .exact BM.slice (.inr (.inr rfl)) _ _ _ _
def nV {bn bo bh:Nat}{w:World}(hn:w.heap[bn]?=some (.cells D9.toArray 3 (0,0)))(ho:w.heap[bo]?=some (.cells #[.int .i64 0] 3 (0,0)))(hh:w.heap[bh]?=some (.cells (EI bo).toArray 46 (0,0)))(τ:Tape)(d:Nat) :
  Calls An 38 #[.agg #[.slice (some ⟨bn,0,none⟩) 3 3,.slice (some ⟨bh,0,none⟩) 3 3]] (on w τ d) (λe w'=>∃v,e=.returned v/\mg bn bo bh w v w'):=by
 have ln:=(xg.1 hn).1;have lo:=(xg.1 ho).1;have lh:=(xg.1 hh).1;have hb:∀i:Nat,(on w τ d).cell? ⟨bh,i,none⟩=(EI bo)[i]?:=λi=>(cell_of (W:=on w τ d) hh i).trans (by simp);have Ct:RI (on w τ d) w.heap.size (some ⟨bn,0,none⟩) AL.Aq:=λ_=>by
  refine⟨bn,0,rfl,ln,λi x hx=>?_⟩;rw[cell_of (W:=on w τ d) hn]
  match i,hx with
  |0,hx=>simp[AL,Bj] at hx;subst hx;rfl
  |1,hx=>simp[AL,Bj] at hx;subst hx;rfl
  |2,hx=>simp[AL,Bj] at hx;subst hx;rfl
  |k+3,hx=>simp[AL,Bj] at hx
 have hro:RI (on w τ d) w.heap.size (some ⟨bo,0,none⟩) [0]:=λ_=>by
  refine⟨bo,0,rfl,lo,λi x hx=>?_⟩;rw[cell_of (W:=on w τ d) ho]
  match i,hx with
  |0,hx=>simp at hx;subst hx;rfl
  |k+1,hx=>simp at hx
 have Wj:BG (on w τ d) w.heap.size (some ⟨bh,0,none⟩) AL.Ap:=λ_=>⟨bh,0,rfl,lh,λi x hx=>by
  match i,hx with
  |0,hx=>simp[AL,Bj] at hx;subst hx;exact⟨hb _,hb _,hb _,none,0,hb _,.nil⟩
  |1,hx=>simp[AL,Bj] at hx;subst hx;exact⟨hb _,hb _,hb _,_,1,hb _,hro⟩
  |2,hx=>simp[AL,Bj] at hx;subst hx;exact⟨hb _,hb _,hb _,none,0,hb _,.nil⟩
  |k+3,hx=>simp[AL,Bj] at hx⟩
 refine(kh (some ⟨bn,0,none⟩) (some ⟨bh,0,none⟩) 3 3 AL (on w τ d) w.heap.size (xh _) Ct Wj (by decide) (by decide) (by decide)).mono ?_;rintro e w' ⟨hg,Iz⟩;rw[if_pos iB] at Iz;obtain⟨cb,g,cap,rfl,hcb,Uu,hK,hF1,hF2⟩:=Iz;obtain⟨cur,t,q1,q2⟩:=hF1 _ _ _ rfl;have Nn:∀b,b<w.heap.size->w'.heap[b]?=w.heap[b]?:=λb hb=>hg.below.block b hb;refine⟨_,rfl,cb,g,cap,cur.toList,t,rfl,hcb,Uu,⟨λp hp=>?_,λi x hx=>?_,q2⟩,hg.size,Nn⟩
 .simp only[Bd,xu,xm,or_false] at hp;rcases hp with rfl|rfl|rfl|rfl|rfl
  .exact(Nn bn ln).trans hn
  .exact(Nn bo lo).trans ho
  .exact(Nn bh lh).trans hh
  .exact hF2
  .simpa using q1
 .have h1:=hK.sets i x hx;rw[cell_of q1] at h1;simpa using h1
def qI {BB:FuncId->Bool}(hB:BB 19=true)(LU:ET BB){Q:Goroutine->World->Prop}(hQ:∀g w W,AR w W->Q g w->Q g W){cs:List Frame}(hcs:cs≠[]){bn bo bh:Nat}{w:World}
  (hn:w.heap[bn]?=some (.cells D9.toArray 3 (0,0))) (ho:w.heap[bo]?=some (.cells #[.int .i64 0] 3 (0,0))) (hh:w.heap[bh]?=some (.cells (EI bo).toArray 46 (0,0)))
  (h:∀(cb sb cap nb:Nat) (cur:List Value) (t:TypeId) (w':World) (T:Array Value),CV w' bn bo bh cb sb cap cur t->w'.heap[nb]?=some (GI 0)->hasB (Bd bn bo bh cb sb cap cur t) nb=false->T.size=19->T.getD 6 undef=.pointer (some ⟨nb,0,none⟩)->w.heap.size<=w'.heap.size->(∀b,b<w.heap.size->w'.heap[b]?=w.heap[b]?) ->
   Br Tryz.prog BB Q 0 (bZ PP 39 (E3 cb (.func 40) #[] [Value.pointer (some ⟨nb,0,none⟩)].toArray) ((base 19).at ⟨T,[]⟩ [.inRegion c5 [2],.code x5]) cs) w') :
  Br Tryz.prog BB Q 0 (Go.Conc.G (Frame.enter Tryz.prog 19 #[AH (some ⟨bn,0,none⟩) (some ⟨bh,0,none⟩) AL 3 3] .normal) cs) w:=by
 rw[enter_at _ Tryz.func19 rfl];simp only[Tryz.ntmps19,xB,xz,xF,Nat.reduceAdd,Nat.reduceSub,yi,yj,yv,yn,yD,yt];unfold AH;change Br Tryz.prog BB Q 0 (G _ cs) w;have ln:AL.Aq.length=3:=rfl;have lh:AL.Ap.length=3:=rfl;rw[ln,lh];refine au hQ hB hcs ?_;refine aC hQ hB hcs ?_;simp only[xB,xz,xF,Nat.reduceAdd,xG,List.range,List.range.loop];refine ag hQ hB hcs rfl rfl λK hK q1 q2 q3=>?_
 go_simp;refine hK _ (w.alloc _) ?_ _ ⟨rfl,rfl,rfl⟩;clear hK K q1 q2 q3
 try walk_nrm
 try simp only[ab]
 obtain⟨w1,Eb⟩:∃w1,w1=w.alloc (.cells #[.slice (some ⟨bn,0,none⟩) 3 3,.slice (some ⟨bh,0,none⟩) 3 3] 25):=⟨_,rfl⟩;rw[<-Eb];have hz1:w1.heap.size=w.heap.size+1:=by rw[Eb,aI]
 have M7:w1.heap[w.heap.size]?=some (.cells #[.slice (some ⟨bn,0,none⟩) 3 3,.slice (some ⟨bh,0,none⟩) 3 3] 25 (0,0)):=by rw[Eb,aF,if_pos rfl]
 have G7:∀b,b<w.heap.size->w1.heap[b]?=w.heap[b]?:=λb hb=>by rw[Eb,aF,if_neg (by omega)]
 have hc0:w1.cell? ⟨w.heap.size,0,none⟩=some (.slice (some ⟨bn,0,none⟩) 3 3):=cell_of M7 0;have hc1:w1.cell? ⟨w.heap.size,1,none⟩=some (.slice (some ⟨bh,0,none⟩) 3 3):=cell_of M7 1;have Wk:bn<w.heap.size/\bo<w.heap.size/\bh<w.heap.size:=⟨(xg.1 hn).1,(xg.1 ho).1,(xg.1 hh).1⟩;have Ip:=(G7 bn Wk.1).trans hn;have Z2:=(G7 bo Wk.2.1).trans ho;have Tk:=(G7 bh Wk.2.2).trans hh;clear Eb;refine ag hQ hB hcs rfl rfl λK hK q1 q2 q3=>?_
 go_simp;refine hK _ w1 ?_ _ ⟨rfl,rfl,rfl⟩;clear hK K q1 q2 q3
 try walk_nrm
 try simp only[ab]
 refine ag hQ hB hcs rfl rfl λK hK q1 q2 q3=>?_;go_simp;refine hK _ w1 ?_ _ ⟨rfl,rfl,rfl⟩;clear hK K q1 q2 q3
 try walk_nrm
 try simp only[ab]
 refine aB hQ hB hcs ?_;refine au hQ hB hcs ?_;refine aC hQ hB hcs ?_;simp only[xB,xz,xF,Nat.reduceAdd,xG,List.range,List.range.loop];refine ag hQ hB hcs rfl rfl λK hK q1 q2 q3=>?_;go_simp;refine hK _ w1 ?_ _ ⟨rfl,rfl,rfl⟩;clear hK K q1 q2 q3
 try walk_nrm
 try simp only[ab]
 refine aA hQ hB (by kernel_rfl) λτ d=>?_;refine aG rfl rfl (by decide) rfl Tryz.func38 (by kernel_rfl) (by kernel_rfl) ⟨AP _ _,w1,zC,?_⟩
 try walk_nrm
 refine(dP (H:=zD) LU).fn (f:=38) (by decide) (by decide) (K0:=λb=>b=bn\/b=bo\/b=bh) hcs (λ_ _=>xK _) (xK _) (qH bn bo bh) (λb _ hb=>by cases hb) (λb hb=>by cases hb)
  (λb hb _=>tu Ip Z2 Tk b hb) hQ (R:=mg bn bo bh w1) (nV Ip Z2 Tk) ?_
 rintro v w2 ⟨cb,sb,cap,cur,t,rfl,hcb,LV,hcw,hz2,P5⟩;change Br Tryz.prog BB Q 0 _ w2;rw[Frame.finish_at];simp only[xT,List.getElem?_cons_succ,List.getElem?_cons_zero,yd]
 try walk_nrm
 refine ag hQ hB hcs rfl rfl λK hK q1 q2 q3=>?_;go_simp;refine hK _ w2 ?_ _ ⟨rfl,rfl,rfl⟩;clear hK K q1 q2 q3
 try walk_nrm
 try simp only[ab]
 refine ag hQ hB hcs rfl rfl λK hK q1 q2 q3=>?_;go_simp;refine hK _ w2 ?_ _ ⟨rfl,rfl,rfl⟩;clear hK K q1 q2 q3
 try walk_nrm
 try simp only[ab]
 refine ag hQ hB hcs rfl rfl λK hK q1 q2 q3=>?_;go_simp;refine hK _ w2 ?_ _ ⟨rfl,rfl,rfl⟩;clear hK K q1 q2 q3
 try walk_nrm
 try simp only[ab]
 refine ag hQ hB hcs rfl rfl λK hK q1 q2 q3=>?_;go_simp;refine hK _ w2 ?_ _ ⟨rfl,rfl,rfl⟩;clear hK K q1 q2 q3
 try walk_nrm
 try simp only[ab]
 refine ag hQ hB hcs rfl rfl λK hK q1 q2 q3=>?_;go_simp;refine hK _ w2 ?_ _ ⟨rfl,rfl,rfl⟩;clear hK K q1 q2 q3
 try walk_nrm
 try simp only[ab]
 refine aB hQ hB hcs ?_;refine au hQ hB hcs ?_;refine au hQ hB hcs ?_;refine aC hQ hB hcs ?_;simp only[xB,xz,xF,Nat.reduceAdd,xG,List.range,List.range.loop];refine ag hQ hB hcs rfl rfl λK hK q1 q2 q3=>?_;go_simp;refine hK _ w2 ?_ _ ⟨rfl,rfl,rfl⟩;clear hK K q1 q2 q3
 try walk_nrm
 try simp only[ab]
 refine ag hQ hB hcs rfl rfl λK hK q1 q2 q3=>?_;go_simp;refine hK _ w2 ?_ _ ⟨rfl,rfl,rfl⟩;clear hK K q1 q2 q3
 try walk_nrm
 try simp only[ab]
 refine aB hQ hB hcs ?_;refine jy hQ hB hcs ?_;refine fQ hQ hB hcs ?_;refine au hQ hB hcs ?_;refine aC hQ hB hcs ?_;simp only[xB,xz,xF,Nat.reduceAdd,xG,List.range,List.range.loop];refine ag hQ hB hcs rfl rfl λK hK q1 q2 q3=>?_;go_simp;refine hK _ (w2.alloc _) ?_ _ ⟨rfl,rfl,rfl⟩;clear hK K q1 q2 q3
 try walk_nrm
 try simp only[ab]
 obtain⟨w3,hw3⟩:∃w3,w3=w2.alloc (GI 0):=⟨_,rfl⟩;change Br Tryz.prog BB Q 0 _ (w2.alloc (GI 0));rw[<-hw3];have hz3:w3.heap.size=w2.heap.size+1:=by rw[hw3,aI]
 have UA:∀b,b<w2.heap.size->w3.heap[b]?=w2.heap[b]?:=λb hb=>by rw[hw3,aF,if_neg (by omega)]
 have ML:w3.heap[w2.heap.size]?=some (GI 0):=by rw[hw3,aF,if_pos rfl]
 clear hw3;refine aB hQ hB hcs ?_;refine au hQ hB hcs ?_;refine aC hQ hB hcs ?_;simp only[xB,xz,xF,Nat.reduceAdd,xG,List.range,List.range.loop];refine ag hQ hB hcs rfl rfl λK hK q1 q2 q3=>?_;go_simp;refine hK _ w3 ?_ _ ⟨rfl,rfl,rfl⟩;clear hK K q1 q2 q3
 try walk_nrm
 try simp only[ab]
 refine ag hQ hB hcs rfl rfl λK hK q1 q2 q3=>?_;go_simp;refine hK _ w3 ?_ _ ⟨rfl,rfl,rfl⟩;clear hK K q1 q2 q3
 try walk_nrm
 try simp only[ab]
 refine aA hQ hB (by kernel_rfl) λτ d=>?_;refine aG rfl rfl (by decide) rfl Tryz.func39 (by kernel_rfl) (by kernel_rfl) ⟨AP _ _,w3,zC,?_⟩
 try walk_nrm
 refine h cb sb cap w2.heap.size cur t w3 _ (hcw.keep λb hb=>UA b (hcw.lt hb)) ML (by
  cases hq:hasB (Bd bn bo bh cb sb cap cur t) w2.heap.size with
  |false=>rfl
  |true=>exact absurd (hcw.lt hq) (Nat.lt_irrefl _)) rfl rfl (by omega) λb hb=>(UA b (by omega)).trans ((P5 b (by omega)).trans (G7 b hb))
def Z3 {T:Array Value}(h:T.size=19):∃y0 y1 y2 y3 y4 y5 y6 y7 y8 y9 FQ FT FU FV FX FY FZ F0 F2:Value,T=#[y0,y1,y2,y3,y4,y5,y6,y7,y8,y9,FQ,FT,FU,FV,FX,FY,FZ,F0,F2]:=by
 obtain⟨l⟩:=T;have h:l.length=19:=h
 match l,h with
 |[y0,y1,y2,y3,y4,y5,y6,y7,y8,y9,FQ,FT,FU,FV,FX,FY,FZ,F0,F2],_=>exact⟨y0,y1,y2,y3,y4,y5,y6,y7,y8,y9,FQ,FT,FU,FV,FX,FY,FZ,F0,F2,rfl⟩
def pg {BB:FuncId->Bool}(hB:BB 19=true)(LU:ET BB){Q:Goroutine->World->Prop}(hQ:∀g w W,AR w W->Q g w->Q g W){b0:Frame}{a0:Act}{ops:Array Oper}{i:Nat}{rest:List Nat}{k:List Item}{cs:List Frame}(hcs:cs≠[]){nb:Nat}{n:Int}{w:World}
  (hn:w.heap[nb]?=some (GI n)) {T:Array Value} (hT:T.size=19) (h6:T.getD 6 undef=.pointer (some ⟨nb,0,none⟩))
  (h:Br Tryz.prog BB Q 0 (Go.Conc.G (b0.at (a0.put ((ops[i]?).bind (·.dst)) (.tuple #[.int .i64 n,.int .i64 0])) (.inRegion ops rest::k)) cs) w) :
  Br Tryz.prog BB Q 0 (back ((base 19).at ⟨T,[]⟩ [.inRegion c5 [2],.code x5]) (b0.at a0 (.inRegion ops (i::rest)::k)::cs)) w:=by
 obtain⟨y0,y1,y2,y3,y4,y5,y6,y7,y8,y9,FQ,FT,FU,FV,FX,FY,FZ,F0,F2,rfl⟩:=Z3 hT;have h6:y6=.pointer (some ⟨nb,0,none⟩):=h6;subst h6;unfold back;rw[Frame.finish_at];change Br Tryz.prog BB Q 0 (G _ _) w;have Z4:(c5[2]?.bind (·.dst))=some 17:=rfl;rw[Z4]
 try walk_nrm
 refine aB hQ hB (AP _ _) ?_;have ex5:x5=af (af (af (af (af cB)))):=rfl;simp only[cB,Tryz.f19,Option.getD_some,af] at ex5;rw[ex5];clear ex5;refine au hQ hB (AP _ _) ?_;refine aC hQ hB (AP _ _) ?_;simp only[xB,xz,xF,Nat.reduceAdd,xG,List.range,List.range.loop];refine aA hQ hB (by kernel_rfl) λτ d=>?_;refine aG rfl rfl (by decide) rfl Tryz.func42 (by kernel_rfl) (by kernel_rfl) ⟨AP _ _,w,zC,?_⟩
 try walk_nrm
 refine(dP (H:=zD) LU).fn (f:=42) (by decide) (by decide) (K0:=λb=>b=nb) (AP _ _) (λ_ _=>xK _) (xK _) (BQ (l:=[.pointer (some ⟨nb,0,none⟩)]) λv hv=>?_) (λb _ hb=>by cases hb) (λb hb=>by cases hb)
  (λb hb _=>⟨_,(by rw[hb];exact hn),kj (Wi n)⟩) hQ (R:=λv w'=>v=.int .i64 n/\AR w w') (λτ d=>(rE nb n (on w τ d) hn).mono ?_) ?_
 .simp only[xu,xm,or_false] at hv;subst hv;exact BM.ptr (K:=λb=>b=nb) rfl _ _
 .rintro e w9 ⟨rfl,rfl⟩;exact⟨_,rfl,rfl,zC⟩
 rintro v w2 ⟨rfl,hs2⟩;refine Br.same hQ (W:=w2) ?_ hs2;change Br Tryz.prog BB Q 0 _ w;rw[Frame.finish_at];simp only[xT,List.getElem?_cons_succ,List.getElem?_cons_zero,yd]
 try walk_nrm
 refine ag hQ hB (AP _ _) rfl rfl λK hK q1 q2 q3=>?_;go_simp;refine hK _ w ?_ _ ⟨rfl,rfl,rfl⟩;clear hK K q1 q2 q3
 try walk_nrm
 try simp only[ab]
 refine ag hQ hB (AP _ _) rfl rfl λK hK q1 q2 q3=>?_;go_simp;refine hK _ w ?_ _ ⟨rfl,rfl,rfl⟩;clear hK K q1 q2 q3
 try walk_nrm
 try simp only[ab]
 refine aB hQ hB (AP _ _) ?_;refine aA hQ hB (by kernel_rfl) λτ d=>?_;rw[stepG_ret'];simp only[goes_go];refine⟨(AP _ _),w,zC,?_⟩;refine dE hQ hB (by kernel_rfl) λτ d=>?_;refine goes_leave2 rfl rfl Tryz.func19 rfl ⟨hcs,w,zC,?_⟩;exact h
attribute [local go_sem] Oper.semAt_some
noncomputable def dB:Code:=Tryz.f21.body.getD .skip
noncomputable def d6:Array Oper:=Dg (aE (af (af (af (af (af dB))))))
noncomputable def z6:Code:=af (af (af (af (af (af dB)))))
def qJ {W:World}{b i:Nat}{a:Array Value}{u:Value}{t:TypeId}{f:Nat×Nat}(h:W.heap[b]?=some (.cells a t f)):(W.setCell ⟨b,i,none⟩ u).heap[b]?=some (.cells (a.setIfInBounds i u) t f):=by
 unfold World.setCell;simp only[ya,if_true,h]
 rfl
def A7 {W:World}{b i c:Nat}{u:Value}(h:c≠b):(W.setCell ⟨b,i,none⟩ u).heap[c]?=W.heap[c]?:=by
 unfold World.setCell;simp only[ya];rw[if_neg (λe=>h e.symm)]
def qK {W:World}{b i:Nat}{u:Value}:(W.setCell ⟨b,i,none⟩ u).heap.size=W.heap.size:=by
 unfold World.setCell;simp
def qL {W:World}{b:Nat}{l:Array Value}{t:TypeId}(h:W.heap[b]?=some (.cells l t (0,0)))(i:Nat):W.frozen? ⟨b,i,none⟩=false:=by
 unfold World.frozen?;simp[h]
def sx {BB:FuncId->Bool}(hB:BB 21=true)(LU:ET BB){Q:Goroutine->World->Prop}(hQ:∀g w W,AR w W->Q g w->Q g W){cs:List Frame}(hcs:cs≠[]){bn bo bh:Nat}{w:World}
  (hn:w.heap[bn]?=some (.cells D9.toArray 3 (0,0))) (ho:w.heap[bo]?=some (.cells #[.int .i64 0] 3 (0,0))) (hh:w.heap[bh]?=some (.cells (EI bo).toArray 46 (0,0)))
  (h:∀(cb sb cap qb xb kb:Nat) (cur:List Value) (t:TypeId) (w':World) (T:Array Value),CV w' bn bo bh cb sb cap cur t->w'.heap[kb]?=some (Ds false λ_=>0)->(∀p∈CE xb qb cb,w'.heap[p.1]?=some (.cells p.2.1.toArray p.2.2 (0,0)))->hasB (Bd bn bo bh cb sb cap cur t++CE xb qb cb) kb=false ->
   T.size=27->T.getD 4 undef=.pointer (some ⟨qb,0,none⟩)->T.getD 7 undef=.pointer (some ⟨kb,0,none⟩)->w.heap.size<=w'.heap.size->(∀b,b<w.heap.size->w'.heap[b]?=w.heap[b]?) ->
   Br Tryz.prog BB Q 0 (bZ PP 39 (E3 cb (.func 46) #[] [Value.pointer (some ⟨kb,0,none⟩),.pointer (some ⟨xb,0,none⟩)].toArray) ((base 21).at ⟨T,[]⟩ [.inRegion d6 [2],.code z6]) cs) w') :
  Br Tryz.prog BB Q 0 (Go.Conc.G (Frame.enter Tryz.prog 21 #[AH (some ⟨bn,0,none⟩) (some ⟨bh,0,none⟩) AL 3 3] .normal) cs) w:=by
 rw[enter_at _ Tryz.func21 rfl];simp only[Tryz.ntmps21,xB,xz,xF,Nat.reduceAdd,Nat.reduceSub,yi,yj,yv,yn,yD,yt];unfold AH;change Br Tryz.prog BB Q 0 (G _ cs) w;have ln:AL.Aq.length=3:=rfl;have lh:AL.Ap.length=3:=rfl;rw[ln,lh];refine au hQ hB hcs ?_;refine aC hQ hB hcs ?_;simp only[xB,xz,xF,Nat.reduceAdd,xG,List.range,List.range.loop];refine ag hQ hB hcs rfl rfl λK hK q1 q2 q3=>?_
 go_simp;refine hK _ (w.alloc _) ?_ _ ⟨rfl,rfl,rfl⟩;clear hK K q1 q2 q3
 try walk_nrm
 try simp only[ab]
 obtain⟨w1,Eb⟩:∃w1,w1=w.alloc (.cells #[.slice (some ⟨bn,0,none⟩) 3 3,.slice (some ⟨bh,0,none⟩) 3 3] 25):=⟨_,rfl⟩;rw[<-Eb];have hz1:w1.heap.size=w.heap.size+1:=by rw[Eb,aI]
 have M7:w1.heap[w.heap.size]?=some (.cells #[.slice (some ⟨bn,0,none⟩) 3 3,.slice (some ⟨bh,0,none⟩) 3 3] 25 (0,0)):=by rw[Eb,aF,if_pos rfl]
 have G7:∀b,b<w.heap.size->w1.heap[b]?=w.heap[b]?:=λb hb=>by rw[Eb,aF,if_neg (by omega)]
 have hc0:w1.cell? ⟨w.heap.size,0,none⟩=some (.slice (some ⟨bn,0,none⟩) 3 3):=cell_of M7 0;have hc1:w1.cell? ⟨w.heap.size,1,none⟩=some (.slice (some ⟨bh,0,none⟩) 3 3):=cell_of M7 1;have Wk:bn<w.heap.size/\bo<w.heap.size/\bh<w.heap.size:=⟨(xg.1 hn).1,(xg.1 ho).1,(xg.1 hh).1⟩;have Ip:=(G7 bn Wk.1).trans hn;have Z2:=(G7 bo Wk.2.1).trans ho;have Tk:=(G7 bh Wk.2.2).trans hh;clear Eb;refine ag hQ hB hcs rfl rfl λK hK q1 q2 q3=>?_
 go_simp;refine hK _ w1 ?_ _ ⟨rfl,rfl,rfl⟩;clear hK K q1 q2 q3
 try walk_nrm
 try simp only[ab]
 refine ag hQ hB hcs rfl rfl λK hK q1 q2 q3=>?_;go_simp;refine hK _ w1 ?_ _ ⟨rfl,rfl,rfl⟩;clear hK K q1 q2 q3
 try walk_nrm
 try simp only[ab]
 refine aB hQ hB hcs ?_;refine au hQ hB hcs ?_;refine aC hQ hB hcs ?_;simp only[xB,xz,xF,Nat.reduceAdd,xG,List.range,List.range.loop];refine ag hQ hB hcs rfl rfl λK hK q1 q2 q3=>?_;go_simp;refine hK _ w1 ?_ _ ⟨rfl,rfl,rfl⟩;clear hK K q1 q2 q3
 try walk_nrm
 try simp only[ab]
 refine aA hQ hB (by kernel_rfl) λτ d=>?_;refine aG rfl rfl (by decide) rfl Tryz.func38 (by kernel_rfl) (by kernel_rfl) ⟨AP _ _,w1,zC,?_⟩
 try walk_nrm
 refine(dP (H:=zD) LU).fn (f:=38) (by decide) (by decide) (K0:=λb=>b=bn\/b=bo\/b=bh) hcs (λ_ _=>xK _) (xK _) (qH bn bo bh) (λb _ hb=>by cases hb) (λb hb=>by cases hb)
  (λb hb _=>tu Ip Z2 Tk b hb) hQ (R:=mg bn bo bh w1) (nV Ip Z2 Tk) ?_
 rintro v w2 ⟨cb,sb,cap,cur,t,rfl,hcb,LV,hcw,hz2,P5⟩;change Br Tryz.prog BB Q 0 _ w2;rw[Frame.finish_at];simp only[xT,List.getElem?_cons_succ,List.getElem?_cons_zero,yd]
 try walk_nrm
 refine ag hQ hB hcs rfl rfl λK hK q1 q2 q3=>?_;go_simp;refine hK _ w2 ?_ _ ⟨rfl,rfl,rfl⟩;clear hK K q1 q2 q3
 try walk_nrm
 try simp only[ab]
 refine ag hQ hB hcs rfl rfl λK hK q1 q2 q3=>?_;go_simp;refine hK _ w2 ?_ _ ⟨rfl,rfl,rfl⟩;clear hK K q1 q2 q3
 try walk_nrm
 try simp only[ab]
 refine ag hQ hB hcs rfl rfl λK hK q1 q2 q3=>?_;go_simp;refine hK _ w2 ?_ _ ⟨rfl,rfl,rfl⟩;clear hK K q1 q2 q3
 try walk_nrm
 try simp only[ab]
 refine ag hQ hB hcs rfl rfl λK hK q1 q2 q3=>?_;go_simp;refine hK _ (w2.alloc _) ?_ _ ⟨rfl,rfl,rfl⟩;clear hK K q1 q2 q3
 try walk_nrm
 try simp only[ab]
 obtain⟨w3,hw3⟩:∃w3,w3=w2.alloc (.cells #[.pointer none] 69):=⟨_,rfl⟩;change Br Tryz.prog BB Q 0 _ (w2.alloc (.cells #[.pointer none] 69));rw[<-hw3];have Z5:=xf (show w3.heap.size=w2.heap.size+1 by rw[hw3,aI]);have Z6:∀b,b<w2.heap.size->w3.heap[b]?=w2.heap[b]?:=λb hb=>by rw[hw3,aF,if_neg (by omega)]
 have P6:w3.heap[w2.heap.size]?=some (.cells #[.pointer none] 69):=by rw[hw3,aF,if_pos rfl]
 clear hw3;refine ag hQ hB hcs rfl rfl λK hK q1 q2 q3=>?_;have z1:=cell_of P6 0;have z2:=qL P6 0;go_simp;refine hK _ (w3.setCell _ _) ?_ _ ⟨rfl,rfl,rfl⟩;clear hK K q1 q2 q3
 try walk_nrm
 try simp only[ab]
 obtain⟨w4,hw4⟩:∃w4,w4=w3.setCell ⟨w2.heap.size,0,none⟩ (.pointer (some ⟨cb,0,none⟩)):=⟨_,rfl⟩;change Br Tryz.prog BB Q 0 _ (w3.setCell ⟨w2.heap.size,0,none⟩ (.pointer (some ⟨cb,0,none⟩)));rw[<-hw4];have Z7:=xf (show w4.heap.size=w3.heap.size by rw[hw4,qK]);have Z8:∀b,b≠w2.heap.size->w4.heap[b]?=w3.heap[b]?:=λb hb=>by rw[hw4,A7 hb]
 have UB:=qJ (i:=0) (u:=.pointer (some ⟨cb,0,none⟩)) P6;rw[<-hw4] at UB;clear hw4;refine ag hQ hB hcs rfl rfl λK hK q1 q2 q3=>?_;go_simp;refine hK _ w4 ?_ _ ⟨rfl,rfl,rfl⟩;clear hK K q1 q2 q3
 try walk_nrm
 try simp only[ab]
 refine aB hQ hB hcs ?_;refine au hQ hB hcs ?_;refine au hQ hB hcs ?_;refine aC hQ hB hcs ?_;simp only[xB,xz,xF,Nat.reduceAdd,xG,List.range,List.range.loop];refine ag hQ hB hcs rfl rfl λK hK q1 q2 q3=>?_;go_simp;refine hK _ w4 ?_ _ ⟨rfl,rfl,rfl⟩;clear hK K q1 q2 q3
 try walk_nrm
 try simp only[ab]
 refine ag hQ hB hcs rfl rfl λK hK q1 q2 q3=>?_;go_simp;refine hK _ w4 ?_ _ ⟨rfl,rfl,rfl⟩;clear hK K q1 q2 q3
 try walk_nrm
 try simp only[ab]
 refine aB hQ hB hcs ?_;refine jy hQ hB hcs ?_;refine fQ hQ hB hcs ?_;refine au hQ hB hcs ?_;refine aC hQ hB hcs ?_;simp only[xB,xz,xF,Nat.reduceAdd,xG,List.range,List.range.loop];refine ag hQ hB hcs rfl rfl λK hK q1 q2 q3=>?_;go_simp;refine hK _ w4 ?_ _ ⟨rfl,rfl,rfl⟩;clear hK K q1 q2 q3
 try walk_nrm
 try simp only[ab]
 refine ag hQ hB hcs rfl rfl λK hK q1 q2 q3=>?_;go_simp;refine hK _ (w4.alloc _) ?_ _ ⟨rfl,rfl,rfl⟩;clear hK K q1 q2 q3
 try walk_nrm
 try simp only[ab]
 obtain⟨w5,XZ⟩:∃w5,w5=w4.alloc (.cells #[.nilFunc] 93):=⟨_,rfl⟩;change Br Tryz.prog BB Q 0 _ (w4.alloc (.cells #[.nilFunc] 93));rw[<-XZ];have Z9:=xf (show w5.heap.size=w4.heap.size+1 by rw[XZ,aI]);have UC:∀b,b<w4.heap.size->w5.heap[b]?=w4.heap[b]?:=λb hb=>by rw[XZ,aF,if_neg (by omega)]
 have P7:w5.heap[w4.heap.size]?=some (.cells #[.nilFunc] 93):=by rw[XZ,aF,if_pos rfl]
 clear XZ;refine ag hQ hB hcs rfl rfl λK hK q1 q2 q3=>?_;have z1:=cell_of P7 0;have z2:=qL P7 0;go_simp;refine hK _ (w5.setCell _ _) ?_ _ ⟨rfl,rfl,rfl⟩;clear hK K q1 q2 q3
 try walk_nrm
 try simp only[ab]
 obtain⟨w6,hw6⟩:∃w6,w6=w5.setCell ⟨w4.heap.size,0,none⟩ (.func (.func 43) #[] #[.pointer (some ⟨w2.heap.size,0,none⟩)]):=⟨_,rfl⟩;change Br Tryz.prog BB Q 0 _ (w5.setCell ⟨w4.heap.size,0,none⟩ (.func (.func 43) #[] #[.pointer (some ⟨w2.heap.size,0,none⟩)]));rw[<-hw6];have aab:=xf (show w6.heap.size=w5.heap.size by rw[hw6,qK]);have UD:∀b,b≠w4.heap.size->w6.heap[b]?=w5.heap[b]?:=λb hb=>by rw[hw6,A7 hb]
 have UE:=qJ (i:=0) (u:=.func (.func 43) #[] #[.pointer (some ⟨w2.heap.size,0,none⟩)]) P7;rw[<-hw6] at UE;clear hw6;refine aB hQ hB hcs ?_;refine au hQ hB hcs ?_;refine aC hQ hB hcs ?_;simp only[xB,xz,xF,Nat.reduceAdd,xG,List.range,List.range.loop];refine ag hQ hB hcs rfl rfl λK hK q1 q2 q3=>?_;go_simp;refine hK _ (w6.alloc _) ?_ _ ⟨rfl,rfl,rfl⟩;clear hK K q1 q2 q3
 try walk_nrm
 try simp only[ab]
 obtain⟨w7,Sp⟩:∃w7,w7=w6.alloc (Ds false λ_=>0):=⟨_,rfl⟩;change Br Tryz.prog BB Q 0 _ (w6.alloc (Ds false λ_=>0));rw[<-Sp];have aac:=xf (show w7.heap.size=w6.heap.size+1 by rw[Sp,aI]);have P8:∀b,b<w6.heap.size->w7.heap[b]?=w6.heap[b]?:=λb hb=>by rw[Sp,aF,if_neg (by omega)]
 have aad:w7.heap[w6.heap.size]?=some (Ds false λ_=>0):=by rw[Sp,aF,if_pos rfl]
 clear Sp;refine aB hQ hB hcs ?_;refine au hQ hB hcs ?_;refine aC hQ hB hcs ?_;simp only[xB,xz,xF,Nat.reduceAdd,xG,List.range,List.range.loop];have aae:=Z5.out;have aaf:=Z7.out;have aag:=Z9.out;have aah:=aab.out;have aai:=aac.out;have hq7:w7.heap[w2.heap.size]?=some (.cells #[.pointer (some ⟨cb,0,none⟩)] 69 (0,0)):=(P8 _ (by omega)).trans ((UD _ (by omega)).trans ((UC _ (by omega)).trans UB))
 have hx7:w7.heap[w4.heap.size]?=some (.cells #[.func (.func 43) #[] #[.pointer (some ⟨w2.heap.size,0,none⟩)]] 93 (0,0)):=(P8 _ (by omega)).trans UE;have aaj:∀b,b<w2.heap.size->w7.heap[b]?=w2.heap[b]?:=λb hb=>(P8 _ (by omega)).trans ((UD _ (by omega)).trans ((UC _ (by omega)).trans ((Z8 _ (by omega)).trans (Z6 _ hb))));clear aae aaf aag aah aai;refine ag hQ hB hcs rfl rfl λK hK q1 q2 q3=>?_
 have z1:=cell_of hq7 0;go_simp;refine hK _ w7 ?_ _ ⟨rfl,rfl,rfl⟩;clear hK K q1 q2 q3
 try walk_nrm
 try simp only[ab]
 refine ag hQ hB hcs rfl rfl λK hK q1 q2 q3=>?_;go_simp;refine hK _ w7 ?_ _ ⟨rfl,rfl,rfl⟩;clear hK K q1 q2 q3
 try walk_nrm
 try simp only[ab]
 refine aA hQ hB (by kernel_rfl) λτ d=>?_;refine aG rfl rfl (by decide) rfl Tryz.func39 (by kernel_rfl) (by kernel_rfl) ⟨AP _ _,w7,zC,?_⟩
 try walk_nrm
 have aae:=Z5.out;have aaf:=Z7.out;have aag:=Z9.out;have aah:=aab.out;have aai:=aac.out;refine h cb sb cap w2.heap.size w4.heap.size w6.heap.size cur t w7 _ (hcw.keep λb hb=>aaj b (hcw.lt hb)) aad (λp hp=>?_) ?_ rfl rfl rfl (by omega) λb hb=>(aaj b (by omega)).trans ((P5 b (by omega)).trans (G7 b hb))
 .simp only[CE,xu,xm,or_false] at hp;rcases hp with rfl|rfl
  .exact hx7
  .exact hq7
 .cases hq:hasB (Bd bn bo bh cb sb cap cur t++CE w4.heap.size w2.heap.size cb) w6.heap.size with
  |false=>rfl
  |true =>
   exfalso;rw[be,xO] at hq;rcases hq with hq|hq
   .have:=hcw.lt hq;omega
   .simp[hasB,CE] at hq;omega
def aak {T:Array Value}(h:T.size=27):∃y0 y1 y2 y3 y4 y5 y6 y7 y8 y9 FQ FT FU FV FX FY FZ F0 F2 H7 H8 H9 Ia Ib Ic LW LX:Value,T=#[y0,y1,y2,y3,y4,y5,y6,y7,y8,y9,FQ,FT,FU,FV,FX,FY,FZ,F0,F2,H7,H8,H9,Ia,Ib,Ic,LW,LX]:=by
 obtain⟨l⟩:=T;have h:l.length=27:=h
 match l,h with
 |[y0,y1,y2,y3,y4,y5,y6,y7,y8,y9,FQ,FT,FU,FV,FX,FY,FZ,F0,F2,H7,H8,H9,Ia,Ib,Ic,LW,LX],_=>exact⟨y0,y1,y2,y3,y4,y5,y6,y7,y8,y9,FQ,FT,FU,FV,FX,FY,FZ,F0,F2,H7,H8,H9,Ia,Ib,Ic,LW,LX,rfl⟩
def qM {BB:FuncId->Bool}(hB:BB 21=true)(LU:ET BB){Q:Goroutine->World->Prop}(hQ:∀g w W,AR w W->Q g w->Q g W){b0:Frame}{a0:Act}{ops:Array Oper}{i:Nat}{rest:List Nat}{k:List Item}{cs:List Frame}(hcs:cs≠[])
  {bn bo bh cb sb cap qb kb:Nat} {cur:List Value} {t:TypeId} {ρ:Bl} (CX:∀i,i<5->ρ i<16) {w:World} (hC:CV w bn bo bh cb sb cap cur t) (hk:w.heap[kb]?=some (Ds true ρ)) (hq:w.heap[qb]?=some (.cells #[.pointer (some ⟨cb,0,none⟩)] 69 (0,0)))
  {T:Array Value} (hT:T.size=27) (h4:T.getD 4 undef=.pointer (some ⟨qb,0,none⟩)) (h7:T.getD 7 undef=.pointer (some ⟨kb,0,none⟩))
  (h:∀(A:Option Addr) (c:Nat) (xs:List Value) (w':World) (K':Nat->Prop),AY w' (w.heap.size+1) (.slice A 3 c) (aX ρ 3) xs->w.heap.size<=w'.heap.size->(∀b,b<w.heap.size->w'.heap[b]?=w.heap[b]?)->Aw (SP Fj zD) (Bn K') (.slice A 3 c) (.slice A 3 c) ->
   (∀b,K' b->∃o,w'.heap[b]?=some o/\Bw (SP Fj zD) (CK An Fj false) (Bn K') o o)->Br Tryz.prog BB Q 0 (Go.Conc.G (b0.at (a0.put ((ops[i]?).bind (·.dst)) (.tuple #[.slice A 3 c,.int .i64 0])) (.inRegion ops rest::k)) cs) w') :
  Br Tryz.prog BB Q 0 (back ((base 21).at ⟨T,[]⟩ [.inRegion d6 [2],.code z6]) (b0.at a0 (.inRegion ops (i::rest)::k)::cs)) w:=by
 obtain⟨y0,y1,y2,y3,y4,y5,y6,y7,y8,y9,FQ,FT,FU,FV,FX,FY,FZ,F0,F2,H7,H8,H9,Ia,Ib,Ic,LW,LX,rfl⟩:=aak hT;have h4:y4=.pointer (some ⟨qb,0,none⟩):=h4;have h7:y7=.pointer (some ⟨kb,0,none⟩):=h7;subst h4 h7;unfold back;rw[Frame.finish_at];change Br Tryz.prog BB Q 0 (G _ _) w;have e19:(d6[2]?.bind (·.dst))=some 19:=rfl;rw[e19]
 try walk_nrm
 have k2:=cell_of hk 2;have k3:=cell_of hk 3;have k4:=cell_of hk 4;have k5:=cell_of hk 5;have k6:=cell_of hk 6;have k7:=cell_of hk 7;have kq:=cell_of hq 0;simp only[FJ,xT,List.getElem?_cons_succ,List.getElem?_cons_zero] at k2 k3 k4 k5 k6 k7 kq;refine aB hQ hB (AP _ _) ?_;have ez6:z6=af (af (af (af (af (af dB))))):=rfl;simp only[dB,Tryz.f21,Option.getD_some,af] at ez6;rw[ez6];clear ez6;refine au hQ hB (AP _ _) ?_
 refine au hQ hB (AP _ _) ?_;refine aC hQ hB (AP _ _) ?_;simp only[xB,xz,xF,Nat.reduceAdd,xG,List.range,List.range.loop];refine ag hQ hB (AP _ _) rfl rfl λK hK q1 q2 q3=>?_;go_simp;refine hK _ w ?_ _ ⟨rfl,rfl,rfl⟩;clear hK K q1 q2 q3
 try walk_nrm
 try simp only[ab]
 refine ag hQ hB (AP _ _) rfl rfl λK hK q1 q2 q3=>?_;go_simp;refine hK _ w ?_ _ ⟨rfl,rfl,rfl⟩;clear hK K q1 q2 q3
 try walk_nrm
 try simp only[ab]
 refine ag hQ hB (AP _ _) rfl rfl λK hK q1 q2 q3=>?_;go_simp;refine hK _ w ?_ _ ⟨rfl,rfl,rfl⟩;clear hK K q1 q2 q3
 try walk_nrm
 try simp only[ab]
 refine aB hQ hB (AP _ _) ?_;refine jy hQ hB (AP _ _) ?_;refine fQ hQ hB (AP _ _) ?_;refine au hQ hB (AP _ _) ?_;refine aC hQ hB (AP _ _) ?_;simp only[xB,xz,xF,Nat.reduceAdd,xG,List.range,List.range.loop];refine ag hQ hB (AP _ _) rfl rfl λK hK q1 q2 q3=>?_;go_simp;refine hK _ w ?_ _ ⟨rfl,rfl,rfl⟩;clear hK K q1 q2 q3
 try walk_nrm
 try simp only[ab]
 refine ag hQ hB (AP _ _) rfl rfl λK hK q1 q2 q3=>?_;go_simp;refine hK _ w ?_ _ ⟨rfl,rfl,rfl⟩;clear hK K q1 q2 q3
 try walk_nrm
 try simp only[ab]
 refine ag hQ hB (AP _ _) rfl rfl λK hK q1 q2 q3=>?_;go_simp;refine hK _ w ?_ _ ⟨rfl,rfl,rfl⟩;clear hK K q1 q2 q3
 try walk_nrm
 try simp only[ab]
 refine aA hQ hB (by kernel_rfl) λτ d=>?_;refine aG rfl rfl (by decide) rfl Tryz.func48 (by kernel_rfl) (by kernel_rfl) ⟨AP _ _,w,zC,?_⟩
 try walk_nrm
 have hc0:w.cell? ⟨cb,0,none⟩=some (.slice (some ⟨bn,0,none⟩) 3 3):=cell_of (hC.obj (cb,Lp bn bh sb cap,127) (by simp[Bd])) 0;have lcb:cb<w.heap.size:=hC.lt ((Bz _).2 (by simp));refine(dP (H:=zD) LU).fnK (f:=48) (by decide) (by decide) (K0:=λb=>hasB (Bd bn bo bh cb sb cap cur t) b=true) (AP _ _) (λ_ _=>xK _) (xK _) (BQ (l:=[.pointer (some ⟨cb,0,none⟩),BI ρ]) λv hv=>?_) (λb _ hb=>by cases hb) (λb hb=>by cases hb)
  (λb hb _=>?_) hQ (R:=λv w'=>∃A c xs,v=.slice A 3 c/\AY w' (w.heap.size+1) (.slice A 3 c) (aX ρ 3) xs/\w.heap.size<=w'.heap.size/\∀b,b<w.heap.size->w'.heap[b]?=w.heap[b]?) (λτ d=>(nR cb (some ⟨bn,0,none⟩) 3 3 ρ (on w τ d) lcb hc0 (by decide) CX).mono ?_) ?_
 .simp only[xu,xm,or_false] at hv;rcases hv with rfl|rfl
  .exact BM.ptr (K:=λb=>hasB (Bd bn bo bh cb sb cap cur t) b=true) ((Bz cb).2 (by simp)) _ _
  .refine BM.agg (l:=[.int .u8 (ρ 0),.int .u8 (ρ 1),.int .u8 (ρ 2),.int .u8 (ρ 3),.int .u8 (ρ 4)]) λv hv=>?_;simp only[xu,xm,or_false] at hv;rcases hv with rfl|rfl|rfl|rfl|rfl<;>exact Aw.int _ _
 .obtain⟨p,hp,rfl⟩:=EH hb;exact⟨_,hC.obj p hp,.cells (BQ λv hv=>fZ hC.flat p hp v hv Fj zD) λi z1 z2=>⟨z1,z2⟩⟩
 .rintro e w9 ⟨A,c,xs,rfl,ho,hg⟩;exact⟨_,rfl,A,c,xs,rfl,ho,hg.size,λb hb=>hg.below.block b hb⟩
 rintro v w2 K' ⟨A,c,xs,rfl,ho,hz,hold⟩ hv _ CU;change Br Tryz.prog BB Q 0 _ w2;rw[Frame.finish_at];simp only[xT,List.getElem?_cons_succ,List.getElem?_cons_zero,yd]
 try walk_nrm
 refine ag hQ hB (AP _ _) rfl rfl λK hK q1 q2 q3=>?_;go_simp;refine hK _ w2 ?_ _ ⟨rfl,rfl,rfl⟩;clear hK K q1 q2 q3
 try walk_nrm
 try simp only[ab]
 refine ag hQ hB (AP _ _) rfl rfl λK hK q1 q2 q3=>?_;go_simp;refine hK _ w2 ?_ _ ⟨rfl,rfl,rfl⟩;clear hK K q1 q2 q3
 try walk_nrm
 try simp only[ab]
 refine aB hQ hB (AP _ _) ?_;refine aA hQ hB (by kernel_rfl) λτ d=>?_;rw[stepG_ret'];simp only[goes_go];refine⟨(AP _ _),w2,zC,?_⟩;refine dE hQ hB (by kernel_rfl) λτ d=>?_;refine goes_leave2 rfl rfl Tryz.func21 rfl ⟨hcs,w2,zC,?_⟩;exact h A c xs w2 K' ho hz hold hv λb hb=>CU b hb rfl
end Go.Proofs.Ao
