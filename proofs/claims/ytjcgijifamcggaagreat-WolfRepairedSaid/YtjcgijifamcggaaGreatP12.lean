/- Parts of the proof. -/
import Derived.Test.YtjcgijifamcggaaGreatP11
import Derived.Test.YtjcgijifamcggaaGreatP00
import Derived.Test.YtjcgijifamcggaaGreatP07
import Derived.Test.YtjcgijifamcggaaGreatP06
import Derived.Test.YtjcgijifamcggaaGreatP08
import Derived.Conc.Own2
set_option linter.all false
set_option maxHeartbeats 4000000
set_option maxRecDepth 100000
namespace Go.Co
open Go.Bl Go.Conc Go.ConcN Go.Conc.Lib Go.ConcR.Gen Go.ConcN.Gen
open Go.ConcR (KK WgAt stA smA rd wr mk DC0 Bk)
def rX (p v:Value)(L:WgLink):(#[p,v]++Array.replicate ((addFn L).ntmps-(#[p,v]:Array Value).size) undef:Array Value)=#[p,v,undef,undef,undef,undef,undef,undef,undef,undef,undef,undef,undef,undef,undef,undef,undef,undef,undef,undef,undef,undef,undef,undef,undef,undef,undef,undef,undef,undef,undef,undef,undef,undef,undef,undef,undef,undef,undef,undef,undef,undef,undef,undef,undef,undef,undef,undef,undef,undef,undef,undef,undef,undef,undef,undef,undef,undef,undef,undef,undef,undef,undef,undef,undef,undef,undef,undef,undef,undef,undef,undef,undef,undef,undef,undef,undef,undef,undef,undef,undef,undef,undef,undef,undef,undef,undef,undef,undef,undef,undef,undef,undef,undef,undef,undef,undef,undef,undef,undef,undef,undef,undef,undef,undef,undef,undef,undef,undef,undef,undef,undef,undef,undef,undef,undef,undef]:=by walk_nrmf addFn
def pU (p:Value)(L:WgLink):(#[p]++Array.replicate ((waitFn L).ntmps-(#[p]:Array Value).size) undef:Array Value)=#[p,undef,undef,undef,undef,undef,undef,undef,undef,undef,undef,undef,undef,undef,undef,undef,undef,undef,undef,undef,undef,undef,undef,undef,undef,undef,undef,undef,undef,undef,undef,undef,undef,undef,undef,undef,undef,undef,undef,undef,undef,undef,undef,undef,undef,undef,undef,undef,undef,undef,undef,undef,undef,undef,undef,undef,undef,undef,undef,undef,undef,undef,undef,undef,undef,undef,undef,undef,undef,undef,undef,undef,undef,undef,undef,undef,undef,undef,undef,undef,undef,undef,undef,undef]:=by walk_nrmf waitFn
def pV (p:Value)(L:WgLink):(#[p]++Array.replicate ((doneFn L).ntmps-(#[p]:Array Value).size) undef:Array Value)=#[p,undef,undef,undef]:=by walk_nrmf doneFn
section
variable {P:Bw} {SB BB:FuncId->Bool} {lets:Bool} {Gn:Nat} {H:Hid} {T:List Frame} {β:Bc} {L:WgLink} {Wg:Nat}
def Barred (P:Bw)(SB:FuncId->Bool)(lets:Bool)(f:FuncId)(fn:Func):Prop:=∃c,P.a.funcs[f]?=some fn/\P.b.funcs[f]?=some fn/\fn.body=some c/\codeOk P.a SB lets true c=false
def Tp (S:CF)(β:Bc)(v V:Value):Prop:=∀X,AO S β v X->X=V
def Tp.undef {S:CF}:Tp S β undef undef:=λX h=>by
 unfold Go.undef at h ⊢;cases h with
 |@tuple _ x h1 _ =>
  have:x=#[]:=by simpa using h1.symm
  rw[this]
def Tp.int {S:CF}(k:IntKind)(n:Int):Tp S β (.int k n) (.int k n):=λX h=>by cases h;rfl
def Tp.ptr {S:CF}(hf:β.B8 Gn){b B:Nat}(hb:β b B)(o:Nat)(s:Option Nat):Tp S β (.pointer (some ⟨b,o,s⟩)) (.pointer (some ⟨B,o,s⟩)):=λX h=>by
 cases h with
 |ptr _ _ h=>rw[hf.fn h hb]
def gJ {f:FuncId}{fn:Func}(Er:Barred P SB lets f fn){args args':Array Value}(hs:args.size=args'.size)(hn:args.size<=fn.ntmps)(hd:∀(i:Nat) (v V:Value),args[i]?=some v->args'[i]?=some V->Tp (SP SB H) β v V){k:CallKind}{F:Frame}
  (h:Dy P SB H lets BB β (Frame.enter P.a f args k) F):F=Frame.enter P.b f args' k:=by
 obtain⟨c,h1,h2,h3,h4⟩:=Er;generalize hF:Frame.enter P.a f args k=fr at h;cases h with
 |on h =>
  exfalso;have ht:=h.todo;rw[<-hF] at ht;simp only[Frame.enter,h1,h3,yp,Option.getD_some] at ht;generalize F.todo=X at ht;cases ht with
  |cons hi _ =>
   cases hi with
   |code hc =>
    simp only[Option.isNone_none] at hc;rw[h4] at hc;cases hc
 |@stop f' a A k' _ _ _ ha =>
  have e1:f=f':=congrArg Frame.fn hF;have e2:k=k':=congrArg Frame.kind hF;subst e1 e2;have e3:args++Array.replicate (fn.ntmps-args.size) undef=a++Array.replicate (fn.ntmps-a.size) undef:=by
   have:=congrArg Frame.tmps hF;simpa [Frame.enter,h1] using this
  have e4:A++Array.replicate (fn.ntmps-A.size) undef=args'++Array.replicate (fn.ntmps-args'.size) undef:=by
   have hsz:=congrArg Array.size e3;simp only[Array.size_append,Array.size_replicate] at hsz;have hA:=ha.size;apply Array.ext_getElem?;intro i;have e5:(args++Array.replicate (fn.ntmps-args.size) undef)[i]?=(a++Array.replicate (fn.ntmps-a.size) undef)[i]?:=by rw[e3]
   rcases yf i fn.ntmps with hi|hi
   .rw[zB,zB] at e5 ⊢;have und:∀(m:Nat),i<m->(Array.replicate m undef)[i]?=some undef:=λm hm=>by rw[yr,if_pos hm]
    have val:∃v,(if i<a.size then a[i]? else(Array.replicate (fn.ntmps-a.size) undef)[i-a.size]?)=some v/\∀X,(if i<A.size then A[i]? else(Array.replicate (fn.ntmps-A.size) undef)[i-A.size]?)=some X->AO (SP SB H) β v X:=by
     by_cases PM:i<a.size
     .refine⟨a[i],by rw[if_pos PM];simp[PM],λX hX=>?_⟩;rw[if_pos (by omega)] at hX;exact ha.at_ i _ X (by simp[PM]) hX
     .refine⟨undef,by rw[if_neg PM,yr,if_pos (by omega)],λX hX=>?_⟩;rw[if_neg (by omega),yr,if_pos (by omega)] at hX;cases hX;exact AO.undef _ _
    obtain⟨v,hv,hX⟩:=val;rw[hv] at e5;have hAX:∃X,(if i<A.size then A[i]? else(Array.replicate (fn.ntmps-A.size) undef)[i-A.size]?)=some X:=by
     by_cases PM:i<A.size
     .exact⟨A[i],by rw[if_pos PM];simp[PM]⟩
     .exact⟨undef,by rw[if_neg PM,yr,if_pos (by omega)]⟩
    obtain⟨X,hXe⟩:=hAX;rw[hXe];have hr:=hX X hXe;by_cases PM:i<args.size
    .rw[if_pos PM] at e5;rw[if_pos (by omega)];have:∃V,args'[i]?=some V:=⟨args'[i],by simp[show i<args'.size by omega]⟩;obtain⟨V,hV⟩:=this;rw[hV,hd i v V e5 hV X hr]
    .rw[if_neg PM,yr,if_pos (by omega)] at e5;rw[if_neg (by omega),yr,if_pos (by omega)];have:v=undef:=(Option.some.inj e5).symm;subst this;rw[Tp.undef X hr]
   .rw[yZ (by simp;omega),yZ (by simp;omega)]
  simp only[Frame.enter,h2,yC,Option.getD_some,e4]
def H5 {fr FR:Frame}(h:Bf P.a SB H lets β fr FR)(hc:ew fr):∃(b:Frame) (a:Act) (ops:Array Oper) (i:Nat) (rest:List Nat) (k:List Item),FR=b.at a (.inRegion ops (i::rest)::k):=by
 obtain⟨h1,h2,ops,i,rest,k,h3⟩:=hc;have m:=h.mode;have r:=h.round;have t:=h.todo;rw[h1] at m;rw[h2] at r;rw[h3] at t;obtain⟨f1,f2,f3,f4,f5,f6,f7⟩:=FR;dsimp only at m r t;cases m;cases r;cases t with
 |cons hi _ =>
  cases hi
  exact⟨⟨f1,f2,[],f4,.run,f6,none⟩,⟨f2,f4⟩,ops,i,rest,_,rfl⟩
def GV {fr:Frame}{cs CS:List Frame}(h:Cl P.a SB H lets T β (fr::cs) CS)(hc:ew fr):∃FR CS',CS=FR::CS'/\Bf P.a SB H lets β fr FR/\Cl P.a SB H lets T β cs CS':=by
 cases h with
 |base =>
  obtain⟨_,_,_,_,_,_,h3⟩:=hc;simp[bad] at h3
 |cons h1 h2=>exact⟨_,_,rfl,h1,h2⟩
def gK {g G:Goroutine}(h:Dc P SB H lets BB T β g G):G=Go.Conc.G G.frame G.callers:=by
 obtain⟨a1,a2,a3,a4,a5⟩:=G;obtain⟨_,_,⟨_,s1⟩,⟨_,d1⟩,⟨_,o1⟩⟩:=h;dsimp only at *;subst s1 d1 o1
 rfl
def iN {x:Lone}{fr FR:Frame}{cs CS:List Frame}(h1:Bf P.a SB x.H lets x.β fr FR)(h2:Cl P.a SB x.H lets x.T x.β cs CS):Ch P SB BB lets { x with g:=back fr cs } (Go.Conc.G (FR.finish (.tuple #[])) CS) :=
 ⟨.on (ba h1 (.tuple rfl (by simp))),h2,⟨rfl,rfl⟩,⟨rfl,rfl⟩,⟨rfl,rfl⟩⟩
def ZT (W:WgLib P.b L)(Er:Barred P SB lets L.add (addFn L))(wl:Nat):Nb P SB BB lets Gn L.tWg Wg L.add wl T:=by
 intro x G W0 fr cs e hc hT EA hg hw Jf;have Cs:=hg.top;have hcs:=hg.callers;rw[e] at Cs hcs;obtain⟨FR,CS,V5,r1,r2⟩:=GV hcs hc;obtain⟨b,a,ops,i,rest,k,SE⟩:=H5 r1 hc;have eF:G.frame=Frame.enter P.b L.add #[.pointer (some ⟨Wg,0,none⟩),.int .i64 1] .normal:=by
  refine gJ (args:=#[Hj wl,.int .i64 1]) (args':=#[.pointer (some ⟨Wg,0,none⟩),.int .i64 1]) Er rfl (by simp[addFn]) (λj v V h1 h2=>?_) Cs
  match j,h1,h2 with
  |0,h1,h2=>cases h1;cases h2;exact .ptr hw.Cn EA 0 none
  |1,h1,h2=>cases h1;cases h2;exact .int _ _
  |j+2,h1,_=>simp at h1
 refine⟨Go.Conc.G (FR.finish (.tuple #[])) CS,150,?_,iN r1 r2⟩;rw[gK hg,eF,V5,enter_at _ W.f_add (c:=body_add L) rfl,rX,SE,Frame.finish_at];exact addPos W (b₀:=b) (a₀:=a) (k₀:=k) W0 Jf
def vz (W:WgLib P.b L)(Er:Barred P SB lets L.wait (waitFn L))(wl:Nat):jh P SB BB lets Gn L.tWg Wg L.wait wl T:=by
 intro x G W0 fr cs e hc hT EA hg hw Jf;have Cs:=hg.top;have hcs:=hg.callers;rw[e] at Cs hcs;obtain⟨FR,CS,V5,r1,r2⟩:=GV hcs hc;obtain⟨b,a,ops,i,rest,k,SE⟩:=H5 r1 hc;have eF:G.frame=Frame.enter P.b L.wait #[.pointer (some ⟨Wg,0,none⟩)] .normal:=by
  refine gJ (args:=#[Hj wl]) (args':=#[.pointer (some ⟨Wg,0,none⟩)]) Er rfl (by simp[waitFn]) (λj v V h1 h2=>?_) Cs
  match j,h1,h2 with
  |0,h1,h2=>cases h1;cases h2;exact .ptr hw.Cn EA 0 none
  |j+1,h1,_=>simp at h1
 refine⟨Go.Conc.G (FR.finish (.tuple #[])) CS,150,AnchWN L (λ_=>True) Wg FR CS,?_,λg w hA=>?_,iN r1 r2⟩
 .rw[gK hg,eF,V5,enter_at _ W.f_wait (c:=body_wait L) rfl,pU,SE];exact waitStart W (b₀:=b) (a₀:=a) (k₀:=k) W0 Jf
 .rw[SE] at hA ⊢;rw[Frame.finish_at];refine⟨?_,_,waitRound W g w hA⟩;obtain⟨_,rfl,_⟩:=hA
  rfl
def vB (W:WgLib P.b L)(Er:Barred P SB lets L.done (doneFn L)){x:Lone}{G:Goroutine}{W0:World}{c:Frame}{cs:List Frame}{wl:Nat}(e:x.g=BU (Frame.enter P.a L.done #[Hj wl] .deferred) (c::cs))(hc:c≠bad)(EA:x.β wl Wg)
  (hg:Ch P SB BB lets x G) (hw:D6 P SB lets Gn x W0) (Jf:WgLive L.tWg Wg W0) (hQ:∀C CS,Bf P.a SB x.H lets x.β c C->Cl P.a SB x.H lets x.T x.β cs CS->C.mode=.returning/\∃q,QuitsD P.b q 0 (Go.Conc.G C CS)) :
  ∃m,GW P.b L.tWg Wg false (R0 P.b L.tWg Wg) m G W0:=by
 have Cs:=hg.top;have hcs:=hg.callers;rw[e] at Cs hcs;have:∃C CS,G.callers=C::CS/\Bf P.a SB x.H lets x.β c C/\Cl P.a SB x.H lets x.T x.β cs CS:=by
  generalize G.callers=X at hcs;cases hcs with
  |base=>exact absurd rfl hc
  |cons h1 h2=>exact⟨_,_,rfl,h1,h2⟩
 obtain⟨C,CS,V5,r1,r2⟩:=this;have eF:G.frame=Frame.enter P.b L.done #[.pointer (some ⟨Wg,0,none⟩)] .deferred:=by
  refine gJ (args:=#[Hj wl]) (args':=#[.pointer (some ⟨Wg,0,none⟩)]) Er rfl (by simp[doneFn]) (λj v V h1 h2=>?_) Cs
  match j,h1,h2 with
  |0,h1,h2=>cases h1;cases h2;exact .ptr hw.Cn EA 0 none
  |j+1,h1,_=>simp at h1
 obtain⟨hm,q,hq⟩:=hQ C CS r1 r2;refine⟨153,?_⟩;rw[gK hg,eF,V5,enter_atD _ W.f_done (c:=body_done L) rfl,pV];exact done W hm hq W0 Jf
end
def GM (Dead:Nat->Prop)(l:Loc):Prop:=∃a:Addr,l=.cell a/\Dead a.block
structure Gy (P:Program)(Dead:Nat->Prop)(gs:Array Goroutine)(W:World)(t:Trace)(q:Nat->Nat):Prop where
 lv:Leavers P t gs q
 past:Past (GM Dead) W.heap.size t
 quiet:Quiet (GM Dead) t
 PN:∀(i:Nat) (op:MemOp),t[i]?=some op->op.g<gs.size
 low:∀B,Dead B->B<W.heap.size
section
variable (P:Bw) (SB BB:FuncId->Bool) (lets:Bool) (Gn:Nat)
structure Tw (Dead:Nat->Prop)(Kp:Fg)(x:Lone)(a:Goroutine)(W:World):Prop where
 gl:Ch P SB BB lets x a
 wl:D6 P SB lets Gn x W
 tw:x.H.BX=false
 dead:∀b B,x.β b B->Dead B->x.H b=true
 keep:∀B,Kp.at_ B->B<W.heap.size/\W.heap[B]?=Kp.w.heap[B]?
 CN:∀b B,x.β b B->Kp.at_ B->x.H b=true\/Ro x.w b
end
section
variable {P:Bw} {SB BB:FuncId->Bool} {lets:Bool} {Gn:Nat} {Dead:Nat->Prop} {Kp:Fg}
def Gy.at {gs:Array Goroutine}{W:World}{t:Trace}{q:Nat->Nat}(h:Gy P.b Dead gs W t q)(d:Nat):Gy P.b Dead gs (W.at d) t q:=⟨h.lv,h.past,h.quiet,h.PN,h.low⟩
def Tw.at {x:Lone}{a:Goroutine}{W:World}(h:Tw P SB BB lets Gn Dead Kp x a W)(d:Nat):Tw P SB BB lets Gn Dead Kp x a (W.at d):=⟨h.gl,h.wl.same rfl rfl h.wl.env,h.tw,h.dead,h.keep,h.CN⟩
def Gy.slip {gs:Array Goroutine}{W:World}{t:Trace}{q:Nat->Nat}(h:Gy P.b Dead gs W t q){i:Nat}{g a:Goroutine}(GD:0<i)(hi:gs[i]?=some g)(hrun:g.status=.running)(h0:gs[0]?=some a)(ha:a.status=.running)(sl:Option (Nat×Nat)) :
  ∃gs' t' q',runT P.b (crowd gs W sl) i=(.next (crowd gs' W sl),t')/\gs'.size=gs.size/\gs'[0]?=some a/\sumTo gs.size q'<sumTo gs.size q/\Gy P.b Dead gs' W (t++t') q':=by
 have hq:=h.lv.old i g GD hi;have Sw:(i==0)=false:=by simp;omega
 have hlt:i<gs.size:=(xm.1 hi).1;cases V9:q i with
 |zero=>rw[V9] at hq;rw[hq.1] at hrun;cases hrun
 |succ k =>
  rw[V9] at hq;rcases hq with⟨hf,_⟩|⟨_,g',es,hm,Wa,hq'⟩
  .rw[hf] at hrun;cases hrun
  have PO:=runT_crowd_go (P:=P.b) (sl:=sl) (i:=i) hi (by rw[Sw];exact Wa W);have PR:sumTo gs.size (upd q i k)+(k+1)=sumTo gs.size q+k:=by
   have:=sumTo_upd q k id hlt;simpa [V9] using this
  have F5:∀op∈MemOp.ofEvents i g.frame.fn g.frame.place es,op.g=i:=λop hop=>by obtain⟨e,_,rfl⟩:=Go.Conc.mem_ofEvents hop;rfl
  refine⟨_,_,upd q i k,PO,by simp,?_,by omega,⟨λj x hj hx=>?_,λj hj=>?_⟩,h.past.mute (by omega) hm,h.quiet.app λop hop x hx hs=>?_,λj op hop=>?_,h.low⟩
  .have hne:i≠0:=by omega
   rw[xX hne,yl,h0];simp[woken_run ha]
  .by_cases Tq:i=j
   .subst Tq;rw[zj (by simpa using hlt)] at hx;obtain rfl:=Option.some.inj hx;rw[upd_same,Deaf_own];exact hq'
   .rw[xX Tq,yl] at hx;obtain⟨y,hy,rfl⟩:=xW.1 hx;have KO:=h.lv.old j y hj hy;rw[woken_quitsD KO,upd_ne q k (Ne.symm Tq),Deaf_other t Tq _ F5];exact KO
  .rw[Deaf_other t (g':=i) (by simp at hj;omega) _ F5];exact h.lv.above j (by simpa using hj)
  .obtain⟨e,he,rfl⟩:=Go.Conc.mem_ofEvents hop;rw[touch_mute (hm e he)] at hx;cases hx
  .rcases getElem?_append_cases hop with⟨_,GR⟩|⟨_,EY⟩
   .simpa using h.PN j op GR
   .rw[F5 op EY];simpa using hlt
def Gy.fin {gs:Array Goroutine}{W W':World}{t:Trace}{q:Nat->Nat}(h:Gy P.b Dead gs W t q){x:Lone}{a g2:Goroutine}{AQ:Bc}{w':World}{ES:Array Event}(Gu:x.H.BX=false)(Lm:∀b B,x.β b B->Dead B->x.H b=true)
  (h0:gs[0]?=some a) (e3:stepG P.b true a W=.go g2 W' ES) (f:E5 P SB lets Gn x W AQ w' W' ES.toList) (sl:Option (Nat×Nat)) :
  ∃gs' t',runT P.b (crowd gs W sl) 0=(.next (crowd gs' W' sl),t')/\gs'.size=gs.size/\gs'[0]?=some g2/\Gy P.b Dead gs' W' (t++t') q:=by
 have ZU:ES.toList.toArray=ES:=by simp
 have GL:=cn f Gu;rw[ZU] at GL;have GU:=dO f Gu (k:=0) (fn:=a.frame.fn) (pos:=a.frame.place);rw[ZU] at GU;have F5:∀op∈MemOp.ofEvents 0 a.frame.fn a.frame.place ES,op.g=0:=λop hop=>by obtain⟨e,_,rfl⟩:=Go.Conc.mem_ofEvents hop;rfl
 have old:∀b B,AQ b B->B<W.heap.size->x.β b B:=λb B hb hB=>(f.new b B hb).elim id λh=>absurd h.2 (Nat.not_le.2 hB);have Jg:∀b B,AQ b B->Dead B->x.H b=true:=λb B hb hd=>Lm b B (old b B hb (h.low B hd)) hd;have Hk:∀e∈ES,∀z,(MemAct.ofEvent e).touch?=some z->¬GM Dead z.loc:=by
  intro e he z hz ⟨b,hb,hd⟩;have hE:=f.evs Gu e (by simpa using he);cases hE with
  |@cell a A wr sy hab _ hc _ =>
   have:z.loc=.cell A:=by simp[MemAct.ofEvent,MemAct.touch?] at hz;subst hz;rfl
   rw[this] at hb;cases hb;obtain⟨n,hn,_⟩:=hc;have:=(f.rel.Db _ _ hab (Jg _ _ hab hd)).1;rw[this] at hn;simp[Cr] at hn
  |@obj r R wr sy _ _ =>
   have:z.loc=.obj R:=by cases wr<;>cases sy<;>simp[MemAct.ofEvent,MemAct.touch?] at hz<;>subst hz<;>rfl
   rw[this] at hb;cases hb
  |mark hm=>cases hm<;>simp[MemAct.ofEvent,MemAct.touch?] at hz
  |out =>
   have:z.loc=.output:=by simp[MemAct.ofEvent,MemAct.touch?] at hz;subst hz;rfl
   rw[this] at hb;cases hb
 have hlt:0<gs.size:=(xm.1 h0).1
 refine⟨_,_,runT_crowd_go (P:=P.b) (sl:=sl) (i:=0) h0 (by simpa using e3),by simp,by simp[hlt],
  ⟨⟨λj y hj hy=>?_,λj hj=>?_⟩,(h.past.mono f.SIZE).own λe he=>⟨λz hz hs=>absurd hs (Hk e he z hz),(GL e he).1,(GL e he).2.1,?_⟩,h.quiet.app λop hop z hz hs=>?_,λj op hop=>?_,λB hB=>xx (h.low B hB) f.SIZE⟩⟩
 .have hne:0≠j:=by omega
  rw[xX hne,yl] at hy;obtain⟨z,hz,rfl⟩:=xW.1 hy;have KO:=h.lv.old j z hj hz;rw[woken_quitsD KO,Deaf_other t (by omega) _ F5];exact KO
 .rw[Deaf_other t (g':=0) (by simp at hj;omega) _ F5];exact h.lv.above j (by simpa using hj)
 .exact GU { g:=0,fn:=a.frame.fn,pos:=a.frame.place,act:=.ofEvent e } (by rw[ofEvents_eq];exact Array.mem_map.2 ⟨e,he,rfl⟩)
 .obtain⟨e,he,rfl⟩:=Go.Conc.mem_ofEvents hop;exact absurd hs (Hk e he z hz)
 .rcases getElem?_append_cases hop with⟨_,GR⟩|⟨_,EY⟩
  .simpa using h.PN j op GR
  .rw[F5 op EY];simpa using hlt
def Jh {x:Lone}{W W':World}{AQ:Bc}{w':World}{ES:List Event}(f:E5 P SB lets Gn x W AQ w' W' ES)(keep:∀B,Kp.at_ B->B<W.heap.size/\W.heap[B]?=Kp.w.heap[B]?)(CN:∀b B,x.β b B->Kp.at_ B->x.H b=true\/Ro x.w b) :
  (∀B,Kp.at_ B->B<W'.heap.size/\W'.heap[B]?=Kp.w.heap[B]?)/\∀b B,AQ b B->Kp.at_ B->x.H b=true\/Ro w' b:=by
 refine⟨λB hB=>?_,λb B hb hB=>?_⟩
 .obtain⟨k1,k3⟩:=keep B hB;refine⟨xx k1 f.SIZE,?_⟩;rw[<-k3];by_cases hx:∃b,x.β b B
  .obtain⟨b,hb⟩:=hx;rcases CN b B hb hB with h|⟨cs,ty,z,q1,q2⟩
   .exact f.hk b B hb h
   .exact(f.ro b B cs ty z hb q1 q2).2
  .exact f.KEPT B k1 λb hb=>hx ⟨b,hb⟩
 .have h0:x.β b B:=(f.new b B hb).elim id λh=>absurd h.2 (Nat.not_le.2 (keep B hB).1);exact(CN b B h0 hB).imp id λh=>h.kept f h0
def Gy.tree (lib:∀H,Lib P SB H lets BB Gn){gs:Array Goroutine}{W:World}{t:Trace}{q:Nat->Nat}(h:Gy P.b Dead gs W t q){x:Lone}{a:Goroutine}(ht:Tw P SB BB lets Gn Dead Kp x a W)(h0:gs[0]?=some a){Q:Goroutine->World->Prop}(hr:AZ P.a (B8 P.a BB) Q x.g x.w)(hq:¬Q x.g x.w)(sl:Option (Nat×Nat)) :
  ∃gs' W' t' x' a',runT P.b (crowd gs W sl) 0=(.next (crowd gs' W' sl),t')/\gs'.size=gs.size/\gs'[0]?=some a'/\Gy P.b Dead gs' W' (t++t') q/\Tw P SB BB lets Gn Dead Kp x' a' W'/\AZ P.a (B8 P.a BB) Q x'.g x'.w/\After P.a (x'.g,x'.w) (x.g,x.w)/\x'.H=x.H/\x'.T=x.T/\x.β.le x'.β/\(W'.os=W.os/\W'.output=W.output)/\W.heap.size<=W'.heap.size/\x.w.heap.size<=x'.w.heap.size/\∀b B,x'.β b B->x.β b B\/(x.w.heap.size<=b/\W.heap.size<=B):=by
 obtain⟨g',w',es,AQ,g2,W',ES,e1,e2,e3,e4,e5⟩:=Bl.follow (lib x.H) (main2:=true) hr hq ht.gl ht.wl;have f:E5 P SB lets Gn x W AQ w' W' ES.toList:=e5;obtain⟨gs',t',k1,k2,k3,k4⟩:=h.fin ht.tw ht.dead h0 e3 f sl;obtain⟨k5,k6⟩:=Jh f ht.keep ht.CN;have Jg:∀b B,AQ b B->Dead B->x.H b=true:=λb B hb hd=>(f.new b B hb).elim (λh1=>ht.dead b B h1 hd) λh1=>absurd h1.2 (Nat.not_le.2 (h.low B hd));exact⟨gs',W',t',⟨g',w',x.H,AQ,x.T⟩,g2,k1,k2,k3,k4,⟨e4,f.rel,ht.tw,Jg,k5,k6⟩,e2,⟨W.tape,W.drawn,es,e1,e4.callers.ne⟩,rfl,rfl,f.le,⟨f.OS,f.OUT⟩,f.SIZE,f.size,f.new⟩
def Ii (lib:∀H,Lib P SB H lets BB Gn){H:Hid}{T:List Frame}{β:Bc}{Q:Goroutine->World->Prop}{os:Os}{ou:World}{n b0 B0:Nat}:∀(μ:Wm×Nat) (m:Machine) (t:Trace),
  (∃gs W sl q x a,m=crowd gs W sl/\gs[0]?=some a/\gs.size=n/\Gy P.b Dead gs W t q/\Tw P SB BB lets Gn Dead Kp x a W/\AZ P.a (B8 P.a BB) Q x.g x.w/\x.H=H/\x.T=T/\β.le x.β/\(W.os=os/\W.output=ou.output)/\(B0<=W.heap.size/\b0<=x.w.heap.size/\∀b B,x.β b B->β b B\/(b0<=b/\B0<=B))/\μ=(.tree Q (x.g,x.w),sumTo n q)) ->
  ∃N m' t',runNT P.b N m t=(.next m',t')/\∃gs W sl q x a,m'=crowd gs W sl/\gs[0]?=some a/\gs.size=n/\Gy P.b Dead gs W t' q/\Tw P SB BB lets Gn Dead Kp x a W/\Q x.g x.w/\x.H=H/\x.T=T/\β.le x.β/\(W.os=os/\W.output=ou.output)/\(B0<=W.heap.size/\b0<=x.w.heap.size/\∀b B,x.β b B->β b B\/(b0<=b/\B0<=B)):=by
 have wf:WellFounded (Prod.Lex (IL P.a) (·<·:Nat->Nat->Prop)):=(Prod.lex ⟨_,IL.wf P.a⟩ Nat.lt_wfRel).wf;refine jg (P:=P.b) wf (λμ m t=>∃gs W sl q x a,m=crowd gs W sl/\gs[0]?=some a/\gs.size=n/\Gy P.b Dead gs W t q/\Tw P SB BB lets Gn Dead Kp x a W/\AZ P.a (B8 P.a BB) Q x.g x.w/\x.H=H/\x.T=T/\β.le x.β/\(W.os=os/\W.output=ou.output)/\(B0<=W.heap.size/\b0<=x.w.heap.size/\∀b B,x.β b B->β b B\/(b0<=b/\B0<=B))/\μ=(.tree Q (x.g,x.w),sumTo n q))
  (λm t=>∃gs W sl q x a,m=crowd gs W sl/\gs[0]?=some a/\gs.size=n/\Gy P.b Dead gs W t q/\Tw P SB BB lets Gn Dead Kp x a W/\Q x.g x.w/\x.H=H/\x.T=T/\β.le x.β/\(W.os=os/\W.output=ou.output)/\(B0<=W.heap.size/\b0<=x.w.heap.size/\∀b B,x.β b B->β b B\/(b0<=b/\B0<=B))) ?_
 rintro μ m t ⟨gs,W,sl,q,x,a,rfl,h0,hn,hb,ht,hr,eH,eT,hle,Nf,hsz,rfl⟩;by_cases hq:Q x.g x.w
 .exact .inl ⟨gs,W,sl,q,x,a,rfl,h0,hn,hb,ht,hq,eH,eT,hle,Nf,hsz⟩
 refine .inr ?_;have Ji:a.status=.running:=ht.gl.status.2;have haw:∀g∈gs,awake g:=by
  intro g hg;obtain⟨i,hi,rfl⟩:=Array.mem_iff_getElem.1 hg;rcases yg i with rfl|GD
  .have:gs[0]=a:=by simpa [xD hi] using h0
   rw[this];exact awake_of (.inl Ji)
  .exact awake_of ((hb.lv.old i _ GD (xD hi)).status.elim .inl λx=>.inr (.inr x))
 obtain⟨i,g,d,sl',hi,hg,hst⟩:=crowd_pick (P:=P.b) (w:=W) (sl:=sl) haw ⟨0,a,h0,Ji⟩;rcases yg i with rfl|GD
 .obtain⟨gs',W',t',x',a',k1,k2,k3,k4,k5,k6,k7,k8,k9,Wc,Yh,k12,k13,k14⟩:=(hb.at d).tree lib (ht.at d) h0 hr hq sl';exact⟨_,_,(.tree Q (x'.g,x'.w),sumTo n q),by rw[hst,k1],Prod.Lex.left _ _ ⟨.tree hq k7,Ab (BN.of hr)⟩,gs',W',sl',q,x',a',rfl,k3,k2.trans hn,k4,k5,k6,k8.trans eH,k9.trans eT,Bc.le_trans hle Wc,⟨Yh.1.trans Nf.1,Yh.2.trans Nf.2⟩,⟨xI hsz.1 k12,xI hsz.2.1 k13,λb B hb=>(k14 b B hb).elim (hsz.2.2 b B) λh=>.inr ⟨xI hsz.2.1 h.1,xI hsz.1 h.2⟩⟩,rfl⟩
 .obtain⟨gs',t',q',k1,k2,k3,k4,k5⟩:=(hb.at d).slip GD hi hg h0 Ji sl';exact⟨_,_,(.tree Q (x.g,x.w),sumTo n q'),by rw[hst,k1],Prod.Lex.right _ (by rw[<-hn];exact k4),gs',W.at d,sl',q',x,a,rfl,k3,k2.trans hn,k5,ht.at d,hr,eH,eT,hle,Nf,hsz,rfl⟩
end
open Go.ConcR (KK WgAt stA smA rd wr mk DC0 Bk)
section
variable {P:Bw} {SB BB:FuncId->Bool} {lets:Bool} {Gn:Nat} {ty Wg:Nat} {Dead Toy:Nat->Prop} {Kp:Fg} {Ψ0 Ψ2:World->Prop} {fA fW:FuncId} {wl:Nat} {Pr:Bc} {T:List Frame} {Fn:Bool->Hid->Goroutine->World->Prop}
def rY {j:Nat}{f:Nat->Nat}(h:∀i,i<j->f i=0):sumTo j f=0:=by
 induction j with
 |zero=>rfl
 |succ j ih=>simp only[sumTo];rw[ih λi hi=>h i (by omega),h j (by omega)]
def Ln {gs:Array Goroutine}{W:World}{t:Trace}{q:Nat->Nat}{sl:Option (Nat×Nat)}{x:Lone}{a:Goroutine}{tp:Bool}{k:Nat}
    (lv:Leavers P.b t gs q) (past:Past (GM Dead) Wg t) (quiet:Quiet (GM Dead) t) (UF:∀(i:Nat) (op:MemOp),t[i]?=some op->op.g<gs.size) (Lm:∀B,Dead B->B<Wg) (CG:WgAt ty Wg W 0 0) (h0:gs[0]?=some a)
    (IJ:Ch P SB BB lets x a) (EA:D6 P SB lets Gn x W) (Gu:x.H.BX=false) (hT:x.T=T) (hb:Pr.le x.β) (Hw:∀b,x.β b Wg->x.H b=true) (UG:∀b B,x.β b B->¬Dead B) (MA:∀b B,x.β b B->Toy B->x.H b=true)
    (GC:∀B,Toy B->(B≠Wg/\¬Dead B)/\¬Kp.at_ B/\B<W.heap.size) (keep:∀B,Kp.at_ B->B<W.heap.size/\B≠Wg/\W.heap[B]?=Kp.w.heap[B]?) (CN:∀b B,x.β b B->Kp.at_ B->x.H b=true\/Ro x.w b)
    (Nf:W.os=Kp.w.os/\W.output=Kp.w.output) (PG:(tp=true->Ψ0 W)/\(tp=false->Ψ2 W)) (aeP:VW P SB BB lets Gn ty Wg Toy Ψ0 Ψ2 fA fW wl Pr T Fn k tp x.H x.g x.w) (JH:gs.size+k<=Kp.bd/\Kp.bd<=2147483647) :
    ∃μ,NV P SB BB lets Gn ty Wg Dead Toy Kp Ψ0 Ψ2 fA fW wl Pr T Fn (gs.size-1) μ (crowd gs W sl) t:=by
  have hgp:0<gs.size:=(xm.1 h0).1;have hWg:Wg<W.heap.size:=(xm.1 CG).1;obtain⟨j,hj⟩:∃j,gs.size=j+1:=⟨gs.size-1,by omega⟩;rw[show gs.size-1=j by omega];obtain⟨ts,NT⟩:∃ts:TS,ts=if tp then .start else .done:=⟨_,rfl⟩
  have NM:ts.tp=tp:=by rw[NT];cases tp<;>rfl
  have aeR:∀(i:Nat) (y:Touch),touchAt t i=some y->∀b:Addr,y.loc=.cell b->b.block≠Wg:=by
    intro i y hy b hb e;obtain⟨op,hop,hoy⟩:=touch_of hy;have C7:=past.seen op (xY hop);have key:∀(act:MemAct) (y:Touch),act.touch?=some y->act.low Wg->y.loc=.cell b->False:=by
      intro act y hy C7 hb;cases act with
      |access ev =>
        simp only[MemAct.touch?,Option.some.injEq] at hy;subst hy;obtain⟨loc,wr,sy⟩:=ev;simp only at hb;subst hb;simp only[MemAct.low,Loc.low] at C7;omega
      |mark m =>
        cases m<;>simp[MemAct.touch?] at hy
        all_goals
          subst hy;simp only[Loc.cell.injEq] at hb;subst hb;simp only[MemAct.low] at C7;omega
      |_=>simp[MemAct.touch?] at hy
    exact key op.act y hoy C7 hb
  let L:Nat->Option Lone:=put (λ_=>none) 0 (some x)
  have Hi:∀ {i y},L i=some y->i=0/\y=x:=λ{i y} e=>by
    by_cases e':i=0
    · subst e';simp only[L,Bg,Option.some.injEq] at e;exact⟨rfl,e.symm⟩
    · simp only[L,Bv _ _ e'] at e;cases e
  have rdx:∀k l,KN Toy L ts.tp k l->k=0/\l.isMemory=true/\¬GM Dead l:=by
    rintro k l (⟨y,hy,b,B,h1,h2,h4⟩|⟨h1,_,B,h2,h4⟩)
    · obtain⟨rfl,rfl⟩:=Hi hy
      refine⟨rfl,E6 h4,?_⟩;rintro⟨c,rfl,hd⟩;have e:c.block=B:=h4;exact UG b B h1 (e▸hd)
    · refine⟨h1,E6 h4,?_⟩
      rintro⟨c,rfl,hd⟩;have e:c.block=B:=h4;exact(GC B h2).1.2 (e▸hd)
  let D:Nat->WD:=λi=>⟨1,0,Deaf t (i+1)⟩
  have hV:Vc j D=0:=rY λi _=>rfl
  refine⟨((k,9,.tree (IK P SB BB lets Gn ty Wg Toy Ψ0 Ψ2 fA fW wl Pr T Fn k tp x.H) (x.g,x.w)),(List.range j).map (λi=>Wm.st 1 (q (i+1))),(0,0)),j,gs,W,sl,D,λi=>.st 1 (q (i+1)),λ_=>false,L,ts,λ_=>0,0,0,.sp 0 5,0,λ_=>0,0,x,a,rfl,
    ⟨⟨hj,λi hi=>?_,⟨λi y hy=>?_,λi y hy=>?_,λi y hy=>?_,λi y hy=>?_,λi y hy _=>?_,λi i' y y' hne hy hy'=>?_,⟨hWg,λB hB=>Nat.lt_trans (Lm B hB) hWg,λB hB=>(GC B hB).2.2⟩,λB hB=>(GC B hB).1,keep,λi y hy=>?_,λB hB=>(GC B hB).2.1,Nf⟩,?_,λop hop=>?_,λi hi=>rfl,λi hi h2=>by omega,CG,λi _ h=>(by cases h),λk h=>?_,⟨λh=>PG.1 ?_,λh=>PG.2 ?_⟩,λi hi=>Bv _ _ (by omega),λi _=>rfl,xp _⟩,
      by rw[NM];exact .free aeP hb hT IJ,Bg _ _ _,h0,past.hears,?_,λe=>by simp at e,by simp only;omega⟩,by simp⟩
  · have hlt:i+1<gs.size:=by omega
    refine⟨gs[i+1],xD hlt,?_⟩;have:L (i+1)=none:=Bv _ _ (by omega);rw[this];exact .quit (lv.old (i+1) _ (by omega) (xD hlt))
  · obtain⟨rfl,rfl⟩:=Hi hy;exact EA
  · obtain⟨rfl,rfl⟩:=Hi hy;exact Gu
  · obtain⟨rfl,rfl⟩:=Hi hy;exact Hw
  · obtain⟨rfl,rfl⟩:=Hi hy;exact UG
  · obtain⟨rfl,rfl⟩:=Hi hy;exact MA
  · obtain⟨rfl,rfl⟩:=Hi hy
    obtain⟨rfl,rfl⟩:=Hi hy';exact absurd rfl hne
  · obtain⟨rfl,rfl⟩:=Hi hy;exact CN
  · have t0 := AD (Sh := M9 Dead Wg) (Wr := OM Toy L ts.tp) (Rd := KN Toy L ts.tp) (N := j + 1) (Pd := fun _ _ => False) (a := stA Wg) past (fun l hl => by
        obtain⟨c,rfl,h|h⟩:=hl
        · exact .inl ⟨c,rfl,h⟩
        · exact .inr ⟨c,rfl,by omega⟩) (λl hl=>by obtain⟨c,rfl,h⟩:=hl;exact⟨c,rfl,.inl h⟩) (λi op y hi hy hs=>by
        obtain⟨c,hc,h|h⟩:=hs
        · exact quiet i op y hi hy ⟨c,hc,h⟩
        · exact absurd h (aeR i y (by rw[touchAt_of hi];exact hy) c hc)) (xp _) (λi op hi=>by have:=UF i op hi;omega) (by omega) (λk l h=>rdx k l (fK h)) rdx
    exact t0.VO λ_ _ _ h=>h.elim
  · exact MemAct.low_mono (Nat.le_of_lt hWg) (past.seen op hop)
  · rw[NT] at h;cases tp<;>cases h
  · rw[NT] at h
    cases tp with
    |true=>rfl
    |false=>cases h
  · rw[NT] at h
    cases tp with
    |true=>cases h
    |false=>rfl
  · have:=ConcN.Mode.opn (j:=j) (D:=D) (tag:=.sp 0 5) trivial (λi _=>.inr (.inr (.inr rfl))) (by simp)
    rw[hV] at this;simpa [pend] using this
end
def cA (p:Program):Frame:={ (default:Frame) with fn:=p.funcs.size,defers:=[],mode:=.panicking [goexitEntry] }
def ku {p:Program} {f:FuncId} {fn:Func} (hf:p.funcs[f]?=some fn) (hname:(fn.name == "runtime.NumGoroutine")=false) {c:Code} (hb:fn.body=some c) (cc:Array Value) (W:World) :
  stepG p false (born p ⟨.fn (.func f) cc,#[]⟩) W=.go (Go.Conc.G (Frame.enter p f cc .deferred) [cA p]) W #[]:=by
 have h1:¬fn.name = "runtime.NumGoroutine":=by simpa using hname
 simp[born,stepG,unwind,callDeferred,invoke,callFunc,hf,h1,hb,GStep.after,seen_none,cA,Go.Conc.G]
def pW {p:Program}{C:Frame}{fn:Func}(hf:p.funcs[C.fn]?=some fn)(hr:fn.results=#[])(hm:C.mode=.returning)(hd:C.defers=[])(hk:C.kind=.deferred):QuitsD p 2 0 (Go.Conc.G C [cA p]):=by
 refine .inr ⟨rfl,Go.Conc.G (cA p) [],#[],by simp,λw=>?_,.inr ⟨rfl,{ frame:=cA p,callers:=[],status:=.finished,dying:=none },#[],by simp,λw=>?_,⟨rfl,rfl⟩⟩⟩
 .obtain⟨a1,a2,a3,a4,a5,a6,a7⟩:=C;dsimp only at hf hm hd hk;subst hm hd hk;simp[Go.Conc.G,stepG,unwind,hf,results_none hr,events_results_none hr,doReturn,cA,goexitEntry,GStep.after,seen_none]
 .simp[Go.Conc.G,stepG,unwind,cA,goexitEntry,Frame.catches];rfl
def tQ {p:Program}{m:Bool}{b:Frame}{a:Act}{ops:Array Oper}{i:Nat}{rest:List Nat}{o:Oper}{k:List Item}{cs:List Frame}{w:World}{f:FuncId}{cc:Array Value}{t:Tmp}(ho:ops[i]?=some o)(hop:o.op=.go { callee:=.value (.tmp t),args:=#[],argTypes:=#[] })(hd:o.dst=none)
  (hw:Region.wanted o (yielded ops a.tmps)=true) (hk:b.kind≠.early) (ht:a.eval (.tmp t)=.func (.func f) #[] cc) :
  stepG p m (Go.Conc.G (b.at a (.inRegion ops (i::rest)::k)) cs) w=.spawn (Go.Conc.G (b.at a (.inRegion ops rest::k)) cs) (born p ⟨.fn (.func f) cc,#[]⟩) w #[]:=by
 have h1:(execOp a.eval o).run p w=.ok (.spawn ⟨.fn (.func f) cc,#[]⟩) w:=by simp[execOp,resolve,hop,ht,Deferred.ofValue]
 have h2:(execOp a.eval o).events p w #[]=#[]:=by simp[execOp,resolve,hop,ht,Deferred.ofValue]
 rw[stepG_spawn ho hw hk h1 rfl];have h3:listed p b.fn a o w=#[]:=by unfold listed;rw[h2];exact seen_none _ _
 have h4:a.put o.dst undef=a:=by rw[hd];rfl
 rw[h3,h4]
section
variable {P:Bw} {SB BB:FuncId->Bool} {lets:Bool} {Gn:Nat} {Wg:Nat} {Toy:Nat->Prop}
structure Ks (P:Bw)(SB BB:FuncId->Bool)(lets:Bool)(x:Lone)(G:Goroutine)(b:Frame)(a:Act)(ops:Array Oper)(i:Nat)(k:List Item)(f:FuncId)(cc:Array Value)(t:Tmp)(fn:Func)(c:Code):Prop where
 g:x.g=Go.Conc.G (b.at a (.inRegion ops [i]::k)) [bad]
 bb:BB b.fn=true
 op:∃o,ops[i]?=some o/\o.op=.go { callee:=.value (.tmp t),args:=#[],argTypes:=#[] }/\o.dst=none/\o.guard=none
 ke:b.kind≠.early
 ht:a.eval (.tmp t)=.func (.func f) #[] cc
 hf:P.a.funcs[f]?=some fn/\P.b.funcs[f]?=some fn/\(fn.name == "runtime.NumGoroutine")=false/\fn.body=some c
 sb:SB f=true
def mC {o:Oper}(h:o.guard=none)(y:Nat->Option Bool):Region.wanted o y=true:=by
 unfold Region.wanted;rw[h]
def Jj {x:Lone}{G:Goroutine}{W:World}{b:Frame}{a:Act}{ops:Array Oper}{i:Nat}{k:List Item}{f:FuncId}{cc:Array Value}{t:Tmp}{fn:Func}{c:Code}(h:Ks P SB BB lets x G b a ops i k f cc t fn c)
  (hg:Ch P SB BB lets x G) :
  ∃G' CC,stepG P.b true G W=.spawn G' (born P.b ⟨.fn (.func f) CC,#[]⟩) W #[]/\Ch P SB BB lets { x with g:=Go.Conc.G (b.at a (.inRegion ops []::k)) [bad] } G'/\AU (SP SB x.H) x.β cc CC:=by
 obtain⟨o,o1,o2,o3,o4⟩:=h.op;have Cs:=hg.top.Gb (by rw[h.g];exact h.bb);have hcs:=hg.callers;rw[h.g] at Cs hcs;have IH:Bf P.a SB x.H lets x.β (b.at a (.inRegion ops [i]::k)) G.frame:=Cs;obtain⟨B,A,PS,i2,Ng,K2,SE⟩:=H5 IH ⟨rfl,rfl,ops,i,[],k,rfl⟩;have X8:=IH.todo;rw[SE] at X8;have aeS:PS=ops/\i2::Ng=[i]:=by
  cases X8 with
  |cons hi _=>cases hi;exact⟨rfl,rfl⟩
 obtain⟨rfl,e2⟩:=aeS;simp only[List.cons.injEq] at e2;obtain⟨rfl,rfl⟩:=e2;have X1:AO (SP SB x.H) x.β (a.eval (.tmp t)) (A.eval (.tmp t)):=by
  have:=IH.tmps;rw[SE] at this;exact this.getD t (AO.undef _ _)
 rw[h.ht] at X1;have:∃CC,A.eval (.tmp t)=.func (.func f) #[] CC/\AU (SP SB x.H) x.β cc CC:=by
  generalize A.eval (.tmp t)=V at X1;cases X1 with
  |@func _ F _ X _ CC hF h1 _ h2 a2 =>
   cases hF with
   |func _ =>
    have:X=#[]:=by simpa using h1.symm
    exact⟨CC,by rw[this],h2,a2⟩
 obtain⟨CC,eC,hCC⟩:=this;have hke:B.kind≠.early:=by
  have:=IH.kind;rw[SE] at this;have h2:b.kind=B.kind:=this;rw[<-h2];exact h.ke
 have eG:G=Go.Conc.G G.frame G.callers:=gK hg;have fin:=ba IH (v:=undef) (V:=undef) (AO.undef _ _);rw[SE,Frame.finish_at,Frame.finish_at,o1] at fin;simp only[yp,o3] at fin;refine⟨Go.Conc.G (B.at A (.inRegion PS []::K2)) G.callers,CC,?_,⟨.on ?_,?_,⟨rfl,rfl⟩,⟨rfl,rfl⟩,⟨rfl,rfl⟩⟩,hCC⟩
 .rw[eG,SE];exact tQ o1 o2 o3 (mC o4 _) hke eC
 .exact fin
 .exact hcs
def Lp (L:∀H,Lib P SB H lets BB Gn){x:Lone}{G:Goroutine}{W:World}{b:Frame}{a:Act}{ops:Array Oper}{i:Nat}{k:List Item}{f:FuncId}{cc:Array Value}{t:Tmp}{fn:Func}{c:Code}(h:Ks P SB BB lets x G b a ops i k f cc t fn c)
  (hg:Ch P SB BB lets x G) (hw:D6 P SB lets Gn x W) (Gu:x.H.BX=false) (hid:∀b,x.β b Wg->x.H b=true) (GA:∀b B,x.β b B->Toy B->x.H b=true) {tp:Bool} {wl:Bc} (EA:∀b B,wl b B->x.β b B)
  {K:Nat->Prop} {w1:World} (hcut:K5 P.a SB lets x.H x.H K (Go.Conc.G (b.at a (.inRegion ops []::k)) [bad]) x.w w1) (Wd:∀b,K b->x.H b=true\/Ro w1 b) (hcc:AU (SP SB x.H) (BK K) cc cc) (hK:∀b B,wl b B->K b) :
  ∃G' child,stepG P.b true G W=.spawn G' child W #[] /\
   Split P SB BB lets Gn Wg Toy x G' child W tp tp false ⟨Go.Conc.G (b.at a (.inRegion ops []::k)) [bad],w1,x.H,cut K x.β,x.T⟩ ⟨Go.Conc.G (Frame.enter P.a f cc .deferred) [bad],w1,x.H,cut K x.β,[cA P.b]⟩ wl:=by
 obtain⟨G',CC,e1,e2,e3⟩:=Jj h (W:=W) hg;obtain⟨f1,f2,f3,f4⟩:=h.hf;have hwc:=lw hcut hw
 refine⟨G',_,e1,?_,hwc,Gu,⟨rfl,Go.Conc.G (Frame.enter P.b f CC .deferred) [cA P.b],λW=>ku f2 f3 f4 CC W,⟨B5 (L x.H) (.inl h.sb) (e3.cut hcut.bl hcc) .deferred (by decide),.base,⟨rfl,rfl⟩,⟨rfl,rfl⟩,⟨rfl,rfl⟩⟩⟩,hwc,Gu,λb B h=>⟨hK b B h,EA b B h⟩,
  λb B hb=>⟨b,hb.2,λhh=>⟨hh,λ_=>(Wd b hb.1).resolve_left (by rw[hh];simp)⟩⟩,λb B hb=>.inl ⟨b,hb.2,λhh=>⟨hh,λ_=>(Wd b hb.1).resolve_left (by rw[hh];simp)⟩⟩,λb hb=>hid b hb.2,λb hb=>hid b hb.2,λb B hb=>GA b B hb.2,λ_ b B hb=>GA b B hb.2,?_,⟨λe=>(by cases e),λ_=>rfl⟩⟩
 .exact lr (g:=Go.Conc.G (b.at a (.inRegion ops []::k)) [bad]) h.bb hcut e2
 .intro b1 b2 B h1 h2;have:b1=b2:=hw.Cn.inj h1.2 h2.2;subst this;rcases Wd b1 h1.1 with e|e
  .exact .inl e
  .exact .inr (.inr ⟨e,e⟩)
def tR (K:Nat->Prop)(β:Bc):cut K (cut K β)=cut K β:=by
 funext b B;exact propext ⟨λh=>h.2,λh=>⟨h.1,h⟩⟩
def zX (H:Hid)(tl:Nat->Bool):Hid:=⟨λb=>H.at_ b&&!tl b,false,true⟩
def Lq (L:∀H,Lib P SB H lets BB Gn){x:Lone}{G:Goroutine}{W:World}{b:Frame}{a:Act}{ops:Array Oper}{i:Nat}{k:List Item}{f:FuncId}{cc:Array Value}{t:Tmp}{fn:Func}{c:Code}(h:Ks P SB BB lets x G b a ops i k f cc t fn c)
  (hg:Ch P SB BB lets x G) (hw:D6 P SB lets Gn x W) (Gu:x.H.BX=false) (hid:∀b,x.β b Wg->x.H b=true) (GA:∀b B,x.β b B->Toy B->x.H b=true) {wl:Bc} (EA:∀b B,wl b B->x.β b B)
  {K:Nat->Prop} {w1 wk:World} (hcut:K5 P.a SB lets x.H x.H K (Go.Conc.G (b.at a (.inRegion ops []::k)) [bad]) x.w w1) (Wd:∀b,K b->x.H b=true\/Ro w1 b) (hK:∀b B,wl b B->K b)
  {tl:Nat->Bool} (hcc:AU (SP SB (zX x.H tl)) (BK K) cc cc) (Kt:∀b B,x.β b B->tl b=true->Toy B) (We:∀b,tl b=true->x.H b=true) (ZV:¬Toy Wg)
  (hsz:w1.heap.size<=wk.heap.size/\wk.os=w1.os) (hold:∀b,K b->tl b=false->wk.heap[b]?=w1.heap[b]?) (Nh:∀b o,K b->x.H b=false->w1.heap[b]?=some o->BS (SP SB (zX x.H tl)) (CK P.a SB lets) (BK K) o o)
  (Lf:∀b B,K b->tl b=true->x.β b B->∃o O,wk.heap[b]?=some o/\W.heap[B]?=some O/\BS (SP SB (zX x.H tl)) (CK P.a SB lets) (cut K x.β) o O) (hlt:∀b,x.H b=true->b<wk.heap.size) :
  ∃G' child,stepG P.b true G W=.spawn G' child W #[] /\
   Split P SB BB lets Gn Wg Toy x G' child W true false true ⟨Go.Conc.G (b.at a (.inRegion ops []::k)) [bad],w1,x.H,cut K x.β,x.T⟩ ⟨Go.Conc.G (Frame.enter P.a f cc .deferred) [bad],wk,zX x.H tl,cut K x.β,[cA P.b]⟩ wl:=by
 obtain⟨G',CC,e1,e2,e3⟩:=Jj h (W:=W) hg;obtain⟨f1,f2,f3,f4⟩:=h.hf;have hwc:=lw hcut hw;have hH:∀b,(zX x.H tl) b=true↔x.H b=true/\tl b=false:=λb=>by simp[zX]
 have hHf:∀b,(zX x.H tl) b=false->x.H b=false\/tl b=true:=λb hb=>by
  simp only[zX,Bool.and_eq_false_iff,zc] at hb;exact hb
 have hRk:∀b,K b->tl b=false->Ro w1 b->Ro wk b:=λb hk ht ⟨c,t,z,h1,h2⟩=>⟨c,t,z,(hold b hk ht).trans h1,h2⟩;have hwk:BF (SP SB (zX x.H tl)) (CK P.a SB lets) Gn (cut K x.β) wk W:=by
  refine⟨hwc.Cn,⟨xI hwc.room.1 hsz.1,hwc.room.2⟩,λb B hb hh=>?_,λb B hb hh=>?_,λb hh=>hlt b ((hH b).1 hh).1,by rw[hsz.2];exact hwc.env⟩
  .cases ht:tl b with
   |true=>exact Lf b B hb.1 ht hb.2
   |false =>
    have hx:x.H b=false:=(hHf b hh).resolve_right (by rw[ht];simp);obtain⟨o,O,q1,q2,q3⟩:=hwc.CQ b B hb hx;refine⟨o,O,(hold b hb.1 ht).trans q1,q2,?_⟩;have:=q3.cut rfl (Nh b o hb.1 hx q1);rw[tR] at this;exact this
  .obtain⟨q1,q2⟩:=(hH b).1 hh;obtain⟨r1,r2,_⟩:=hwc.Db b B hb q1;exact⟨(hold b hb.1 q2).trans r1,λ_=>r2 Gu,λe=>by cases e⟩
 refine⟨G',_,e1,?_,hwc,Gu,⟨rfl,Go.Conc.G (Frame.enter P.b f CC .deferred) [cA P.b],λW=>ku f2 f3 f4 CC W,⟨B5 (L (zX x.H tl)) (.inl h.sb) (e3.cut rfl hcc) .deferred (by decide),.base,⟨rfl,rfl⟩,⟨rfl,rfl⟩,⟨rfl,rfl⟩⟩⟩,hwk,rfl,λb B h=>⟨hK b B h,EA b B h⟩,
  λb B hb=>⟨b,hb.2,λhh=>⟨hh,λ_=>(Wd b hb.1).resolve_left (by rw[hh];simp)⟩⟩,λb B hb=>?_,λb hb=>hid b hb.2,λb hb=>(hH b).2 ⟨hid b hb.2,?_⟩,λb B hb=>GA b B hb.2,λe=>(by cases e),?_,⟨λ_=>⟨rfl,rfl⟩,λe=>(by cases e)⟩⟩
 .exact lr (g:=Go.Conc.G (b.at a (.inRegion ops []::k)) [bad]) h.bb hcut e2
 .cases ht:tl b with
  |true=>exact .inr ⟨rfl,Kt b B hb.2 ht⟩
  |false =>
   refine .inl ⟨b,hb.2,λhh=>?_⟩;have hx:x.H b=false:=(hHf b hh).resolve_right (by rw[ht];simp);exact⟨hx,λ_=>hRk b hb.1 ht ((Wd b hb.1).resolve_left (by rw[hx];simp))⟩
 .cases ht:tl b with
  |false=>rfl
  |true=>exact absurd (Kt b Wg hb.2 ht) ZV
 .intro b1 b2 B h1 h2;have:b1=b2:=hw.Cn.inj h1.2 h2.2;subst this;rcases Wd b1 h1.1 with e|e
  .exact .inl e
  .cases ht:tl b1 with
   |true=>exact .inl (We b1 ht)
   |false=>exact .inr (.inr ⟨e,hRk b1 h1.1 ht e⟩)
end
abbrev B6 (SB:FuncId->Bool)(H:Hid)(K:Nat->Prop)(v:Value):Prop:=AO (SP SB H) (BK K) v v
def B9 {SB:FuncId->Bool}{H:Hid}{K:Nat->Prop}{l:List Value}(h:∀v∈l,B6 SB H K v):AU (SP SB H) (BK K) l.toArray l.toArray :=
 ⟨rfl,λi v V h1 h2=>by
  rw[h1] at h2;cases h2
  exact h v (yM (by simpa using h1))⟩
def B6.mono {SB:FuncId->Bool}{H:Hid}{K K':Nat->Prop}{v:Value}(h:B6 SB H K v)(hk:∀b,K b->K' b):B6 SB H K' v :=
 AO.mono (λb B hb=>⟨hk b hb.1,hb.2⟩) h
def B6.ptr {SB:FuncId->Bool}{H:Hid}{K:Nat->Prop}{b:Nat}(hb:K b)(o:Nat)(s:Option Nat):B6 SB H K (.pointer (some ⟨b,o,s⟩)):=AO.ptr o s ⟨hb,rfl⟩
def B6.slice {SB:FuncId->Bool}{H:Hid}{K:Nat->Prop}{b:Nat}(hb:K b)(o:Nat)(s:Option Nat)(l c:Nat):B6 SB H K (.slice (some ⟨b,o,s⟩) l c):=AO.slice o s l c ⟨hb,rfl⟩
def B6.undef {SB:FuncId->Bool}{H:Hid}{K:Nat->Prop}:B6 SB H K undef:=AO.undef _ _
def B6.agg {SB:FuncId->Bool}{H:Hid}{K:Nat->Prop}{l:List Value}(h:∀v∈l,B6 SB H K v):B6 SB H K (.agg l.toArray):=AO.agg rfl (B9 h).at_
def B6.func {SB:FuncId->Bool}{H:Hid}{K:Nat->Prop}{f:FuncId}(hf:SB f=true){l:List Value}(h:∀v∈l,B6 SB H K v):B6 SB H K (.func (.func f) #[] l.toArray):=AO.func (FE.func (.inl hf)) rfl (λi v V h1=>by simp at h1) rfl (B9 h).at_
def froze (w:World)(r:Nat):World:=match w.heap[r]? with
 |some (.cells c t _)=>{ w with heap:=w.heap.setIfInBounds r (.cells c t (0,c.size)) }
 |_=>w
def cC (w:World)(r:Nat):(froze w r).heap.size=w.heap.size:=by
 unfold froze;split<;>simp
def fL (w:World)(r:Nat):(froze w r).os=w.os:=by
 unfold froze;split<;>rfl
def ey (w:World){r b:Nat}(h:b≠r):(froze w r).heap[b]?=w.heap[b]?:=by
 unfold froze;split
 .exact xX (Ne.symm h)
 .rfl
def cR {w:World}{r:Nat}{c:Array Value}{t:TypeId}{f:Nat×Nat}(h:w.heap[r]?=some (.cells c t f)):(froze w r).heap[r]?=some (.cells c t (0,c.size)):=by
 unfold froze;rw[h];exact zj (xm.1 h).1
def Ext (w w':World):Prop:=w.heap.size<=w'.heap.size/\(∀b,b<w.heap.size->w'.heap[b]?=w.heap[b]?)/\w'.os=w.os
def Ext.trans {a b c:World}(h:Ext a b)(k:Ext b c):Ext a c:=⟨xI h.1 k.1,λx hx=>(k.2.1 x (xx hx h.1)).trans (h.2.1 x hx),k.2.2.trans h.2.2⟩
def Ext.alloc (w:World)(o:Obj):Ext w (w.alloc o):=⟨by
 have:(w.alloc o).heap.size=w.heap.size+1:=Array.size_push _;omega,λb hb=>by
 have:(w.alloc o).heap[b]?=if b=w.heap.size then some o else w.heap[b]?:=yY ..
 rw[this,if_neg (zP hb)],rfl⟩
def Ext.same {a b:World}(h:Bh a b):Ext a b:=⟨by rw[h.1];exact xp _,λ_ _=>by rw[h.1],h.2.1⟩
end Go.Co
namespace Go.Proofs.YtjcgijifamcggaaGreat
open Go.RowKit Go.Bl Go.Co Go.Conc
noncomputable abbrev T8:List Item:=[.inBlock 1,.code (.region 9 o9 false),.inLoop eL,.inBlock 0,.code (.region 10 II false)]
noncomputable abbrev tS (p1:Value)(b2 b3 b4 cb sb n c:Nat)(i:Nat)(v5 v6 v7 v8 v9 v10 v14 v15 v16 v17 v18 v19 v20 v21 v22 v23 v24 v25 v26:Value):Frame :=
 (base 58).at ⟨#[.pointer (some ⟨cb,0,none⟩),p1,.pointer (some ⟨b2,0,none⟩),.pointer (some ⟨b3,0,none⟩),.pointer (some ⟨b4,0,none⟩),v5,v6,v7,v8,v9,v10,.slice (some ⟨sb,0,none⟩) n c,.int .i64 n,.int .i64 i,v14,v15,v16,v17,v18,v19,v20,v21,v22,v23,v24,v25,v26],[]⟩ [.code eL,.inLoop eL,.inBlock 0,.code (.region 10 II false)]
section
variable {P:Bw} {SB BB:FuncId->Bool} {lets:Bool} {Gn ty Wg:Nat} {Toy:Nat->Prop} {Ψ0 Ψ2:World->Prop} {fA fW:FuncId} {wl:Nat} {Pr:Bc} {T:List Frame} {Fn:Bool->Hid->Goroutine->World->Prop}
def rZ :
  ∀k {tp:Bool} {H:Hid} {g:Goroutine} {w:World},IK P SB BB lets Gn ty Wg Toy Ψ0 Ψ2 fA fW wl Pr T Fn k tp H g w->IK P SB BB lets Gn ty Wg Toy Ψ0 Ψ2 fA fW wl Pr T Fn (k+1) tp H g w:=by
 intro k
 induction k with
 |zero=>intro tp H g w h;exact .inl h
 |succ k ih =>
  rintro tp H g w (h|⟨fr,cs,h1,h2,h3⟩)
  .exact .inl h
  .refine .inr ⟨fr,cs,h1,h2,h3.mono (λ_ _ x=>x) λg w hq x G W e1 e2 e3 e4 e5 e6 e7 e8 e9 PT e11=>?_⟩;obtain⟨G',child,x',xk,MD,o,SD,Q,q1,q2,q3,q4,q5,q6,q7⟩:=hq x G W e1 e2 e3 e4 e5 e6 e7 e8 e9 PT e11;exact⟨G',child,x',xk,MD,o,SD,Q,q1,q2,q3,q4,q5.mono (λ_ _ x=>x) (λ_ _ x=>ih x),q6,q7⟩
def pX {S:Bool->Hid->Goroutine->World->Prop}{tp:Bool}{H:Hid}(g:Goroutine)(w W:World)(s:Bh w W)(hq:AtGo P SB BB lets Gn ty Wg Toy Ψ0 Ψ2 Pr T S tp H g w):AtGo P SB BB lets Gn ty Wg Toy Ψ0 Ψ2 Pr T S tp H g W:=λx G W' e1 e2=>hq x G W' e1 (s.trans e2)
def cS (hF:∀tp H g w W,Bh w W->Fn tp H g w->Fn tp H g W):∀k {tp:Bool} {H:Hid} (g:Goroutine) (w W:World),Bh w W->IK P SB BB lets Gn ty Wg Toy Ψ0 Ψ2 fA fW wl Pr T Fn k tp H g w->IK P SB BB lets Gn ty Wg Toy Ψ0 Ψ2 fA fW wl Pr T Fn k tp H g W:=by
 have hW:∀ {tp:Bool} {H:Hid} {g:Goroutine} {w W:World},Bh w W->gH P fW wl Fn tp H g w->gH P fW wl Fn tp H g W:=λhs ⟨fr,cs,h1,h2,h3⟩=>⟨fr,cs,h1,h2,hF _ _ _ _ _ hs h3⟩;intro k;cases k with
 |zero=>exact λg w W hs h=>hW hs h
 |succ k =>
  rintro tp H g w W hs (h|⟨fr,cs,h1,h2,h3⟩)
  .exact .inl (hW hs h)
  .exact .inr ⟨fr,cs,h1,h2,h3.same (λ_ _ _ _ x=>x) (λg w W s hq x G W' e1 e2=>hq x G W' e1 (s.trans e2)) hs⟩
end
structure Head (SB:FuncId->Bool)(H:Hid)(Gn:Nat)(Kb:Nat->Prop)(Ok:World->Prop)(K:Nat->Prop)(w:World):Prop where
 sub:∀b,Kb b->K b
 base:∀b,K b->H b=false->Ro w b/\∃o,w.heap[b]?=some o/\BS (SP SB H) (CK Tryz.prog SB true) (BK K) o o
 hid:∀b,K b->H b=true->w.heap[b]?=some (.coro none)
 lo:∀b,K b->Gn<=b
 lt:∀b,K b->b<w.heap.size
 old:∀b,H b=true->b<w.heap.size
 room:Gn<=w.heap.size
 ok:Ok w
def eD (Kb:Nat->Prop)(Ok:World->Prop):Prop:=∀w w':World,(∀b,Kb b->w'.heap[b]?=w.heap[b]?)->w'.os=w.os->Ok w->Ok w'
section
variable {SB:FuncId->Bool} {H:Hid} {Gn:Nat} {Kb:Nat->Prop} {Ok:World->Prop} {K:Nat->Prop} {w w':World}
def Head.ext (h:Head SB H Gn Kb Ok K w)(hO:eD Kb Ok)(e:Ext w w'):Head SB H Gn Kb Ok K w':=by
 have same:∀b,K b->w'.heap[b]?=w.heap[b]?:=λb hb=>e.2.1 b (h.lt b hb);refine⟨h.sub,λb hb hh=>?_,λb hb hh=>(same b hb).trans (h.hid b hb hh),h.lo,λb hb=>xx (h.lt b hb) e.1,λb hb=>xx (h.old b hb) e.1,xI h.room e.1,hO w w' (λb hb=>same b (h.sub b hb)) e.2.2 h.ok⟩;obtain⟨⟨c,t,f,q1,q2⟩,o,q3,q4⟩:=h.base b hb hh;exact⟨⟨c,t,f,(same b hb).trans q1,q2⟩,o,(same b hb).trans q3,q4⟩
def Head.more (h:Head SB H Gn Kb Ok K w)(hO:eD Kb Ok){r:Nat}(hr:¬K r)(hH:H r=false)(hG:Gn<=r){l:List Value}{t:TypeId}{f:Nat×Nat}(hc:w.heap[r]?=some (.cells l.toArray t f))(hl:∀v∈l,B6 SB H (λ_=>False) v) :
  Head SB H Gn Kb Ok (λb=>K b\/b=r) (froze w r):=by
 have ne:∀b,K b->b≠r:=λb hb e=>hr (e▸hb);have same:∀b,K b->(froze w r).heap[b]?=w.heap[b]?:=λb hb=>ey w (ne b hb);refine⟨λb hb=>.inl (h.sub b hb),λb hb hh=>?_,λb hb hh=>?_,λb hb=>?_,λb hb=>?_,λb hb=>by rw[cC];exact h.old b hb,by rw[cC];exact h.room,hO w _ (λb hb=>same b (h.sub b hb)) (fL w r) h.ok⟩
 .rcases hb with hb|rfl
  .obtain⟨⟨c,t,f,q1,q2⟩,o,q3,q4⟩:=h.base b hb hh;exact⟨⟨c,t,f,(same b hb).trans q1,q2⟩,o,(same b hb).trans q3,q4.mono λx y Jz=>⟨.inl Jz.1,Jz.2⟩⟩
  .exact⟨⟨_,_,_,cR hc,λi hi=>⟨xQ _,hi⟩⟩,_,cR hc,.cells (B9 λv hv=>(hl v hv).mono λ_=>False.elim) λi h1 h2=>⟨h1,h2⟩⟩
 .rcases hb with hb|rfl
  .exact(same b hb).trans (h.hid b hb hh)
  .rw[hH] at hh;cases hh
 .rcases hb with hb|rfl
  .exact h.lo b hb
  .exact hG
 .rw[cC];rcases hb with hb|rfl
  .exact h.lt b hb
  .exact(xm.1 hc).1
end
noncomputable abbrev PP:Bw:=Bw.of Tryz.prog
noncomputable abbrev PQ:Bw:=⟨AG,Tryz.prog.funcs⟩
noncomputable abbrev xf:Code:=Tryz.f93.body.getD .skip
abbrev first (x:Int):Obj:=.cells #[.int .u8 x,.int .u8 0,.int .u8 0,.int .u8 0,.int .u8 0] 52
abbrev bF (b2 b3 b4 r:Nat):Array Value:=#[.pointer (some ⟨b4,0,none⟩),.pointer (some ⟨b2,0,none⟩),.pointer (some ⟨r,0,none⟩),.pointer (some ⟨b3,0,none⟩)]
structure NX (SB BB:FuncId->Bool)(H:Hid)(Gn Wg:Nat)(Toy:Nat->Prop)(Ψ0:World->Prop)(Pr:Bc)(T:List Frame)(Kb:Nat->Prop)(Ok:World->Prop)(b2 b3 b4:Nat)(x1:Int)(tp:Bool)(K:Nat->Prop)(a:Act)(r:Nat)(x:Lone)(X:Goroutine)(W:World):Prop where
 op:Ks PP SB BB true x X (base 58) a o8 1 T8 93 (bF b2 b3 b4 r) 24 Tryz.f93 xf
 gl:Ch PP SB BB true x X
 wl:D6 PP SB true Gn x W
 h:x.H=H
 t:x.T=T
 pr:Pr.le x.β
 EE:tp=true->Ψ0 W
 GA:∀b B,x.β b B->Toy B->x.H b=true
 wg:∀b,x.β b Wg->x.H b=true
 tw:x.H.BX=false
 head:Head SB H Gn Kb Ok K x.w
 rb:x.w.heap[r]?=some (first x1)
 rK:¬K r/\H r=false/\Gn<=r
 cut:K5 Tryz.prog SB true H H (λb=>K b\/b=r) (Go.Conc.G ((base 58).at a (.inRegion o8 []::T8)) [bad]) x.w (froze x.w r)
structure Ctx (SB Bu BB:FuncId->Bool)(H:Hid)(Gn Wg:Nat)(Toy:Nat->Prop)(Ψ0 Ψ2:World->Prop)(Pr:Bc)(T:List Frame)(Fn:Bool->Hid->Goroutine->World->Prop)(Kb Kc:Nat->Prop)(Ok:World->Prop)(b2 b3 b4 cb sb n c:Nat)(p1:Value)(sets kind:Nat->Int)(C1:Nat->Bool):Prop where
 hB:BB 58=true
 Yi:SB 58=true
 Yj:SB 93=true
 L0:Mw PQ Bu Bu BB Gn
 b0:∀f,Bu f=true->BB f=true
 Yk:Bu 53=true
 todo:∀K,B4 (Du Tryz.prog SB H true true (BK K)) (.inRegion o8 []::T8) (.inRegion o8 []::T8)
 BX:H.BX=false
 bl:H.bl=true
 only:eD Kb Ok
 NY:∀w,Ok w->w.cell? ⟨b2,0,none⟩=some (.pointer (some ⟨cb,0,none⟩))
 Jk:∀w i,Ok w->i<n->w.cell? ⟨sb,i,none⟩=some (.int .u8 (sets i))
 Dt:∀w b,Ok w->Kc b->Kb b/\∃o,w.heap[b]?=some o/\BS (SP Bu zV) (CK AG Bu false) (BK Kc) o o
 cK:Kc cb
 kb:Kb b2/\Kb b3/\Kb b4/\Kb cb/\Kb sb
 FV:B6 SB H Kb p1
 wrap:∀i,i<n->IntKind.i64.wrap ((i:Int)+1)=((i+1:Nat):Int)
 Jl:∀w i,Ok w->i<n->∀τ d,Calls AG 53 #[.pointer (some ⟨cb,0,none⟩),.pointer (some ⟨w.heap.size,0,none⟩),.int .i64 0] (on (w.alloc (first (sets i))) τ d) (λe w'=>∃v,e=.returned v/\((∃y1 y2,v=.agg #[.int .i64 (kind i),.int .i64 y1,.int .i64 y2])/\Ext (w.alloc (first (sets i))) w'))
 ZW:∀i,i<n->kind i≠0->C1 (i+1)=C1 i
 fin:∀(a:Act) (w:World),a.defers=[]->Ok w->Fn (C1 n) H (Go.Conc.G (((base 58).at a [.inRegion II [0]]).finish (.tuple #[])) [bad]) w
 Lr:∀tp H g w W,Bh w W->Fn tp H g w->Fn tp H g W
 go:∀i,i<n->kind i=0->∀(K:Nat->Prop) (a:Act) (r:Nat) (x:Lone) (X:Goroutine) (W:World),NX SB BB H Gn Wg Toy Ψ0 Pr T Kb Ok b2 b3 b4 (sets i) (C1 i) K a r x X W ->
  ∃(X' child:Goroutine) (xk:Lone) (o:Bool) (Pk:Bc) (Q:Goroutine->World->Prop),stepG Tryz.prog true X W=.spawn X' child W #[] /\
   Split PP SB BB true Gn Wg Toy x X' child W (C1 i) (C1 (i+1)) o ⟨Go.Conc.G ((base 58).at a (.inRegion o8 []::T8)) [bad],froze x.w r,H,cut (λb=>K b\/b=r) x.β,T⟩ xk Pk /\
   ct PP SB BB true Gn 159 Wg Ψ2 Q xk.H xk.T Pk o/\(∀g w,Q g w->BB g.frame.fn=false)/\BN Tryz.prog BB Q 0 xk.g xk.w
def fM (w:World)(x:Int):(w.alloc (first x)).heap[w.heap.size]?=some (first x):=by rw[aA,if_pos rfl]
section
variable {SB Bu BB:FuncId->Bool} {H:Hid} {Gn Wg:Nat} {Toy:Nat->Prop} {Ψ0 Ψ2:World->Prop} {Pr:Bc} {T:List Frame} {Fn:Bool->Hid->Goroutine->World->Prop} {Kb Kc:Nat->Prop} {Ok:World->Prop} {b2 b3 b4 cb sb n c:Nat} {p1:Value} {sets kind:Nat->Int} {C1:Nat->Bool}
def r6 (C:Ctx SB Bu BB H Gn Wg Toy Ψ0 Ψ2 Pr T Fn Kb Kc Ok b2 b3 b4 cb sb n c p1 sets kind C1)(JK:∀b B,Pr b B->Kb b):∀(m i:Nat),i+m=n->∀(K:Nat->Prop) (w:World),Head SB H Gn Kb Ok K w ->
  ∀(v5 v6 v7 v8 v9 v10 v14 v15 v16 v17 v18 v19 v20 v21 v22 v23 v24 v25 v26:Value),(∀v∈[v5,v8,v9,v10,v20,v21,v22,v23,v24,v25,v26],B6 SB H K v) ->
  AZ Tryz.prog (B8 Tryz.prog BB) (IK PP SB BB true Gn 159 Wg Toy Ψ0 Ψ2 92 95 b4 Pr T Fn m (C1 i) H) (Go.Conc.G (tS p1 b2 b3 b4 cb sb n c i v5 v6 v7 v8 v9 v10 v14 v15 v16 v17 v18 v19 v20 v21 v22 v23 v24 v25 v26) [bad]) w:=by
 intro m
 induction m with
 |zero =>
  intro i hi K w hd v5 v6 v7 v8 v9 v10 v14 v15 v16 v17 v18 v19 v20 v21 v22 v23 v24 v25 v26 hJ;obtain rfl:i=n:=by omega
  refine vp (cb:=0) C.hB (cS C.Lr _) (by simp) (Nat.lt_irrefl _) (.fin ?_);exact⟨_,_,rfl,⟨rfl,rfl,_,_,_,_,rfl⟩,C.fin _ _ rfl hd.ok⟩
 |succ m ih =>
  intro i hi K w hd v5 v6 v7 v8 v9 v10 v14 v15 v16 v17 v18 v19 v20 v21 v22 v23 v24 v25 v26 hJ;have I3:i<n:=by omega
  have l2:b2<w.heap.size:=hd.lt _ (hd.sub _ C.kb.1);have Ki:H w.heap.size=false:=by
   cases e:H w.heap.size with
   |false=>rfl
   |true=>exact absurd (hd.old _ e) (Nat.lt_irrefl _)
  refine vi C.hB (cS C.Lr _) (by simp) I3 (C.NY w hd.ok) (C.Jk w i hd.ok I3) l2 ?_;refine C.L0.fn C.Yk C.Yk (K0:=λb=>Kc b\/b=w.heap.size) (by simp) (λb hb=>?_) (by rw[aE];exact zy hd.room) (B9 λv hv=>?_) (λb hb=>?_) (cS C.Lr _) (C.Jl w i hd.ok I3) ?_
  .rcases hb with hb|rfl
   .exact hd.lo b (hd.sub b (C.Dt w b hd.ok hb).1)
   .exact hd.room
  .simp only[xC,xz,or_false] at hv;rcases hv with rfl|rfl|rfl
   .exact B6.ptr (.inl C.cK) _ _
   .exact B6.ptr (.inr rfl) _ _
   .exact AO.int _ _
  .rcases hb with hb|rfl
   .obtain⟨h1,o,h2,h3⟩:=C.Dt w b hd.ok hb;have hlt:=hd.lt b (hd.sub b h1);exact⟨o,by rw[aA,if_neg (zP hlt)];exact h2,h3.mono λx y Jz=>⟨.inl Jz.1,Jz.2⟩⟩
   .refine⟨_,fM w (sets i),.cells (B9 (l:=[.int .u8 (sets i),.int .u8 0,.int .u8 0,.int .u8 0,.int .u8 0]) λv hv=>?_) λj h1 h2=>⟨h1,h2⟩⟩;simp only[xC,xz,or_false] at hv;rcases hv with rfl|rfl|rfl|rfl|rfl<;>exact AO.int _ _
  .rintro v w2 ⟨⟨y1,y2,rfl⟩,hE⟩;have hE2:Ext w w2:=(Ext.alloc w _).trans hE;have KL:=hd.ext C.only hE2;have UH:(o6[1]?.bind (·.dst))=some 20:=rfl;rw[Frame.finish_at,UH];have jk:∀y1 y2 k,B6 SB H K (.agg #[.int .i64 k,.int .i64 y1,.int .i64 y2]):=λy1 y2 k=>B6.agg (l:=[.int .i64 k,.int .i64 y1,.int .i64 y2]) λv hv=>by
    simp only[xC,xz,or_false] at hv;rcases hv with rfl|rfl|rfl<;>exact AO.int _ _
   by_cases hk:kind i=0
   .rw[hk];refine tP (cb:=0) (v20:=undef) C.hB (cS C.Lr _) (by simp) (.fin (.inr ⟨_,_,rfl,⟨rfl,rfl,_,_,_,_,rfl⟩,?_⟩));have e23:(o7[0]?.bind (·.dst))=some 23:=rfl;unfold back;rw[Frame.finish_at,e23];refine vj (cb:=cb) (v24:=v24) (cs:=[bad]) C.hB pX (by simp) (.fin ?_);intro x X W ex hs eH eT hpr gl wl h0 GA wg tw;have GJ:=KL.ext C.only (Ext.same hs);have hrK:¬K w.heap.size:=λh=>Nat.lt_irrefl _ (hd.lt _ h)
    have L9:x.w.heap[w.heap.size]?=some (first (sets i)):=by
     rw[hs.1,hE.2.1 _ (by rw[aE];exact Nat.lt_succ_self _)];exact fM w _
    have ZX:∀v∈[Value.int .u8 (sets i),.int .u8 0,.int .u8 0,.int .u8 0,.int .u8 0],∀K',B6 SB H K' v:=λv hv K'=>by
     simp only[xC,xz,or_false] at hv;rcases hv with rfl|rfl|rfl|rfl|rfl<;>exact AO.int _ _
    have hm:=GJ.more C.only hrK Ki hd.room L9 λv hv=>ZX v hv _;have kb2:=hd.sub _ C.kb.1;have kb3:=hd.sub _ C.kb.2.1;have kb4:=hd.sub _ C.kb.2.2.1;have UI:=hd.sub _ C.kb.2.2.2.1;have Yl:=hd.sub _ C.kb.2.2.2.2;have Ni:∀v,B6 SB H K v->B6 SB H (λb=>K b\/b=w.heap.size) v:=λv hv=>hv.mono λb hb=>.inl hb;have clo:B6 SB H (λb=>K b\/b=w.heap.size) (.func (.func 93) #[] #[.pointer (some ⟨b4,0,none⟩),.pointer (some ⟨b2,0,none⟩),.pointer (some ⟨w.heap.size,0,none⟩),.pointer (some ⟨b3,0,none⟩)]):=B6.func C.Yj (l:=[.pointer (some ⟨b4,0,none⟩),.pointer (some ⟨b2,0,none⟩),.pointer (some ⟨w.heap.size,0,none⟩),.pointer (some ⟨b3,0,none⟩)]) λv hv=>by
     simp only[xC,xz,or_false] at hv;rcases hv with rfl|rfl|rfl|rfl
     .exact B6.ptr (.inl kb4) _ _
     .exact B6.ptr (.inl kb2) _ _
     .exact B6.ptr (.inr rfl) _ _
     .exact B6.ptr (.inl kb3) _ _
    have Mc:NX SB BB H Gn Wg Toy Ψ0 Pr T Kb Ok b2 b3 b4 (sets i) (C1 i) K _ w.heap.size x X W:={
     op:=⟨ex,C.hB,⟨_,rfl,rfl,rfl,rfl⟩,by decide,rfl,⟨Tryz.func93,Tryz.func93,by kernel_rfl,rfl⟩,C.Yj⟩
     gl:=gl,wl:=wl,h:=eH,t:=eT,pr:=hpr,EE:=h0,GA:=GA,wg:=wg,tw:=tw,head:=GJ,rb:=L9,rK:=⟨hrK,Ki,hd.room⟩
     cut:=by
      refine⟨⟨rfl,B9 (l:=[_,_,_,_,_,_,_,_,_,_,_,_,_,_,_,_,_,_,_,_,_,_,_,_,_,_,_]) λv hv=>?_,C.todo _,.nil,.run,rfl,⟨(by show CallKind.normal≠.early;decide),C.Yi⟩,.none⟩,⟨[bad],.base⟩,λb hb hh=>⟨hh,?_⟩,λb hb hh=>⟨hm.hid b hb hh,.inl hh⟩,by rw[cC];exact xp _,hm.old,fL _ _,⟨C.BX,C.BX⟩,C.bl⟩
      .simp only[xC,xz,or_false] at hv;rcases hv with rfl|rfl|rfl|rfl|rfl|rfl|rfl|rfl|rfl|rfl|rfl|rfl|rfl|rfl|rfl|rfl|rfl|rfl|rfl|rfl|rfl|rfl|rfl|rfl|rfl|rfl|rfl
       .exact B6.ptr (.inl UI) _ _
       .exact Ni _ (C.FV.mono hd.sub)
       .exact B6.ptr (.inl kb2) _ _
       .exact B6.ptr (.inl kb3) _ _
       .exact B6.ptr (.inl kb4) _ _
       .exact Ni _ (hJ _ (by simp))
       .exact AO.int _ _
       .exact B6.ptr (.inr rfl) _ _
       .exact Ni _ (hJ _ (by simp))
       .exact Ni _ (hJ _ (by simp))
       .exact Ni _ (hJ _ (by simp))
       .exact B6.slice (.inl Yl) _ _ _ _
       .exact AO.int _ _
       .exact AO.int _ _
       .exact AO.bool _
       .exact B6.ptr (.inl Yl) _ _
       .exact AO.int _ _
       .exact AO.int _ _
       .exact B6.agg (l:=[.int .u8 (sets i),.int .u8 0,.int .u8 0,.int .u8 0,.int .u8 0]) λv hv=>ZX v hv _
       .exact B6.ptr (.inl UI) _ _
       .exact Ni _ (jk _ _ _)
       .exact AO.int _ _
       .exact AO.bool _
       .exact AO.undef _ _
       .exact clo
       .exact Ni _ (hJ _ (by simp))
       .exact Ni _ (hJ _ (by simp))
      .obtain⟨_,o,h2,h3⟩:=hm.base b hb hh;refine⟨o,h2,h3,?_⟩;rcases hb with hb|rfl
       .have hne:b≠w.heap.size:=λe=>hrK (e▸hb);exact .inl (by rw[<-ey x.w hne];exact h2)
       .rw[cR L9] at h2;cases h2
        exact .inr ⟨_,_,_,_,L9,rfl,λi h1 h2=>⟨xQ _,by simp at h1 h2⟩⟩ }
    obtain⟨X',child,xk,o,Pk,Q,g1,g2,g3,g4⟩:=C.go i I3 hk K _ _ x X W Mc;refine⟨X',child,_,xk,_,o,Pk,Q,g1,g2,rfl,λb B h=>⟨.inl (hd.sub _ (JK b B h)),hpr b B h⟩,?_,g3,g4⟩;refine vm (cb:=cb) (v25:=v25) (cs:=[bad]) C.hB (cS C.Lr _) (by simp) (C.wrap i I3) ?_;refine ih (i+1) (by omega) _ _ hm _ _ _ _ _ _ _ _ _ _ _ _ _ _ _ _ _ _ _ λv hv=>?_;simp only[xC,xz,or_false] at hv;rcases hv with rfl|rfl|rfl|rfl|rfl|rfl|rfl|rfl|rfl|rfl|rfl
    .exact Ni _ (hJ _ (by simp))
    .exact Ni _ (hJ _ (by simp))
    .exact Ni _ (hJ _ (by simp))
    .exact Ni _ (hJ _ (by simp))
    .exact Ni _ (jk _ _ _)
    .exact AO.int _ _
    .exact AO.bool _
    .exact AO.undef _ _
    .exact clo
    .exact AO.int _ _
    .exact Ni _ (hJ _ (by simp))
   .refine(tO (cb:=0) (v20:=undef) C.hB (cS C.Lr _) (by simp) (C.wrap i I3) hk ?_).mono (λ_ _ h=>h) λ_ _ h=>rZ _ h;have:=ih (i+1) (by omega) K w2 KL v5 (.int .u8 (sets i)) (.pointer (some ⟨w.heap.size,0,none⟩)) v8 v9 v10 (.bool true) (.pointer (some ⟨sb,i,none⟩)) (.int .u8 (sets i)) (.int .u8 (sets i)) (.agg #[.int .u8 (sets i),.int .u8 0,.int .u8 0,.int .u8 0,.int .u8 0]) (.pointer (some ⟨cb,0,none⟩))
     (.agg #[.int .i64 (kind i),.int .i64 y1,.int .i64 y2]) (.int .i64 (kind i)) (.bool true) v23 v24 (.int .i64 ((i+1:Nat):Int)) v26 (λv hv=>?_)
    .rw[C.ZW i I3 hk] at this;exact this
    .simp only[xC,xz,or_false] at hv;rcases hv with rfl|rfl|rfl|rfl|rfl|rfl|rfl|rfl|rfl|rfl|rfl
     .exact hJ _ (by simp)
     .exact hJ _ (by simp)
     .exact hJ _ (by simp)
     .exact hJ _ (by simp)
     .exact jk _ _ _
     .exact AO.int _ _
     .exact AO.bool _
     .exact hJ _ (by simp)
     .exact hJ _ (by simp)
     .exact AO.int _ _
     .exact hJ _ (by simp)
end
end Go.Proofs.YtjcgijifamcggaaGreat
