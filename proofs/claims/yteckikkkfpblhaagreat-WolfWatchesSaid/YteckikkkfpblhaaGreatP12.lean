/- Parts of the proof. -/
import Derived.Test.YteckikkkfpblhaaGreatP11
import Derived.Test.YteckikkkfpblhaaGreatP00
import Derived.Test.YteckikkkfpblhaaGreatP07
import Derived.Test.YteckikkkfpblhaaGreatP06
import Derived.Test.YteckikkkfpblhaaGreatP08
import Derived.Conc.Own2
set_option linter.all false
set_option maxHeartbeats 4000000
set_option maxRecDepth 100000
namespace Go.Co
open Go.AW Go.Conc Go.ConcN Go.Conc.Lib Go.ConcR.Gen Go.ConcN.Gen
open Go.ConcR (KK WgAt stA smA rd wr mk DC0 Bk)
def sa (p v:Value)(L:WgLink):(#[p,v]++Array.replicate ((addFn L).ntmps-(#[p,v]:Array Value).size) undef:Array Value)=#[p,v,undef,undef,undef,undef,undef,undef,undef,undef,undef,undef,undef,undef,undef,undef,undef,undef,undef,undef,undef,undef,undef,undef,undef,undef,undef,undef,undef,undef,undef,undef,undef,undef,undef,undef,undef,undef,undef,undef,undef,undef,undef,undef,undef,undef,undef,undef,undef,undef,undef,undef,undef,undef,undef,undef,undef,undef,undef,undef,undef,undef,undef,undef,undef,undef,undef,undef,undef,undef,undef,undef,undef,undef,undef,undef,undef,undef,undef,undef,undef,undef,undef,undef,undef,undef,undef,undef,undef,undef,undef,undef,undef,undef,undef,undef,undef,undef,undef,undef,undef,undef,undef,undef,undef,undef,undef,undef,undef,undef,undef,undef,undef,undef,undef,undef,undef]:=by walk_nrmf addFn
def qm (p:Value)(L:WgLink):(#[p]++Array.replicate ((waitFn L).ntmps-(#[p]:Array Value).size) undef:Array Value)=#[p,undef,undef,undef,undef,undef,undef,undef,undef,undef,undef,undef,undef,undef,undef,undef,undef,undef,undef,undef,undef,undef,undef,undef,undef,undef,undef,undef,undef,undef,undef,undef,undef,undef,undef,undef,undef,undef,undef,undef,undef,undef,undef,undef,undef,undef,undef,undef,undef,undef,undef,undef,undef,undef,undef,undef,undef,undef,undef,undef,undef,undef,undef,undef,undef,undef,undef,undef,undef,undef,undef,undef,undef,undef,undef,undef,undef,undef,undef,undef,undef,undef,undef,undef]:=by walk_nrmf waitFn
def qp (p:Value)(L:WgLink):(#[p]++Array.replicate ((doneFn L).ntmps-(#[p]:Array Value).size) undef:Array Value)=#[p,undef,undef,undef]:=by walk_nrmf doneFn
section
variable {P:Ba} {SB BB:FuncId->Bool} {lets:Bool} {Gn:Nat} {H:Hid} {T:List Frame} {β:AO} {L:WgLink} {Wg:Nat}
def Barred (P:Ba)(SB:FuncId->Bool)(lets:Bool)(f:FuncId)(fn:Func):Prop:=∃c,P.a.funcs[f]?=some fn/\P.b.funcs[f]?=some fn/\fn.body=some c/\codeOk P.a SB lets true c=false
def S2 (S:Cb)(β:AO)(v V:Value):Prop:=∀X,Aw S β v X->X=V
def S2.undef {S:Cb}:S2 S β undef undef:=λX h=>by
 unfold Go.undef at h ⊢;cases h with
 |@tuple _ x h1 _ =>
  have:x=#[]:=by simpa using h1.symm
  rw[this]
def S2.int {S:Cb}(k:IntKind)(n:Int):S2 S β (.int k n) (.int k n):=λX h=>by cases h;rfl
def S2.ptr {S:Cb}(hf:β.BO Gn){b B:Nat}(hb:β b B)(o:Nat)(s:Option Nat):S2 S β (.pointer (some ⟨b,o,s⟩)) (.pointer (some ⟨B,o,s⟩)):=λX h=>by
 cases h with
 |ptr _ _ h=>rw[hf.fn h hb]
def gQ {f:FuncId}{fn:Func}(DT:Barred P SB lets f fn){args args':Array Value}(hs:args.size=args'.size)(hn:args.size<=fn.ntmps)(hd:∀(i:Nat) (v V:Value),args[i]?=some v->args'[i]?=some V->S2 (SP SB H) β v V){k:CallKind}{F:Frame}
  (h:C5 P SB H lets BB β (Frame.enter P.a f args k) F):F=Frame.enter P.b f args' k:=by
 obtain⟨c,h1,h2,h3,h4⟩:=DT;generalize hF:Frame.enter P.a f args k=fr at h;cases h with
 |on h =>
  exfalso;have ht:=h.todo;rw[<-hF] at ht;simp only[Frame.enter,h1,h3,yd,Option.getD_some] at ht;generalize F.todo=X at ht;cases ht with
  |cons hi _ =>
   cases hi with
   |code hc =>
    simp only[Option.isNone_none] at hc;rw[h4] at hc;cases hc
 |@stop f' a A k' _ _ _ ha =>
  have e1:f=f':=congrArg Frame.fn hF;have e2:k=k':=congrArg Frame.kind hF;subst e1 e2;have e3:args++Array.replicate (fn.ntmps-args.size) undef=a++Array.replicate (fn.ntmps-a.size) undef:=by
   have:=congrArg Frame.tmps hF;simpa [Frame.enter,h1] using this
  have e4:A++Array.replicate (fn.ntmps-A.size) undef=args'++Array.replicate (fn.ntmps-args'.size) undef:=by
   have hsz:=congrArg Array.size e3;simp only[Array.size_append,Array.size_replicate] at hsz;have hA:=ha.size;apply Array.ext_getElem?;intro i;have e5:(args++Array.replicate (fn.ntmps-args.size) undef)[i]?=(a++Array.replicate (fn.ntmps-a.size) undef)[i]?:=by rw[e3]
   rcases yh i fn.ntmps with hi|hi
   .rw[zi,zi] at e5 ⊢;have und:∀(m:Nat),i<m->(Array.replicate m undef)[i]?=some undef:=λm hm=>by rw[yk,if_pos hm]
    have val:∃v,(if i<a.size then a[i]? else(Array.replicate (fn.ntmps-a.size) undef)[i-a.size]?)=some v/\∀X,(if i<A.size then A[i]? else(Array.replicate (fn.ntmps-A.size) undef)[i-A.size]?)=some X->Aw (SP SB H) β v X:=by
     by_cases PH:i<a.size
     .refine⟨a[i],by rw[if_pos PH];simp[PH],λX hX=>?_⟩;rw[if_pos (by omega)] at hX;exact ha.at_ i _ X (by simp[PH]) hX
     .refine⟨undef,by rw[if_neg PH,yk,if_pos (by omega)],λX hX=>?_⟩;rw[if_neg (by omega),yk,if_pos (by omega)] at hX;cases hX;exact Aw.undef _ _
    obtain⟨v,hv,hX⟩:=val;rw[hv] at e5;have hAX:∃X,(if i<A.size then A[i]? else(Array.replicate (fn.ntmps-A.size) undef)[i-A.size]?)=some X:=by
     by_cases PH:i<A.size
     .exact⟨A[i],by rw[if_pos PH];simp[PH]⟩
     .exact⟨undef,by rw[if_neg PH,yk,if_pos (by omega)]⟩
    obtain⟨X,hXe⟩:=hAX;rw[hXe];have hr:=hX X hXe;by_cases PH:i<args.size
    .rw[if_pos PH] at e5;rw[if_pos (by omega)];have:∃V,args'[i]?=some V:=⟨args'[i],by simp[show i<args'.size by omega]⟩;obtain⟨V,hV⟩:=this;rw[hV,hd i v V e5 hV X hr]
    .rw[if_neg PH,yk,if_pos (by omega)] at e5;rw[if_neg (by omega),yk,if_pos (by omega)];have:v=undef:=(Option.some.inj e5).symm;subst this;rw[S2.undef X hr]
   .rw[yM (by simp;omega),yM (by simp;omega)]
  simp only[Frame.enter,h2,yq,Option.getD_some,e4]
def Hn {fr FR:Frame}(h:AQ P.a SB H lets β fr FR)(hc:eK fr):∃(b:Frame) (a:Act) (ops:Array Oper) (i:Nat) (rest:List Nat) (k:List Item),FR=b.at a (.inRegion ops (i::rest)::k):=by
 obtain⟨h1,h2,ops,i,rest,k,h3⟩:=hc;have m:=h.mode;have r:=h.round;have t:=h.todo;rw[h1] at m;rw[h2] at r;rw[h3] at t;obtain⟨f1,f2,f3,f4,f5,f6,f7⟩:=FR;dsimp only at m r t;cases m;cases r;cases t with
 |cons hi _ =>
  cases hi
  exact⟨⟨f1,f2,[],f4,.run,f6,none⟩,⟨f2,f4⟩,ops,i,rest,_,rfl⟩
def GG {fr:Frame}{cs CS:List Frame}(h:B3 P.a SB H lets T β (fr::cs) CS)(hc:eK fr):∃FR CS',CS=FR::CS'/\AQ P.a SB H lets β fr FR/\B3 P.a SB H lets T β cs CS':=by
 cases h with
 |base =>
  obtain⟨_,_,_,_,_,_,h3⟩:=hc;simp[bad] at h3
 |cons h1 h2=>exact⟨_,_,rfl,h1,h2⟩
def gS {g G:Goroutine}(h:CI P SB H lets BB T β g G):G=Go.Conc.G G.frame G.callers:=by
 obtain⟨a1,a2,a3,a4,a5⟩:=G;obtain⟨_,_,⟨_,s1⟩,⟨_,d1⟩,⟨_,o1⟩⟩:=h;dsimp only at *;subst s1 d1 o1
 rfl
def i9 {x:Lone}{fr FR:Frame}{cs CS:List Frame}(h1:AQ P.a SB x.H lets x.β fr FR)(h2:B3 P.a SB x.H lets x.T x.β cs CS):BZ P SB BB lets { x with g:=back fr cs } (Go.Conc.G (FR.finish (.tuple #[])) CS) :=
 ⟨.on (bg h1 (.tuple rfl (by simp))),h2,⟨rfl,rfl⟩,⟨rfl,rfl⟩,⟨rfl,rfl⟩⟩
def Zf (W:WgLib P.b L)(DT:Barred P SB lets L.add (addFn L))(wl:Nat):M3 P SB BB lets Gn L.tWg Wg L.add wl T:=by
 intro x G W0 fr cs e hc hT EZ hg hw IX;have B9:=hg.top;have hcs:=hg.callers;rw[e] at B9 hcs;obtain⟨FR,CS,VF,r1,r2⟩:=GG hcs hc;obtain⟨b,a,ops,i,rest,k,Si⟩:=Hn r1 hc;have eF:G.frame=Frame.enter P.b L.add #[.pointer (some ⟨Wg,0,none⟩),.int .i64 1] .normal:=by
  refine gQ (args:=#[GZ wl,.int .i64 1]) (args':=#[.pointer (some ⟨Wg,0,none⟩),.int .i64 1]) DT rfl (by simp[addFn]) (λj v V h1 h2=>?_) B9
  match j,h1,h2 with
  |0,h1,h2=>cases h1;cases h2;exact .ptr hw.B6 EZ 0 none
  |1,h1,h2=>cases h1;cases h2;exact .int _ _
  |j+2,h1,_=>simp at h1
 refine⟨Go.Conc.G (FR.finish (.tuple #[])) CS,150,?_,i9 r1 r2⟩;rw[gS hg,eF,VF,enter_at _ W.f_add (c:=body_add L) rfl,sa,Si,Frame.finish_at];exact addPos W (b₀:=b) (a₀:=a) (k₀:=k) W0 IX
def vr (W:WgLib P.b L)(DT:Barred P SB lets L.wait (waitFn L))(wl:Nat):jA P SB BB lets Gn L.tWg Wg L.wait wl T:=by
 intro x G W0 fr cs e hc hT EZ hg hw IX;have B9:=hg.top;have hcs:=hg.callers;rw[e] at B9 hcs;obtain⟨FR,CS,VF,r1,r2⟩:=GG hcs hc;obtain⟨b,a,ops,i,rest,k,Si⟩:=Hn r1 hc;have eF:G.frame=Frame.enter P.b L.wait #[.pointer (some ⟨Wg,0,none⟩)] .normal:=by
  refine gQ (args:=#[GZ wl]) (args':=#[.pointer (some ⟨Wg,0,none⟩)]) DT rfl (by simp[waitFn]) (λj v V h1 h2=>?_) B9
  match j,h1,h2 with
  |0,h1,h2=>cases h1;cases h2;exact .ptr hw.B6 EZ 0 none
  |j+1,h1,_=>simp at h1
 refine⟨Go.Conc.G (FR.finish (.tuple #[])) CS,150,AnchWN L (λ_=>True) Wg FR CS,?_,λg w hA=>?_,i9 r1 r2⟩
 .rw[gS hg,eF,VF,enter_at _ W.f_wait (c:=body_wait L) rfl,qm,Si];exact waitStart W (b₀:=b) (a₀:=a) (k₀:=k) W0 IX
 .rw[Si] at hA ⊢;rw[Frame.finish_at];refine⟨?_,_,waitRound W g w hA⟩;obtain⟨_,rfl,_⟩:=hA
  rfl
def vv (W:WgLib P.b L)(DT:Barred P SB lets L.done (doneFn L)){x:Lone}{G:Goroutine}{W0:World}{c:Frame}{cs:List Frame}{wl:Nat}(e:x.g=Bx (Frame.enter P.a L.done #[GZ wl] .deferred) (c::cs))(hc:c≠bad)(EZ:x.β wl Wg)
  (hg:BZ P SB BB lets x G) (hw:Dq P SB lets Gn x W0) (IX:WgLive L.tWg Wg W0) (hQ:∀C CS,AQ P.a SB x.H lets x.β c C->B3 P.a SB x.H lets x.T x.β cs CS->C.mode=.returning/\∃q,QuitsD P.b q 0 (Go.Conc.G C CS)) :
  ∃m,GW P.b L.tWg Wg false (R0 P.b L.tWg Wg) m G W0:=by
 have B9:=hg.top;have hcs:=hg.callers;rw[e] at B9 hcs;have:∃C CS,G.callers=C::CS/\AQ P.a SB x.H lets x.β c C/\B3 P.a SB x.H lets x.T x.β cs CS:=by
  generalize G.callers=X at hcs;cases hcs with
  |base=>exact absurd rfl hc
  |cons h1 h2=>exact⟨_,_,rfl,h1,h2⟩
 obtain⟨C,CS,VF,r1,r2⟩:=this;have eF:G.frame=Frame.enter P.b L.done #[.pointer (some ⟨Wg,0,none⟩)] .deferred:=by
  refine gQ (args:=#[GZ wl]) (args':=#[.pointer (some ⟨Wg,0,none⟩)]) DT rfl (by simp[doneFn]) (λj v V h1 h2=>?_) B9
  match j,h1,h2 with
  |0,h1,h2=>cases h1;cases h2;exact .ptr hw.B6 EZ 0 none
  |j+1,h1,_=>simp at h1
 obtain⟨hm,q,hq⟩:=hQ C CS r1 r2;refine⟨153,?_⟩;rw[gS hg,eF,VF,enter_atD _ W.f_done (c:=body_done L) rfl,qp];exact done W hm hq W0 IX
end
def Gy (Dead:Nat->Prop)(l:Loc):Prop:=∃a:Addr,l=.cell a/\Dead a.block
structure Gd (P:Program)(Dead:Nat->Prop)(gs:Array Goroutine)(W:World)(t:Trace)(q:Nat->Nat):Prop where
 lv:Leavers P t gs q
 past:Past (Gy Dead) W.heap.size t
 quiet:Quiet (Gy Dead) t
 PI:∀(i:Nat) (op:MemOp),t[i]?=some op->op.g<gs.size
 low:∀B,Dead B->B<W.heap.size
section
variable (P:Ba) (SB BB:FuncId->Bool) (lets:Bool) (Gn:Nat)
structure Tw (Dead:Nat->Prop)(Kp:EP)(x:Lone)(a:Goroutine)(W:World):Prop where
 gl:BZ P SB BB lets x a
 wl:Dq P SB lets Gn x W
 tw:x.H.BA=false
 dead:∀b B,x.β b B->Dead B->x.H b=true
 keep:∀B,Kp.at_ B->B<W.heap.size/\W.heap[B]?=Kp.w.heap[B]?
 Cp:∀b B,x.β b B->Kp.at_ B->x.H b=true\/Ro x.w b
end
section
variable {P:Ba} {SB BB:FuncId->Bool} {lets:Bool} {Gn:Nat} {Dead:Nat->Prop} {Kp:EP}
def Gd.at {gs:Array Goroutine}{W:World}{t:Trace}{q:Nat->Nat}(h:Gd P.b Dead gs W t q)(d:Nat):Gd P.b Dead gs (W.at d) t q:=⟨h.lv,h.past,h.quiet,h.PI,h.low⟩
def Tw.at {x:Lone}{a:Goroutine}{W:World}(h:Tw P SB BB lets Gn Dead Kp x a W)(d:Nat):Tw P SB BB lets Gn Dead Kp x a (W.at d):=⟨h.gl,h.wl.same rfl rfl h.wl.env,h.tw,h.dead,h.keep,h.Cp⟩
def Gd.slip {gs:Array Goroutine}{W:World}{t:Trace}{q:Nat->Nat}(h:Gd P.b Dead gs W t q){i:Nat}{g a:Goroutine}(Gm:0<i)(hi:gs[i]?=some g)(hrun:g.status=.running)(h0:gs[0]?=some a)(ha:a.status=.running)(sl:Option (Nat×Nat)) :
  ∃gs' t' q',runT P.b (crowd gs W sl) i=(.next (crowd gs' W sl),t')/\gs'.size=gs.size/\gs'[0]?=some a/\sumTo gs.size q'<sumTo gs.size q/\Gd P.b Dead gs' W (t++t') q':=by
 have hq:=h.lv.old i g Gm hi;have Sa:(i==0)=false:=by simp;omega
 have hlt:i<gs.size:=(xg.1 hi).1;cases VG:q i with
 |zero=>rw[VG] at hq;rw[hq.1] at hrun;cases hrun
 |succ k =>
  rw[VG] at hq;rcases hq with⟨hf,_⟩|⟨_,g',es,hm,VH,hq'⟩
  .rw[hf] at hrun;cases hrun
  have PK:=runT_crowd_go (P:=P.b) (sl:=sl) (i:=i) hi (by rw[Sa];exact VH W);have Js:sumTo gs.size (upd q i k)+(k+1)=sumTo gs.size q+k:=by
   have:=sumTo_upd q k id hlt;simpa [VG] using this
  have FM:∀op∈MemOp.ofEvents i g.frame.fn g.frame.place es,op.g=i:=λop hop=>by obtain⟨e,_,rfl⟩:=Go.Conc.mem_ofEvents hop;rfl
  refine⟨_,_,upd q i k,PK,by simp,?_,by omega,⟨λj x hj hx=>?_,λj hj=>?_⟩,h.past.mute (by omega) hm,h.quiet.app λop hop x hx hs=>?_,λj op hop=>?_,h.low⟩
  .have hne:i≠0:=by omega
   rw[xR hne,ye,h0];simp[woken_run ha]
  .by_cases S3:i=j
   .subst S3;rw[yU (by simpa using hlt)] at hx;obtain rfl:=Option.some.inj hx;rw[upd_same,Deaf_own];exact hq'
   .rw[xR S3,ye] at hx;obtain⟨y,hy,rfl⟩:=xQ.1 hx;have K9:=h.lv.old j y hj hy;rw[woken_quitsD K9,upd_ne q k (Ne.symm S3),Deaf_other t S3 _ FM];exact K9
  .rw[Deaf_other t (g':=i) (by simp at hj;omega) _ FM];exact h.lv.above j (by simpa using hj)
  .obtain⟨e,he,rfl⟩:=Go.Conc.mem_ofEvents hop;rw[touch_mute (hm e he)] at hx;cases hx
  .rcases getElem?_append_cases hop with⟨_,GD⟩|⟨_,Ey⟩
   .simpa using h.PI j op GD
   .rw[FM op Ey];simpa using hlt
def Gd.fin {gs:Array Goroutine}{W W':World}{t:Trace}{q:Nat->Nat}(h:Gd P.b Dead gs W t q){x:Lone}{a g2:Goroutine}{Ax:AO}{w':World}{ES:Array Event}(F9:x.H.BA=false)(La:∀b B,x.β b B->Dead B->x.H b=true)
  (h0:gs[0]?=some a) (e3:stepG P.b true a W=.go g2 W' ES) (f:EF P SB lets Gn x W Ax w' W' ES.toList) (sl:Option (Nat×Nat)) :
  ∃gs' t',runT P.b (crowd gs W sl) 0=(.next (crowd gs' W' sl),t')/\gs'.size=gs.size/\gs'[0]?=some g2/\Gd P.b Dead gs' W' (t++t') q:=by
 have Zg:ES.toList.toArray=ES:=by simp
 have Hk:=cL f F9;rw[Zg] at Hk;have GF:=dY f F9 (k:=0) (fn:=a.frame.fn) (pos:=a.frame.place);rw[Zg] at GF;have FM:∀op∈MemOp.ofEvents 0 a.frame.fn a.frame.place ES,op.g=0:=λop hop=>by obtain⟨e,_,rfl⟩:=Go.Conc.mem_ofEvents hop;rfl
 have old:∀b B,Ax b B->B<W.heap.size->x.β b B:=λb B hb hB=>(f.new b B hb).elim id λh=>absurd h.2 (Nat.not_le.2 hB);have IY:∀b B,Ax b B->Dead B->x.H b=true:=λb B hb hd=>La b B (old b B hb (h.low B hd)) hd;have G2:∀e∈ES,∀z,(MemAct.ofEvent e).touch?=some z->¬Gy Dead z.loc:=by
  intro e he z hz ⟨b,hb,hd⟩;have hE:=f.evs F9 e (by simpa using he);cases hE with
  |@cell a A wr sy hab _ hc _ =>
   have:z.loc=.cell A:=by simp[MemAct.ofEvent,MemAct.touch?] at hz;subst hz;rfl
   rw[this] at hb;cases hb;obtain⟨n,hn,_⟩:=hc;have:=(f.rel.CG _ _ hab (IY _ _ hab hd)).1;rw[this] at hn;simp[B8] at hn
  |@obj r R wr sy _ _ =>
   have:z.loc=.obj R:=by cases wr<;>cases sy<;>simp[MemAct.ofEvent,MemAct.touch?] at hz<;>subst hz<;>rfl
   rw[this] at hb;cases hb
  |mark hm=>cases hm<;>simp[MemAct.ofEvent,MemAct.touch?] at hz
  |out =>
   have:z.loc=.output:=by simp[MemAct.ofEvent,MemAct.touch?] at hz;subst hz;rfl
   rw[this] at hb;cases hb
 have hlt:0<gs.size:=(xg.1 h0).1
 refine⟨_,_,runT_crowd_go (P:=P.b) (sl:=sl) (i:=0) h0 (by simpa using e3),by simp,by simp[hlt],
  ⟨⟨λj y hj hy=>?_,λj hj=>?_⟩,(h.past.mono f.SIZE).own λe he=>⟨λz hz hs=>absurd hs (G2 e he z hz),(Hk e he).1,(Hk e he).2.1,?_⟩,h.quiet.app λop hop z hz hs=>?_,λj op hop=>?_,λB hB=>xl (h.low B hB) f.SIZE⟩⟩
 .have hne:0≠j:=by omega
  rw[xR hne,ye] at hy;obtain⟨z,hz,rfl⟩:=xQ.1 hy;have K9:=h.lv.old j z hj hz;rw[woken_quitsD K9,Deaf_other t (by omega) _ FM];exact K9
 .rw[Deaf_other t (g':=0) (by simp at hj;omega) _ FM];exact h.lv.above j (by simpa using hj)
 .exact GF { g:=0,fn:=a.frame.fn,pos:=a.frame.place,act:=.ofEvent e } (by rw[ofEvents_eq];exact Array.mem_map.2 ⟨e,he,rfl⟩)
 .obtain⟨e,he,rfl⟩:=Go.Conc.mem_ofEvents hop;exact absurd hs (G2 e he z hz)
 .rcases getElem?_append_cases hop with⟨_,GD⟩|⟨_,Ey⟩
  .simpa using h.PI j op GD
  .rw[FM op Ey];simpa using hlt
def IZ {x:Lone}{W W':World}{Ax:AO}{w':World}{ES:List Event}(f:EF P SB lets Gn x W Ax w' W' ES)(keep:∀B,Kp.at_ B->B<W.heap.size/\W.heap[B]?=Kp.w.heap[B]?)(Cp:∀b B,x.β b B->Kp.at_ B->x.H b=true\/Ro x.w b) :
  (∀B,Kp.at_ B->B<W'.heap.size/\W'.heap[B]?=Kp.w.heap[B]?)/\∀b B,Ax b B->Kp.at_ B->x.H b=true\/Ro w' b:=by
 refine⟨λB hB=>?_,λb B hb hB=>?_⟩
 .obtain⟨k1,k3⟩:=keep B hB;refine⟨xl k1 f.SIZE,?_⟩;rw[<-k3];by_cases hx:∃b,x.β b B
  .obtain⟨b,hb⟩:=hx;rcases Cp b B hb hB with h|⟨cs,ty,z,q1,q2⟩
   .exact f.hk b B hb h
   .exact(f.ro b B cs ty z hb q1 q2).2
  .exact f.KEPT B k1 λb hb=>hx ⟨b,hb⟩
 .have h0:x.β b B:=(f.new b B hb).elim id λh=>absurd h.2 (Nat.not_le.2 (keep B hB).1);exact(Cp b B h0 hB).imp id λh=>h.kept f h0
def Gd.tree (lib:∀H,Lib P SB H lets BB Gn){gs:Array Goroutine}{W:World}{t:Trace}{q:Nat->Nat}(h:Gd P.b Dead gs W t q){x:Lone}{a:Goroutine}(ht:Tw P SB BB lets Gn Dead Kp x a W)(h0:gs[0]?=some a){Q:Goroutine->World->Prop}(hr:AG P.a (BO P.a BB) Q x.g x.w)(hq:¬Q x.g x.w)(sl:Option (Nat×Nat)) :
  ∃gs' W' t' x' a',runT P.b (crowd gs W sl) 0=(.next (crowd gs' W' sl),t')/\gs'.size=gs.size/\gs'[0]?=some a'/\Gd P.b Dead gs' W' (t++t') q/\Tw P SB BB lets Gn Dead Kp x' a' W'/\AG P.a (BO P.a BB) Q x'.g x'.w/\After P.a (x'.g,x'.w) (x.g,x.w)/\x'.H=x.H/\x'.T=x.T/\x.β.le x'.β/\(W'.os=W.os/\W'.output=W.output)/\W.heap.size<=W'.heap.size/\x.w.heap.size<=x'.w.heap.size/\∀b B,x'.β b B->x.β b B\/(x.w.heap.size<=b/\W.heap.size<=B):=by
 obtain⟨g',w',es,Ax,g2,W',ES,e1,e2,e3,e4,e5⟩:=AW.follow (lib x.H) (main2:=true) hr hq ht.gl ht.wl;have f:EF P SB lets Gn x W Ax w' W' ES.toList:=e5;obtain⟨gs',t',k1,k2,k3,k4⟩:=h.fin ht.tw ht.dead h0 e3 f sl;obtain⟨k5,k6⟩:=IZ f ht.keep ht.Cp;have IY:∀b B,Ax b B->Dead B->x.H b=true:=λb B hb hd=>(f.new b B hb).elim (λh1=>ht.dead b B h1 hd) λh1=>absurd h1.2 (Nat.not_le.2 (h.low B hd));exact⟨gs',W',t',⟨g',w',x.H,Ax,x.T⟩,g2,k1,k2,k3,k4,⟨e4,f.rel,ht.tw,IY,k5,k6⟩,e2,⟨W.tape,W.drawn,es,e1,e4.callers.ne⟩,rfl,rfl,f.le,⟨f.OS,f.OUT⟩,f.SIZE,f.size,f.new⟩
def H5 (lib:∀H,Lib P SB H lets BB Gn){H:Hid}{T:List Frame}{β:AO}{Q:Goroutine->World->Prop}{os:Os}{ou:World}{n b0 B0:Nat}:∀(μ:Wm×Nat) (m:Machine) (t:Trace),
  (∃gs W sl q x a,m=crowd gs W sl/\gs[0]?=some a/\gs.size=n/\Gd P.b Dead gs W t q/\Tw P SB BB lets Gn Dead Kp x a W/\AG P.a (BO P.a BB) Q x.g x.w/\x.H=H/\x.T=T/\β.le x.β/\(W.os=os/\W.output=ou.output)/\(B0<=W.heap.size/\b0<=x.w.heap.size/\∀b B,x.β b B->β b B\/(b0<=b/\B0<=B))/\μ=(.tree Q (x.g,x.w),sumTo n q)) ->
  ∃N m' t',runNT P.b N m t=(.next m',t')/\∃gs W sl q x a,m'=crowd gs W sl/\gs[0]?=some a/\gs.size=n/\Gd P.b Dead gs W t' q/\Tw P SB BB lets Gn Dead Kp x a W/\Q x.g x.w/\x.H=H/\x.T=T/\β.le x.β/\(W.os=os/\W.output=ou.output)/\(B0<=W.heap.size/\b0<=x.w.heap.size/\∀b B,x.β b B->β b B\/(b0<=b/\B0<=B)):=by
 have wf:WellFounded (Prod.Lex (Iw P.a) (·<·:Nat->Nat->Prop)):=(Prod.lex ⟨_,Iw.wf P.a⟩ Nat.lt_wfRel).wf;refine jz (P:=P.b) wf (λμ m t=>∃gs W sl q x a,m=crowd gs W sl/\gs[0]?=some a/\gs.size=n/\Gd P.b Dead gs W t q/\Tw P SB BB lets Gn Dead Kp x a W/\AG P.a (BO P.a BB) Q x.g x.w/\x.H=H/\x.T=T/\β.le x.β/\(W.os=os/\W.output=ou.output)/\(B0<=W.heap.size/\b0<=x.w.heap.size/\∀b B,x.β b B->β b B\/(b0<=b/\B0<=B))/\μ=(.tree Q (x.g,x.w),sumTo n q))
  (λm t=>∃gs W sl q x a,m=crowd gs W sl/\gs[0]?=some a/\gs.size=n/\Gd P.b Dead gs W t q/\Tw P SB BB lets Gn Dead Kp x a W/\Q x.g x.w/\x.H=H/\x.T=T/\β.le x.β/\(W.os=os/\W.output=ou.output)/\(B0<=W.heap.size/\b0<=x.w.heap.size/\∀b B,x.β b B->β b B\/(b0<=b/\B0<=B))) ?_
 rintro μ m t ⟨gs,W,sl,q,x,a,rfl,h0,hn,hb,ht,hr,eH,eT,hle,M6,hsz,rfl⟩;by_cases hq:Q x.g x.w
 .exact .inl ⟨gs,W,sl,q,x,a,rfl,h0,hn,hb,ht,hq,eH,eT,hle,M6,hsz⟩
 refine .inr ?_;have I0:a.status=.running:=ht.gl.status.2;have haw:∀g∈gs,awake g:=by
  intro g hg;obtain⟨i,hi,rfl⟩:=Array.mem_iff_getElem.1 hg;rcases xV i with rfl|Gm
  .have:gs[0]=a:=by simpa [xp hi] using h0
   rw[this];exact awake_of (.inl I0)
  .exact awake_of ((hb.lv.old i _ Gm (xp hi)).status.elim .inl λx=>.inr (.inr x))
 obtain⟨i,g,d,sl',hi,hg,hst⟩:=crowd_pick (P:=P.b) (w:=W) (sl:=sl) haw ⟨0,a,h0,I0⟩;rcases xV i with rfl|Gm
 .obtain⟨gs',W',t',x',a',k1,k2,k3,k4,k5,k6,k7,k8,k9,k10,k11,k12,k13,k14⟩:=(hb.at d).tree lib (ht.at d) h0 hr hq sl';exact⟨_,_,(.tree Q (x'.g,x'.w),sumTo n q),by rw[hst,k1],Prod.Lex.left _ _ ⟨.tree hq k7,zL (Br.of hr)⟩,gs',W',sl',q,x',a',rfl,k3,k2.trans hn,k4,k5,k6,k8.trans eH,k9.trans eT,AO.le_trans hle k10,⟨k11.1.trans M6.1,k11.2.trans M6.2⟩,⟨xx hsz.1 k12,xx hsz.2.1 k13,λb B hb=>(k14 b B hb).elim (hsz.2.2 b B) λh=>.inr ⟨xx hsz.2.1 h.1,xx hsz.1 h.2⟩⟩,rfl⟩
 .obtain⟨gs',t',q',k1,k2,k3,k4,k5⟩:=(hb.at d).slip Gm hi hg h0 I0 sl';exact⟨_,_,(.tree Q (x.g,x.w),sumTo n q'),by rw[hst,k1],Prod.Lex.right _ (by rw[<-hn];exact k4),gs',W.at d,sl',q',x,a,rfl,k3,k2.trans hn,k5,ht.at d,hr,eH,eT,hle,M6,hsz,rfl⟩
end
open Go.ConcR (KK WgAt stA smA rd wr mk DC0 Bk)
section
variable {P:Ba} {SB BB:FuncId->Bool} {lets:Bool} {Gn:Nat} {ty Wg:Nat} {Dead Toy:Nat->Prop} {Kp:EP} {Ψ0 Ψ2:World->Prop} {fA fW:FuncId} {wl:Nat} {Pr:AO} {T:List Frame} {Fn:Bool->Hid->Goroutine->World->Prop}
def sd {j:Nat}{f:Nat->Nat}(h:∀i,i<j->f i=0):sumTo j f=0:=by
 induction j with
 |zero=>rfl
 |succ j ih=>simp only[sumTo];rw[ih λi hi=>h i (by omega),h j (by omega)]
def Lb {gs:Array Goroutine}{W:World}{t:Trace}{q:Nat->Nat}{sl:Option (Nat×Nat)}{x:Lone}{a:Goroutine}{tp:Bool}{k:Nat}
    (lv:Leavers P.b t gs q) (past:Past (Gy Dead) Wg t) (quiet:Quiet (Gy Dead) t) (hgs:∀(i:Nat) (op:MemOp),t[i]?=some op->op.g<gs.size) (La:∀B,Dead B->B<Wg) (Cf:WgAt ty Wg W 0 0) (h0:gs[0]?=some a)
    (JD:BZ P SB BB lets x a) (EZ:Dq P SB lets Gn x W) (F9:x.H.BA=false) (hT:x.T=T) (hb:Pr.le x.β) (Hg:∀b,x.β b Wg->x.H b=true) (XN:∀b B,x.β b B->¬Dead B) (Mk:∀b B,x.β b B->Toy B->x.H b=true)
    (Gk:∀B,Toy B->(B≠Wg/\¬Dead B)/\¬Kp.at_ B/\B<W.heap.size) (keep:∀B,Kp.at_ B->B<W.heap.size/\B≠Wg/\W.heap[B]?=Kp.w.heap[B]?) (Cp:∀b B,x.β b B->Kp.at_ B->x.H b=true\/Ro x.w b)
    (M6:W.os=Kp.w.os/\W.output=Kp.w.output) (PC:(tp=true->Ψ0 W)/\(tp=false->Ψ2 W)) (adW:VB P SB BB lets Gn ty Wg Toy Ψ0 Ψ2 fA fW wl Pr T Fn k tp x.H x.g x.w) (Jh:gs.size+k<=Kp.bd/\Kp.bd<=2147483647) :
    ∃μ,NQ P SB BB lets Gn ty Wg Dead Toy Kp Ψ0 Ψ2 fA fW wl Pr T Fn (gs.size-1) μ (crowd gs W sl) t:=by
  have hgp:0<gs.size:=(xg.1 h0).1;have hWg:Wg<W.heap.size:=(xg.1 Cf).1;obtain⟨j,hj⟩:∃j,gs.size=j+1:=⟨gs.size-1,by omega⟩;rw[show gs.size-1=j by omega];obtain⟨ts,NN⟩:∃ts:TS,ts=if tp then .start else .done:=⟨_,rfl⟩
  have NF:ts.tp=tp:=by rw[NN];cases tp<;>rfl
  have adY:∀(i:Nat) (y:Touch),touchAt t i=some y->∀b:Addr,y.loc=.cell b->b.block≠Wg:=by
    intro i y hy b hb e;obtain⟨op,hop,hoy⟩:=touch_of hy;have BU:=past.seen op (xP hop);have key:∀(act:MemAct) (y:Touch),act.touch?=some y->act.low Wg->y.loc=.cell b->False:=by
      intro act y hy BU hb;cases act with
      |access ev =>
        simp only[MemAct.touch?,Option.some.injEq] at hy;subst hy;obtain⟨loc,wr,sy⟩:=ev;simp only at hb;subst hb;simp only[MemAct.low,Loc.low] at BU;omega
      |mark m =>
        cases m<;>simp[MemAct.touch?] at hy
        all_goals
          subst hy;simp only[Loc.cell.injEq] at hb;subst hb;simp only[MemAct.low] at BU;omega
      |_=>simp[MemAct.touch?] at hy
    exact key op.act y hoy BU hb
  let L:Nat->Option Lone:=put (λ_=>none) 0 (some x)
  have GY:∀ {i y},L i=some y->i=0/\y=x:=λ{i y} e=>by
    by_cases e':i=0
    · subst e';simp only[L,AU,Option.some.injEq] at e;exact⟨rfl,e.symm⟩
    · simp only[L,A7 _ _ e'] at e;cases e
  have rdx:∀k l,Kw Toy L ts.tp k l->k=0/\l.isMemory=true/\¬Gy Dead l:=by
    rintro k l (⟨y,hy,b,B,h1,h2,h4⟩|⟨h1,_,B,h2,h4⟩)
    · obtain⟨rfl,rfl⟩:=GY hy
      refine⟨rfl,EG h4,?_⟩;rintro⟨c,rfl,hd⟩;have e:c.block=B:=h4;exact XN b B h1 (e▸hd)
    · refine⟨h1,EG h4,?_⟩
      rintro⟨c,rfl,hd⟩;have e:c.block=B:=h4;exact(Gk B h2).1.2 (e▸hd)
  let D:Nat->WD:=λi=>⟨1,0,Deaf t (i+1)⟩
  have hV:Vc j D=0:=sd λi _=>rfl
  refine⟨((k,9,.tree (Iu P SB BB lets Gn ty Wg Toy Ψ0 Ψ2 fA fW wl Pr T Fn k tp x.H) (x.g,x.w)),(List.range j).map (λi=>Wm.st 1 (q (i+1))),(0,0)),j,gs,W,sl,D,λi=>.st 1 (q (i+1)),λ_=>false,L,ts,λ_=>0,0,0,.sp 0 5,0,λ_=>0,0,x,a,rfl,
    ⟨⟨hj,λi hi=>?_,⟨λi y hy=>?_,λi y hy=>?_,λi y hy=>?_,λi y hy=>?_,λi y hy _=>?_,λi i' y y' hne hy hy'=>?_,⟨hWg,λB hB=>Nat.lt_trans (La B hB) hWg,λB hB=>(Gk B hB).2.2⟩,λB hB=>(Gk B hB).1,keep,λi y hy=>?_,λB hB=>(Gk B hB).2.1,M6⟩,?_,λop hop=>?_,λi hi=>rfl,λi hi h2=>by omega,Cf,λi _ h=>(by cases h),λk h=>?_,⟨λh=>PC.1 ?_,λh=>PC.2 ?_⟩,λi hi=>A7 _ _ (by omega),λi _=>rfl,xh _⟩,
      by rw[NF];exact .free adW hb hT JD,AU _ _ _,h0,past.hears,?_,λe=>by simp at e,by simp only;omega⟩,by simp⟩
  · have hlt:i+1<gs.size:=by omega
    refine⟨gs[i+1],xp hlt,?_⟩;have:L (i+1)=none:=A7 _ _ (by omega);rw[this];exact .quit (lv.old (i+1) _ (by omega) (xp hlt))
  · obtain⟨rfl,rfl⟩:=GY hy;exact EZ
  · obtain⟨rfl,rfl⟩:=GY hy;exact F9
  · obtain⟨rfl,rfl⟩:=GY hy;exact Hg
  · obtain⟨rfl,rfl⟩:=GY hy;exact XN
  · obtain⟨rfl,rfl⟩:=GY hy;exact Mk
  · obtain⟨rfl,rfl⟩:=GY hy
    obtain⟨rfl,rfl⟩:=GY hy';exact absurd rfl hne
  · obtain⟨rfl,rfl⟩:=GY hy;exact Cp
  · have t0 := Ak (Sh := MX Dead Wg) (Wr := OG Toy L ts.tp) (Rd := Kw Toy L ts.tp) (N := j + 1) (Pd := fun _ _ => False) (a := stA Wg) past (fun l hl => by
        obtain⟨c,rfl,h|h⟩:=hl
        · exact .inl ⟨c,rfl,h⟩
        · exact .inr ⟨c,rfl,by omega⟩) (λl hl=>by obtain⟨c,rfl,h⟩:=hl;exact⟨c,rfl,.inl h⟩) (λi op y hi hy hs=>by
        obtain⟨c,hc,h|h⟩:=hs
        · exact quiet i op y hi hy ⟨c,hc,h⟩
        · exact absurd h (adY i y (by rw[touchAt_of hi];exact hy) c hc)) (xh _) (λi op hi=>by have:=hgs i op hi;omega) (by omega) (λk l h=>rdx k l (fR h)) rdx
    exact t0.Vt λ_ _ _ h=>h.elim
  · exact MemAct.low_mono (Nat.le_of_lt hWg) (past.seen op hop)
  · rw[NN] at h;cases tp<;>cases h
  · rw[NN] at h
    cases tp with
    |true=>rfl
    |false=>cases h
  · rw[NN] at h
    cases tp with
    |true=>cases h
    |false=>rfl
  · have:=ConcN.Mode.opn (j:=j) (D:=D) (tag:=.sp 0 5) trivial (λi _=>.inr (.inr (.inr rfl))) (by simp)
    rw[hV] at this;simpa [pend] using this
end
def cQ (p:Program):Frame:={ (default:Frame) with fn:=p.funcs.size,defers:=[],mode:=.panicking [goexitEntry] }
def kH {p:Program} {f:FuncId} {fn:Func} (hf:p.funcs[f]?=some fn) (hname:(fn.name == "runtime.NumGoroutine")=false) {c:Code} (hb:fn.body=some c) (cc:Array Value) (W:World) :
  stepG p false (born p ⟨.fn (.func f) cc,#[]⟩) W=.go (Go.Conc.G (Frame.enter p f cc .deferred) [cQ p]) W #[]:=by
 have h1:¬fn.name = "runtime.NumGoroutine":=by simpa using hname
 simp[born,stepG,unwind,callDeferred,invoke,callFunc,hf,h1,hb,GStep.after,seen_none,cQ,Go.Conc.G]
def qq {p:Program}{C:Frame}{fn:Func}(hf:p.funcs[C.fn]?=some fn)(hr:fn.results=#[])(hm:C.mode=.returning)(hd:C.defers=[])(hk:C.kind=.deferred):QuitsD p 2 0 (Go.Conc.G C [cQ p]):=by
 refine .inr ⟨rfl,Go.Conc.G (cQ p) [],#[],by simp,λw=>?_,.inr ⟨rfl,{ frame:=cQ p,callers:=[],status:=.finished,dying:=none },#[],by simp,λw=>?_,⟨rfl,rfl⟩⟩⟩
 .obtain⟨a1,a2,a3,a4,a5,a6,a7⟩:=C;dsimp only at hf hm hd hk;subst hm hd hk;simp[Go.Conc.G,stepG,unwind,hf,results_none hr,events_results_none hr,doReturn,cQ,goexitEntry,GStep.after,seen_none]
 .simp[Go.Conc.G,stepG,unwind,cQ,goexitEntry,Frame.catches];rfl
def tS {p:Program}{m:Bool}{b:Frame}{a:Act}{ops:Array Oper}{i:Nat}{rest:List Nat}{o:Oper}{k:List Item}{cs:List Frame}{w:World}{f:FuncId}{cc:Array Value}{t:Tmp}(ho:ops[i]?=some o)(hop:o.op=.go { callee:=.value (.tmp t),args:=#[],argTypes:=#[] })(hd:o.dst=none)
  (hw:Region.wanted o (yielded ops a.tmps)=true) (hk:b.kind≠.early) (ht:a.eval (.tmp t)=.func (.func f) #[] cc) :
  stepG p m (Go.Conc.G (b.at a (.inRegion ops (i::rest)::k)) cs) w=.spawn (Go.Conc.G (b.at a (.inRegion ops rest::k)) cs) (born p ⟨.fn (.func f) cc,#[]⟩) w #[]:=by
 have h1:(execOp a.eval o).run p w=.ok (.spawn ⟨.fn (.func f) cc,#[]⟩) w:=by simp[execOp,resolve,hop,ht,Deferred.ofValue]
 have h2:(execOp a.eval o).events p w #[]=#[]:=by simp[execOp,resolve,hop,ht,Deferred.ofValue]
 rw[stepG_spawn ho hw hk h1 rfl];have h3:listed p b.fn a o w=#[]:=by unfold listed;rw[h2];exact seen_none _ _
 have h4:a.put o.dst undef=a:=by rw[hd];rfl
 rw[h3,h4]
section
variable {P:Ba} {SB BB:FuncId->Bool} {lets:Bool} {Gn:Nat} {Wg:Nat} {Toy:Nat->Prop}
structure J8 (P:Ba)(SB BB:FuncId->Bool)(lets:Bool)(x:Lone)(G:Goroutine)(b:Frame)(a:Act)(ops:Array Oper)(i:Nat)(k:List Item)(f:FuncId)(cc:Array Value)(t:Tmp)(fn:Func)(c:Code):Prop where
 g:x.g=Go.Conc.G (b.at a (.inRegion ops [i]::k)) [bad]
 bb:BB b.fn=true
 op:∃o,ops[i]?=some o/\o.op=.go { callee:=.value (.tmp t),args:=#[],argTypes:=#[] }/\o.dst=none/\o.guard=none
 ke:b.kind≠.early
 ht:a.eval (.tmp t)=.func (.func f) #[] cc
 hf:P.a.funcs[f]?=some fn/\P.b.funcs[f]?=some fn/\(fn.name == "runtime.NumGoroutine")=false/\fn.body=some c
 sb:SB f=true
def mW {o:Oper}(h:o.guard=none)(y:Nat->Option Bool):Region.wanted o y=true:=by
 unfold Region.wanted;rw[h]
def I1 {x:Lone}{G:Goroutine}{W:World}{b:Frame}{a:Act}{ops:Array Oper}{i:Nat}{k:List Item}{f:FuncId}{cc:Array Value}{t:Tmp}{fn:Func}{c:Code}(h:J8 P SB BB lets x G b a ops i k f cc t fn c)
  (hg:BZ P SB BB lets x G) :
  ∃G' CC,stepG P.b true G W=.spawn G' (born P.b ⟨.fn (.func f) CC,#[]⟩) W #[]/\BZ P SB BB lets { x with g:=Go.Conc.G (b.at a (.inRegion ops []::k)) [bad] } G'/\AA (SP SB x.H) x.β cc CC:=by
 obtain⟨o,o1,o2,o3,o4⟩:=h.op;have B9:=hg.top.FL (by rw[h.g];exact h.bb);have hcs:=hg.callers;rw[h.g] at B9 hcs;have Iq:AQ P.a SB x.H lets x.β (b.at a (.inRegion ops [i]::k)) G.frame:=B9;obtain⟨B,A,Zh,i2,Zi,K2,Si⟩:=Hn Iq ⟨rfl,rfl,ops,i,[],k,rfl⟩;have XE:=Iq.todo;rw[Si] at XE;have adZ:Zh=ops/\i2::Zi=[i]:=by
  cases XE with
  |cons hi _=>cases hi;exact⟨rfl,rfl⟩
 obtain⟨rfl,e2⟩:=adZ;simp only[List.cons.injEq] at e2;obtain⟨rfl,rfl⟩:=e2;have XA:Aw (SP SB x.H) x.β (a.eval (.tmp t)) (A.eval (.tmp t)):=by
  have:=Iq.tmps;rw[Si] at this;exact this.getD t (Aw.undef _ _)
 rw[h.ht] at XA;have:∃CC,A.eval (.tmp t)=.func (.func f) #[] CC/\AA (SP SB x.H) x.β cc CC:=by
  generalize A.eval (.tmp t)=V at XA;cases XA with
  |@func _ F _ X _ CC hF h1 _ h2 a2 =>
   cases hF with
   |func _ =>
    have:X=#[]:=by simpa using h1.symm
    exact⟨CC,by rw[this],h2,a2⟩
 obtain⟨CC,eC,hCC⟩:=this;have hke:B.kind≠.early:=by
  have:=Iq.kind;rw[Si] at this;have h2:b.kind=B.kind:=this;rw[<-h2];exact h.ke
 have eG:G=Go.Conc.G G.frame G.callers:=gS hg;have fin:=bg Iq (v:=undef) (V:=undef) (Aw.undef _ _);rw[Si,Frame.finish_at,Frame.finish_at,o1] at fin;simp only[yd,o3] at fin;refine⟨Go.Conc.G (B.at A (.inRegion Zh []::K2)) G.callers,CC,?_,⟨.on ?_,?_,⟨rfl,rfl⟩,⟨rfl,rfl⟩,⟨rfl,rfl⟩⟩,hCC⟩
 .rw[eG,Si];exact tS o1 o2 o3 (mW o4 _) hke eC
 .exact fin
 .exact hcs
def Ld (L:∀H,Lib P SB H lets BB Gn){x:Lone}{G:Goroutine}{W:World}{b:Frame}{a:Act}{ops:Array Oper}{i:Nat}{k:List Item}{f:FuncId}{cc:Array Value}{t:Tmp}{fn:Func}{c:Code}(h:J8 P SB BB lets x G b a ops i k f cc t fn c)
  (hg:BZ P SB BB lets x G) (hw:Dq P SB lets Gn x W) (F9:x.H.BA=false) (hid:∀b,x.β b Wg->x.H b=true) (Gj:∀b B,x.β b B->Toy B->x.H b=true) {tp:Bool} {wl:AO} (EZ:∀b B,wl b B->x.β b B)
  {K:Nat->Prop} {w1:World} (hcut:KO P.a SB lets x.H x.H K (Go.Conc.G (b.at a (.inRegion ops []::k)) [bad]) x.w w1) (VI:∀b,K b->x.H b=true\/Ro w1 b) (hcc:AA (SP SB x.H) (Bn K) cc cc) (hK:∀b B,wl b B->K b) :
  ∃G' child,stepG P.b true G W=.spawn G' child W #[] /\
   Split P SB BB lets Gn Wg Toy x G' child W tp tp false ⟨Go.Conc.G (b.at a (.inRegion ops []::k)) [bad],w1,x.H,cut K x.β,x.T⟩ ⟨Go.Conc.G (Frame.enter P.a f cc .deferred) [bad],w1,x.H,cut K x.β,[cQ P.b]⟩ wl:=by
 obtain⟨G',CC,e1,e2,e3⟩:=I1 h (W:=W) hg;obtain⟨f1,f2,f3,f4⟩:=h.hf;have hwc:=lM hcut hw
 refine⟨G',_,e1,?_,hwc,F9,⟨rfl,Go.Conc.G (Frame.enter P.b f CC .deferred) [cQ P.b],λW=>kH f2 f3 f4 CC W,⟨BK (L x.H) (.inl h.sb) (e3.cut hcut.bl hcc) .deferred (by decide),.base,⟨rfl,rfl⟩,⟨rfl,rfl⟩,⟨rfl,rfl⟩⟩⟩,hwc,F9,λb B h=>⟨hK b B h,EZ b B h⟩,
  λb B hb=>⟨b,hb.2,λhh=>⟨hh,λ_=>(VI b hb.1).resolve_left (by rw[hh];simp)⟩⟩,λb B hb=>.inl ⟨b,hb.2,λhh=>⟨hh,λ_=>(VI b hb.1).resolve_left (by rw[hh];simp)⟩⟩,λb hb=>hid b hb.2,λb hb=>hid b hb.2,λb B hb=>Gj b B hb.2,λ_ b B hb=>Gj b B hb.2,?_,⟨λe=>(by cases e),λ_=>rfl⟩⟩
 .exact lL (g:=Go.Conc.G (b.at a (.inRegion ops []::k)) [bad]) h.bb hcut e2
 .intro b1 b2 B h1 h2;have:b1=b2:=hw.B6.inj h1.2 h2.2;subst this;rcases VI b1 h1.1 with e|e
  .exact .inl e
  .exact .inr (.inr ⟨e,e⟩)
def tT (K:Nat->Prop)(β:AO):cut K (cut K β)=cut K β:=by
 funext b B;exact propext ⟨λh=>h.2,λh=>⟨h.1,h⟩⟩
def zH (H:Hid)(tl:Nat->Bool):Hid:=⟨λb=>H.at_ b&&!tl b,false,true⟩
def Le (L:∀H,Lib P SB H lets BB Gn){x:Lone}{G:Goroutine}{W:World}{b:Frame}{a:Act}{ops:Array Oper}{i:Nat}{k:List Item}{f:FuncId}{cc:Array Value}{t:Tmp}{fn:Func}{c:Code}(h:J8 P SB BB lets x G b a ops i k f cc t fn c)
  (hg:BZ P SB BB lets x G) (hw:Dq P SB lets Gn x W) (F9:x.H.BA=false) (hid:∀b,x.β b Wg->x.H b=true) (Gj:∀b B,x.β b B->Toy B->x.H b=true) {wl:AO} (EZ:∀b B,wl b B->x.β b B)
  {K:Nat->Prop} {w1 wk:World} (hcut:KO P.a SB lets x.H x.H K (Go.Conc.G (b.at a (.inRegion ops []::k)) [bad]) x.w w1) (VI:∀b,K b->x.H b=true\/Ro w1 b) (hK:∀b B,wl b B->K b)
  {tl:Nat->Bool} (hcc:AA (SP SB (zH x.H tl)) (Bn K) cc cc) (J9:∀b B,x.β b B->tl b=true->Toy B) (VJ:∀b,tl b=true->x.H b=true) (Zj:¬Toy Wg)
  (hsz:w1.heap.size<=wk.heap.size/\wk.os=w1.os) (hold:∀b,K b->tl b=false->wk.heap[b]?=w1.heap[b]?) (M7:∀b o,K b->x.H b=false->w1.heap[b]?=some o->Bw (SP SB (zH x.H tl)) (CK P.a SB lets) (Bn K) o o)
  (KZ:∀b B,K b->tl b=true->x.β b B->∃o O,wk.heap[b]?=some o/\W.heap[B]?=some O/\Bw (SP SB (zH x.H tl)) (CK P.a SB lets) (cut K x.β) o O) (hlt:∀b,x.H b=true->b<wk.heap.size) :
  ∃G' child,stepG P.b true G W=.spawn G' child W #[] /\
   Split P SB BB lets Gn Wg Toy x G' child W true false true ⟨Go.Conc.G (b.at a (.inRegion ops []::k)) [bad],w1,x.H,cut K x.β,x.T⟩ ⟨Go.Conc.G (Frame.enter P.a f cc .deferred) [bad],wk,zH x.H tl,cut K x.β,[cQ P.b]⟩ wl:=by
 obtain⟨G',CC,e1,e2,e3⟩:=I1 h (W:=W) hg;obtain⟨f1,f2,f3,f4⟩:=h.hf;have hwc:=lM hcut hw;have hH:∀b,(zH x.H tl) b=true↔x.H b=true/\tl b=false:=λb=>by simp[zH]
 have hHf:∀b,(zH x.H tl) b=false->x.H b=false\/tl b=true:=λb hb=>by
  simp only[zH,Bool.and_eq_false_iff,yQ] at hb;exact hb
 have hRk:∀b,K b->tl b=false->Ro w1 b->Ro wk b:=λb hk ht ⟨c,t,z,h1,h2⟩=>⟨c,t,z,(hold b hk ht).trans h1,h2⟩;have hwk:Bg (SP SB (zH x.H tl)) (CK P.a SB lets) Gn (cut K x.β) wk W:=by
  refine⟨hwc.B6,⟨xx hwc.room.1 hsz.1,hwc.room.2⟩,λb B hb hh=>?_,λb B hb hh=>?_,λb hh=>hlt b ((hH b).1 hh).1,by rw[hsz.2];exact hwc.env⟩
  .cases ht:tl b with
   |true=>exact KZ b B hb.1 ht hb.2
   |false =>
    have hx:x.H b=false:=(hHf b hh).resolve_right (by rw[ht];simp);obtain⟨o,O,q1,q2,q3⟩:=hwc.Cq b B hb hx;refine⟨o,O,(hold b hb.1 ht).trans q1,q2,?_⟩;have:=q3.cut rfl (M7 b o hb.1 hx q1);rw[tT] at this;exact this
  .obtain⟨q1,q2⟩:=(hH b).1 hh;obtain⟨r1,r2,_⟩:=hwc.CG b B hb q1;exact⟨(hold b hb.1 q2).trans r1,λ_=>r2 F9,λe=>by cases e⟩
 refine⟨G',_,e1,?_,hwc,F9,⟨rfl,Go.Conc.G (Frame.enter P.b f CC .deferred) [cQ P.b],λW=>kH f2 f3 f4 CC W,⟨BK (L (zH x.H tl)) (.inl h.sb) (e3.cut rfl hcc) .deferred (by decide),.base,⟨rfl,rfl⟩,⟨rfl,rfl⟩,⟨rfl,rfl⟩⟩⟩,hwk,rfl,λb B h=>⟨hK b B h,EZ b B h⟩,
  λb B hb=>⟨b,hb.2,λhh=>⟨hh,λ_=>(VI b hb.1).resolve_left (by rw[hh];simp)⟩⟩,λb B hb=>?_,λb hb=>hid b hb.2,λb hb=>(hH b).2 ⟨hid b hb.2,?_⟩,λb B hb=>Gj b B hb.2,λe=>(by cases e),?_,⟨λ_=>⟨rfl,rfl⟩,λe=>(by cases e)⟩⟩
 .exact lL (g:=Go.Conc.G (b.at a (.inRegion ops []::k)) [bad]) h.bb hcut e2
 .cases ht:tl b with
  |true=>exact .inr ⟨rfl,J9 b B hb.2 ht⟩
  |false =>
   refine .inl ⟨b,hb.2,λhh=>?_⟩;have hx:x.H b=false:=(hHf b hh).resolve_right (by rw[ht];simp);exact⟨hx,λ_=>hRk b hb.1 ht ((VI b hb.1).resolve_left (by rw[hx];simp))⟩
 .cases ht:tl b with
  |false=>rfl
  |true=>exact absurd (J9 b Wg hb.2 ht) Zj
 .intro b1 b2 B h1 h2;have:b1=b2:=hw.B6.inj h1.2 h2.2;subst this;rcases VI b1 h1.1 with e|e
  .exact .inl e
  .cases ht:tl b1 with
   |true=>exact .inl (VJ b1 ht)
   |false=>exact .inr (.inr ⟨e,hRk b1 h1.1 ht e⟩)
end
abbrev BM (SB:FuncId->Bool)(H:Hid)(K:Nat->Prop)(v:Value):Prop:=Aw (SP SB H) (Bn K) v v
def BQ {SB:FuncId->Bool}{H:Hid}{K:Nat->Prop}{l:List Value}(h:∀v∈l,BM SB H K v):AA (SP SB H) (Bn K) l.toArray l.toArray :=
 ⟨rfl,λi v V h1 h2=>by
  rw[h1] at h2;cases h2
  exact h v (yI (by simpa using h1))⟩
def BM.mono {SB:FuncId->Bool}{H:Hid}{K K':Nat->Prop}{v:Value}(h:BM SB H K v)(hk:∀b,K b->K' b):BM SB H K' v :=
 Aw.mono (λb B hb=>⟨hk b hb.1,hb.2⟩) h
def BM.ptr {SB:FuncId->Bool}{H:Hid}{K:Nat->Prop}{b:Nat}(hb:K b)(o:Nat)(s:Option Nat):BM SB H K (.pointer (some ⟨b,o,s⟩)):=Aw.ptr o s ⟨hb,rfl⟩
def BM.slice {SB:FuncId->Bool}{H:Hid}{K:Nat->Prop}{b:Nat}(hb:K b)(o:Nat)(s:Option Nat)(l c:Nat):BM SB H K (.slice (some ⟨b,o,s⟩) l c):=Aw.slice o s l c ⟨hb,rfl⟩
def BM.undef {SB:FuncId->Bool}{H:Hid}{K:Nat->Prop}:BM SB H K undef:=Aw.undef _ _
def BM.agg {SB:FuncId->Bool}{H:Hid}{K:Nat->Prop}{l:List Value}(h:∀v∈l,BM SB H K v):BM SB H K (.agg l.toArray):=Aw.agg rfl (BQ h).at_
def BM.func {SB:FuncId->Bool}{H:Hid}{K:Nat->Prop}{f:FuncId}(hf:SB f=true){l:List Value}(h:∀v∈l,BM SB H K v):BM SB H K (.func (.func f) #[] l.toArray):=Aw.func (Fe.func (.inl hf)) rfl (λi v V h1=>by simp at h1) rfl (BQ h).at_
def froze (w:World)(r:Nat):World:=match w.heap[r]? with
 |some (.cells c t _)=>{ w with heap:=w.heap.setIfInBounds r (.cells c t (0,c.size)) }
 |_=>w
def cR (w:World)(r:Nat):(froze w r).heap.size=w.heap.size:=by
 unfold froze;split<;>simp
def fS (w:World)(r:Nat):(froze w r).os=w.os:=by
 unfold froze;split<;>rfl
def eM (w:World){r b:Nat}(h:b≠r):(froze w r).heap[b]?=w.heap[b]?:=by
 unfold froze;split
 .exact xR (Ne.symm h)
 .rfl
def dc {w:World}{r:Nat}{c:Array Value}{t:TypeId}{f:Nat×Nat}(h:w.heap[r]?=some (.cells c t f)):(froze w r).heap[r]?=some (.cells c t (0,c.size)):=by
 unfold froze;rw[h];exact yU (xg.1 h).1
def Ext (w w':World):Prop:=w.heap.size<=w'.heap.size/\(∀b,b<w.heap.size->w'.heap[b]?=w.heap[b]?)/\w'.os=w.os
def Ext.trans {a b c:World}(h:Ext a b)(k:Ext b c):Ext a c:=⟨xx h.1 k.1,λx hx=>(k.2.1 x (xl hx h.1)).trans (h.2.1 x hx),k.2.2.trans h.2.2⟩
def Ext.alloc (w:World)(o:Obj):Ext w (w.alloc o):=⟨by
 have:(w.alloc o).heap.size=w.heap.size+1:=Array.size_push _;omega,λb hb=>by
 have:(w.alloc o).heap[b]?=if b=w.heap.size then some o else w.heap[b]?:=yL ..
 rw[this,if_neg (zz hb)],rfl⟩
def Ext.same {a b:World}(h:AR a b):Ext a b:=⟨by rw[h.1];exact xh _,λ_ _=>by rw[h.1],h.2.1⟩
end Go.Co
namespace Go.Proofs.Ao
open Go.RowKit Go.AW Go.Co Go.Conc
noncomputable abbrev T8:List Item:=[.inBlock 1,.code (.region 9 o9 false),.inLoop eL,.inBlock 0,.code (.region 10 Ir false)]
noncomputable abbrev tU (p1:Value)(b2 b3 b4 cb sb n c:Nat)(i:Nat)(v5 v6 v7 v8 v9 v10 v14 v15 v16 v17 v18 v19 v20 v21 v22 v23 v24 v25 v26:Value):Frame :=
 (base 39).at ⟨#[.pointer (some ⟨cb,0,none⟩),p1,.pointer (some ⟨b2,0,none⟩),.pointer (some ⟨b3,0,none⟩),.pointer (some ⟨b4,0,none⟩),v5,v6,v7,v8,v9,v10,.slice (some ⟨sb,0,none⟩) n c,.int .i64 n,.int .i64 i,v14,v15,v16,v17,v18,v19,v20,v21,v22,v23,v24,v25,v26],[]⟩ [.code eL,.inLoop eL,.inBlock 0,.code (.region 10 Ir false)]
section
variable {P:Ba} {SB BB:FuncId->Bool} {lets:Bool} {Gn ty Wg:Nat} {Toy:Nat->Prop} {Ψ0 Ψ2:World->Prop} {fA fW:FuncId} {wl:Nat} {Pr:AO} {T:List Frame} {Fn:Bool->Hid->Goroutine->World->Prop}
def se :
  ∀k {tp:Bool} {H:Hid} {g:Goroutine} {w:World},Iu P SB BB lets Gn ty Wg Toy Ψ0 Ψ2 fA fW wl Pr T Fn k tp H g w->Iu P SB BB lets Gn ty Wg Toy Ψ0 Ψ2 fA fW wl Pr T Fn (k+1) tp H g w:=by
 intro k
 induction k with
 |zero=>intro tp H g w h;exact .inl h
 |succ k ih =>
  rintro tp H g w (h|⟨fr,cs,h1,h2,h3⟩)
  .exact .inl h
  .refine .inr ⟨fr,cs,h1,h2,h3.mono (λ_ _ x=>x) λg w hq x G W e1 e2 e3 e4 e5 e6 e7 e8 e9 OH e11=>?_⟩;obtain⟨G',child,x',xk,Mn,o,Sg,Q,q1,q2,q3,q4,q5,q6,q7⟩:=hq x G W e1 e2 e3 e4 e5 e6 e7 e8 e9 OH e11;exact⟨G',child,x',xk,Mn,o,Sg,Q,q1,q2,q3,q4,q5.mono (λ_ _ x=>x) (λ_ _ x=>ih x),q6,q7⟩
def qr {S:Bool->Hid->Goroutine->World->Prop}{tp:Bool}{H:Hid}(g:Goroutine)(w W:World)(s:AR w W)(hq:AtGo P SB BB lets Gn ty Wg Toy Ψ0 Ψ2 Pr T S tp H g w):AtGo P SB BB lets Gn ty Wg Toy Ψ0 Ψ2 Pr T S tp H g W:=λx G W' e1 e2=>hq x G W' e1 (s.trans e2)
def de (hF:∀tp H g w W,AR w W->Fn tp H g w->Fn tp H g W):∀k {tp:Bool} {H:Hid} (g:Goroutine) (w W:World),AR w W->Iu P SB BB lets Gn ty Wg Toy Ψ0 Ψ2 fA fW wl Pr T Fn k tp H g w->Iu P SB BB lets Gn ty Wg Toy Ψ0 Ψ2 fA fW wl Pr T Fn k tp H g W:=by
 have hW:∀ {tp:Bool} {H:Hid} {g:Goroutine} {w W:World},AR w W->gO P fW wl Fn tp H g w->gO P fW wl Fn tp H g W:=λhs ⟨fr,cs,h1,h2,h3⟩=>⟨fr,cs,h1,h2,hF _ _ _ _ _ hs h3⟩;intro k;cases k with
 |zero=>exact λg w W hs h=>hW hs h
 |succ k =>
  rintro tp H g w W hs (h|⟨fr,cs,h1,h2,h3⟩)
  .exact .inl (hW hs h)
  .exact .inr ⟨fr,cs,h1,h2,h3.same (λ_ _ _ _ x=>x) (λg w W s hq x G W' e1 e2=>hq x G W' e1 (s.trans e2)) hs⟩
end
structure Head (SB:FuncId->Bool)(H:Hid)(Gn:Nat)(Kb:Nat->Prop)(Ok:World->Prop)(K:Nat->Prop)(w:World):Prop where
 sub:∀b,Kb b->K b
 base:∀b,K b->H b=false->Ro w b/\∃o,w.heap[b]?=some o/\Bw (SP SB H) (CK Tryz.prog SB true) (Bn K) o o
 hid:∀b,K b->H b=true->w.heap[b]?=some (.coro none)
 lo:∀b,K b->Gn<=b
 lt:∀b,K b->b<w.heap.size
 old:∀b,H b=true->b<w.heap.size
 room:Gn<=w.heap.size
 ok:Ok w
def eN (Kb:Nat->Prop)(Ok:World->Prop):Prop:=∀w w':World,(∀b,Kb b->w'.heap[b]?=w.heap[b]?)->w'.os=w.os->Ok w->Ok w'
section
variable {SB:FuncId->Bool} {H:Hid} {Gn:Nat} {Kb:Nat->Prop} {Ok:World->Prop} {K:Nat->Prop} {w w':World}
def Head.ext (h:Head SB H Gn Kb Ok K w)(hO:eN Kb Ok)(e:Ext w w'):Head SB H Gn Kb Ok K w':=by
 have same:∀b,K b->w'.heap[b]?=w.heap[b]?:=λb hb=>e.2.1 b (h.lt b hb);refine⟨h.sub,λb hb hh=>?_,λb hb hh=>(same b hb).trans (h.hid b hb hh),h.lo,λb hb=>xl (h.lt b hb) e.1,λb hb=>xl (h.old b hb) e.1,xx h.room e.1,hO w w' (λb hb=>same b (h.sub b hb)) e.2.2 h.ok⟩;obtain⟨⟨c,t,f,q1,q2⟩,o,q3,q4⟩:=h.base b hb hh;exact⟨⟨c,t,f,(same b hb).trans q1,q2⟩,o,(same b hb).trans q3,q4⟩
def Head.more (h:Head SB H Gn Kb Ok K w)(hO:eN Kb Ok){r:Nat}(hr:¬K r)(hH:H r=false)(hG:Gn<=r){l:List Value}{t:TypeId}{f:Nat×Nat}(hc:w.heap[r]?=some (.cells l.toArray t f))(hl:∀v∈l,BM SB H (λ_=>False) v) :
  Head SB H Gn Kb Ok (λb=>K b\/b=r) (froze w r):=by
 have ne:∀b,K b->b≠r:=λb hb e=>hr (e▸hb);have same:∀b,K b->(froze w r).heap[b]?=w.heap[b]?:=λb hb=>eM w (ne b hb);refine⟨λb hb=>.inl (h.sub b hb),λb hb hh=>?_,λb hb hh=>?_,λb hb=>?_,λb hb=>?_,λb hb=>by rw[cR];exact h.old b hb,by rw[cR];exact h.room,hO w _ (λb hb=>same b (h.sub b hb)) (fS w r) h.ok⟩
 .rcases hb with hb|rfl
  .obtain⟨⟨c,t,f,q1,q2⟩,o,q3,q4⟩:=h.base b hb hh;exact⟨⟨c,t,f,(same b hb).trans q1,q2⟩,o,(same b hb).trans q3,q4.mono λx y Jg=>⟨.inl Jg.1,Jg.2⟩⟩
  .exact⟨⟨_,_,_,dc hc,λi hi=>⟨xK _,hi⟩⟩,_,dc hc,.cells (BQ λv hv=>(hl v hv).mono λ_=>False.elim) λi h1 h2=>⟨h1,h2⟩⟩
 .rcases hb with hb|rfl
  .exact(same b hb).trans (h.hid b hb hh)
  .rw[hH] at hh;cases hh
 .rcases hb with hb|rfl
  .exact h.lo b hb
  .exact hG
 .rw[cR];rcases hb with hb|rfl
  .exact h.lt b hb
  .exact(xg.1 hc).1
end
noncomputable abbrev PP:Ba:=Ba.of Tryz.prog
noncomputable abbrev PQ:Ba:=⟨An,Tryz.prog.funcs⟩
noncomputable abbrev wY:Code:=Tryz.f74.body.getD .skip
abbrev first (x:Int):Obj:=.cells #[.int .u8 x,.int .u8 0,.int .u8 0,.int .u8 0,.int .u8 0] 72
abbrev bM (b2 b3 b4 r:Nat):Array Value:=#[.pointer (some ⟨b4,0,none⟩),.pointer (some ⟨b2,0,none⟩),.pointer (some ⟨r,0,none⟩),.pointer (some ⟨b3,0,none⟩)]
structure NS (SB BB:FuncId->Bool)(H:Hid)(Gn Wg:Nat)(Toy:Nat->Prop)(Ψ0:World->Prop)(Pr:AO)(T:List Frame)(Kb:Nat->Prop)(Ok:World->Prop)(b2 b3 b4:Nat)(x1:Int)(tp:Bool)(K:Nat->Prop)(a:Act)(r:Nat)(x:Lone)(X:Goroutine)(W:World):Prop where
 op:J8 PP SB BB true x X (base 39) a o8 1 T8 74 (bM b2 b3 b4 r) 24 Tryz.f74 wY
 gl:BZ PP SB BB true x X
 wl:Dq PP SB true Gn x W
 h:x.H=H
 t:x.T=T
 pr:Pr.le x.β
 Ed:tp=true->Ψ0 W
 Gj:∀b B,x.β b B->Toy B->x.H b=true
 wg:∀b,x.β b Wg->x.H b=true
 tw:x.H.BA=false
 head:Head SB H Gn Kb Ok K x.w
 rb:x.w.heap[r]?=some (first x1)
 rK:¬K r/\H r=false/\Gn<=r
 cut:KO Tryz.prog SB true H H (λb=>K b\/b=r) (Go.Conc.G ((base 39).at a (.inRegion o8 []::T8)) [bad]) x.w (froze x.w r)
structure Ctx (SB AZ BB:FuncId->Bool)(H:Hid)(Gn Wg:Nat)(Toy:Nat->Prop)(Ψ0 Ψ2:World->Prop)(Pr:AO)(T:List Frame)(Fn:Bool->Hid->Goroutine->World->Prop)(Kb Kc:Nat->Prop)(Ok:World->Prop)(b2 b3 b4 cb sb n c:Nat)(p1:Value)(sets kind:Nat->Int)(Cv:Nat->Bool):Prop where
 hB:BB 39=true
 XO:SB 39=true
 XP:SB 74=true
 L0:Mg PQ AZ AZ BB Gn
 b0:∀f,AZ f=true->BB f=true
 XQ:AZ 72=true
 todo:∀K,BJ (C0 Tryz.prog SB H true true (Bn K)) (.inRegion o8 []::T8) (.inRegion o8 []::T8)
 BA:H.BA=false
 bl:H.bl=true
 only:eN Kb Ok
 NT:∀w,Ok w->w.cell? ⟨b2,0,none⟩=some (.pointer (some ⟨cb,0,none⟩))
 I2:∀w i,Ok w->i<n->w.cell? ⟨sb,i,none⟩=some (.int .u8 (sets i))
 CZ:∀w b,Ok w->Kc b->Kb b/\∃o,w.heap[b]?=some o/\Bw (SP AZ zD) (CK An AZ false) (Bn Kc) o o
 cK:Kc cb
 kb:Kb b2/\Kb b3/\Kb b4/\Kb cb/\Kb sb
 Gu:BM SB H Kb p1
 wrap:∀i,i<n->IntKind.i64.wrap ((i:Int)+1)=((i+1:Nat):Int)
 I3:∀w i,Ok w->i<n->∀τ d,Calls An 72 #[.pointer (some ⟨cb,0,none⟩),.pointer (some ⟨w.heap.size,0,none⟩),.int .i64 0] (on (w.alloc (first (sets i))) τ d) (λe w'=>∃v,e=.returned v/\((∃y1 y2,v=.agg #[.int .i64 (kind i),.int .i64 y1,.int .i64 y2])/\Ext (w.alloc (first (sets i))) w'))
 Zk:∀i,i<n->kind i≠0->Cv (i+1)=Cv i
 fin:∀(a:Act) (w:World),a.defers=[]->Ok w->Fn (Cv n) H (Go.Conc.G (((base 39).at a [.inRegion Ir [0]]).finish (.tuple #[])) [bad]) w
 Lf:∀tp H g w W,AR w W->Fn tp H g w->Fn tp H g W
 go:∀i,i<n->kind i=0->∀(K:Nat->Prop) (a:Act) (r:Nat) (x:Lone) (X:Goroutine) (W:World),NS SB BB H Gn Wg Toy Ψ0 Pr T Kb Ok b2 b3 b4 (sets i) (Cv i) K a r x X W ->
  ∃(X' child:Goroutine) (xk:Lone) (o:Bool) (Pk:AO) (Q:Goroutine->World->Prop),stepG Tryz.prog true X W=.spawn X' child W #[] /\
   Split PP SB BB true Gn Wg Toy x X' child W (Cv i) (Cv (i+1)) o ⟨Go.Conc.G ((base 39).at a (.inRegion o8 []::T8)) [bad],froze x.w r,H,cut (λb=>K b\/b=r) x.β,T⟩ xk Pk /\
   cM PP SB BB true Gn 133 Wg Ψ2 Q xk.H xk.T Pk o/\(∀g w,Q g w->BB g.frame.fn=false)/\Br Tryz.prog BB Q 0 xk.g xk.w
def fT (w:World)(x:Int):(w.alloc (first x)).heap[w.heap.size]?=some (first x):=by rw[aF,if_pos rfl]
section
variable {SB AZ BB:FuncId->Bool} {H:Hid} {Gn Wg:Nat} {Toy:Nat->Prop} {Ψ0 Ψ2:World->Prop} {Pr:AO} {T:List Frame} {Fn:Bool->Hid->Goroutine->World->Prop} {Kb Kc:Nat->Prop} {Ok:World->Prop} {b2 b3 b4 cb sb n c:Nat} {p1:Value} {sets kind:Nat->Int} {Cv:Nat->Bool}
def sf (C:Ctx SB AZ BB H Gn Wg Toy Ψ0 Ψ2 Pr T Fn Kb Kc Ok b2 b3 b4 cb sb n c p1 sets kind Cv)(Jr:∀b B,Pr b B->Kb b):∀(m i:Nat),i+m=n->∀(K:Nat->Prop) (w:World),Head SB H Gn Kb Ok K w ->
  ∀(v5 v6 v7 v8 v9 v10 v14 v15 v16 v17 v18 v19 v20 v21 v22 v23 v24 v25 v26:Value),(∀v∈[v5,v8,v9,v10,v20,v21,v22,v23,v24,v25,v26],BM SB H K v) ->
  AG Tryz.prog (BO Tryz.prog BB) (Iu PP SB BB true Gn 133 Wg Toy Ψ0 Ψ2 73 76 b4 Pr T Fn m (Cv i) H) (Go.Conc.G (tU p1 b2 b3 b4 cb sb n c i v5 v6 v7 v8 v9 v10 v14 v15 v16 v17 v18 v19 v20 v21 v22 v23 v24 v25 v26) [bad]) w:=by
 intro m
 induction m with
 |zero =>
  intro i hi K w hd v5 v6 v7 v8 v9 v10 v14 v15 v16 v17 v18 v19 v20 v21 v22 v23 v24 v25 v26 hJ;obtain rfl:i=n:=by omega
  refine vm (cb:=0) C.hB (de C.Lf _) (by simp) (Nat.lt_irrefl _) (.fin ?_);exact⟨_,_,rfl,⟨rfl,rfl,_,_,_,_,rfl⟩,C.fin _ _ rfl hd.ok⟩
 |succ m ih =>
  intro i hi K w hd v5 v6 v7 v8 v9 v10 v14 v15 v16 v17 v18 v19 v20 v21 v22 v23 v24 v25 v26 hJ;have Gz:i<n:=by omega
  have l2:b2<w.heap.size:=hd.lt _ (hd.sub _ C.kb.1);have KE:H w.heap.size=false:=by
   cases e:H w.heap.size with
   |false=>rfl
   |true=>exact absurd (hd.old _ e) (Nat.lt_irrefl _)
  refine vg C.hB (de C.Lf _) (by simp) Gz (C.NT w hd.ok) (C.I2 w i hd.ok Gz) l2 ?_;refine C.L0.fn C.XQ C.XQ (K0:=λb=>Kc b\/b=w.heap.size) (by simp) (λb hb=>?_) (by rw[aI];exact zg hd.room) (BQ λv hv=>?_) (λb hb=>?_) (de C.Lf _) (C.I3 w i hd.ok Gz) ?_
  .rcases hb with hb|rfl
   .exact hd.lo b (hd.sub b (C.CZ w b hd.ok hb).1)
   .exact hd.room
  .simp only[xu,xm,or_false] at hv;rcases hv with rfl|rfl|rfl
   .exact BM.ptr (.inl C.cK) _ _
   .exact BM.ptr (.inr rfl) _ _
   .exact Aw.int _ _
  .rcases hb with hb|rfl
   .obtain⟨h1,o,h2,h3⟩:=C.CZ w b hd.ok hb;have hlt:=hd.lt b (hd.sub b h1);exact⟨o,by rw[aF,if_neg (zz hlt)];exact h2,h3.mono λx y Jg=>⟨.inl Jg.1,Jg.2⟩⟩
   .refine⟨_,fT w (sets i),.cells (BQ (l:=[.int .u8 (sets i),.int .u8 0,.int .u8 0,.int .u8 0,.int .u8 0]) λv hv=>?_) λj h1 h2=>⟨h1,h2⟩⟩;simp only[xu,xm,or_false] at hv;rcases hv with rfl|rfl|rfl|rfl|rfl<;>exact Aw.int _ _
  .rintro v w2 ⟨⟨y1,y2,rfl⟩,hE⟩;have hE2:Ext w w2:=(Ext.alloc w _).trans hE;have LL:=hd.ext C.only hE2;have e20:(o6[1]?.bind (·.dst))=some 20:=rfl;rw[Frame.finish_at,e20];have jk:∀y1 y2 k,BM SB H K (.agg #[.int .i64 k,.int .i64 y1,.int .i64 y2]):=λy1 y2 k=>BM.agg (l:=[.int .i64 k,.int .i64 y1,.int .i64 y2]) λv hv=>by
    simp only[xu,xm,or_false] at hv;rcases hv with rfl|rfl|rfl<;>exact Aw.int _ _
   by_cases hk:kind i=0
   .rw[hk];refine tR (cb:=0) (v20:=undef) C.hB (de C.Lf _) (by simp) (.fin (.inr ⟨_,_,rfl,⟨rfl,rfl,_,_,_,_,rfl⟩,?_⟩));have S4:(o7[0]?.bind (·.dst))=some 23:=rfl;unfold back;rw[Frame.finish_at,S4];refine vi (cb:=cb) (v24:=v24) (cs:=[bad]) C.hB qr (by simp) (.fin ?_);intro x X W ex hs eH eT hpr gl wl h0 Gj wg tw;have L6:=LL.ext C.only (Ext.same hs);have hrK:¬K w.heap.size:=λh=>Nat.lt_irrefl _ (hd.lt _ h)
    have MN:x.w.heap[w.heap.size]?=some (first (sets i)):=by
     rw[hs.1,hE.2.1 _ (by rw[aI];exact Nat.lt_succ_self _)];exact fT w _
    have Zl:∀v∈[Value.int .u8 (sets i),.int .u8 0,.int .u8 0,.int .u8 0,.int .u8 0],∀K',BM SB H K' v:=λv hv K'=>by
     simp only[xu,xm,or_false] at hv;rcases hv with rfl|rfl|rfl|rfl|rfl<;>exact Aw.int _ _
    have hm:=L6.more C.only hrK KE hd.room MN λv hv=>Zl v hv _;have kb2:=hd.sub _ C.kb.1;have kb3:=hd.sub _ C.kb.2.1;have kb4:=hd.sub _ C.kb.2.2.1;have Ul:=hd.sub _ C.kb.2.2.2.1;have XR:=hd.sub _ C.kb.2.2.2.2;have M8:∀v,BM SB H K v->BM SB H (λb=>K b\/b=w.heap.size) v:=λv hv=>hv.mono λb hb=>.inl hb;have clo:BM SB H (λb=>K b\/b=w.heap.size) (.func (.func 74) #[] #[.pointer (some ⟨b4,0,none⟩),.pointer (some ⟨b2,0,none⟩),.pointer (some ⟨w.heap.size,0,none⟩),.pointer (some ⟨b3,0,none⟩)]):=BM.func C.XP (l:=[.pointer (some ⟨b4,0,none⟩),.pointer (some ⟨b2,0,none⟩),.pointer (some ⟨w.heap.size,0,none⟩),.pointer (some ⟨b3,0,none⟩)]) λv hv=>by
     simp only[xu,xm,or_false] at hv;rcases hv with rfl|rfl|rfl|rfl
     .exact BM.ptr (.inl kb4) _ _
     .exact BM.ptr (.inl kb2) _ _
     .exact BM.ptr (.inr rfl) _ _
     .exact BM.ptr (.inl kb3) _ _
    have Vw:NS SB BB H Gn Wg Toy Ψ0 Pr T Kb Ok b2 b3 b4 (sets i) (Cv i) K _ w.heap.size x X W:={
     op:=⟨ex,C.hB,⟨_,rfl,rfl,rfl,rfl⟩,by decide,rfl,⟨Tryz.func74,Tryz.func74,by kernel_rfl,rfl⟩,C.XP⟩
     gl:=gl,wl:=wl,h:=eH,t:=eT,pr:=hpr,Ed:=h0,Gj:=Gj,wg:=wg,tw:=tw,head:=L6,rb:=MN,rK:=⟨hrK,KE,hd.room⟩
     cut:=by
      refine⟨⟨rfl,BQ (l:=[_,_,_,_,_,_,_,_,_,_,_,_,_,_,_,_,_,_,_,_,_,_,_,_,_,_,_]) λv hv=>?_,C.todo _,.nil,.run,rfl,⟨(by show CallKind.normal≠.early;decide),C.XO⟩,.none⟩,⟨[bad],.base⟩,λb hb hh=>⟨hh,?_⟩,λb hb hh=>⟨hm.hid b hb hh,.inl hh⟩,by rw[cR];exact xh _,hm.old,fS _ _,⟨C.BA,C.BA⟩,C.bl⟩
      .simp only[xu,xm,or_false] at hv;rcases hv with rfl|rfl|rfl|rfl|rfl|rfl|rfl|rfl|rfl|rfl|rfl|rfl|rfl|rfl|rfl|rfl|rfl|rfl|rfl|rfl|rfl|rfl|rfl|rfl|rfl|rfl|rfl
       .exact BM.ptr (.inl Ul) _ _
       .exact M8 _ (C.Gu.mono hd.sub)
       .exact BM.ptr (.inl kb2) _ _
       .exact BM.ptr (.inl kb3) _ _
       .exact BM.ptr (.inl kb4) _ _
       .exact M8 _ (hJ _ (by simp))
       .exact Aw.int _ _
       .exact BM.ptr (.inr rfl) _ _
       .exact M8 _ (hJ _ (by simp))
       .exact M8 _ (hJ _ (by simp))
       .exact M8 _ (hJ _ (by simp))
       .exact BM.slice (.inl XR) _ _ _ _
       .exact Aw.int _ _
       .exact Aw.int _ _
       .exact Aw.bool _
       .exact BM.ptr (.inl XR) _ _
       .exact Aw.int _ _
       .exact Aw.int _ _
       .exact BM.agg (l:=[.int .u8 (sets i),.int .u8 0,.int .u8 0,.int .u8 0,.int .u8 0]) λv hv=>Zl v hv _
       .exact BM.ptr (.inl Ul) _ _
       .exact M8 _ (jk _ _ _)
       .exact Aw.int _ _
       .exact Aw.bool _
       .exact Aw.undef _ _
       .exact clo
       .exact M8 _ (hJ _ (by simp))
       .exact M8 _ (hJ _ (by simp))
      .obtain⟨_,o,h2,h3⟩:=hm.base b hb hh;refine⟨o,h2,h3,?_⟩;rcases hb with hb|rfl
       .have hne:b≠w.heap.size:=λe=>hrK (e▸hb);exact .inl (by rw[<-eM x.w hne];exact h2)
       .rw[dc MN] at h2;cases h2
        exact .inr ⟨_,_,_,_,MN,rfl,λi h1 h2=>⟨xK _,by simp at h1 h2⟩⟩ }
    obtain⟨X',child,xk,o,Pk,Q,g1,g2,g3,g4⟩:=C.go i Gz hk K _ _ x X W Vw;refine⟨X',child,_,xk,_,o,Pk,Q,g1,g2,rfl,λb B h=>⟨.inl (hd.sub _ (Jr b B h)),hpr b B h⟩,?_,g3,g4⟩;refine vj (cb:=cb) (v25:=v25) (cs:=[bad]) C.hB (de C.Lf _) (by simp) (C.wrap i Gz) ?_;refine ih (i+1) (by omega) _ _ hm _ _ _ _ _ _ _ _ _ _ _ _ _ _ _ _ _ _ _ λv hv=>?_;simp only[xu,xm,or_false] at hv;rcases hv with rfl|rfl|rfl|rfl|rfl|rfl|rfl|rfl|rfl|rfl|rfl
    .exact M8 _ (hJ _ (by simp))
    .exact M8 _ (hJ _ (by simp))
    .exact M8 _ (hJ _ (by simp))
    .exact M8 _ (hJ _ (by simp))
    .exact M8 _ (jk _ _ _)
    .exact Aw.int _ _
    .exact Aw.bool _
    .exact Aw.undef _ _
    .exact clo
    .exact Aw.int _ _
    .exact M8 _ (hJ _ (by simp))
   .refine(tQ (cb:=0) (v20:=undef) C.hB (de C.Lf _) (by simp) (C.wrap i Gz) hk ?_).mono (λ_ _ h=>h) λ_ _ h=>se _ h;have:=ih (i+1) (by omega) K w2 LL v5 (.int .u8 (sets i)) (.pointer (some ⟨w.heap.size,0,none⟩)) v8 v9 v10 (.bool true) (.pointer (some ⟨sb,i,none⟩)) (.int .u8 (sets i)) (.int .u8 (sets i)) (.agg #[.int .u8 (sets i),.int .u8 0,.int .u8 0,.int .u8 0,.int .u8 0]) (.pointer (some ⟨cb,0,none⟩))
     (.agg #[.int .i64 (kind i),.int .i64 y1,.int .i64 y2]) (.int .i64 (kind i)) (.bool true) v23 v24 (.int .i64 ((i+1:Nat):Int)) v26 (λv hv=>?_)
    .rw[C.Zk i Gz hk] at this;exact this
    .simp only[xu,xm,or_false] at hv;rcases hv with rfl|rfl|rfl|rfl|rfl|rfl|rfl|rfl|rfl|rfl|rfl
     .exact hJ _ (by simp)
     .exact hJ _ (by simp)
     .exact hJ _ (by simp)
     .exact hJ _ (by simp)
     .exact jk _ _ _
     .exact Aw.int _ _
     .exact Aw.bool _
     .exact hJ _ (by simp)
     .exact hJ _ (by simp)
     .exact Aw.int _ _
     .exact hJ _ (by simp)
end
end Go.Proofs.Ao
