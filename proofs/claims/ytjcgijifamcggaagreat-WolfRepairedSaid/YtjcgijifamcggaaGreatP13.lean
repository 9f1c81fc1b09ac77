/- Parts of the proof. -/
import Derived.Test.YtjcgijifamcggaaGreatP12
import Derived.Test.YtjcgijifamcggaaGreatP00
import Derived.Test.YtjcgijifamcggaaGreatP02
import Derived.Test.YtjcgijifamcggaaGreatP08
import Derived.Test.YtjcgijifamcggaaGreatP06
import Derived.Conc.DeferLaws
set_option linter.all false
set_option maxRecDepth 100000
namespace Go.Co
open Go.Bl Go.Conc Go.ConcN
section
variable {SB:FuncId->Bool} {H H':Hid} {β:Bc}
def FE.less (h:∀b,H b=false->H' b=false){f F:Fn}(r:FE (SP SB H) β f F):FE (SP SB H') β f F:=by
 cases r with
 |func s=>exact .func s
 |yield l k=>exact .yield l (h _ k)
def AO.less (h:(∀b,H b=false->H' b=false)/\(H.bl=true->H'.bl=true)){v V:Value}(r:AO (SP SB H) β v V):AO (SP SB H') β v V:=by
 induction r with
 |bool b=>exact .bool b
 |int k n=>exact .int k n
 |string s=>exact .string s
 |EI=>exact .EI
 |ptr o s hb=>exact .ptr o s hb
 |Ei l c=>exact .Ei l c
 |slice o s l c hb=>exact .slice o s l c hb
 |func hf h1 _ h2 _ i1 i2=>exact .func (FE.less h.1 hf) h1 i1 h2 i2
 |nilFunc=>exact .nilFunc
 |Et=>exact .Et
 |DY=>exact .DY
 |nilIface=>exact .nilIface
 |iface t _ ih=>exact .iface t ih
 |agg h1 _ i1=>exact .agg h1 i1
 |tuple h1 _ i1=>exact .tuple h1 i1
 |blank h1 h2=>exact .blank (h1.imp (λh=>h) h.2) h2
 |BP h1=>exact .BP (h1.imp (λh=>h) h.2)
 |Cf h1=>exact .Cf (h1.imp (λh=>h) h.2)
def AU.less (h:(∀b,H b=false->H' b=false)/\(H.bl=true->H'.bl=true)){x X:Array Value}(r:AU (SP SB H) β x X):AU (SP SB H') β x X:=⟨r.size,λi v V h1 h2=>AO.less h (r.at_ i v V h1 h2)⟩
def CM.less (h:(∀b,H b=false->H' b=false)/\(H.bl=true->H'.bl=true)){d D:Deferred}(r:CM (SP SB H) β d D):CM (SP SB H') β d D:=by
 cases r with
 |fn f c a=>exact .fn (FE.less h.1 f) (AU.less h c) (AU.less h a)
 |nil a=>exact .nil (AU.less h a)
 |collected r k=>exact .collected r (h.1 _ k)
 |BP a A h1 h2 h3=>exact .BP a A (AU.less h h1) h2 (h3.imp (λh=>h) λx=>⟨h.2 x.1,x.2⟩)
def B4.imp {α:Type}{R R':α->α->Prop}(h:∀a A,R a A->R' a A){l L:List α}(r:B4 R l L):B4 R' l L:=by
 induction r with
 |nil=>exact .nil
 |cons ha _ ih=>exact .cons (h _ _ ha) ih
def BS.less (h:(∀b,H b=false->H' b=false)/\(H.bl=true->H'.bl=true)){Ck:Code->Prop}{o O:Obj}(r:BS (SP SB H) Ck β o O):BS (SP SB H') Ck β o O:=by
 cases r with
 |cells a f=>exact .cells (AU.less h a) f
 |loop p a b x d k=>exact .loop p a b (AU.less h x) d (h.1 _ k)
 |number o s l hb=>exact .number o s l hb
 |taken=>exact .taken
 |defs l=>exact .defs (B4.imp (λ_ _=>CM.less h) l)
end
def GX (p:Program)(b4:Nat)(Ψ:World->Prop)(g:Goroutine)(w:World):Prop :=
 ∃c,g=BU (Frame.enter p 94 #[Hj b4] .deferred) [c,bad]/\c.fn=93/\c.mode=.returning/\c.defers=[]/\c.kind=.deferred/\Ψ w
def pY {p:Program}{b4:Nat}{Ψ:World->Prop}{BB:FuncId->Bool}(Md:BB 94=false){g:Goroutine}{w:World}(h:GX p b4 Ψ g w):BB g.frame.fn=false:=by
 obtain⟨c,rfl,_⟩:=h;exact Md
def vC {c:Frame}(h:c.mode=.returning):c≠bad:=λe=>by rw[e] at h;cases h
section
variable {P:Bw} {SB BB:FuncId->Bool} {lets:Bool} {Gn ty Wg:Nat} {Ψ2:World->Prop}
def lH {L:Lib.WgLink}(Wl:Lib.WgLib P.b L)(Md:L.done=94)(Er:Barred P SB lets L.done (Lib.doneFn L)){f92:Func}(hf:P.b.funcs[93]?=some f92)(hr:f92.results=#[]){b4:Nat}{Ψ:World->Prop}{H:Hid}{Pk:Bc}(hPk:Pk b4 Wg){o:Bool}
  (PG:o=true->∀(x:Lone) (W:World),x.H=H->Pk.le x.β->D6 P SB lets Gn x W->Ψ x.w->Ψ2 W) :
  ct P SB BB lets Gn L.tWg Wg Ψ2 (GX P.a b4 Ψ) H [cA P.b] Pk o:=by
 rintro x g W hH hT hle ⟨c,e,c1,c2,c3,c4,c5⟩ hg hw Jf;refine⟨?_,λho=>PG ho x W hH hle hw c5⟩;refine vB Wl Er (x:=x) (c:=c) (cs:=[bad]) (wl:=b4) (by rw[e,Md]) (vC c2) (hle _ _ hPk) hg hw Jf λC CS r1 r2=>?_;have m:=r1.mode;rw[c2] at m;have hm:C.mode=.returning:=by
  generalize C.mode=M at m;cases m;rfl
 have d:=r1.defers;rw[c3] at d;have hd:C.defers=[]:=by
  generalize C.defers=M at d;cases d;rfl
 rw[hT] at r2;have hcs:CS=[cA P.b]:=by
  generalize OI:[bad]=BL at r2;cases r2 with
  |base=>rfl
  |cons h1 h2=>cases OI;exact absurd rfl h2.ne
 refine⟨hm,2,?_⟩;rw[hcs];exact pW (by rw[<-r1.fn,c1];exact hf) hr hm hd (by rw[<-r1.kind,c4])
end
end Go.Co
namespace Go.Proofs.YtjcgijifamcggaaGreat
open Go.RowKit Go.Bl Go.Co Go.Conc
section
variable {SB BB:FuncId->Bool} {H:Hid} {Gn Wg:Nat} {Toy:Nat->Prop} {Ψ0 Ψ2:World->Prop} {Pr:Bc} {T:List Frame} {Kb:Nat->Prop} {Ok:World->Prop} {b2 b3 b4:Nat} {x1:Int} {tp:Bool} {K:Nat->Prop} {a:Act} {r:Nat} {x:Lone} {X:Goroutine} {W:World}
def oz (x1:Int)(SB:FuncId->Bool)(H:Hid)(K:Nat->Prop):∀v∈[Value.int .u8 x1,.int .u8 0,.int .u8 0,.int .u8 0,.int .u8 0],B6 SB H K v:=λv hv=>by
 simp only[xC,xz,or_false] at hv;rcases hv with rfl|rfl|rfl|rfl|rfl<;>exact AO.int _ _
def NX.Jm (ga:NX SB BB H Gn Wg Toy Ψ0 Pr T Kb Ok b2 b3 b4 x1 tp K a r x X W)(hO:eD Kb Ok):Head SB H Gn Kb Ok (λb=>K b\/b=r) (froze x.w r) :=
 ga.head.more hO ga.rK.1 ga.rK.2.1 ga.rK.2.2 ga.rb λv hv=>oz x1 SB H _ v hv
def ji {H':Hid}(hk:K b2/\K b3/\K b4):AU (SP SB H') (BK (λb=>K b\/b=r)) (bF b2 b3 b4 r) (bF b2 b3 b4 r):=B9 λv hv=>by
 simp only[xC,xz,or_false] at hv;rcases hv with rfl|rfl|rfl|rfl
 .exact B6.ptr (.inl hk.2.2) _ _
 .exact B6.ptr (.inl hk.1) _ _
 .exact B6.ptr (.inr rfl) _ _
 .exact B6.ptr (.inl hk.2.1) _ _
def r7 (lib:∀H,Lib PP SB H true BB Gn){L:Lib.WgLink}(Wl:Lib.WgLib Tryz.prog L)(Md:L.done=94)(hT:L.tWg=159)(Er:Go.Co.Barred PP SB true L.done (Lib.doneFn L))(hO:eD Kb Ok)(hkb:Kb b2/\Kb b3/\Kb b4)(JK:Pr b4 Wg)(Wh:∀b B,Pr b B->Kb b)
  (ga:NX SB BB H Gn Wg Toy Ψ0 Pr T Kb Ok b2 b3 b4 x1 tp K a r x X W)
  (Wi:BB 94=false) (kid:BN Tryz.prog BB (GX Tryz.prog b4 λ_=>True) 0 (Go.Conc.G (Frame.enter Tryz.prog 93 (bF b2 b3 b4 r) .deferred) [bad]) (froze x.w r)) :
  ∃(X' child:Goroutine) (xk:Lone) (o:Bool) (Pk:Bc) (Q:Goroutine->World->Prop),stepG Tryz.prog true X W=.spawn X' child W #[] /\
   Split PP SB BB true Gn Wg Toy x X' child W tp tp o ⟨Go.Conc.G ((base 58).at a (.inRegion o8 []::T8)) [bad],froze x.w r,H,cut (λb=>K b\/b=r) x.β,T⟩ xk Pk /\
   ct PP SB BB true Gn 159 Wg Ψ2 Q xk.H xk.T Pk o/\(∀g w,Q g w->BB g.frame.fn=false)/\BN Tryz.prog BB Q 0 xk.g xk.w:=by
 have hm:=ga.Jm hO;have hH:=ga.h;have ht:=ga.t;subst hH ht
 obtain⟨G',child,e1,e2⟩:=Lp (Toy:=Toy) (tp:=tp) (wl:=Pr) lib ga.op ga.gl ga.wl ga.tw ga.wg ga.GA (λb B h=>ga.pr b B h) ga.cut (λb hb=>by
  cases e:x.H b with
  |true=>exact .inl rfl
  |false=>exact .inr (hm.base b hb e).1) (ji ⟨ga.head.sub _ hkb.1,ga.head.sub _ hkb.2.1,ga.head.sub _ hkb.2.2⟩) (λb B h=>.inl (ga.head.sub _ (Wh b B h)))
 refine⟨G',child,_,false,Pr,GX Tryz.prog b4 λ_=>True,e1,e2,?_,λg w h=>pY Wi h,kid⟩;have:=lH (P:=PP) (Gn:=Gn) (Ψ2:=Ψ2) (BB:=BB) Wl Md Er (f92:=Tryz.f93) Tryz.func93 rfl (Ψ:=λ_=>True) (H:=x.H) (Pk:=Pr) JK (o:=false) (λe=>by cases e);rw[hT] at this;exact this
def EN (tl:Nat->Bool)(oK:Nat->Obj)(w:World):World:={ w with heap:=w.heap.mapIdx λb o=>if tl b then oK b else o }
def bG (tl:Nat->Bool)(oK:Nat->Obj)(w:World):(EN tl oK w).heap.size=w.heap.size:=by simp[EN]
def bH (tl:Nat->Bool)(oK:Nat->Obj)(w:World)(b:Nat)(hb:b<w.heap.size):(EN tl oK w).heap[b]?=if tl b then some (oK b) else w.heap[b]?:=by
 simp only[EN,zA,xD hb,yC];split<;>rfl
def r8 (lib:∀H,Lib PP SB H true BB Gn){L:Lib.WgLink}(Wl:Lib.WgLib Tryz.prog L)(Md:L.done=94)(hT:L.tWg=159)(Er:Go.Co.Barred PP SB true L.done (Lib.doneFn L))(hO:eD Kb Ok)(hkb:Kb b2/\Kb b3/\Kb b4)(JK:Pr b4 Wg)(Wh:∀b B,Pr b B->Kb b)
  (ga:NX SB BB H Gn Wg Toy Ψ0 Pr T Kb Ok b2 b3 b4 x1 true K a r x X W) {tl:Nat->Bool} {oK:Nat->Obj} (Kt:∀b B,Pr b B->tl b=true->Toy B) (Ts:∀b,tl b=true->∃B,Pr b B) (We:∀b,tl b=true->H b=true) (ZV:¬Toy Wg)
  (aeU:∀W,Ψ0 W->∀b B,Pr b B->tl b=true->∃O,W.heap[B]?=some O/\∀(S:CF) (Ck:Code->Prop) (β:Bc),BS S Ck β (oK b) O) {Ψk:World->Prop}
  (aeV:∀(x:Lone) (W:World),x.H=zX H tl->Pr.le x.β->D6 PP SB true Gn x W->Ψk x.w->Ψ2 W)
  (Wi:BB 94=false) (kid:BN Tryz.prog BB (GX Tryz.prog b4 Ψk) 0 (Go.Conc.G (Frame.enter Tryz.prog 93 (bF b2 b3 b4 r) .deferred) [bad]) (EN tl oK (froze x.w r))) :
  ∃(X' child:Goroutine) (xk:Lone) (o:Bool) (Pk:Bc) (Q:Goroutine->World->Prop),stepG Tryz.prog true X W=.spawn X' child W #[] /\
   Split PP SB BB true Gn Wg Toy x X' child W true false o ⟨Go.Conc.G ((base 58).at a (.inRegion o8 []::T8)) [bad],froze x.w r,H,cut (λb=>K b\/b=r) x.β,T⟩ xk Pk /\
   ct PP SB BB true Gn 159 Wg Ψ2 Q xk.H xk.T Pk o/\(∀g w,Q g w->BB g.frame.fn=false)/\BN Tryz.prog BB Q 0 xk.g xk.w:=by
 have hm:=ga.Jm hO;have hH:=ga.h;have ht:=ga.t;subst hH ht;have lt:∀b,(K b\/b=r)->b<(froze x.w r).heap.size:=hm.lt;have pr:∀b B,x.β b B->tl b=true->Pr b B:=λb B hb h=>by
  obtain⟨B',hB⟩:=Ts b h;rw[ga.wl.Cn.fn hb (ga.pr _ _ hB)];exact hB
 have kl:∀b,tl b=true->(K b\/b=r):=λb h=>let ⟨B,hB⟩:=Ts b h;.inl (ga.head.sub _ (Wh b B hB));have Nh:∀b o,(K b\/b=r)->x.H b=false->(froze x.w r).heap[b]?=some o->BS (SP SB (zX x.H tl)) (CK Tryz.prog SB true) (BK λb=>K b\/b=r) o o:=λb o hb hh ho=>by
  obtain⟨_,o',h1,h2⟩:=hm.base b hb hh;rw[ho] at h1;cases h1;exact BS.less ⟨λb hb=>by simp[zX,hb],λ_=>rfl⟩ h2
 have UJ:∀b B,(K b\/b=r)->tl b=true->x.β b B->∃o O,(EN tl oK (froze x.w r)).heap[b]?=some o/\W.heap[B]?=some O/\BS (SP SB (zX x.H tl)) (CK Tryz.prog SB true) (cut (λb=>K b\/b=r) x.β) o O:=λb B hb h hB=>by
  obtain⟨O,h1,h2⟩:=aeU W (ga.EE rfl) b B (pr b B hB h) h;exact⟨oK b,O,by rw[bH _ _ _ _ (lt b hb),if_pos h],h1,h2 _ _ _⟩
 obtain⟨G',child,e1,e2⟩:=Lq (Toy:=Toy) (wl:=Pr) (wk:=EN tl oK (froze x.w r)) (tl:=tl) lib ga.op ga.gl ga.wl ga.tw ga.wg ga.GA (λb B h=>ga.pr b B h) ga.cut (λb hb=>by
  cases e:x.H b with
  |true=>exact .inl rfl
  |false=>exact .inr (hm.base b hb e).1) (λb B h=>.inl (ga.head.sub _ (Wh b B h))) (ji ⟨ga.head.sub _ hkb.1,ga.head.sub _ hkb.2.1,ga.head.sub _ hkb.2.2⟩)
  (λb B hb h=>Kt b B (pr b B hb h) h) We ZV ⟨by rw[bG];exact xp _,rfl⟩ (λb hb h=>by rw[bH _ _ _ _ (lt b hb),if_neg (by simp[h])]) Nh UJ (λb hh=>by rw[bG];exact hm.old b hh)
 refine⟨G',child,_,true,Pr,GX Tryz.prog b4 Ψk,e1,e2,?_,λg w h=>pY Wi h,kid⟩;have:=lH (P:=PP) (Gn:=Gn) (Ψ2:=Ψ2) (BB:=BB) Wl Md Er (f92:=Tryz.f93) Tryz.func93 rfl (Ψ:=Ψk) (H:=zX x.H tl) (Pk:=Pr) JK (o:=true) (λ_=>aeV);rw[hT] at this;exact this
end
end Go.Proofs.YtjcgijifamcggaaGreat
namespace Go.Co
open Go.Bl Go.Conc Go.ConcN
section
variable {P:Program} {Dead:Nat->Prop}
def Gy.awake {gs:Array Goroutine}{W:World}{t:Trace}{q:Nat->Nat}(hb:Gy P Dead gs W t q){a:Goroutine}(h0:gs[0]?=some a)(hrun:a.status=.running):∀g∈gs,Go.Conc.awake g:=by
 intro g hg;obtain⟨i,hi,rfl⟩:=Array.mem_iff_getElem.1 hg;rcases yg i with rfl|GD
 .have:gs[0]=a:=by simpa [xD hi] using h0
  rw[this];exact awake_of (.inl hrun)
 .exact awake_of ((hb.lv.old i _ GD (xD hi)).status.elim .inl λx=>.inr (.inr x))
end
section
variable {P:Bw} {SB BB:FuncId->Bool} {lets:Bool} {Gn:Nat} {Dead:Nat->Prop} {Kp:Fg}
def JZ {gs:Array Goroutine}{W:World}{t:Trace}{q:Nat->Nat}{sl:Option (Nat×Nat)}{a:Goroutine}(hb:Gy P.b Dead gs W t q)(h0:gs[0]?=some a)(hrun:a.status=.running) :
  ∃N m1 t1,runNT P.b N (crowd gs W sl) t=(.next m1,t1)/\∃J0 d NZ q1,stepT P.b m1=runT P.b (crowd J0 (W.at d) NZ) 0/\J0[0]?=some a/\J0.size=gs.size/\Gy P.b Dead J0 (W.at d) t1 q1:=by
 refine jg (P:=P.b) (r:=(·<·:Nat->Nat->Prop)) Nat.lt_wfRel.wf (λn m t=>∃J0 d NZ q1,m=crowd J0 (W.at d) NZ/\J0[0]?=some a/\J0.size=gs.size/\Gy P.b Dead J0 (W.at d) t q1/\n=sumTo gs.size q1)
  (λm1 t1=>∃J0 d NZ q1,stepT P.b m1=runT P.b (crowd J0 (W.at d) NZ) 0/\J0[0]?=some a/\J0.size=gs.size/\Gy P.b Dead J0 (W.at d) t1 q1) ?_ (sumTo gs.size q) (crowd gs W sl) t ⟨gs,W.drawn,sl,q,rfl,h0,rfl,hb,rfl⟩
 rintro n m t ⟨J0,d,NZ,q1,rfl,OP,hs1,hb1,rfl⟩;obtain⟨i,g,d',sl',hi,hg,hst⟩:=crowd_pick (P:=P.b) (w:=W.at d) (sl:=NZ) (hb1.awake OP hrun) ⟨0,a,OP,hrun⟩;rcases yg i with rfl|GD
 .exact .inl ⟨J0,d',sl',q1,hst,OP,hs1,hb1.at d'⟩
 .obtain⟨gs',t',q',k1,k2,k3,k4,k5⟩:=(hb1.at d').slip GD hi hg OP hrun sl';exact .inr ⟨_,_,sumTo gs.size q',by rw[hst,k1];rfl,by rw[<-hs1];exact k4,gs',d',sl',q',rfl,k3,k2.trans hs1,k5,rfl⟩
def Gy.ZY {gs:Array Goroutine}{W W':World}{t:Trace}{q:Nat->Nat}{sl:Option (Nat×Nat)}{a a':Goroutine}(hb:Gy P.b Dead gs W t q)(h0:gs[0]?=some a)(hgo:stepG P.b true a W=.go a' W' #[]) :
  ∃gs',runT P.b (crowd gs W sl) 0=(.next (crowd gs' W' sl),#[])/\gs'.size=gs.size/\gs'[0]?=some a'/\Leavers P.b t gs' q:=by
 have hlt:0<gs.size:=(xm.1 h0).1;have hr:=runT_crowd_go (P:=P.b) (sl:=sl) (i:=0) h0 (by simpa using hgo);have e0:MemOp.ofEvents 0 a.frame.fn a.frame.place #[]=#[]:=by rw[ofEvents_eq];simp
 rw[e0] at hr;refine⟨_,hr,by simp,by simp[hlt],λj y hj hy=>?_,λj hj=>hb.lv.above j (by simpa using hj)⟩;have hne:0≠j:=by omega
 rw[xX hne,yl] at hy;obtain⟨z,hz,rfl⟩:=xW.1 hy;have KO:=hb.lv.old j z hj hz;rw[woken_quitsD KO];exact KO
end
def more (β:Bc)(b B:Nat):Bc:=λx y=>β x y\/(x=b/\y=B)
def nd (β:Bc)(b B:Nat):β.le (more β b B):=λ_ _ h=>.inl h
section
variable {P:Bw} {SB BB:FuncId->Bool} {lets:Bool} {Gn:Nat} {H:Hid} {β:Bc} {w W:World}
def pZ {Ck:Code->Prop}(h:BF (SP SB H) Ck Gn β w W){b:Nat}(hb:∀B,¬β b B)(hH:H b=true)(Gu:H.BX=false)(hw:w.heap[b]?=some (.coro none))(hG:Gn<=b){c:Array Value}{ty:TypeId}{f:Nat×Nat} :
  BF (SP SB H) Ck Gn (more β b W.heap.size) w (W.alloc (.cells c ty f)):=by
 have hlt:∀x y,β x y->y<W.heap.size:=λx y Jz=>by
  cases e:H x with
  |false=>obtain⟨o,O,_,h2,_⟩:=h.CQ x y Jz e;exact(xm.1 h2).1
  |true=>obtain⟨_,h2,_⟩:=h.Db x y Jz e;obtain⟨c,t,f,h3⟩:=h2 Gu;exact(xm.1 h3).1
 have get:∀y,(W.alloc (.cells c ty f)).heap[y]?=if y=W.heap.size then some (.cells c ty f) else W.heap[y]?:=λy=>yY ..
 have size:(W.alloc (.cells c ty f)).heap.size=W.heap.size+1:=Array.size_push _;refine⟨⟨?_,?_,?_⟩,⟨h.room.1,by rw[size];exact zy h.room.2⟩,λx y Jz hh=>?_,λx y Jz hh=>?_,h.old,h.env⟩
 .rintro x y y' (h1|⟨rfl,rfl⟩) (h2|⟨h2,rfl⟩)
  .exact h.Cn.fn h1 h2
  .subst h2;exact absurd h1 (hb _)
  .exact absurd h2 (hb _)
  .rfl
 .rintro x x' y (h1|⟨rfl,rfl⟩) (h2|⟨rfl,h2⟩)
  .exact h.Cn.inj h1 h2
  .have:=hlt _ _ h1;omega
  .have:=hlt _ _ h2;omega
  .rfl
 .rintro x y (h1|⟨rfl,rfl⟩)
  .exact h.Cn.lo h1
  .exact⟨hG,h.room.2⟩
 .rcases Jz with Jz|⟨rfl,rfl⟩
  .obtain⟨o,O,h1,h2,h3⟩:=h.CQ x y Jz hh;exact⟨o,O,h1,by rw[get,if_neg (zP (hlt x y Jz))];exact h2,h3.mono (nd _ _ _)⟩
  .have F3:H x=false:=hh;rw[hH] at F3;cases F3
 .rcases Jz with Jz|⟨rfl,rfl⟩
  .obtain⟨h1,h2,h3⟩:=h.Db x y Jz hh;exact⟨h1,λe=>by rw[get,if_neg (zP (hlt x y Jz))];exact h2 e,λe=>by rw[get,if_neg (zP (hlt x y Jz))];exact h3 e⟩
  .exact⟨hw,λ_=>⟨c,ty,f,by rw[get,if_pos rfl]⟩,λe=>by have e':H.BX=true:=e;rw[Gu] at e';cases e'⟩
end
end Go.Co
namespace Go.Proofs.YtjcgijifamcggaaGreat
open Go.RowKit Go.Bl Go.Co Go.Conc
def sink (kx tl:Nat->Bool)(w:World):World:={ w with heap:=w.heap.mapIdx λb o=>if tl b then .coro none else if kx b then(match o with|.cells c t _=>.cells c t (0,c.size)|o=>o) else o }
def dG (kx tl:Nat->Bool)(w:World):(sink kx tl w).heap.size=w.heap.size:=by simp[sink]
def jO {kx tl:Nat->Bool}{w:World}{b:Nat}(hb:b<w.heap.size)(h:tl b=true):(sink kx tl w).heap[b]?=some (.coro none):=by
 simp[sink,zA,xD hb,h]
def fy {kx tl:Nat->Bool}{w:World}{b:Nat}{c:Array Value}{t:TypeId}{f:Nat×Nat}(hw:w.heap[b]?=some (.cells c t f))(h:kx b=true)(h':tl b=false):(sink kx tl w).heap[b]?=some (.cells c t (0,c.size)):=by
 simp[sink,zA,hw,h,h']
abbrev H6 (tl:Nat->Bool)(w:World):Hid:=⟨λb=>tl b||b==w.heap.size,false,true⟩
abbrev Me (kx tl:Nat->Bool)(w:World)(b:Nat):Prop:=kx b=true\/tl b=true\/b=w.heap.size\/b=w.heap.size+1\/b=w.heap.size+2
def D7 (kx tl:Nat->Bool)(w:World)(cb:Nat)(p1:Value):World:=froze (froze ((((sink kx tl w).alloc (.coro none)).alloc (.cells #[.pointer (some ⟨cb,0,none⟩)] 49)).alloc (.cells #[p1] 119)) (w.heap.size+1)) (w.heap.size+2)
inductive PU:Value->Prop
 |bool (b:Bool):PU (.bool b)
 |int (k:IntKind) (n:Int):PU (.int k n)
def PU.rel {v V:Value}(h:PU v){S S':CF}{β AQ:Bc}(r:AO S β v V):AO S' AQ v V:=by
 cases h with
 |bool b=>cases r;exact .bool b
 |int k n=>cases r;exact .int k n
def EF (o:Obj):Prop:=∃(l:List Value) (t:TypeId) (f:Nat×Nat),o=.cells l.toArray t f/\∀v∈l,PU v
def EF.rel {o O:Obj}(h:EF o){S S':CF}{Ck Zp:Code->Prop}{β AQ:Bc}(r:BS S Ck β o O):BS S' Zp AQ o O:=by
 obtain⟨l,t,f,rfl,hl⟩:=h;cases r with
 |cells a z=>exact .cells ⟨a.size,λi v V h1 h2=>(hl v (yM (by simpa using h1))).rel (a.at_ i v V h1 h2)⟩ z
def Ku (β:Bc)(tl:Nat->Bool)(oK:Nat->Obj)(W:World):Prop:=∀b B,β b B->tl b=true->∃O,W.heap[B]?=some O/\∀(S:CF) (Ck:Code->Prop) (AQ:Bc),BS S Ck AQ (oK b) O
structure Gd (SB Bu BB:FuncId->Bool)(w:World)(kx tl:Nat->Bool)(Kc:Nat->Prop)(Ok:World->Prop)(cb sb n c:Nat)(f:Fn)(fx fc:Array Value)(sets kind:Nat->Int)(C1:Nat->Bool)(oK oE:Nat->Obj):Prop where
 hB:BB 58=true
 Md:BB 94=false
 Yi:SB 58=true
 Yj:SB 93=true
 L0:Mw PQ Bu Bu BB 0
 b0:∀f,Bu f=true->BB f=true
 Yk:Bu 53=true
 todo:∀H K,B4 (Du Tryz.prog SB H true true (BK K)) (.inRegion o8 []::T8) (.inRegion o8 []::T8)
 only:eD (Me kx tl w) Ok
 ok:Ok (D7 kx tl w cb (.func f fx fc))
 NY:∀w',Ok w'->w'.cell? ⟨w.heap.size+1,0,none⟩=some (.pointer (some ⟨cb,0,none⟩))
 hold:∀w',Ok w'->w'.cell? ⟨cb,2,none⟩=some (.slice (some ⟨sb,0,none⟩) n c)/\∃v,w'.cell? ⟨cb,0,none⟩=some v
 Jk:∀w' i,Ok w'->i<n->w'.cell? ⟨sb,i,none⟩=some (.int .u8 (sets i))
 Dt:∀w' b,Ok w'->Kc b->kx b=true/\∃o,w'.heap[b]?=some o/\BS (SP Bu zV) (CK AG Bu false) (BK Kc) o o
 cK:Kc cb
 ks:kx cb=true/\kx sb=true
 Ym:∀b,kx b=true->tl b=false/\∃(l:List Value) (t:TypeId) (g:Nat×Nat),w.heap[b]?=some (.cells l.toArray t g)/\(∀i,g.1<=i->i<g.2->i<l.length)/\∀v∈l,∀H,B6 SB H (λb=>kx b=true\/tl b=true) v
 ZZ:∀b,tl b=true->w.heap[b]?=some (oK b)/\EF (oK b)/\EF (oE b)
 FV:∀H,B6 SB H (λb=>kx b=true\/tl b=true) (.func f fx fc)
 wrap:∀i,i<n->IntKind.i64.wrap ((i:Int)+1)=((i+1:Nat):Int)
 Jl:∀w' i,Ok w'->i<n->∀τ d,Calls AG 53 #[.pointer (some ⟨cb,0,none⟩),.pointer (some ⟨w'.heap.size,0,none⟩),.int .i64 0] (on (w'.alloc (first (sets i))) τ d) (λe w2=>∃v,e=.returned v/\((∃y1 y2,v=.agg #[.int .i64 (kind i),.int .i64 y1,.int .i64 y2])/\Ext (w'.alloc (first (sets i))) w2))
 tp0:C1 0=true
 ZW:∀i,i<n->kind i≠0->C1 (i+1)=C1 i
 which:∀i,i<n->kind i=0->C1 (i+1)=C1 i\/(C1 i=true/\C1 (i+1)=false)
 plain:∀i r w',i<n->kind i=0->C1 (i+1)=C1 i->Ok w'->¬Me kx tl w r->w'.heap[r]?=some (.cells #[.int .u8 (sets i),.int .u8 0,.int .u8 0,.int .u8 0,.int .u8 0] 52 (0,5)) ->
  BN Tryz.prog BB (GX Tryz.prog w.heap.size λ_=>True) 0 (Go.Conc.G (Frame.enter Tryz.prog 93 (bF (w.heap.size+1) (w.heap.size+2) w.heap.size r) .deferred) [bad]) w'
 owner:∀i r w',i<n->kind i=0->C1 i=true->C1 (i+1)=false->Ok w'->¬Me kx tl w r->w'.heap[r]?=some (.cells #[.int .u8 (sets i),.int .u8 0,.int .u8 0,.int .u8 0,.int .u8 0] 52 (0,5)) ->
  BN Tryz.prog BB (GX Tryz.prog w.heap.size λw2=>∀b,tl b=true->w2.heap[b]?=some (oE b)) 0 (Go.Conc.G (Frame.enter Tryz.prog 93 (bF (w.heap.size+1) (w.heap.size+2) w.heap.size r) .deferred) [bad]) (EN tl oK w')
section
variable {SB Bu BB:FuncId->Bool} {w:World} {kx tl:Nat->Bool} {Kc:Nat->Prop} {Ok:World->Prop} {cb sb n c:Nat} {f:Fn} {fx fc:Array Value} {sets kind:Nat->Int} {C1:Nat->Bool} {oK oE:Nat->Obj}
def Gd.lt (I:Gd SB Bu BB w kx tl Kc Ok cb sb n c f fx fc sets kind C1 oK oE){b:Nat}(h:kx b=true\/tl b=true):b<w.heap.size:=by
 rcases h with h|h
 .obtain⟨_,_,_,_,h1,_⟩:=I.Ym b h;exact(xm.1 h1).1
 .exact(xm.1 (I.ZZ b h).1).1
def FnE (BB:FuncId->Bool)(tl:Nat->Bool)(w:World)(tp:Bool)(MD:Bool)(H:Hid)(g:Goroutine)(w':World):Prop:=MD=tp/\H=H6 tl w/\AZ Tryz.prog (B8 Tryz.prog BB) (Bl.Left Tryz.prog 58 λv _=>v=.tuple #[]) g w'
def tT {BB:FuncId->Bool}(hB:BB 58=true){a:Act}{w':World}(hd:a.defers=[]):AZ Tryz.prog (B8 Tryz.prog BB) (Bl.Left Tryz.prog 58 λv _=>v=.tuple #[]) (Go.Conc.G (((base 58).at a [.inRegion II [0]]).finish (.tuple #[])) [bad]) w' :=
 vy hB Bl.Left.same hd (by simp) λa' ha'=>⟨w',.tuple #[],_,⟨rfl,rfl,rfl⟩,rfl,rfl,rfl,rfl,ha',rfl,Tryz.f58,Tryz.func58,results_none rfl _ _ _⟩
def Gd.ctx (I:Gd SB Bu BB w kx tl Kc Ok cb sb n c f fx fc sets kind C1 oK oE)(lib:∀H,Lib PP SB H true BB 0){L:Lib.WgLink}(Wl:Lib.WgLib Tryz.prog L)(Md:L.done=94)(hT:L.tWg=159)(Er:Go.Co.Barred PP SB true L.done (Lib.doneFn L))
    {Wg:Nat} {β:Bc} {Pr:Bc} {T:List Frame} {Toy:Nat->Prop} (JL:∀b B,Pr b B->tl b=true->Toy B) (Ts:∀b,tl b=true->∃B,Pr b B) (Wh:∀b B,Pr b B->Me kx tl w b) (hPw:Pr w.heap.size Wg) (ZV:¬Toy Wg) (Z0:∀b B,tl b=true->(Pr b B↔β b B)) :
    Ctx SB Bu BB (H6 tl w) 0 Wg Toy (Ku β tl oK) (Ku β tl oE) Pr T (FnE BB tl w (C1 n)) (Me kx tl w) Kc Ok (w.heap.size+1) (w.heap.size+2) w.heap.size cb sb n c (.func f fx fc) sets kind C1:=by
  have hkb:Me kx tl w (w.heap.size+1)/\Me kx tl w (w.heap.size+2)/\Me kx tl w w.heap.size:=⟨.inr (.inr (.inr (.inl rfl))),.inr (.inr (.inr (.inr rfl))),.inr (.inr (.inl rfl))⟩
  refine { hB := I.hB, Yi := I.Yi, Yj := I.Yj, L0 := I.L0, b0 := I.b0, Yk := I.Yk, todo := fun K => I.todo _ K, BX := rfl, bl := rfl, only := I.only, NY := I.NY, Jk := I.Jk, Dt := fun w' b h1 h2 => ?_, cK := I.cK,
           kb := ⟨hkb.1, hkb.2.1, hkb.2.2, .inl I.ks.1, .inl I.ks.2⟩, FV := ((I.FV _).mono fun b hb => hb.elim .inl fun h => .inr (.inl h)), wrap := I.wrap, Jl := I.Jl, ZW := I.ZW, fin := fun a w' hd _ => ⟨rfl, rfl, tT I.hB hd⟩,
           Lr:=λtp H g w1 W1 hs h=>⟨h.1,h.2.1,h.2.2.same (λ_ _ _ _ x=>x) Bl.Left.same hs⟩,go:=λi hi hk K a r x X W ga=>?_ }
  · obtain⟨h3,h4⟩:=I.Dt w' b h1 h2
    exact⟨.inl h3,h4⟩
  · have hm:=ga.Jm I.only
    have Kr:¬Me kx tl w r:=λh=>ga.rK.1 (ga.head.sub _ h);rcases I.which i hi hk with e|⟨e1,e2⟩
    · rw[e]
      exact r7 lib Wl Md hT Er I.only hkb hPw Wh ga I.Md (I.plain i r _ hi hk e hm.ok Kr (cR ga.rb))
    · rw[e2]
      rw[e1] at ga ⊢;refine r8 (tl:=tl) (oK:=oK) (Ψk:=λw2=>∀b,tl b=true->w2.heap[b]?=some (oE b)) lib Wl Md hT Er I.only hkb hPw Wh ga JL Ts (λb h=>by simp[h]) ZV (λW hW b B hb h=>hW b B ((Z0 b B h).1 hb) h) (λx W hH hle hw hk b B hb h=>?_) I.Md (I.owner i r _ hi hk e1 e2 hm.ok Kr (cR ga.rb));have hp:=hle b B ((Z0 b B h).2 hb);obtain⟨o,O,h1,h2,h3⟩:=hw.CQ b B hp (by rw[hH];simp[zX,h])
      rw[hk b h] at h1;cases h1;exact⟨O,h2,λS Ck AQ=>(I.ZZ b h).2.2.rel h3⟩
end
open Go.Sq
def step_collected {P:Program}{main:Bool}{b:Frame}{a:Act}{todo:List Item}{cs:List Frame}{w:World}{D:Nat}{l ds:List Deferred}{x:Array Value}(hd:a.defers={ target:=.collected D,args:=x }::ds)(hD:w.heap[D]?=some (.deferred (some l))) :
  ∃es,stepG P main (Go.Conc.G { b.at a todo with mode:=.returning } cs) w=.go (Go.Conc.G { b.at ⟨a.tmps,l++ds⟩ todo with mode:=.returning } cs) { w with heap:=w.heap.setIfInBounds D (.deferred none) } es:=by
 have hr:(Instr.takeDeferred D).run P w=.ok l { w with heap:=w.heap.setIfInBounds D (.deferred none) }:=by
  simp[Instr.takeDeferred,getObj,setObj,Sem.run,hD,Result.andThen]
 exact⟨seen P b.fn ((Instr.takeDeferred D).events P w #[]),by simp[Go.Conc.G,stepG,unwind,Frame.at,hd,hr,GStep.after]⟩
noncomputable abbrev io (b2 b3 b4 r:Nat):Array Value:=(da b2 b3 b4 r).tmps
def vD:codeOk AG Ig false true VF=true:=by kernel_rfl
def lI {BB:FuncId->Bool}(hL:M8 BB){T0 K0:Nat->Prop}{b2 b3 b4 r:Nat}{H:Hid}(hn:H.bl=false){Ψ:World->Prop}{w:World}(hk:K0 b2/\K0 b3/\K0 b4/\K0 r)(hh:∀b,K0 b->H b=true->H.BX=true/\w.heap[b]?=some (.coro none))(Z1:∀b,H b=true->b<w.heap.size)
  (Dj:∀b,K0 b->H b=false->∃o,w.heap[b]?=some o/\BS (SP Ig H) (CK AG Ig false) (BK K0) o o)
  (hwp:∀τ d,VF.wp AG (λe a' w'=>(e=.normal\/e=.ret)/\(e=.normal/\Ψ w'/\∃D,a'.defers=[{ target:=.collected D,args:=#[] },KW b4]/\¬T0 D/\w'.heap[D]?=some (.deferred (some [])))) (da b2 b3 b4 r) (on w τ d))
  (PG:∀W W',Ψ W->(∀b,T0 b->W'.heap[b]?=W.heap[b]?)->Ψ W') :
  BN Tryz.prog BB (GX Tryz.prog b4 Ψ) 0 (Go.Conc.G (Frame.enter Tryz.prog 93 (bF b2 b3 b4 r) .deferred) [bad]) w:=by
 have hB:BB (baseD 93).fn=true:=hL.sub 93 (by decide);have hQ:∀g w W,Bh w W->GX Tryz.prog b4 Ψ g w->GX Tryz.prog b4 Ψ g W:=by
  rintro g w W s ⟨c,e1,e2,e3,e4,e5,e6⟩;exact⟨c,e1,e2,e3,e4,e5,PG w W e6 λb _=>by rw[s.1]⟩
 rw[enter_atD _ Tryz.func93 rfl];have e0:(bF b2 b3 b4 r++Array.replicate (Tryz.f93.ntmps-(bF b2 b3 b4 r).size) undef)=io b2 b3 b4 r:=by
  rw[Tryz.ntmps93];rfl
 rw[e0];refine am hQ hB (Be _ _) ?_;refine ay hQ hB (Be _ _) ?_;simp only[xF,xH,xK,Nat.reduceAdd,xM,List.range,List.range.loop];refine aw hQ hB (by kernel_rfl) λτ d=>?_;rw[stepG_defer rfl rfl (by decide) rfl];simp only[goes_go];refine⟨Be _ _,w,zU,?_⟩;refine ax hQ hB (Be _ _) ?_;have eA:∀o:Option Tmp,o=none->(Act.put ⟨io b2 b3 b4 r,dcall 94 (#[Operand.tmp 0].map (Act.mk (io b2 b3 b4 r) []).eval)::[]⟩ o undef)=da b2 b3 b4 r:=by
  rintro o rfl;simp[Act.put,io,da,dcall,KW,Act.eval]
 have hI:∀v∈[Value.pointer (some ⟨b4,0,none⟩),.pointer (some ⟨b2,0,none⟩),.pointer (some ⟨r,0,none⟩),.pointer (some ⟨b3,0,none⟩),undef,undef,undef,undef,undef,undef,undef,undef],B6 Ig H K0 v:=λv hv=>by
  simp only[xC,xz,or_false] at hv;rcases hv with rfl|rfl|rfl|rfl|rfl|rfl|rfl|rfl|rfl|rfl|rfl|rfl
  .exact B6.ptr hk.2.2.1 _ _
  .exact B6.ptr hk.1 _ _
  .exact B6.ptr hk.2.2.2 _ _
  .exact B6.ptr hk.2.1 _ _
  all_goals exact B6.undef
 have IH:Bf AG Ig H false (BK K0) ((baseD 93).at (da b2 b3 b4 r) [.code VF]) ((baseD 93).at (da b2 b3 b4 r) [.code VF]):=by
  refine⟨rfl,B9 hI,.cons (.code vD) .nil,.cons ?_ .nil,.run,rfl,⟨(by show CallKind.deferred≠.early;decide),(by show Ig 93=true;decide)⟩,.none⟩;refine .fn (.func (.inr (by decide))) (B9 (l:=[]) (by simp)) (B9 (l:=[.pointer (some ⟨b4,0,none⟩)]) λv hv=>?_);simp only[xC,xz,or_false] at hv;subst hv;exact B6.ptr hk.2.2.1 _ _
 have aeX:=(vg (H:=H) hL hn).seg (b:=baseD 93) (a:=da b2 b3 b4 r) (c:=VF) (k:=[]) (C:=bad) (cs:=[]) (Q:=GX Tryz.prog b4 Ψ) (w:=w) (K0:=K0) IH (λ_ _=>xQ _) (xQ _) hh Z1
  Dj (λs h=>by cases h) (λ_ _ _ _ _ _ _ _ _ _ _ h=>by cases h) (.inr ⟨_,_,Sq.put Tryz.func93 rfl,rfl⟩) hQ
  (N:=λe a' w'=>e=.normal/\Ψ w'/\∃D,a'.defers=[{ target:=.collected D,args:=#[] },KW b4]/\¬T0 D/\w'.heap[D]?=some (.deferred (some []))) hwp ?_ (λa' w' todo h _=>by cases h.1)
 .have e9:=eA (#[({ dst:=none,op:=Op.defer { callee:=Callee.value (Operand.func 94),args:=#[Operand.tmp 0],argTypes:=#[159] },type:=0,pos := "wolf.go:243",after:=#[],guard:=none }:Oper)][0].dst) rfl;rw[e9];exact aeX
 .rintro a' w' ⟨_,aeY,D,hd,hD,hDw⟩;show BN Tryz.prog BB (GX Tryz.prog b4 Ψ) 0 _ w';refine aw hQ hB (by kernel_rfl) λτ d=>?_;rw[stepG_end];simp only[goes_go];refine⟨Be _ _,w',zU,?_⟩;refine du hQ hB (by kernel_rfl) λτ d=>?_;obtain⟨es,e1⟩:=step_collected (P:=Tryz.prog) (main:=true) (b:=baseD 93) (todo:=[]) (cs:=[bad]) (w:=on w' τ d) hd hDw;rw[e1];simp only[goes_go];refine⟨Be _ _,{ w' with heap:=w'.heap.setIfInBounds D (.deferred none) },⟨rfl,rfl,rfl⟩,?_⟩
  refine du hQ hB (by kernel_rfl) λτ d=>?_;rw[stepG_unwind_enter (f:=94) (args:=#[.pointer (some ⟨b4,0,none⟩)]) (ds:=[]) rfl Tryz.func94 (by kernel_rfl) rfl];simp only[goes_go];refine⟨Be _ _,{ w' with heap:=w'.heap.setIfInBounds D (.deferred none) },⟨rfl,rfl,rfl⟩,.fin ?_⟩;rw[<-enter_atD _ Tryz.func94 rfl];exact⟨_,rfl,rfl,rfl,rfl,rfl,PG w' _ aeY λb hb=>xX (λe:D=b=>hD (by rw[e];exact hb))⟩
def Yn:List FuncId:=[3,11,14,4,7,6,3,3,3,3,12,37,38,39,63,16,15,13,8,33,36,73,31,34,35,40,61,65,26,17,18,19,20,21,22,23,24,25,69,70,71,49,53,41,42,72,97,50,98,99,43,44,45,46,47,48,51,52,54,86,88,89,90,91,100,101,87,74,75,76,77,78,79,80,81,82,83,84,85,107,136,137,138,139,149,102,103,104,105,106,108,109,110,111,112,113,114,115,153,140,141,142,143,154,3,3,3,3,3,3,3,3,3,29,3,3,3,3,3,3,57,3,3,3,3,3,28,3,3,5,9,10,3,3,3,3,3,3,3,3,3,3,3,3,3,3,3,3,3,3,3,3,27,3,3,3,3,3,3,55,56,3]
def Fw (f:FuncId):Bool:=Yn.contains f
def Tt (f:FuncId):Bool:=f==98||f==99||f==11||f==3
def Yo (f:FuncId):Bool:=Fw f&&!Tt f
def jP {p:Nat->Bool}(h:Yn.all p=true):∀f,Fw f=true->p f=true:=λf hf=>(yu.1 h) f (by simpa [Fw] using hf)
def p5:Yn.all (λf=>Hh AG Fw false f||NR f)=true:=by kernel_rfl
def PV (f:FuncId)(h:Fw f=true):Hh AG Fw false f=true\/NR f=true:=by
 have:=jP p5 f h;simpa using this
def td {P:Bw}(f:FuncId)(hf:aI Fw f=true):FY P f:=by
 have h:Fw 93=false:=by decide
 unfold aI at hf;rw[h,yN,yV] at hf;cases hf
def wZ (H:Hid):Lib (Bw.of AG) Fw H false Fw 0:=m8 (λf hf=>(PV f hf).imp_right λh=>kW h ⟨Sq.fn Tryz.func96 rfl,Sq.fn Tryz.func97 rfl,Sq.fn Tryz.func149 rfl⟩) td ⟨yP Sq.globals_size,Sq.Kn⟩
def r9:Yn.all (λf=>Tt f||!(f==11||GH f||f==98||f==99))=true:=by kernel_rfl
def xa (H:Hid):Lib PW Fw H false Yo 0:=by
 refine im (λf hf=>?_) (λf hf hb=>?_) (λf hf=>?_) td ⟨yP Sq.globals_size,Sq.Kn⟩
 .simp only[Yo,xG,yG] at hf;rcases PV f hf.1 with h|h
  .refine .inl ⟨h,jN ?_⟩;have:=jP r9 f hf.1;simpa [hf.2] using this
  .exact .inr (kW h ⟨Tryz.func96,Tryz.func97,Tryz.func149⟩)
 .simp only[Yo,hf,zG,zc,Tt,xV,beq_iff_eq] at hb;rcases hb with((rfl|rfl)|rfl)|rfl
  .exact⟨_,_,Sq.f98,Tryz.func98,rfl,by show Tryz.f98.name≠_;decide,by decide,rfl,rfl⟩
  .exact⟨_,_,Sq.f99,Tryz.func99,rfl,by show Tryz.f99.name≠_;decide,by decide,rfl,rfl⟩
  .exact⟨_,_,Ax,Tryz.func11,rfl,by show Tryz.f11.name≠_;decide,by decide,rfl,rfl⟩
  .exact⟨_,_,Sq.put Tryz.func3 rfl,Tryz.func3,rfl,by show Tryz.f3.name≠_;decide,by decide,rfl,rfl⟩
 .simp only[Yo,xG] at hf;exact hf.1
structure Fi (BB:FuncId->Bool):Prop where
 sub:∀f,Fw f=true->BB f=true
 VM:BB 134=true
 VN:BB 135=true
def nf {BB:FuncId->Bool}(hL:Fi BB){f:FuncId}(h:f=98\/f=99):K9 PW BB f:=by
 rcases h with rfl|rfl
 .obtain⟨r,o1,o2,s,hp⟩:=I2 98 An 0 1 Sq.f98 rfl (by rw[Ao];decide) rfl;exact⟨0,1,_,r,o1,o2,s,Tryz.f98,hp,kr (hL.sub 98 (by decide)) hL.VM,Tryz.func98,rfl⟩
 .obtain⟨r,o1,o2,s,hp⟩:=I2 99 Aj 1 0 Sq.f99 rfl (by rw[Am];decide) rfl;exact⟨1,0,_,r,o1,o2,s,Tryz.f99,hp,iC (hL.sub 99 (by decide)) hL.VN,Tryz.func99,rfl⟩
def dH {BB:FuncId->Bool}{H:Hid}(hL:Fi BB)(hn:H.bl=false:=by rfl):FX PW Fw Yo BB H 0:=by
 refine⟨wZ _,xa _,λf hf hb=>?_,hL.sub,hn⟩;rcases hf with hf|hf
 .simp only[Yo,hf,zG,zc,Tt,xV,beq_iff_eq] at hb;rcases hb with((rfl|rfl)|rfl)|rfl
  .exact .inr (nf hL (.inl rfl))
  .exact .inr (nf hL (.inr rfl))
  .exact .inl ⟨_,_,Ax,rfl⟩
  .exact .inl ⟨_,_,Sq.put Tryz.func3 rfl,rfl⟩
 .have h:Fw 93=false:=by decide
  unfold aI at hf;rw[h,yN,yV] at hf;cases hf
def sll:List FuncId:=[20,53,50,44,88,89,90,91,87]
def MG (f:FuncId):Bool:=sll.contains f
def jQ {p:Nat->Bool}(h:sll.all p=true):∀f,MG f=true->p f=true:=λf hf=>(yu.1 h) f (by simpa [MG] using hf)
def UK {P:Bw}(f:FuncId)(hf:aI MG f=true):FY P f:=by
 have h:MG 93=false:=by decide
 unfold aI at hf;rw[h,yN,yV] at hf;cases hf
def p6:sll.all (λf=>Hh AG MG false f&&!(f==11||GH f||f==98||f==99))=true:=by kernel_rfl
def vE {BB:FuncId->Bool}(hb:∀f,MG f=true->BB f=true):Mw PW MG MG BB 0:=by
 have h1:∀f,MG f=true->Hh AG MG false f=true:=λf hf=>by
  have:=jQ p6 f hf;simp only[xG] at this;exact this.1
 have h2:∀f,MG f=true->PW.fs[f]?=PW.a.funcs[f]?:=λf hf=>by
  have:=jQ p6 f hf;simp only[xG,yG] at this;exact jN this.2
 refine⟨ve h1 UK ⟨yP Sq.globals_size,Sq.Kn⟩,tJ h1 h2 (λf hf hb=>by rw[hf] at hb;cases hb) (λ_ h=>h) UK ⟨yP Sq.globals_size,Sq.Kn⟩,λf hf hb=>?_,hb⟩;rcases hf with hf|hf
 .rw[hf] at hb;cases hb
 .have h:MG 93=false:=by decide
  unfold aI at hf;rw[h,yN,yV] at hf;cases hf
end Go.Proofs.YtjcgijifamcggaaGreat
namespace Go.Co
open Go.Bl Go.Conc Go.ConcN
section
variable {P:Bw} {SB BB:FuncId->Bool} {lets:Bool} {Gn:Nat} {H:Hid} {T:List Frame} {β:Bc}
def Ls {f:FuncId}{fa fb:Func}{c:Code}(h1:P.a.funcs[f]?=some fa)(h2:P.b.funcs[f]?=some fb)(h3:fa.body=some c)(h4:codeOk P.a SB lets true c=false)(hn:fb.ntmps=fa.ntmps)
  {args:Array Value} (hsz:args.size<=fa.ntmps) {k:CallKind} {F:Frame} (h:Dy P SB H lets BB β (Frame.enter P.a f args k) F):∃ARGS,F=Frame.enter P.b f ARGS k/\AU (SP SB H) β args ARGS:=by
 generalize hF:Frame.enter P.a f args k=fr at h;cases h with
 |on h =>
  exfalso;have ht:=h.todo;rw[<-hF] at ht;simp only[Frame.enter,h1,h3,yp,Option.getD_some] at ht;generalize F.todo=X at ht;cases ht with
  |cons hi _ =>
   cases hi with
   |code hc =>
    simp only[Option.isNone_none] at hc;rw[h4] at hc;cases hc
 |@stop f' a A k' _ _ _ ha =>
  have e1:f=f':=congrArg Frame.fn hF;have e2:k=k':=congrArg Frame.kind hF;subst e1 e2;have e3:args++Array.replicate (fa.ntmps-args.size) undef=a++Array.replicate (fa.ntmps-a.size) undef:=by
   have:=congrArg Frame.tmps hF;simpa [Frame.enter,h1] using this
  have hs:=congrArg Array.size e3;simp only[Array.size_append,Array.size_replicate] at hs;have hA:=ha.size;have asz:a.size<=fa.ntmps:=by omega
  have all:AU (SP SB H) β (args++Array.replicate (fa.ntmps-args.size) undef) (A++Array.replicate (fa.ntmps-A.size) undef):=by
   rw[e3,<-hA];exact ha.append (AU.replicate (AO.undef _ _) _)
  refine⟨(A++Array.replicate (fa.ntmps-A.size) undef).extract 0 args.size,?_,?_⟩
  .have e4 : A ++ Array.replicate (fa.ntmps - A.size) undef = (A ++ Array.replicate (fa.ntmps - A.size) undef).extract 0 args.size ++ Array.replicate (fa.ntmps - ((A ++ Array.replicate (fa.ntmps - A.size) undef).extract 0 args.size).size) undef := by
    have hlen:((A++Array.replicate (fa.ntmps-A.size) undef).extract 0 args.size).size=args.size:=by simp;omega
    rw[hlen];generalize hX:A++Array.replicate (fa.ntmps-A.size) undef=X at all hlen ⊢;have hXs:X.size=fa.ntmps:=by rw[<-hX];simp;omega
    apply Array.ext (by simp;omega);intro i i1 i2;by_cases hi:i<args.size
    .rw[Array.getElem_append_left (by rw[hlen];exact hi)];simp
    .rw[Array.getElem_append_right (by rw[hlen];omega)];simp only[Array.getElem_replicate];have:=all.at_ i undef X[i] (by rw[Array.getElem?_append_right (by omega),yr,if_pos (by omega)]) (xD i1);exact Tp.undef _ this
   simp only[Frame.enter,h2,yC,Option.getD_some,hn];rw[<-e4]
  .have:=all.extract 0 args.size;have e5:(args++Array.replicate (fa.ntmps-args.size) undef).extract 0 args.size=args:=by simp
   rwa [e5] at this
def p7 {S:CF}{Ck:Code->Prop}{w w1 W:World}(h:BF S Ck Gn β w W)(hs:w1.heap.size=w.heap.size)(ho:w1.os=w.os)
  (hb:∀b:Nat,w1.heap[b]?=w.heap[b]?\/∃(c:Array Value) (t:TypeId) (f f1:Nat×Nat),w.heap[b]?=some (.cells c t f)/\w1.heap[b]?=some (.cells c t f1)/\∀i,f.1<=i->i<f.2->f1.1<=i/\i<f1.2):BF S Ck Gn β w1 W:=by
 refine⟨h.Cn,by rw[hs];exact h.room,λb B JB hh=>?_,λb B JB hh=>?_,λb hh=>by rw[hs];exact h.old b hh,by rw[ho];exact h.env⟩
 .obtain⟨o,O,e1,e2,e3⟩:=h.CQ b B JB hh;rcases hb b with e|⟨c,t,f,f1,q1,q2,q3⟩
  .exact⟨o,O,e.trans e1,e2,e3⟩
  .rw[q1] at e1;cases e1;exact⟨_,O,q2,e2,BS.Zt e3 q3⟩
 .obtain⟨e1,e2,e3⟩:=h.Db b B JB hh;rcases hb b with e|⟨c,t,f,f1,q1,q2,q3⟩
  .exact⟨e.trans e1,e2,e3⟩
  .rw[q1] at e1;cases e1
end
def cD {P:Program}{K:Nat}{m1:Machine}{t1:Trace}:∀ {N:Nat} {m:Machine} {t:Trace},runNT P N m t=(.next m1,t1)->runNT P (N+K) m t=runNT P K m1 t1:=by
 intro N
 induction N with
 |zero=>intro m t h;simp only[runNT,Prod.mk.injEq,Stepped.next.injEq] at h;obtain⟨rfl,rfl⟩:=h;rw[xM]
 |succ N ih =>
  intro m t h;rw[show N+1+K=(N+K)+1 by omega];have e : ∀ n, runNT P (n + 1) m t = match stepT P m with
    |(.next m,ops)=>runNT P n m (t++ops)
    |(e,ops)=>(e,t++ops):=λ_=>rfl
  rw[e] at h ⊢;rcases hs:stepT P m with⟨s,ops⟩
  rw[hs] at h;cases s with
  |next m'=>exact ih h
  |ended o w=>simp at h
def ni {P:Program}{m m':Machine}{t:Trace}{ops:Array MemOp}(h:stepT P m=(.next m',ops)):runNT P 1 m t=(.next m',t++ops):=by
 unfold runNT;rw[h];rfl
end Go.Co
