/- Parts of the proof. -/
import Derived.Test.YteckikkkfpblhaaGreatP12
import Derived.Test.YteckikkkfpblhaaGreatP00
import Derived.Test.YteckikkkfpblhaaGreatP02
import Derived.Test.YteckikkkfpblhaaGreatP08
import Derived.Test.YteckikkkfpblhaaGreatP06
import Derived.Conc.DeferLaws
set_option linter.all false
set_option maxRecDepth 100000
namespace Go.Co
open Go.AW Go.Conc Go.ConcN
section
variable {SB:FuncId->Bool} {H H':Hid} {β:AO}
def Fe.less (h:∀b,H b=false->H' b=false){f F:Fn}(r:Fe (SP SB H) β f F):Fe (SP SB H') β f F:=by
 cases r with
 |func s=>exact .func s
 |yield l k=>exact .yield l (h _ k)
def Aw.less (h:(∀b,H b=false->H' b=false)/\(H.bl=true->H'.bl=true)){v V:Value}(r:Aw (SP SB H) β v V):Aw (SP SB H') β v V:=by
 induction r with
 |bool b=>exact .bool b
 |int k n=>exact .int k n
 |string s=>exact .string s
 |Eh=>exact .Eh
 |ptr o s hb=>exact .ptr o s hb
 |DF l c=>exact .DF l c
 |slice o s l c hb=>exact .slice o s l c hb
 |func hf h1 _ h2 _ i1 i2=>exact .func (Fe.less h.1 hf) h1 i1 h2 i2
 |nilFunc=>exact .nilFunc
 |DY=>exact .DY
 |Dl=>exact .Dl
 |nilIface=>exact .nilIface
 |iface t _ ih=>exact .iface t ih
 |agg h1 _ i1=>exact .agg h1 i1
 |tuple h1 _ i1=>exact .tuple h1 i1
 |blank h1 h2=>exact .blank (h1.imp (λh=>h) h.2) h2
 |Bt h1=>exact .Bt (h1.imp (λh=>h) h.2)
 |BP h1=>exact .BP (h1.imp (λh=>h) h.2)
def AA.less (h:(∀b,H b=false->H' b=false)/\(H.bl=true->H'.bl=true)){x X:Array Value}(r:AA (SP SB H) β x X):AA (SP SB H') β x X:=⟨r.size,λi v V h1 h2=>Aw.less h (r.at_ i v V h1 h2)⟩
def Cl.less (h:(∀b,H b=false->H' b=false)/\(H.bl=true->H'.bl=true)){d D:Deferred}(r:Cl (SP SB H) β d D):Cl (SP SB H') β d D:=by
 cases r with
 |fn f c a=>exact .fn (Fe.less h.1 f) (AA.less h c) (AA.less h a)
 |nil a=>exact .nil (AA.less h a)
 |collected r k=>exact .collected r (h.1 _ k)
 |Bt a A h1 h2 h3=>exact .Bt a A (AA.less h h1) h2 (h3.imp (λh=>h) λx=>⟨h.2 x.1,x.2⟩)
def BJ.imp {α:Type}{R R':α->α->Prop}(h:∀a A,R a A->R' a A){l L:List α}(r:BJ R l L):BJ R' l L:=by
 induction r with
 |nil=>exact .nil
 |cons ha _ ih=>exact .cons (h _ _ ha) ih
def Bw.less (h:(∀b,H b=false->H' b=false)/\(H.bl=true->H'.bl=true)){Ck:Code->Prop}{o O:Obj}(r:Bw (SP SB H) Ck β o O):Bw (SP SB H') Ck β o O:=by
 cases r with
 |cells a f=>exact .cells (AA.less h a) f
 |loop p a b x d k=>exact .loop p a b (AA.less h x) d (h.1 _ k)
 |number o s l hb=>exact .number o s l hb
 |taken=>exact .taken
 |defs l=>exact .defs (BJ.imp (λ_ _=>Cl.less h) l)
end
def GH (p:Program)(b4:Nat)(Ψ:World->Prop)(g:Goroutine)(w:World):Prop :=
 ∃c,g=Bx (Frame.enter p 75 #[GZ b4] .deferred) [c,bad]/\c.fn=74/\c.mode=.returning/\c.defers=[]/\c.kind=.deferred/\Ψ w
def qs {p:Program}{b4:Nat}{Ψ:World->Prop}{BB:FuncId->Bool}(LQ:BB 75=false){g:Goroutine}{w:World}(h:GH p b4 Ψ g w):BB g.frame.fn=false:=by
 obtain⟨c,rfl,_⟩:=h;exact LQ
def vw {c:Frame}(h:c.mode=.returning):c≠bad:=λe=>by rw[e] at h;cases h
section
variable {P:Ba} {SB BB:FuncId->Bool} {lets:Bool} {Gn ty Wg:Nat} {Ψ2:World->Prop}
def lW {L:Lib.WgLink}(Wl:Lib.WgLib P.b L)(LQ:L.done=75)(DT:Barred P SB lets L.done (Lib.doneFn L)){f92:Func}(hf:P.b.funcs[74]?=some f92)(hr:f92.results=#[]){b4:Nat}{Ψ:World->Prop}{H:Hid}{Pk:AO}(hPk:Pk b4 Wg){o:Bool}
  (PC:o=true->∀(x:Lone) (W:World),x.H=H->Pk.le x.β->Dq P SB lets Gn x W->Ψ x.w->Ψ2 W) :
  cM P SB BB lets Gn L.tWg Wg Ψ2 (GH P.a b4 Ψ) H [cQ P.b] Pk o:=by
 rintro x g W hH hT hle ⟨c,e,c1,c2,c3,c4,c5⟩ hg hw IX;refine⟨?_,λho=>PC ho x W hH hle hw c5⟩;refine vv Wl DT (x:=x) (c:=c) (cs:=[bad]) (wl:=b4) (by rw[e,LQ]) (vw c2) (hle _ _ hPk) hg hw IX λC CS r1 r2=>?_;have m:=r1.mode;rw[c2] at m;have hm:C.mode=.returning:=by
  generalize C.mode=M at m;cases m;rfl
 have d:=r1.defers;rw[c3] at d;have hd:C.defers=[]:=by
  generalize C.defers=M at d;cases d;rfl
 rw[hT] at r2;have hcs:CS=[cQ P.b]:=by
  generalize OB:[bad]=BL at r2;cases r2 with
  |base=>rfl
  |cons h1 h2=>cases OB;exact absurd rfl h2.ne
 refine⟨hm,2,?_⟩;rw[hcs];exact qq (by rw[<-r1.fn,c1];exact hf) hr hm hd (by rw[<-r1.kind,c4])
end
end Go.Co
namespace Go.Proofs.Ao
open Go.RowKit Go.AW Go.Co Go.Conc
section
variable {SB BB:FuncId->Bool} {H:Hid} {Gn Wg:Nat} {Toy:Nat->Prop} {Ψ0 Ψ2:World->Prop} {Pr:AO} {T:List Frame} {Kb:Nat->Prop} {Ok:World->Prop} {b2 b3 b4:Nat} {x1:Int} {tp:Bool} {K:Nat->Prop} {a:Act} {r:Nat} {x:Lone} {X:Goroutine} {W:World}
def oY (x1:Int)(SB:FuncId->Bool)(H:Hid)(K:Nat->Prop):∀v∈[Value.int .u8 x1,.int .u8 0,.int .u8 0,.int .u8 0,.int .u8 0],BM SB H K v:=λv hv=>by
 simp only[xu,xm,or_false] at hv;rcases hv with rfl|rfl|rfl|rfl|rfl<;>exact Aw.int _ _
def NS.I4 (ga:NS SB BB H Gn Wg Toy Ψ0 Pr T Kb Ok b2 b3 b4 x1 tp K a r x X W)(hO:eN Kb Ok):Head SB H Gn Kb Ok (λb=>K b\/b=r) (froze x.w r) :=
 ga.head.more hO ga.rK.1 ga.rK.2.1 ga.rK.2.2 ga.rb λv hv=>oY x1 SB H _ v hv
def jB {H':Hid}(hk:K b2/\K b3/\K b4):AA (SP SB H') (Bn (λb=>K b\/b=r)) (bM b2 b3 b4 r) (bM b2 b3 b4 r):=BQ λv hv=>by
 simp only[xu,xm,or_false] at hv;rcases hv with rfl|rfl|rfl|rfl
 .exact BM.ptr (.inl hk.2.2) _ _
 .exact BM.ptr (.inl hk.1) _ _
 .exact BM.ptr (.inr rfl) _ _
 .exact BM.ptr (.inl hk.2.1) _ _
def sg (lib:∀H,Lib PP SB H true BB Gn){L:Lib.WgLink}(Wl:Lib.WgLib Tryz.prog L)(LQ:L.done=75)(hT:L.tWg=133)(DT:Go.Co.Barred PP SB true L.done (Lib.doneFn L))(hO:eN Kb Ok)(hkb:Kb b2/\Kb b3/\Kb b4)(Jr:Pr b4 Wg)(VK:∀b B,Pr b B->Kb b)
  (ga:NS SB BB H Gn Wg Toy Ψ0 Pr T Kb Ok b2 b3 b4 x1 tp K a r x X W)
  (VL:BB 75=false) (kid:Br Tryz.prog BB (GH Tryz.prog b4 λ_=>True) 0 (Go.Conc.G (Frame.enter Tryz.prog 74 (bM b2 b3 b4 r) .deferred) [bad]) (froze x.w r)) :
  ∃(X' child:Goroutine) (xk:Lone) (o:Bool) (Pk:AO) (Q:Goroutine->World->Prop),stepG Tryz.prog true X W=.spawn X' child W #[] /\
   Split PP SB BB true Gn Wg Toy x X' child W tp tp o ⟨Go.Conc.G ((base 39).at a (.inRegion o8 []::T8)) [bad],froze x.w r,H,cut (λb=>K b\/b=r) x.β,T⟩ xk Pk /\
   cM PP SB BB true Gn 133 Wg Ψ2 Q xk.H xk.T Pk o/\(∀g w,Q g w->BB g.frame.fn=false)/\Br Tryz.prog BB Q 0 xk.g xk.w:=by
 have hm:=ga.I4 hO;have hH:=ga.h;have ht:=ga.t;subst hH ht
 obtain⟨G',child,e1,e2⟩:=Ld (Toy:=Toy) (tp:=tp) (wl:=Pr) lib ga.op ga.gl ga.wl ga.tw ga.wg ga.Gj (λb B h=>ga.pr b B h) ga.cut (λb hb=>by
  cases e:x.H b with
  |true=>exact .inl rfl
  |false=>exact .inr (hm.base b hb e).1) (jB ⟨ga.head.sub _ hkb.1,ga.head.sub _ hkb.2.1,ga.head.sub _ hkb.2.2⟩) (λb B h=>.inl (ga.head.sub _ (VK b B h)))
 refine⟨G',child,_,false,Pr,GH Tryz.prog b4 λ_=>True,e1,e2,?_,λg w h=>qs VL h,kid⟩;have:=lW (P:=PP) (Gn:=Gn) (Ψ2:=Ψ2) (BB:=BB) Wl LQ DT (f92:=Tryz.f74) Tryz.func74 rfl (Ψ:=λ_=>True) (H:=x.H) (Pk:=Pr) Jr (o:=false) (λe=>by cases e);rw[hT] at this;exact this
def En (tl:Nat->Bool)(oK:Nat->Obj)(w:World):World:={ w with heap:=w.heap.mapIdx λb o=>if tl b then oK b else o }
def bO (tl:Nat->Bool)(oK:Nat->Obj)(w:World):(En tl oK w).heap.size=w.heap.size:=by simp[En]
def bP (tl:Nat->Bool)(oK:Nat->Obj)(w:World)(b:Nat)(hb:b<w.heap.size):(En tl oK w).heap[b]?=if tl b then some (oK b) else w.heap[b]?:=by
 simp only[En,zh,xp hb,yq];split<;>rfl
def si (lib:∀H,Lib PP SB H true BB Gn){L:Lib.WgLink}(Wl:Lib.WgLib Tryz.prog L)(LQ:L.done=75)(hT:L.tWg=133)(DT:Go.Co.Barred PP SB true L.done (Lib.doneFn L))(hO:eN Kb Ok)(hkb:Kb b2/\Kb b3/\Kb b4)(Jr:Pr b4 Wg)(VK:∀b B,Pr b B->Kb b)
  (ga:NS SB BB H Gn Wg Toy Ψ0 Pr T Kb Ok b2 b3 b4 x1 true K a r x X W) {tl:Nat->Bool} {oK:Nat->Obj} (J9:∀b B,Pr b B->tl b=true->Toy B) (S5:∀b,tl b=true->∃B,Pr b B) (VJ:∀b,tl b=true->H b=true) (Zj:¬Toy Wg)
  (ad2:∀W,Ψ0 W->∀b B,Pr b B->tl b=true->∃O,W.heap[B]?=some O/\∀(S:Cb) (Ck:Code->Prop) (β:AO),Bw S Ck β (oK b) O) {Ψk:World->Prop}
  (ad3:∀(x:Lone) (W:World),x.H=zH H tl->Pr.le x.β->Dq PP SB true Gn x W->Ψk x.w->Ψ2 W)
  (VL:BB 75=false) (kid:Br Tryz.prog BB (GH Tryz.prog b4 Ψk) 0 (Go.Conc.G (Frame.enter Tryz.prog 74 (bM b2 b3 b4 r) .deferred) [bad]) (En tl oK (froze x.w r))) :
  ∃(X' child:Goroutine) (xk:Lone) (o:Bool) (Pk:AO) (Q:Goroutine->World->Prop),stepG Tryz.prog true X W=.spawn X' child W #[] /\
   Split PP SB BB true Gn Wg Toy x X' child W true false o ⟨Go.Conc.G ((base 39).at a (.inRegion o8 []::T8)) [bad],froze x.w r,H,cut (λb=>K b\/b=r) x.β,T⟩ xk Pk /\
   cM PP SB BB true Gn 133 Wg Ψ2 Q xk.H xk.T Pk o/\(∀g w,Q g w->BB g.frame.fn=false)/\Br Tryz.prog BB Q 0 xk.g xk.w:=by
 have hm:=ga.I4 hO;have hH:=ga.h;have ht:=ga.t;subst hH ht;have lt:∀b,(K b\/b=r)->b<(froze x.w r).heap.size:=hm.lt;have pr:∀b B,x.β b B->tl b=true->Pr b B:=λb B hb h=>by
  obtain⟨B',hB⟩:=S5 b h;rw[ga.wl.B6.fn hb (ga.pr _ _ hB)];exact hB
 have kl:∀b,tl b=true->(K b\/b=r):=λb h=>let ⟨B,hB⟩:=S5 b h;.inl (ga.head.sub _ (VK b B hB));have M7:∀b o,(K b\/b=r)->x.H b=false->(froze x.w r).heap[b]?=some o->Bw (SP SB (zH x.H tl)) (CK Tryz.prog SB true) (Bn λb=>K b\/b=r) o o:=λb o hb hh ho=>by
  obtain⟨_,o',h1,h2⟩:=hm.base b hb hh;rw[ho] at h1;cases h1;exact Bw.less ⟨λb hb=>by simp[zH,hb],λ_=>rfl⟩ h2
 have Um:∀b B,(K b\/b=r)->tl b=true->x.β b B->∃o O,(En tl oK (froze x.w r)).heap[b]?=some o/\W.heap[B]?=some O/\Bw (SP SB (zH x.H tl)) (CK Tryz.prog SB true) (cut (λb=>K b\/b=r) x.β) o O:=λb B hb h hB=>by
  obtain⟨O,h1,h2⟩:=ad2 W (ga.Ed rfl) b B (pr b B hB h) h;exact⟨oK b,O,by rw[bP _ _ _ _ (lt b hb),if_pos h],h1,h2 _ _ _⟩
 obtain⟨G',child,e1,e2⟩:=Le (Toy:=Toy) (wl:=Pr) (wk:=En tl oK (froze x.w r)) (tl:=tl) lib ga.op ga.gl ga.wl ga.tw ga.wg ga.Gj (λb B h=>ga.pr b B h) ga.cut (λb hb=>by
  cases e:x.H b with
  |true=>exact .inl rfl
  |false=>exact .inr (hm.base b hb e).1) (λb B h=>.inl (ga.head.sub _ (VK b B h))) (jB ⟨ga.head.sub _ hkb.1,ga.head.sub _ hkb.2.1,ga.head.sub _ hkb.2.2⟩)
  (λb B hb h=>J9 b B (pr b B hb h) h) VJ Zj ⟨by rw[bO];exact xh _,rfl⟩ (λb hb h=>by rw[bP _ _ _ _ (lt b hb),if_neg (by simp[h])]) M7 Um (λb hh=>by rw[bO];exact hm.old b hh)
 refine⟨G',child,_,true,Pr,GH Tryz.prog b4 Ψk,e1,e2,?_,λg w h=>qs VL h,kid⟩;have:=lW (P:=PP) (Gn:=Gn) (Ψ2:=Ψ2) (BB:=BB) Wl LQ DT (f92:=Tryz.f74) Tryz.func74 rfl (Ψ:=Ψk) (H:=zH x.H tl) (Pk:=Pr) Jr (o:=true) (λ_=>ad3);rw[hT] at this;exact this
end
end Go.Proofs.Ao
namespace Go.Co
open Go.AW Go.Conc Go.ConcN
section
variable {P:Program} {Dead:Nat->Prop}
def Gd.awake {gs:Array Goroutine}{W:World}{t:Trace}{q:Nat->Nat}(hb:Gd P Dead gs W t q){a:Goroutine}(h0:gs[0]?=some a)(hrun:a.status=.running):∀g∈gs,Go.Conc.awake g:=by
 intro g hg;obtain⟨i,hi,rfl⟩:=Array.mem_iff_getElem.1 hg;rcases xV i with rfl|Gm
 .have:gs[0]=a:=by simpa [xp hi] using h0
  rw[this];exact awake_of (.inl hrun)
 .exact awake_of ((hb.lv.old i _ Gm (xp hi)).status.elim .inl λx=>.inr (.inr x))
end
section
variable {P:Ba} {SB BB:FuncId->Bool} {lets:Bool} {Gn:Nat} {Dead:Nat->Prop} {Kp:EP}
def JF {gs:Array Goroutine}{W:World}{t:Trace}{q:Nat->Nat}{sl:Option (Nat×Nat)}{a:Goroutine}(hb:Gd P.b Dead gs W t q)(h0:gs[0]?=some a)(hrun:a.status=.running) :
  ∃N m1 t1,runNT P.b N (crowd gs W sl) t=(.next m1,t1)/\∃JG d NU q1,stepT P.b m1=runT P.b (crowd JG (W.at d) NU) 0/\JG[0]?=some a/\JG.size=gs.size/\Gd P.b Dead JG (W.at d) t1 q1:=by
 refine jz (P:=P.b) (r:=(·<·:Nat->Nat->Prop)) Nat.lt_wfRel.wf (λn m t=>∃JG d NU q1,m=crowd JG (W.at d) NU/\JG[0]?=some a/\JG.size=gs.size/\Gd P.b Dead JG (W.at d) t q1/\n=sumTo gs.size q1)
  (λm1 t1=>∃JG d NU q1,stepT P.b m1=runT P.b (crowd JG (W.at d) NU) 0/\JG[0]?=some a/\JG.size=gs.size/\Gd P.b Dead JG (W.at d) t1 q1) ?_ (sumTo gs.size q) (crowd gs W sl) t ⟨gs,W.drawn,sl,q,rfl,h0,rfl,hb,rfl⟩
 rintro n m t ⟨JG,d,NU,q1,rfl,OI,hs1,hb1,rfl⟩;obtain⟨i,g,d',sl',hi,hg,hst⟩:=crowd_pick (P:=P.b) (w:=W.at d) (sl:=NU) (hb1.awake OI hrun) ⟨0,a,OI,hrun⟩;rcases xV i with rfl|Gm
 .exact .inl ⟨JG,d',sl',q1,hst,OI,hs1,hb1.at d'⟩
 .obtain⟨gs',t',q',k1,k2,k3,k4,k5⟩:=(hb1.at d').slip Gm hi hg OI hrun sl';exact .inr ⟨_,_,sumTo gs.size q',by rw[hst,k1];rfl,by rw[<-hs1];exact k4,gs',d',sl',q',rfl,k3,k2.trans hs1,k5,rfl⟩
def Gd.Zm {gs:Array Goroutine}{W W':World}{t:Trace}{q:Nat->Nat}{sl:Option (Nat×Nat)}{a a':Goroutine}(hb:Gd P.b Dead gs W t q)(h0:gs[0]?=some a)(hgo:stepG P.b true a W=.go a' W' #[]) :
  ∃gs',runT P.b (crowd gs W sl) 0=(.next (crowd gs' W' sl),#[])/\gs'.size=gs.size/\gs'[0]?=some a'/\Leavers P.b t gs' q:=by
 have hlt:0<gs.size:=(xg.1 h0).1;have hr:=runT_crowd_go (P:=P.b) (sl:=sl) (i:=0) h0 (by simpa using hgo);have e0:MemOp.ofEvents 0 a.frame.fn a.frame.place #[]=#[]:=by rw[ofEvents_eq];simp
 rw[e0] at hr;refine⟨_,hr,by simp,by simp[hlt],λj y hj hy=>?_,λj hj=>hb.lv.above j (by simpa using hj)⟩;have hne:0≠j:=by omega
 rw[xR hne,ye] at hy;obtain⟨z,hz,rfl⟩:=xQ.1 hy;have K9:=hb.lv.old j z hj hz;rw[woken_quitsD K9];exact K9
end
def more (β:AO)(b B:Nat):AO:=λx y=>β x y\/(x=b/\y=B)
def nM (β:AO)(b B:Nat):β.le (more β b B):=λ_ _ h=>.inl h
section
variable {P:Ba} {SB BB:FuncId->Bool} {lets:Bool} {Gn:Nat} {H:Hid} {β:AO} {w W:World}
def qu {Ck:Code->Prop}(h:Bg (SP SB H) Ck Gn β w W){b:Nat}(hb:∀B,¬β b B)(hH:H b=true)(F9:H.BA=false)(hw:w.heap[b]?=some (.coro none))(hG:Gn<=b){c:Array Value}{ty:TypeId}{f:Nat×Nat} :
  Bg (SP SB H) Ck Gn (more β b W.heap.size) w (W.alloc (.cells c ty f)):=by
 have hlt:∀x y,β x y->y<W.heap.size:=λx y Jg=>by
  cases e:H x with
  |false=>obtain⟨o,O,_,h2,_⟩:=h.Cq x y Jg e;exact(xg.1 h2).1
  |true=>obtain⟨_,h2,_⟩:=h.CG x y Jg e;obtain⟨c,t,f,h3⟩:=h2 F9;exact(xg.1 h3).1
 have get:∀y,(W.alloc (.cells c ty f)).heap[y]?=if y=W.heap.size then some (.cells c ty f) else W.heap[y]?:=λy=>yL ..
 have size:(W.alloc (.cells c ty f)).heap.size=W.heap.size+1:=Array.size_push _;refine⟨⟨?_,?_,?_⟩,⟨h.room.1,by rw[size];exact zg h.room.2⟩,λx y Jg hh=>?_,λx y Jg hh=>?_,h.old,h.env⟩
 .rintro x y y' (h1|⟨rfl,rfl⟩) (h2|⟨h2,rfl⟩)
  .exact h.B6.fn h1 h2
  .subst h2;exact absurd h1 (hb _)
  .exact absurd h2 (hb _)
  .rfl
 .rintro x x' y (h1|⟨rfl,rfl⟩) (h2|⟨rfl,h2⟩)
  .exact h.B6.inj h1 h2
  .have:=hlt _ _ h1;omega
  .have:=hlt _ _ h2;omega
  .rfl
 .rintro x y (h1|⟨rfl,rfl⟩)
  .exact h.B6.lo h1
  .exact⟨hG,h.room.2⟩
 .rcases Jg with Jg|⟨rfl,rfl⟩
  .obtain⟨o,O,h1,h2,h3⟩:=h.Cq x y Jg hh;exact⟨o,O,h1,by rw[get,if_neg (zz (hlt x y Jg))];exact h2,h3.mono (nM _ _ _)⟩
  .have Fh:H x=false:=hh;rw[hH] at Fh;cases Fh
 .rcases Jg with Jg|⟨rfl,rfl⟩
  .obtain⟨h1,h2,h3⟩:=h.CG x y Jg hh;exact⟨h1,λe=>by rw[get,if_neg (zz (hlt x y Jg))];exact h2 e,λe=>by rw[get,if_neg (zz (hlt x y Jg))];exact h3 e⟩
  .exact⟨hw,λ_=>⟨c,ty,f,by rw[get,if_pos rfl]⟩,λe=>by have e':H.BA=true:=e;rw[F9] at e';cases e'⟩
end
end Go.Co
namespace Go.Proofs.Ao
open Go.RowKit Go.AW Go.Co Go.Conc
def sink (kx tl:Nat->Bool)(w:World):World:={ w with heap:=w.heap.mapIdx λb o=>if tl b then .coro none else if kx b then(match o with|.cells c t _=>.cells c t (0,c.size)|o=>o) else o }
def dO (kx tl:Nat->Bool)(w:World):(sink kx tl w).heap.size=w.heap.size:=by simp[sink]
def j7 {kx tl:Nat->Bool}{w:World}{b:Nat}(hb:b<w.heap.size)(h:tl b=true):(sink kx tl w).heap[b]?=some (.coro none):=by
 simp[sink,zh,xp hb,h]
def fD {kx tl:Nat->Bool}{w:World}{b:Nat}{c:Array Value}{t:TypeId}{f:Nat×Nat}(hw:w.heap[b]?=some (.cells c t f))(h:kx b=true)(h':tl b=false):(sink kx tl w).heap[b]?=some (.cells c t (0,c.size)):=by
 simp[sink,zh,hw,h,h']
abbrev Ho (tl:Nat->Bool)(w:World):Hid:=⟨λb=>tl b||b==w.heap.size,false,true⟩
abbrev LR (kx tl:Nat->Bool)(w:World)(b:Nat):Prop:=kx b=true\/tl b=true\/b=w.heap.size\/b=w.heap.size+1\/b=w.heap.size+2
def Dr (kx tl:Nat->Bool)(w:World)(cb:Nat)(p1:Value):World:=froze (froze ((((sink kx tl w).alloc (.coro none)).alloc (.cells #[.pointer (some ⟨cb,0,none⟩)] 69)).alloc (.cells #[p1] 90)) (w.heap.size+1)) (w.heap.size+2)
inductive PL:Value->Prop
 |bool (b:Bool):PL (.bool b)
 |int (k:IntKind) (n:Int):PL (.int k n)
def PL.rel {v V:Value}(h:PL v){S S':Cb}{β Ax:AO}(r:Aw S β v V):Aw S' Ax v V:=by
 cases h with
 |bool b=>cases r;exact .bool b
 |int k n=>cases r;exact .int k n
def Ee (o:Obj):Prop:=∃(l:List Value) (t:TypeId) (f:Nat×Nat),o=.cells l.toArray t f/\∀v∈l,PL v
def Ee.rel {o O:Obj}(h:Ee o){S S':Cb}{Ck YM:Code->Prop}{β Ax:AO}(r:Bw S Ck β o O):Bw S' YM Ax o O:=by
 obtain⟨l,t,f,rfl,hl⟩:=h;cases r with
 |cells a z=>exact .cells ⟨a.size,λi v V h1 h2=>(hl v (yI (by simpa using h1))).rel (a.at_ i v V h1 h2)⟩ z
def Ka (β:AO)(tl:Nat->Bool)(oK:Nat->Obj)(W:World):Prop:=∀b B,β b B->tl b=true->∃O,W.heap[B]?=some O/\∀(S:Cb) (Ck:Code->Prop) (Ax:AO),Bw S Ck Ax (oK b) O
structure FO (SB AZ BB:FuncId->Bool)(w:World)(kx tl:Nat->Bool)(Kc:Nat->Prop)(Ok:World->Prop)(cb sb n c:Nat)(f:Fn)(fx fc:Array Value)(sets kind:Nat->Int)(Cv:Nat->Bool)(oK oE:Nat->Obj):Prop where
 hB:BB 39=true
 LQ:BB 75=false
 XO:SB 39=true
 XP:SB 74=true
 L0:Mg PQ AZ AZ BB 0
 b0:∀f,AZ f=true->BB f=true
 XQ:AZ 72=true
 todo:∀H K,BJ (C0 Tryz.prog SB H true true (Bn K)) (.inRegion o8 []::T8) (.inRegion o8 []::T8)
 only:eN (LR kx tl w) Ok
 ok:Ok (Dr kx tl w cb (.func f fx fc))
 NT:∀w',Ok w'->w'.cell? ⟨w.heap.size+1,0,none⟩=some (.pointer (some ⟨cb,0,none⟩))
 hold:∀w',Ok w'->w'.cell? ⟨cb,2,none⟩=some (.slice (some ⟨sb,0,none⟩) n c)/\∃v,w'.cell? ⟨cb,0,none⟩=some v
 I2:∀w' i,Ok w'->i<n->w'.cell? ⟨sb,i,none⟩=some (.int .u8 (sets i))
 CZ:∀w' b,Ok w'->Kc b->kx b=true/\∃o,w'.heap[b]?=some o/\Bw (SP AZ zD) (CK An AZ false) (Bn Kc) o o
 cK:Kc cb
 ks:kx cb=true/\kx sb=true
 XS:∀b,kx b=true->tl b=false/\∃(l:List Value) (t:TypeId) (g:Nat×Nat),w.heap[b]?=some (.cells l.toArray t g)/\(∀i,g.1<=i->i<g.2->i<l.length)/\∀v∈l,∀H,BM SB H (λb=>kx b=true\/tl b=true) v
 Zn:∀b,tl b=true->w.heap[b]?=some (oK b)/\Ee (oK b)/\Ee (oE b)
 Gu:∀H,BM SB H (λb=>kx b=true\/tl b=true) (.func f fx fc)
 wrap:∀i,i<n->IntKind.i64.wrap ((i:Int)+1)=((i+1:Nat):Int)
 I3:∀w' i,Ok w'->i<n->∀τ d,Calls An 72 #[.pointer (some ⟨cb,0,none⟩),.pointer (some ⟨w'.heap.size,0,none⟩),.int .i64 0] (on (w'.alloc (first (sets i))) τ d) (λe w2=>∃v,e=.returned v/\((∃y1 y2,v=.agg #[.int .i64 (kind i),.int .i64 y1,.int .i64 y2])/\Ext (w'.alloc (first (sets i))) w2))
 tp0:Cv 0=true
 Zk:∀i,i<n->kind i≠0->Cv (i+1)=Cv i
 which:∀i,i<n->kind i=0->Cv (i+1)=Cv i\/(Cv i=true/\Cv (i+1)=false)
 plain:∀i r w',i<n->kind i=0->Cv (i+1)=Cv i->Ok w'->¬LR kx tl w r->w'.heap[r]?=some (.cells #[.int .u8 (sets i),.int .u8 0,.int .u8 0,.int .u8 0,.int .u8 0] 72 (0,5)) ->
  Br Tryz.prog BB (GH Tryz.prog w.heap.size λ_=>True) 0 (Go.Conc.G (Frame.enter Tryz.prog 74 (bM (w.heap.size+1) (w.heap.size+2) w.heap.size r) .deferred) [bad]) w'
 owner:∀i r w',i<n->kind i=0->Cv i=true->Cv (i+1)=false->Ok w'->¬LR kx tl w r->w'.heap[r]?=some (.cells #[.int .u8 (sets i),.int .u8 0,.int .u8 0,.int .u8 0,.int .u8 0] 72 (0,5)) ->
  Br Tryz.prog BB (GH Tryz.prog w.heap.size λw2=>∀b,tl b=true->w2.heap[b]?=some (oE b)) 0 (Go.Conc.G (Frame.enter Tryz.prog 74 (bM (w.heap.size+1) (w.heap.size+2) w.heap.size r) .deferred) [bad]) (En tl oK w')
section
variable {SB AZ BB:FuncId->Bool} {w:World} {kx tl:Nat->Bool} {Kc:Nat->Prop} {Ok:World->Prop} {cb sb n c:Nat} {f:Fn} {fx fc:Array Value} {sets kind:Nat->Int} {Cv:Nat->Bool} {oK oE:Nat->Obj}
def FO.lt (I:FO SB AZ BB w kx tl Kc Ok cb sb n c f fx fc sets kind Cv oK oE){b:Nat}(h:kx b=true\/tl b=true):b<w.heap.size:=by
 rcases h with h|h
 .obtain⟨_,_,_,_,h1,_⟩:=I.XS b h;exact(xg.1 h1).1
 .exact(xg.1 (I.Zn b h).1).1
def FnE (BB:FuncId->Bool)(tl:Nat->Bool)(w:World)(tp:Bool)(Mn:Bool)(H:Hid)(g:Goroutine)(w':World):Prop:=Mn=tp/\H=Ho tl w/\AG Tryz.prog (BO Tryz.prog BB) (AW.Left Tryz.prog 39 λv _=>v=.tuple #[]) g w'
def tV {BB:FuncId->Bool}(hB:BB 39=true){a:Act}{w':World}(hd:a.defers=[]):AG Tryz.prog (BO Tryz.prog BB) (AW.Left Tryz.prog 39 λv _=>v=.tuple #[]) (Go.Conc.G (((base 39).at a [.inRegion Ir [0]]).finish (.tuple #[])) [bad]) w' :=
 vp hB AW.Left.same hd (by simp) λa' ha'=>⟨w',.tuple #[],_,⟨rfl,rfl,rfl⟩,rfl,rfl,rfl,rfl,ha',rfl,Tryz.f39,Tryz.func39,results_none rfl _ _ _⟩
def FO.ctx (I:FO SB AZ BB w kx tl Kc Ok cb sb n c f fx fc sets kind Cv oK oE)(lib:∀H,Lib PP SB H true BB 0){L:Lib.WgLink}(Wl:Lib.WgLib Tryz.prog L)(LQ:L.done=75)(hT:L.tWg=133)(DT:Go.Co.Barred PP SB true L.done (Lib.doneFn L))
    {Wg:Nat} {β:AO} {Pr:AO} {T:List Frame} {Toy:Nat->Prop} (Jt:∀b B,Pr b B->tl b=true->Toy B) (S5:∀b,tl b=true->∃B,Pr b B) (VK:∀b B,Pr b B->LR kx tl w b) (hPw:Pr w.heap.size Wg) (Zj:¬Toy Wg) (Zo:∀b B,tl b=true->(Pr b B↔β b B)) :
    Ctx SB AZ BB (Ho tl w) 0 Wg Toy (Ka β tl oK) (Ka β tl oE) Pr T (FnE BB tl w (Cv n)) (LR kx tl w) Kc Ok (w.heap.size+1) (w.heap.size+2) w.heap.size cb sb n c (.func f fx fc) sets kind Cv:=by
  have hkb:LR kx tl w (w.heap.size+1)/\LR kx tl w (w.heap.size+2)/\LR kx tl w w.heap.size:=⟨.inr (.inr (.inr (.inl rfl))),.inr (.inr (.inr (.inr rfl))),.inr (.inr (.inl rfl))⟩
  refine { hB := I.hB, XO := I.XO, XP := I.XP, L0 := I.L0, b0 := I.b0, XQ := I.XQ, todo := fun K => I.todo _ K, BA := rfl, bl := rfl, only := I.only, NT := I.NT, I2 := I.I2, CZ := fun w' b h1 h2 => ?_, cK := I.cK,
           kb := ⟨hkb.1, hkb.2.1, hkb.2.2, .inl I.ks.1, .inl I.ks.2⟩, Gu := ((I.Gu _).mono fun b hb => hb.elim .inl fun h => .inr (.inl h)), wrap := I.wrap, I3 := I.I3, Zk := I.Zk, fin := fun a w' hd _ => ⟨rfl, rfl, tV I.hB hd⟩,
           Lf:=λtp H g w1 W1 hs h=>⟨h.1,h.2.1,h.2.2.same (λ_ _ _ _ x=>x) AW.Left.same hs⟩,go:=λi hi hk K a r x X W ga=>?_ }
  · obtain⟨h3,h4⟩:=I.CZ w' b h1 h2
    exact⟨.inl h3,h4⟩
  · have hm:=ga.I4 I.only
    have J7:¬LR kx tl w r:=λh=>ga.rK.1 (ga.head.sub _ h);rcases I.which i hi hk with e|⟨e1,e2⟩
    · rw[e]
      exact sg lib Wl LQ hT DT I.only hkb hPw VK ga I.LQ (I.plain i r _ hi hk e hm.ok J7 (dc ga.rb))
    · rw[e2]
      rw[e1] at ga ⊢;refine si (tl:=tl) (oK:=oK) (Ψk:=λw2=>∀b,tl b=true->w2.heap[b]?=some (oE b)) lib Wl LQ hT DT I.only hkb hPw VK ga Jt S5 (λb h=>by simp[h]) Zj (λW hW b B hb h=>hW b B ((Zo b B h).1 hb) h) (λx W hH hle hw hk b B hb h=>?_) I.LQ (I.owner i r _ hi hk e1 e2 hm.ok J7 (dc ga.rb));have hp:=hle b B ((Zo b B h).2 hb);obtain⟨o,O,h1,h2,h3⟩:=hw.Cq b B hp (by rw[hH];simp[zH,h])
      rw[hk b h] at h1;cases h1;exact⟨O,h2,λS Ck Ax=>(I.Zn b h).2.2.rel h3⟩
end
open Go.Sq
def step_collected {P:Program}{main:Bool}{b:Frame}{a:Act}{todo:List Item}{cs:List Frame}{w:World}{D:Nat}{l ds:List Deferred}{x:Array Value}(hd:a.defers={ target:=.collected D,args:=x }::ds)(hD:w.heap[D]?=some (.deferred (some l))) :
  ∃es,stepG P main (Go.Conc.G { b.at a todo with mode:=.returning } cs) w=.go (Go.Conc.G { b.at ⟨a.tmps,l++ds⟩ todo with mode:=.returning } cs) { w with heap:=w.heap.setIfInBounds D (.deferred none) } es:=by
 have hr:(Instr.takeDeferred D).run P w=.ok l { w with heap:=w.heap.setIfInBounds D (.deferred none) }:=by
  simp[Instr.takeDeferred,getObj,setObj,Sem.run,hD,Result.andThen]
 exact⟨seen P b.fn ((Instr.takeDeferred D).events P w #[]),by simp[Go.Conc.G,stepG,unwind,Frame.at,hd,hr,GStep.after]⟩
noncomputable abbrev iA (b2 b3 b4 r:Nat):Array Value:=(dm b2 b3 b4 r).tmps
def vy:codeOk An H2 false true Vd=true:=by kernel_rfl
def lX {BB:FuncId->Bool}(hL:MW BB){T0 K0:Nat->Prop}{b2 b3 b4 r:Nat}{H:Hid}(hn:H.bl=false){Ψ:World->Prop}{w:World}(hk:K0 b2/\K0 b3/\K0 b4/\K0 r)(hh:∀b,K0 b->H b=true->H.BA=true/\w.heap[b]?=some (.coro none))(Un:∀b,H b=true->b<w.heap.size)
  (CU:∀b,K0 b->H b=false->∃o,w.heap[b]?=some o/\Bw (SP H2 H) (CK An H2 false) (Bn K0) o o)
  (hwp:∀τ d,Vd.wp An (λe a' w'=>(e=.normal\/e=.ret)/\(e=.normal/\Ψ w'/\∃D,a'.defers=[{ target:=.collected D,args:=#[] },KG b4]/\¬T0 D/\w'.heap[D]?=some (.deferred (some [])))) (dm b2 b3 b4 r) (on w τ d))
  (PC:∀W W',Ψ W->(∀b,T0 b->W'.heap[b]?=W.heap[b]?)->Ψ W') :
  Br Tryz.prog BB (GH Tryz.prog b4 Ψ) 0 (Go.Conc.G (Frame.enter Tryz.prog 74 (bM b2 b3 b4 r) .deferred) [bad]) w:=by
 have hB:BB (baseD 74).fn=true:=hL.sub 74 (by decide);have hQ:∀g w W,AR w W->GH Tryz.prog b4 Ψ g w->GH Tryz.prog b4 Ψ g W:=by
  rintro g w W s ⟨c,e1,e2,e3,e4,e5,e6⟩;exact⟨c,e1,e2,e3,e4,e5,PC w W e6 λb _=>by rw[s.1]⟩
 rw[enter_atD _ Tryz.func74 rfl];have e0:(bM b2 b3 b4 r++Array.replicate (Tryz.f74.ntmps-(bM b2 b3 b4 r).size) undef)=iA b2 b3 b4 r:=by
  rw[Tryz.ntmps74];rfl
 rw[e0];refine au hQ hB (AP _ _) ?_;refine aC hQ hB (AP _ _) ?_;simp only[xB,xz,xF,Nat.reduceAdd,xG,List.range,List.range.loop];refine aA hQ hB (by kernel_rfl) λτ d=>?_;rw[stepG_defer rfl rfl (by decide) rfl];simp only[goes_go];refine⟨AP _ _,w,zC,?_⟩;refine aB hQ hB (AP _ _) ?_;have eA:∀o:Option Tmp,o=none->(Act.put ⟨iA b2 b3 b4 r,dcall 75 (#[Operand.tmp 0].map (Act.mk (iA b2 b3 b4 r) []).eval)::[]⟩ o undef)=dm b2 b3 b4 r:=by
  rintro o rfl;simp[Act.put,iA,dm,dcall,KG,Act.eval]
 have hI:∀v∈[Value.pointer (some ⟨b4,0,none⟩),.pointer (some ⟨b2,0,none⟩),.pointer (some ⟨r,0,none⟩),.pointer (some ⟨b3,0,none⟩),undef,undef,undef,undef,undef,undef,undef,undef],BM H2 H K0 v:=λv hv=>by
  simp only[xu,xm,or_false] at hv;rcases hv with rfl|rfl|rfl|rfl|rfl|rfl|rfl|rfl|rfl|rfl|rfl|rfl
  .exact BM.ptr hk.2.2.1 _ _
  .exact BM.ptr hk.1 _ _
  .exact BM.ptr hk.2.2.2 _ _
  .exact BM.ptr hk.2.1 _ _
  all_goals exact BM.undef
 have Iq:AQ An H2 H false (Bn K0) ((baseD 74).at (dm b2 b3 b4 r) [.code Vd]) ((baseD 74).at (dm b2 b3 b4 r) [.code Vd]):=by
  refine⟨rfl,BQ hI,.cons (.code vy) .nil,.cons ?_ .nil,.run,rfl,⟨(by show CallKind.deferred≠.early;decide),(by show H2 74=true;decide)⟩,.none⟩;refine .fn (.func (.inr (by decide))) (BQ (l:=[]) (by simp)) (BQ (l:=[.pointer (some ⟨b4,0,none⟩)]) λv hv=>?_);simp only[xu,xm,or_false] at hv;subst hv;exact BM.ptr hk.2.2.1 _ _
 have ad5:=(ve (H:=H) hL hn).seg (b:=baseD 74) (a:=dm b2 b3 b4 r) (c:=Vd) (k:=[]) (C:=bad) (cs:=[]) (Q:=GH Tryz.prog b4 Ψ) (w:=w) (K0:=K0) Iq (λ_ _=>xK _) (xK _) hh Un
  CU (λs h=>by cases h) (λ_ _ _ _ _ _ _ _ _ _ _ h=>by cases h) (.inr ⟨_,_,Sq.put Tryz.func74 rfl,rfl⟩) hQ
  (N:=λe a' w'=>e=.normal/\Ψ w'/\∃D,a'.defers=[{ target:=.collected D,args:=#[] },KG b4]/\¬T0 D/\w'.heap[D]?=some (.deferred (some []))) hwp ?_ (λa' w' todo h _=>by cases h.1)
 .have e9:=eA (#[({ dst:=none,op:=Op.defer { callee:=Callee.value (Operand.func 75),args:=#[Operand.tmp 0],argTypes:=#[133] },type:=0,pos := "wolf.go:243",after:=#[],guard:=none }:Oper)][0].dst) rfl;rw[e9];exact ad5
 .rintro a' w' ⟨_,ad6,D,hd,hD,hDw⟩;show Br Tryz.prog BB (GH Tryz.prog b4 Ψ) 0 _ w';refine aA hQ hB (by kernel_rfl) λτ d=>?_;rw[stepG_end];simp only[goes_go];refine⟨AP _ _,w',zC,?_⟩;refine dE hQ hB (by kernel_rfl) λτ d=>?_;obtain⟨es,e1⟩:=step_collected (P:=Tryz.prog) (main:=true) (b:=baseD 74) (todo:=[]) (cs:=[bad]) (w:=on w' τ d) hd hDw;rw[e1];simp only[goes_go];refine⟨AP _ _,{ w' with heap:=w'.heap.setIfInBounds D (.deferred none) },⟨rfl,rfl,rfl⟩,?_⟩
  refine dE hQ hB (by kernel_rfl) λτ d=>?_;rw[stepG_unwind_enter (f:=75) (args:=#[.pointer (some ⟨b4,0,none⟩)]) (ds:=[]) rfl Tryz.func75 (by kernel_rfl) rfl];simp only[goes_go];refine⟨AP _ _,{ w' with heap:=w'.heap.setIfInBounds D (.deferred none) },⟨rfl,rfl,rfl⟩,.fin ?_⟩;rw[<-enter_atD _ Tryz.func75 rfl];exact⟨_,rfl,rfl,rfl,rfl,rfl,PC w' _ ad6 λb hb=>xR (λe:D=b=>hD (by rw[e];exact hb))⟩
def XT:List FuncId:=[3,6,8,7,28,9,12,14,3,3,3,26,27,29,33,62,30,18,22,23,16,71,20,24,25,38,42,36,48,32,49,50,51,52,53,54,55,56,57,58,59,60,72,63,64,61,78,66,79,80,65,81,82,83,84,85,86,87,88,89,94,95,96,97,90,91,92,118,119,120,121,122,123,124,125,126,127,128,129,130,131,132,133,134,140,144,145,146,147,148,149,150,151,152,153,154,155,156,157,165,166,167,168,169,3,3,3,3,3,3,3,3,4,10,17,5,3,11,3,3,31,3,3,3,3,3,3,3,67,3,3,3,13,15,3,3,3,3,3,3,3,3,3,37,34,93,3,3,3,3,68,69,3,35,3,3,3,70,3,3,3,3]
def Fj (f:FuncId):Bool:=XT.contains f
def S6 (f:FuncId):Bool:=f==79||f==80||f==6||f==3
def XU (f:FuncId):Bool:=Fj f&&!S6 f
def j8 {p:Nat->Bool}(h:XT.all p=true):∀f,Fj f=true->p f=true:=λf hf=>(xY.1 h) f (by simpa [Fj] using hf)
def qv:XT.all (λf=>GX An Fj false f||NK f)=true:=by kernel_rfl
def PM (f:FuncId)(h:Fj f=true):GX An Fj false f=true\/NK f=true:=by
 have:=j8 qv f h;simpa using this
def tn {P:Ba}(f:FuncId)(hf:aM Fj f=true):Fy P f:=by
 have h:Fj 74=false:=by decide
 unfold aM at hf;rw[h,yC,yJ] at hf;cases hf
def wT (H:Hid):Lib (Ba.of An) Fj H false Fj 0:=nJ (λf hf=>(PM f hf).imp_right λh=>lz h ⟨Sq.fn Tryz.func77 rfl,Sq.fn Tryz.func78 rfl,Sq.fn Tryz.func140 rfl⟩) tn ⟨yl Sq.globals_size,Sq.J3⟩
def sj:XT.all (λf=>S6 f||!(f==6||GN f||f==79||f==80))=true:=by kernel_rfl
def wU (H:Hid):Lib PW Fj H false XU 0:=by
 refine iz (λf hf=>?_) (λf hf hb=>?_) (λf hf=>?_) tn ⟨yl Sq.globals_size,Sq.J3⟩
 .simp only[XU,xC,yw] at hf;rcases PM f hf.1 with h|h
  .refine .inl ⟨h,j6 ?_⟩;have:=j8 sj f hf.1;simpa [hf.2] using this
  .exact .inr (lz h ⟨Tryz.func77,Tryz.func78,Tryz.func140⟩)
 .simp only[XU,hf,yN,yQ,S6,xO,beq_iff_eq] at hb;rcases hb with((rfl|rfl)|rfl)|rfl
  .exact⟨_,_,Sq.f79,Tryz.func79,rfl,by show Tryz.f79.name≠_;decide,by decide,rfl,rfl⟩
  .exact⟨_,_,Sq.f80,Tryz.func80,rfl,by show Tryz.f80.name≠_;decide,by decide,rfl,rfl⟩
  .exact⟨_,_,Ae,Tryz.func6,rfl,by show Tryz.f6.name≠_;decide,by decide,rfl,rfl⟩
  .exact⟨_,_,Sq.put Tryz.func3 rfl,Tryz.func3,rfl,by show Tryz.f3.name≠_;decide,by decide,rfl,rfl⟩
 .simp only[XU,xC] at hf;exact hf.1
structure ET (BB:FuncId->Bool):Prop where
 sub:∀f,Fj f=true->BB f=true
 Vr:BB 116=true
 Vs:BB 117=true
def nN {BB:FuncId->Bool}(hL:ET BB){f:FuncId}(h:f=79\/f=80):KS PW BB f:=by
 rcases h with rfl|rfl
 .obtain⟨r,o1,o2,s,hp⟩:=IG 79 zV 0 1 Sq.f79 rfl (by rw[zW];decide) rfl;exact⟨0,1,_,r,o1,o2,s,Tryz.f79,hp,kG (hL.sub 79 (by decide)) hL.Vr,Tryz.func79,rfl⟩
 .obtain⟨r,o1,o2,s,hp⟩:=IG 80 zS 1 0 Sq.f80 rfl (by rw[zU];decide) rfl;exact⟨1,0,_,r,o1,o2,s,Tryz.f80,hp,iO (hL.sub 80 (by decide)) hL.Vs,Tryz.func80,rfl⟩
def dP {BB:FuncId->Bool}{H:Hid}(hL:ET BB)(hn:H.bl=false:=by rfl):Fx PW Fj XU BB H 0:=by
 refine⟨wT _,wU _,λf hf hb=>?_,hL.sub,hn⟩;rcases hf with hf|hf
 .simp only[XU,hf,yN,yQ,S6,xO,beq_iff_eq] at hb;rcases hb with((rfl|rfl)|rfl)|rfl
  .exact .inr (nN hL (.inl rfl))
  .exact .inr (nN hL (.inr rfl))
  .exact .inl ⟨_,_,Ae,rfl⟩
  .exact .inl ⟨_,_,Sq.put Tryz.func3 rfl,rfl⟩
 .have h:Fj 74=false:=by decide
  unfold aM at hf;rw[h,yC,yJ] at hf;cases hf
def sll:List FuncId:=[51,72,66,81,94,95,96,97,92]
def Mq (f:FuncId):Bool:=sll.contains f
def j9 {p:Nat->Bool}(h:sll.all p=true):∀f,Mq f=true->p f=true:=λf hf=>(xY.1 h) f (by simpa [Mq] using hf)
def Uo {P:Ba}(f:FuncId)(hf:aM Mq f=true):Fy P f:=by
 have h:Mq 74=false:=by decide
 unfold aM at hf;rw[h,yC,yJ] at hf;cases hf
def qw:sll.all (λf=>GX An Mq false f&&!(f==6||GN f||f==79||f==80))=true:=by kernel_rfl
def vz {BB:FuncId->Bool}(hb:∀f,Mq f=true->BB f=true):Mg PW Mq Mq BB 0:=by
 have h1:∀f,Mq f=true->GX An Mq false f=true:=λf hf=>by
  have:=j9 qw f hf;simp only[xC] at this;exact this.1
 have h2:∀f,Mq f=true->PW.fs[f]?=PW.a.funcs[f]?:=λf hf=>by
  have:=j9 qw f hf;simp only[xC,yw] at this;exact j6 this.2
 refine⟨vc h1 Uo ⟨yl Sq.globals_size,Sq.J3⟩,tL h1 h2 (λf hf hb=>by rw[hf] at hb;cases hb) (λ_ h=>h) Uo ⟨yl Sq.globals_size,Sq.J3⟩,λf hf hb=>?_,hb⟩;rcases hf with hf|hf
 .rw[hf] at hb;cases hb
 .have h:Mq 74=false:=by decide
  unfold aM at hf;rw[h,yC,yJ] at hf;cases hf
end Go.Proofs.Ao
namespace Go.Co
open Go.AW Go.Conc Go.ConcN
section
variable {P:Ba} {SB BB:FuncId->Bool} {lets:Bool} {Gn:Nat} {H:Hid} {T:List Frame} {β:AO}
def Lg {f:FuncId}{fa fb:Func}{c:Code}(h1:P.a.funcs[f]?=some fa)(h2:P.b.funcs[f]?=some fb)(h3:fa.body=some c)(h4:codeOk P.a SB lets true c=false)(hn:fb.ntmps=fa.ntmps)
  {args:Array Value} (hsz:args.size<=fa.ntmps) {k:CallKind} {F:Frame} (h:C5 P SB H lets BB β (Frame.enter P.a f args k) F):∃ARGS,F=Frame.enter P.b f ARGS k/\AA (SP SB H) β args ARGS:=by
 generalize hF:Frame.enter P.a f args k=fr at h;cases h with
 |on h =>
  exfalso;have ht:=h.todo;rw[<-hF] at ht;simp only[Frame.enter,h1,h3,yd,Option.getD_some] at ht;generalize F.todo=X at ht;cases ht with
  |cons hi _ =>
   cases hi with
   |code hc =>
    simp only[Option.isNone_none] at hc;rw[h4] at hc;cases hc
 |@stop f' a A k' _ _ _ ha =>
  have e1:f=f':=congrArg Frame.fn hF;have e2:k=k':=congrArg Frame.kind hF;subst e1 e2;have e3:args++Array.replicate (fa.ntmps-args.size) undef=a++Array.replicate (fa.ntmps-a.size) undef:=by
   have:=congrArg Frame.tmps hF;simpa [Frame.enter,h1] using this
  have hs:=congrArg Array.size e3;simp only[Array.size_append,Array.size_replicate] at hs;have hA:=ha.size;have asz:a.size<=fa.ntmps:=by omega
  have all:AA (SP SB H) β (args++Array.replicate (fa.ntmps-args.size) undef) (A++Array.replicate (fa.ntmps-A.size) undef):=by
   rw[e3,<-hA];exact ha.append (AA.replicate (Aw.undef _ _) _)
  refine⟨(A++Array.replicate (fa.ntmps-A.size) undef).extract 0 args.size,?_,?_⟩
  .have e4 : A ++ Array.replicate (fa.ntmps - A.size) undef = (A ++ Array.replicate (fa.ntmps - A.size) undef).extract 0 args.size ++ Array.replicate (fa.ntmps - ((A ++ Array.replicate (fa.ntmps - A.size) undef).extract 0 args.size).size) undef := by
    have hlen:((A++Array.replicate (fa.ntmps-A.size) undef).extract 0 args.size).size=args.size:=by simp;omega
    rw[hlen];generalize hX:A++Array.replicate (fa.ntmps-A.size) undef=X at all hlen ⊢;have hXs:X.size=fa.ntmps:=by rw[<-hX];simp;omega
    apply Array.ext (by simp;omega);intro i i1 i2;by_cases hi:i<args.size
    .rw[Array.getElem_append_left (by rw[hlen];exact hi)];simp
    .rw[Array.getElem_append_right (by rw[hlen];omega)];simp only[Array.getElem_replicate];have:=all.at_ i undef X[i] (by rw[Array.getElem?_append_right (by omega),yk,if_pos (by omega)]) (xp i1);exact S2.undef _ this
   simp only[Frame.enter,h2,yq,Option.getD_some,hn];rw[<-e4]
  .have:=all.extract 0 args.size;have e5:(args++Array.replicate (fa.ntmps-args.size) undef).extract 0 args.size=args:=by simp
   rwa [e5] at this
def qx {S:Cb}{Ck:Code->Prop}{w w1 W:World}(h:Bg S Ck Gn β w W)(hs:w1.heap.size=w.heap.size)(ho:w1.os=w.os)
  (hb:∀b:Nat,w1.heap[b]?=w.heap[b]?\/∃(c:Array Value) (t:TypeId) (f f1:Nat×Nat),w.heap[b]?=some (.cells c t f)/\w1.heap[b]?=some (.cells c t f1)/\∀i,f.1<=i->i<f.2->f1.1<=i/\i<f1.2):Bg S Ck Gn β w1 W:=by
 refine⟨h.B6,by rw[hs];exact h.room,λb B Jq hh=>?_,λb B Jq hh=>?_,λb hh=>by rw[hs];exact h.old b hh,by rw[ho];exact h.env⟩
 .obtain⟨o,O,e1,e2,e3⟩:=h.Cq b B Jq hh;rcases hb b with e|⟨c,t,f,f1,q1,q2,q3⟩
  .exact⟨o,O,e.trans e1,e2,e3⟩
  .rw[q1] at e1;cases e1;exact⟨_,O,q2,e2,Bw.YQ e3 q3⟩
 .obtain⟨e1,e2,e3⟩:=h.CG b B Jq hh;rcases hb b with e|⟨c,t,f,f1,q1,q2,q3⟩
  .exact⟨e.trans e1,e2,e3⟩
  .rw[q1] at e1;cases e1
end
def cS {P:Program}{K:Nat}{m1:Machine}{t1:Trace}:∀ {N:Nat} {m:Machine} {t:Trace},runNT P N m t=(.next m1,t1)->runNT P (N+K) m t=runNT P K m1 t1:=by
 intro N
 induction N with
 |zero=>intro m t h;simp only[runNT,Prod.mk.injEq,Stepped.next.injEq] at h;obtain⟨rfl,rfl⟩:=h;rw[xG]
 |succ N ih =>
  intro m t h;rw[show N+1+K=(N+K)+1 by omega];have e : ∀ n, runNT P (n + 1) m t = match stepT P m with
    |(.next m,ops)=>runNT P n m (t++ops)
    |(e,ops)=>(e,t++ops):=λ_=>rfl
  rw[e] at h ⊢;rcases hs:stepT P m with⟨s,ops⟩
  rw[hs] at h;cases s with
  |next m'=>exact ih h
  |ended o w=>simp at h
def nO {P:Program}{m m':Machine}{t:Trace}{ops:Array MemOp}(h:stepT P m=(.next m',ops)):runNT P 1 m t=(.next m',t++ops):=by
 unfold runNT;rw[h];rfl
end Go.Co
