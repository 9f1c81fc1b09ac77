/- Parts of the proof. -/
import Derived.Test.YtjcgijifamcggaaGreatP10
import Derived.Test.YtjcgijifamcggaaGreatP00
import Derived.Test.YtjcgijifamcggaaGreatP08
set_option linter.all false
set_option maxHeartbeats 8000000
set_option maxRecDepth 100000
namespace Go.Co
open Go.Bl Go.Conc Go.ConcN
open Go.ConcR (KK WgAt stA smA rd wr mk DC0 Bk g_of_ofEvents bk_of_mute ofEvent_loc_mark ofEvent_cell ofEvent_mk)
section
variable {P:Bw} {SB BB:FuncId->Bool} {lets:Bool} {Gn:Nat} {ty Wg:Nat} {Dead Toy:Nat->Prop} {Kp:Fg} {Ψ0 Ψ2:World->Prop} {fA fW:FuncId} {wl:Nat} {Pr:Bc} {T:List Frame} {Fn:Bool->Hid->Goroutine->World->Prop}
 {j0 j:Nat} {gs:Array Goroutine} {W W':World} {t:Trace} {D:Nat->WD} {M:Nat->Wm} {O:Nat->Bool} {L:Nat->Option Lone} {ts ts':TS} {rr:Nat->Nat} {st sm GK Hz:Int} {a a':Goroutine}
 {tag tag':CTag} {d0:Nat} {pre pre':Pre} {rk ME:Nat->Nat} {fu MF:Nat} {x:Lone} {sl:Option (Nat×Nat)}
def WI.ZP (h:WI P SB BB lets Gn ty Wg Dead Toy Kp Ψ0 Ψ2 j0 j gs W t D M O L ts rr st sm):ts.own≠some 0:=λe=>by
 cases ts with
 |at_ k =>
  obtain⟨i,_,e1,_⟩:=h.Ko k rfl;simp only[TS.own,Option.some.injEq] at e;omega
 |_=>cases e
def WI.reg (h:WI P SB BB lets Gn ty Wg Dead Toy Kp Ψ0 Ψ2 j0 j gs W t D M O L ts rr st sm)(hL:L 0=some x)(g':Goroutine):WI P SB BB lets Gn ty Wg Dead Toy Kp Ψ0 Ψ2 j0 j gs W t D M O (put L 0 (some { x with g:=g' })) ts rr st sm:=by
 have get:∀ {b y},put L 0 (some { x with g:=g' }) b=some y->∃z,L b=some z/\y.w=z.w/\y.H=z.H/\y.β=z.β:=λ{b y} e=>by
  by_cases e':b=0
  .subst e';rw[Bg] at e;cases e;exact⟨x,hL,rfl,rfl,rfl⟩
  .rw[Bv L _ e'] at e;exact⟨y,e,rfl,rfl,rfl⟩
 have c:=h.cw;refine⟨h.size,λi hi=>?_,⟨λb y hy=>?_,λb y hy=>?_,λb y hy=>?_,λb y hy=>?_,λb y hy=>?_,λb k y z hne hy hz=>?_,c.low,c.GC,c.keep,λb y hy=>?_,c.Lb,c.Pz⟩,h.tr.Mz (λk l=>?_) (λk l=>?_),h.low,h.deafW,h.rel,h.wg,h.Jd,h.Ko,h.EE,λi hi=>?_,h.old,h.jj⟩
 .rw[Bv L _ (by omega)];exact h.wk i hi
 .obtain⟨z,h1,h2,h3,h4⟩:=get hy;have:=c.like b z h1;unfold D6 at this ⊢;rw[h2,h3,h4];exact this
 .obtain⟨z,h1,h2,h3,h4⟩:=get hy;rw[h3];exact c.BX b z h1
 .obtain⟨z,h1,h2,h3,h4⟩:=get hy;rw[h3,h4];exact c.Na b z h1
 .obtain⟨z,h1,h2,h3,h4⟩:=get hy;rw[h4];exact c.dead b z h1
 .obtain⟨z,h1,h2,h3,h4⟩:=get hy;rw[h3,h4];exact c.GA b z h1
 .obtain⟨y',h1,h2,h3,h4⟩:=get hy;obtain⟨z',k1,k2,k3,k4⟩:=get hz;rw[h2,h3,h4,k2,k3,k4];exact c.sep b k y' z' hne h1 k1
 .obtain⟨z,h1,h2,h3,h4⟩:=get hy;rw[h2,h3,h4];exact c.CN b z h1
 .rintro(⟨y,hy,hw⟩|hw)
  .obtain⟨z,h1,h2,h3,h4⟩:=get hy;refine .inl ⟨z,h1,?_⟩;unfold Ti at hw ⊢;rw[h2,h3,h4] at hw;exact hw
  .exact .inr hw
 .rintro(⟨y,hy,hw⟩|hw)
  .obtain⟨z,h1,h2,h3,h4⟩:=get hy;refine .inl ⟨z,h1,?_⟩;unfold Tj at hw ⊢;rw[h3,h4] at hw;exact hw
  .exact .inr hw
 .rw[Bv L _ (by omega)];exact h.out i hi
def lG (lib:∀H,Lib P SB H lets BB Gn)(tz:ao Toy Ψ0)(CJ:ao Toy Ψ2){k q:Nat}{Q:Goroutine->World->Prop}
  (h:MI P SB BB lets Gn ty Wg Dead Toy Kp Ψ0 Ψ2 fA fW wl Pr T Fn j0 (k,q,.tree Q (x.g,x.w)) j gs W t D M O L ts rr st sm tag 0 rk fu x a) (hne:tag≠.ret) (hr:AZ P.a (B8 P.a BB) Q x.g x.w) (hq:¬Q x.g x.w) (hg:Ch P SB BB lets x a) (EA:Pr.le x.β) (hT:x.T=T)
  (mkS:∀(x':Lone) (G:Goroutine) (W:World),x'.H=x.H->x'.T=T->Pr.le x'.β->AZ P.a (B8 P.a BB) Q x'.g x'.w->Ch P SB BB lets x' G->DD P SB BB lets Gn ty Wg Toy Ψ0 Ψ2 fA fW wl Pr T Fn tag 0 (k,q,.tree Q (x'.g,x'.w)) rk fu x' ts.tp G W) :
  Stepped P SB BB lets Gn ty Wg Dead Toy Kp Ψ0 Ψ2 fA fW wl Pr T Fn j0 ((k,q,.tree Q (x.g,x.w)),(List.range j).map M,(rk (Vc j D),fu)) gs W sl t:=by
 obtain⟨g',w',es,AQ,g2,W',ES,e1,e2,e3,e4,e5⟩:=Bl.follow (lib x.H) (main2:=true) hr hq hg (h.wi.cw.like _ x h.L0);have f:E5 P SB lets Gn x W AQ w' W' ES.toList:=e5;have Gu:=h.wi.cw.BX _ x h.L0;have GL:=cn f Gu;rw[show ES.toList.toArray=ES by simp] at GL;have hdf:deafBehind 0 ES=0:=deafBehind_idle (λe he=>⟨(GL e he).1,(GL e he).2.1⟩) 0
 refine⟨_,_,((k,q,.tree Q (g',w')),(List.range j).map M,(rk (Vc j D),fu)),runT_crowd_go (P:=P.b) (sl:=sl) (i:=0) h.a0 (by simpa using e3),Prod.Lex.left _ _ (Prod.Lex.right _ (Prod.Lex.right _ ⟨.tree hq ⟨W.tape,W.drawn,es,e1,e4.callers.ne⟩,Ab (BN.of hr)⟩)),
  j,_,W',sl,D,M,O,_,ts,rr,st,sm,tag,0,rk,fu,⟨g',w',x.H,AQ,x.T⟩,g2,rfl,⟨h.wi.ZI tz CJ h.L0 f g',mkS ⟨g',w',x.H,AQ,x.T⟩ g2 W' rfl hT (Bc.le_trans EA e5.le) e2 e4,Bg L _ _,get_map_set_same _ _ _ (by rw[h.wi.size];omega),by rw[Deaf_own,h.deaf];exact hdf,h.mode,λe=>absurd e hne,h.bd⟩,rfl⟩
def Nd (lib:∀H,Lib P SB H lets BB Gn)(tz:ao Toy Ψ0)(CJ:ao Toy Ψ2){k:Nat}
  (h:MI P SB BB lets Gn ty Wg Dead Toy Kp Ψ0 Ψ2 fA fW wl Pr T Fn j0 (k+1,3,.tree (ZK P SB BB lets Gn ty Wg Toy Ψ0 Ψ2 fA fW wl Pr T Fn k ts.tp x.H) (x.g,x.w)) j gs W t D M O L ts rr st sm (.sp 0 2) 0 rk fu x a) (hr:Rest P SB BB lets Gn ty Wg Toy Ψ0 Ψ2 fA fW wl Pr T Fn k x ts.tp a) (Kr:rk=λ_=>0) (hfu:fu=0) :
  Stepped P SB BB lets Gn ty Wg Dead Toy Kp Ψ0 Ψ2 fA fW wl Pr T Fn j0 ((k+1,3,.tree (ZK P SB BB lets Gn ty Wg Toy Ψ0 Ψ2 fA fW wl Pr T Fn k ts.tp x.H) (x.g,x.w)),(List.range j).map M,(rk (Vc j D),fu)) gs W sl t:=by
 subst Kr hfu;by_cases hq:ZK P SB BB lets Gn ty Wg Toy Ψ0 Ψ2 fA fW wl Pr T Fn k ts.tp x.H x.g x.w
 .obtain⟨G',child,x',xk,MD,o,SD,Q,hgo,hsp,hT',aeN,hS,hQ,Kr⟩:=hq x a W rfl ⟨rfl,rfl,rfl⟩ rfl hr.t hr.wl hr.gl (h.wi.cw.like 0 x h.L0) (λe=>h.wi.EE.1 (by cases ts<;>first|rfl|cases e)) (h.wi.cw.GA 0 x h.L0 h.wi.ZP) (h.wi.cw.Na 0 x h.L0) (h.wi.cw.BX 0 x h.L0);have hrun:=runT_crowd_spawn (P:=P.b) (sl:=sl) (i:=0) h.a0 (by simpa using hgo);rw[h.wi.size] at hrun;have e0:∀(p q:MemOp),((MemOp.ofEvents 0 a.frame.fn a.frame.place #[]).push p).push q=#[p,q]:=λp q=>by rw[ofEvents_eq];simp
  rw[e0] at hrun;obtain⟨hw,NM⟩:=h.wi.spawn h.L0 hsp hQ Kr.1 Kr.2 h.deaf (p:={ g:=0,fn:=a.frame.fn,pos:=a.frame.place,act:=.go (j+1) }) (q:={ g:=j+1,fn:=child.frame.fn,pos:=a.frame.place,act:=.start }) ⟨rfl,rfl⟩ ⟨rfl,rfl⟩;obtain⟨ho,hst,hsm,_⟩:=h.mode.open_inv trivial;have eV:Vc (j+1) (upd D j ⟨7,0,0⟩)=Vc j D+1:=by
   simp only[Vc,sumTo,upd_same];rw[sumTo_upd_out D _ cnt (xp _)];rfl
  have hm:ConcN.Mode (j+1) (upd D j ⟨7,0,0⟩) (.sp 0 5) st sm:=by
   have e:st=((Vc (j+1) (upd D j ⟨7,0,0⟩)+pend (.sp 0 5):Nat):Int)*KK:=by rw[hst,eV];simp[pend]
   rw[e,hsm];refine .opn trivial (λi hi=>?_) (by simp);by_cases e:i=j
   .subst e;rw[upd_same];simp
   .rw[upd_ne D _ e];exact ho i (by omega)
  have JH:=h.bd
  refine⟨_,_,((k,9,.tree (IK P SB BB lets Gn ty Wg Toy Ψ0 Ψ2 fA fW wl Pr T Fn k MD x'.H) (x'.g,x'.w)),(List.range (j+1)).map (upd M j (.born Q (xk.g,xk.w))),(0,0)),hrun,Prod.Lex.left _ _ (Prod.Lex.left _ _ (Nat.lt_succ_self k)),
   j+1,_,W,sl,_,_,_,_,_,rr,st,sm,.sp 0 5,0,λ_=>0,0,x',G',rfl,⟨hw,by rw[NM];exact .free hS aeN hT' hsp.gl,by rw[Bv _ _ (by omega)];exact Bg L _ _,?_,?_,hm,λe=>by simp at e,by simp only at JH ⊢;omega⟩,rfl⟩
  .rw[Array.getElem?_push_lt (by simp[h.wi.size]),<-xD];simp[h.wi.size]
  .rw[Deaf_still t 0 _ (λop hop=>?_),h.deaf];simp only[yJ,xC,xz,or_false] at hop;rcases hop with rfl|rfl<;>exact⟨by simp,by simp⟩
 .exact lG lib tz CJ h (by simp) hr.run hq hr.gl hr.wl hr.t fun x' G W e1 e2 e3 e4 e5 => by
   have hR:Rest P SB BB lets Gn ty Wg Toy Ψ0 Ψ2 fA fW wl Pr T Fn k x' ts.tp G:=⟨by rw[e1];exact e4,e3,e2,e5⟩;have:=DD.mid (W:=W) hR;rw[e1] at this;exact this
def step0 (JK:Pr wl Wg)(lib:∀H,Lib P SB H lets BB Gn)(tz:ao Toy Ψ0)(CJ:ao Toy Ψ2)(hA:Nb P SB BB lets Gn ty Wg fA wl T)(hW:jh P SB BB lets Gn ty Wg fW wl T)
  (h:MI P SB BB lets Gn ty Wg Dead Toy Kp Ψ0 Ψ2 fA fW wl Pr T Fn j0 pre j gs W t D M O L ts rr st sm tag d0 rk fu x a) (hrun:a.status=.running) :
  Lj P SB BB lets Gn ty Wg Dead Toy Kp Ψ0 Ψ2 Pr T Fn j0 (crowd gs W sl) t\/Stepped P SB BB lets Gn ty Wg Dead Toy Kp Ψ0 Ψ2 fA fW wl Pr T Fn j0 (pre,(List.range j).map M,(rk (Vc j D),fu)) gs W sl t:=by
 by_cases h3:pre.2.1≠9/\pre.2.1≠3/\pre.2.1≠4
 .exact Nc tz CJ h hrun h3
 have Tl:=h.Yf;have go : ∀ {tag' : CTag} {d1 : Nat} {k q q' : Nat} {w1 w : Wm} {ME : Nat -> Nat} {MF : Nat} {g' : Goroutine}, q < q' -> q ≠ 9 ∧ q ≠ 3 ∧ q ≠ 4 -> pre = (k, q', w) -> ConcN.Mode j D tag' st sm -> tag' ≠ .ret -> Deaf t 0 = d1 ->
   DD P SB BB lets Gn ty Wg Toy Ψ0 Ψ2 fA fW wl Pr T Fn tag' d1 (k,q,w1) ME MF { x with g:=g' } ts.tp a W->Lj P SB BB lets Gn ty Wg Dead Toy Kp Ψ0 Ψ2 Pr T Fn j0 (crowd gs W sl) t\/Stepped P SB BB lets Gn ty Wg Dead Toy Kp Ψ0 Ψ2 fA fW wl Pr T Fn j0 (pre,(List.range j).map M,(rk (Vc j D),fu)) gs W sl t:=by
  intro tag' d1 k q q' w1 w ME MF g' hq hq' Dx hm hne hd hs;have JH:=h.bd;subst Dx;have h':MI P SB BB lets Gn ty Wg Dead Toy Kp Ψ0 Ψ2 fA fW wl Pr T Fn j0 (k,q,w1) j gs W t D M O (put L 0 (some { x with g:=g' })) ts rr st sm tag' d1 ME MF { x with g:=g' } a :=
   ⟨h.wi.reg h.L0 g',hs,Bg L _ _,h.a0,hd,hm,λe=>absurd e hne,JH⟩
  rcases Nc (sl:=sl) tz CJ h' hrun hq' with hf|⟨m',ops,JX,k1,k2,k3⟩
  .exact .inl hf
  .exact .inr ⟨m',ops,JX,k1,Ap hq k2,k3⟩
 have wait:∀ {k:Nat} {w:Wm},pre=(k,9,w)->tag=.sp 0 5->d0=0->gH P fW wl Fn ts.tp x.H x.g x.w->Pr.le x.β->x.T=T->Ch P SB BB lets x a->Lj P SB BB lets Gn ty Wg Dead Toy Kp Ψ0 Ψ2 Pr T Fn j0 (crowd gs W sl) t\/Stepped P SB BB lets Gn ty Wg Dead Toy Kp Ψ0 Ψ2 fA fW wl Pr T Fn j0 (pre,(List.range j).map M,(rk (Vc j D),fu)) gs W sl t:=by
  rintro k w Dx ht hd ⟨fr,cs,e,JY,hfn⟩ EA hT hg;obtain⟨gR,m,Ey,k1,k2,k3⟩:=hW x a W fr cs e JY hT (EA _ _ JK) hg (h.wi.cw.like 0 x h.L0) h.wi.live;refine go (q:=2) (g':=back fr cs) (by omega) (by omega) Dx (by have:=h.mode;rw[ht] at this;exact this.reopen (tag':=.kd) trivial trivial rfl (by simp)) (by simp) (h.deaf.trans hd) (.Yd k1 ?_ k2);exact⟨hfn,EA,hT,k3⟩
 generalize Dx:pre=pre0 at Tl;cases Tl with
 |@free k _ _ _ _ hr EA hT hg =>
  by_cases hq:IK P SB BB lets Gn ty Wg Toy Ψ0 Ψ2 fA fW wl Pr T Fn k ts.tp x.H x.g x.w
  .cases k with
   |zero=>rw[<-Dx];exact wait Dx rfl rfl hq EA hT hg
   |succ k =>
    rw[<-Dx];rcases hq with hq|⟨fr,cs,e,JY,Pj⟩
    .exact wait Dx rfl rfl hq EA hT hg
    .obtain⟨gR,m,k1,k2⟩:=hA x a W fr cs e JY hT (EA _ _ JK) hg (h.wi.cw.like 0 x h.L0) h.wi.live;exact go (q:=8) (g':=back fr cs) (by omega) (by omega) Dx h.mode (by simp) h.deaf (.Yb k1 ⟨Pj,EA,hT,k2⟩)
  .rw[Dx] at h
   exact .inr (lG lib tz CJ h (by simp) hr hq hg EA hT λx' G W e1 e2 e3 e4 e5=>by
    have:=DD.free (P:=P) (SB:=SB) (BB:=BB) (lets:=lets) (Gn:=Gn) (ty:=ty) (Wg:=Wg) (Toy:=Toy) (Ψ0:=Ψ0) (Ψ2:=Ψ2) (fA:=fA) (fW:=fW) (wl:=wl) (Pr:=Pr) (T:=T) (Fn:=Fn) (k:=k) (x:=x') (tp:=ts.tp) (W:=W) (by rw[e1];exact e4) e3 e2 e5;rw[e1] at this
    exact this)
 |mid hr=>rw[Dx] at h;exact .inr (Nd lib tz CJ h hr rfl rfl)
 |Je hk hr =>
  rcases Goes.cases hk with BD|⟨m',rfl,hstep⟩
  .have e:=BD W (RL.refl W);subst e;have JH:=h.bd;rw[Dx] at h JH;have h':=MI.mk (Fn:=Fn) (fA:=fA) (fW:=fW) (wl:=wl) (Pr:=Pr) (T:=T) h.wi (.mid hr) h.L0 h.a0 h.deaf h.mode (λe=>by simp at e) JH;obtain⟨m',ops,JX,k1,k2,k3⟩:=Nd (sl:=sl) lib tz CJ h' hr rfl rfl;exact .inr ⟨m',ops,JX,k1,Ap (by omega) k2,k3⟩
  .obtain⟨a',w',es,hgo,⟨rfl,rfl⟩,Dd⟩:=hstep W (RL.refl W);rw[Dx] at h;exact .inr (h.book tz CJ hgo (.refl Wg w') h.wi.wg Ef (.Je Dd hr) h.mode (by simp) (xp _) (.inl (fw (by omega))))
 |_ =>
  subst Dx;exact absurd ⟨by simp,by simp,by simp⟩ h3
end
open Go.ConcR (KK WgAt stA smA rd wr mk DC0 Bk g_of_ofEvents bk_of_mute ofEvent_loc_mark ofEvent_cell ofEvent_mk)
section
variable {P:Bw} {SB BB:FuncId->Bool} {lets:Bool} {Gn:Nat} {ty Wg:Nat} {Dead Toy:Nat->Prop} {Kp:Fg} {Ψ0 Ψ2:World->Prop} {fA fW:FuncId} {wl:Nat} {Pr:Bc} {T:List Frame} {Fn:Bool->Hid->Goroutine->World->Prop}
 {j0 j:Nat} {gs:Array Goroutine} {W W':World} {t:Trace} {D:Nat->WD} {M:Nat->Wm} {O:Nat->Bool} {L:Nat->Option Lone} {ts ts':TS} {rr:Nat->Nat} {st sm GK Hz:Int} {a a':Goroutine}
 {tag tag':CTag} {d0:Nat} {pre pre':Pre} {rk ME:Nat->Nat} {fu MF:Nat} {x:Lone} {sl:Option (Nat×Nat)}
def Eb.leaving {s d:Nat}{m:Wm}{x:Option Lone}{o:Bool}{g:Goroutine}(h:Eb P SB BB lets Gn ty Wg Ψ2 s d m x o g W)(hs:s=1):(∃q,QuitsD P.b q d g)/\o=false:=by
 cases h<;>first|(exact absurd hs (by decide))|(exact⟨⟨_,‹_›⟩,rfl⟩)
def WI.at (h:WI P SB BB lets Gn ty Wg Dead Toy Kp Ψ0 Ψ2 j0 j gs W t D M O L ts rr st sm)(tz:ao Toy Ψ0)(CJ:ao Toy Ψ2)(d:Nat):WI P SB BB lets Gn ty Wg Dead Toy Kp Ψ0 Ψ2 j0 j gs (W.at d) t D M O L ts rr st sm :=
 ⟨h.size,λi hi=>let ⟨g,hg,hs⟩:=h.wk i hi;⟨g,hg,hs.rely λx=>x⟩,h.cw.at d,h.tr,h.low,h.deafW,h.rel,h.wg,h.Jd,h.Ko,⟨λe=>tz W _ (λ_ _=>rfl) (h.EE.1 e),λe=>CJ W _ (λ_ _=>rfl) (h.EE.2 e)⟩,h.out,h.old,h.jj⟩
def MI.at (h:MI P SB BB lets Gn ty Wg Dead Toy Kp Ψ0 Ψ2 fA fW wl Pr T Fn j0 pre j gs W t D M O L ts rr st sm tag d0 rk fu x a)(tz:ao Toy Ψ0)(CJ:ao Toy Ψ2)(d:Nat):MI P SB BB lets Gn ty Wg Dead Toy Kp Ψ0 Ψ2 fA fW wl Pr T Fn j0 pre j gs (W.at d) t D M O L ts rr st sm tag d0 rk fu x a :=
 ⟨h.wi.at tz CJ d,h.Yf.rely λx=>x,h.L0,h.a0,h.deaf,h.mode,h.acq,h.bd⟩
def ZQ (lib:∀H,Lib P SB H lets BB Gn)(L6:∀(f:FuncId) (fn:Func),P.a.funcs[f]?=some fn->fn.body.isNone=true->P.fs[f]?=some fn)(tz:ao Toy Ψ0)(CJ:ao Toy Ψ2)
  (h:MI P SB BB lets Gn ty Wg Dead Toy Kp Ψ0 Ψ2 fA fW wl Pr T Fn j0 pre j gs W t D M O L ts rr st sm tag d0 rk fu x a) {i:Nat} (hi:i<j) {g:Goroutine} (hg:gs[i+1]?=some g) (hrun:g.status=.running) :
  ∃m' ops JX,runT P.b (crowd gs W sl) (i+1)=(.next m',ops)/\UC P.a JX (pre,(List.range j).map M,(rk (Vc j D),fu))/\NV P SB BB lets Gn ty Wg Dead Toy Kp Ψ0 Ψ2 fA fW wl Pr T Fn j0 JX m' (t++ops):=by
 have JH:=h.bd;have hpend:pend tag<=1:=by cases tag<;>simp[pend]<;>split<;>omega
 obtain⟨g',W',es,D',M',O',L',ts',Ya,GK,Hz,k1,k2,k3,k4,k5,k6,k7,k8,NM⟩:=moved lib L6 h.wi tz CJ hi hg hrun h.mode (by omega);obtain⟨tag',ME,MF,s1,s2,s3⟩:=h.Yf.wokenBy (W':=W') (λ_=>k2.live) g g'
 refine⟨_,_,(pre,(List.range j).map M',(ME (Vc j D'),MF)),runT_crowd_go (P:=P.b) (sl:=sl) (i:=i+1) hg (by simpa using k1),?_,j,_,W',sl,D',M',O',L',ts',Ya,GK,Hz,tag',d0,ME,MF,x,woken P.b g g' W' a,rfl,
  ⟨k2,by rw[NM];exact s1,k6.trans h.L0,by rw[get_map_set _ _ _ _ (by omega),h.a0];rfl,by rw[Deaf_other t (by omega) _ g_of_ofEvents,h.deaf],k3 tag' s2 s3,λe=>?_,JH⟩,rfl⟩
 .refine Prod.Lex.right _ (Prod.Lex.left _ _ ?_);obtain⟨_,_,hs⟩:=h.wi.wk i hi;have e:(List.range j).map M'=((List.range j).map M).set i (M' i):=by
   apply zE (by simp);intro b h1 h2;simp only[zt,zO];rw[List.getElem_set];split
   .rename_i e;rw[e]
   .rename_i e;simp only[zt,zO];exact k5 b (by omega)
  rw[e];exact One.set (by simp[hi]) ⟨k4,hs.acc⟩
 .have ht : tag = .ret := by
   rcases s2 with e'|⟨_,e'⟩
   .rw[<-e'];exact e
   .rw[e'] at e;cases e
  have hm:=h.mode;rw[ht] at hm;obtain⟨hq,_,_⟩:=hm.fin_inv trivial;obtain⟨q,q1,q2,q3,q4⟩:=(h.acq ht).app (u:=MemOp.ofEvents (i+1) g.frame.fn g.frame.place es);exact⟨q,q1,q2,q3,λb hb0 PE=>by rw[(k8 b PE (by rw[hq b PE];omega)).2];exact q4 b hb0 PE⟩
def FZ {D:Nat->WD}:∀ {j:Nat},1<=Vc j D->∃i,i<j/\5<=(D i).stage
 |0,h=>by simp[Vc,sumTo] at h
 |j+1,h=>by
  by_cases hc:5<=(D j).stage
  .exact⟨j,by omega,hc⟩
  .have:1<=Vc j D:=by simp only[Vc,sumTo,cnt,if_neg hc] at h ⊢;simpa using h
   obtain⟨i,hi,h5⟩:=FZ this;exact⟨i,by omega,h5⟩
def MI.Tm (h:MI P SB BB lets Gn ty Wg Dead Toy Kp Ψ0 Ψ2 fA fW wl Pr T Fn j0 pre j gs W t D M O L ts rr st sm tag d0 rk fu x a):∃(i:Nat) (g:Goroutine),gs[i]?=some g/\g.status=.running:=by
 have runs:∀i,i<j->(D i).stage≠1->∃g,gs[i+1]?=some g/\g.status=.running:=λi hi hs=>by
  obtain⟨g,hg,hk⟩:=h.wi.wk i hi;rcases hk.status with e|⟨_,e⟩
  .exact⟨g,hg,e⟩
  .exact absurd e hs
 rcases h.Yf.status with⟨hs,_⟩|⟨_,e⟩
 .exact⟨0,a,h.a0,hs⟩
 .subst e;have hm:=h.mode;cases hm with
  |opn h1 _ _=>exact h1.elim
  |reg _ _ h3 =>
   obtain⟨i,hi,h5⟩:=FZ h3;obtain⟨g,hg,hr⟩:=runs i hi (by omega);exact⟨i+1,g,hg,hr⟩
  |last Lx _ h2 h3 _ =>
   obtain⟨g,hg,hr⟩:=runs Lx h2 (by omega);exact⟨Lx+1,g,hg,hr⟩
  |fin h1 _=>exact h1.elim
def MI.awake (h:MI P SB BB lets Gn ty Wg Dead Toy Kp Ψ0 Ψ2 fA fW wl Pr T Fn j0 pre j gs W t D M O L ts rr st sm tag d0 rk fu x a):∀g∈gs,Go.Conc.awake g:=by
 intro g hg tm;obtain⟨i,hi⟩:=Array.mem_iff_getElem?.1 hg;cases i with
 |zero =>
  rw[h.a0] at hi;cases hi;rcases h.Yf.status with⟨hs,_⟩|⟨hs,_⟩<;>rw[hs]<;>simp
 |succ i =>
  have hlt:i<j:=by have:=(xm.1 hi).1;rw[h.wi.size] at this;omega
  obtain⟨g',Dd,hs⟩:=h.wi.wk i hlt;rw[hi] at Dd;cases Dd;rcases hs.status with e|⟨e,_⟩<;>rw[e]<;>simp
def ZR (JK:Pr wl Wg)(lib:∀H,Lib P SB H lets BB Gn)(L6:∀(f:FuncId) (fn:Func),P.a.funcs[f]?=some fn->fn.body.isNone=true->P.fs[f]?=some fn)(tz:ao Toy Ψ0)(CJ:ao Toy Ψ2)(hA:Nb P SB BB lets Gn ty Wg fA wl T)(hW:jh P SB BB lets Gn ty Wg fW wl T):∀μ m t,NV P SB BB lets Gn ty Wg Dead Toy Kp Ψ0 Ψ2 fA fW wl Pr T Fn j0 μ m t ->
  Lj P SB BB lets Gn ty Wg Dead Toy Kp Ψ0 Ψ2 Pr T Fn j0 m t\/∃m' ops JX,stepT P.b m=(.next m',ops)/\UC P.a JX μ/\NV P SB BB lets Gn ty Wg Dead Toy Kp Ψ0 Ψ2 fA fW wl Pr T Fn j0 JX m' (t++ops):=by
 rintro⟨pre,r⟩ m t ⟨j,gs,W,sl,D,M,O,L,ts,rr,st,sm,tag,d0,rk,fu,x,a,rfl,h,hr⟩;simp only at h hr;subst hr;obtain⟨i,g,d,sl',hg,hrun,hstep⟩:=crowd_pick (P:=P.b) (w:=W) (sl:=sl) h.awake h.Tm;have h':=h.at tz CJ d;cases i with
 |zero =>
  rw[h.a0] at hg;cases hg;by_cases hf:Lj P SB BB lets Gn ty Wg Dead Toy Kp Ψ0 Ψ2 Pr T Fn j0 (crowd gs W sl) t
  .exact .inl hf
  .rcases step0 (sl:=sl') JK lib tz CJ hA hW h' hrun with hf'|⟨m',ops,JX,k1,k2,k3⟩
   .exfalso;apply hf;obtain⟨j2,Yg,W2,Tn,D2,M2,O2,L2,ts2,rr2,st2,sm2,x2,a2,e,q1,q2,q3,q4,q5,q6,q7⟩:=hf';have e1:gs=Yg:=congrArg Machine.gs e;have e2:W.at d=W2:=congrArg Machine.world e;subst e1;subst e2;exact⟨j2,gs,W,sl,D2,M2,O2,L2,ts2,rr2,st2,sm2,x2,a2,rfl,q1.at tz CJ W.drawn,q2,q3,q4,q5,q6,q7⟩
   .exact .inr ⟨m',ops,JX,by rw[hstep];exact k1,k2,k3⟩
 |succ i =>
  have hi:i<j:=by have:=(xm.1 hg).1;rw[h.wi.size] at this;omega
  obtain⟨m',ops,JX,k1,k2,k3⟩:=ZQ (sl:=sl') lib L6 tz CJ h' hi hg hrun;exact .inr ⟨m',ops,JX,by rw[hstep];exact k1,k2,k3⟩
def join (JK:Pr wl Wg)(lib:∀H,Lib P SB H lets BB Gn)(L6:∀(f:FuncId) (fn:Func),P.a.funcs[f]?=some fn->fn.body.isNone=true->P.fs[f]?=some fn)(tz:ao Toy Ψ0)(CJ:ao Toy Ψ2)(hA:Nb P SB BB lets Gn ty Wg fA wl T)(hW:jh P SB BB lets Gn ty Wg fW wl T){μ:Mu}{m:Machine}(h:NV P SB BB lets Gn ty Wg Dead Toy Kp Ψ0 Ψ2 fA fW wl Pr T Fn j0 μ m t) :
  ∃N m' t',runNT P.b N m t=(.next m',t')/\Lj P SB BB lets Gn ty Wg Dead Toy Kp Ψ0 Ψ2 Pr T Fn j0 m' t' :=
 jg (UC.wf P.a) _ _ (ZR JK lib L6 tz CJ hA hW) μ m t h
def Ll {m:Machine}(h:Lj P SB BB lets Gn ty Wg Dead Toy Kp Ψ0 Ψ2 Pr T Fn j0 m t) :
  ∃(gs:Array Goroutine) (W:World) (sl:Option (Nat×Nat)) (x:Lone) (a:Goroutine) (tp:Bool) (q:Nat->Nat),m=crowd gs W sl/\gs[0]?=some a/\Leavers P.b t gs q/\Past (M9 Dead Wg) W.heap.size t/\Quiet (M9 Dead Wg) t/\(∀(i:Nat) (op:MemOp),t[i]?=some op->op.g<gs.size) /\
   H4 P SB BB lets Pr T Fn x tp a/\D6 P SB lets Gn x W/\x.H.BX=false/\(∀b,x.β b Wg->x.H b=true)/\(∀b B,x.β b B->¬Dead B)/\(∀b B,x.β b B->Toy B->x.H b=true) /\
   (∀B,Kp.at_ B->W.heap[B]?=Kp.w.heap[B]?)/\Wg<W.heap.size/\(∀B,Dead B->B<W.heap.size)/\(tp=true->Ψ0 W)/\(tp=false->Ψ2 W)/\W.os=Kp.w.os/\W.output=Kp.w.output/\gs.size<=Kp.bd/\∀b B,x.β b B->Kp.at_ B->x.H b=true\/Ro x.w b:=by
 obtain⟨j,gs,W,sl,D,M,O,L,ts,rr,st,sm,x,a,rfl,hw,hf,hL,ha,hd,hq,VY,hjb⟩:=h;obtain⟨q,q1,q2,q3,q4⟩:=VY;have quits:∀i g,i<j->gs[i+1]?=some g->∃n,QuitsD P.b n (Deaf t (i+1)) g:=λi g hi hg=>by
  obtain⟨g',Dd,hk⟩:=hw.wk i hi;rw[hg] at Dd;cases Dd;rw[hw.deafW i hi];exact(hk.leaving (hq i hi)).1
 have UE:∀i,∃n,∀g,0<i->gs[i]?=some g->QuitsD P.b n (Deaf t i) g:=λi=>by
  by_cases h0:0<i/\i<j+1
  .obtain⟨i',rfl⟩:∃i',i=i'+1:=⟨i-1,by omega⟩;cases hg:gs[i'+1]? with
   |none=>exact⟨0,λg _ e=>by cases e⟩
   |some g =>
    obtain⟨n,hn⟩:=quits i' g (by omega) hg;exact⟨n,λg2 _ e=>by cases e;exact hn⟩
  .refine⟨0,λg h1 e=>?_⟩;have:=(xm.1 e).1;rw[hw.size] at this;omega
 refine⟨gs,W,sl,x,a,ts.tp,λi=>Classical.choose (UE i),rfl,ha,⟨λi g h0 hg=>Classical.choose_spec (UE i) g h0 hg,λi hi=>Deaf_absent λb op hb e=>?_⟩,?_,hw.tr.ti.quiet,λi op hi=>by rw[hw.size];exact hw.tr.ti.gs i op hi,hf,hw.cw.like 0 x hL,hw.cw.BX 0 x hL,hw.cw.Na 0 x hL,hw.cw.dead 0 x hL,hw.cw.GA 0 x hL hw.ZP,λB hB=>(hw.cw.keep B hB).2.2,hw.cw.low.1,hw.cw.low.2.1,λe=>hw.EE.1 ?_,λe=>hw.EE.2 ?_,hw.cw.Pz.1,hw.cw.Pz.2,by rw[hw.size];exact hjb,hw.cw.CN 0 x hL⟩
 .have:=hw.tr.ti.gs b op hb;rw[hw.size] at hi;omega
 .refine hw.tr.past q1 q2 q3 hd hw.low λk i hg hne ZF=>?_;obtain⟨b,rfl,hb0,PE,hb⟩:=ZF;have h1:=hq b PE;refine⟨rr b,hw.rel b hb0 PE (by omega),q4 b hb0 PE,hb.resolve_left (by omega)⟩
 .cases ts<;>first|rfl|cases e
 .cases NT:ts with
  |done=>rfl
  |start=>rw[NT] at e;cases e
  |at_ k =>
   exfalso;obtain⟨b,hb,_,ho⟩:=hw.Ko k NT;obtain⟨g,_,hk⟩:=hw.wk b hb;have:=(hk.leaving (hq b hb)).2;rw[ho] at this;cases this
end
open Go.RowKit Go.Conc.Lib Go.ConcR.Gen Go.ConcN.Gen
open Go.ConcR (KK wgBlock WgAt stA smA rd wr mk Payload Aside2 DC0)
variable {L:WgLink}
def addNeg {P:Program}(H:WgLib P L){Wg:Nat}{b₀:Frame}{a₀:Act}{ops₀:Array Oper}{i₀:Nat}{rest₀:List Nat}{k₀:List Item}{cs:List Frame}{qt:Nat}
  (hT:QuitsD P qt 0 (G (b₀.at (a₀.put ((ops₀[i₀]?).bind (·.dst)) (.tuple #[])) (.inRegion ops₀ rest₀::k₀)) cs)) (w:World) (hK:WgLive L.tWg Wg w) :
  GW P L.tWg Wg false (R0 P L.tWg Wg) 150 (G ((base L.add).at ⟨#[.pointer (some ⟨Wg,0,none⟩),.int .i64 (-1),undef,undef,undef,undef,undef,undef,undef,undef,undef,undef,undef,undef,undef,undef,undef,undef,undef,undef,undef,undef,undef,undef,undef,undef,undef,undef,undef,undef,undef,undef,undef,undef,undef,undef,undef,undef,undef,undef,undef,undef,undef,undef,undef,undef,undef,undef,undef,undef,undef,undef,undef,undef,undef,undef,undef,undef,undef,undef,undef,undef,undef,undef,undef,undef,undef,undef,undef,undef,undef,undef,undef,undef,undef,undef,undef,undef,undef,undef,undef,undef,undef,undef,undef,undef,undef,undef,undef,undef,undef,undef,undef,undef,undef,undef,undef,undef,undef,undef,undef,undef,undef,undef,undef,undef,undef,undef,undef,undef,undef,undef,undef,undef,undef,undef,undef],[]⟩ [.code (body_add L)]) (b₀.at a₀ (.inRegion ops₀ (i₀::rest₀)::k₀)::cs)) w:=by
 lib_facts
 simp only[body_add,addFn,Option.getD_some]
 u_c stepG_seq rl hK
 u_cond true rl hK
 u_c stepG_seq rl hK
 u_c stepG_seq rl hK
 u_reg rl hK
 u_op rl hK
 u_op rl hK
 u_c stepG_region_end rl hK
 u_cond true rl hK
 u_reg rl hK
 u_op rl hK
 u_conv H.underlying_tWgP H.room_tWg (WgLive.cell0 hK).choose_spec rl hK
 refine Goes.stop (λw₁ h₁=>?_);replace hK:=rl hK h₁;clear h₁;refine⟨rfl,_,stepG_markAt .releaseMerge (by simp) rfl rfl (by k_ne) rfl H.f_relMerge (x_relMerge_n L) (x_relMerge_b L) (x_relMerge_x L) (x_relMerge_f L) (by simp[Act.eval,stA]),150,?_⟩
 walk_nrm
 u_c stepG_region_end rl hK
 u_c stepG_seq rl hK
 u_reg rl hK
 refine Goes.stop (λw₁ h₁=>?_);replace hK:=rl hK h₁;clear h₁;refine⟨rfl,_,stepG_mark0 .disable (by simp) rfl rfl (by k_ne) rfl H.f_disable (x_disable_n L) (x_disable_b L) (x_disable_x L) (x_disable_f L),150,?_⟩
 walk_nrm
 u_c stepG_region_end rl hK
 u_reg rl hK
 u_defer rl hK
 u_c stepG_region_end rl hK
 u_c stepG_seq rl hK
 u_reg rl hK
 u_op rl hK
 u_c stepG_region_end rl hK
 u_c stepG_seq rl hK
 u_c stepG_seq rl hK
 u_reg rl hK
 u_bub rl hK
 u_c stepG_region_end rl hK
 u_cond false rl hK
 u_c stepG_skip rl hK
 u_c stepG_seq rl hK
 u_reg rl hK
 u_op rl hK
 u_op rl hK
 u_op rl hK
 u_op rl hK
 u_op rl hK
 u_op rl hK
 u_call H.f_uAdd (nm_uAdd L) uAddFn rl hK
 u_c stepG_seq rl hK
 u_reg rl hK
 u_op rl hK
 u_c stepG_region_end rl hK
 u_c stepG_seq rl hK
 u_reg rl hK
 u_op rl hK
 u_op rl hK
 u_op rl hK
 u_op rl hK
 refine Goes.stop (λw₁ h₁=>?_);clear h₁ hK;refine⟨rfl,λv wt hwt hv hw=>?_⟩;have e0:IntKind.u64.wrap (KK+18446744069414584320)=0:=by decide
 have e1:IntKind.u64.wrap (KK+1+18446744069414584320)=1:=by decide
 rcases yg v with rfl|hvp<;>(obtain rfl|rfl:wt=0\/wt=1:=by omega)
 .replace hw:WgAt L.tWg Wg w₁ KK 0:=by simpa using hw
  have z:((0:Nat):Int)*KK+((0:Nat):Int)=0:=by simp
  rw[z];refine⟨_,(stepG_add_atomic rfl rfl (by k_ne) rfl H.f_addU64 (x_addU64_n L) (x_addU64_b L) (x_addU64_x L) .u64 (x_addU64_f L) rfl rfl hw.cellSt (hw.thaw 0)).trans (by rw[e0];rfl),λhl=>absurd hl.2 (by decide),λ_=>⟨qt+89,?_⟩⟩;clear hw
  walk_nrm
  q_val (.int .u64 0)
  q_c stepG_region_end
  q_c stepG_ret'
  q_leave1 H.f_uAdd
  q_val (.int .u64 0)
  q_c stepG_region_end
  q_c stepG_seq
  q_c stepG_seq
  q_reg
  q_val (.int .u64 0)
  q_val (.int .u64 0)
  q_val (.bool false)
  q_val (.bool false)
  q_skip
  q_skip
  q_val (.bool false)
  q_c stepG_region_end
  q_cond false
  q_c stepG_skip
  q_c stepG_seq
  q_reg
  q_val (.int .u64 0)
  q_val (.int .u64 0)
  q_val (.int .i32 0)
  q_val (.int .i32 0)
  q_c stepG_region_end
  q_c stepG_seq
  q_reg
  q_val (.int .u64 0)
  q_val (.int .u64 0)
  q_val (.int .u32 0)
  q_val (.int .u32 0)
  q_c stepG_region_end
  q_c stepG_seq
  q_c stepG_seq
  q_reg
  q_val (.bool true)
  q_val (.int .i64 (-1))
  q_val (.bool false)
  q_val (.bool false)
  q_val (.bool false)
  q_skip
  q_skip
  q_skip
  q_skip
  q_val (.bool false)
  q_c stepG_region_end
  q_cond false
  q_c stepG_skip
  q_c stepG_seq
  q_c stepG_seq
  q_reg
  q_val (.int .i32 0)
  q_val (.bool false)
  q_c stepG_region_end
  q_cond false
  q_c stepG_skip
  q_c stepG_seq
  q_c stepG_seq
  q_reg
  q_val (.int .u32 0)
  q_val (.bool false)
  q_val (.bool false)
  q_skip
  q_skip
  q_val (.bool false)
  q_val (.bool false)
  q_skip
  q_skip
  q_skip
  q_skip
  q_val (.bool false)
  q_c stepG_region_end
  q_cond false
  q_c stepG_skip
  q_c stepG_seq
  q_c stepG_seq
  q_reg
  q_val (.int .i32 0)
  q_val (.bool false)
  q_val (.bool false)
  q_val (.int .u32 0)
  q_val (.bool true)
  q_val (.bool true)
  q_c stepG_region_end
  q_cond true
  q_c stepG_ret'
  q_enable
  q_leave0 H.f_add
  exact hT
 .replace hw:WgAt L.tWg Wg w₁ (KK+1) 0:=by simpa using hw
  have z:((0:Nat):Int)*KK+((1:Nat):Int)=1:=by simp
  rw[z];refine⟨_,(stepG_add_atomic rfl rfl (by k_ne) rfl H.f_addU64 (x_addU64_n L) (x_addU64_b L) (x_addU64_x L) .u64 (x_addU64_f L) rfl rfl hw.cellSt (hw.thaw 0)).trans (by rw[e1];rfl),λ_=>⟨150,?_⟩,λhl=>absurd ⟨rfl,rfl⟩ hl⟩;have hF:WgLive L.tWg Wg (w₁.setCell (stA Wg) (.int .u64 1)):=⟨_,_,hw.setSt 1⟩;clear hw
  walk_nrm
  u_op rl hF
  u_c stepG_region_end rl hF
  u_c stepG_ret' rl hF
  u_leave1 H.f_uAdd rl hF
  u_op rl hF
  u_c stepG_region_end rl hF
  u_c stepG_seq rl hF
  u_c stepG_seq rl hF
  u_reg rl hF
  u_op rl hF
  u_op rl hF
  u_op rl hF
  u_op rl hF
  u_skip rl hF
  u_skip rl hF
  u_op rl hF
  u_c stepG_region_end rl hF
  u_cond false rl hF
  u_c stepG_skip rl hF
  u_c stepG_seq rl hF
  u_reg rl hF
  u_op rl hF
  u_op rl hF
  u_op rl hF
  u_op rl hF
  u_c stepG_region_end rl hF
  u_c stepG_seq rl hF
  u_reg rl hF
  u_op rl hF
  u_op rl hF
  u_op rl hF
  u_op rl hF
  u_c stepG_region_end rl hF
  u_c stepG_seq rl hF
  u_c stepG_seq rl hF
  u_reg rl hF
  u_op rl hF
  u_op rl hF
  u_op rl hF
  u_op rl hF
  u_op rl hF
  u_skip rl hF
  u_skip rl hF
  u_skip rl hF
  u_skip rl hF
  u_op rl hF
  u_c stepG_region_end rl hF
  u_cond false rl hF
  u_c stepG_skip rl hF
  u_c stepG_seq rl hF
  u_c stepG_seq rl hF
  u_reg rl hF
  u_op rl hF
  u_op rl hF
  u_c stepG_region_end rl hF
  u_cond false rl hF
  u_c stepG_skip rl hF
  u_c stepG_seq rl hF
  u_c stepG_seq rl hF
  u_reg rl hF
  u_op rl hF
  u_op rl hF
  u_op rl hF
  u_op rl hF
  u_op rl hF
  u_op rl hF
  u_op rl hF
  u_skip rl hF
  u_skip rl hF
  u_skip rl hF
  u_skip rl hF
  u_op rl hF
  u_c stepG_region_end rl hF
  u_cond false rl hF
  u_c stepG_skip rl hF
  u_c stepG_seq rl hF
  u_c stepG_seq rl hF
  u_reg rl hF
  u_op rl hF
  u_op rl hF
  u_op rl hF
  u_op rl hF
  u_op rl hF
  u_op rl hF
  u_c stepG_region_end rl hF
  u_cond false rl hF
  u_c stepG_skip rl hF
  u_c stepG_seq rl hF
  u_c stepG_seq rl hF
  u_reg rl hF
  u_op rl hF
  u_op rl hF
  u_op rl hF
  u_call H.f_uLoad (nm_uLoad L) uLoadFn rl hF
  u_c stepG_seq rl hF
  u_reg rl hF
  u_op rl hF
  u_c stepG_region_end rl hF
  u_c stepG_seq rl hF
  u_reg rl hF
  u_op rl hF
  u_op rl hF
  u_op rl hF
  refine Goes.stop (λw₂ h₁=>?_);clear h₁ hF;refine⟨rfl,λhw=>⟨_,stepG_load_atomic rfl rfl (by k_ne) rfl H.f_loadU64 (x_loadU64_n L) (x_loadU64_b L) (x_loadU64_x L) .u64 (x_loadU64_f L) rfl hw.cellSt,150,?_⟩⟩;have hF:WgLive L.tWg Wg w₂:=⟨_,_,hw⟩;clear hw
  walk_nrm
  u_op rl hF
  u_c stepG_region_end rl hF
  u_c stepG_ret' rl hF
  u_leave1 H.f_uLoad rl hF
  u_op rl hF
  u_op rl hF
  u_c stepG_region_end rl hF
  u_cond false rl hF
  u_c stepG_skip rl hF
  u_c stepG_seq rl hF
  u_reg rl hF
  u_op rl hF
  u_op rl hF
  u_op rl hF
  u_call H.f_uStore (nm_uStore L) uStoreFn rl hF
  u_reg rl hF
  u_op rl hF
  u_op rl hF
  u_op rl hF
  u_op rl hF
  refine Goes.stop (λw₃ h₁=>?_);clear h₁ hF;refine⟨rfl,λhw=>⟨_,stepG_store_atomic rfl rfl (by k_ne) rfl H.f_storeU64 (x_storeU64_n L) (x_storeU64_b L) (x_storeU64_x L) (x_storeU64_f L) rfl rfl hw.cellSt (hw.thaw 0),150,?_⟩⟩;have hF:WgLive L.tWg Wg (w₃.setCell (stA Wg) (.int .u64 0)):=⟨_,_,hw.setSt 0⟩;clear hw
  walk_nrm
  u_c stepG_region_end rl hF
  u_c stepG_end rl hF
  u_leave0 H.f_uStore rl hF
  u_c stepG_region_end rl hF
  u_c stepG_seq rl hF
  u_c stepG_seq rl hF
  u_reg rl hF
  u_op rl hF
  u_c stepG_region_end rl hF
  u_cond false rl hF
  u_c stepG_skip rl hF
  u_c stepG_block rl hF
  u_c stepG_loop rl hF
  u_c stepG_seq rl hF
  u_c stepG_seq rl hF
  u_reg rl hF
  u_op rl hF
  u_op rl hF
  u_c stepG_region_end rl hF
  u_cond true rl hF
  u_c stepG_skip rl hF
  u_c stepG_seq rl hF
  u_c stepG_block rl hF
  u_reg rl hF
  u_op rl hF
  u_op rl hF
  u_op rl hF
  refine Goes.stop (λw₄ h₁=>?_);clear h₁ hF;refine⟨rfl,mayWake_entry rfl rfl H.f_semrelease (x_semrelease_b L),λhw=>⟨_,(stepG_semrelease rfl rfl (by k_ne) rfl H.f_semrelease (x_semrelease_n L) (x_semrelease_b L) (x_semrelease_x L) (x_semrelease_f L) (by simp[Act.eval,smA]) hw.cellSm (hw.thaw 1)).trans (by rfl),qt+19,?_⟩⟩;clear hw
  walk_nrm
  q_c stepG_region_end
  q_c stepG_inBlock
  q_reg
  q_val (.int .u32 1)
  q_val (.int .u32 0)
  q_val (.int .u32 0)
  q_c stepG_region_end
  q_c stepG_inLoop
  q_c stepG_seq
  q_c stepG_seq
  q_reg
  q_val (.int .u32 0)
  q_val (.bool false)
  q_c stepG_region_end
  q_cond false
  q_exit
  q_c stepG_end
  q_enable
  q_leave0 H.f_add
  exact hT
 .replace hw:WgAt L.tWg Wg w₁ (((v:Nat)+1)*KK+0) 0:=by simpa using hw
  have z:((v:Nat):Int)*KK+((0:Nat):Int)=(v:Int)*KK+0:=by simp
  rw[z];have hv0:0<v:=by omega
  have eS:IntKind.u64.wrap (((v:Nat)+1)*KK+0+18446744069414584320)=(v:Int)*KK+0:=by rw[IntKind.wrap_u64];simp only[KK];omega
  obtain⟨S,hS⟩:∃S:Int,S=(v:Int)*KK+0:=⟨_,rfl⟩;rw[<-hS] at eS ⊢;have a1:S / 4294967296=(v:Int):=by rw[hS];simp only[KK];omega
  have a2:0<=S/\S<9223372036854775808:=by rw[hS];simp only[KK];omega
  have b1:bits .and .u64 S 2147483648=0:=by rw[hS];have:=st_flag v 0 (by omega) (by omega);simpa [KK] using this
  have b2:bits .and .u64 S 2147483647=0:=by rw[hS];have:=st_waiters v 0 (by omega) (by omega);simpa [KK] using this
  clear hS z;refine⟨_,(stepG_add_atomic rfl rfl (by k_ne) rfl H.f_addU64 (x_addU64_n L) (x_addU64_b L) (x_addU64_x L) .u64 (x_addU64_f L) rfl rfl hw.cellSt (hw.thaw 0)).trans (by rw[eS];rfl),λhl=>absurd hl.1 (by omega),λ_=>⟨qt+89,?_⟩⟩;clear hw
  walk_nrm
  q_vn (.int .u64 S)
  q_c stepG_region_end
  q_c stepG_ret'
  q_leave1 H.f_uAdd
  q_vn (.int .u64 S)
  q_c stepG_region_end
  q_c stepG_seq
  q_c stepG_seq
  q_reg
  q_vn (.int .u64 S)
  q_vn (.int .u64 0)
  q_vn (.bool false)
  q_vn (.bool false)
  q_skip
  q_skip
  q_vn (.bool false)
  q_c stepG_region_end
  q_cond false
  q_c stepG_skip
  q_c stepG_seq
  q_reg
  q_vn (.int .u64 S)
  q_vn (.int .u64 (v:Int))
  q_vn (.int .i32 (v:Int))
  q_vn (.int .i32 (v:Int))
  q_c stepG_region_end
  q_c stepG_seq
  q_reg
  q_vn (.int .u64 S)
  q_vn (.int .u64 0)
  q_vn (.int .u32 0)
  q_vn (.int .u32 0)
  q_c stepG_region_end
  q_c stepG_seq
  q_c stepG_seq
  q_reg
  q_vn (.bool true)
  q_vn (.int .i64 (-1))
  q_vn (.bool false)
  q_vn (.bool false)
  q_vn (.bool false)
  q_skip
  q_skip
  q_skip
  q_skip
  q_vn (.bool false)
  q_c stepG_region_end
  q_cond false
  q_c stepG_skip
  q_c stepG_seq
  q_c stepG_seq
  q_reg
  q_vn (.int .i32 (v:Int))
  q_vn (.bool false)
  q_c stepG_region_end
  q_cond false
  q_c stepG_skip
  q_c stepG_seq
  q_c stepG_seq
  q_reg
  q_vn (.int .u32 0)
  q_vn (.bool false)
  q_vn (.bool false)
  q_skip
  q_skip
  q_vn (.bool false)
  q_vn (.bool false)
  q_skip
  q_skip
  q_skip
  q_skip
  q_vn (.bool false)
  q_c stepG_region_end
  q_cond false
  q_c stepG_skip
  q_c stepG_seq
  q_c stepG_seq
  q_reg
  q_vn (.int .i32 (v:Int))
  q_vn (.bool true)
  q_vn (.bool true)
  q_skip
  q_skip
  q_vn (.bool true)
  q_c stepG_region_end
  q_cond true
  q_c stepG_ret'
  q_enable
  q_leave0 H.f_add
  exact hT
 .replace hw:WgAt L.tWg Wg w₁ (((v:Nat)+1)*KK+1) 0:=by simpa using hw
  have z:((v:Nat):Int)*KK+((1:Nat):Int)=(v:Int)*KK+1:=by simp
  rw[z];have hv0:0<v:=by omega
  have eS:IntKind.u64.wrap (((v:Nat)+1)*KK+1+18446744069414584320)=(v:Int)*KK+1:=by rw[IntKind.wrap_u64];simp only[KK];omega
  obtain⟨S,hS⟩:∃S:Int,S=(v:Int)*KK+1:=⟨_,rfl⟩;rw[<-hS] at eS ⊢;have a1:S / 4294967296=(v:Int):=by rw[hS];simp only[KK];omega
  have a2:0<=S/\S<9223372036854775808:=by rw[hS];simp only[KK];omega
  have b1:bits .and .u64 S 2147483648=0:=by rw[hS];have:=st_flag v 1 (by omega) (by omega);simpa [KK] using this
  have b2:bits .and .u64 S 2147483647=1:=by rw[hS];have:=st_waiters v 1 (by omega) (by omega);simpa [KK] using this
  clear hS z;refine⟨_,(stepG_add_atomic rfl rfl (by k_ne) rfl H.f_addU64 (x_addU64_n L) (x_addU64_b L) (x_addU64_x L) .u64 (x_addU64_f L) rfl rfl hw.cellSt (hw.thaw 0)).trans (by rw[eS];rfl),λhl=>absurd hl.1 (by omega),λ_=>⟨qt+89,?_⟩⟩;clear hw
  walk_nrm
  q_vn (.int .u64 S)
  q_c stepG_region_end
  q_c stepG_ret'
  q_leave1 H.f_uAdd
  q_vn (.int .u64 S)
  q_c stepG_region_end
  q_c stepG_seq
  q_c stepG_seq
  q_reg
  q_vn (.int .u64 S)
  q_vn (.int .u64 0)
  q_vn (.bool false)
  q_vn (.bool false)
  q_skip
  q_skip
  q_vn (.bool false)
  q_c stepG_region_end
  q_cond false
  q_c stepG_skip
  q_c stepG_seq
  q_reg
  q_vn (.int .u64 S)
  q_vn (.int .u64 (v:Int))
  q_vn (.int .i32 (v:Int))
  q_vn (.int .i32 (v:Int))
  q_c stepG_region_end
  q_c stepG_seq
  q_reg
  q_vn (.int .u64 S)
  q_vn (.int .u64 1)
  q_vn (.int .u32 1)
  q_vn (.int .u32 1)
  q_c stepG_region_end
  q_c stepG_seq
  q_c stepG_seq
  q_reg
  q_vn (.bool true)
  q_vn (.int .i64 (-1))
  q_vn (.bool false)
  q_vn (.bool false)
  q_vn (.bool false)
  q_skip
  q_skip
  q_skip
  q_skip
  q_vn (.bool false)
  q_c stepG_region_end
  q_cond false
  q_c stepG_skip
  q_c stepG_seq
  q_c stepG_seq
  q_reg
  q_vn (.int .i32 (v:Int))
  q_vn (.bool false)
  q_c stepG_region_end
  q_cond false
  q_c stepG_skip
  q_c stepG_seq
  q_c stepG_seq
  q_reg
  q_vn (.int .u32 1)
  q_vn (.bool true)
  q_vn (.bool true)
  q_vn (.int .i64 (-1))
  q_vn (.bool false)
  q_vn (.bool false)
  q_vn (.bool false)
  q_skip
  q_skip
  q_skip
  q_skip
  q_vn (.bool false)
  q_c stepG_region_end
  q_cond false
  q_c stepG_skip
  q_c stepG_seq
  q_c stepG_seq
  q_reg
  q_vn (.int .i32 (v:Int))
  q_vn (.bool true)
  q_vn (.bool true)
  q_skip
  q_skip
  q_vn (.bool true)
  q_c stepG_region_end
  q_cond true
  q_c stepG_ret'
  q_enable
  q_leave0 H.f_add
  exact hT
def done {P:Program}(H:WgLib P L){Wg:Nat}{c:Frame}{cs:List Frame}{qt:Nat}(hcm:c.mode=.returning)(hT:QuitsD P qt 0 (G c cs))(w:World)(hK:WgLive L.tWg Wg w) :
  GW P L.tWg Wg false (R0 P L.tWg Wg) 153 (G ((baseD L.done).at ⟨#[.pointer (some ⟨Wg,0,none⟩),undef,undef,undef],[]⟩ [.code (body_done L)]) (c::cs)) w:=by
 lib_facts
 have hA:=@addNeg L P H Wg;simp only[body_done,body_add,doneFn,addFn,Option.getD_some] at hA ⊢
 u_reg rl hK
 u_op rl hK
 u_in rl hK
 refine goes_call rfl rfl (by k_ne) rfl H.f_add (nm_add L) rfl ⟨by u_nil,?_⟩
 walk_nrmf addFn
 refine hA (qt:=qt+3) ?_ _ hK
 q_c stepG_region_end
 q_c stepG_end
 exact QuitsD.leaveD rfl rfl H.f_done rfl hcm hT
open Go.ConcR (KK wgBlock WgAt stA smA rd wr mk Payload Aside2 DC0)
variable {L:WgLink}
def addPos {P:Program}(H:WgLib P L){Wg:Nat}{b₀:Frame}{a₀:Act}{ops₀:Array Oper}{i₀:Nat}{rest₀:List Nat}{k₀:List Item}{cs:List Frame}(w:World)(hF:WgLive L.tWg Wg w) :
  GW P L.tWg Wg true (AKd P L.tWg Wg (λg _=>g=G (b₀.at (a₀.put ((ops₀[i₀]?).bind (·.dst)) (.tuple #[])) (.inRegion ops₀ rest₀::k₀)) cs)) 150 (G ((base L.add).at ⟨#[.pointer (some ⟨Wg,0,none⟩),.int .i64 1,undef,undef,undef,undef,undef,undef,undef,undef,undef,undef,undef,undef,undef,undef,undef,undef,undef,undef,undef,undef,undef,undef,undef,undef,undef,undef,undef,undef,undef,undef,undef,undef,undef,undef,undef,undef,undef,undef,undef,undef,undef,undef,undef,undef,undef,undef,undef,undef,undef,undef,undef,undef,undef,undef,undef,undef,undef,undef,undef,undef,undef,undef,undef,undef,undef,undef,undef,undef,undef,undef,undef,undef,undef,undef,undef,undef,undef,undef,undef,undef,undef,undef,undef,undef,undef,undef,undef,undef,undef,undef,undef,undef,undef,undef,undef,undef,undef,undef,undef,undef,undef,undef,undef,undef,undef,undef,undef,undef,undef,undef,undef,undef,undef,undef,undef],[]⟩ [.code (body_add L)]) (b₀.at a₀ (.inRegion ops₀ (i₀::rest₀)::k₀)::cs)) w:=by
 lib_facts
 simp only[body_add,addFn,Option.getD_some]
 u_c stepG_seq rl hF
 u_cond true rl hF
 u_c stepG_seq rl hF
 u_c stepG_seq rl hF
 u_reg rl hF
 u_op rl hF
 u_op rl hF
 u_c stepG_region_end rl hF
 u_cond false rl hF
 u_c stepG_skip rl hF
 u_c stepG_seq rl hF
 u_reg rl hF
 refine Goes.stop (λw₁ h₁=>?_);replace hF:=rl hF h₁;clear h₁;refine⟨rfl,_,stepG_mark0 .disable (by simp) rfl rfl (by k_ne) rfl H.f_disable (x_disable_n L) (x_disable_b L) (x_disable_x L) (x_disable_f L),150,?_⟩
 walk_nrm
 u_c stepG_region_end rl hF
 u_reg rl hF
 u_defer rl hF
 u_c stepG_region_end rl hF
 u_c stepG_seq rl hF
 u_reg rl hF
 u_op rl hF
 u_c stepG_region_end rl hF
 u_c stepG_seq rl hF
 u_c stepG_seq rl hF
 u_reg rl hF
 u_bub rl hF
 u_c stepG_region_end rl hF
 u_cond false rl hF
 u_c stepG_skip rl hF
 u_c stepG_seq rl hF
 u_reg rl hF
 u_op rl hF
 u_op rl hF
 u_op rl hF
 u_op rl hF
 u_op rl hF
 u_op rl hF
 u_call H.f_uAdd (nm_uAdd L) uAddFn rl hF
 u_c stepG_seq rl hF
 u_reg rl hF
 u_op rl hF
 u_c stepG_region_end rl hF
 u_c stepG_seq rl hF
 u_reg rl hF
 u_op rl hF
 u_op rl hF
 u_op rl hF
 u_op rl hF
 refine Goes.stop (λw₂ h₁=>?_);replace hF:=rl hF h₁;clear h₁;refine⟨rfl,λv hv hw=>?_⟩;rcases yg v with rfl|hvp
 .replace hw:WgAt L.tWg Wg w₂ 0 0:=by simpa using hw
  have z:(((0:Nat):Int)+1)*KK=KK:=by simp
  rw[z];have e0:IntKind.u64.wrap (0+4294967296)=KK:=by decide
  refine⟨_,(stepG_add_atomic rfl rfl (by k_ne) rfl H.f_addU64 (x_addU64_n L) (x_addU64_b L) (x_addU64_x L) .u64 (x_addU64_f L) rfl rfl hw.cellSt (hw.thaw 0)).trans (by rw[e0];rfl),λ_=>⟨150,?_⟩,λh=>absurd rfl h⟩;replace hF:WgLive L.tWg Wg (w₂.setCell (stA Wg) (.int .u64 KK)):=⟨_,_,hw.setSt _⟩;clear hw;simp only[KK] at hF ⊢
  walk_nrm
  u_op rl hF
  u_c stepG_region_end rl hF
  u_c stepG_ret' rl hF
  u_leave1 H.f_uAdd rl hF
  u_op rl hF
  u_c stepG_region_end rl hF
  u_c stepG_seq rl hF
  u_c stepG_seq rl hF
  u_reg rl hF
  u_op rl hF
  u_op rl hF
  u_op rl hF
  u_op rl hF
  u_skip rl hF
  u_skip rl hF
  u_op rl hF
  u_c stepG_region_end rl hF
  u_cond false rl hF
  u_c stepG_skip rl hF
  u_c stepG_seq rl hF
  u_reg rl hF
  u_op rl hF
  u_op rl hF
  u_op rl hF
  u_op rl hF
  u_c stepG_region_end rl hF
  u_c stepG_seq rl hF
  u_reg rl hF
  u_op rl hF
  u_op rl hF
  u_op rl hF
  u_op rl hF
  u_c stepG_region_end rl hF
  u_c stepG_seq rl hF
  u_c stepG_seq rl hF
  u_reg rl hF
  u_op rl hF
  u_op rl hF
  u_op rl hF
  u_op rl hF
  u_op rl hF
  u_op rl hF
  u_op rl hF
  u_op rl hF
  u_op rl hF
  u_op rl hF
  u_c stepG_region_end rl hF
  u_cond true rl hF
  u_reg rl hF
  u_op rl hF
  u_op rl hF
  u_op rl hF
  u_conv H.underlying_tPU32 H.room_tU32 (WgLive.cell1 hF).choose_spec rl hF
  refine Goes.stop (λw₃ h₁=>?_);replace hF:=rl hF h₁;clear h₁;refine⟨rfl,_,stepG_markAt .read (by simp) rfl rfl (by k_ne) rfl H.f_raceRead (x_raceRead_n L) (x_raceRead_b L) (x_raceRead_x L) (x_raceRead_f L) (ad:=⟨Wg,1,none⟩) (by simp[Act.eval]),150,?_⟩
  walk_nrm
  u_c stepG_region_end rl hF
  u_c stepG_seq rl hF
  u_c stepG_seq rl hF
  u_reg rl hF
  u_op rl hF
  u_op rl hF
  u_c stepG_region_end rl hF
  u_cond false rl hF
  u_c stepG_skip rl hF
  u_c stepG_seq rl hF
  u_c stepG_seq rl hF
  u_reg rl hF
  u_op rl hF
  u_op rl hF
  u_op rl hF
  u_skip rl hF
  u_skip rl hF
  u_op rl hF
  u_op rl hF
  u_skip rl hF
  u_skip rl hF
  u_skip rl hF
  u_skip rl hF
  u_op rl hF
  u_c stepG_region_end rl hF
  u_cond false rl hF
  u_c stepG_skip rl hF
  u_c stepG_seq rl hF
  u_c stepG_seq rl hF
  u_reg rl hF
  u_op rl hF
  u_op rl hF
  u_op rl hF
  u_skip rl hF
  u_skip rl hF
  u_op rl hF
  u_c stepG_region_end rl hF
  u_cond true rl hF
  u_c stepG_ret' rl hF
  refine Goes.stop (λw₄ h₁=>?_);replace hF:=rl hF h₁;clear h₁;refine⟨rfl,_,stepG_unwind_entry (v:=.tuple #[]) (evs:=#[mk .enable]) rfl H.f_enable (x_enable_n L) (x_enable_b L) (x_enable_x L) (x_enable_f L) (by simp[Extern.Race.none_]) (by simp[mk]) (by simp[mk]),150,?_⟩
  u_leave0 H.f_add rl hF
  exact Goes.stop λ_ _=>rfl
 .obtain⟨V,hV⟩:∃V:Int,V=(v:Int)+1:=⟨_,rfl⟩;obtain⟨S,hS⟩:∃S:Int,S=V*KK:=⟨_,rfl⟩;have eS:IntKind.u64.wrap ((v:Int)*KK+4294967296)=S:=by rw[IntKind.wrap_u64,hS,hV];simp only[KK];omega
  rw[<-hV,<-hS];have a1:S / 4294967296=V:=by rw[hS];simp only[KK];omega
  have b1:bits .and .u64 S 2147483648=0:=by rw[hS,hV];have:=st_flag (v+1) 0 (by omega) (by omega);simpa [KK] using this
  have b2:bits .and .u64 S 2147483647=0:=by rw[hS,hV];have:=st_waiters (v+1) 0 (by omega) (by omega);simpa [KK] using this
  have c1:IntKind.i32.wrap V=V:=by rw[IntKind.wrap_i32];omega
  have hV1:1<V:=by omega
  have hV2:V<2147483648:=by omega
  have q1:(V==1)=false:=by simp;omega
  have q2:decide (V=1)=false:=decide_eq_false (by omega);have q3:decide (V<0)=false:=decide_eq_false (by omega);have q4:decide (0<V)=true:=decide_eq_true (by omega);have q5:(V==0)=false:=by simp;omega
  have q6:decide (V=0)=false:=decide_eq_false (by omega);refine⟨_,(stepG_add_atomic rfl rfl (by k_ne) rfl H.f_addU64 (x_addU64_n L) (x_addU64_b L) (x_addU64_x L) .u64 (x_addU64_f L) rfl rfl hw.cellSt (hw.thaw 0)).trans (by rw[eS];rfl),λh=>absurd h (by omega),λ_=>⟨150,?_⟩⟩;replace hF:WgLive L.tWg Wg (w₂.setCell (stA Wg) (.int .u64 S)):=⟨_,_,hw.setSt _⟩;clear hw hS hV eS
  walk_nrm
  u_op rl hF
  u_c stepG_region_end rl hF
  u_c stepG_ret' rl hF
  u_leave1 H.f_uAdd rl hF
  u_op rl hF
  u_c stepG_region_end rl hF
  u_c stepG_seq rl hF
  u_c stepG_seq rl hF
  u_reg rl hF
  u_op rl hF
  u_op rl hF
  u_op rl hF
  u_op rl hF
  u_skip rl hF
  u_skip rl hF
  u_op rl hF
  u_c stepG_region_end rl hF
  u_cnd false rl hF
  u_c stepG_skip rl hF
  u_c stepG_seq rl hF
  u_reg rl hF
  u_op rl hF
  u_op rl hF
  u_op rl hF
  u_op rl hF
  u_c stepG_region_end rl hF
  u_c stepG_seq rl hF
  u_reg rl hF
  u_op rl hF
  u_op rl hF
  u_op rl hF
  u_op rl hF
  u_c stepG_region_end rl hF
  u_c stepG_seq rl hF
  u_c stepG_seq rl hF
  u_reg rl hF
  u_op rl hF
  u_op rl hF
  u_op rl hF
  u_op rl hF
  u_op rl hF
  u_op rl hF
  u_op rl hF
  u_op rl hF
  u_op rl hF
  u_op rl hF
  u_c stepG_region_end rl hF
  u_cnd false rl hF
  u_c stepG_skip rl hF
  u_c stepG_seq rl hF
  u_c stepG_seq rl hF
  u_reg rl hF
  u_op rl hF
  u_op rl hF
  u_c stepG_region_end rl hF
  u_cnd false rl hF
  u_c stepG_skip rl hF
  u_c stepG_seq rl hF
  u_c stepG_seq rl hF
  u_reg rl hF
  u_op rl hF
  u_op rl hF
  u_op rl hF
  u_skip rl hF
  u_skip rl hF
  u_op rl hF
  u_op rl hF
  u_skip rl hF
  u_skip rl hF
  u_skip rl hF
  u_skip rl hF
  u_op rl hF
  u_c stepG_region_end rl hF
  u_cnd false rl hF
  u_c stepG_skip rl hF
  u_c stepG_seq rl hF
  u_c stepG_seq rl hF
  u_reg rl hF
  u_op rl hF
  u_op rl hF
  u_op rl hF
  u_skip rl hF
  u_skip rl hF
  u_op rl hF
  u_c stepG_region_end rl hF
  u_cnd true rl hF
  u_c stepG_ret' rl hF
  refine Goes.stop (λw₄ h₁=>?_);replace hF:=rl hF h₁;clear h₁;refine⟨rfl,_,stepG_unwind_entry (v:=.tuple #[]) (evs:=#[mk .enable]) rfl H.f_enable (x_enable_n L) (x_enable_b L) (x_enable_x L) (x_enable_f L) (by simp[Extern.Race.none_]) (by simp[mk]) (by simp[mk]),150,?_⟩
  u_leave0 H.f_add rl hF
  exact Goes.stop λ_ _=>rfl
open Go.ConcR (KK wgBlock WgAt stA smA rd wr mk Payload Aside2 DC0)
variable {L:WgLink}
def waitStart {P:Program}(H:WgLib P L){Wg:Nat}{b₀:Frame}{a₀:Act}{ops₀:Array Oper}{i₀:Nat}{rest₀:List Nat}{k₀:List Item}{cs:List Frame}(w:World)(hF:WgLive L.tWg Wg w) :
  GW P L.tWg Wg true (WKd P L.tWg Wg (AnchWN L (λ_=>True) Wg (b₀.at a₀ (.inRegion ops₀ (i₀::rest₀)::k₀)) cs)) 150 (G ((base L.wait).at ⟨#[.pointer (some ⟨Wg,0,none⟩),undef,undef,undef,undef,undef,undef,undef,undef,undef,undef,undef,undef,undef,undef,undef,undef,undef,undef,undef,undef,undef,undef,undef,undef,undef,undef,undef,undef,undef,undef,undef,undef,undef,undef,undef,undef,undef,undef,undef,undef,undef,undef,undef,undef,undef,undef,undef,undef,undef,undef,undef,undef,undef,undef,undef,undef,undef,undef,undef,undef,undef,undef,undef,undef,undef,undef,undef,undef,undef,undef,undef,undef,undef,undef,undef,undef,undef,undef,undef,undef,undef,undef,undef],[]⟩ [.code (body_wait L)]) (b₀.at a₀ (.inRegion ops₀ (i₀::rest₀)::k₀)::cs)) w:=by
 lib_facts
 simp only[body_wait,waitFn,Option.getD_some]
 u_c stepG_seq rl hF
 u_cond true rl hF
 u_reg rl hF
 refine Goes.stop (λw₁ h₁=>?_);replace hF:=rl hF h₁;clear h₁;refine⟨rfl,_,stepG_mark0 .disable (by simp) rfl rfl (by k_ne) rfl H.f_disable (x_disable_n L) (x_disable_b L) (x_disable_x L) (x_disable_f L),150,?_⟩
 walk_nrm
 u_c stepG_region_end rl hF
 u_c stepG_block rl hF
 u_c stepG_loop rl hF
 refine Goes.stop (λw₃ h₃=>?_);replace hF:=rl hF h₃;exact⟨_,rfl,by simp,by simp,trivial,hF⟩
def waitRound {P:Program}(H:WgLib P L){Wg:Nat}{b₀:Frame}{a₀:Act}{ops₀:Array Oper}{i₀:Nat}{rest₀:List Nat}{k₀:List Item}{cs:List Frame}(g:Goroutine)(w:World)(h:AnchWN L (λ_=>True) Wg (b₀.at a₀ (.inRegion ops₀ (i₀::rest₀)::k₀)) cs g w) :
  GW P L.tWg Wg true (W1 P L.tWg Wg (AnchWN L (λ_=>True) Wg (b₀.at a₀ (.inRegion ops₀ (i₀::rest₀)::k₀)) cs) (λg _=>g=G (b₀.at (a₀.put ((ops₀[i₀]?).bind (·.dst)) (.tuple #[])) (.inRegion ops₀ rest₀::k₀)) cs)) 150 g w:=by
 lib_facts
 obtain⟨T,rfl,hT84,t0,_,hF⟩:=h;obtain⟨v0,v1,v2,v3,v4,v5,v6,v7,v8,v9,v10,v11,v12,v13,v14,v15,v16,v17,v18,v19,v20,v21,v22,v23,v24,v25,v26,v27,v28,v29,v30,v31,v32,v33,v34,v35,v36,v37,v38,v39,v40,v41,v42,v43,v44,v45,v46,v47,v48,v49,v50,v51,v52,v53,v54,v55,v56,v57,v58,v59,v60,v61,v62,v63,v64,v65,v66,v67,v68,v69,v70,v71,v72,v73,v74,v75,v76,v77,v78,v79,v80,v81,v82,v83,rfl⟩:=array84 T hT84;simp only[yd,List.getElem?_cons_zero,Option.some.injEq] at t0
 subst t0;simp only[L7,body_wait,waitFn,Option.getD_some]
 u_c stepG_block rl hF
 u_c stepG_seq rl hF
 u_reg rl hF
 u_op rl hF
 u_op rl hF
 u_op rl hF
 u_call H.f_uLoad (nm_uLoad L) uLoadFn rl hF
 u_c stepG_seq rl hF
 u_reg rl hF
 u_op rl hF
 u_c stepG_region_end rl hF
 u_c stepG_seq rl hF
 u_reg rl hF
 u_op rl hF
 u_op rl hF
 u_op rl hF
 refine Goes.stop (λw₁ h₁=>?_);replace hF:=rl hF h₁;clear h₁;refine⟨rfl,λv hv hw=>?_⟩;rcases yg v with rfl|hvp
 .replace hw:WgAt L.tWg Wg w₁ 0 0:=by simpa using hw
  refine⟨_,stepG_load_atomic (v:=0) rfl rfl (by k_ne) rfl H.f_loadU64 (x_loadU64_n L) (x_loadU64_b L) (x_loadU64_x L) .u64 (x_loadU64_f L) rfl hw.cellSt,λ_=>⟨150,?_⟩,λh=>absurd rfl h⟩;clear hw
  walk_nrm
  u_op rl hF
  u_c stepG_region_end rl hF
  u_c stepG_ret' rl hF
  u_leave1 H.f_uLoad rl hF
  u_op rl hF
  u_c stepG_region_end rl hF
  u_c stepG_seq rl hF
  u_reg rl hF
  u_op rl hF
  u_op rl hF
  u_op rl hF
  u_op rl hF
  u_c stepG_region_end rl hF
  u_c stepG_seq rl hF
  u_reg rl hF
  u_op rl hF
  u_op rl hF
  u_op rl hF
  u_op rl hF
  u_c stepG_region_end rl hF
  u_c stepG_seq rl hF
  u_c stepG_seq rl hF
  u_reg rl hF
  u_op rl hF
  u_op rl hF
  u_c stepG_region_end rl hF
  u_cond true rl hF
  u_c stepG_seq rl hF
  u_cond true rl hF
  u_c stepG_seq rl hF
  u_reg rl hF
  refine Goes.stop (λw₅ h₁=>?_);replace hF:=rl hF h₁;clear h₁;refine⟨rfl,_,stepG_mark0 .enable (by simp) rfl rfl (by k_ne) rfl H.f_enable (x_enable_n L) (x_enable_b L) (x_enable_x L) (x_enable_f L),150,?_⟩
  walk_nrm
  u_c stepG_region_end rl hF
  u_reg rl hF
  u_op rl hF
  u_conv H.underlying_tWgP H.room_tWg (WgLive.cell0 hF).choose_spec rl hF
  refine Goes.stop (λw₆ h₁=>?_);replace hF:=rl hF h₁;clear h₁;refine⟨rfl,_,stepG_markAt .acquire (by simp) rfl rfl (by k_ne) rfl H.f_acquire (x_acquire_n L) (x_acquire_b L) (x_acquire_x L) (x_acquire_f L) (by simp[Act.eval,stA]),150,?_⟩
  walk_nrm
  u_c stepG_region_end rl hF
  u_c stepG_seq rl hF
  u_c stepG_seq rl hF
  u_reg rl hF
  u_op rl hF
  u_op rl hF
  u_op rl hF
  u_op rl hF
  u_op rl hF
  u_op rl hF
  u_op rl hF
  u_op rl hF
  u_skip rl hF
  u_skip rl hF
  u_op rl hF
  u_c stepG_region_end rl hF
  u_cond false rl hF
  u_c stepG_skip rl hF
  u_c stepG_ret' rl hF
  u_leave0 H.f_wait rl hF
  exact Goes.stop λ_ _=>rfl
 .obtain⟨S,hS⟩:∃S:Int,(v:Int)*KK=S:=⟨_,rfl⟩;have a1:S / 4294967296=(v:Int):=by rw[<-hS];simp only[KK];omega
  have b1:bits .and .u64 S 2147483648=0:=by rw[<-hS];have:=st_flag v 0 (by omega) (by omega);simpa [KK] using this
  have b2:bits .and .u64 S 2147483647=0:=by rw[<-hS];have:=st_waiters v 0 (by omega) (by omega);simpa [KK] using this
  have c1:IntKind.i32.wrap (v:Int)=(v:Int):=by rw[IntKind.wrap_i32];omega
  have w1:IntKind.u64.wrap (S+1)=S+1:=by rw[IntKind.wrap_u64,<-hS];simp only[KK];omega
  have q3:decide ((v:Int)<0)=false:=decide_eq_false (by omega);have q4:decide (0<(v:Int))=true:=decide_eq_true (by omega);have q5:((v:Int)==0)=false:=by simp;omega
  have q6:decide ((v:Int)=0)=false:=decide_eq_false (by omega);rw[hS] at hw;refine⟨_,stepG_load_atomic (v:=S) rfl rfl (by k_ne) rfl H.f_loadU64 (x_loadU64_n L) (x_loadU64_b L) (x_loadU64_x L) .u64 (x_loadU64_f L) rfl hw.cellSt,λh0=>absurd h0 (by omega),λ_=>⟨150,?_⟩⟩;clear hw
  walk_nrm
  u_op rl hF
  u_c stepG_region_end rl hF
  u_c stepG_ret' rl hF
  u_leave1 H.f_uLoad rl hF
  u_op rl hF
  u_c stepG_region_end rl hF
  u_c stepG_seq rl hF
  u_reg rl hF
  u_op rl hF
  u_op rl hF
  u_op rl hF
  u_op rl hF
  u_c stepG_region_end rl hF
  u_c stepG_seq rl hF
  u_reg rl hF
  u_op rl hF
  u_op rl hF
  u_op rl hF
  u_op rl hF
  u_c stepG_region_end rl hF
  u_c stepG_seq rl hF
  u_c stepG_seq rl hF
  u_reg rl hF
  u_op rl hF
  u_op rl hF
  u_c stepG_region_end rl hF
  u_cnd false rl hF
  u_c stepG_skip rl hF
  u_c stepG_seq rl hF
  u_reg rl hF
  u_op rl hF
  u_op rl hF
  u_op rl hF
  u_op rl hF
  u_op rl hF
  u_op rl hF
  u_call H.f_uCas (nm_uCas L) uCasFn rl hF
  u_c stepG_seq rl hF
  u_reg rl hF
  u_op rl hF
  u_c stepG_region_end rl hF
  u_c stepG_seq rl hF
  u_reg rl hF
  u_op rl hF
  u_op rl hF
  u_op rl hF
  u_op rl hF
  u_op rl hF
  refine Goes.stop (λw₂ h₁=>?_);replace hF:=rl hF h₁;clear h₁;refine⟨rfl,λv' hv' hw=>⟨λe=>?_,λe=>?_⟩⟩
  .subst e;rw[hS] at hw ⊢;refine⟨_,(stepG_cas_hit (v:=S) (n:=S+1) rfl rfl (by k_ne) rfl H.f_casU64 (x_casU64_n L) (x_casU64_b L) (x_casU64_x L) .u64 (x_casU64_f L) rfl rfl rfl hw.cellSt (hw.thaw 0)).trans (by rfl),150,?_⟩;replace hF:WgLive L.tWg Wg (w₂.setCell (stA Wg) (.int .u64 (S+1))):=⟨_,_,hw.setSt _⟩;clear hw
   walk_nrm
   u_op rl hF
   u_c stepG_region_end rl hF
   u_c stepG_ret' rl hF
   u_leave1 H.f_uCas rl hF
   u_c stepG_region_end rl hF
   u_cnd true rl hF
   u_c stepG_seq rl hF
   u_c stepG_seq rl hF
   u_reg rl hF
   u_op rl hF
   u_op rl hF
   u_op rl hF
   u_op rl hF
   u_c stepG_region_end rl hF
   u_cnd true rl hF
   u_reg rl hF
   u_op rl hF
   u_op rl hF
   u_op rl hF
   u_conv H.underlying_tPU32 H.room_tU32 (WgLive.cell1 hF).choose_spec rl hF
   refine Goes.stop (λw₂ h₁=>?_);replace hF:=rl hF h₁;clear h₁;refine⟨rfl,_,stepG_markAt .write (by simp) rfl rfl (by k_ne) rfl H.f_raceWrite (x_raceWrite_n L) (x_raceWrite_b L) (x_raceWrite_x L) (x_raceWrite_f L) (ad:=⟨Wg,1,none⟩) (by simp[Act.eval]),150,?_⟩
   walk_nrm
   u_c stepG_region_end rl hF
   u_c stepG_seq rl hF
   u_reg rl hF
   u_op rl hF
   u_c stepG_region_end rl hF
   u_c stepG_seq rl hF
   u_c stepG_seq rl hF
   u_reg rl hF
   u_op rl hF
   u_op rl hF
   u_op rl hF
   u_op rl hF
   u_skip rl hF
   u_op rl hF
   u_c stepG_region_end rl hF
   u_cnd false rl hF
   u_c stepG_skip rl hF
   u_c stepG_seq rl hF
   u_reg rl hF
   u_op rl hF
   u_op rl hF
   u_op rl hF
   u_op rl hF
   refine Goes.stop (λw₃ h₁=>?_);replace hF:=rl hF h₁;clear h₁;refine⟨rfl,rfl,λ⟨st,hw⟩=>stepG_semacquire_wait rfl rfl rfl H.f_semacquire (x_semacquire_n L) (x_semacquire_b L) (x_semacquire_x L) (x_semacquire_f L) (by simp[Act.eval,smA]) hw.cellSm,λhf=>?_⟩;refine⟨_,(stepG_semacquire (n:=1) rfl rfl (by k_ne) rfl H.f_semacquire (x_semacquire_n L) (x_semacquire_b L) (x_semacquire_x L) (x_semacquire_f L) (by simp[Act.eval,smA]) hf.cellSm (by k_ne) (hf.thaw 1)).trans (by rfl),150,?_⟩
   replace hF:WgLive L.tWg Wg (w₃.setCell (smA Wg) (.int .u32 0)):=⟨_,_,hf.setSm 0⟩;clear hf
   walk_nrm
   u_c stepG_region_end rl hF
   u_c stepG_seq rl hF
   u_reg rl hF
   u_op rl hF
   u_op rl hF
   u_op rl hF
   u_call H.f_uLoad (nm_uLoad L) uLoadFn rl hF
   u_c stepG_seq rl hF
   u_reg rl hF
   u_op rl hF
   u_c stepG_region_end rl hF
   u_c stepG_seq rl hF
   u_reg rl hF
   u_op rl hF
   u_op rl hF
   u_op rl hF
   refine Goes.stop (λw₄ h₁=>?_);replace hF:=rl hF h₁;clear h₁;refine⟨rfl,λhw=>⟨_,stepG_load_atomic (v:=0) rfl rfl (by k_ne) rfl H.f_loadU64 (x_loadU64_n L) (x_loadU64_b L) (x_loadU64_x L) .u64 (x_loadU64_f L) rfl hw.cellSt,150,?_⟩⟩;clear hw
   walk_nrm
   u_op rl hF
   u_c stepG_region_end rl hF
   u_c stepG_ret' rl hF
   u_leave1 H.f_uLoad rl hF
   u_op rl hF
   u_op rl hF
   u_c stepG_region_end rl hF
   u_c stepG_seq rl hF
   u_cond true rl hF
   u_c stepG_seq rl hF
   u_reg rl hF
   refine Goes.stop (λw₅ h₁=>?_);replace hF:=rl hF h₁;clear h₁;refine⟨rfl,_,stepG_mark0 .enable (by simp) rfl rfl (by k_ne) rfl H.f_enable (x_enable_n L) (x_enable_b L) (x_enable_x L) (x_enable_f L),150,?_⟩
   walk_nrm
   u_c stepG_region_end rl hF
   u_reg rl hF
   u_op rl hF
   u_conv H.underlying_tWgP H.room_tWg (WgLive.cell0 hF).choose_spec rl hF
   refine Goes.stop (λw₆ h₁=>?_);replace hF:=rl hF h₁;clear h₁;refine⟨rfl,_,stepG_markAt .acquire (by simp) rfl rfl (by k_ne) rfl H.f_acquire (x_acquire_n L) (x_acquire_b L) (x_acquire_x L) (x_acquire_f L) (by simp[Act.eval,stA]),150,?_⟩
   walk_nrm
   u_c stepG_region_end rl hF
   u_c stepG_seq rl hF
   u_c stepG_seq rl hF
   u_reg rl hF
   u_op rl hF
   u_c stepG_region_end rl hF
   u_cond false rl hF
   u_c stepG_skip rl hF
   u_c stepG_ret' rl hF
   u_leave0 H.f_wait rl hF
   exact Goes.stop λ_ _=>rfl
  .refine⟨_,stepG_cas_miss (v:=(v':Int)*KK) (old:=S) (n:=S+1) rfl rfl (by k_ne) rfl H.f_casU64 (x_casU64_n L) (x_casU64_b L) (x_casU64_x L) .u64 (x_casU64_f L) rfl rfl rfl hw.cellSt (hw.thaw 0) (by rw[<-hS];simp only[KK];omega),150,?_⟩;clear hw
   walk_nrm
   u_op rl hF
   u_c stepG_region_end rl hF
   u_c stepG_ret' rl hF
   u_leave1 H.f_uCas rl hF
   u_c stepG_region_end rl hF
   u_cnd false rl hF
   u_c stepG_skip rl hF
   u_c stepG_inBlock rl hF
   u_c stepG_inLoop rl hF
   refine Goes.stop (λw₃ h₃=>?_);replace hF:=rl hF h₃;exact⟨_,rfl,by simp,by simp,trivial,hF⟩
end Go.Co
