/- Parts of the proof. -/
import Derived.Test.YtjmmlkobmhlikaaGreatP14
import Derived.Test.YtjmmlkobmhlikaaGreatP02
import Derived.Test.YtjmmlkobmhlikaaGreatP09
import Derived.Test.YtjmmlkobmhlikaaGreatP07
import Derived.Conc.DeferLaws
set_option linter.all false
set_option maxRecDepth 100000
namespace Go.Co
open Go.Iso Go.Conc Go.ConcN
section
variable {SB:FuncId->Bool} {H H':Hid} {β:Bij}
def FRel.less (h:∀b,H b=false->H' b=false){f F:Fn}(r:FRel (SP SB H) β f F):FRel (SP SB H') β f F:=by
 cases r with
 |func s=>exact .func s
 |yield l k=>exact .yield l (h _ k)
def VRel.less (h:(∀b,H b=false->H' b=false)/\(H.bl=true->H'.bl=true)){v V:Value}(r:VRel (SP SB H) β v V):VRel (SP SB H') β v V:=by
 induction r with
 |bool b=>exact .bool b
 |int k n=>exact .int k n
 |string s=>exact .string s
 |nilp=>exact .nilp
 |ptr o s hb=>exact .ptr o s hb
 |nils l c=>exact .nils l c
 |slice o s l c hb=>exact .slice o s l c hb
 |func hf h1 _ h2 _ i1 i2=>exact .func (FRel.less h.1 hf) h1 i1 h2 i2
 |nilFunc=>exact .nilFunc
 |nilMap=>exact .nilMap
 |nilChan=>exact .nilChan
 |nilIface=>exact .nilIface
 |iface t _ ih=>exact .iface t ih
 |agg h1 _ i1=>exact .agg h1 i1
 |tuple h1 _ i1=>exact .tuple h1 i1
 |blank h1 h2=>exact .blank (h1.imp (λh=>h) h.2) h2
 |blankM h1=>exact .blankM (h1.imp (λh=>h) h.2)
def AsRel.less (h:(∀b,H b=false->H' b=false)/\(H.bl=true->H'.bl=true)){x X:Array Value}(r:AsRel (SP SB H) β x X):AsRel (SP SB H') β x X:=⟨r.size,λi v V h1 h2=>VRel.less h (r.at_ i v V h1 h2)⟩
def DRel.less (h:(∀b,H b=false->H' b=false)/\(H.bl=true->H'.bl=true)){d D:Deferred}(r:DRel (SP SB H) β d D):DRel (SP SB H') β d D:=by
 cases r with
 |fn f c a=>exact .fn (FRel.less h.1 f) (AsRel.less h c) (AsRel.less h a)
 |nil a=>exact .nil (AsRel.less h a)
 |collected r k=>exact .collected r (h.1 _ k)
 |blankM a A h1 h2 h3=>exact .blankM a A (AsRel.less h h1) h2 (h3.imp (λh=>h) λx=>⟨h.2 x.1,x.2⟩)
def LRel.imp {α:Type}{R R':α->α->Prop}(h:∀a A,R a A->R' a A){l L:List α}(r:LRel R l L):LRel R' l L:=by
 induction r with
 |nil=>exact .nil
 |cons ha _ ih=>exact .cons (h _ _ ha) ih
def ORel.less (h:(∀b,H b=false->H' b=false)/\(H.bl=true->H'.bl=true)){Ck:Code->Prop}{o O:Obj}(r:ORel (SP SB H) Ck β o O):ORel (SP SB H') Ck β o O:=by
 cases r with
 |cells a f=>exact .cells (AsRel.less h a) f
 |loop p a b x d k=>exact .loop p a b (AsRel.less h x) d (h.1 _ k)
 |number o s l hb=>exact .number o s l hb
 |taken=>exact .taken
 |defs l=>exact .defs (LRel.imp (λ_ _=>DRel.less h) l)
end
def KidQ (p:Program)(b4:Nat)(Ψ:World->Prop)(g:Goroutine)(w:World):Prop :=
 ∃c,g=gor (Frame.enter p 69 #[wgArg b4] .deferred) [c,bad]/\c.fn=68/\c.mode=.returning/\c.defers=[]/\c.kind=.deferred/\Ψ w
def oJ {p:Program}{b4:Nat}{Ψ:World->Prop}{BB:FuncId->Bool}(h93:BB 69=false){g:Goroutine}{w:World}(h:KidQ p b4 Ψ g w):BB g.frame.fn=false:=by
 obtain⟨c,rfl,_⟩:=h
 exact h93
def sW {c:Frame}(h:c.mode=.returning):c≠bad:=λe=>by rw[e] at h;cases h
section
variable {P:Two} {SB BB:FuncId->Bool} {lets:Bool} {Gn ty Wg:Nat} {Ψ2:World->Prop}
def kH {L:Lib.WgLink}(Wl:Lib.WgLib P.b L)(h93:L.done=69)(hbar:Barred P SB lets L.done (Lib.doneFn L)){f92:Func}(hf:P.b.funcs[68]?=some f92)(hr:f92.results=#[]){b4:Nat}{Ψ:World->Prop}{H:Hid}{Pk:Bij}(hPk:Pk b4 Wg){o:Bool}
  (hΨ:o=true->∀(x:Lone) (W:World),x.H=H->Pk.le x.β->WLike P SB lets Gn x W->Ψ x.w->Ψ2 W) :
  ca P SB BB lets Gn L.tWg Wg Ψ2 (KidQ P.a b4 Ψ) H [ci P.b] Pk o:=by
 rintro x g W hH hT hle ⟨c,e,c1,c2,c3,c4,c5⟩ hg hw hlive
 refine⟨?_,λho=>hΨ ho x W hH hle hw c5⟩
 refine sV Wl hbar (x:=x) (c:=c) (cs:=[bad]) (wl:=b4) (by rw[e,h93]) (sW c2) (hle _ _ hPk) hg hw hlive λC CS r1 r2=>?_
 have m:=r1.mode
 rw[c2] at m
 have hm:C.mode=.returning:=by
  generalize C.mode=M at m
  cases m;rfl
 have d:=r1.defers
 rw[c3] at d
 have hd:C.defers=[]:=by
  generalize C.defers=M at d
  cases d;rfl
 rw[hT] at r2
 have hcs:CS=[ci P.b]:=by
  generalize hbb:[bad]=BL at r2
  cases r2 with
  |base=>rfl
  |cons h1 h2=>cases hbb;exact absurd rfl h2.ne
 refine⟨hm,2,?_⟩
 rw[hcs]
 exact oH (by rw[<-r1.fn,c1];exact hf) hr hm hd (by rw[<-r1.kind,c4])
end
end Go.Co
namespace Go.Proofs.YtjmmlkobmhlikaaGreat
open Go.RowKit Go.Iso Go.Co Go.Conc
section
variable {SB BB:FuncId->Bool} {H:Hid} {Gn Wg:Nat} {Toy:Nat->Prop} {Ψ0 Ψ2:World->Prop} {Pr:Bij} {T:List Frame} {Kb:Nat->Prop} {Ok:World->Prop} {b2 b3 b4:Nat} {x1:Int} {tp:Bool} {K:Nat->Prop} {a:Act} {r:Nat} {x:Lone} {X:Goroutine} {W:World}
def m8 (x1:Int)(SB:FuncId->Bool)(H:Hid)(K:Nat->Prop):∀v∈[Value.int .u8 x1,.int .u8 0,.int .u8 0,.int .u8 0,.int .u8 0],InK SB H K v:=λv hv=>by
 simp only[List.mem_cons,List.not_mem_nil,or_false] at hv
 rcases hv with rfl|rfl|rfl|rfl|rfl<;>exact VRel.int _ _
def GoAt.moreHead (ga:GoAt SB BB H Gn Wg Toy Ψ0 Pr T Kb Ok b2 b3 b4 x1 tp K a r x X W)(hO:dX Kb Ok):Head SB H Gn Kb Ok (λb=>K b\/b=r) (froze x.w r) :=
 ga.head.more hO ga.rK.1 ga.rK.2.1 ga.rK.2.2 ga.rb λv hv=>m8 x1 SB H _ v hv
def iM {H':Hid}(hk:K b2/\K b3/\K b4):AsRel (SP SB H') (idOn (λb=>K b\/b=r)) (bt b2 b3 b4 r) (bt b2 b3 b4 r):=allIn λv hv=>by
 simp only[List.mem_cons,List.not_mem_nil,or_false] at hv
 rcases hv with rfl|rfl|rfl|rfl
 ·exact InK.ptr (.inl hk.2.2) _ _
 ·exact InK.ptr (.inl hk.1) _ _
 ·exact InK.ptr (.inr rfl) _ _
 ·exact InK.ptr (.inl hk.2.1) _ _
def qp (lib:∀H,Lib PP SB H true BB Gn){L:Lib.WgLink}(Wl:Lib.WgLib Tryz.prog L)(h93:L.done=69)(hT:L.tWg=144)(hbar:Go.Co.Barred PP SB true L.done (Lib.doneFn L))(hO:dX Kb Ok)(hkb:Kb b2/\Kb b3/\Kb b4)(hPr:Pr b4 Wg)(hPK:∀b B,Pr b B->Kb b)
  (ga:GoAt SB BB H Gn Wg Toy Ψ0 Pr T Kb Ok b2 b3 b4 x1 tp K a r x X W)
  (h93b:BB 69=false) (kid:KTr Tryz.prog BB (KidQ Tryz.prog b4 λ_=>True) 0 (Go.Conc.G (Frame.enter Tryz.prog 68 (bt b2 b3 b4 r) .deferred) [bad]) (froze x.w r)) :
  ∃(X' child:Goroutine) (xk:Lone) (o:Bool) (Pk:Bij) (Q:Goroutine->World->Prop),stepG Tryz.prog true X W=.spawn X' child W #[] /\
   Split PP SB BB true Gn Wg Toy x X' child W tp tp o ⟨Go.Conc.G ((base 39).at a (.inRegion o8 []::T8)) [bad],froze x.w r,H,cut (λb=>K b\/b=r) x.β,T⟩ xk Pk /\
   ca PP SB BB true Gn 144 Wg Ψ2 Q xk.H xk.T Pk o/\(∀g w,Q g w->BB g.frame.fn=false)/\KTr Tryz.prog BB Q 0 xk.g xk.w:=by
 have hm:=ga.moreHead hO
 have hH:=ga.h
 have ht:=ga.t
 subst hH ht
 obtain⟨G',child,e1,e2⟩:=split_plain (Toy:=Toy) (tp:=tp) (wl:=Pr) lib ga.op ga.gl ga.wl ga.tw ga.wg ga.toy (λb B h=>ga.pr b B h) ga.cut (λb hb=>by
  cases e:x.H b with
  |true=>exact .inl rfl
  |false=>exact .inr (hm.base b hb e).1) (iM ⟨ga.head.sub _ hkb.1,ga.head.sub _ hkb.2.1,ga.head.sub _ hkb.2.2⟩) (λb B h=>.inl (ga.head.sub _ (hPK b B h)))
 refine⟨G',child,_,false,Pr,KidQ Tryz.prog b4 λ_=>True,e1,e2,?_,λg w h=>oJ h93b h,kid⟩
 have:=kH (P:=PP) (Gn:=Gn) (Ψ2:=Ψ2) (BB:=BB) Wl h93 hbar (f92:=Tryz.f68) Tryz.func68 rfl (Ψ:=λ_=>True) (H:=x.H) (Pk:=Pr) hPr (o:=false) (λe=>by cases e)
 rw[hT] at this
 exact this
def relay (tl:Nat->Bool)(oK:Nat->Obj)(w:World):World:={ w with heap:=w.heap.mapIdx λb o=>if tl b then oK b else o }
def bu (tl:Nat->Bool)(oK:Nat->Obj)(w:World):(relay tl oK w).heap.size=w.heap.size:=by simp[relay]
def bz (tl:Nat->Bool)(oK:Nat->Obj)(w:World)(b:Nat)(hb:b<w.heap.size):(relay tl oK w).heap[b]?=if tl b then some (oK b) else w.heap[b]?:=by
 simp only[relay,Array.getElem?_mapIdx,Array.getElem?_eq_getElem hb,Option.map_some]
 split<;>rfl
def qq (lib:∀H,Lib PP SB H true BB Gn){L:Lib.WgLink}(Wl:Lib.WgLib Tryz.prog L)(h93:L.done=69)(hT:L.tWg=144)(hbar:Go.Co.Barred PP SB true L.done (Lib.doneFn L))(hO:dX Kb Ok)(hkb:Kb b2/\Kb b3/\Kb b4)(hPr:Pr b4 Wg)(hPK:∀b B,Pr b B->Kb b)
  (ga:GoAt SB BB H Gn Wg Toy Ψ0 Pr T Kb Ok b2 b3 b4 x1 true K a r x X W) {tl:Nat->Bool} {oK:Nat->Obj} (htl:∀b B,Pr b B->tl b=true->Toy B) (htlP:∀b,tl b=true->∃B,Pr b B) (htlH:∀b,tl b=true->H b=true) (tnw:¬Toy Wg)
  (hΨ0:∀W,Ψ0 W->∀b B,Pr b B->tl b=true->∃O,W.heap[B]?=some O/\∀(S:Par) (Ck:Code->Prop) (β:Bij),ORel S Ck β (oK b) O) {Ψk:World->Prop}
  (hΨ2:∀(x:Lone) (W:World),x.H=uo H tl->Pr.le x.β->WLike PP SB true Gn x W->Ψk x.w->Ψ2 W)
  (h93b:BB 69=false) (kid:KTr Tryz.prog BB (KidQ Tryz.prog b4 Ψk) 0 (Go.Conc.G (Frame.enter Tryz.prog 68 (bt b2 b3 b4 r) .deferred) [bad]) (relay tl oK (froze x.w r))) :
  ∃(X' child:Goroutine) (xk:Lone) (o:Bool) (Pk:Bij) (Q:Goroutine->World->Prop),stepG Tryz.prog true X W=.spawn X' child W #[] /\
   Split PP SB BB true Gn Wg Toy x X' child W true false o ⟨Go.Conc.G ((base 39).at a (.inRegion o8 []::T8)) [bad],froze x.w r,H,cut (λb=>K b\/b=r) x.β,T⟩ xk Pk /\
   ca PP SB BB true Gn 144 Wg Ψ2 Q xk.H xk.T Pk o/\(∀g w,Q g w->BB g.frame.fn=false)/\KTr Tryz.prog BB Q 0 xk.g xk.w:=by
 have hm:=ga.moreHead hO
 have hH:=ga.h
 have ht:=ga.t
 subst hH ht
 have lt:∀b,(K b\/b=r)->b<(froze x.w r).heap.size:=hm.lt
 have pr:∀b B,x.β b B->tl b=true->Pr b B:=λb B hb h=>by
  obtain⟨B',hB⟩:=htlP b h
  rw[ga.wl.fine.fn hb (ga.pr _ _ hB)];exact hB
 have kl:∀b,tl b=true->(K b\/b=r):=λb h=>let ⟨B,hB⟩:=htlP b h;.inl (ga.head.sub _ (hPK b B hB))
 have hob:∀b o,(K b\/b=r)->x.H b=false->(froze x.w r).heap[b]?=some o->ORel (SP SB (uo x.H tl)) (CK Tryz.prog SB true) (idOn λb=>K b\/b=r) o o:=λb o hb hh ho=>by
  obtain⟨_,o',h1,h2⟩:=hm.base b hb hh
  rw[ho] at h1;cases h1
  exact ORel.less ⟨λb hb=>by simp[uo,hb],λ_=>rfl⟩ h2
 have hty:∀b B,(K b\/b=r)->tl b=true->x.β b B->∃o O,(relay tl oK (froze x.w r)).heap[b]?=some o/\W.heap[B]?=some O/\ORel (SP SB (uo x.H tl)) (CK Tryz.prog SB true) (cut (λb=>K b\/b=r) x.β) o O:=λb B hb h hB=>by
  obtain⟨O,h1,h2⟩:=hΨ0 W (ga.toys rfl) b B (pr b B hB h) h
  exact⟨oK b,O,by rw[bz _ _ _ _ (lt b hb),if_pos h],h1,h2 _ _ _⟩
 obtain⟨G',child,e1,e2⟩:=split_owner (Toy:=Toy) (wl:=Pr) (wk:=relay tl oK (froze x.w r)) (tl:=tl) lib ga.op ga.gl ga.wl ga.tw ga.wg ga.toy (λb B h=>ga.pr b B h) ga.cut (λb hb=>by
  cases e:x.H b with
  |true=>exact .inl rfl
  |false=>exact .inr (hm.base b hb e).1) (λb B h=>.inl (ga.head.sub _ (hPK b B h))) (iM ⟨ga.head.sub _ hkb.1,ga.head.sub _ hkb.2.1,ga.head.sub _ hkb.2.2⟩)
  (λb B hb h=>htl b B (pr b B hb h) h) htlH tnw ⟨by rw[bu];exact Nat.le_refl _,rfl⟩ (λb hb h=>by rw[bz _ _ _ _ (lt b hb),if_neg (by simp[h])]) hob hty (λb hh=>by rw[bu];exact hm.old b hh)
 refine⟨G',child,_,true,Pr,KidQ Tryz.prog b4 Ψk,e1,e2,?_,λg w h=>oJ h93b h,kid⟩
 have:=kH (P:=PP) (Gn:=Gn) (Ψ2:=Ψ2) (BB:=BB) Wl h93 hbar (f92:=Tryz.f68) Tryz.func68 rfl (Ψ:=Ψk) (H:=uo x.H tl) (Pk:=Pr) hPr (o:=true) (λ_=>hΨ2)
 rw[hT] at this
 exact this
end
end Go.Proofs.YtjmmlkobmhlikaaGreat
namespace Go.Co
open Go.Iso Go.Conc Go.ConcN
section
variable {P:Program} {Dead:Nat->Prop}
def Btw.awake {gs:Array Goroutine}{W:World}{t:Trace}{q:Nat->Nat}(hb:Btw P Dead gs W t q){a:Goroutine}(h0:gs[0]?=some a)(hrun:a.status=.running):∀g∈gs,Go.Conc.awake g:=by
 intro g hg
 obtain⟨i,hi,rfl⟩:=Array.mem_iff_getElem.1 hg
 rcases Nat.eq_zero_or_pos i with rfl|hpos
 ·have:gs[0]=a:=by simpa [Array.getElem?_eq_getElem hi] using h0
  rw[this];exact awake_of (.inl hrun)
 ·exact awake_of ((hb.lv.old i _ hpos (Array.getElem?_eq_getElem hi)).status.elim .inl λx=>.inr (.inr x))
end
section
variable {P:Two} {SB BB:FuncId->Bool} {lets:Bool} {Gn:Nat} {Dead:Nat->Prop} {Kp:Keep}
def main_turn {gs:Array Goroutine}{W:World}{t:Trace}{q:Nat->Nat}{sl:Option (Nat×Nat)}{a:Goroutine}(hb:Btw P.b Dead gs W t q)(h0:gs[0]?=some a)(hrun:a.status=.running) :
  ∃N m1 t1,runNT P.b N (crowd gs W sl) t=(.next m1,t1)/\∃gs1 d sl1 q1,stepT P.b m1=runT P.b (crowd gs1 (W.at d) sl1) 0/\gs1[0]?=some a/\gs1.size=gs.size/\Btw P.b Dead gs1 (W.at d) t1 q1:=by
 refine iK (P:=P.b) (r:=(·<·:Nat->Nat->Prop)) Nat.lt_wfRel.wf (λn m t=>∃gs1 d sl1 q1,m=crowd gs1 (W.at d) sl1/\gs1[0]?=some a/\gs1.size=gs.size/\Btw P.b Dead gs1 (W.at d) t q1/\n=sumTo gs.size q1)
  (λm1 t1=>∃gs1 d sl1 q1,stepT P.b m1=runT P.b (crowd gs1 (W.at d) sl1) 0/\gs1[0]?=some a/\gs1.size=gs.size/\Btw P.b Dead gs1 (W.at d) t1 q1) ?_ (sumTo gs.size q) (crowd gs W sl) t ⟨gs,W.drawn,sl,q,rfl,h0,rfl,hb,rfl⟩
 rintro n m t ⟨gs1,d,sl1,q1,rfl,h01,hs1,hb1,rfl⟩
 obtain⟨i,g,d',sl',hi,hg,hst⟩:=crowd_pick (P:=P.b) (w:=W.at d) (sl:=sl1) (hb1.awake h01 hrun) ⟨0,a,h01,hrun⟩
 rcases Nat.eq_zero_or_pos i with rfl|hpos
 ·exact .inl ⟨gs1,d',sl',q1,hst,h01,hs1,hb1.at d'⟩
 ·obtain⟨gs',t',q',k1,k2,k3,k4,k5⟩:=(hb1.at d').slip hpos hi hg h01 hrun sl'
  exact .inr ⟨_,_,sumTo gs.size q',by rw[hst,k1];rfl,by rw[<-hs1];exact k4,gs',d',sl',q',rfl,k3,k2.trans hs1,k5,rfl⟩
def Btw.mute0 {gs:Array Goroutine}{W W':World}{t:Trace}{q:Nat->Nat}{sl:Option (Nat×Nat)}{a a':Goroutine}(hb:Btw P.b Dead gs W t q)(h0:gs[0]?=some a)(hgo:stepG P.b true a W=.go a' W' #[]) :
  ∃gs',runT P.b (crowd gs W sl) 0=(.next (crowd gs' W' sl),#[])/\gs'.size=gs.size/\gs'[0]?=some a'/\Leavers P.b t gs' q:=by
 have hlt:0<gs.size:=(Array.getElem?_eq_some_iff.1 h0).1
 have hr:=runT_crowd_go (P:=P.b) (sl:=sl) (i:=0) h0 (by simpa using hgo)
 have e0:MemOp.ofEvents 0 a.frame.fn a.frame.place #[]=#[]:=by rw[ofEvents_eq];simp
 rw[e0] at hr
 refine⟨_,hr,by simp,by simp[hlt],λj y hj hy=>?_,λj hj=>hb.lv.above j (by simpa using hj)⟩
 have hne:0≠j:=by omega
 rw[Array.getElem?_setIfInBounds_ne hne,Array.getElem?_map] at hy
 obtain⟨z,hz,rfl⟩:=Option.map_eq_some_iff.1 hy
 have hqj:=hb.lv.old j z hj hz
 rw[woken_quitsD hqj]
 exact hqj
end
def more (β:Bij)(b B:Nat):Bij:=λx y=>β x y\/(x=b/\y=B)
def me (β:Bij)(b B:Nat):β.le (more β b B):=λ_ _ h=>.inl h
section
variable {P:Two} {SB BB:FuncId->Bool} {lets:Bool} {Gn:Nat} {H:Hid} {β:Bij} {w W:World}
def oL {Ck:Code->Prop}(h:WRel (SP SB H) Ck Gn β w W){b:Nat}(hb:∀B,¬β b B)(hH:H b=true)(htw:H.twin=false)(hw:w.heap[b]?=some (.coro none))(hG:Gn<=b){c:Array Value}{ty:TypeId}{f:Nat×Nat} :
  WRel (SP SB H) Ck Gn (more β b W.heap.size) w (W.alloc (.cells c ty f)):=by
 have hlt:∀x y,β x y->y<W.heap.size:=λx y hxy=>by
  cases e:H x with
  |false=>obtain⟨o,O,_,h2,_⟩:=h.objs x y hxy e;exact(Array.getElem?_eq_some_iff.1 h2).1
  |true=>obtain⟨_,h2,_⟩:=h.hids x y hxy e;obtain⟨c,t,f,h3⟩:=h2 htw;exact(Array.getElem?_eq_some_iff.1 h3).1
 have get:∀y,(W.alloc (.cells c ty f)).heap[y]?=if y=W.heap.size then some (.cells c ty f) else W.heap[y]?:=λy=>Array.getElem?_push ..
 have size:(W.alloc (.cells c ty f)).heap.size=W.heap.size+1:=Array.size_push _
 refine⟨⟨?_,?_,?_⟩,⟨h.room.1,by rw[size];exact Nat.le_succ_of_le h.room.2⟩,λx y hxy hh=>?_,λx y hxy hh=>?_,h.old,h.env⟩
 ·rintro x y y' (h1|⟨rfl,rfl⟩) (h2|⟨h2,rfl⟩)
  ·exact h.fine.fn h1 h2
  ·subst h2;exact absurd h1 (hb _)
  ·exact absurd h2 (hb _)
  ·rfl
 ·rintro x x' y (h1|⟨rfl,rfl⟩) (h2|⟨rfl,h2⟩)
  ·exact h.fine.inj h1 h2
  ·have:=hlt _ _ h1;omega
  ·have:=hlt _ _ h2;omega
  ·rfl
 ·rintro x y (h1|⟨rfl,rfl⟩)
  ·exact h.fine.lo h1
  ·exact⟨hG,h.room.2⟩
 ·rcases hxy with hxy|⟨rfl,rfl⟩
  ·obtain⟨o,O,h1,h2,h3⟩:=h.objs x y hxy hh
   exact⟨o,O,h1,by rw[get,if_neg (Nat.ne_of_lt (hlt x y hxy))];exact h2,h3.mono (me _ _ _)⟩
  ·have hh':H x=false:=hh
   rw[hH] at hh';cases hh'
 ·rcases hxy with hxy|⟨rfl,rfl⟩
  ·obtain⟨h1,h2,h3⟩:=h.hids x y hxy hh
   exact⟨h1,λe=>by rw[get,if_neg (Nat.ne_of_lt (hlt x y hxy))];exact h2 e,λe=>by rw[get,if_neg (Nat.ne_of_lt (hlt x y hxy))];exact h3 e⟩
  ·exact⟨hw,λ_=>⟨c,ty,f,by rw[get,if_pos rfl]⟩,λe=>by have e':H.twin=true:=e;rw[htw] at e';cases e'⟩
end
end Go.Co
namespace Go.Proofs.YtjmmlkobmhlikaaGreat
open Go.RowKit Go.Iso Go.Co Go.Conc
def sink (kx tl:Nat->Bool)(w:World):World:={ w with heap:=w.heap.mapIdx λb o=>if tl b then .coro none else if kx b then(match o with|.cells c t _=>.cells c t (0,c.size)|o=>o) else o }
def dt (kx tl:Nat->Bool)(w:World):(sink kx tl w).heap.size=w.heap.size:=by simp[sink]
def jd {kx tl:Nat->Bool}{w:World}{b:Nat}(hb:b<w.heap.size)(h:tl b=true):(sink kx tl w).heap[b]?=some (.coro none):=by
 simp[sink,Array.getElem?_mapIdx,Array.getElem?_eq_getElem hb,h]
def eO {kx tl:Nat->Bool}{w:World}{b:Nat}{c:Array Value}{t:TypeId}{f:Nat×Nat}(hw:w.heap[b]?=some (.cells c t f))(h:kx b=true)(h':tl b=false):(sink kx tl w).heap[b]?=some (.cells c t (0,c.size)):=by
 simp[sink,Array.getElem?_mapIdx,hw,h,h']
abbrev hidE (tl:Nat->Bool)(w:World):Hid:=⟨λb=>tl b||b==w.heap.size,false,true⟩
abbrev kbE (kx tl:Nat->Bool)(w:World)(b:Nat):Prop:=kx b=true\/tl b=true\/b=w.heap.size\/b=w.heap.size+1\/b=w.heap.size+2
def startW (kx tl:Nat->Bool)(w:World)(cb:Nat)(p1:Value):World:=froze (froze ((((sink kx tl w).alloc (.coro none)).alloc (.cells #[.pointer (some ⟨cb,0,none⟩)] 57)).alloc (.cells #[p1] 103)) (w.heap.size+1)) (w.heap.size+2)
inductive Scal:Value->Prop
 |bool (b:Bool):Scal (.bool b)
 |int (k:IntKind) (n:Int):Scal (.int k n)
def Scal.rel {v V:Value}(h:Scal v){S S':Par}{β β':Bij}(r:VRel S β v V):VRel S' β' v V:=by
 cases h with
 |bool b=>cases r;exact .bool b
 |int k n=>cases r;exact .int k n
def ScalObj (o:Obj):Prop:=∃(l:List Value) (t:TypeId) (f:Nat×Nat),o=.cells l.toArray t f/\∀v∈l,Scal v
def ScalObj.rel {o O:Obj}(h:ScalObj o){S S':Par}{Ck Ck':Code->Prop}{β β':Bij}(r:ORel S Ck β o O):ORel S' Ck' β' o O:=by
 obtain⟨l,t,f,rfl,hl⟩:=h
 cases r with
 |cells a z=>exact .cells ⟨a.size,λi v V h1 h2=>(hl v (List.mem_of_getElem? (by simpa using h1))).rel (a.at_ i v V h1 h2)⟩ z
def ToyW (β:Bij)(tl:Nat->Bool)(oK:Nat->Obj)(W:World):Prop:=∀b B,β b B->tl b=true->∃O,W.heap[B]?=some O/\∀(S:Par) (Ck:Code->Prop) (β':Bij),ORel S Ck β' (oK b) O
structure EachIn (SB SB0 BB:FuncId->Bool)(w:World)(kx tl:Nat->Bool)(Kc:Nat->Prop)(Ok:World->Prop)(cb sb n c:Nat)(f:Fn)(fx fc:Array Value)(sets kind:Nat->Int)(tpOf:Nat->Bool)(oK oE:Nat->Obj):Prop where
 hB:BB 39=true
 h93:BB 69=false
 s49:SB 39=true
 s92:SB 68=true
 L0:Both PQ SB0 SB0 BB 0
 b0:∀f,SB0 f=true->BB f=true
 s82:SB0 66=true
 todo:∀H K,LRel (IRel Tryz.prog SB H true true (idOn K)) (.inRegion o8 []::T8) (.inRegion o8 []::T8)
 only:dX (kbE kx tl w) Ok
 ok:Ok (startW kx tl w cb (.func f fx fc))
 box2:∀w',Ok w'->w'.cell? ⟨w.heap.size+1,0,none⟩=some (.pointer (some ⟨cb,0,none⟩))
 hold:∀w',Ok w'->w'.cell? ⟨cb,2,none⟩=some (.slice (some ⟨sb,0,none⟩) n c)/\∃v,w'.cell? ⟨cb,0,none⟩=some v
 setsAt:∀w' i,Ok w'->i<n->w'.cell? ⟨sb,i,none⟩=some (.int .u8 (sets i))
 camp:∀w' b,Ok w'->Kc b->kx b=true/\∃o,w'.heap[b]?=some o/\ORel (SP SB0 uk) (CK uZ SB0 false) (idOn Kc) o o
 cK:Kc cb
 ks:kx cb=true/\kx sb=true
 kxs:∀b,kx b=true->tl b=false/\∃(l:List Value) (t:TypeId) (g:Nat×Nat),w.heap[b]?=some (.cells l.toArray t g)/\(∀i,g.1<=i->i<g.2->i<l.length)/\∀v∈l,∀H,InK SB H (λb=>kx b=true\/tl b=true) v
 tls:∀b,tl b=true->w.heap[b]?=some (oK b)/\ScalObj (oK b)/\ScalObj (oE b)
 hp1:∀H,InK SB H (λb=>kx b=true\/tl b=true) (.func f fx fc)
 wrap:∀i,i<n->IntKind.i64.wrap ((i:Int)+1)=((i+1:Nat):Int)
 lapse:∀w' i,Ok w'->i<n->∀τ d,Calls uZ 66 #[.pointer (some ⟨cb,0,none⟩),.pointer (some ⟨w'.heap.size,0,none⟩),.int .i64 0] (on (w'.alloc (first (sets i))) τ d) (λe w2=>∃v,e=.returned v/\((∃y1 y2,v=.agg #[.int .i64 (kind i),.int .i64 y1,.int .i64 y2])/\Ext (w'.alloc (first (sets i))) w2))
 tp0:tpOf 0=true
 tpk:∀i,i<n->kind i≠0->tpOf (i+1)=tpOf i
 which:∀i,i<n->kind i=0->tpOf (i+1)=tpOf i\/(tpOf i=true/\tpOf (i+1)=false)
 plain:∀i r w',i<n->kind i=0->tpOf (i+1)=tpOf i->Ok w'->¬kbE kx tl w r->w'.heap[r]?=some (.cells #[.int .u8 (sets i),.int .u8 0,.int .u8 0,.int .u8 0,.int .u8 0] 60 (0,5)) ->
  KTr Tryz.prog BB (KidQ Tryz.prog w.heap.size λ_=>True) 0 (Go.Conc.G (Frame.enter Tryz.prog 68 (bt (w.heap.size+1) (w.heap.size+2) w.heap.size r) .deferred) [bad]) w'
 owner:∀i r w',i<n->kind i=0->tpOf i=true->tpOf (i+1)=false->Ok w'->¬kbE kx tl w r->w'.heap[r]?=some (.cells #[.int .u8 (sets i),.int .u8 0,.int .u8 0,.int .u8 0,.int .u8 0] 60 (0,5)) ->
  KTr Tryz.prog BB (KidQ Tryz.prog w.heap.size λw2=>∀b,tl b=true->w2.heap[b]?=some (oE b)) 0 (Go.Conc.G (Frame.enter Tryz.prog 68 (bt (w.heap.size+1) (w.heap.size+2) w.heap.size r) .deferred) [bad]) (relay tl oK w')
section
variable {SB SB0 BB:FuncId->Bool} {w:World} {kx tl:Nat->Bool} {Kc:Nat->Prop} {Ok:World->Prop} {cb sb n c:Nat} {f:Fn} {fx fc:Array Value} {sets kind:Nat->Int} {tpOf:Nat->Bool} {oK oE:Nat->Obj}
def EachIn.lt (I:EachIn SB SB0 BB w kx tl Kc Ok cb sb n c f fx fc sets kind tpOf oK oE){b:Nat}(h:kx b=true\/tl b=true):b<w.heap.size:=by
 rcases h with h|h
 ·obtain⟨_,_,_,_,h1,_⟩:=I.kxs b h
  exact(Array.getElem?_eq_some_iff.1 h1).1
 ·exact(Array.getElem?_eq_some_iff.1 (I.tls b h).1).1
def FnE (BB:FuncId->Bool)(tl:Nat->Bool)(w:World)(tp:Bool)(tp':Bool)(H:Hid)(g:Goroutine)(w':World):Prop:=tp'=tp/\H=hidE tl w/\Runs Tryz.prog (Fine Tryz.prog BB) (Iso.Left Tryz.prog 39 λv _=>v=.tuple #[]) g w'
def rH {BB:FuncId->Bool}(hB:BB 39=true){a:Act}{w':World}(hd:a.defers=[]):Runs Tryz.prog (Fine Tryz.prog BB) (Iso.Left Tryz.prog 39 λv _=>v=.tuple #[]) (Go.Conc.G (((base 39).at a [.inRegion o10 [0]]).finish (.tuple #[])) [bad]) w' :=
 sT hB Iso.Left.same hd (by simp) λa' ha'=>⟨w',.tuple #[],_,⟨rfl,rfl,rfl⟩,rfl,rfl,rfl,rfl,ha',rfl,Tryz.f39,Tryz.func39,results_none rfl _ _ _⟩
def EachIn.ctx (I:EachIn SB SB0 BB w kx tl Kc Ok cb sb n c f fx fc sets kind tpOf oK oE)(lib:∀H,Lib PP SB H true BB 0){L:Lib.WgLink}(Wl:Lib.WgLib Tryz.prog L)(h93:L.done=69)(hT:L.tWg=144)(hbar:Go.Co.Barred PP SB true L.done (Lib.doneFn L))
    {Wg:Nat} {β:Bij} {Pr:Bij} {T:List Frame} {Toy:Nat->Prop} (hToy:∀b B,Pr b B->tl b=true->Toy B) (htlP:∀b,tl b=true->∃B,Pr b B) (hPK:∀b B,Pr b B->kbE kx tl w b) (hPw:Pr w.heap.size Wg) (tnw:¬Toy Wg) (hPβ:∀b B,tl b=true->(Pr b B↔β b B)) :
    Ctx SB SB0 BB (hidE tl w) 0 Wg Toy (ToyW β tl oK) (ToyW β tl oE) Pr T (FnE BB tl w (tpOf n)) (kbE kx tl w) Kc Ok (w.heap.size+1) (w.heap.size+2) w.heap.size cb sb n c (.func f fx fc) sets kind tpOf:=by
  have hkb:kbE kx tl w (w.heap.size+1)/\kbE kx tl w (w.heap.size+2)/\kbE kx tl w w.heap.size:=⟨.inr (.inr (.inr (.inl rfl))),.inr (.inr (.inr (.inr rfl))),.inr (.inr (.inl rfl))⟩
  refine { hB := I.hB, s49 := I.s49, s92 := I.s92, L0 := I.L0, b0 := I.b0, s82 := I.s82, todo := fun K => I.todo _ K, twin := rfl, only := I.only, box2 := I.box2, setsAt := I.setsAt, camp := fun w' b h1 h2 => ?_, cK := I.cK,
           kb := ⟨hkb.1, hkb.2.1, hkb.2.2, .inl I.ks.1, .inl I.ks.2⟩, hp1 := ((I.hp1 _).mono fun b hb => hb.elim .inl fun h => .inr (.inl h)), wrap := I.wrap, lapse := I.lapse, tpk := I.tpk, fin := fun a w' hd _ => ⟨rfl, rfl, rH I.hB hd⟩,
           fins:=λtp H g w1 W1 hs h=>⟨h.1,h.2.1,h.2.2.same (λ_ _ _ _ x=>x) Iso.Left.same hs⟩,go:=λi hi hk K a r x X W ga=>?_ }
  · obtain⟨h3,h4⟩:=I.camp w' b h1 h2
    exact⟨.inl h3,h4⟩
  · have hm:=ga.moreHead I.only
    have hrk:¬kbE kx tl w r:=λh=>ga.rK.1 (ga.head.sub _ h)
    rcases I.which i hi hk with e|⟨e1,e2⟩
    · rw[e]
      exact qp lib Wl h93 hT hbar I.only hkb hPw hPK ga I.h93 (I.plain i r _ hi hk e hm.ok hrk (cA ga.rb))
    · rw[e2]
      rw[e1] at ga ⊢
      refine qq (tl:=tl) (oK:=oK) (Ψk:=λw2=>∀b,tl b=true->w2.heap[b]?=some (oE b)) lib Wl h93 hT hbar I.only hkb hPw hPK ga hToy htlP (λb h=>by simp[h]) tnw (λW hW b B hb h=>hW b B ((hPβ b B h).1 hb) h) (λx W hH hle hw hk b B hb h=>?_) I.h93 (I.owner i r _ hi hk e1 e2 hm.ok hrk (cA ga.rb))
      have hp:=hle b B ((hPβ b B h).2 hb)
      obtain⟨o,O,h1,h2,h3⟩:=hw.objs b B hp (by rw[hH];simp[uo,h])
      rw[hk b h] at h1;cases h1
      exact⟨O,h2,λS Ck β'=>(I.tls b h).2.2.rel h3⟩
end
open Go.RowKit Go.Iso Go.Co Go.Conc Go.Sq
def step_collected {P:Program}{main:Bool}{b:Frame}{a:Act}{todo:List Item}{cs:List Frame}{w:World}{D:Nat}{l ds:List Deferred}{x:Array Value}(hd:a.defers={ target:=.collected D,args:=x }::ds)(hD:w.heap[D]?=some (.deferred (some l))) :
  ∃es,stepG P main (Go.Conc.G { b.at a todo with mode:=.returning } cs) w=.go (Go.Conc.G { b.at ⟨a.tmps,l++ds⟩ todo with mode:=.returning } cs) { w with heap:=w.heap.setIfInBounds D (.deferred none) } es:=by
 have hr:(Instr.takeDeferred D).run P w=.ok l { w with heap:=w.heap.setIfInBounds D (.deferred none) }:=by
  simp[Instr.takeDeferred,getObj,setObj,Sem.run,hD,Result.andThen]
 exact⟨seen P b.fn ((Instr.takeDeferred D).events P w #[]),by simp[Go.Conc.G,stepG,unwind,Frame.at,hd,hr,GStep.after]⟩
noncomputable abbrev gC (b2 b3 b4 r:Nat):Array Value:=(cP b2 b3 b4 r).tmps
def sX:codeOk uZ SBx false true k92=true:=by kernel_rfl
def kI {BB:FuncId->Bool}(hL:Looks BB){T0 K0:Nat->Prop}{b2 b3 b4 r:Nat}{H:Hid}(hn:H.bl=false){Ψ:World->Prop}{w:World}(hk:K0 b2/\K0 b3/\K0 b4/\K0 r)(hh:∀b,K0 b->H b=true->H.twin=true/\w.heap[b]?=some (.coro none))(hol:∀b,H b=true->b<w.heap.size)
  (hobj:∀b,K0 b->H b=false->∃o,w.heap[b]?=some o/\ORel (SP SBx H) (CK uZ SBx false) (idOn K0) o o)
  (hwp:∀τ d,k92.wp uZ (λe a' w'=>(e=.normal\/e=.ret)/\(e=.normal/\Ψ w'/\∃D,a'.defers=[{ target:=.collected D,args:=#[] },dDone b4]/\¬T0 D/\w'.heap[D]?=some (.deferred (some [])))) (cP b2 b3 b4 r) (on w τ d))
  (hΨ:∀W W',Ψ W->(∀b,T0 b->W'.heap[b]?=W.heap[b]?)->Ψ W') :
  KTr Tryz.prog BB (KidQ Tryz.prog b4 Ψ) 0 (Go.Conc.G (Frame.enter Tryz.prog 68 (bt b2 b3 b4 r) .deferred) [bad]) w:=by
 have hB:BB (baseD 68).fn=true:=hL.sub 68 (by decide)
 have hQ:∀g w W,Same w W->KidQ Tryz.prog b4 Ψ g w->KidQ Tryz.prog b4 Ψ g W:=by
  rintro g w W s ⟨c,e1,e2,e3,e4,e5,e6⟩
  exact⟨c,e1,e2,e3,e4,e5,hΨ w W e6 λb _=>by rw[s.1]⟩
 rw[enter_atD _ Tryz.func68 rfl]
 have e0:(bt b2 b3 b4 r++Array.replicate (Tryz.f68.ntmps-(bt b2 b3 b4 r).size) undef)=gC b2 b3 b4 r:=by
  rw[Tryz.ntmps68];rfl
 rw[e0]
 refine aa hQ hB (by kernel_rfl) λτ d=>?_
 rw[stepG_seq]
 simp only[goes_go]
 refine⟨hcsM _ _,w,uj,?_⟩
 refine aa hQ hB (by kernel_rfl) λτ d=>?_
 rw[stepG_region]
 simp only[goes_go,List.size_toArray,List.length_cons,List.length_nil,Nat.reduceAdd,Nat.zero_add,List.range,List.range.loop]
 refine⟨hcsM _ _,w,uj,?_⟩
 refine aa hQ hB (by kernel_rfl) λτ d=>?_
 rw[stepG_defer rfl rfl (by decide) rfl]
 simp only[goes_go]
 refine⟨hcsM _ _,w,uj,?_⟩
 refine aa hQ hB (by kernel_rfl) λτ d=>?_
 rw[stepG_region_end]
 simp only[goes_go]
 refine⟨hcsM _ _,w,uj,?_⟩
 have eA:∀o:Option Tmp,o=none->(Act.put ⟨gC b2 b3 b4 r,dcall 69 (#[Operand.tmp 0].map (Act.mk (gC b2 b3 b4 r) []).eval)::[]⟩ o undef)=cP b2 b3 b4 r:=by
  rintro o rfl
  simp[Act.put,gC,cP,dcall,dDone,Act.eval]
 have hI:∀v∈[Value.pointer (some ⟨b4,0,none⟩),.pointer (some ⟨b2,0,none⟩),.pointer (some ⟨r,0,none⟩),.pointer (some ⟨b3,0,none⟩),undef,undef,undef,undef,undef,undef,undef,undef],InK SBx H K0 v:=λv hv=>by
  simp only[List.mem_cons,List.not_mem_nil,or_false] at hv
  rcases hv with rfl|rfl|rfl|rfl|rfl|rfl|rfl|rfl|rfl|rfl|rfl|rfl
  ·exact InK.ptr hk.2.2.1 _ _
  ·exact InK.ptr hk.1 _ _
  ·exact InK.ptr hk.2.2.2 _ _
  ·exact InK.ptr hk.2.1 _ _
  all_goals exact InK.undef
 have hfr:FrRel uZ SBx H false (idOn K0) ((baseD 68).at (cP b2 b3 b4 r) [.code k92]) ((baseD 68).at (cP b2 b3 b4 r) [.code k92]):=by
  refine⟨rfl,allIn hI,.cons (.code sX) .nil,.cons ?_ .nil,.run,rfl,⟨(by show CallKind.deferred≠.early;decide),(by show SBx 68=true;decide)⟩,.none⟩
  refine .fn (.func (.inr (by decide))) (allIn (l:=[]) (by simp)) (allIn (l:=[.pointer (some ⟨b4,0,none⟩)]) λv hv=>?_)
  simp only[List.mem_cons,List.not_mem_nil,or_false] at hv
  subst hv
  exact InK.ptr hk.2.2.1 _ _
 have hseg:=(sN (H:=H) hL hn).seg (b:=baseD 68) (a:=cP b2 b3 b4 r) (c:=k92) (k:=[]) (C:=bad) (cs:=[]) (Q:=KidQ Tryz.prog b4 Ψ) (w:=w) (K0:=K0) hfr (λ_ _=>Nat.zero_le _) (Nat.zero_le _) hh hol
  hobj (λs h=>by cases h) (λ_ _ _ _ _ _ _ _ _ _ _ h=>by cases h) (.inr ⟨_,_,Sq.put Tryz.func68 rfl,rfl⟩) hQ
  (N:=λe a' w'=>e=.normal/\Ψ w'/\∃D,a'.defers=[{ target:=.collected D,args:=#[] },dDone b4]/\¬T0 D/\w'.heap[D]?=some (.deferred (some []))) hwp ?_ (λa' w' todo h _=>by cases h.1)
 ·have e9:=eA (#[({ dst:=none,op:=Op.defer { callee:=Callee.value (Operand.func 69),args:=#[Operand.tmp 0],argTypes:=#[144] },type:=0,pos := "wolf.go:243",after:=#[],guard:=none }:Oper)][0].dst) rfl
  rw[e9]
  exact hseg
 ·rintro a' w' ⟨_,hΨ1,D,hd,hD,hDw⟩
  show KTr Tryz.prog BB (KidQ Tryz.prog b4 Ψ) 0 _ w'
  refine aa hQ hB (by kernel_rfl) λτ d=>?_
  rw[stepG_end]
  simp only[goes_go]
  refine⟨hcsM _ _,w',uj,?_⟩
  refine db hQ hB (by kernel_rfl) λτ d=>?_
  obtain⟨es,e1⟩:=step_collected (P:=Tryz.prog) (main:=true) (b:=baseD 68) (todo:=[]) (cs:=[bad]) (w:=on w' τ d) hd hDw
  rw[e1]
  simp only[goes_go]
  refine⟨hcsM _ _,{ w' with heap:=w'.heap.setIfInBounds D (.deferred none) },⟨rfl,rfl,rfl⟩,?_⟩
  refine db hQ hB (by kernel_rfl) λτ d=>?_
  rw[stepG_unwind_enter (f:=69) (args:=#[.pointer (some ⟨b4,0,none⟩)]) (ds:=[]) rfl Tryz.func69 (by kernel_rfl) rfl]
  simp only[goes_go]
  refine⟨hcsM _ _,{ w' with heap:=w'.heap.setIfInBounds D (.deferred none) },⟨rfl,rfl,rfl⟩,.fin ?_⟩
  rw[<-enter_atD _ Tryz.func69 rfl]
  exact⟨_,rfl,rfl,rfl,rfl,rfl,hΨ w' _ hΨ1 λb hb=>Array.getElem?_setIfInBounds_ne (λe:D=b=>hD (by rw[e];exact hb))⟩
open Go.RowKit Go.Iso Go.Co Go.Conc
def syl:List FuncId:=[3,13,5,4,7,6,3,3,3,12,3,8,9,14,44,16,15,29,25,26,30,63,23,27,28,31,42,46,50,17,19,51,52,53,54,55,56,57,58,59,60,61,66,18,32,62,72,64,73,74,33,75,76,77,78,79,80,81,82,83,85,86,87,35,21,20,84,108,109,110,111,112,113,114,115,116,117,118,119,120,37,38,34,36,126,130,131,132,133,134,135,136,137,138,139,140,141,142,65,150,151,152,153,154,3,3,3,3,3,3,3,3,3,3,3,3,3,3,3,3,3,3,3,3,3,3,3,3,3,3,3,3,3,3,3,11,3,3,3,3,3,10,3,3,3,3,3,3,3,3,3,3,3,3,3,3,3,3,3,3,3,3]
def SBy (f:FuncId):Bool:=syl.contains f
def puty (f:FuncId):Bool:=f==73||f==74||f==13||f==3
def BCy (f:FuncId):Bool:=SBy f&&!puty f
def je {p:Nat->Bool}(h:syl.all p=true):∀f,SBy f=true->p f=true:=λf hf=>(List.all_eq_true.1 h) f (by simpa [SBy] using hf)
def oM:syl.all (λf=>fnOk uZ SBy false f||extB f)=true:=by kernel_rfl
def fnOk_y (f:FuncId)(h:SBy f=true):fnOk uZ SBy false f=true\/extB f=true:=by
 have:=je oM f h
 simpa using this
def qV {P:Two}(f:FuncId)(hf:aE SBy f=true):BarOk P f:=by
 have h:SBy 68=false:=by decide
 unfold aE at hf
 rw[h,Bool.false_and,Bool.and_false] at hf
 cases hf
def tZ (H:Hid):Lib (Two.of uZ) SBy H false SBy 0:=ma (λf hf=>(fnOk_y f hf).imp_right λh=>j6 h ⟨Sq.fn Tryz.func71 rfl,Sq.fn Tryz.func72 rfl,Sq.fn Tryz.func126 rfl⟩) qV ⟨Nat.le_of_eq Sq.globals_size,Sq.bigF⟩
def qr:syl.all (λf=>puty f||!(f==13||sqPut f||f==73||f==74))=true:=by kernel_rfl
def t7 (H:Hid):Lib PW SBy H false BCy 0:=by
 refine gz (λf hf=>?_) (λf hf hb=>?_) (λf hf=>?_) qV ⟨Nat.le_of_eq Sq.globals_size,Sq.bigF⟩
 ·simp only[BCy,Bool.and_eq_true,Bool.not_eq_true'] at hf
  rcases fnOk_y f hf.1 with h|h
  ·refine .inl ⟨h,jc ?_⟩
   have:=je qr f hf.1
   simpa [hf.2] using this
  ·exact .inr (j6 h ⟨Tryz.func71,Tryz.func72,Tryz.func126⟩)
 ·simp only[BCy,hf,Bool.true_and,Bool.not_eq_false',puty,Bool.or_eq_true,beq_iff_eq] at hb
  rcases hb with((rfl|rfl)|rfl)|rfl
  ·exact⟨_,_,Sq.f73,Tryz.func73,rfl,by show Tryz.f73.name≠_;decide,by decide,rfl,rfl⟩
  ·exact⟨_,_,Sq.f74,Tryz.func74,rfl,by show Tryz.f74.name≠_;decide,by decide,rfl,rfl⟩
  ·exact⟨_,_,uQ,Tryz.func13,rfl,by show Tryz.f13.name≠_;decide,by decide,rfl,rfl⟩
  ·exact⟨_,_,Sq.put Tryz.func3 rfl,Tryz.func3,rfl,by show Tryz.f3.name≠_;decide,by decide,rfl,rfl⟩
 ·simp only[BCy,Bool.and_eq_true] at hf
  exact hf.1
structure LooksY (BB:FuncId->Bool):Prop where
 sub:∀f,SBy f=true->BB f=true
 h138:BB 106=true
 h139:BB 107=true
def mf {BB:FuncId->Bool}(hL:LooksY BB){f:FuncId}(h:f=73\/f=74):Locks PW BB f:=by
 rcases h with rfl|rfl
 ·obtain⟨r,o1,o2,s,hp⟩:=patch_x 73 uF 0 1 Sq.f73 rfl (by rw[uG];decide) rfl
  exact⟨0,1,_,r,o1,o2,s,Tryz.f73,hp,jz (hL.sub 73 (by decide)) hL.h138,Tryz.func73,rfl⟩
 ·obtain⟨r,o1,o2,s,hp⟩:=patch_x 74 uC 1 0 Sq.f74 rfl (by rw[uE];decide) rfl
  exact⟨1,0,_,r,o1,o2,s,Tryz.f74,hp,gO (hL.sub 74 (by decide)) hL.h139,Tryz.func74,rfl⟩
def du {BB:FuncId->Bool}{H:Hid}(hL:LooksY BB)(hn:H.bl=false:=by rfl):BothK PW SBy BCy BB H 0:=by
 refine⟨tZ _,t7 _,λf hf hb=>?_,hL.sub,hn⟩
 rcases hf with hf|hf
 ·simp only[BCy,hf,Bool.true_and,Bool.not_eq_false',puty,Bool.or_eq_true,beq_iff_eq] at hb
  rcases hb with((rfl|rfl)|rfl)|rfl
  ·exact .inr (mf hL (.inl rfl))
  ·exact .inr (mf hL (.inr rfl))
  ·exact .inl ⟨_,_,uQ,rfl⟩
  ·exact .inl ⟨_,_,Sq.put Tryz.func3 rfl,rfl⟩
 ·have h:SBy 68=false:=by decide
  unfold aE at hf
  rw[h,Bool.false_and,Bool.and_false] at hf
  cases hf
def sll:List FuncId:=[52,66,64,75,85,86,87,35,84]
def SBl (f:FuncId):Bool:=sll.contains f
def jf {p:Nat->Bool}(h:sll.all p=true):∀f,SBl f=true->p f=true:=λf hf=>(List.all_eq_true.1 h) f (by simpa [SBl] using hf)
def bar_l {P:Two}(f:FuncId)(hf:aE SBl f=true):BarOk P f:=by
 have h:SBl 68=false:=by decide
 unfold aE at hf
 rw[h,Bool.false_and,Bool.and_false] at hf
 cases hf
def oN:sll.all (λf=>fnOk uZ SBl false f&&!(f==13||sqPut f||f==73||f==74))=true:=by kernel_rfl
def sY {BB:FuncId->Bool}(hb:∀f,SBl f=true->BB f=true):Both PW SBl SBl BB 0:=by
 have h1:∀f,SBl f=true->fnOk uZ SBl false f=true:=λf hf=>by
  have:=jf oN f hf
  simp only[Bool.and_eq_true] at this
  exact this.1
 have h2:∀f,SBl f=true->PW.fs[f]?=PW.a.funcs[f]?:=λf hf=>by
  have:=jf oN f hf
  simp only[Bool.and_eq_true,Bool.not_eq_true'] at this
  exact jc this.2
 refine⟨sM h1 bar_l ⟨Nat.le_of_eq Sq.globals_size,Sq.bigF⟩,rv h1 h2 (λf hf hb=>by rw[hf] at hb;cases hb) (λ_ h=>h) bar_l ⟨Nat.le_of_eq Sq.globals_size,Sq.bigF⟩,λf hf hb=>?_,hb⟩
 rcases hf with hf|hf
 ·rw[hf] at hb;cases hb
 ·have h:SBl 68=false:=by decide
  unfold aE at hf
  rw[h,Bool.false_and,Bool.and_false] at hf
  cases hf
end Go.Proofs.YtjmmlkobmhlikaaGreat
namespace Go.Co
open Go.Iso Go.Conc Go.ConcN
section
variable {P:Two} {SB BB:FuncId->Bool} {lets:Bool} {Gn:Nat} {H:Hid} {T:List Frame} {β:Bij}
def stop_any {f:FuncId}{fa fb:Func}{c:Code}(h1:P.a.funcs[f]?=some fa)(h2:P.b.funcs[f]?=some fb)(h3:fa.body=some c)(h4:codeOk P.a SB lets true c=false)(hn:fb.ntmps=fa.ntmps)
  {args:Array Value} (hsz:args.size<=fa.ntmps) {k:CallKind} {F:Frame} (h:TopRel P SB H lets BB β (Frame.enter P.a f args k) F):∃ARGS,F=Frame.enter P.b f ARGS k/\AsRel (SP SB H) β args ARGS:=by
 generalize hF:Frame.enter P.a f args k=fr at h
 cases h with
 |on h =>
  exfalso
  have ht:=h.todo
  rw[<-hF] at ht
  simp only[Frame.enter,h1,h3,Option.bind_some,Option.getD_some] at ht
  generalize F.todo=X at ht
  cases ht with
  |cons hi _ =>
   cases hi with
   |code hc =>
    simp only[Option.isNone_none] at hc
    rw[h4] at hc;cases hc
 |@stop f' a A k' _ _ _ ha =>
  have e1:f=f':=congrArg Frame.fn hF
  have e2:k=k':=congrArg Frame.kind hF
  subst e1 e2
  have e3:args++Array.replicate (fa.ntmps-args.size) undef=a++Array.replicate (fa.ntmps-a.size) undef:=by
   have:=congrArg Frame.tmps hF
   simpa [Frame.enter,h1] using this
  have hs:=congrArg Array.size e3
  simp only[Array.size_append,Array.size_replicate] at hs
  have hA:=ha.size
  have asz:a.size<=fa.ntmps:=by omega
  have all:AsRel (SP SB H) β (args++Array.replicate (fa.ntmps-args.size) undef) (A++Array.replicate (fa.ntmps-A.size) undef):=by
   rw[e3,<-hA]
   exact ha.append (AsRel.replicate (VRel.undef _ _) _)
  refine⟨(A++Array.replicate (fa.ntmps-A.size) undef).extract 0 args.size,?_,?_⟩
  ·have e4 : A ++ Array.replicate (fa.ntmps - A.size) undef = (A ++ Array.replicate (fa.ntmps - A.size) undef).extract 0 args.size ++ Array.replicate (fa.ntmps - ((A ++ Array.replicate (fa.ntmps - A.size) undef).extract 0 args.size).size) undef := by
    have hlen:((A++Array.replicate (fa.ntmps-A.size) undef).extract 0 args.size).size=args.size:=by simp;omega
    rw[hlen]
    generalize hX:A++Array.replicate (fa.ntmps-A.size) undef=X at all hlen ⊢
    have hXs:X.size=fa.ntmps:=by rw[<-hX];simp;omega
    apply Array.ext (by simp;omega)
    intro i i1 i2
    by_cases hi:i<args.size
    ·rw[Array.getElem_append_left (by rw[hlen];exact hi)]
     simp
    ·rw[Array.getElem_append_right (by rw[hlen];omega)]
     simp only[Array.getElem_replicate]
     have:=all.at_ i undef X[i] (by rw[Array.getElem?_append_right (by omega),Array.getElem?_replicate,if_pos (by omega)]) (Array.getElem?_eq_getElem i1)
     exact Det.undef _ this
   simp only[Frame.enter,h2,Option.map_some,Option.getD_some,hn]
   rw[<-e4]
  ·have:=all.extract 0 args.size
   have e5:(args++Array.replicate (fa.ntmps-args.size) undef).extract 0 args.size=args:=by simp
   rwa [e5] at this
def oO {S:Par}{Ck:Code->Prop}{w w1 W:World}(h:WRel S Ck Gn β w W)(hs:w1.heap.size=w.heap.size)(ho:w1.os=w.os)
  (hb:∀b:Nat,w1.heap[b]?=w.heap[b]?\/∃(c:Array Value) (t:TypeId) (f f1:Nat×Nat),w.heap[b]?=some (.cells c t f)/\w1.heap[b]?=some (.cells c t f1)/\∀i,f.1<=i->i<f.2->f1.1<=i/\i<f1.2):WRel S Ck Gn β w1 W:=by
 refine⟨h.fine,by rw[hs];exact h.room,λb B hbB hh=>?_,λb B hbB hh=>?_,λb hh=>by rw[hs];exact h.old b hh,by rw[ho];exact h.env⟩
 ·obtain⟨o,O,e1,e2,e3⟩:=h.objs b B hbB hh
  rcases hb b with e|⟨c,t,f,f1,q1,q2,q3⟩
  ·exact⟨o,O,e.trans e1,e2,e3⟩
  ·rw[q1] at e1
   cases e1
   exact⟨_,O,q2,e2,ORel.froz e3 q3⟩
 ·obtain⟨e1,e2,e3⟩:=h.hids b B hbB hh
  rcases hb b with e|⟨c,t,f,f1,q1,q2,q3⟩
  ·exact⟨e.trans e1,e2,e3⟩
  ·rw[q1] at e1;cases e1
end
def ck {P:Program}{K:Nat}{m1:Machine}{t1:Trace}:∀ {N:Nat} {m:Machine} {t:Trace},runNT P N m t=(.next m1,t1)->runNT P (N+K) m t=runNT P K m1 t1:=by
 intro N
 induction N with
 |zero=>intro m t h;simp only[runNT,Prod.mk.injEq,Stepped.next.injEq] at h;obtain⟨rfl,rfl⟩:=h;rw[Nat.zero_add]
 |succ N ih =>
  intro m t h
  rw[show N+1+K=(N+K)+1 by omega]
  have e : ∀ n, runNT P (n + 1) m t = match stepT P m with
    |(.next m,ops)=>runNT P n m (t++ops)
    |(e,ops)=>(e,t++ops):=λ_=>rfl
  rw[e] at h ⊢
  rcases hs:stepT P m with⟨s,ops⟩
  rw[hs] at h
  cases s with
  |next m'=>exact ih h
  |ended o w=>simp at h
def mg {P:Program}{m m':Machine}{t:Trace}{ops:Array MemOp}(h:stepT P m=(.next m',ops)):runNT P 1 m t=(.next m',t++ops):=by
 unfold runNT;rw[h];rfl
end Go.Co
