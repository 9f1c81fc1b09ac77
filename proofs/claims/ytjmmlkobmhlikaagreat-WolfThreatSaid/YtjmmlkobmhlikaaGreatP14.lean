/- Parts of the proof. -/
import Derived.Test.YtjmmlkobmhlikaaGreatP13
import Derived.Test.YtjmmlkobmhlikaaGreatP08
import Derived.Test.YtjmmlkobmhlikaaGreatP07
import Derived.Test.YtjmmlkobmhlikaaGreatP10
import Derived.Test.YtjmmlkobmhlikaaGreatP00
import Derived.Conc.Own2
set_option linter.all false
set_option maxHeartbeats 4000000
set_option maxRecDepth 100000
namespace Go.Co
open Go.Iso Go.Conc Go.ConcN Go.Conc.Lib Go.ConcR.Gen Go.ConcN.Gen
open Go.ConcR (KK WgAt stA smA rd wr mk DC0 Bk)
def qk (p v:Value)(L:WgLink):(#[p,v]++Array.replicate ((addFn L).ntmps-(#[p,v]:Array Value).size) undef:Array Value)=#[p,v,undef,undef,undef,undef,undef,undef,undef,undef,undef,undef,undef,undef,undef,undef,undef,undef,undef,undef,undef,undef,undef,undef,undef,undef,undef,undef,undef,undef,undef,undef,undef,undef,undef,undef,undef,undef,undef,undef,undef,undef,undef,undef,undef,undef,undef,undef,undef,undef,undef,undef,undef,undef,undef,undef,undef,undef,undef,undef,undef,undef,undef,undef,undef,undef,undef,undef,undef,undef,undef,undef,undef,undef,undef,undef,undef,undef,undef,undef,undef,undef,undef,undef,undef,undef,undef,undef,undef,undef,undef,undef,undef,undef,undef,undef,undef,undef,undef,undef,undef,undef,undef,undef,undef,undef,undef,undef,undef,undef,undef,undef,undef,undef,undef,undef,undef]:=by walk_nrmf addFn
def oD (p:Value)(L:WgLink):(#[p]++Array.replicate ((waitFn L).ntmps-(#[p]:Array Value).size) undef:Array Value)=#[p,undef,undef,undef,undef,undef,undef,undef,undef,undef,undef,undef,undef,undef,undef,undef,undef,undef,undef,undef,undef,undef,undef,undef,undef,undef,undef,undef,undef,undef,undef,undef,undef,undef,undef,undef,undef,undef,undef,undef,undef,undef,undef,undef,undef,undef,undef,undef,undef,undef,undef,undef,undef,undef,undef,undef,undef,undef,undef,undef,undef,undef,undef,undef,undef,undef,undef,undef,undef,undef,undef,undef,undef,undef,undef,undef,undef,undef,undef,undef,undef,undef,undef,undef]:=by walk_nrmf waitFn
def oG (p:Value)(L:WgLink):(#[p]++Array.replicate ((doneFn L).ntmps-(#[p]:Array Value).size) undef:Array Value)=#[p,undef,undef,undef]:=by walk_nrmf doneFn
section
variable {P:Two} {SB BB:FuncId->Bool} {lets:Bool} {Gn:Nat} {H:Hid} {T:List Frame} {β:Bij} {L:WgLink} {Wg:Nat}
def Barred (P:Two)(SB:FuncId->Bool)(lets:Bool)(f:FuncId)(fn:Func):Prop:=∃c,P.a.funcs[f]?=some fn/\P.b.funcs[f]?=some fn/\fn.body=some c/\codeOk P.a SB lets true c=false
def Det (S:Par)(β:Bij)(v V:Value):Prop:=∀X,VRel S β v X->X=V
def Det.undef {S:Par}:Det S β undef undef:=λX h=>by
 unfold Go.undef at h ⊢
 cases h with
 |@tuple _ x h1 _ =>
  have:x=#[]:=by simpa using h1.symm
  rw[this]
def Det.int {S:Par}(k:IntKind)(n:Int):Det S β (.int k n) (.int k n):=λX h=>by cases h;rfl
def Det.ptr {S:Par}(hf:β.Fine Gn){b B:Nat}(hb:β b B)(o:Nat)(s:Option Nat):Det S β (.pointer (some ⟨b,o,s⟩)) (.pointer (some ⟨B,o,s⟩)):=λX h=>by
 cases h with
 |ptr _ _ h=>rw[hf.fn h hb]
def fX {f:FuncId}{fn:Func}(hbar:Barred P SB lets f fn){args args':Array Value}(hs:args.size=args'.size)(hn:args.size<=fn.ntmps)(hd:∀(i:Nat) (v V:Value),args[i]?=some v->args'[i]?=some V->Det (SP SB H) β v V){k:CallKind}{F:Frame}
  (h:TopRel P SB H lets BB β (Frame.enter P.a f args k) F):F=Frame.enter P.b f args' k:=by
 obtain⟨c,h1,h2,h3,h4⟩:=hbar
 generalize hF:Frame.enter P.a f args k=fr at h
 cases h with
 |on h =>
  exfalso
  have ht:=h.todo
  rw[<-hF] at ht
  simp only[Frame.enter,h1,h3,Option.bind_some,Option.getD_some] at ht
  generalize F.todo=X at ht
  cases ht with
  |cons hi _ =>
   cases hi with
   |code hc =>
    simp only[Option.isNone_none] at hc
    rw[h4] at hc;cases hc
 |@stop f' a A k' _ _ _ ha =>
  have e1:f=f':=congrArg Frame.fn hF
  have e2:k=k':=congrArg Frame.kind hF
  subst e1 e2
  have e3:args++Array.replicate (fn.ntmps-args.size) undef=a++Array.replicate (fn.ntmps-a.size) undef:=by
   have:=congrArg Frame.tmps hF
   simpa [Frame.enter,h1] using this
  have e4:A++Array.replicate (fn.ntmps-A.size) undef=args'++Array.replicate (fn.ntmps-args'.size) undef:=by
   have hsz:=congrArg Array.size e3
   simp only[Array.size_append,Array.size_replicate] at hsz
   have hA:=ha.size
   apply Array.ext_getElem?
   intro i
   have e5:(args++Array.replicate (fn.ntmps-args.size) undef)[i]?=(a++Array.replicate (fn.ntmps-a.size) undef)[i]?:=by rw[e3]
   rcases Nat.lt_or_ge i fn.ntmps with hi|hi
   ·rw[Array.getElem?_append,Array.getElem?_append] at e5 ⊢
    have und:∀(m:Nat),i<m->(Array.replicate m undef)[i]?=some undef:=λm hm=>by rw[Array.getElem?_replicate,if_pos hm]
    have val:∃v,(if i<a.size then a[i]? else(Array.replicate (fn.ntmps-a.size) undef)[i-a.size]?)=some v/\∀X,(if i<A.size then A[i]? else(Array.replicate (fn.ntmps-A.size) undef)[i-A.size]?)=some X->VRel (SP SB H) β v X:=by
     by_cases hia:i<a.size
     ·refine⟨a[i],by rw[if_pos hia];simp[hia],λX hX=>?_⟩
      rw[if_pos (by omega)] at hX
      exact ha.at_ i _ X (by simp[hia]) hX
     ·refine⟨undef,by rw[if_neg hia,Array.getElem?_replicate,if_pos (by omega)],λX hX=>?_⟩
      rw[if_neg (by omega),Array.getElem?_replicate,if_pos (by omega)] at hX
      cases hX
      exact VRel.undef _ _
    obtain⟨v,hv,hX⟩:=val
    rw[hv] at e5
    have hAX:∃X,(if i<A.size then A[i]? else(Array.replicate (fn.ntmps-A.size) undef)[i-A.size]?)=some X:=by
     by_cases hia:i<A.size
     ·exact⟨A[i],by rw[if_pos hia];simp[hia]⟩
     ·exact⟨undef,by rw[if_neg hia,Array.getElem?_replicate,if_pos (by omega)]⟩
    obtain⟨X,hXe⟩:=hAX
    rw[hXe]
    have hr:=hX X hXe
    by_cases hia:i<args.size
    ·rw[if_pos hia] at e5
     rw[if_pos (by omega)]
     have:∃V,args'[i]?=some V:=⟨args'[i],by simp[show i<args'.size by omega]⟩
     obtain⟨V,hV⟩:=this
     rw[hV,hd i v V e5 hV X hr]
    ·rw[if_neg hia,Array.getElem?_replicate,if_pos (by omega)] at e5
     rw[if_neg (by omega),Array.getElem?_replicate,if_pos (by omega)]
     have:v=undef:=(Option.some.inj e5).symm
     subst this
     rw[Det.undef X hr]
   ·rw[Array.getElem?_eq_none (by simp;omega),Array.getElem?_eq_none (by simp;omega)]
  simp only[Frame.enter,h2,Option.map_some,Option.getD_some,e4]
def caller_of {fr FR:Frame}(h:FrRel P.a SB H lets β fr FR)(hc:dV fr):∃(b:Frame) (a:Act) (ops:Array Oper) (i:Nat) (rest:List Nat) (k:List Item),FR=b.at a (.inRegion ops (i::rest)::k):=by
 obtain⟨h1,h2,ops,i,rest,k,h3⟩:=hc
 have m:=h.mode
 have r:=h.round
 have t:=h.todo
 rw[h1] at m
 rw[h2] at r
 rw[h3] at t
 obtain⟨f1,f2,f3,f4,f5,f6,f7⟩:=FR
 dsimp only at m r t
 cases m
 cases r
 cases t with
 |cons hi _ =>
  cases hi
  exact⟨⟨f1,f2,[],f4,.run,f6,none⟩,⟨f2,f4⟩,ops,i,rest,_,rfl⟩
def callers_of {fr:Frame}{cs CS:List Frame}(h:CsRel P.a SB H lets T β (fr::cs) CS)(hc:dV fr):∃FR CS',CS=FR::CS'/\FrRel P.a SB H lets β fr FR/\CsRel P.a SB H lets T β cs CS':=by
 cases h with
 |base =>
  obtain⟨_,_,_,_,_,_,h3⟩:=hc
  simp[bad] at h3
 |cons h1 h2=>exact⟨_,_,rfl,h1,h2⟩
def fY {g G:Goroutine}(h:GRel P SB H lets BB T β g G):G=Go.Conc.G G.frame G.callers:=by
 obtain⟨a1,a2,a3,a4,a5⟩:=G
 obtain⟨_,_,⟨_,s1⟩,⟨_,d1⟩,⟨_,o1⟩⟩:=h
 dsimp only at *
 subst s1 d1 o1
 rfl
def ii {x:Lone}{fr FR:Frame}{cs CS:List Frame}(h1:FrRel P.a SB x.H lets x.β fr FR)(h2:CsRel P.a SB x.H lets x.T x.β cs CS):GLike P SB BB lets { x with g:=back fr cs } (Go.Conc.G (FR.finish (.tuple #[])) CS) :=
 ⟨.on (aV h1 (.tuple rfl (by simp))),h2,⟨rfl,rfl⟩,⟨rfl,rfl⟩,⟨rfl,rfl⟩⟩
def addIn (W:WgLib P.b L)(hbar:Barred P SB lets L.add (addFn L))(wl:Nat):AddIn P SB BB lets Gn L.tWg Wg L.add wl T:=by
 intro x G W0 fr cs e hc hT hwl hg hw hlive
 have htop:=hg.top
 have hcs:=hg.callers
 rw[e] at htop hcs
 obtain⟨FR,CS,eCS,r1,r2⟩:=callers_of hcs hc
 obtain⟨b,a,ops,i,rest,k,eFR⟩:=caller_of r1 hc
 have eF:G.frame=Frame.enter P.b L.add #[.pointer (some ⟨Wg,0,none⟩),.int .i64 1] .normal:=by
  refine fX (args:=#[wgArg wl,.int .i64 1]) (args':=#[.pointer (some ⟨Wg,0,none⟩),.int .i64 1]) hbar rfl (by simp[addFn]) (λj v V h1 h2=>?_) htop
  match j,h1,h2 with
  |0,h1,h2=>cases h1;cases h2;exact .ptr hw.fine hwl 0 none
  |1,h1,h2=>cases h1;cases h2;exact .int _ _
  |j+2,h1,_=>simp at h1
 refine⟨Go.Conc.G (FR.finish (.tuple #[])) CS,150,?_,ii r1 r2⟩
 rw[fY hg,eF,eCS,enter_at _ W.f_add (c:=body_add L) rfl,qk,eFR,Frame.finish_at]
 exact addPos W (b₀:=b) (a₀:=a) (k₀:=k) W0 hlive
def sU (W:WgLib P.b L)(hbar:Barred P SB lets L.wait (waitFn L))(wl:Nat):iL P SB BB lets Gn L.tWg Wg L.wait wl T:=by
 intro x G W0 fr cs e hc hT hwl hg hw hlive
 have htop:=hg.top
 have hcs:=hg.callers
 rw[e] at htop hcs
 obtain⟨FR,CS,eCS,r1,r2⟩:=callers_of hcs hc
 obtain⟨b,a,ops,i,rest,k,eFR⟩:=caller_of r1 hc
 have eF:G.frame=Frame.enter P.b L.wait #[.pointer (some ⟨Wg,0,none⟩)] .normal:=by
  refine fX (args:=#[wgArg wl]) (args':=#[.pointer (some ⟨Wg,0,none⟩)]) hbar rfl (by simp[waitFn]) (λj v V h1 h2=>?_) htop
  match j,h1,h2 with
  |0,h1,h2=>cases h1;cases h2;exact .ptr hw.fine hwl 0 none
  |j+1,h1,_=>simp at h1
 refine⟨Go.Conc.G (FR.finish (.tuple #[])) CS,150,AnchWN L (λ_=>True) Wg FR CS,?_,λg w hA=>?_,ii r1 r2⟩
 ·rw[fY hg,eF,eCS,enter_at _ W.f_wait (c:=body_wait L) rfl,oD,eFR]
  exact waitStart W (b₀:=b) (a₀:=a) (k₀:=k) W0 hlive
 ·rw[eFR] at hA ⊢
  rw[Frame.finish_at]
  refine⟨?_,_,waitRound W g w hA⟩
  obtain⟨_,rfl,_⟩:=hA
  rfl
def sV (W:WgLib P.b L)(hbar:Barred P SB lets L.done (doneFn L)){x:Lone}{G:Goroutine}{W0:World}{c:Frame}{cs:List Frame}{wl:Nat}(e:x.g=gor (Frame.enter P.a L.done #[wgArg wl] .deferred) (c::cs))(hc:c≠bad)(hwl:x.β wl Wg)
  (hg:GLike P SB BB lets x G) (hw:WLike P SB lets Gn x W0) (hlive:WgLive L.tWg Wg W0) (hQ:∀C CS,FrRel P.a SB x.H lets x.β c C->CsRel P.a SB x.H lets x.T x.β cs CS->C.mode=.returning/\∃q,QuitsD P.b q 0 (Go.Conc.G C CS)) :
  ∃m,GW P.b L.tWg Wg false (R0 P.b L.tWg Wg) m G W0:=by
 have htop:=hg.top
 have hcs:=hg.callers
 rw[e] at htop hcs
 have:∃C CS,G.callers=C::CS/\FrRel P.a SB x.H lets x.β c C/\CsRel P.a SB x.H lets x.T x.β cs CS:=by
  generalize G.callers=X at hcs
  cases hcs with
  |base=>exact absurd rfl hc
  |cons h1 h2=>exact⟨_,_,rfl,h1,h2⟩
 obtain⟨C,CS,eCS,r1,r2⟩:=this
 have eF:G.frame=Frame.enter P.b L.done #[.pointer (some ⟨Wg,0,none⟩)] .deferred:=by
  refine fX (args:=#[wgArg wl]) (args':=#[.pointer (some ⟨Wg,0,none⟩)]) hbar rfl (by simp[doneFn]) (λj v V h1 h2=>?_) htop
  match j,h1,h2 with
  |0,h1,h2=>cases h1;cases h2;exact .ptr hw.fine hwl 0 none
  |j+1,h1,_=>simp at h1
 obtain⟨hm,q,hq⟩:=hQ C CS r1 r2
 refine⟨153,?_⟩
 rw[fY hg,eF,eCS,enter_atD _ W.f_done (c:=body_done L) rfl,oG]
 exact done W hm hq W0 hlive
end
open Go.Iso Go.Conc Go.ConcN
def DeadL (Dead:Nat->Prop)(l:Loc):Prop:=∃a:Addr,l=.cell a/\Dead a.block
structure Btw (P:Program)(Dead:Nat->Prop)(gs:Array Goroutine)(W:World)(t:Trace)(q:Nat->Nat):Prop where
 lv:Leavers P t gs q
 past:Past (DeadL Dead) W.heap.size t
 quiet:Quiet (DeadL Dead) t
 gs_:∀(i:Nat) (op:MemOp),t[i]?=some op->op.g<gs.size
 low:∀B,Dead B->B<W.heap.size
section
variable (P:Two) (SB BB:FuncId->Bool) (lets:Bool) (Gn:Nat)
structure Tw (Dead:Nat->Prop)(Kp:Keep)(x:Lone)(a:Goroutine)(W:World):Prop where
 gl:GLike P SB BB lets x a
 wl:WLike P SB lets Gn x W
 tw:x.H.twin=false
 dead:∀b B,x.β b B->Dead B->x.H b=true
 keep:∀B,Kp.at_ B->B<W.heap.size/\W.heap[B]?=Kp.w.heap[B]?
 keepx:∀b B,x.β b B->Kp.at_ B->x.H b=true\/Ro x.w b
end
section
variable {P:Two} {SB BB:FuncId->Bool} {lets:Bool} {Gn:Nat} {Dead:Nat->Prop} {Kp:Keep}
def Btw.at {gs:Array Goroutine}{W:World}{t:Trace}{q:Nat->Nat}(h:Btw P.b Dead gs W t q)(d:Nat):Btw P.b Dead gs (W.at d) t q:=⟨h.lv,h.past,h.quiet,h.gs_,h.low⟩
def Tw.at {x:Lone}{a:Goroutine}{W:World}(h:Tw P SB BB lets Gn Dead Kp x a W)(d:Nat):Tw P SB BB lets Gn Dead Kp x a (W.at d):=⟨h.gl,h.wl.same rfl rfl h.wl.env,h.tw,h.dead,h.keep,h.keepx⟩
def Btw.slip {gs:Array Goroutine}{W:World}{t:Trace}{q:Nat->Nat}(h:Btw P.b Dead gs W t q){i:Nat}{g a:Goroutine}(hpos:0<i)(hi:gs[i]?=some g)(hrun:g.status=.running)(h0:gs[0]?=some a)(ha:a.status=.running)(sl:Option (Nat×Nat)) :
  ∃gs' t' q',runT P.b (crowd gs W sl) i=(.next (crowd gs' W sl),t')/\gs'.size=gs.size/\gs'[0]?=some a/\sumTo gs.size q'<sumTo gs.size q/\Btw P.b Dead gs' W (t++t') q':=by
 have hq:=h.lv.old i g hpos hi
 have hi0:(i==0)=false:=by simp;omega
 have hlt:i<gs.size:=(Array.getElem?_eq_some_iff.1 hi).1
 cases hqi:q i with
 |zero=>rw[hqi] at hq;rw[hq.1] at hrun;cases hrun
 |succ k =>
  rw[hqi] at hq
  rcases hq with⟨hf,_⟩|⟨_,g',es,hm,hstp,hq'⟩
  ·rw[hf] at hrun;cases hrun
  have hrunT:=runT_crowd_go (P:=P.b) (sl:=sl) (i:=i) hi (by rw[hi0];exact hstp W)
  have hsum:sumTo gs.size (upd q i k)+(k+1)=sumTo gs.size q+k:=by
   have:=sumTo_upd q k id hlt
   simpa [hqi] using this
  have hge:∀op∈MemOp.ofEvents i g.frame.fn g.frame.place es,op.g=i:=λop hop=>by obtain⟨e,_,rfl⟩:=Go.Conc.mem_ofEvents hop;rfl
  refine⟨_,_,upd q i k,hrunT,by simp,?_,by omega,⟨λj x hj hx=>?_,λj hj=>?_⟩,h.past.mute (by omega) hm,h.quiet.app λop hop x hx hs=>?_,λj op hop=>?_,h.low⟩
  ·have hne:i≠0:=by omega
   rw[Array.getElem?_setIfInBounds_ne hne,Array.getElem?_map,h0]
   simp[woken_run ha]
  ·by_cases hji:i=j
   ·subst hji
    rw[Array.getElem?_setIfInBounds_self_of_lt (by simpa using hlt)] at hx
    obtain rfl:=Option.some.inj hx
    rw[upd_same,Deaf_own]
    exact hq'
   ·rw[Array.getElem?_setIfInBounds_ne hji,Array.getElem?_map] at hx
    obtain⟨y,hy,rfl⟩:=Option.map_eq_some_iff.1 hx
    have hqj:=h.lv.old j y hj hy
    rw[woken_quitsD hqj,upd_ne q k (Ne.symm hji),Deaf_other t hji _ hge]
    exact hqj
  ·rw[Deaf_other t (g':=i) (by simp at hj;omega) _ hge]
   exact h.lv.above j (by simpa using hj)
  ·obtain⟨e,he,rfl⟩:=Go.Conc.mem_ofEvents hop
   rw[touch_mute (hm e he)] at hx;cases hx
  ·rcases getElem?_append_cases hop with⟨_,hop'⟩|⟨_,hopu⟩
   ·simpa using h.gs_ j op hop'
   ·rw[hge op hopu];simpa using hlt
def Btw.fin {gs:Array Goroutine}{W W':World}{t:Trace}{q:Nat->Nat}(h:Btw P.b Dead gs W t q){x:Lone}{a g2:Goroutine}{β':Bij}{w':World}{ES:Array Event}(htw:x.H.twin=false)(hdead:∀b B,x.β b B->Dead B->x.H b=true)
  (h0:gs[0]?=some a) (e3:stepG P.b true a W=.go g2 W' ES) (f:FinOf P SB lets Gn x W β' w' W' ES.toList) (sl:Option (Nat×Nat)) :
  ∃gs' t',runT P.b (crowd gs W sl) 0=(.next (crowd gs' W' sl),t')/\gs'.size=gs.size/\gs'[0]?=some g2/\Btw P.b Dead gs' W' (t++t') q:=by
 have hES:ES.toList.toArray=ES:=by simp
 have hmk:=bZ f htw
 rw[hES] at hmk
 have hlow:=dE f htw (k:=0) (fn:=a.frame.fn) (pos:=a.frame.place)
 rw[hES] at hlow
 have hge:∀op∈MemOp.ofEvents 0 a.frame.fn a.frame.place ES,op.g=0:=λop hop=>by obtain⟨e,_,rfl⟩:=Go.Conc.mem_ofEvents hop;rfl
 have old:∀b B,β' b B->B<W.heap.size->x.β b B:=λb B hb hB=>(f.new b B hb).elim id λh=>absurd h.2 (Nat.not_le.2 hB)
 have dead':∀b B,β' b B->Dead B->x.H b=true:=λb B hb hd=>hdead b B (old b B hb (h.low B hd)) hd
 have notDead:∀e∈ES,∀z,(MemAct.ofEvent e).touch?=some z->¬DeadL Dead z.loc:=by
  intro e he z hz ⟨b,hb,hd⟩
  have hE:=f.evs htw e (by simpa using he)
  cases hE with
  |@cell a A wr sy hab _ hc _ =>
   have:z.loc=.cell A:=by simp[MemAct.ofEvent,MemAct.touch?] at hz;subst hz;rfl
   rw[this] at hb
   cases hb
   obtain⟨n,hn,_⟩:=hc
   have:=(f.rel.hids _ _ hab (dead' _ _ hab hd)).1
   rw[this] at hn
   simp[kindOf] at hn
  |@obj r R wr sy _ _ =>
   have:z.loc=.obj R:=by cases wr<;>cases sy<;>simp[MemAct.ofEvent,MemAct.touch?] at hz<;>subst hz<;>rfl
   rw[this] at hb;cases hb
  |mark hm=>cases hm<;>simp[MemAct.ofEvent,MemAct.touch?] at hz
  |out =>
   have:z.loc=.output:=by simp[MemAct.ofEvent,MemAct.touch?] at hz;subst hz;rfl
   rw[this] at hb;cases hb
 have hlt:0<gs.size:=(Array.getElem?_eq_some_iff.1 h0).1
 refine⟨_,_,runT_crowd_go (P:=P.b) (sl:=sl) (i:=0) h0 (by simpa using e3),by simp,by simp[hlt],
  ⟨⟨λj y hj hy=>?_,λj hj=>?_⟩,(h.past.mono f.SIZE).own λe he=>⟨λz hz hs=>absurd hs (notDead e he z hz),(hmk e he).1,(hmk e he).2.1,?_⟩,h.quiet.app λop hop z hz hs=>?_,λj op hop=>?_,λB hB=>Nat.lt_of_lt_of_le (h.low B hB) f.SIZE⟩⟩
 ·have hne:0≠j:=by omega
  rw[Array.getElem?_setIfInBounds_ne hne,Array.getElem?_map] at hy
  obtain⟨z,hz,rfl⟩:=Option.map_eq_some_iff.1 hy
  have hqj:=h.lv.old j z hj hz
  rw[woken_quitsD hqj,Deaf_other t (by omega) _ hge]
  exact hqj
 ·rw[Deaf_other t (g':=0) (by simp at hj;omega) _ hge]
  exact h.lv.above j (by simpa using hj)
 ·exact hlow { g:=0,fn:=a.frame.fn,pos:=a.frame.place,act:=.ofEvent e } (by rw[ofEvents_eq];exact Array.mem_map.2 ⟨e,he,rfl⟩)
 ·obtain⟨e,he,rfl⟩:=Go.Conc.mem_ofEvents hop
  exact absurd hs (notDead e he z hz)
 ·rcases getElem?_append_cases hop with⟨_,hop'⟩|⟨_,hopu⟩
  ·simpa using h.gs_ j op hop'
  ·rw[hge op hopu];simpa using hlt
def keep_fin {x:Lone}{W W':World}{β':Bij}{w':World}{ES:List Event}(f:FinOf P SB lets Gn x W β' w' W' ES)(keep:∀B,Kp.at_ B->B<W.heap.size/\W.heap[B]?=Kp.w.heap[B]?)(keepx:∀b B,x.β b B->Kp.at_ B->x.H b=true\/Ro x.w b) :
  (∀B,Kp.at_ B->B<W'.heap.size/\W'.heap[B]?=Kp.w.heap[B]?)/\∀b B,β' b B->Kp.at_ B->x.H b=true\/Ro w' b:=by
 refine⟨λB hB=>?_,λb B hb hB=>?_⟩
 ·obtain⟨k1,k3⟩:=keep B hB
  refine⟨Nat.lt_of_lt_of_le k1 f.SIZE,?_⟩
  rw[<-k3]
  by_cases hx:∃b,x.β b B
  ·obtain⟨b,hb⟩:=hx
   rcases keepx b B hb hB with h|⟨cs,ty,z,q1,q2⟩
   ·exact f.hk b B hb h
   ·exact(f.ro b B cs ty z hb q1 q2).2
  ·exact f.KEPT B k1 λb hb=>hx ⟨b,hb⟩
 ·have h0:x.β b B:=(f.new b B hb).elim id λh=>absurd h.2 (Nat.not_le.2 (keep B hB).1)
  exact(keepx b B h0 hB).imp id λh=>h.kept f h0
def Btw.tree (lib:∀H,Lib P SB H lets BB Gn){gs:Array Goroutine}{W:World}{t:Trace}{q:Nat->Nat}(h:Btw P.b Dead gs W t q){x:Lone}{a:Goroutine}(ht:Tw P SB BB lets Gn Dead Kp x a W)(h0:gs[0]?=some a){Q:Goroutine->World->Prop}(hr:Runs P.a (Fine P.a BB) Q x.g x.w)(hq:¬Q x.g x.w)(sl:Option (Nat×Nat)) :
  ∃gs' W' t' x' a',runT P.b (crowd gs W sl) 0=(.next (crowd gs' W' sl),t')/\gs'.size=gs.size/\gs'[0]?=some a'/\Btw P.b Dead gs' W' (t++t') q/\Tw P SB BB lets Gn Dead Kp x' a' W'/\Runs P.a (Fine P.a BB) Q x'.g x'.w/\After P.a (x'.g,x'.w) (x.g,x.w)/\x'.H=x.H/\x'.T=x.T/\x.β.le x'.β/\(W'.os=W.os/\W'.output=W.output)/\W.heap.size<=W'.heap.size/\x.w.heap.size<=x'.w.heap.size/\∀b B,x'.β b B->x.β b B\/(x.w.heap.size<=b/\W.heap.size<=B):=by
 obtain⟨g',w',es,β',g2,W',ES,e1,e2,e3,e4,e5⟩:=Iso.follow (lib x.H) (main2:=true) hr hq ht.gl ht.wl
 have f:FinOf P SB lets Gn x W β' w' W' ES.toList:=e5
 obtain⟨gs',t',k1,k2,k3,k4⟩:=h.fin ht.tw ht.dead h0 e3 f sl
 obtain⟨k5,k6⟩:=keep_fin f ht.keep ht.keepx
 have dead':∀b B,β' b B->Dead B->x.H b=true:=λb B hb hd=>(f.new b B hb).elim (λh1=>ht.dead b B h1 hd) λh1=>absurd h1.2 (Nat.not_le.2 (h.low B hd))
 exact⟨gs',W',t',⟨g',w',x.H,β',x.T⟩,g2,k1,k2,k3,k4,⟨e4,f.rel,ht.tw,dead',k5,k6⟩,e2,⟨W.tape,W.drawn,es,e1,e4.callers.ne⟩,rfl,rfl,f.le,⟨f.OS,f.OUT⟩,f.SIZE,f.size,f.new⟩
def tree_beside (lib:∀H,Lib P SB H lets BB Gn){H:Hid}{T:List Frame}{β:Bij}{Q:Goroutine->World->Prop}{os:Os}{ou:World}{n b0 B0:Nat}:∀(μ:Wm×Nat) (m:Machine) (t:Trace),
  (∃gs W sl q x a,m=crowd gs W sl/\gs[0]?=some a/\gs.size=n/\Btw P.b Dead gs W t q/\Tw P SB BB lets Gn Dead Kp x a W/\Runs P.a (Fine P.a BB) Q x.g x.w/\x.H=H/\x.T=T/\β.le x.β/\(W.os=os/\W.output=ou.output)/\(B0<=W.heap.size/\b0<=x.w.heap.size/\∀b B,x.β b B->β b B\/(b0<=b/\B0<=B))/\μ=(.tree Q (x.g,x.w),sumTo n q)) ->
  ∃N m' t',runNT P.b N m t=(.next m',t')/\∃gs W sl q x a,m'=crowd gs W sl/\gs[0]?=some a/\gs.size=n/\Btw P.b Dead gs W t' q/\Tw P SB BB lets Gn Dead Kp x a W/\Q x.g x.w/\x.H=H/\x.T=T/\β.le x.β/\(W.os=os/\W.output=ou.output)/\(B0<=W.heap.size/\b0<=x.w.heap.size/\∀b B,x.β b B->β b B\/(b0<=b/\B0<=B)):=by
 have wf:WellFounded (Prod.Lex (WltA P.a) (·<·:Nat->Nat->Prop)):=(Prod.lex ⟨_,WltA.wf P.a⟩ Nat.lt_wfRel).wf
 refine iK (P:=P.b) wf (λμ m t=>∃gs W sl q x a,m=crowd gs W sl/\gs[0]?=some a/\gs.size=n/\Btw P.b Dead gs W t q/\Tw P SB BB lets Gn Dead Kp x a W/\Runs P.a (Fine P.a BB) Q x.g x.w/\x.H=H/\x.T=T/\β.le x.β/\(W.os=os/\W.output=ou.output)/\(B0<=W.heap.size/\b0<=x.w.heap.size/\∀b B,x.β b B->β b B\/(b0<=b/\B0<=B))/\μ=(.tree Q (x.g,x.w),sumTo n q))
  (λm t=>∃gs W sl q x a,m=crowd gs W sl/\gs[0]?=some a/\gs.size=n/\Btw P.b Dead gs W t q/\Tw P SB BB lets Gn Dead Kp x a W/\Q x.g x.w/\x.H=H/\x.T=T/\β.le x.β/\(W.os=os/\W.output=ou.output)/\(B0<=W.heap.size/\b0<=x.w.heap.size/\∀b B,x.β b B->β b B\/(b0<=b/\B0<=B))) ?_
 rintro μ m t ⟨gs,W,sl,q,x,a,rfl,h0,hn,hb,ht,hr,eH,eT,hle,hos,hsz,rfl⟩
 by_cases hq:Q x.g x.w
 ·exact .inl ⟨gs,W,sl,q,x,a,rfl,h0,hn,hb,ht,hq,eH,eT,hle,hos,hsz⟩
 refine .inr ?_
 have harun:a.status=.running:=ht.gl.status.2
 have haw:∀g∈gs,awake g:=by
  intro g hg
  obtain⟨i,hi,rfl⟩:=Array.mem_iff_getElem.1 hg
  rcases Nat.eq_zero_or_pos i with rfl|hpos
  ·have:gs[0]=a:=by simpa [Array.getElem?_eq_getElem hi] using h0
   rw[this];exact awake_of (.inl harun)
  ·exact awake_of ((hb.lv.old i _ hpos (Array.getElem?_eq_getElem hi)).status.elim .inl λx=>.inr (.inr x))
 obtain⟨i,g,d,sl',hi,hg,hst⟩:=crowd_pick (P:=P.b) (w:=W) (sl:=sl) haw ⟨0,a,h0,harun⟩
 rcases Nat.eq_zero_or_pos i with rfl|hpos
 ·obtain⟨gs',W',t',x',a',k1,k2,k3,k4,k5,k6,k7,k8,k9,k10,k11,k12,k13,k14⟩:=(hb.at d).tree lib (ht.at d) h0 hr hq sl'
  exact⟨_,_,(.tree Q (x'.g,x'.w),sumTo n q),by rw[hst,k1],Prod.Lex.left _ _ ⟨.tree hq k7,ut (KTr.of hr)⟩,gs',W',sl',q,x',a',rfl,k3,k2.trans hn,k4,k5,k6,k8.trans eH,k9.trans eT,Bij.le_trans hle k10,⟨k11.1.trans hos.1,k11.2.trans hos.2⟩,⟨Nat.le_trans hsz.1 k12,Nat.le_trans hsz.2.1 k13,λb B hb=>(k14 b B hb).elim (hsz.2.2 b B) λh=>.inr ⟨Nat.le_trans hsz.2.1 h.1,Nat.le_trans hsz.1 h.2⟩⟩,rfl⟩
 ·obtain⟨gs',t',q',k1,k2,k3,k4,k5⟩:=(hb.at d).slip hpos hi hg h0 harun sl'
  exact⟨_,_,(.tree Q (x.g,x.w),sumTo n q'),by rw[hst,k1],Prod.Lex.right _ (by rw[<-hn];exact k4),gs',W.at d,sl',q',x,a,rfl,k3,k2.trans hn,k5,ht.at d,hr,eH,eT,hle,hos,hsz,rfl⟩
end
open Go.Iso Go.Conc Go.ConcN
open Go.ConcR (KK WgAt stA smA rd wr mk DC0 Bk)
section
variable {P:Two} {SB BB:FuncId->Bool} {lets:Bool} {Gn:Nat} {ty Wg:Nat} {Dead Toy:Nat->Prop} {Kp:Keep} {Ψ0 Ψ2:World->Prop} {fA fW:FuncId} {wl:Nat} {Pr:Bij} {T:List Frame} {Fn:Bool->Hid->Goroutine->World->Prop}
def ql {j:Nat}{f:Nat->Nat}(h:∀i,i<j->f i=0):sumTo j f=0:=by
 induction j with
 |zero=>rfl
 |succ j ih=>simp only[sumTo];rw[ih λi hi=>h i (by omega),h j (by omega)]
def begin_group {gs:Array Goroutine}{W:World}{t:Trace}{q:Nat->Nat}{sl:Option (Nat×Nat)}{x:Lone}{a:Goroutine}{tp:Bool}{k:Nat}
    (lv:Leavers P.b t gs q) (past:Past (DeadL Dead) Wg t) (quiet:Quiet (DeadL Dead) t) (hgs:∀(i:Nat) (op:MemOp),t[i]?=some op->op.g<gs.size) (hdead:∀B,Dead B->B<Wg) (hwg:WgAt ty Wg W 0 0) (h0:gs[0]?=some a)
    (hgl:GLike P SB BB lets x a) (hwl:WLike P SB lets Gn x W) (htw:x.H.twin=false) (hT:x.T=T) (hb:Pr.le x.β) (hhid:∀b,x.β b Wg->x.H b=true) (hnd:∀b B,x.β b B->¬Dead B) (htoy:∀b B,x.β b B->Toy B->x.H b=true)
    (toyW:∀B,Toy B->(B≠Wg/\¬Dead B)/\¬Kp.at_ B/\B<W.heap.size) (keep:∀B,Kp.at_ B->B<W.heap.size/\B≠Wg/\W.heap[B]?=Kp.w.heap[B]?) (keepx:∀b B,x.β b B->Kp.at_ B->x.H b=true\/Ro x.w b)
    (hos:W.os=Kp.w.os/\W.output=Kp.w.output) (hΨ:(tp=true->Ψ0 W)/\(tp=false->Ψ2 W)) (hscr:ScrR P SB BB lets Gn ty Wg Toy Ψ0 Ψ2 fA fW wl Pr T Fn k tp x.H x.g x.w) (hbd:gs.size+k<=Kp.bd/\Kp.bd<=2147483647) :
    ∃μ,MInv P SB BB lets Gn ty Wg Dead Toy Kp Ψ0 Ψ2 fA fW wl Pr T Fn (gs.size-1) μ (crowd gs W sl) t:=by
  have hgp:0<gs.size:=(Array.getElem?_eq_some_iff.1 h0).1
  have hWg:Wg<W.heap.size:=(Array.getElem?_eq_some_iff.1 hwg).1
  obtain⟨j,hj⟩:∃j,gs.size=j+1:=⟨gs.size-1,by omega⟩
  rw[show gs.size-1=j by omega]
  obtain⟨ts,hts⟩:∃ts:TS,ts=if tp then .start else .done:=⟨_,rfl⟩
  have htp:ts.tp=tp:=by rw[hts];cases tp<;>rfl
  have noWg:∀(i:Nat) (y:Touch),touchAt t i=some y->∀b:Addr,y.loc=.cell b->b.block≠Wg:=by
    intro i y hy b hb e
    obtain⟨op,hop,hoy⟩:=touch_of hy
    have hlo:=past.seen op (Array.mem_of_getElem? hop)
    have key:∀(act:MemAct) (y:Touch),act.touch?=some y->act.low Wg->y.loc=.cell b->False:=by
      intro act y hy hlo hb
      cases act with
      |access ev =>
        simp only[MemAct.touch?,Option.some.injEq] at hy
        subst hy
        obtain⟨loc,wr,sy⟩:=ev
        simp only at hb
        subst hb
        simp only[MemAct.low,Loc.low] at hlo
        omega
      |mark m =>
        cases m<;>simp[MemAct.touch?] at hy
        all_goals
          subst hy
          simp only[Loc.cell.injEq] at hb
          subst hb
          simp only[MemAct.low] at hlo
          omega
      |_=>simp[MemAct.touch?] at hy
    exact key op.act y hoy hlo hb
  let L:Nat->Option Lone:=put (λ_=>none) 0 (some x)
  have getL:∀ {i y},L i=some y->i=0/\y=x:=λ{i y} e=>by
    by_cases e':i=0
    · subst e';simp only[L,put_same,Option.some.injEq] at e;exact⟨rfl,e.symm⟩
    · simp only[L,put_ne _ _ e'] at e;cases e
  have rdx:∀k l,RdA Toy L ts.tp k l->k=0/\l.isMemory=true/\¬DeadL Dead l:=by
    rintro k l (⟨y,hy,b,B,h1,h2,h4⟩|⟨h1,_,B,h2,h4⟩)
    · obtain⟨rfl,rfl⟩:=getL hy
      refine⟨rfl,inBlock_mem h4,?_⟩
      rintro⟨c,rfl,hd⟩
      have e:c.block=B:=h4
      exact hnd b B h1 (e▸hd)
    · refine⟨h1,inBlock_mem h4,?_⟩
      rintro⟨c,rfl,hd⟩
      have e:c.block=B:=h4
      exact(toyW B h2).1.2 (e▸hd)
  let D:Nat->WD:=λi=>⟨1,0,Deaf t (i+1)⟩
  have hV:Vc j D=0:=ql λi _=>rfl
  refine⟨((k,9,.tree (ScrQ P SB BB lets Gn ty Wg Toy Ψ0 Ψ2 fA fW wl Pr T Fn k tp x.H) (x.g,x.w)),(List.range j).map (λi=>Wm.st 1 (q (i+1))),(0,0)),j,gs,W,sl,D,λi=>.st 1 (q (i+1)),λ_=>false,L,ts,λ_=>0,0,0,.sp 0 5,0,λ_=>0,0,x,a,rfl,
    ⟨⟨hj,λi hi=>?_,⟨λi y hy=>?_,λi y hy=>?_,λi y hy=>?_,λi y hy=>?_,λi y hy _=>?_,λi i' y y' hne hy hy'=>?_,⟨hWg,λB hB=>Nat.lt_trans (hdead B hB) hWg,λB hB=>(toyW B hB).2.2⟩,λB hB=>(toyW B hB).1,keep,λi y hy=>?_,λB hB=>(toyW B hB).2.1,hos⟩,?_,λop hop=>?_,λi hi=>rfl,λi hi h2=>by omega,hwg,λi _ h=>(by cases h),λk h=>?_,⟨λh=>hΨ.1 ?_,λh=>hΨ.2 ?_⟩,λi hi=>put_ne _ _ (by omega),λi _=>rfl,Nat.le_refl _⟩,
      by rw[htp];exact .free hscr hb hT hgl,put_same _ _ _,h0,past.hears,?_,λe=>by simp at e,by simp only;omega⟩,by simp⟩
  · have hlt:i+1<gs.size:=by omega
    refine⟨gs[i+1],Array.getElem?_eq_getElem hlt,?_⟩
    have:L (i+1)=none:=put_ne _ _ (by omega)
    rw[this]
    exact .quit (lv.old (i+1) _ (by omega) (Array.getElem?_eq_getElem hlt))
  · obtain⟨rfl,rfl⟩:=getL hy;exact hwl
  · obtain⟨rfl,rfl⟩:=getL hy;exact htw
  · obtain⟨rfl,rfl⟩:=getL hy;exact hhid
  · obtain⟨rfl,rfl⟩:=getL hy;exact hnd
  · obtain⟨rfl,rfl⟩:=getL hy;exact htoy
  · obtain⟨rfl,rfl⟩:=getL hy
    obtain⟨rfl,rfl⟩:=getL hy'
    exact absurd rfl hne
  · obtain⟨rfl,rfl⟩:=getL hy;exact keepx
  · have t0 := uY (Sh := Shd Dead Wg) (Wr := WrA Toy L ts.tp) (Rd := RdA Toy L ts.tp) (N := j + 1) (Pd := fun _ _ => False) (a := stA Wg) past (fun l hl => by
        obtain⟨c,rfl,h|h⟩:=hl
        · exact .inl ⟨c,rfl,h⟩
        · exact .inr ⟨c,rfl,by omega⟩) (λl hl=>by obtain⟨c,rfl,h⟩:=hl;exact⟨c,rfl,.inl h⟩) (λi op y hi hy hs=>by
        obtain⟨c,hc,h|h⟩:=hs
        · exact quiet i op y hi hy ⟨c,hc,h⟩
        · exact absurd h (noWg i y (by rw[touchAt_of hi];exact hy) c hc)) (Nat.le_refl _) (λi op hi=>by have:=hgs i op hi;omega) (by omega) (λk l h=>rdx k l (ff h)) rdx
    exact t0.repd λ_ _ _ h=>h.elim
  · exact MemAct.low_mono (Nat.le_of_lt hWg) (past.seen op hop)
  · rw[hts] at h;cases tp<;>cases h
  · rw[hts] at h
    cases tp with
    |true=>rfl
    |false=>cases h
  · rw[hts] at h
    cases tp with
    |true=>cases h
    |false=>rfl
  · have:=ConcN.Mode.opn (j:=j) (D:=D) (tag:=.sp 0 5) trivial (λi _=>.inr (.inr (.inr rfl))) (by simp)
    rw[hV] at this
    simpa [pend] using this
end
open Go.Iso Go.Conc Go.ConcN
def ci (p:Program):Frame:={ (default:Frame) with fn:=p.funcs.size,defers:=[],mode:=.panicking [goexitEntry] }
def jA {p:Program} {f:FuncId} {fn:Func} (hf:p.funcs[f]?=some fn) (hname:(fn.name == "runtime.NumGoroutine")=false) {c:Code} (hb:fn.body=some c) (cc:Array Value) (W:World) :
  stepG p false (born p ⟨.fn (.func f) cc,#[]⟩) W=.go (Go.Conc.G (Frame.enter p f cc .deferred) [ci p]) W #[]:=by
 have h1:¬fn.name = "runtime.NumGoroutine":=by simpa using hname
 simp[born,stepG,unwind,callDeferred,invoke,callFunc,hf,h1,hb,GStep.after,seen_none,ci,Go.Conc.G]
def oH {p:Program}{C:Frame}{fn:Func}(hf:p.funcs[C.fn]?=some fn)(hr:fn.results=#[])(hm:C.mode=.returning)(hd:C.defers=[])(hk:C.kind=.deferred):QuitsD p 2 0 (Go.Conc.G C [ci p]):=by
 refine .inr ⟨rfl,Go.Conc.G (ci p) [],#[],by simp,λw=>?_,.inr ⟨rfl,{ frame:=ci p,callers:=[],status:=.finished,dying:=none },#[],by simp,λw=>?_,⟨rfl,rfl⟩⟩⟩
 ·obtain⟨a1,a2,a3,a4,a5,a6,a7⟩:=C
  dsimp only at hf hm hd hk
  subst hm hd hk
  simp[Go.Conc.G,stepG,unwind,hf,results_none hr,events_results_none hr,doReturn,ci,goexitEntry,GStep.after,seen_none]
 ·simp[Go.Conc.G,stepG,unwind,ci,goexitEntry,Frame.catches];rfl
open Go.Iso Go.Conc Go.ConcN
def rE {p:Program}{m:Bool}{b:Frame}{a:Act}{ops:Array Oper}{i:Nat}{rest:List Nat}{o:Oper}{k:List Item}{cs:List Frame}{w:World}{f:FuncId}{cc:Array Value}{t:Tmp}(ho:ops[i]?=some o)(hop:o.op=.go { callee:=.value (.tmp t),args:=#[],argTypes:=#[] })(hd:o.dst=none)
  (hw:Region.wanted o (yielded ops a.tmps)=true) (hk:b.kind≠.early) (ht:a.eval (.tmp t)=.func (.func f) #[] cc) :
  stepG p m (Go.Conc.G (b.at a (.inRegion ops (i::rest)::k)) cs) w=.spawn (Go.Conc.G (b.at a (.inRegion ops rest::k)) cs) (born p ⟨.fn (.func f) cc,#[]⟩) w #[]:=by
 have h1:(execOp a.eval o).run p w=.ok (.spawn ⟨.fn (.func f) cc,#[]⟩) w:=by simp[execOp,resolve,hop,ht,Deferred.ofValue]
 have h2:(execOp a.eval o).events p w #[]=#[]:=by simp[execOp,resolve,hop,ht,Deferred.ofValue]
 rw[stepG_spawn ho hw hk h1 rfl]
 have h3:listed p b.fn a o w=#[]:=by unfold listed;rw[h2];exact seen_none _ _
 have h4:a.put o.dst undef=a:=by rw[hd];rfl
 rw[h3,h4]
section
variable {P:Two} {SB BB:FuncId->Bool} {lets:Bool} {Gn:Nat} {Wg:Nat} {Toy:Nat->Prop}
structure AtGoOp (P:Two)(SB BB:FuncId->Bool)(lets:Bool)(x:Lone)(G:Goroutine)(b:Frame)(a:Act)(ops:Array Oper)(i:Nat)(k:List Item)(f:FuncId)(cc:Array Value)(t:Tmp)(fn:Func)(c:Code):Prop where
 g:x.g=Go.Conc.G (b.at a (.inRegion ops [i]::k)) [bad]
 bb:BB b.fn=true
 op:∃o,ops[i]?=some o/\o.op=.go { callee:=.value (.tmp t),args:=#[],argTypes:=#[] }/\o.dst=none/\o.guard=none
 ke:b.kind≠.early
 ht:a.eval (.tmp t)=.func (.func f) #[] cc
 hf:P.a.funcs[f]?=some fn/\P.b.funcs[f]?=some fn/\(fn.name == "runtime.NumGoroutine")=false/\fn.body=some c
 sb:SB f=true
def lC {o:Oper}(h:o.guard=none)(y:Nat->Option Bool):Region.wanted o y=true:=by
 unfold Region.wanted;rw[h]
def go_company {x:Lone}{G:Goroutine}{W:World}{b:Frame}{a:Act}{ops:Array Oper}{i:Nat}{k:List Item}{f:FuncId}{cc:Array Value}{t:Tmp}{fn:Func}{c:Code}(h:AtGoOp P SB BB lets x G b a ops i k f cc t fn c)
  (hg:GLike P SB BB lets x G) :
  ∃G' CC,stepG P.b true G W=.spawn G' (born P.b ⟨.fn (.func f) CC,#[]⟩) W #[]/\GLike P SB BB lets { x with g:=Go.Conc.G (b.at a (.inRegion ops []::k)) [bad] } G'/\AsRel (SP SB x.H) x.β cc CC:=by
 obtain⟨o,o1,o2,o3,o4⟩:=h.op
 have htop:=hg.top.on_of (by rw[h.g];exact h.bb)
 have hcs:=hg.callers
 rw[h.g] at htop hcs
 have hfr:FrRel P.a SB x.H lets x.β (b.at a (.inRegion ops [i]::k)) G.frame:=htop
 obtain⟨B,A,ops2,i2,rest2,K2,eFR⟩:=caller_of hfr ⟨rfl,rfl,ops,i,[],k,rfl⟩
 have hto:=hfr.todo
 rw[eFR] at hto
 have eops:ops2=ops/\i2::rest2=[i]:=by
  cases hto with
  |cons hi _=>cases hi;exact⟨rfl,rfl⟩
 obtain⟨rfl,e2⟩:=eops
 simp only[List.cons.injEq] at e2
 obtain⟨rfl,rfl⟩:=e2
 have hev:VRel (SP SB x.H) x.β (a.eval (.tmp t)) (A.eval (.tmp t)):=by
  have:=hfr.tmps
  rw[eFR] at this
  exact this.getD t (VRel.undef _ _)
 rw[h.ht] at hev
 have:∃CC,A.eval (.tmp t)=.func (.func f) #[] CC/\AsRel (SP SB x.H) x.β cc CC:=by
  generalize A.eval (.tmp t)=V at hev
  cases hev with
  |@func _ F _ X _ CC hF h1 _ h2 a2 =>
   cases hF with
   |func _ =>
    have:X=#[]:=by simpa using h1.symm
    exact⟨CC,by rw[this],h2,a2⟩
 obtain⟨CC,eC,hCC⟩:=this
 have hke:B.kind≠.early:=by
  have:=hfr.kind
  rw[eFR] at this
  have h2:b.kind=B.kind:=this
  rw[<-h2];exact h.ke
 have eG:G=Go.Conc.G G.frame G.callers:=fY hg
 have fin:=aV hfr (v:=undef) (V:=undef) (VRel.undef _ _)
 rw[eFR,Frame.finish_at,Frame.finish_at,o1] at fin
 simp only[Option.bind_some,o3] at fin
 refine⟨Go.Conc.G (B.at A (.inRegion ops2 []::K2)) G.callers,CC,?_,⟨.on ?_,?_,⟨rfl,rfl⟩,⟨rfl,rfl⟩,⟨rfl,rfl⟩⟩,hCC⟩
 ·rw[eG,eFR]
  exact rE o1 o2 o3 (lC o4 _) hke eC
 ·exact fin
 ·exact hcs
def split_plain (L:∀H,Lib P SB H lets BB Gn){x:Lone}{G:Goroutine}{W:World}{b:Frame}{a:Act}{ops:Array Oper}{i:Nat}{k:List Item}{f:FuncId}{cc:Array Value}{t:Tmp}{fn:Func}{c:Code}(h:AtGoOp P SB BB lets x G b a ops i k f cc t fn c)
  (hg:GLike P SB BB lets x G) (hw:WLike P SB lets Gn x W) (htw:x.H.twin=false) (hid:∀b,x.β b Wg->x.H b=true) (toy:∀b B,x.β b B->Toy B->x.H b=true) {tp:Bool} {wl:Bij} (hwl:∀b B,wl b B->x.β b B)
  {K:Nat->Prop} {w1:World} (hcut:CutOk P.a SB lets x.H x.H K (Go.Conc.G (b.at a (.inRegion ops []::k)) [bad]) x.w w1) (hRo:∀b,K b->x.H b=true\/Ro w1 b) (hcc:AsRel (SP SB x.H) (idOn K) cc cc) (hK:∀b B,wl b B->K b) :
  ∃G' child,stepG P.b true G W=.spawn G' child W #[] /\
   Split P SB BB lets Gn Wg Toy x G' child W tp tp false ⟨Go.Conc.G (b.at a (.inRegion ops []::k)) [bad],w1,x.H,cut K x.β,x.T⟩ ⟨Go.Conc.G (Frame.enter P.a f cc .deferred) [bad],w1,x.H,cut K x.β,[ci P.b]⟩ wl:=by
 obtain⟨G',CC,e1,e2,e3⟩:=go_company h (W:=W) hg
 obtain⟨f1,f2,f3,f4⟩:=h.hf
 have hwc:=kw hcut hw
 refine⟨G',_,e1,?_,hwc,htw,⟨rfl,Go.Conc.G (Frame.enter P.b f CC .deferred) [ci P.b],λW=>jA f2 f3 f4 CC W,⟨enter_rel (L x.H) (.inl h.sb) (e3.cut id hcc) .deferred (by decide),.base,⟨rfl,rfl⟩,⟨rfl,rfl⟩,⟨rfl,rfl⟩⟩⟩,hwc,htw,λb B h=>⟨hK b B h,hwl b B h⟩,
  λb B hb=>⟨b,hb.2,λhh=>⟨hh,λ_=>(hRo b hb.1).resolve_left (by rw[hh];simp)⟩⟩,λb B hb=>.inl ⟨b,hb.2,λhh=>⟨hh,λ_=>(hRo b hb.1).resolve_left (by rw[hh];simp)⟩⟩,λb hb=>hid b hb.2,λb hb=>hid b hb.2,λb B hb=>toy b B hb.2,λ_ b B hb=>toy b B hb.2,?_,⟨λe=>(by cases e),λ_=>rfl⟩⟩
 ·exact kv (g:=Go.Conc.G (b.at a (.inRegion ops []::k)) [bad]) h.bb hcut e2
 ·intro b1 b2 B h1 h2
  have:b1=b2:=hw.fine.inj h1.2 h2.2
  subst this
  rcases hRo b1 h1.1 with e|e
  ·exact .inl e
  ·exact .inr (.inr ⟨e,e⟩)
def rF (K:Nat->Prop)(β:Bij):cut K (cut K β)=cut K β:=by
 funext b B
 exact propext ⟨λh=>h.2,λh=>⟨h.1,h⟩⟩
def uo (H:Hid)(tl:Nat->Bool):Hid:=⟨λb=>H.at_ b&&!tl b,false,true⟩
def split_owner (L:∀H,Lib P SB H lets BB Gn){x:Lone}{G:Goroutine}{W:World}{b:Frame}{a:Act}{ops:Array Oper}{i:Nat}{k:List Item}{f:FuncId}{cc:Array Value}{t:Tmp}{fn:Func}{c:Code}(h:AtGoOp P SB BB lets x G b a ops i k f cc t fn c)
  (hg:GLike P SB BB lets x G) (hw:WLike P SB lets Gn x W) (htw:x.H.twin=false) (hid:∀b,x.β b Wg->x.H b=true) (toy:∀b B,x.β b B->Toy B->x.H b=true) {wl:Bij} (hwl:∀b B,wl b B->x.β b B)
  {K:Nat->Prop} {w1 wk:World} (hcut:CutOk P.a SB lets x.H x.H K (Go.Conc.G (b.at a (.inRegion ops []::k)) [bad]) x.w w1) (hRo:∀b,K b->x.H b=true\/Ro w1 b) (hK:∀b B,wl b B->K b)
  {tl:Nat->Bool} (hcc:AsRel (SP SB (uo x.H tl)) (idOn K) cc cc) (htl:∀b B,x.β b B->tl b=true->Toy B) (htlH:∀b,tl b=true->x.H b=true) (tnw:¬Toy Wg)
  (hsz:w1.heap.size<=wk.heap.size/\wk.os=w1.os) (hold:∀b,K b->tl b=false->wk.heap[b]?=w1.heap[b]?) (hob:∀b o,K b->x.H b=false->w1.heap[b]?=some o->ORel (SP SB (uo x.H tl)) (CK P.a SB lets) (idOn K) o o)
  (htoys:∀b B,K b->tl b=true->x.β b B->∃o O,wk.heap[b]?=some o/\W.heap[B]?=some O/\ORel (SP SB (uo x.H tl)) (CK P.a SB lets) (cut K x.β) o O) (hlt:∀b,x.H b=true->b<wk.heap.size) :
  ∃G' child,stepG P.b true G W=.spawn G' child W #[] /\
   Split P SB BB lets Gn Wg Toy x G' child W true false true ⟨Go.Conc.G (b.at a (.inRegion ops []::k)) [bad],w1,x.H,cut K x.β,x.T⟩ ⟨Go.Conc.G (Frame.enter P.a f cc .deferred) [bad],wk,uo x.H tl,cut K x.β,[ci P.b]⟩ wl:=by
 obtain⟨G',CC,e1,e2,e3⟩:=go_company h (W:=W) hg
 obtain⟨f1,f2,f3,f4⟩:=h.hf
 have hwc:=kw hcut hw
 have hH:∀b,(uo x.H tl) b=true↔x.H b=true/\tl b=false:=λb=>by simp[uo]
 have hHf:∀b,(uo x.H tl) b=false->x.H b=false\/tl b=true:=λb hb=>by
  simp only[uo,Bool.and_eq_false_iff,Bool.not_eq_false'] at hb
  exact hb
 have hRk:∀b,K b->tl b=false->Ro w1 b->Ro wk b:=λb hk ht ⟨c,t,z,h1,h2⟩=>⟨c,t,z,(hold b hk ht).trans h1,h2⟩
 have hwk:WRel (SP SB (uo x.H tl)) (CK P.a SB lets) Gn (cut K x.β) wk W:=by
  refine⟨hwc.fine,⟨Nat.le_trans hwc.room.1 hsz.1,hwc.room.2⟩,λb B hb hh=>?_,λb B hb hh=>?_,λb hh=>hlt b ((hH b).1 hh).1,by rw[hsz.2];exact hwc.env⟩
  ·cases ht:tl b with
   |true=>exact htoys b B hb.1 ht hb.2
   |false =>
    have hx:x.H b=false:=(hHf b hh).resolve_right (by rw[ht];simp)
    obtain⟨o,O,q1,q2,q3⟩:=hwc.objs b B hb hx
    refine⟨o,O,(hold b hb.1 ht).trans q1,q2,?_⟩
    have:=q3.cut (λ_=>rfl) (hob b o hb.1 hx q1)
    rw[rF] at this
    exact this
  ·obtain⟨q1,q2⟩:=(hH b).1 hh
   obtain⟨r1,r2,_⟩:=hwc.hids b B hb q1
   exact⟨(hold b hb.1 q2).trans r1,λ_=>r2 htw,λe=>by cases e⟩
 refine⟨G',_,e1,?_,hwc,htw,⟨rfl,Go.Conc.G (Frame.enter P.b f CC .deferred) [ci P.b],λW=>jA f2 f3 f4 CC W,⟨enter_rel (L (uo x.H tl)) (.inl h.sb) (e3.cut (λ_=>rfl) hcc) .deferred (by decide),.base,⟨rfl,rfl⟩,⟨rfl,rfl⟩,⟨rfl,rfl⟩⟩⟩,hwk,rfl,λb B h=>⟨hK b B h,hwl b B h⟩,
  λb B hb=>⟨b,hb.2,λhh=>⟨hh,λ_=>(hRo b hb.1).resolve_left (by rw[hh];simp)⟩⟩,λb B hb=>?_,λb hb=>hid b hb.2,λb hb=>(hH b).2 ⟨hid b hb.2,?_⟩,λb B hb=>toy b B hb.2,λe=>(by cases e),?_,⟨λ_=>⟨rfl,rfl⟩,λe=>(by cases e)⟩⟩
 ·exact kv (g:=Go.Conc.G (b.at a (.inRegion ops []::k)) [bad]) h.bb hcut e2
 ·cases ht:tl b with
  |true=>exact .inr ⟨rfl,htl b B hb.2 ht⟩
  |false =>
   refine .inl ⟨b,hb.2,λhh=>?_⟩
   have hx:x.H b=false:=(hHf b hh).resolve_right (by rw[ht];simp)
   exact⟨hx,λ_=>hRk b hb.1 ht ((hRo b hb.1).resolve_left (by rw[hx];simp))⟩
 ·cases ht:tl b with
  |false=>rfl
  |true=>exact absurd (htl b Wg hb.2 ht) tnw
 ·intro b1 b2 B h1 h2
  have:b1=b2:=hw.fine.inj h1.2 h2.2
  subst this
  rcases hRo b1 h1.1 with e|e
  ·exact .inl e
  ·cases ht:tl b1 with
   |true=>exact .inl (htlH b1 ht)
   |false=>exact .inr (.inr ⟨e,hRk b1 h1.1 ht e⟩)
end
open Go.Iso Go.Conc
abbrev InK (SB:FuncId->Bool)(H:Hid)(K:Nat->Prop)(v:Value):Prop:=VRel (SP SB H) (idOn K) v v
def allIn {SB:FuncId->Bool}{H:Hid}{K:Nat->Prop}{l:List Value}(h:∀v∈l,InK SB H K v):AsRel (SP SB H) (idOn K) l.toArray l.toArray :=
 ⟨rfl,λi v V h1 h2=>by
  rw[h1] at h2;cases h2
  exact h v (List.mem_of_getElem? (by simpa using h1))⟩
def InK.mono {SB:FuncId->Bool}{H:Hid}{K K':Nat->Prop}{v:Value}(h:InK SB H K v)(hk:∀b,K b->K' b):InK SB H K' v :=
 VRel.mono (λb B hb=>⟨hk b hb.1,hb.2⟩) h
def InK.ptr {SB:FuncId->Bool}{H:Hid}{K:Nat->Prop}{b:Nat}(hb:K b)(o:Nat)(s:Option Nat):InK SB H K (.pointer (some ⟨b,o,s⟩)):=VRel.ptr o s ⟨hb,rfl⟩
def InK.slice {SB:FuncId->Bool}{H:Hid}{K:Nat->Prop}{b:Nat}(hb:K b)(o:Nat)(s:Option Nat)(l c:Nat):InK SB H K (.slice (some ⟨b,o,s⟩) l c):=VRel.slice o s l c ⟨hb,rfl⟩
def InK.undef {SB:FuncId->Bool}{H:Hid}{K:Nat->Prop}:InK SB H K undef:=VRel.undef _ _
def InK.agg {SB:FuncId->Bool}{H:Hid}{K:Nat->Prop}{l:List Value}(h:∀v∈l,InK SB H K v):InK SB H K (.agg l.toArray):=VRel.agg rfl (allIn h).at_
def InK.func {SB:FuncId->Bool}{H:Hid}{K:Nat->Prop}{f:FuncId}(hf:SB f=true){l:List Value}(h:∀v∈l,InK SB H K v):InK SB H K (.func (.func f) #[] l.toArray):=VRel.func (FRel.func (.inl hf)) rfl (λi v V h1=>by simp at h1) rfl (allIn h).at_
def froze (w:World)(r:Nat):World:=match w.heap[r]? with
 |some (.cells c t _)=>{ w with heap:=w.heap.setIfInBounds r (.cells c t (0,c.size)) }
 |_=>w
def cj (w:World)(r:Nat):(froze w r).heap.size=w.heap.size:=by
 unfold froze;split<;>simp
def fg (w:World)(r:Nat):(froze w r).os=w.os:=by
 unfold froze;split<;>rfl
def dW (w:World){r b:Nat}(h:b≠r):(froze w r).heap[b]?=w.heap[b]?:=by
 unfold froze
 split
 ·exact Array.getElem?_setIfInBounds_ne (Ne.symm h)
 ·rfl
def cA {w:World}{r:Nat}{c:Array Value}{t:TypeId}{f:Nat×Nat}(h:w.heap[r]?=some (.cells c t f)):(froze w r).heap[r]?=some (.cells c t (0,c.size)):=by
 unfold froze
 rw[h]
 exact Array.getElem?_setIfInBounds_self_of_lt (Array.getElem?_eq_some_iff.1 h).1
def Ext (w w':World):Prop:=w.heap.size<=w'.heap.size/\(∀b,b<w.heap.size->w'.heap[b]?=w.heap[b]?)/\w'.os=w.os
def Ext.trans {a b c:World}(h:Ext a b)(k:Ext b c):Ext a c:=⟨Nat.le_trans h.1 k.1,λx hx=>(k.2.1 x (Nat.lt_of_lt_of_le hx h.1)).trans (h.2.1 x hx),k.2.2.trans h.2.2⟩
def Ext.alloc (w:World)(o:Obj):Ext w (w.alloc o):=⟨by
 have:(w.alloc o).heap.size=w.heap.size+1:=Array.size_push _
 omega,λb hb=>by
 have:(w.alloc o).heap[b]?=if b=w.heap.size then some o else w.heap[b]?:=Array.getElem?_push ..
 rw[this,if_neg (Nat.ne_of_lt hb)],rfl⟩
def Ext.same {a b:World}(h:Same a b):Ext a b:=⟨by rw[h.1];exact Nat.le_refl _,λ_ _=>by rw[h.1],h.2.1⟩
end Go.Co
namespace Go.Proofs.YtjmmlkobmhlikaaGreat
open Go.RowKit Go.Iso Go.Co Go.Conc
noncomputable abbrev T8:List Item:=[.inBlock 1,.code (.region 9 o9 false),.inLoop eL,.inBlock 0,.code (.region 10 o10 false)]
noncomputable abbrev rG (p1:Value)(b2 b3 b4 cb sb n c:Nat)(i:Nat)(v5 v6 v7 v8 v9 v10 v14 v15 v16 v17 v18 v19 v20 v21 v22 v23 v24 v25 v26:Value):Frame :=
 (base 39).at ⟨#[.pointer (some ⟨cb,0,none⟩),p1,.pointer (some ⟨b2,0,none⟩),.pointer (some ⟨b3,0,none⟩),.pointer (some ⟨b4,0,none⟩),v5,v6,v7,v8,v9,v10,.slice (some ⟨sb,0,none⟩) n c,.int .i64 n,.int .i64 i,v14,v15,v16,v17,v18,v19,v20,v21,v22,v23,v24,v25,v26],[]⟩ [.code eL,.inLoop eL,.inBlock 0,.code (.region 10 o10 false)]
section
variable {P:Two} {SB BB:FuncId->Bool} {lets:Bool} {Gn ty Wg:Nat} {Toy:Nat->Prop} {Ψ0 Ψ2:World->Prop} {fA fW:FuncId} {wl:Nat} {Pr:Bij} {T:List Frame} {Fn:Bool->Hid->Goroutine->World->Prop}
def qm :
  ∀k {tp:Bool} {H:Hid} {g:Goroutine} {w:World},ScrQ P SB BB lets Gn ty Wg Toy Ψ0 Ψ2 fA fW wl Pr T Fn k tp H g w->ScrQ P SB BB lets Gn ty Wg Toy Ψ0 Ψ2 fA fW wl Pr T Fn (k+1) tp H g w:=by
 intro k
 induction k with
 |zero=>intro tp H g w h;exact .inl h
 |succ k ih =>
  rintro tp H g w (h|⟨fr,cs,h1,h2,h3⟩)
  ·exact .inl h
  ·refine .inr ⟨fr,cs,h1,h2,h3.mono (λ_ _ x=>x) λg w hq x G W e1 e2 e3 e4 e5 e6 e7 e8 e9 e10 e11=>?_⟩
   obtain⟨G',child,x',xk,tp',o,wlk,Q,q1,q2,q3,q4,q5,q6,q7⟩:=hq x G W e1 e2 e3 e4 e5 e6 e7 e8 e9 e10 e11
   exact⟨G',child,x',xk,tp',o,wlk,Q,q1,q2,q3,q4,q5.mono (λ_ _ x=>x) (λ_ _ x=>ih x),q6,q7⟩
def oI {S:Bool->Hid->Goroutine->World->Prop}{tp:Bool}{H:Hid}(g:Goroutine)(w W:World)(s:Same w W)(hq:AtGo P SB BB lets Gn ty Wg Toy Ψ0 Ψ2 Pr T S tp H g w):AtGo P SB BB lets Gn ty Wg Toy Ψ0 Ψ2 Pr T S tp H g W:=λx G W' e1 e2=>hq x G W' e1 (s.trans e2)
def cC (hF:∀tp H g w W,Same w W->Fn tp H g w->Fn tp H g W):∀k {tp:Bool} {H:Hid} (g:Goroutine) (w W:World),Same w W->ScrQ P SB BB lets Gn ty Wg Toy Ψ0 Ψ2 fA fW wl Pr T Fn k tp H g w->ScrQ P SB BB lets Gn ty Wg Toy Ψ0 Ψ2 fA fW wl Pr T Fn k tp H g W:=by
 have hW:∀ {tp:Bool} {H:Hid} {g:Goroutine} {w W:World},Same w W->fU P fW wl Fn tp H g w->fU P fW wl Fn tp H g W:=λhs ⟨fr,cs,h1,h2,h3⟩=>⟨fr,cs,h1,h2,hF _ _ _ _ _ hs h3⟩
 intro k
 cases k with
 |zero=>exact λg w W hs h=>hW hs h
 |succ k =>
  rintro tp H g w W hs (h|⟨fr,cs,h1,h2,h3⟩)
  ·exact .inl (hW hs h)
  ·exact .inr ⟨fr,cs,h1,h2,h3.same (λ_ _ _ _ x=>x) (λg w W s hq x G W' e1 e2=>hq x G W' e1 (s.trans e2)) hs⟩
end
structure Head (SB:FuncId->Bool)(H:Hid)(Gn:Nat)(Kb:Nat->Prop)(Ok:World->Prop)(K:Nat->Prop)(w:World):Prop where
 sub:∀b,Kb b->K b
 base:∀b,K b->H b=false->Ro w b/\∃o,w.heap[b]?=some o/\ORel (SP SB H) (CK Tryz.prog SB true) (idOn K) o o
 hid:∀b,K b->H b=true->w.heap[b]?=some (.coro none)
 lo:∀b,K b->Gn<=b
 lt:∀b,K b->b<w.heap.size
 old:∀b,H b=true->b<w.heap.size
 room:Gn<=w.heap.size
 ok:Ok w
def dX (Kb:Nat->Prop)(Ok:World->Prop):Prop:=∀w w':World,(∀b,Kb b->w'.heap[b]?=w.heap[b]?)->w'.os=w.os->Ok w->Ok w'
section
variable {SB:FuncId->Bool} {H:Hid} {Gn:Nat} {Kb:Nat->Prop} {Ok:World->Prop} {K:Nat->Prop} {w w':World}
def Head.ext (h:Head SB H Gn Kb Ok K w)(hO:dX Kb Ok)(e:Ext w w'):Head SB H Gn Kb Ok K w':=by
 have same:∀b,K b->w'.heap[b]?=w.heap[b]?:=λb hb=>e.2.1 b (h.lt b hb)
 refine⟨h.sub,λb hb hh=>?_,λb hb hh=>(same b hb).trans (h.hid b hb hh),h.lo,λb hb=>Nat.lt_of_lt_of_le (h.lt b hb) e.1,λb hb=>Nat.lt_of_lt_of_le (h.old b hb) e.1,Nat.le_trans h.room e.1,hO w w' (λb hb=>same b (h.sub b hb)) e.2.2 h.ok⟩
 obtain⟨⟨c,t,f,q1,q2⟩,o,q3,q4⟩:=h.base b hb hh
 exact⟨⟨c,t,f,(same b hb).trans q1,q2⟩,o,(same b hb).trans q3,q4⟩
def Head.more (h:Head SB H Gn Kb Ok K w)(hO:dX Kb Ok){r:Nat}(hr:¬K r)(hH:H r=false)(hG:Gn<=r){l:List Value}{t:TypeId}{f:Nat×Nat}(hc:w.heap[r]?=some (.cells l.toArray t f))(hl:∀v∈l,InK SB H (λ_=>False) v) :
  Head SB H Gn Kb Ok (λb=>K b\/b=r) (froze w r):=by
 have ne:∀b,K b->b≠r:=λb hb e=>hr (e▸hb)
 have same:∀b,K b->(froze w r).heap[b]?=w.heap[b]?:=λb hb=>dW w (ne b hb)
 refine⟨λb hb=>.inl (h.sub b hb),λb hb hh=>?_,λb hb hh=>?_,λb hb=>?_,λb hb=>?_,λb hb=>by rw[cj];exact h.old b hb,by rw[cj];exact h.room,hO w _ (λb hb=>same b (h.sub b hb)) (fg w r) h.ok⟩
 ·rcases hb with hb|rfl
  ·obtain⟨⟨c,t,f,q1,q2⟩,o,q3,q4⟩:=h.base b hb hh
   exact⟨⟨c,t,f,(same b hb).trans q1,q2⟩,o,(same b hb).trans q3,q4.mono λx y hxy=>⟨.inl hxy.1,hxy.2⟩⟩
  ·exact⟨⟨_,_,_,cA hc,λi hi=>⟨Nat.zero_le _,hi⟩⟩,_,cA hc,.cells (allIn λv hv=>(hl v hv).mono λ_=>False.elim) λi h1 h2=>⟨h1,h2⟩⟩
 ·rcases hb with hb|rfl
  ·exact(same b hb).trans (h.hid b hb hh)
  ·rw[hH] at hh;cases hh
 ·rcases hb with hb|rfl
  ·exact h.lo b hb
  ·exact hG
 ·rw[cj]
  rcases hb with hb|rfl
  ·exact h.lt b hb
  ·exact(Array.getElem?_eq_some_iff.1 hc).1
end
noncomputable abbrev PP:Two:=Two.of Tryz.prog
noncomputable abbrev PQ:Two:=⟨uZ,Tryz.prog.funcs⟩
noncomputable abbrev ub:Code:=Tryz.f68.body.getD .skip
abbrev first (x:Int):Obj:=.cells #[.int .u8 x,.int .u8 0,.int .u8 0,.int .u8 0,.int .u8 0] 60
abbrev bt (b2 b3 b4 r:Nat):Array Value:=#[.pointer (some ⟨b4,0,none⟩),.pointer (some ⟨b2,0,none⟩),.pointer (some ⟨r,0,none⟩),.pointer (some ⟨b3,0,none⟩)]
structure GoAt (SB BB:FuncId->Bool)(H:Hid)(Gn Wg:Nat)(Toy:Nat->Prop)(Ψ0:World->Prop)(Pr:Bij)(T:List Frame)(Kb:Nat->Prop)(Ok:World->Prop)(b2 b3 b4:Nat)(x1:Int)(tp:Bool)(K:Nat->Prop)(a:Act)(r:Nat)(x:Lone)(X:Goroutine)(W:World):Prop where
 op:AtGoOp PP SB BB true x X (base 39) a o8 1 T8 68 (bt b2 b3 b4 r) 24 Tryz.f68 ub
 gl:GLike PP SB BB true x X
 wl:WLike PP SB true Gn x W
 h:x.H=H
 t:x.T=T
 pr:Pr.le x.β
 toys:tp=true->Ψ0 W
 toy:∀b B,x.β b B->Toy B->x.H b=true
 wg:∀b,x.β b Wg->x.H b=true
 tw:x.H.twin=false
 head:Head SB H Gn Kb Ok K x.w
 rb:x.w.heap[r]?=some (first x1)
 rK:¬K r/\H r=false/\Gn<=r
 cut:CutOk Tryz.prog SB true H H (λb=>K b\/b=r) (Go.Conc.G ((base 39).at a (.inRegion o8 []::T8)) [bad]) x.w (froze x.w r)
structure Ctx (SB SB0 BB:FuncId->Bool)(H:Hid)(Gn Wg:Nat)(Toy:Nat->Prop)(Ψ0 Ψ2:World->Prop)(Pr:Bij)(T:List Frame)(Fn:Bool->Hid->Goroutine->World->Prop)(Kb Kc:Nat->Prop)(Ok:World->Prop)(b2 b3 b4 cb sb n c:Nat)(p1:Value)(sets kind:Nat->Int)(tpOf:Nat->Bool):Prop where
 hB:BB 39=true
 s49:SB 39=true
 s92:SB 68=true
 L0:Both PQ SB0 SB0 BB Gn
 b0:∀f,SB0 f=true->BB f=true
 s82:SB0 66=true
 todo:∀K,LRel (IRel Tryz.prog SB H true true (idOn K)) (.inRegion o8 []::T8) (.inRegion o8 []::T8)
 twin:H.twin=false
 only:dX Kb Ok
 box2:∀w,Ok w->w.cell? ⟨b2,0,none⟩=some (.pointer (some ⟨cb,0,none⟩))
 setsAt:∀w i,Ok w->i<n->w.cell? ⟨sb,i,none⟩=some (.int .u8 (sets i))
 camp:∀w b,Ok w->Kc b->Kb b/\∃o,w.heap[b]?=some o/\ORel (SP SB0 uk) (CK uZ SB0 false) (idOn Kc) o o
 cK:Kc cb
 kb:Kb b2/\Kb b3/\Kb b4/\Kb cb/\Kb sb
 hp1:InK SB H Kb p1
 wrap:∀i,i<n->IntKind.i64.wrap ((i:Int)+1)=((i+1:Nat):Int)
 lapse:∀w i,Ok w->i<n->∀τ d,Calls uZ 66 #[.pointer (some ⟨cb,0,none⟩),.pointer (some ⟨w.heap.size,0,none⟩),.int .i64 0] (on (w.alloc (first (sets i))) τ d) (λe w'=>∃v,e=.returned v/\((∃y1 y2,v=.agg #[.int .i64 (kind i),.int .i64 y1,.int .i64 y2])/\Ext (w.alloc (first (sets i))) w'))
 tpk:∀i,i<n->kind i≠0->tpOf (i+1)=tpOf i
 fin:∀(a:Act) (w:World),a.defers=[]->Ok w->Fn (tpOf n) H (Go.Conc.G (((base 39).at a [.inRegion o10 [0]]).finish (.tuple #[])) [bad]) w
 fins:∀tp H g w W,Same w W->Fn tp H g w->Fn tp H g W
 go:∀i,i<n->kind i=0->∀(K:Nat->Prop) (a:Act) (r:Nat) (x:Lone) (X:Goroutine) (W:World),GoAt SB BB H Gn Wg Toy Ψ0 Pr T Kb Ok b2 b3 b4 (sets i) (tpOf i) K a r x X W ->
  ∃(X' child:Goroutine) (xk:Lone) (o:Bool) (Pk:Bij) (Q:Goroutine->World->Prop),stepG Tryz.prog true X W=.spawn X' child W #[] /\
   Split PP SB BB true Gn Wg Toy x X' child W (tpOf i) (tpOf (i+1)) o ⟨Go.Conc.G ((base 39).at a (.inRegion o8 []::T8)) [bad],froze x.w r,H,cut (λb=>K b\/b=r) x.β,T⟩ xk Pk /\
   ca PP SB BB true Gn 144 Wg Ψ2 Q xk.H xk.T Pk o/\(∀g w,Q g w->BB g.frame.fn=false)/\KTr Tryz.prog BB Q 0 xk.g xk.w
def fh (w:World)(x:Int):(w.alloc (first x)).heap[w.heap.size]?=some (first x):=by rw[ax,if_pos rfl]
section
variable {SB SB0 BB:FuncId->Bool} {H:Hid} {Gn Wg:Nat} {Toy:Nat->Prop} {Ψ0 Ψ2:World->Prop} {Pr:Bij} {T:List Frame} {Fn:Bool->Hid->Goroutine->World->Prop} {Kb Kc:Nat->Prop} {Ok:World->Prop} {b2 b3 b4 cb sb n c:Nat} {p1:Value} {sets kind:Nat->Int} {tpOf:Nat->Bool}
def qo (C:Ctx SB SB0 BB H Gn Wg Toy Ψ0 Ψ2 Pr T Fn Kb Kc Ok b2 b3 b4 cb sb n c p1 sets kind tpOf)(hPr:∀b B,Pr b B->Kb b):∀(m i:Nat),i+m=n->∀(K:Nat->Prop) (w:World),Head SB H Gn Kb Ok K w ->
  ∀(v5 v6 v7 v8 v9 v10 v14 v15 v16 v17 v18 v19 v20 v21 v22 v23 v24 v25 v26:Value),(∀v∈[v5,v8,v9,v10,v20,v21,v22,v23,v24,v25,v26],InK SB H K v) ->
  Runs Tryz.prog (Fine Tryz.prog BB) (ScrQ PP SB BB true Gn 144 Wg Toy Ψ0 Ψ2 67 70 b4 Pr T Fn m (tpOf i) H) (Go.Conc.G (rG p1 b2 b3 b4 cb sb n c i v5 v6 v7 v8 v9 v10 v14 v15 v16 v17 v18 v19 v20 v21 v22 v23 v24 v25 v26) [bad]) w:=by
 intro m
 induction m with
 |zero =>
  intro i hi K w hd v5 v6 v7 v8 v9 v10 v14 v15 v16 v17 v18 v19 v20 v21 v22 v23 v24 v25 v26 hJ
  obtain rfl:i=n:=by omega
  refine sR (cb:=0) C.hB (cC C.fins _) (by simp) (Nat.lt_irrefl _) (.fin ?_)
  exact⟨_,_,rfl,⟨rfl,rfl,_,_,_,_,rfl⟩,C.fin _ _ rfl hd.ok⟩
 |succ m ih =>
  intro i hi K w hd v5 v6 v7 v8 v9 v10 v14 v15 v16 v17 v18 v19 v20 v21 v22 v23 v24 v25 v26 hJ
  have hin:i<n:=by omega
  have l2:b2<w.heap.size:=hd.lt _ (hd.sub _ C.kb.1)
  have hr0:H w.heap.size=false:=by
   cases e:H w.heap.size with
   |false=>rfl
   |true=>exact absurd (hd.old _ e) (Nat.lt_irrefl _)
  refine sO C.hB (cC C.fins _) (by simp) hin (C.box2 w hd.ok) (C.setsAt w i hd.ok hin) l2 ?_
  refine C.L0.fn C.s82 C.s82 (K0:=λb=>Kc b\/b=w.heap.size) (by simp) (λb hb=>?_) (by rw[aA];exact Nat.le_succ_of_le hd.room) (allIn λv hv=>?_) (λb hb=>?_) (cC C.fins _) (C.lapse w i hd.ok hin) ?_
  ·rcases hb with hb|rfl
   ·exact hd.lo b (hd.sub b (C.camp w b hd.ok hb).1)
   ·exact hd.room
  ·simp only[List.mem_cons,List.not_mem_nil,or_false] at hv
   rcases hv with rfl|rfl|rfl
   ·exact InK.ptr (.inl C.cK) _ _
   ·exact InK.ptr (.inr rfl) _ _
   ·exact VRel.int _ _
  ·rcases hb with hb|rfl
   ·obtain⟨h1,o,h2,h3⟩:=C.camp w b hd.ok hb
    have hlt:=hd.lt b (hd.sub b h1)
    exact⟨o,by rw[ax,if_neg (Nat.ne_of_lt hlt)];exact h2,h3.mono λx y hxy=>⟨.inl hxy.1,hxy.2⟩⟩
   ·refine⟨_,fh w (sets i),.cells (allIn (l:=[.int .u8 (sets i),.int .u8 0,.int .u8 0,.int .u8 0,.int .u8 0]) λv hv=>?_) λj h1 h2=>⟨h1,h2⟩⟩
    simp only[List.mem_cons,List.not_mem_nil,or_false] at hv
    rcases hv with rfl|rfl|rfl|rfl|rfl<;>exact VRel.int _ _
  ·rintro v w2 ⟨⟨y1,y2,rfl⟩,hE⟩
   have hE2:Ext w w2:=(Ext.alloc w _).trans hE
   have hd2:=hd.ext C.only hE2
   have e20:(o6[1]?.bind (·.dst))=some 20:=rfl
   rw[Frame.finish_at,e20]
   have jk:∀y1 y2 k,InK SB H K (.agg #[.int .i64 k,.int .i64 y1,.int .i64 y2]):=λy1 y2 k=>InK.agg (l:=[.int .i64 k,.int .i64 y1,.int .i64 y2]) λv hv=>by
    simp only[List.mem_cons,List.not_mem_nil,or_false] at hv
    rcases hv with rfl|rfl|rfl<;>exact VRel.int _ _
   by_cases hk:kind i=0
   ·rw[hk]
    refine rD (cb:=0) (v20:=undef) C.hB (cC C.fins _) (by simp) (.fin (.inr ⟨_,_,rfl,⟨rfl,rfl,_,_,_,_,rfl⟩,?_⟩))
    have e23:(o7[0]?.bind (·.dst))=some 23:=rfl
    unfold back
    rw[Frame.finish_at,e23]
    refine sP (cb:=cb) (v24:=v24) (cs:=[bad]) C.hB oI (by simp) (.fin ?_)
    intro x X W ex hs eH eT hpr gl wl h0 toy wg tw
    have hd3:=hd2.ext C.only (Ext.same hs)
    have hrK:¬K w.heap.size:=λh=>Nat.lt_irrefl _ (hd.lt _ h)
    have hrb:x.w.heap[w.heap.size]?=some (first (sets i)):=by
     rw[hs.1,hE.2.1 _ (by rw[aA];exact Nat.lt_succ_self _)]
     exact fh w _
    have int_:∀v∈[Value.int .u8 (sets i),.int .u8 0,.int .u8 0,.int .u8 0,.int .u8 0],∀K',InK SB H K' v:=λv hv K'=>by
     simp only[List.mem_cons,List.not_mem_nil,or_false] at hv
     rcases hv with rfl|rfl|rfl|rfl|rfl<;>exact VRel.int _ _
    have hm:=hd3.more C.only hrK hr0 hd.room hrb λv hv=>int_ v hv _
    have kb2:=hd.sub _ C.kb.1
    have kb3:=hd.sub _ C.kb.2.1
    have kb4:=hd.sub _ C.kb.2.2.1
    have kcb:=hd.sub _ C.kb.2.2.2.1
    have ksb:=hd.sub _ C.kb.2.2.2.2
    have toK:∀v,InK SB H K v->InK SB H (λb=>K b\/b=w.heap.size) v:=λv hv=>hv.mono λb hb=>.inl hb
    have clo:InK SB H (λb=>K b\/b=w.heap.size) (.func (.func 68) #[] #[.pointer (some ⟨b4,0,none⟩),.pointer (some ⟨b2,0,none⟩),.pointer (some ⟨w.heap.size,0,none⟩),.pointer (some ⟨b3,0,none⟩)]):=InK.func C.s92 (l:=[.pointer (some ⟨b4,0,none⟩),.pointer (some ⟨b2,0,none⟩),.pointer (some ⟨w.heap.size,0,none⟩),.pointer (some ⟨b3,0,none⟩)]) λv hv=>by
     simp only[List.mem_cons,List.not_mem_nil,or_false] at hv
     rcases hv with rfl|rfl|rfl|rfl
     ·exact InK.ptr (.inl kb4) _ _
     ·exact InK.ptr (.inl kb2) _ _
     ·exact InK.ptr (.inr rfl) _ _
     ·exact InK.ptr (.inl kb3) _ _
    have hga:GoAt SB BB H Gn Wg Toy Ψ0 Pr T Kb Ok b2 b3 b4 (sets i) (tpOf i) K _ w.heap.size x X W:={
     op:=⟨ex,C.hB,⟨_,rfl,rfl,rfl,rfl⟩,by decide,rfl,⟨Tryz.func68,Tryz.func68,by kernel_rfl,rfl⟩,C.s92⟩
     gl:=gl,wl:=wl,h:=eH,t:=eT,pr:=hpr,toys:=h0,toy:=toy,wg:=wg,tw:=tw,head:=hd3,rb:=hrb,rK:=⟨hrK,hr0,hd.room⟩
     cut:=by
      refine⟨⟨rfl,allIn (l:=[_,_,_,_,_,_,_,_,_,_,_,_,_,_,_,_,_,_,_,_,_,_,_,_,_,_,_]) λv hv=>?_,C.todo _,.nil,.run,rfl,⟨(by show CallKind.normal≠.early;decide),C.s49⟩,.none⟩,⟨[bad],.base⟩,λb hb hh=>⟨hh,?_⟩,λb hb hh=>⟨hm.hid b hb hh,.inl hh⟩,by rw[cj];exact Nat.le_refl _,hm.old,fg _ _,⟨C.twin,C.twin⟩,λh=>h⟩
      ·simp only[List.mem_cons,List.not_mem_nil,or_false] at hv
       rcases hv with rfl|rfl|rfl|rfl|rfl|rfl|rfl|rfl|rfl|rfl|rfl|rfl|rfl|rfl|rfl|rfl|rfl|rfl|rfl|rfl|rfl|rfl|rfl|rfl|rfl|rfl|rfl
       ·exact InK.ptr (.inl kcb) _ _
       ·exact toK _ (C.hp1.mono hd.sub)
       ·exact InK.ptr (.inl kb2) _ _
       ·exact InK.ptr (.inl kb3) _ _
       ·exact InK.ptr (.inl kb4) _ _
       ·exact toK _ (hJ _ (by simp))
       ·exact VRel.int _ _
       ·exact InK.ptr (.inr rfl) _ _
       ·exact toK _ (hJ _ (by simp))
       ·exact toK _ (hJ _ (by simp))
       ·exact toK _ (hJ _ (by simp))
       ·exact InK.slice (.inl ksb) _ _ _ _
       ·exact VRel.int _ _
       ·exact VRel.int _ _
       ·exact VRel.bool _
       ·exact InK.ptr (.inl ksb) _ _
       ·exact VRel.int _ _
       ·exact VRel.int _ _
       ·exact InK.agg (l:=[.int .u8 (sets i),.int .u8 0,.int .u8 0,.int .u8 0,.int .u8 0]) λv hv=>int_ v hv _
       ·exact InK.ptr (.inl kcb) _ _
       ·exact toK _ (jk _ _ _)
       ·exact VRel.int _ _
       ·exact VRel.bool _
       ·exact VRel.undef _ _
       ·exact clo
       ·exact toK _ (hJ _ (by simp))
       ·exact toK _ (hJ _ (by simp))
      ·obtain⟨_,o,h2,h3⟩:=hm.base b hb hh
       refine⟨o,h2,h3,?_⟩
       rcases hb with hb|rfl
       ·have hne:b≠w.heap.size:=λe=>hrK (e▸hb)
        exact .inl (by rw[<-dW x.w hne];exact h2)
       ·rw[cA hrb] at h2
        cases h2
        exact .inr ⟨_,_,_,_,hrb,rfl,λi h1 h2=>⟨Nat.zero_le _,by simp at h1 h2⟩⟩ }
    obtain⟨X',child,xk,o,Pk,Q,g1,g2,g3,g4⟩:=C.go i hin hk K _ _ x X W hga
    refine⟨X',child,_,xk,_,o,Pk,Q,g1,g2,rfl,λb B h=>⟨.inl (hd.sub _ (hPr b B h)),hpr b B h⟩,?_,g3,g4⟩
    refine sQ (cb:=cb) (v25:=v25) (cs:=[bad]) C.hB (cC C.fins _) (by simp) (C.wrap i hin) ?_
    refine ih (i+1) (by omega) _ _ hm _ _ _ _ _ _ _ _ _ _ _ _ _ _ _ _ _ _ _ λv hv=>?_
    simp only[List.mem_cons,List.not_mem_nil,or_false] at hv
    rcases hv with rfl|rfl|rfl|rfl|rfl|rfl|rfl|rfl|rfl|rfl|rfl
    ·exact toK _ (hJ _ (by simp))
    ·exact toK _ (hJ _ (by simp))
    ·exact toK _ (hJ _ (by simp))
    ·exact toK _ (hJ _ (by simp))
    ·exact toK _ (jk _ _ _)
    ·exact VRel.int _ _
    ·exact VRel.bool _
    ·exact VRel.undef _ _
    ·exact clo
    ·exact VRel.int _ _
    ·exact toK _ (hJ _ (by simp))
   ·refine(rC (cb:=0) (v20:=undef) C.hB (cC C.fins _) (by simp) (C.wrap i hin) hk ?_).mono (λ_ _ h=>h) λ_ _ h=>qm _ h
    have:=ih (i+1) (by omega) K w2 hd2 v5 (.int .u8 (sets i)) (.pointer (some ⟨w.heap.size,0,none⟩)) v8 v9 v10 (.bool true) (.pointer (some ⟨sb,i,none⟩)) (.int .u8 (sets i)) (.int .u8 (sets i)) (.agg #[.int .u8 (sets i),.int .u8 0,.int .u8 0,.int .u8 0,.int .u8 0]) (.pointer (some ⟨cb,0,none⟩))
     (.agg #[.int .i64 (kind i),.int .i64 y1,.int .i64 y2]) (.int .i64 (kind i)) (.bool true) v23 v24 (.int .i64 ((i+1:Nat):Int)) v26 (λv hv=>?_)
    ·rw[C.tpk i hin hk] at this
     exact this
    ·simp only[List.mem_cons,List.not_mem_nil,or_false] at hv
     rcases hv with rfl|rfl|rfl|rfl|rfl|rfl|rfl|rfl|rfl|rfl|rfl
     ·exact hJ _ (by simp)
     ·exact hJ _ (by simp)
     ·exact hJ _ (by simp)
     ·exact hJ _ (by simp)
     ·exact jk _ _ _
     ·exact VRel.int _ _
     ·exact VRel.bool _
     ·exact hJ _ (by simp)
     ·exact hJ _ (by simp)
     ·exact VRel.int _ _
     ·exact hJ _ (by simp)
end
end Go.Proofs.YtjmmlkobmhlikaaGreat
