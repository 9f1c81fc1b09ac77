/- Parts of the proof. -/
import Derived.Test.YtjmmlkobmhlikaaGreatP07
import Derived.Test.YtjmmlkobmhlikaaGreatP10
import Derived.Conc.Beside
set_option linter.all false
namespace Go.Co
open Go.Iso Go.Conc Go.ConcN
structure Lone where
 g:Goroutine
 w:World
 H:Hid
 β:Bij
 T:List Frame
structure Keep where
 at_:Nat->Prop
 w:World
 bd:Nat
def inBlock (B:Nat):Loc->Prop
 |.cell a=>a.block=B
 |.obj r=>r=B
 |_=>False
def WrOf (x:Lone)(l:Loc):Prop:=∃b B,x.β b B/\x.H b=false/\¬Ro x.w b/\inBlock B l
def RdOf (x:Lone)(l:Loc):Prop:=∃b B,x.β b B/\x.H b=false/\inBlock B l
def Shd (Dead:Nat->Prop)(Wg:Nat)(l:Loc):Prop:=∃a:Addr,l=.cell a/\(Dead a.block\/a.block=Wg)
section
variable (P:Two) (SB BB:FuncId->Bool) (lets:Bool) (Gn:Nat)
abbrev GLike (x:Lone)(g:Goroutine):Prop:=GRel P SB x.H lets BB x.T x.β x.g g
abbrev WLike (x:Lone)(W:World):Prop:=WRel (SP SB x.H) (CK P.a SB lets) Gn x.β x.w W
abbrev FinOf (x:Lone)(W:World)(β':Bij)(w' W':World)(ES:List Event):Prop:=Fin (SP SB x.H) (CK P.a SB lets) Gn x.β β' (on x.w W.tape W.drawn) W w' W' ES
structure Cw (Wg:Nat)(Dead Toy:Nat->Prop)(Kp:Keep)(L:Nat->Option Lone)(own:Option Nat)(W:World):Prop where
 like:∀i x,L i=some x->WLike P SB lets Gn x W
 twin:∀i x,L i=some x->x.H.twin=false
 wgh:∀i x,L i=some x->∀b,x.β b Wg->x.H b=true
 dead:∀i x,L i=some x->∀b B,x.β b B->¬Dead B
 toy:∀i x,L i=some x->own≠some i->∀b B,x.β b B->Toy B->x.H b=true
 sep:∀i j x y,i≠j->L i=some x->L j=some y->Sep (SP SB x.H) x.β x.w (SP SB y.H) y.β y.w
 low:Wg<W.heap.size/\(∀B,Dead B->B<W.heap.size)/\∀B,Toy B->B<W.heap.size
 toyW:∀B,Toy B->B≠Wg/\¬Dead B
 keep:∀B,Kp.at_ B->B<W.heap.size/\B≠Wg/\W.heap[B]?=Kp.w.heap[B]?
 keepx:∀i x,L i=some x->∀b B,x.β b B->Kp.at_ B->x.H b=true\/Ro x.w b
 toyK:∀B,Toy B->¬Kp.at_ B
 osk:W.os=Kp.w.os/\W.output=Kp.w.output
def put (L:Nat->Option Lone)(i:Nat)(x:Option Lone):Nat->Option Lone:=λj=>if j=i then x else L j
end
def put_same (L:Nat->Option Lone)(i:Nat)(x:Option Lone):put L i x i=x:=by simp[put]
def put_ne (L:Nat->Option Lone){i j:Nat}(x:Option Lone)(h:j≠i):put L i x j=L j:=by simp[put,h]
section
variable {P:Two} {SB BB:FuncId->Bool} {lets:Bool} {Gn:Nat} {Wg:Nat} {Dead Toy:Nat->Prop} {Kp:Keep} {L:Nat->Option Lone} {own:Option Nat} {W W':World} {i:Nat} {x:Lone} {β':Bij} {w':World} {ES:List Event}
def Cw.same (c:Cw P SB lets Gn Wg Dead Toy Kp L own W)(hi:L i=some x)(f:FinOf P SB lets Gn x W β' w' W' ES){B:Nat}(hB:B<W.heap.size)(h:∀b,x.β b B->x.H b=true):W'.heap[B]?=W.heap[B]?:=by
 by_cases hx:∃b,x.β b B
 ·obtain⟨b,hb⟩:=hx
  exact f.hk b B hb (h b hb)
 ·exact f.KEPT B hB λb hb=>hx ⟨b,hb⟩
def Cw.step (c:Cw P SB lets Gn Wg Dead Toy Kp L own W)(hi:L i=some x)(f:FinOf P SB lets Gn x W β' w' W' ES)(g':Goroutine) :
  Cw P SB lets Gn Wg Dead Toy Kp (put L i (some ⟨g',w',x.H,β',x.T⟩)) own W':=by
 have hx:=c.like i x hi
 have hx':WRel (SP SB x.H) (CK P.a SB lets) Gn x.β (on x.w W.tape W.drawn) W:=hx.same rfl rfl hx.env
 have old:∀b B,β' b B->B<W.heap.size->x.β b B:=λb B hb hB=>(f.new b B hb).elim id λh=>absurd h.2 (Nat.not_le.2 hB)
 refine⟨λj y hj=>?_,λj y hj=>?_,λj y hj=>?_,λj y hj=>?_,λj y hj=>?_,λj k y z hjk hj hk=>?_,⟨Nat.lt_of_lt_of_le c.low.1 f.SIZE,λB hB=>Nat.lt_of_lt_of_le (c.low.2.1 B hB) f.SIZE,λB hB=>Nat.lt_of_lt_of_le (c.low.2.2 B hB) f.SIZE⟩,c.toyW,λB hB=>?_,λj y hj=>?_,c.toyK,f.OS.trans c.osk.1,f.OUT.trans c.osk.2⟩
 ·by_cases e:j=i
  ·subst e;rw[put_same] at hj;cases hj;exact f.rel
  ·rw[put_ne L _ e] at hj
   exact(c.like j y hj).others (c.twin j y hj) hx' f (c.sep i j x y (Ne.symm e) hi hj)
 ·by_cases e:j=i
  ·subst e;rw[put_same] at hj;cases hj;exact c.twin j x hi
  ·rw[put_ne L _ e] at hj;exact c.twin j y hj
 ·by_cases e:j=i
  ·subst e;rw[put_same] at hj;cases hj
   exact λb hb=>c.wgh j x hi b (old b Wg hb c.low.1)
  ·rw[put_ne L _ e] at hj;exact c.wgh j y hj
 ·by_cases e:j=i
  ·subst e;rw[put_same] at hj;cases hj
   exact λb B hb hd=>c.dead j x hi b B (old b B hb (c.low.2.1 B hd)) hd
  ·rw[put_ne L _ e] at hj;exact c.dead j y hj
 ·by_cases e:j=i
  ·subst e;rw[put_same] at hj;cases hj
   exact λho b B hb ht=>c.toy j x hi ho b B (old b B hb (c.low.2.2 B ht)) ht
  ·rw[put_ne L _ e] at hj;exact c.toy j y hj
 ·by_cases e:j=i
  ·subst e
   rw[put_same] at hj;cases hj
   rw[put_ne L _ (Ne.symm hjk)] at hk
   exact Sep.kept (c.like k z hk) f (c.sep j k x z hjk hi hk)
  ·rw[put_ne L _ e] at hj
   by_cases e':k=i
   ·subst e'
    rw[put_same] at hk;cases hk
    exact(Sep.kept (c.like j y hj) f (c.sep k j x y (Ne.symm hjk) hi hj)).symm
   ·rw[put_ne L _ e'] at hk
    exact c.sep j k y z hjk hj hk
 ·obtain⟨k1,k2,k3⟩:=c.keep B hB
  refine⟨Nat.lt_of_lt_of_le k1 f.SIZE,k2,?_⟩
  rw[<-k3]
  by_cases hx:∃b,x.β b B
  ·obtain⟨b,hb⟩:=hx
   rcases c.keepx i x hi b B hb hB with h|⟨cs,ty,z,q1,q2⟩
   ·exact f.hk b B hb h
   ·exact(f.ro b B cs ty z hb q1 q2).2
  ·exact f.KEPT B k1 λb hb=>hx ⟨b,hb⟩
 ·by_cases e:j=i
  ·subst e;rw[put_same] at hj;cases hj
   intro b B hb hB
   have h0:=old b B hb (c.keep B hB).1
   exact(c.keepx j x hi b B h0 hB).imp id λh=>h.kept f h0
  ·rw[put_ne L _ e] at hj;exact c.keepx j y hj
def Cw.group (c:Cw P SB lets Gn Wg Dead Toy Kp L own W)(h:Aside Wg W W')(hw:∃c t f,W'.heap[Wg]?=some (.cells c t f)):Cw P SB lets Gn Wg Dead Toy Kp L own W':=by
 refine⟨λj y hj=>?_,c.twin,c.wgh,c.dead,c.toy,c.sep,by rw[h.size];exact c.low,c.toyW,λB hB=>⟨by rw[h.size];exact(c.keep B hB).1,(c.keep B hB).2.1,(h.block B (c.keep B hB).2.1).trans (c.keep B hB).2.2⟩,c.keepx,c.toyK,h.os.trans c.osk.1,h.output.trans c.osk.2⟩
 have k:=c.like j y hj
 refine⟨k.fine,by rw[h.size];exact k.room,λb B hb hh=>?_,λb B hb hh=>?_,k.old,by rw[h.os];exact k.env⟩
 ·have hne : B ≠ Wg := fun e => by
   have:=c.wgh j y hj b (e▸hb)
   have hh':y.H b=false:=hh
   rw[hh'] at this;cases this
  rw[h.block B hne]
  exact k.objs b B hb hh
 ·obtain⟨h1,h2,h3⟩:=k.hids b B hb hh
  refine⟨h1,λht=>?_,λht=>?_⟩
  ·by_cases e:B=Wg
   ·rw[e];exact hw
   ·rw[h.block B e];exact h2 ht
  ·have:=c.twin j y hj
   have ht':y.H.twin=true:=ht
   rw[this] at ht';cases ht'
def Cw.drop (c:Cw P SB lets Gn Wg Dead Toy Kp L own W)(i:Nat):Cw P SB lets Gn Wg Dead Toy Kp (put L i none) own W:=by
 have get:∀ {j y},put L i none j=some y->L j=some y:=λ{j y} h=>by
  by_cases e:j=i
  ·subst e;rw[put_same] at h;cases h
  ·rwa [put_ne L _ e] at h
 exact⟨λj y hj=>c.like j y (get hj),λj y hj=>c.twin j y (get hj),λj y hj=>c.wgh j y (get hj),λj y hj=>c.dead j y (get hj),λj y hj=>c.toy j y (get hj),λj k y z hne hj hk=>c.sep j k y z hne (get hj) (get hk),c.low,c.toyW,c.keep,λj y hj=>c.keepx j y (get hj),c.toyK,c.osk⟩
def Cw.at (c:Cw P SB lets Gn Wg Dead Toy Kp L own W)(d:Nat):Cw P SB lets Gn Wg Dead Toy Kp L own (W.at d) :=
 ⟨λj y hj=>(c.like j y hj).same rfl rfl (c.like j y hj).env,c.twin,c.wgh,c.dead,c.toy,c.sep,c.low,c.toyW,c.keep,c.keepx,c.toyK,c.osk⟩
def WrA (Toy:Nat->Prop)(L:Nat->Option Lone)(tp:Bool)(j:Nat)(l:Loc):Prop:=(∃x,L j=some x/\WrOf x l)\/(j=0/\tp=true/\∃B,Toy B/\inBlock B l)
def RdA (Toy:Nat->Prop)(L:Nat->Option Lone)(tp:Bool)(j:Nat)(l:Loc):Prop:=(∃x,L j=some x/\RdOf x l)\/(j=0/\tp=true/\∃B,Toy B/\inBlock B l)
def inBlock_mem {B:Nat}{l:Loc}(h:inBlock B l):l.isMemory=true:=by cases l<;>first|rfl|exact h.elim
def inBlock_inj {B B':Nat}{l:Loc}(h:inBlock B l)(h':inBlock B' l):B=B':=by
 cases l<;>first|exact h.symm.trans h'|exact h.elim
def ff {Toy:Nat->Prop}{L:Nat->Option Lone}{tp:Bool}{j:Nat}{l:Loc}(h:WrA Toy L tp j l):RdA Toy L tp j l:=by
 rcases h with⟨x,h1,b,B,h2,h3,_,h4⟩|h
 ·exact .inl ⟨x,h1,b,B,h2,h3,h4⟩
 ·exact .inr h
def Cw.apart {tp:Bool}(c:Cw P SB lets Gn Wg Dead Toy Kp L own W)(ht:tp=true->own=none){j k:Nat}(hjk:j≠k)(l:Loc):WrA Toy L tp j l->¬RdA Toy L tp k l:=by
 rintro(⟨x,hx,b,B,h1,h2,h3,h4⟩|⟨rfl,h0,B,h1,h4⟩) (⟨y,hy,b',B',k1,k2,k4⟩|⟨rfl,k0,B',k1,k4⟩)
 ·obtain rfl:=inBlock_inj h4 k4
  rcases c.sep j k x y hjk hx hy b b' B h1 k1 with h|h|⟨h,_⟩
  ·have h':x.H b=true:=h
   rw[h2] at h';cases h'
  ·have h':y.H b'=true:=h
   rw[k2] at h';cases h'
  ·exact h3 h
 ·obtain rfl:=inBlock_inj h4 k4
  have:=c.toy j x hx (by rw[ht k0];simp) b B h1 k1
  rw[h2] at this;cases this
 ·obtain rfl:=inBlock_inj h4 k4
  have:=c.toy k y hy (by rw[ht h0];simp) b' B k1 h1
  rw[k2] at this;cases this
 ·exact hjk rfl
def Cw.notSh {tp:Bool}(c:Cw P SB lets Gn Wg Dead Toy Kp L own W){j:Nat}{l:Loc}(h:RdA Toy L tp j l):¬Shd Dead Wg l:=by
 rintro⟨a,rfl,hs⟩
 rcases h with⟨x,hx,b,B,h1,h2,h4⟩|⟨_,_,B,h1,h4⟩
 ·have e:a.block=B:=h4
  rcases hs with hs|hs
  ·exact c.dead j x hx b B h1 (e▸hs)
  ·have:=c.wgh j x hx b (by rw[<-hs,e];exact h1)
   rw[h2] at this;cases this
 ·have e:a.block=B:=h4
  obtain⟨t1,t2⟩:=c.toyW B h1
  rcases hs with hs|hs
  ·exact t2 (e▸hs)
  ·exact t1 (e.symm.trans hs)
def Cw.okOps {tp:Bool}{k:Nat}{x':Lone}(c:Cw P SB lets Gn Wg Dead Toy Kp L own W)(hk:L k=some x')(he:∀E∈ES,EOk x'.β x'.w E){fn:FuncId}{pos:String} :
  ∀op∈MemOp.ofEvents k fn pos ES.toArray,OkOp (Shd Dead Wg) (WrA Toy L tp) (RdA Toy L tp) k op:=by
 intro op hop
 obtain⟨e,hee,rfl⟩:=Go.Conc.mem_ofEvents hop
 refine⟨rfl,λt ht=>?_⟩
 have hE:=he e (by simpa using hee)
 have nonhid:∀b B,x'.β b B->(∃n,(x'.w.heap[b]?).map kindOf=some n/\n≠1)->x'.H b=false:=by
  intro b B hb ⟨n,hn,h1⟩
  cases hh:x'.H b with
  |false=>rfl
  |true =>
   rw[((c.like k x' hk).hids b B hb hh).1] at hn
   simp[kindOf] at hn
   exact absurd hn.symm h1
 cases hE with
 |@cell a A wr sy hb ho hn hw =>
  have hh:=nonhid _ _ hb (let ⟨n,h1,_⟩:=hn;⟨_,h1,by omega⟩)
  have hr:RdA Toy L tp k (.cell A):=.inl ⟨x',hk,a.block,A.block,hb,hh,rfl⟩
  have hl:t.loc=.cell A/\t.write=wr:=by
   simp[MemAct.ofEvent,MemAct.touch?] at ht
   subst ht;exact⟨rfl,rfl⟩
  rw[hl.1]
  refine .inr (.inr ⟨c.notSh hr,λhwr=>.inl ⟨x',hk,a.block,A.block,hb,hh,?_,rfl⟩,λ_=>hr⟩)
  rintro⟨cs,ty,f,hc,hf⟩
  obtain⟨n,h1,h2⟩:=hn
  rw[hc] at h1
  simp[kindOf] at h1
  have h0:=hw (by rw[<-hl.2];exact hwr)
  rw[aS,hc] at h0
  obtain⟨p,q⟩:=hf a.off (by omega)
  simp[frz,p,q] at h0
 |@obj r R wr sy hb hn =>
  have hh:=nonhid _ _ hb ⟨2,hn,by decide⟩
  have hr:RdA Toy L tp k (.obj R):=.inl ⟨x',hk,r,R,hb,hh,rfl⟩
  have hl:t.loc=.obj R:=by
   cases wr<;>cases sy<;>simp[MemAct.ofEvent,MemAct.touch?] at ht<;>subst ht<;>rfl
  rw[hl]
  refine .inr (.inr ⟨c.notSh hr,λ_=>.inl ⟨x',hk,r,R,hb,hh,?_,rfl⟩,λ_=>hr⟩)
  rintro⟨cs,ty,f,hc,_⟩
  rw[hc] at hn
  simp[kindOf] at hn
 |mark hm=>cases hm<;>simp[MemAct.ofEvent,MemAct.touch?] at ht
 |out=>simp[MemAct.ofEvent,MemAct.touch?] at ht;subst ht;exact .inl rfl
def Cw.tiStep {tp:Bool}{N:Nat}{t:Trace}(c:Cw P SB lets Gn Wg Dead Toy Kp L own W)(hi:L i=some x)(f:FinOf P SB lets Gn x W β' w' W' ES)(g':Goroutine)(ht:tp=true->own=none)(hN:i<N)
  (h:TI (Shd Dead Wg) (WrA Toy L tp) (RdA Toy L tp) N t) (hlow:∀op∈t,op.act.low W.heap.size) {fn:FuncId} {pos:String} :
  TI (Shd Dead Wg) (WrA Toy (put L i (some ⟨g',w',x.H,β',x.T⟩)) tp) (RdA Toy (put L i (some ⟨g',w',x.H,β',x.T⟩)) tp) N (t++MemOp.ofEvents i fn pos ES.toArray):=by
 have c':=c.step hi f g'
 have fresh:∀B l,W.heap.size<=B->inBlock B l->fT t l:=by
  intro B l hB hl j a ha e
  obtain⟨op,hop,hoa⟩:=touch_of ha
  have hlo:=hlow op (Array.mem_of_getElem? hop)
  rw[<-e] at hl
  have key:∀(act:MemAct) (a:Touch),act.touch?=some a->act.low W.heap.size->inBlock B a.loc->False:=by
   intro act a ha hlo hl
   cases act with
   |access ev =>
    simp only[MemAct.touch?,Option.some.injEq] at ha
    subst ha
    obtain⟨loc,wr,sy⟩:=ev
    cases loc<;>first|exact hl.elim|(simp only[inBlock] at hl;simp only[MemAct.low,Loc.low] at hlo;omega)
   |mark m =>
    cases m<;>simp[MemAct.touch?] at ha
    all_goals
     subst ha
     simp only[inBlock] at hl
     simp only[MemAct.low] at hlo
     omega
   |_=>simp[MemAct.touch?] at ha
  exact key op.act a hoa hlo hl
 refine h.app hN (c'.okOps (put_same L i _) (λE hE=>f.evs (c.twin i x hi) E hE)) (λj hj l=>?_) (λl hl=>?_) (λl hl=>?_) (λj l hs=>?_) (λl hl=>?_) (λj hj _ l=>?_)
 ·unfold WrA RdA
  rw[put_ne L _ hj]
  exact⟨id,id⟩
 ·rcases hl with⟨y,hy,b,B,h1,h2,h3,h4⟩|⟨h1,h2,h3⟩
  ·rw[put_same] at hy;cases hy
   rcases f.new b B h1 with h0|⟨_,h0⟩
   ·exact .inl (.inl ⟨x,hi,b,B,h0,h2,λhr=>h3 (hr.kept f h0),h4⟩)
   ·exact .inr (fresh B l h0 h4)
  ·exact .inl (.inr ⟨h1,h2,h3⟩)
 ·rcases hl with⟨y,hy,b,B,h1,h2,h4⟩|⟨h1,h2,h3⟩
  ·rw[put_same] at hy;cases hy
   rcases f.new b B h1 with h0|⟨_,h0⟩
   ·exact .inl (.inl ⟨x,hi,b,B,h0,h2,h4⟩)
   ·exact .inr (fresh B l h0 h4)
  ·exact .inl (.inr ⟨h1,h2,h3⟩)
 ·exact⟨λhw=>c'.notSh (ff hw) hs,λhr=>c'.notSh hr hs⟩
 ·rcases hl with⟨a,rfl,_⟩|⟨j,hl⟩
  ·rfl
  ·have hr:RdA Toy (put L i (some ⟨g',w',x.H,β',x.T⟩)) tp j l:=hl.elim ff id
   rcases hr with⟨y,_,b,B,_,_,h4⟩|⟨_,_,B,_,h4⟩<;>exact inBlock_mem h4
 ·exact⟨λhw=>⟨c'.apart ht (Ne.symm hj) l hw,λhw'=>c'.apart ht (Ne.symm hj) l hw (ff hw')⟩,λhr hw'=>c'.apart ht hj l hw' hr⟩
def dE (f:FinOf P SB lets Gn x W β' w' W' ES)(ht:x.H.twin=false){k:Nat}{fn:FuncId}{pos:String}:∀op∈MemOp.ofEvents k fn pos ES.toArray,op.act.low W'.heap.size:=by
 intro op hop
 obtain⟨e,hee,rfl⟩:=Go.Conc.mem_ofEvents hop
 have hE:=f.evs ht e (by simpa using hee)
 cases hE with
 |@cell a A wr sy hb _ _ _ =>
  have:=(f.rel.lt hb).2
  show MemAct.low _ (MemAct.ofEvent ⟨.cell A,wr,sy⟩)
  simpa [MemAct.ofEvent,MemAct.low,Loc.low] using this
 |@obj r R wr sy hb _ =>
  have:=(f.rel.lt hb).2
  show MemAct.low _ (MemAct.ofEvent ⟨.obj R,wr,sy⟩)
  cases wr<;>cases sy<;>simpa [MemAct.ofEvent,MemAct.low,Loc.low] using this
 |mark hm=>cases hm<;>simp[MemAct.ofEvent,MemAct.low]
 |out=>simp[MemAct.ofEvent,MemAct.low,Loc.low]
def bZ (f:FinOf P SB lets Gn x W β' w' W' ES)(ht:x.H.twin=false):∀e∈ES.toArray,e.loc≠.mark .disable/\e.loc≠.mark .enable/\∀a,e.loc≠.mark (.release a):=by
 intro e hee
 have hE:=f.evs ht e (by simpa using hee)
 cases hE with
 |mark hm=>cases hm<;>simp
 |_=>simp
end
open Go.Iso Go.Conc Go.ConcN
open Go.ConcR (KK WgAt stA smA rd wr mk DC0 Bk g_of_ofEvents bk_of_mute ofEvent_loc_mark ofEvent_cell ofEvent_mk)
inductive Wm where
 |born (Q:Goroutine->World->Prop) (y:Goroutine×World)
 |tree (Q:Goroutine->World->Prop) (y:Goroutine×World)
 |st (s m:Nat)
inductive Wlt (p:Program):Wm->Wm->Prop
 |tree {Q:Goroutine->World->Prop} {x y:Goroutine×World}:¬Q y.1 y.2->After p x y->Wlt p (.tree Q x) (.tree Q y)
 |off {s m:Nat} {Q:Goroutine->World->Prop} {y:Goroutine×World}:Wlt p (.st s m) (.tree Q y)
 |un {Q:Goroutine->World->Prop} {y:Goroutine×World}:Wlt p (.tree Q y) (.born Q y)
 |offb {s m:Nat} {Q:Goroutine->World->Prop} {y:Goroutine×World}:Wlt p (.st s m) (.born Q y)
 |stage {s m s' m':Nat}:s<s'->Wlt p (.st s m) (.st s' m')
 |fuel {s m m':Nat}:m<m'->Wlt p (.st s m) (.st s m')
def uu (p:Program):∀s m,Acc (Wlt p) (.st s m):=by
 intro s
 induction s using Nat.strongRecOn with
 |_ s ihs =>
  intro m
  induction m using Nat.strongRecOn with
  |_ m ihm =>
   refine .intro _ λy h=>?_
   cases h with
   |stage h=>exact ihs _ h _
   |fuel h=>exact ihm _ h
def ut {p:Program}{BB:FuncId->Bool}{Q:Goroutine->World->Prop}{d:Nat}{g:Goroutine}{w:World}(h:KTr p BB Q d g w):Acc (Wlt p) (.tree Q (g,w)):=by
 induction h with
 |fin h =>
  refine .intro _ λz hz=>?_
  cases hz with
  |tree hn _=>exact absurd h hn
  |off=>exact uu p _ _
 |next ng nw h1 h2 _ ih =>
  refine .intro _ λz hz=>?_
  cases hz with
  |@tree _ x _ _ ha =>
   obtain⟨g',w'⟩:=x
   obtain⟨τ,d,es,e,_⟩:=ha
   obtain⟨⟨es',e'⟩,_⟩:=h2 τ d
   rw[e] at e'
   cases e'
   exact ih τ d
  |off=>exact uu p _ _
 |spec h1 h2 h3 h4 h5 h6 _ ih =>
  refine .intro _ λz hz=>?_
  cases hz with
  |@tree _ x _ _ ha =>
   obtain⟨g',w'⟩:=x
   obtain⟨τ,n,es,e,_⟩:=ha
   dsimp only at e
   rw[(h6.same uj).step h3 h4 h5] at e
   cases e
   exact ih τ n
  |off=>exact uu p _ _
def uO {p:Program}{BB:FuncId->Bool}{Q:Goroutine->World->Prop}{d:Nat}{g:Goroutine}{w:World}(h:KTr p BB Q d g w):Acc (Wlt p) (.born Q (g,w)):=by
 refine .intro _ λz hz=>?_
 cases hz with
 |un=>exact ut h
 |offb=>exact uu p _ _
section
variable (P:Two) (SB BB:FuncId->Bool) (lets:Bool) (Gn:Nat) (ty Wg:Nat) (Ψ2:World->Prop)
def ca (Q:Goroutine->World->Prop)(H:Hid)(T:List Frame)(wl:Bij)(o:Bool):Prop :=
 ∀(x:Lone) (g:Goroutine) (W:World),x.H=H->x.T=T->wl.le x.β->Q x.g x.w->GLike P SB BB lets x g->WLike P SB lets Gn x W->WgLive ty Wg W ->
  (∃m,GW P.b ty Wg false (R0 P.b ty Wg) m g W)/\(o=true->Ψ2 W)
def kD (x:Lone)(child:Goroutine):Prop:=child.status=.running/\∃G1,(∀W,stepG P.b false child W=.go G1 W #[])/\GLike P SB BB lets x G1
inductive KSit:Nat->Nat->Wm->Option Lone->Bool->Goroutine->World->Prop
 | born {x : Lone} {wl : Bij} {Q : Goroutine -> World -> Prop} {o : Bool} {g : Goroutine} {W : World} : wl.le x.β -> ca P SB BB lets Gn ty Wg Ψ2 Q x.H x.T wl o -> (∀ g w, Q g w -> BB g.frame.fn = false) -> KTr P.a BB Q 0 x.g x.w -> kD P SB BB lets x g ->
   KSit 7 0 (.born Q (x.g,x.w)) (some x) o g W
 | tree {x : Lone} {wl : Bij} {Q : Goroutine -> World -> Prop} {o : Bool} {d : Nat} {g : Goroutine} {W : World} : wl.le x.β -> ca P SB BB lets Gn ty Wg Ψ2 Q x.H x.T wl o -> (∀ g w, Q g w -> BB g.frame.fn = false) -> KTr P.a BB Q d x.g x.w -> GLike P SB BB lets x g ->
   KSit 7 d (.tree Q (x.g,x.w)) (some x) o g W
 |r0 {m:Nat} {g:Goroutine} {W:World}:GW P.b ty Wg false (R0 P.b ty Wg) m g W->KSit 7 0 (.st 7 m) none false g W
 |k1 {m:Nat} {g:Goroutine} {W:World}:GW P.b ty Wg false (K1 P.b ty Wg) m g W->KSit 6 0 (.st 6 m) none false g W
 |d1 {m:Nat} {g:Goroutine} {W:World}:GW P.b ty Wg false (D1 P.b ty Wg) m g W->KSit 5 1 (.st 5 m) none false g W
 |d2 {m:Nat} {g:Goroutine} {W:World}:GW P.b ty Wg false (D2 P.b ty Wg) m g W->KSit 4 1 (.st 4 m) none false g W
 |d3 {m:Nat} {g:Goroutine} {W:World}:GW P.b ty Wg false (D3 P.b ty Wg) m g W->KSit 3 1 (.st 3 m) none false g W
 |d4 {m:Nat} {g:Goroutine} {W:World}:GW P.b ty Wg false (AtD4 P.b ty Wg) m g W->KSit 2 1 (.st 2 m) none false g W
 |quit {q d:Nat} {g:Goroutine} {W:World}:QuitsD P.b q d g->KSit 1 d (.st 1 q) none false g W
end
section
variable {P:Two} {SB BB:FuncId->Bool} {lets:Bool} {Gn:Nat} {ty Wg:Nat} {Ψ2:World->Prop} {s d:Nat} {m:Wm} {x:Option Lone} {o:Bool} {g:Goroutine} {W W':World}
def KSit.rely (h:KSit P SB BB lets Gn ty Wg Ψ2 s d m x o g W)(r:RL ty Wg W W'):KSit P SB BB lets Gn ty Wg Ψ2 s d m x o g W':=by
 cases h with
 |born a b z c e=>exact .born a b z c e
 |tree a b z c e=>exact .tree a b z c e
 |r0 h=>exact .r0 (Goes.rely RL.trans h r)
 |k1 h=>exact .k1 (Goes.rely RL.trans h r)
 |d1 h=>exact .d1 (Goes.rely RL.trans h r)
 |d2 h=>exact .d2 (Goes.rely RL.trans h r)
 |d3 h=>exact .d3 (Goes.rely RL.trans h r)
 |d4 h=>exact .d4 (Goes.rely RL.trans h r)
 |quit h=>exact .quit h
def KSit.status (h:KSit P SB BB lets Gn ty Wg Ψ2 s d m x o g W):g.status=.running\/(g.status=.finished/\s=1):=by
 cases h with
 |born _ _ _ _ e=>exact .inl e.1
 |tree _ _ _ _ e=>exact .inl e.status.2
 |r0 h=>exact .inl (Goes.running (λ_ _ x=>x.1) W (RL.refl W) h)
 |k1 h=>exact .inl (Goes.running (λ_ _ x=>x.1) W (RL.refl W) h)
 |d1 h=>exact .inl (Goes.running (λ_ _ x=>x.1) W (RL.refl W) h)
 |d2 h=>exact .inl (Goes.running (λ_ _ x=>x.1) W (RL.refl W) h)
 |d3 h=>exact .inl (Goes.running (λ_ _ x=>x.1) W (RL.refl W) h)
 |d4 h=>exact .inl (Goes.running (λ_ _ x=>x.1) W (RL.refl W) h)
 |quit h=>exact h.status.imp id λe=>⟨e,rfl⟩
def KSit.acc (h:KSit P SB BB lets Gn ty Wg Ψ2 s d m x o g W):Acc (Wlt P.a) m:=by
 cases h with
 |born _ _ _ h _=>exact uO h
 |tree _ _ _ h _=>exact ut h
 |_=>exact uu _ _ _
def KSit.stages (h:KSit P SB BB lets Gn ty Wg Ψ2 s d m x o g W):s<=6\/s=7:=by
 cases h<;>omega
def KSit.woken (h:KSit P SB BB lets Gn ty Wg Ψ2 s d m x o g W)(a a':Goroutine)(w':World):woken P.b a a' w' g=g:=by
 unfold Go.Conc.woken
 split
 ·exact again_running _ (h.status.imp id (·.1))
 ·rfl
end
inductive TS where
 |start|at_ (k:Nat)|done
def TS.own:TS->Option Nat
 |.at_ k=>some k
 |_=>none
def TS.tp:TS->Bool
 |.start=>true
 |_=>false
def uz {ts:TS}(h:ts.tp=true):ts.own=none:=by cases ts<;>first|rfl|cases h
def PdOf (j0 j:Nat)(D:Nat->WD)(rr:Nat->Nat)(k i:Nat):Prop:=∃a,k=a+1/\j0<=a/\a<j/\((D a).stage=7\/i<=rr a)
section
variable (P:Two) (SB BB:FuncId->Bool) (lets:Bool) (Gn:Nat) (ty Wg:Nat) (Dead Toy:Nat->Prop) (Kp:Keep) (Ψ0 Ψ2:World->Prop)
structure WI (j0 j:Nat)(gs:Array Goroutine)(W:World)(t:Trace)(D:Nat->WD)(M:Nat->Wm)(O:Nat->Bool)(L:Nat->Option Lone)(ts:TS)(rr:Nat->Nat)(st sm:Int):Prop where
 size:gs.size=j+1
 wk:∀i,i<j->∃g,gs[i+1]?=some g/\KSit P SB BB lets Gn ty Wg Ψ2 (D i).stage (D i).deaf (M i) (L (i+1)) (O i) g W
 cw:Cw P SB lets Gn Wg Dead Toy Kp L ts.own W
 tr:Tr (Shd Dead Wg) (WrA Toy L ts.tp) (RdA Toy L ts.tp) (j+1) (PdOf j0 j D rr) (stA Wg) t
 low:∀op∈t,op.act.low W.heap.size
 deafW:∀i,i<j->Deaf t (i+1)=(D i).deaf
 rel:∀i,j0<=i->i<j->(D i).stage<=6->RelBy (stA Wg) t (i+1) (rr i)
 wg:WgAt ty Wg W st sm
 own1:∀i,i<j->O i=true->ts=.at_ (i+1)
 own2:∀k,ts=.at_ k->∃i,i<j/\k=i+1/\O i=true
 toys:(ts=.start->Ψ0 W)/\(ts=.done->Ψ2 W)
 out:∀i,j<i->L i=none
 old:∀i,i<j0->(D i).stage=1
 jj:j0<=j
def ap (Toy:Nat->Prop)(Ψ:World->Prop):Prop:=∀W W':World,(∀B,Toy B->W'.heap[B]?=W.heap[B]?)->Ψ W->Ψ W'
end
section
variable {P:Two} {SB BB:FuncId->Bool} {lets:Bool} {Gn:Nat} {ty Wg:Nat} {Dead Toy:Nat->Prop} {Kp:Keep} {Ψ0 Ψ2:World->Prop}
 {j0 j:Nat} {gs:Array Goroutine} {W W':World} {t:Trace} {D:Nat->WD} {M:Nat->Wm} {O:Nat->Bool} {L:Nat->Option Lone} {ts ts':TS} {rr:Nat->Nat} {st sm st' sm':Int}
def WI.live (h:WI P SB BB lets Gn ty Wg Dead Toy Kp Ψ0 Ψ2 j0 j gs W t D M O L ts rr st sm):WgLive ty Wg W:=⟨_,_,h.wg⟩
def WI.next (h:WI P SB BB lets Gn ty Wg Dead Toy Kp Ψ0 Ψ2 j0 j gs W t D M O L ts rr st sm){i:Nat}(hi:i<j){g g':Goroutine}{fn:FuncId}{pos:String}{es:Array Event}{s' dd':Nat}{m':Wm}{x':Option Lone}{o':Bool}{r':Nat}
  (hk:KSit P SB BB lets Gn ty Wg Ψ2 s' dd' m' x' o' g' W') (hwg:WgAt ty Wg W' st' sm') (hcw:Cw P SB lets Gn Wg Dead Toy Kp (put L (i+1) x') ts'.own W')
  (hti:TI (Shd Dead Wg) (WrA Toy (put L (i+1) x') ts'.tp) (RdA Toy (put L (i+1) x') ts'.tp) (j+1) (t++MemOp.ofEvents (i+1) fn pos es))
  (hnr:∀e∈es,∀a,e.loc≠.mark (.release a))
  (hst:s'<=(D i).stage) (hold:i<j0->s'=1)
  (hnew:s'=7\/(∀i',i'<t.size->(D i).stage=7->i'<=r')/\((D i).stage<=6->r'=rr i)/\∀i',t.size<=i'->(t++MemOp.ofEvents (i+1) fn pos es).g? i'=some (i+1)->i'<=r'/\j0<=i\/((∀x,touchAt (t++MemOp.ofEvents (i+1) fn pos es) i'=some x->x.loc.isMemory=true->Shd Dead Wg x.loc/\x.kind=.atomic)/\¬(t++MemOp.ofEvents (i+1) fn pos es).counts i'))
  (h7:s'=7->j0<=i/\(D i).stage=7)
  (hlow:∀op∈MemOp.ofEvents (i+1) fn pos es,op.act.low W'.heap.size) (hsz:W.heap.size<=W'.heap.size)
  (hdeaf:deafBehind (D i).deaf es=dd')
  (hrel:j0<=i->s'<=6->RelBy (stA Wg) (t++MemOp.ofEvents (i+1) fn pos es) (i+1) r')
  (o1:o'=true->ts'=.at_ (i+1)) (o2:ts'=ts/\o'=O i\/(ts=.at_ (i+1)/\ts'=.done/\o'=false)) (htoys:(ts'=.start->Ψ0 W')/\(ts'=.done->Ψ2 W')) :
  WI P SB BB lets Gn ty Wg Dead Toy Kp Ψ0 Ψ2 j0 j ((gs.map (woken P.b g g' W')).setIfInBounds (i+1) g') W' (t++MemOp.ofEvents (i+1) fn pos es) (upd D i ⟨s',0,dd'⟩) (upd M i m') (upd O i o') (put L (i+1) x') ts' (upd rr i r') st' sm':=by
 have hge:∀op∈MemOp.ofEvents (i+1) fn pos es,op.g=i+1:=g_of_ofEvents
 have pd0:∀k a,a<t.size->PdOf j0 j D rr k a->PdOf j0 j (upd D i ⟨s',0,dd'⟩) (upd rr i r') k a:=by
  rintro k a ha ⟨b,rfl,hb0,hbj,hb⟩
  refine⟨b,rfl,hb0,hbj,?_⟩
  by_cases e:b=i
  ·subst e
   rw[upd_same,upd_same]
   rcases hnew with h1|⟨h1,h2,_⟩
   ·exact .inl h1
   ·rcases hb with hb'|hb'
    ·exact .inr (h1 a ha hb')
    ·by_cases h6:(D b).stage<=6
     ·rw[h2 h6];exact .inr hb'
     ·have : (D b).stage = 7 := by
       obtain⟨_,_,hs⟩:=h.wk b hbj
       exact hs.stages.resolve_left h6
      exact .inr (h1 a ha this)
  ·rw[upd_ne D _ e,upd_ne rr _ e];exact hb
 refine⟨by simp[h.size],λa ha=>?_,hcw,?_,λop hop=>?_,λa ha=>?_,λa h0 ha hs=>?_,hwg,λa ha ho=>?_,λk hk'=>?_,htoys,λa ha=>?_,λa ha=>?_,h.jj⟩
 ·by_cases e:a=i
  ·subst e
   exact⟨g',get_map_set_same _ _ _ (by rw[h.size];omega),by rw[upd_same,upd_same,upd_same,put_same];exact hk⟩
  ·obtain⟨y,hy,hs⟩:=h.wk a ha
   refine⟨y,by rw[get_map_set _ _ _ _ (by omega),hy,Option.map_some,hs.woken],?_⟩
   rw[upd_ne D _ e,upd_ne M _ e,upd_ne O _ e,put_ne L _ (by omega)]
   exact hs.rely λ_=>⟨_,_,hwg⟩
 ·refine(h.tr.repd pd0).app hti hge (λop hop e=>?_) (λa ha hga _=>?_)
  ·obtain⟨x,hx,rfl⟩:=Go.Conc.mem_ofEvents hop
   exact hnr x hx _ (Go.ConcR.loc_of_ofEvent e)
  ·rcases hnew with h1|⟨_,_,h3⟩
   ·exact .inl ⟨i,rfl,(h7 h1).1,hi,.inl (by rw[upd_same];exact h1)⟩
   ·rcases h3 a ha hga with⟨hx,h0⟩|hx
    ·exact .inl ⟨i,rfl,h0,hi,.inr (by rw[upd_same];exact hx)⟩
    ·exact .inr hx
 ·rcases Array.mem_append.1 hop with hop|hop
  ·exact MemAct.low_mono hsz (h.low op hop)
  ·exact hlow op hop
 ·by_cases e:a=i
  ·subst e;rw[Deaf_own,h.deafW a ha,upd_same];exact hdeaf
  ·rw[Deaf_other t (by omega) _ hge,h.deafW a ha,upd_ne D _ e]
 ·by_cases e:a=i
  ·subst e;rw[upd_same] at hs ⊢;exact hrel h0 hs
  ·rw[upd_ne D _ e] at hs;rw[upd_ne rr _ e]
   exact(h.rel a h0 ha hs).appOther hge (by omega)
 ·by_cases e:a=i
  ·subst e;rw[upd_same] at ho;exact o1 ho
  ·rw[upd_ne O _ e] at ho
   have:=h.own1 a ha ho
   rcases o2 with⟨rfl,_⟩|⟨h1,_,_⟩
   ·exact this
   ·rw[h1] at this
    have:=TS.at_.inj this
    omega
 ·rcases o2 with⟨rfl,h2⟩|⟨_,h1,_⟩
  ·obtain⟨a,ha,e1,e2⟩:=h.own2 k hk'
   refine⟨a,ha,e1,?_⟩
   by_cases e:a=i
   ·subst e;rw[upd_same,h2];exact e2
   ·rw[upd_ne O _ e];exact e2
  ·rw[h1] at hk';cases hk'
 ·rw[put_ne L _ (by omega)];exact h.out a ha
 ·by_cases e:a=i
  ·subst e;rw[upd_same];exact hold ha
  ·rw[upd_ne D _ e];exact h.old a ha
def WI.tiBook (h:WI P SB BB lets Gn ty Wg Dead Toy Kp Ψ0 Ψ2 j0 j gs W t D M O L ts rr st sm){k:Nat}(hk:k<j+1){u:Trace}(hu:∀op∈u,op.g=k/\∀x,op.act.touch?=some x->Shd Dead Wg x.loc/\x.kind≠.plain/\(x.kind=.said->k=0)) :
  TI (Shd Dead Wg) (WrA Toy L ts.tp) (RdA Toy L ts.tp) (j+1) (t++u):=by
 have hto:ts.tp=true->ts.own=none:=uz
 refine h.tr.ti.app hk (λop hop=>⟨(hu op hop).1,λx hx=>.inr (.inl ((hu op hop).2 x hx))⟩) (λ_ _ _=>⟨id,id⟩) (λ_=>.inl) (λ_=>.inl) (λa l hs=>⟨λhw=>h.cw.notSh (ff hw) hs,λhr=>h.cw.notSh hr hs⟩) (λl hl=>?_)
  (λa ha _ l=>⟨λhw=>⟨h.cw.apart hto (Ne.symm ha) l hw,λhw'=>h.cw.apart hto (Ne.symm ha) l hw (ff hw')⟩,λhr hw'=>h.cw.apart hto ha l hw' hr⟩)
 rcases hl with⟨a,rfl,_⟩|⟨a,hl⟩
 ·rfl
 ·have hr:RdA Toy L ts.tp a l:=hl.elim ff id
  rcases hr with⟨y,_,b,B,_,_,h4⟩|⟨_,_,B,_,h4⟩<;>exact inBlock_mem h4
def put_none {L:Nat->Option Lone}{k:Nat}(h:L k=none):put L k none=L:=by
 funext a
 unfold put
 split
 ·rename_i e;rw[e,h]
 ·rfl
def bk_touch {Wg:Nat}{e:Event}(h:Bk Wg e){x:Touch}(hx:(MemAct.ofEvent e).touch?=some x):(∃a:Addr,x.loc=.cell a/\a.block=Wg)/\x.kind=.atomic:=by
 rcases h with h1|h1|⟨a,wr,rfl,ha⟩
 ·rw[ofEvent_loc_mark h1] at hx;cases hx
 ·rw[ofEvent_loc_mark h1] at hx;cases hx
 ·cases wr<;>simp[MemAct.ofEvent,MemAct.touch?] at hx<;>subst hx<;>exact⟨⟨a,rfl,ha⟩,rfl⟩
def bk_low {Wg B:Nat}{e:Event}(h:Bk Wg e)(hB:Wg<B):(MemAct.ofEvent e).low B:=by
 rcases h with h1|h1|⟨a,wr,rfl,ha⟩
 ·rw[ofEvent_loc_mark h1];trivial
 ·rw[ofEvent_loc_mark h1];trivial
 ·have:a.block<B:=by omega
  cases wr<;>simpa [MemAct.ofEvent,MemAct.low,Loc.low] using this
def kE {Wg:Nat}{e:Event}(h:Bk Wg e)(a:Addr):e.loc≠.mark (.release a):=by
 rcases h with h1|h1|⟨a',wr,rfl,ha⟩
 ·rw[h1];simp
 ·rw[h1];simp
 ·simp
def WI.book (h:WI P SB BB lets Gn ty Wg Dead Toy Kp Ψ0 Ψ2 j0 j gs W t D M O L ts rr st sm)(tz:ap Toy Ψ0)(tz2:ap Toy Ψ2){i:Nat}(hi:i<j){g g':Goroutine}{fn:FuncId}{pos:String}{es:Array Event}{s' dd':Nat}{m':Wm}
  (hk:KSit P SB BB lets Gn ty Wg Ψ2 s' dd' m' none false g' W') (h6:(D i).stage<=6) (hL:L (i+1)=none) (hO:O i=false) (hst:s'<=(D i).stage) (hold:i<j0->s'=1)
  (hAs:Aside Wg W W') (hwg:WgAt ty Wg W' st' sm') (hbk:∀e∈es,Bk Wg e) (hd:∀a e,es[a]?=some e->(MemAct.ofEvent e).touch?=none\/0<deafBehind (D i).deaf (es.extract 0 a)) (hdeaf:deafBehind (D i).deaf es=dd') :
  WI P SB BB lets Gn ty Wg Dead Toy Kp Ψ0 Ψ2 j0 j ((gs.map (woken P.b g g' W')).setIfInBounds (i+1) g') W' (t++MemOp.ofEvents (i+1) fn pos es) (upd D i ⟨s',0,dd'⟩) (upd M i m') (upd O i false) L ts (upd rr i (rr i)) st' sm':=by
 have hrel:j0<=i->RelBy (stA Wg) (t++MemOp.ofEvents (i+1) fn pos es) (i+1) (rr i):=λh0=>(h.rel i h0 hi h6).book (h.deafW i hi) fn pos hbk hd
 have hut:∀op∈MemOp.ofEvents (i+1) fn pos es,op.g=i+1/\∀x,op.act.touch?=some x->Shd Dead Wg x.loc/\x.kind=.atomic:=by
  intro op hop
  obtain⟨e,he,rfl⟩:=Go.Conc.mem_ofEvents hop
  refine⟨rfl,λx hx=>?_⟩
  obtain⟨⟨a,h1,h2⟩,h3⟩:=bk_touch (hbk e he) hx
  exact⟨⟨a,h1,.inr h2⟩,h3⟩
 have hbl:∀B,Toy B->W'.heap[B]?=W.heap[B]?:=λB hB=>hAs.block B (h.cw.toyW B hB).1
 have:=h.next hi (g:=g) (fn:=fn) (pos:=pos) (r':=rr i) (ts':=ts) hk hwg (by rw[put_none hL];exact h.cw.group hAs ⟨_,_,_,hwg⟩)
  (by rw[put_none hL];exact h.tiBook (by omega) (λop hop=>⟨(hut op hop).1,λx hx=>⟨((hut op hop).2 x hx).1,by rw[((hut op hop).2 x hx).2];simp,λe=>by rw[((hut op hop).2 x hx).2] at e;cases e⟩⟩))
  (λe he a=>kE (hbk e he) a) hst hold
  (.inr ⟨λ_ _ h7=>by omega,λ_=>rfl,λa ha hga=>.inr ⟨λx hx _=>?_,λhc=>?_⟩⟩) (λh7=>by omega)
  (λop hop=>by obtain⟨e,he,rfl⟩:=Go.Conc.mem_ofEvents hop;exact bk_low (hbk e he) (by rw[hAs.size];exact h.cw.low.1)) (by rw[hAs.size];exact Nat.le_refl _) hdeaf (λh0 _=>hrel h0) (by simp) (.inl ⟨rfl,hO.symm⟩)
  ⟨λe=>tz W W' hbl (h.toys.1 e),λe=>tz2 W W' hbl (h.toys.2 e)⟩
 ·rwa [put_none hL] at this
 ·obtain⟨op,hop,hox⟩:=touch_of hx
  rcases getElem?_append_cases hop with⟨hlt,_⟩|⟨_,hopu⟩
  ·omega
  ·exact(hut op hopu).2 x hox
 ·
  obtain⟨x,hx,_,hkd⟩:=hc
  have hx':touchAt (t++MemOp.ofEvents (i+1) fn pos es) a=some x:=hx
  obtain⟨op,hop,hox⟩:=touch_of hx'
  rcases getElem?_append_cases hop with⟨hlt,_⟩|⟨_,hopu⟩
  ·omega
  ·have hat:=((hut op hopu).2 x hox).2
   rcases hkd with hkd|⟨gg,hgg,hdf⟩
   ·exact hkd hat
   ·have eg:gg=i+1:=by rw[hga] at hgg;exact(Option.some.inj hgg).symm
    subst eg
    have hj:(MemOp.ofEvents (i+1) fn pos es)[a-t.size]?=some op:=by
     rw[Array.getElem?_append] at hop
     simpa [Nat.not_lt.2 ha] using hop
    rw[ofEvents_eq,Array.getElem?_map] at hj
    obtain⟨e,he,rfl⟩:=Option.map_eq_some_iff.1 hj
    have hjs:a-t.size<=es.size:=by
     rcases Nat.lt_or_ge (a-t.size) es.size with h'|h'
     ·omega
     ·rw[Array.getElem?_eq_none h'] at he;cases he
    rcases hd _ e he with h0|h0
    ·simp only at hox;rw[h0] at hox;cases hox
    ·have:=deaf_inside t (i+1) fn pos es (a-t.size) hjs
     rw[show t.size+(a-t.size)=a by omega,hdf,h.deafW i hi] at this
     omega
end
open Go.Iso Go.Conc Go.ConcN
open Go.ConcR (KK WgAt stA smA rd wr mk DC0 Bk g_of_ofEvents bk_of_mute ofEvent_loc_mark ofEvent_cell ofEvent_mk)
def Wlt.st_inv {p:Program}{a:Wm}{s m:Nat}(h:Wlt p a (.st s m)):∃s' m',a=.st s' m':=by
 cases h<;>exact⟨_,_,rfl⟩
section
variable (P:Two) (SB BB:FuncId->Bool) (lets:Bool) (Gn:Nat) (ty Wg:Nat) (Dead Toy:Nat->Prop) (Kp:Keep) (Ψ0 Ψ2:World->Prop)
def Moved (j0 j:Nat)(gs:Array Goroutine)(W:World)(t:Trace)(D:Nat->WD)(M:Nat->Wm)(L:Nat->Option Lone)(rr:Nat->Nat)(tag:CTag)(tp:Bool)(i:Nat)(g:Goroutine):Prop :=
 ∃(g':Goroutine) (W':World) (es:Array Event) (D':Nat->WD) (M':Nat->Wm) (O':Nat->Bool) (L':Nat->Option Lone) (ts':TS) (rr':Nat->Nat) (st' sm':Int),
  stepG P.b false g W=.go g' W' es /\
  WI P SB BB lets Gn ty Wg Dead Toy Kp Ψ0 Ψ2 j0 j ((gs.map (woken P.b g g' W')).setIfInBounds (i+1) g') W' (t++MemOp.ofEvents (i+1) g.frame.fn g.frame.place es) D' M' O' L' ts' rr' st' sm' /\
  (∀tag',(tag'=tag\/(tag=.blk/\tag'=.w3))->(mayWake P.b g=true->g'.status=.running->tag'≠.blk)->ConcN.Mode j D' tag' st' sm') /\
  Wlt P.a (M' i) (M i)/\(∀k,k≠i->M' k=M k)/\L' 0=L 0/\Vc j D'<=Vc j D/\(∀k,k<j->(D k).stage<=6->(D' k).stage<=6/\rr' k=rr k)/\ts'.tp=tp
end
section
variable {P:Two} {SB BB:FuncId->Bool} {lets:Bool} {Gn:Nat} {ty Wg:Nat} {Dead Toy:Nat->Prop} {Kp:Keep} {Ψ0 Ψ2:World->Prop}
 {j0 j:Nat} {gs:Array Goroutine} {W W':World} {t:Trace} {D:Nat->WD} {M:Nat->Wm} {O:Nat->Bool} {L:Nat->Option Lone} {ts ts':TS} {rr:Nat->Nat} {st sm st' sm':Int} {tag:CTag} {i:Nat} {g:Goroutine}
def cH (hi:i<j){x:WD}(hx:cnt x<=cnt (D i)):Vc j (upd D i x)<=Vc j D:=by
 have:=Vc_upd D x hi
 omega
def be (h:WI P SB BB lets Gn ty Wg Dead Toy Kp Ψ0 Ψ2 j0 j gs W t D M O L ts rr st sm)(tz:ap Toy Ψ0)(tz2:ap Toy Ψ2)(hi:i<j)(hL:L (i+1)=none)(hO:O i=false){s:Nat}(hs:(D i).stage=s)(h6:s<=6)
  {g':Goroutine} {es:Array Event} {s' dd':Nat} {m':Wm} (hgo:stepG P.b false g W=.go g' W' es) (hk:KSit P SB BB lets Gn ty Wg Ψ2 s' dd' m' none false g' W') (hst:s'<=s) (hold:i<j0->s'=1)
  (hAs:Aside Wg W W') (hwg:WgAt ty Wg W' st' sm') (hbk:∀e∈es,Bk Wg e) (hd:∀a e,es[a]?=some e->(MemAct.ofEvent e).touch?=none\/0<deafBehind (D i).deaf (es.extract 0 a)) (hdeaf:deafBehind (D i).deaf es=dd')
  (hmode:∀tag',(tag'=tag\/(tag=.blk/\tag'=.w3))->(mayWake P.b g=true->g'.status=.running->tag'≠.blk)->ConcN.Mode j (upd D i ⟨s',0,dd'⟩) tag' st' sm')
  (hlt:Wlt P.a m' (M i)):Moved P SB BB lets Gn ty Wg Dead Toy Kp Ψ0 Ψ2 j0 j gs W t D M L rr tag ts.tp i g:=by
 refine⟨g',W',es,_,_,_,_,_,_,st',sm',hgo,h.book tz tz2 hi hk (by omega) hL hO (by omega) hold hAs hwg hbk hd hdeaf,hmode,by rw[upd_same];exact hlt,λk hk=>upd_ne M _ hk,rfl,cH hi ?_,λk hk h6'=>?_,rfl⟩
 ·simp only[cnt]
  split<;>split<;>omega
 ·by_cases e:k=i
  ·subst e;rw[upd_same,upd_same];exact⟨by show s'<=6;omega,rfl⟩
  ·rw[upd_ne D _ e,upd_ne rr _ e];exact⟨h6',rfl⟩
def dJ {es:Array Event}{k:Nat}{fn:FuncId}{pos:String}(h:∀e∈es,(MemAct.ofEvent e).touch?=none):∀op∈MemOp.ofEvents k fn pos es,op.g=k/\∀x,op.act.touch?=some x->False:=by
 intro op hop
 obtain⟨e,he,rfl⟩:=Go.Conc.mem_ofEvents hop
 exact⟨rfl,λx hx=>by rw[h e he] at hx;cases hx⟩
def moved_r0 (h:WI P SB BB lets Gn ty Wg Dead Toy Kp Ψ0 Ψ2 j0 j gs W t D M O L ts rr st sm)(hi:i<j)(hL:L (i+1)=none)(hO:O i=false)(hs:(D i).stage=7)(hd:(D i).deaf=0){m:Nat}(hM:M i=.st 7 m)(hmode:ConcN.Mode j D tag st sm)
  (hk:GW P.b ty Wg false (R0 P.b ty Wg) m g W):Moved P SB BB lets Gn ty Wg Dead Toy Kp Ψ0 Ψ2 j0 j gs W t D M L rr tag ts.tp i g:=by
 have hj0:j0<=i:=Nat.le_of_not_lt λhlt=>by have:=h.old i hlt;omega
 have hdk:Deaf t (i+1)=0:=by rw[h.deafW i hi,hd]
 rcases Goes.cases hk with hstop|⟨m',rfl,hstep⟩
 ·obtain⟨_,g',hgo,m₂,hk'⟩:=hstop W (RL.refl W)
  have hnt:∀e∈(#[mk (.releaseMerge (stA Wg))]:Array Event),(MemAct.ofEvent e).touch?=none:=by intro e he;simp at he;subst he;rfl
  have hw:=h.next hi (g:=g) (fn:=g.frame.fn) (pos:=g.frame.place) (r':=t.size) (ts':=ts) (.k1 hk') h.wg (by rw[put_none hL];exact h.cw)
   (by rw[put_none hL];exact h.tiBook (by omega) (λop hop=>⟨(dJ hnt op hop).1,λx hx=>((dJ hnt op hop).2 x hx).elim⟩))
   (by intro e he a;simp at he;subst he;simp[mk]) (by omega) (λe=>by omega)
   (.inr ⟨λa ha _=>by omega,λh6=>by omega,λa ha hga=>.inl ⟨by
    obtain⟨z,hz,_⟩:=Option.map_eq_some_iff.1 hga
    have:=lt_size_of_getElem? hz
    rw[ofEvents_eq] at this
    simp at this
    omega,hj0⟩⟩) (λe=>by omega)
   (λop hop=>by
    obtain⟨e,he,rfl⟩:=Go.Conc.mem_ofEvents hop
    simp at he;subst he
    exact h.cw.low.1) (Nat.le_refl _) (by rw[hd];rfl) (λ_ _=>RelBy.new hdk _ _) (by simp) (.inl ⟨rfl,hO.symm⟩) h.toys
  refine⟨g',W,_,_,_,_,_,_,_,st,sm,hgo,hw,λtag' ht _=>(hmode.counted hi (by omega) (.inl rfl) _ _).retag ht,by rw[upd_same,hM];exact .stage (by omega),λk hk=>upd_ne M _ hk,put_ne L _ (by omega),cH hi (by simp[cnt,hs]),λk hk h6=>?_,rfl⟩
  have e:k≠i:=λe=>by subst e;omega
  rw[upd_ne D _ e,upd_ne rr _ e];exact⟨h6,rfl⟩
 ·obtain⟨g',w',es,hgo,⟨rfl,rfl⟩,hg'⟩:=hstep W (RL.refl W)
  have hnt:∀e∈(#[]:Array Event),(MemAct.ofEvent e).touch?=none:=by simp
  have hw:=h.next hi (g:=g) (fn:=g.frame.fn) (pos:=g.frame.place) (r':=rr i) (ts':=ts) (.r0 hg') h.wg (by rw[put_none hL];exact h.cw)
   (by rw[put_none hL];exact h.tiBook (by omega) (λop hop=>⟨(dJ hnt op hop).1,λx hx=>((dJ hnt op hop).2 x hx).elim⟩))
   (by simp) (by omega) (λe=>by omega) (.inl rfl) (λ_=>⟨hj0,hs⟩) (λop hop=>by obtain⟨e,he,rfl⟩:=Go.Conc.mem_ofEvents hop;simp at he) (Nat.le_refl _) (by rw[hd];rfl) (λ_ e=>by omega) (by simp) (.inl ⟨rfl,hO.symm⟩) h.toys
  refine⟨g',w',_,_,_,_,_,_,_,st,sm,hgo,hw,λtag' ht _=>ConcN.Mode.retag (by have:=hmode.same (i:=i) 0 0;rwa [hs] at this) ht,by rw[upd_same,hM];exact .fuel (by omega),λk hk=>upd_ne M _ hk,put_ne L _ (by omega),cH hi (by simp[cnt,hs]),λk hk h6=>?_,rfl⟩
  have e:k≠i:=λe=>by subst e;omega
  rw[upd_ne D _ e,upd_ne rr _ e];exact⟨h6,rfl⟩
def Cw.free (c:Cw P SB lets Gn Wg Dead Toy Kp L (some (i+1)) W):Cw P SB lets Gn Wg Dead Toy Kp (put L (i+1) none) none W:=by
 have d:=c.drop (i+1)
 refine⟨d.like,d.twin,d.wgh,d.dead,λa x ha _=>?_,d.sep,d.low,d.toyW,d.keep,d.keepx,d.toyK,d.osk⟩
 have e:a≠i+1:=λe=>by subst e;rw[put_same] at ha;cases ha
 exact d.toy a x ha (λe'=>e (Option.some.inj e').symm)
def WI.turn (h:WI P SB BB lets Gn ty Wg Dead Toy Kp Ψ0 Ψ2 j0 j gs W t D M O L ts rr st sm)(hi:i<j)(hg:gs[i+1]?=some g)(hs:(D i).stage=7)(hd:(D i).deaf=0){m:Nat}(hk:GW P.b ty Wg false (R0 P.b ty Wg) m g W)(hΨ:O i=true->Ψ2 W) :
  ∃ts',WI P SB BB lets Gn ty Wg Dead Toy Kp Ψ0 Ψ2 j0 j gs W t D (upd M i (.st 7 m)) (upd O i false) (put L (i+1) none) ts' rr st sm/\ts'.tp=ts.tp:=by
 have getL:∀ {a y},put L (i+1) none a=some y->L a=some y:=λ{a y} e=>by
  by_cases e':a=i+1
  ·subst e';rw[put_same] at e;cases e
  ·rwa [put_ne L _ e'] at e
 have wk:∀a,a<j->∃g,gs[a+1]?=some g/\KSit P SB BB lets Gn ty Wg Ψ2 (D a).stage (D a).deaf (upd M i (.st 7 m) a) (put L (i+1) none (a+1)) (upd O i false a) g W:=λa ha=>by
  by_cases e:a=i
  ·subst e
   refine⟨g,hg,?_⟩
   rw[upd_same,upd_same,put_same,hs,hd]
   exact .r0 hk
  ·obtain⟨y,hy,hs⟩:=h.wk a ha
   refine⟨y,hy,?_⟩
   rw[upd_ne M _ e,upd_ne O _ e,put_ne L _ (by omega)]
   exact hs
 have out:∀a,j<a->put L (i+1) none a=none:=λa ha=>by rw[put_ne L _ (by omega)];exact h.out a ha
 by_cases ho:O i=true
 ·have e:=h.own1 i hi ho
  subst e
  refine⟨.done,⟨h.size,wk,Cw.free h.cw,h.tr.rights (λk l=>?_) (λk l=>?_),h.low,h.deafW,h.rel,h.wg,λa ha e=>?_,λk e=>(by cases e),⟨λe=>(by cases e),λ_=>hΨ ho⟩,out,h.old,h.jj⟩,rfl⟩
  ·rintro(⟨x,hx,hw⟩|⟨_,h2,_⟩)
   ·exact .inl ⟨x,getL hx,hw⟩
   ·cases h2
  ·rintro(⟨x,hx,hw⟩|⟨_,h2,_⟩)
   ·exact .inl ⟨x,getL hx,hw⟩
   ·cases h2
  ·by_cases e':a=i
   ·subst e';rw[upd_same] at e;cases e
   ·rw[upd_ne O _ e'] at e
    have:=TS.at_.inj (h.own1 a ha e)
    omega
 ·have ho':O i=false:=by simpa using ho
  refine⟨ts,⟨h.size,wk,h.cw.drop (i+1),h.tr.rights (λk l=>?_) (λk l=>?_),h.low,h.deafW,h.rel,h.wg,λa ha e=>?_,λk e=>?_,h.toys,out,h.old,h.jj⟩,rfl⟩
  ·rintro(⟨x,hx,hw⟩|h2)
   ·exact .inl ⟨x,getL hx,hw⟩
   ·exact .inr h2
  ·rintro(⟨x,hx,hw⟩|h2)
   ·exact .inl ⟨x,getL hx,hw⟩
   ·exact .inr h2
  ·by_cases e':a=i
   ·subst e';rw[upd_same] at e;cases e
   ·rw[upd_ne O _ e'] at e;exact h.own1 a ha e
  ·obtain⟨a,ha,e1,e2⟩:=h.own2 k e
   refine⟨a,ha,e1,?_⟩
   rw[upd_ne O _ (λe'=>by subst e';rw[ho'] at e2;cases e2)]
   exact e2
def mX (h:WI P SB BB lets Gn ty Wg Dead Toy Kp Ψ0 Ψ2 j0 j gs W t D M O L ts rr st sm)(hi:i<j)(hs:(D i).stage=7)(hd:(D i).deaf=0){x:Lone}(hL:L (i+1)=some x)
  {wl:Bij} {Q:Goroutine->World->Prop} (hM:M i=.born Q (x.g,x.w)) (hmode:ConcN.Mode j D tag st sm) (hwl:wl.le x.β) (hQ:ca P SB BB lets Gn ty Wg Ψ2 Q x.H x.T wl (O i)) (hQB:∀g w,Q g w->BB g.frame.fn=false) (hr:KTr P.a BB Q 0 x.g x.w) (hb:kD P SB BB lets x g) :
  Moved P SB BB lets Gn ty Wg Dead Toy Kp Ψ0 Ψ2 j0 j gs W t D M L rr tag ts.tp i g:=by
 have hj0:j0<=i:=Nat.le_of_not_lt λhlt=>by have:=h.old i hlt;omega
 obtain⟨_,g',hgo,hg'⟩:=hb
 have hnt:∀e∈(#[]:Array Event),(MemAct.ofEvent e).touch?=none:=by simp
 have hp:put L (i+1) (some x)=L:=by
  funext a
  unfold put
  split
  ·rename_i e;rw[e,hL]
  ·rfl
 have hw:=h.next hi (g:=g) (fn:=g.frame.fn) (pos:=g.frame.place) (r':=rr i) (ts':=ts) (o':=O i) (.tree hwl hQ hQB hr hg') h.wg (by rw[hp];exact h.cw)
  (by rw[hp];exact h.tiBook (by omega) (λop hop=>⟨(dJ hnt op hop).1,λx hx=>((dJ hnt op hop).2 x hx).elim⟩))
  (by simp) (by omega) (λe=>by omega) (.inl rfl) (λ_=>⟨hj0,hs⟩) (λop hop=>by obtain⟨e,he,rfl⟩:=Go.Conc.mem_ofEvents hop;simp at he) (Nat.le_refl _) (by rw[hd];rfl) (λ_ e=>by omega) (λho=>h.own1 i hi ho) (.inl ⟨rfl,rfl⟩) h.toys
 refine⟨g',W,_,_,_,_,_,_,_,st,sm,hgo W,hw,λtag' ht _=>ConcN.Mode.retag (by have:=hmode.same (i:=i) 0 0;rwa [hs] at this) ht,by rw[upd_same,hM];exact .un,λk hk=>upd_ne M _ hk,put_ne L _ (by omega),cH hi (by simp[cnt,hs]),λk hk h6=>?_,rfl⟩
 have e:k≠i:=λe=>by subst e;omega
 rw[upd_ne D _ e,upd_ne rr _ e];exact⟨h6,rfl⟩
def mY (lib:∀H,Lib P SB H lets BB Gn)(h:WI P SB BB lets Gn ty Wg Dead Toy Kp Ψ0 Ψ2 j0 j gs W t D M O L ts rr st sm)(tz:ap Toy Ψ0)(tz2:ap Toy Ψ2)(hi:i<j)(hs:(D i).stage=7){d:Nat}(hd:(D i).deaf=d){x:Lone}(hL:L (i+1)=some x)
  {wl:Bij} {Q:Goroutine->World->Prop} (hM:M i=.tree Q (x.g,x.w)) (hmode:ConcN.Mode j D tag st sm) (hwl:wl.le x.β) (hQ:ca P SB BB lets Gn ty Wg Ψ2 Q x.H x.T wl (O i)) (hQB:∀g w,Q g w->BB g.frame.fn=false)
  {ng:Tape->Nat->Goroutine} {nw:Tape->Nat->World} (h1:Fine P.a BB x.g x.w) (h2:∀τ d,(∃es,stepG P.a true x.g (on x.w τ d)=.go (ng τ d) (nw τ d) es)/\(ng τ d).callers≠[]) (h3:∀τ n,KTr P.a BB Q d (ng τ n) (nw τ n)) (hg:GLike P SB BB lets x g) :
  Moved P SB BB lets Gn ty Wg Dead Toy Kp Ψ0 Ψ2 j0 j gs W t D M L rr tag ts.tp i g:=by
 have hj0:j0<=i:=Nat.le_of_not_lt λhlt=>by have:=h.old i hlt;omega
 have hq:¬Q x.g x.w:=λhq=>by have:=h1.1;rw[hQB _ _ hq] at this;cases this
 obtain⟨g',w',es,β',g2,W',ES,e1,e2,e3,e4,e5⟩:=follow_next (lib x.H) (main2:=false) h1 h2 hg (h.cw.like _ x hL)
 have hr':KTr P.a BB Q d g' w':=by obtain⟨rfl,rfl⟩:=e2;exact h3 _ _
 have f:FinOf P SB lets Gn x W β' w' W' ES.toList:=e5
 have htw:=h.cw.twin _ x hL
 have hwgs:W'.heap[Wg]?=W.heap[Wg]?:=h.cw.same hL f h.cw.low.1 (h.cw.wgh _ x hL)
 have hwg:WgAt ty Wg W' st sm:=by unfold WgAt;rw[hwgs];exact h.wg
 have hes:ES=ES.toList.toArray:=by simp
 have htoy:ts.own≠some (i+1)->∀B,Toy B->W'.heap[B]?=W.heap[B]?:=λho B hB=>h.cw.same hL f (h.cw.low.2.2 B hB) λb hb=>h.cw.toy _ x hL ho b B hb hB
 have hmk:=bZ f htw
 rw[<-hes] at hmk
 have hw:=h.next hi (g:=g) (g':=g2) (fn:=g.frame.fn) (pos:=g.frame.place) (es:=ES) (r':=rr i) (ts':=ts) (x':=some ⟨g',w',x.H,β',x.T⟩) (o':=O i) (.tree (x:=⟨g',w',x.H,β',x.T⟩) (Bij.le_trans hwl e5.le) hQ hQB hr' e4) hwg (h.cw.step hL f g')
  (by rw[hes];exact h.cw.tiStep hL f g' uz (by omega) h.tr.ti h.low) (λe he a=>(hmk e he).2.2 a) (by omega) (λe=>by omega) (.inl rfl) (λ_=>⟨hj0,hs⟩)
  (by rw[hes];exact dE f htw) f.SIZE (by rw[hd];exact deafBehind_idle (λe he=>⟨(hmk e he).1,(hmk e he).2.1⟩) d) (λ_ e=>by omega) (λho=>h.own1 i hi ho) (.inl ⟨rfl,rfl⟩)
  ⟨λe=>tz W W' (htoy (by rw[e];simp[TS.own])) (h.toys.1 e),λe=>tz2 W W' (htoy (by rw[e];simp[TS.own])) (h.toys.2 e)⟩
 refine⟨g2,W',ES,_,_,_,_,_,_,st,sm,e3,hw,λtag' ht _=>ConcN.Mode.retag (by have:=hmode.same (i:=i) 0 d;rwa [hs] at this) ht,?_,λk hk=>upd_ne M _ hk,put_ne L _ (by omega),cH hi (by simp[cnt,hs]),λk hk h6=>?_,rfl⟩
 ·rw[upd_same,hM]
  exact .tree hq ⟨W.tape,W.drawn,es,e1,e4.callers.ne⟩
 ·have e:k≠i:=λe=>by subst e;omega
  rw[upd_ne D _ e,upd_ne rr _ e];exact⟨h6,rfl⟩
def _root_.Go.Iso.SpecEv.mem {β:Bij}{es ES:Array Event}(h:SpecEv β es ES):∀e∈ES,(MemAct.ofEvent e).touch?=none/\(∀a,e.loc≠.mark (.release a)):=by
 intro e he
 cases h with
 |mark0 m hm=>simp only[List.mem_toArray,List.mem_cons,List.not_mem_nil,or_false] at he;subst he;rcases hm with rfl|rfl<;>exact⟨rfl,by simp⟩
 |markAt o s mk hm hb=>simp only[List.mem_toArray,List.mem_cons,List.not_mem_nil,or_false] at he;subst he;rcases hm with rfl|rfl<;>exact⟨rfl,by simp⟩
 |none=>simp at he
def _root_.Go.Iso.SpecEv.low {β:Bij}{es ES:Array Event}(h:SpecEv β es ES){B:Nat}(hl:∀e∈ES,∀ad,e.loc=.mark (.acquire ad)\/e.loc=.mark (.releaseMerge ad)->ad.block<B):∀e∈ES,(MemAct.ofEvent e).low B:=by
 intro e he
 cases h with
 |mark0 m hm=>simp only[List.mem_toArray,List.mem_cons,List.not_mem_nil,or_false] at he;subst he;rcases hm with rfl|rfl<;>trivial
 |markAt o s mk hm hb =>
  have:=hl e he
  simp only[List.mem_toArray,List.mem_cons,List.not_mem_nil,or_false] at he
  subst he
  rcases hm with rfl|rfl
  ·exact this _ (.inl rfl)
  ·exact this _ (.inr rfl)
 |none=>simp at he
def mZ (lib:∀H,Lib P SB H lets BB Gn)(hmf:∀(f:FuncId) (fn:Func),P.a.funcs[f]?=some fn->fn.body.isNone=true->P.fs[f]?=some fn)(h:WI P SB BB lets Gn ty Wg Dead Toy Kp Ψ0 Ψ2 j0 j gs W t D M O L ts rr st sm)(hi:i<j)(hs:(D i).stage=7){d:Nat}(hd:(D i).deaf=d){x:Lone}(hL:L (i+1)=some x)
  {wl:Bij} {Q:Goroutine->World->Prop} (hM:M i=.tree Q (x.g,x.w)) (hmode:ConcN.Mode j D tag st sm) (hwl:wl.le x.β) (hQ:ca P SB BB lets Gn ty Wg Ψ2 Q x.H x.T wl (O i)) (hQB:∀g w,Q g w->BB g.frame.fn=false)
  {b:Frame} {a:Act} {ops:Array Oper} {i0:Nat} {rest:List Nat} {k:List Item} {cs:List Frame} {o:Oper} {es:Array Event} {v:Value} (hxg:x.g=gor (b.at a (.inRegion ops (i0::rest)::k)) cs)
  (h1:BB b.fn=true) (h2:cs≠[]) (h3:ops[i0]?=some o) (h4:Region.wanted o (yielded ops a.tmps)=true) (h5:b.kind≠.early) (h6:SpecOp P.a a x.w o es v) (h7:∀τ n,KTr P.a BB Q (deafBehind d es) (gor (b.at (a.put o.dst v) (.inRegion ops rest::k)) cs) (on x.w τ n)) (hg:GLike P SB BB lets x g) :
  Moved P SB BB lets Gn ty Wg Dead Toy Kp Ψ0 Ψ2 j0 j gs W t D M L rr tag ts.tp i g:=by
 have hj0:j0<=i:=Nat.le_of_not_lt λhlt=>by have:=h.old i hlt;omega
 have hq:¬Q x.g x.w:=λhq=>by have:=hQB _ _ hq;rw[hxg] at this;exact absurd h1 (by rw[show b.fn=(gor (b.at a (.inRegion ops (i0::rest)::k)) cs).frame.fn from rfl,this];decide)
 have hw0:=h.cw.like _ x hL
 have hg0:GRel P SB x.H lets BB x.T x.β (gor (b.at a (.inRegion ops (i0::rest)::k)) cs) g:=hxg▸hg
 obtain⟨g2,ES,e3,e4,e5,e6⟩:=spec_rel hmf (main2:=false) h1 hg0 hw0 h3 h4 h5 h6
 have hx':WRel (SP SB x.H) (CK P.a SB lets) Gn x.β (on x.w W.tape W.drawn) W:=hw0.same rfl rfl hw0.env
 have f0:FinOf P SB lets Gn x W x.β (on x.w W.tape W.drawn) W []:=Fin.refl hx'
 have hcw:=h.cw.step hL f0 (gor (b.at (a.put o.dst v) (.inRegion ops rest::k)) cs)
 have hmem:=e5.mem
 have hw:=h.next hi (g:=g) (g':=g2) (fn:=g.frame.fn) (pos:=g.frame.place) (es:=ES) (r':=rr i) (ts':=ts) (x':=some ⟨gor (b.at (a.put o.dst v) (.inRegion ops rest::k)) cs,on x.w W.tape W.drawn,x.H,x.β,x.T⟩) (o':=O i)
  (.tree (x:=⟨gor (b.at (a.put o.dst v) (.inRegion ops rest::k)) cs,on x.w W.tape W.drawn,x.H,x.β,x.T⟩) hwl hQ hQB (h7 _ _) e4) h.wg hcw
  ((h.tiBook (k:=i+1) (by omega) (u:=MemOp.ofEvents (i+1) g.frame.fn g.frame.place ES) (λop hop=>by
   obtain⟨e,he,rfl⟩:=Go.Conc.mem_ofEvents hop
   exact⟨rfl,λy hy=>by rw[(hmem e he).1] at hy;cases hy⟩)).mono (λj l hl=>?_) (λj l hl=>?_))
  (λe he a=>(hmem e he).2 a) (by omega) (λe=>by omega) (.inl rfl) (λ_=>⟨hj0,hs⟩)
  (λop hop=>by obtain⟨e,he,rfl⟩:=Go.Conc.mem_ofEvents hop;exact e5.low e6 e he) (Nat.le_refl _) (by rw[hd];exact e5.deaf d) (λ_ e=>by omega) (λho=>h.own1 i hi ho) (.inl ⟨rfl,rfl⟩) h.toys
 ·refine⟨g2,W,ES,_,_,_,_,_,_,st,sm,e3,hw,λtag' ht _=>ConcN.Mode.retag (by have:=hmode.same (i:=i) 0 (deafBehind d es);rwa [hs] at this) ht,?_,λk hk=>upd_ne M _ hk,put_ne L _ (by omega),cH hi (by simp[cnt,hs]),λk hk h6=>?_,rfl⟩
  ·rw[upd_same,hM]
   refine .tree hq ⟨W.tape,W.drawn,es,?_,h2⟩
   show stepG P.a true x.g (on x.w W.tape W.drawn)=_
   rw[hxg]
   exact(h6.same uj).step h3 h4 h5
  ·have e:k≠i:=λe=>by subst e;omega
   rw[upd_ne D _ e,upd_ne rr _ e];exact⟨h6,rfl⟩
 ·rcases hl with⟨y,hy,hr⟩|hl
  ·by_cases e:j=i+1
   ·subst e
    rw[put_same] at hy
    cases hy
    exact .inl ⟨x,hL,hr⟩
   ·rw[put_ne L _ e] at hy;exact .inl ⟨y,hy,hr⟩
  ·exact .inr hl
 ·rcases hl with⟨y,hy,hr⟩|hl
  ·by_cases e:j=i+1
   ·subst e
    rw[put_same] at hy
    cases hy
    exact .inl ⟨x,hL,hr⟩
   ·rw[put_ne L _ e] at hy;exact .inl ⟨y,hy,hr⟩
  ·exact .inr hl
end
end Go.Co
