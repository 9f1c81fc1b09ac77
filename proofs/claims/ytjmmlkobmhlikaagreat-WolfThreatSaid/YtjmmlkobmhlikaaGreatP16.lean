/- Parts of the proof. -/
import Derived.Test.YtjmmlkobmhlikaaGreatP15
import Derived.Test.YtjmmlkobmhlikaaGreatP01
import Derived.Outline
import Derived.RangeFuncBox
set_option linter.all false
set_option maxHeartbeats 3200000
set_option maxRecDepth 1000000
namespace Go.Proofs.YtjmmlkobmhlikaaGreat
open Go.RowKit Go.Iso Go.Co Go.Conc Go.ConcN
open Go.ConcR (WgAt wgBlock)
section
variable {SB SB0 BB SB' BB':FuncId->Bool} {lets':Bool} {kx tl:Nat->Bool} {Kc:Nat->Prop} {Ok:World->Prop} {cb sb n c:Nat} {f:Fn} {fx fc:Array Value} {sets kind:Nat->Int} {tpOf:Nat->Bool} {oK oE:Nat->Obj}
 {Dead:Nat->Prop} {Kp:Keep} {x:Lone} {A:Goroutine} {W:World}
abbrev eArgs (cb:Nat)(f:Fn)(fx fc:Array Value):Array Value:=#[.pointer (some ⟨cb,0,none⟩),.func f fx fc]
noncomputable def inner (kx tl:Nat->Bool)(cb:Nat)(f:Fn)(fx fc:Array Value)(x:Lone)(A:Goroutine):Lone :=
 ⟨Go.Iso.gor (Frame.enter Tryz.prog 39 (eArgs cb f fx fc) .normal) [bad],(sink kx tl x.w).alloc (.coro none),hidE tl x.w,cut (λb=>kx b=true\/tl b=true) x.β,A.callers⟩
def iN:((sink kx tl x.w).alloc (.coro none)).heap.size=x.w.heap.size+1:=by rw[aA,dt]
def fZ {b:Nat}(hb:b<x.w.heap.size):((sink kx tl x.w).alloc (.coro none)).heap[b]?=(sink kx tl x.w).heap[b]?:=by
 rw[ax,dt,if_neg (by omega)]
def inner_start (I:EachIn SB SB0 BB x.w kx tl Kc Ok cb sb n c f fx fc sets kind tpOf oK oE)(lib:∀H,Lib PP SB H true BB 0){cE:Code}(hcE:Tryz.f39.body=some cE)(hbar:codeOk Tryz.prog SB' lets' true cE=false)
  (ht:Tw PP SB' BB' lets' 0 Dead Kp x A W) (hH:∀b,x.H b=false) {fr:Frame} {cs:List Frame} (hg:x.g=bI PP 39 (eArgs cb f fx fc) fr cs) :
  GLike PP SB BB true (inner kx tl cb f fx fc x A) A/\WLike PP SB true 0 (inner kx tl cb f fx fc x A) W/\(∀b,tl b=true->Ro (inner kx tl cb f fx fc x A).w b\/(inner kx tl cb f fx fc x A).H b=true)/\∀b,kx b=true->Ro (inner kx tl cb f fx fc x A).w b:=by
 have htop:=ht.gl.top
 rw[hg] at htop
 obtain⟨ARGS,eA,hargs⟩:=stop_any (fa:=Tryz.f39) (fb:=Tryz.f39) Tryz.func39 Tryz.func39 hcE hbar rfl (by rw[Tryz.ntmps39];simp) htop
 have hin:AsRel (SP SB (hidE tl x.w)) (idOn λb=>kx b=true\/tl b=true) (eArgs cb f fx fc) (eArgs cb f fx fc):=allIn λv hv=>by
  simp only[List.mem_cons,List.not_mem_nil,or_false] at hv
  rcases hv with rfl|rfl
  ·exact .ptr (.inl I.ks.1) _ _
  ·exact I.hp1 _
 refine⟨⟨?_,.base,⟨rfl,ht.gl.status.2⟩,⟨rfl,ht.gl.dying.2⟩,⟨rfl,ht.gl.offers.2⟩⟩,⟨⟨λh1 h2=>ht.wl.fine.fn h1.2 h2.2,λh1 h2=>ht.wl.fine.inj h1.2 h2.2,λ_=>⟨Nat.zero_le _,Nat.zero_le _⟩⟩,⟨Nat.zero_le _,Nat.zero_le _⟩,?_,?_,?_,?_⟩,λb hb=>.inr (by simp[inner,hb]),λb hb=>?_⟩
 ·rw[eA];exact enter_rel (P:=PP) (lib _) (.inl I.s49) (hargs.cut (λ_=>rfl) hin) .normal (by decide)
 ·rintro b B ⟨hk,hb⟩ hh
  have hh':(tl b||b==x.w.heap.size)=false:=hh
  simp only[Bool.or_eq_false_iff] at hh'
  have hkx:kx b=true:=hk.resolve_right (by simp[hh'.1])
  obtain⟨e1,l,t,g,e2,e3,e4⟩:=I.kxs b hkx
  obtain⟨o,O,q1,q2,q3⟩:=ht.wl.objs b B hb (hH b)
  rw[e2] at q1;cases q1
  have hlt:=I.lt (.inl hkx)
  cases q3 with
  |cells a z =>
   refine⟨_,_,(fZ hlt).trans (eO e2 hkx e1),q2,.cells (a.cut (λ_=>rfl) (allIn λv hv=>e4 v hv _)) λi h1 h2=>?_⟩
   obtain⟨z1,z2⟩:=z i h1 h2
   exact⟨Nat.zero_le _,by simpa using e3 i z1 z2⟩
 ·rintro b B ⟨hk,hb⟩ hh
  have hlt:=I.lt hk
  have hh':(tl b||b==x.w.heap.size)=true:=hh
  have htl:tl b=true:=by
   simp only[Bool.or_eq_true,beq_iff_eq] at hh'
   exact hh'.resolve_right (by omega)
  refine⟨(fZ hlt).trans (jd hlt htl),λ_=>?_,λh=>by cases h⟩
  obtain⟨e1,⟨l,t,g,e2,e3⟩,_⟩:=I.tls b htl
  obtain⟨o,O,q1,q2,q3⟩:=ht.wl.objs b B hb (hH b)
  rw[e1,e2] at q1;cases q1
  cases q3 with
  |cells a z=>exact⟨_,_,_,q2⟩
 ·intro b hb
  have hb':(tl b||b==x.w.heap.size)=true:=hb
  show b<((sink kx tl x.w).alloc (.coro none)).heap.size
  rw[iN]
  simp only[Bool.or_eq_true,beq_iff_eq] at hb'
  rcases hb' with h|h
  ·have:=I.lt (.inr h);omega
  ·omega
 ·exact ht.wl.env
 ·obtain⟨e1,l,t,g,e2,e3,e4⟩:=I.kxs b hb
  exact⟨_,_,_,(fZ (I.lt (.inl hb))).trans (eO e2 hb e1),λi hi=>⟨Nat.zero_le _,hi⟩⟩
def at_rel {p:Program}{H:Hid}{lets:Bool}{β:Bij}{g:FuncId}{a:Act}{ops:Array Oper}{l:List Nat}{k:List Item}{F:Frame}(h:FrRel p SB H lets β ((base g).at a (.inRegion ops l::k)) F) :
  ∃(a':Act) (K:List Item),F=(base g).at a' (.inRegion ops l::K):=by
 obtain⟨h1,h2,h3,h4,h5,h6,h7,h8⟩:=h
 obtain⟨f1,f2,f3,f4,f5,f6,f7⟩:=F
 dsimp only[Frame.at,base] at h1 h2 h3 h4 h5 h6 h7 h8
 subst h1 h6
 cases h5
 cases h8
 cases h3 with
 |cons hi _ =>
  cases hi
  exact⟨⟨f2,f4⟩,_,rfl⟩
noncomputable abbrev gA (cb b2 b3:Nat)(p1:Value):Act:=⟨#[.pointer (some ⟨cb,0,none⟩),p1,.pointer (some ⟨b2,0,none⟩),.pointer (some ⟨b3,0,none⟩),undef,undef,undef,undef,undef,undef,undef,undef,undef,undef,undef,undef,undef,undef,undef,undef,undef,undef,undef,undef,undef,undef,undef],[]⟩
noncomputable abbrev kA:List Item:=[.code (.seq (.seq (.region 2 o2 false) (.block 0 (.loop eL))) (.region 10 o10 false))]
def boxed (w:World)(cb:Nat)(p1:Value):World:=(w.alloc (.cells #[.pointer (some ⟨cb,0,none⟩)] 57)).alloc (.cells #[p1] 103)
def QA (cb:Nat)(p1:Value)(w0:World)(g:Goroutine)(w:World):Prop:=g=G ((base 39).at (gA cb w0.heap.size (w0.heap.size+1) p1) (.inRegion o1 [0]::kA)) [bad]/\Same (boxed w0 cb p1) w
def group_made {P:Two}{lets:Bool}(hBB:BB 39=true){x:Lone}{a:Goroutine}{W:World}{cb b2 b3 b4:Nat}{p1:Value}(hg:x.g=G ((base 39).at (gA cb b2 b3 p1) (.inRegion o1 [0]::kA)) [bad])(hgl:GLike P SB BB lets x a)
  {β:Bij} (hle:x.β.le β) (hb4:β b4 W.heap.size) :
  ∃a',stepG Tryz.prog true a W=.go a' (W.alloc (.cells #[.int .u64 0,.int .u32 0] 144)) #[]/\GLike P SB BB lets ⟨G ((base 39).at ((gA cb b2 b3 p1).put (some 4) (.pointer (some ⟨b4,0,none⟩))) (.inRegion o1 []::kA)) [bad],x.w,x.H,β,x.T⟩ a':=by
 have htop:=hgl.top.on_of (by rw[hg];exact hBB)
 have hcs:=hgl.callers
 have ea:=fY hgl
 rw[hg] at htop hcs
 obtain⟨A,K,eA⟩:=at_rel htop
 refine⟨_,by rw[ea,eA];exact mW,?_⟩
 have hf:=aV (htop.mono hle) (v:=.pointer (some ⟨b4,0,none⟩)) (V:=.pointer (some ⟨W.heap.size,0,none⟩)) (.ptr 0 none hb4)
 rw[eA] at hf
 have e1:(o1[0]?).bind (·.dst)=some 4:=rfl
 change FrRel _ _ _ _ _ (((base 39).at (gA cb b2 b3 p1) (.inRegion o1 [0]::kA)).finish _) _ at hf
 rw[Frame.finish_at,Frame.finish_at,e1] at hf
 exact⟨.on hf,hcs.mono λc C h=>h.mono hle,⟨rfl,rfl⟩,⟨rfl,rfl⟩,⟨rfl,rfl⟩⟩
def rI {cb:Nat}{p1:Value}{w0:World}(g:Goroutine)(w W:World)(h:Same w W)(q:QA cb p1 w0 g w):QA cb p1 w0 g W:=⟨q.1,q.2.trans h⟩
def m9 (hB:BB 39=true){w:World}:Runs Tryz.prog (Fine Tryz.prog BB) (QA cb (.func f fx fc) w) (Go.Iso.gor (Frame.enter Tryz.prog 39 (eArgs cb f fx fc) .normal) [bad]) w :=
 rz hB rI (by simp) (.fin ⟨rfl,rfl,rfl,rfl⟩)
def aW (w:World)(p1:Value)(b:Nat):(startW kx tl w cb p1).heap[b]?=if b=w.heap.size+2 then some (.cells #[p1] 103 (0,1)) else if b=w.heap.size+1 then some (.cells #[.pointer (some ⟨cb,0,none⟩)] 57 (0,1)) else if b=w.heap.size then some (.coro none) else(sink kx tl w).heap[b]?:=by
 have z:=dt kx tl w
 have g:∀b,((((sink kx tl w).alloc (.coro none)).alloc (.cells #[.pointer (some ⟨cb,0,none⟩)] 57)).alloc (.cells #[p1] 103)).heap[b]?=if b=w.heap.size+2 then some (.cells #[p1] 103) else if b=w.heap.size+1 then some (.cells #[.pointer (some ⟨cb,0,none⟩)] 57) else if b=w.heap.size then some (.coro none) else(sink kx tl w).heap[b]?:=λb=>by
  rw[ax,aA,aA,ax,aA,ax,z]
 unfold startW
 by_cases h2:b=w.heap.size+2
 ·subst h2
  rw[if_pos rfl]
  exact cA (c:=#[p1]) (t:=103) (f:=(0,0)) (by rw[dW _ (by omega),g,if_pos rfl])
 ·rw[if_neg h2,dW _ h2]
  by_cases h1:b=w.heap.size+1
  ·subst h1
   rw[if_pos rfl]
   exact cA (c:=#[.pointer (some ⟨cb,0,none⟩)]) (t:=57) (f:=(0,0)) (by rw[g,if_neg (by omega),if_pos rfl])
  ·rw[if_neg h1,dW _ h1,g,if_neg h2,if_neg h1]
def dj (w:World)(p1:Value):(startW kx tl w cb p1).heap.size=w.heap.size+3:=by
 unfold startW
 rw[cj,cj,aA,aA,aA,dt]
def oP (w:World)(p1:Value):(startW kx tl w cb p1).os=w.os:=by
 unfold startW
 rw[fg,fg];rfl
def na (I:EachIn SB SB0 BB x.w kx tl Kc Ok cb sb n c f fx fc sets kind tpOf oK oE):Head SB (hidE tl x.w) 0 (kbE kx tl x.w) Ok (kbE kx tl x.w) (startW kx tl x.w cb (.func f fx fc)):=by
 have hk:∀b,kx b=true\/tl b=true->b<x.w.heap.size:=λb h=>I.lt h
 refine⟨λ_ h=>h,λb hb hh=>?_,λb hb hh=>?_,λ_ _=>Nat.zero_le _,λb hb=>?_,λb hb=>?_,Nat.zero_le _,I.ok⟩
 ·have hh':(tl b||b==x.w.heap.size)=false:=hh
  simp only[Bool.or_eq_false_iff,beq_eq_false_iff_ne] at hh'
  rw[aW]
  unfold Ro
  rw[aW]
  rcases hb with h|h|h|h|h
  ·have hl:=hk b (.inl h)
   obtain⟨e1,l,t,g,e2,e3,e4⟩:=I.kxs b h
   rw[if_neg (by omega),if_neg (by omega),if_neg (by omega),eO e2 h e1]
   exact⟨⟨_,_,_,rfl,λi hi=>⟨Nat.zero_le _,hi⟩⟩,_,rfl,.cells (allIn λv hv=>(e4 v hv _).mono λb hb=>hb.elim .inl λh=>.inr (.inl h)) λi h1 h2=>⟨h1,h2⟩⟩
  ·rw[hh'.1] at h;cases h
  ·exact absurd h hh'.2
  ·subst h
   rw[if_neg (by omega),if_pos rfl]
   exact⟨⟨_,_,_,rfl,λi hi=>⟨Nat.zero_le _,hi⟩⟩,_,rfl,.cells (allIn (l:=[_]) λv hv=>by
    simp only[List.mem_cons,List.not_mem_nil,or_false] at hv
    subst hv
    exact .ptr (.inl I.ks.1) _ _) λi h1 h2=>⟨h1,h2⟩⟩
  ·subst h
   rw[if_pos rfl]
   exact⟨⟨_,_,_,rfl,λi hi=>⟨Nat.zero_le _,hi⟩⟩,_,rfl,.cells (allIn (l:=[_]) λv hv=>by
    simp only[List.mem_cons,List.not_mem_nil,or_false] at hv
    subst hv
    exact(I.hp1 _).mono λb hb=>hb.elim .inl λh=>.inr (.inl h)) λi h1 h2=>⟨h1,h2⟩⟩
 ·have hh':(tl b||b==x.w.heap.size)=true:=hh
  simp only[Bool.or_eq_true,beq_iff_eq] at hh'
  rw[aW]
  rcases hh' with h|h
  ·have hl:=hk b (.inr h)
   rw[if_neg (by omega),if_neg (by omega),if_neg (by omega),jd hl h]
  ·subst h
   rw[if_neg (by omega),if_neg (by omega),if_pos rfl]
 ·rw[dj]
  rcases hb with h|h|h|h|h
  ·have:=hk b (.inl h);omega
  ·have:=hk b (.inr h);omega
  all_goals omega
 ·have hb':(tl b||b==x.w.heap.size)=true:=hb
  simp only[Bool.or_eq_true,beq_iff_eq] at hb'
  rw[dj]
  rcases hb' with h|h
  ·have:=hk b (.inr h);omega
  ·omega
def oF (tpn:Bool)(oK oE:Nat->Obj):Nat->Obj:=if tpn then oK else oE
def each_call {sl:Option (Nat×Nat)}{gs:Array Goroutine}{t:Trace}{q:Nat->Nat}(I:EachIn SB SB0 BB x.w kx tl Kc Ok cb sb n c f fx fc sets kind tpOf oK oE)(lib:∀H,Lib PP SB H true BB 0){cE:Code}(hcE:Tryz.f39.body=some cE)(hbar:codeOk Tryz.prog SB' lets' true cE=false)
  {L:Lib.WgLink} (Wl:Lib.WgLib Tryz.prog L) (h91:L.add=67) (h94:L.wait=70) (h93:L.done=69) (hT:L.tWg=144) (bA:Go.Co.Barred PP SB true L.add (Lib.addFn L)) (bW:Go.Co.Barred PP SB true L.wait (Lib.waitFn L)) (bD:Go.Co.Barred PP SB true L.done (Lib.doneFn L))
  (hb:Btw Tryz.prog Dead gs W t q) (ht:Tw PP SB' BB' lets' 0 Dead Kp x A W) (h0:gs[0]?=some A) {fr:Frame} {cs:List Frame} (hg:x.g=bI PP 39 (eArgs cb f fx fc) fr cs) (hc:dV fr) (hH:∀b,x.H b=false)
  (hpair:∀b,kx b=true\/tl b=true->∃B,x.β b B) (hKp:∀b B,x.β b B->tl b=true->¬Kp.at_ B) (hbd:gs.size+n<=2147483647) :
  ∃N m' t',runNT Tryz.prog N (crowd gs W sl) t=(.next m',t')/\∃gs' W' sl' q' A' Dead',m'=crowd gs' W' sl'/\gs'[0]?=some A'/\gs'.size<=gs.size+n/\Btw Tryz.prog Dead' gs' W' t' q' /\
   Tw PP SB' BB' lets' 0 Dead' Kp ⟨back fr cs,relay tl (oF (tpOf n) oK oE) x.w,x.H,x.β,x.T⟩ A' W'/\(W'.os=W.os/\W'.output=W.output)/\W.heap.size<=W'.heap.size/\∀B,Dead' B->Dead B\/W.heap.size<=B:=by
 obtain⟨s1,s2,s3,s4⟩:=inner_start I lib hcE hbar ht hH hg
 have hcs:=ht.gl.callers
 rw[hg] at hcs
 obtain⟨FR,CS,eCS,r1,r2⟩:=callers_of hcs hc
 have noDead:∀b B,x.β b B->¬Dead B:=λb B hb hd=>by have:=ht.dead b B hb hd;rw[hH] at this;cases this
 have xlt:∀b B,x.β b B->b<x.w.heap.size/\B<W.heap.size:=λb B h=>ht.wl.lt h
 have hkt:∀b,kx b=true\/tl b=true->b<x.w.heap.size:=λb h=>I.lt h
 have isz:((sink kx tl x.w).alloc (.coro none)).heap.size=x.w.heap.size+1:=iN
 have kx0:∀b B,(inner kx tl cb f fx fc x A).β b B->(inner kx tl cb f fx fc x A).H b=true\/Ro (inner kx tl cb f fx fc x A).w b:=λb B hb=>hb.1.elim (λh=>.inr (s4 b h)) λh=>.inl (by simp[inner,h])
 obtain⟨N1,m1,t1,hr1,gs1,W1,sl1,q1,x1,a1,rfl,g1,z1,b1,tw1,Q1,eH1,eT1,le1,os1,sz1,sz1',new1⟩:=tree_beside (P:=PP) (SB:=SB) (BB:=BB) (lets:=true) (Gn:=0) (Dead:=Dead) (Kp:=⟨λB=>B<W.heap.size,W,0⟩) lib
  (H:=hidE tl x.w) (T:=A.callers) (β:=cut (λb=>kx b=true\/tl b=true) x.β) (Q:=QA cb (.func f fx fc) ((sink kx tl x.w).alloc (.coro none))) (os:=W.os) (ou:=W) (n:=gs.size) (b0:=x.w.heap.size+1) (B0:=W.heap.size) _ (crowd gs W sl) t
  ⟨gs,W,sl,q,inner kx tl cb f fx fc x A,A,rfl,h0,rfl,hb,⟨s1,s2,rfl,λb B hb hd=>absurd hd (noDead b B hb.2),λB hB=>⟨hB,rfl⟩,λb B hb _=>kx0 b B hb⟩,m9 I.hB,rfl,rfl,Bij.le_refl _,⟨rfl,rfl⟩,⟨Nat.le_refl _,Nat.le_of_eq isz.symm,λb B h=>.inl h⟩,rfl⟩
 obtain⟨Q1g,Q1w⟩:=Q1
 rw[isz] at Q1g
 obtain⟨N2,m2,t2,hr2,gs2,d2,sl2,q2,st2,g2,z2,b2⟩:=main_turn (P:=PP) (sl:=sl1) b1 g1 tw1.gl.status.2
 obtain⟨W2,hW2⟩:∃W2,W2=W1.at d2:=⟨_,rfl⟩
 have tw2:=tw1.at d2
 rw[<-hW2] at st2 b2 tw2
 have W2h:W2.heap=W1.heap:=by rw[hW2];rfl
 have W2o:W2.os=W1.os/\W2.output=W1.output:=by rw[hW2];exact⟨rfl,rfl⟩
 have old1:∀b B,tl b=true->(x1.β b B↔x.β b B):=λb B h=>by
  obtain⟨B',hB'⟩:=hpair b (.inr h)
  have h1:=le1 b B' ⟨.inr h,hB'⟩
  exact⟨λh2=>by rw[tw1.wl.fine.fn h2 h1];exact hB',λh2=>le1 b B ⟨.inr h,h2⟩⟩
 have none1:∀B,¬x1.β x.w.heap.size B:=λB h=>by
  rcases new1 _ _ h with h|h
  ·have:=hkt _ h.1;omega
  ·omega
 have lt1:∀b B,x1.β b B->B<W2.heap.size:=λb B h=>by rw[W2h];exact(tw1.wl.lt h).2
 have lowB:∀b B,x1.β b B->B<W.heap.size->x.β b B/\(kx b=true\/tl b=true):=λb B h hB=>by
  rcases new1 _ _ h with h|h
  ·exact⟨h.2,h.1⟩
  ·omega
 obtain⟨β3,hβ3⟩:∃β3,β3=more x1.β x.w.heap.size W2.heap.size:=⟨_,rfl⟩
 have le3:x1.β.le β3:=by rw[hβ3];exact me _ _ _
 have cs3:∀b B,β3 b B->x1.β b B\/(b=x.w.heap.size/\B=W2.heap.size):=λb B h=>by rw[hβ3] at h;exact h
 have pair3:β3 x.w.heap.size W2.heap.size:=by rw[hβ3];exact .inr ⟨rfl,rfl⟩
 obtain⟨A3,st3,gl3⟩:=group_made I.hB Q1g tw2.gl le3 pair3
 obtain⟨W3,hW3⟩:∃W3,W3=W2.alloc (.cells #[.int .u64 0,.int .u32 0] 144):=⟨_,rfl⟩
 rw[<-hW3] at st3
 have W3get:∀B,B<W2.heap.size->W3.heap[B]?=W2.heap[B]?:=λB h=>by rw[hW3,ax,if_neg (by omega)]
 have W3size:W3.heap.size=W2.heap.size+1:=by rw[hW3,aA]
 have W3os:W3.os=W2.os/\W3.output=W2.output:=by rw[hW3];exact⟨rfl,rfl⟩
 obtain⟨gs3,hst3,z3,g3,lv3⟩:=b2.mute0 (P:=PP) (sl:=sl2) g2 st3
 have hr3:runNT Tryz.prog (N1+(N2+1)) (crowd gs W sl) t=(.next (crowd gs3 W3 sl2),t2):=by
  have e1:runNT Tryz.prog N1 (crowd gs W sl) t=(.next (crowd gs1 W1 sl1),t1):=hr1
  have e2:runNT Tryz.prog N2 (crowd gs1 W1 sl1) t1=(.next m2,t2):=hr2
  have e3:stepT Tryz.prog m2=(.next (crowd gs3 W3 sl2),#[]):=st2.trans hst3
  rw[ck e1,ck e2,mg e3,Array.append_empty]
 have wl3:WRel (SP SB (hidE tl x.w)) (CK Tryz.prog SB true) 0 β3 (startW kx tl x.w cb (.func f fx fc)) W3:=by
  have e1:WRel (SP SB (hidE tl x.w)) (CK Tryz.prog SB true) 0 x1.β x1.w W2:=by have:=tw2.wl;rw[WLike,eH1] at this;exact this
  have bx:∀b,x1.w.heap[b]?=if b=x.w.heap.size+2 then some (.cells #[.func f fx fc] 103) else if b=x.w.heap.size+1 then some (.cells #[.pointer (some ⟨cb,0,none⟩)] 57) else if b=x.w.heap.size then some (.coro none) else(sink kx tl x.w).heap[b]?:=λb=>by
   rw[Q1w.1,boxed,ax,aA,isz,ax,isz,ax,dt]
  have e2:=oL (c:=#[.int .u64 0,.int .u32 0]) (ty:=144) (f:=(0,0)) e1 (b:=x.w.heap.size) none1 (by simp) rfl (by rw[bx,if_neg (by omega),if_neg (by omega),if_pos rfl]) (Nat.zero_le _)
  rw[<-hβ3] at e2
  rw[hW3]
  refine oO e2 ?_ ?_ λb=>?_
  ·rw[dj,Q1w.1,boxed,aA,aA,isz]
  ·rw[oP,Q1w.2.1];rfl
  ·rw[aW,bx]
   by_cases h2:b=x.w.heap.size+2
   ·rw[if_pos h2,if_pos h2];exact .inr ⟨_,_,_,_,rfl,rfl,λi h1 h2=>by simp at h2⟩
   ·rw[if_neg h2,if_neg h2]
    by_cases h1:b=x.w.heap.size+1
    ·rw[if_pos h1,if_pos h1];exact .inr ⟨_,_,_,_,rfl,rfl,λi h1 h2=>by simp at h2⟩
    ·rw[if_neg h1,if_neg h1];exact .inl rfl
 obtain⟨Toy,hToy⟩:∃Toy:Nat->Prop,Toy=λB=>∃b,tl b=true/\x.β b B:=⟨_,rfl⟩
 obtain⟨Pr,hPr⟩:∃Pr:Bij,Pr=cut (kbE kx tl x.w) β3:=⟨_,rfl⟩
 have toyLt:∀B,Toy B->B<W.heap.size:=λB h=>by rw[hToy] at h;obtain⟨b,_,h⟩:=h;exact(xlt _ _ h).2
 have W23:W2.heap.size=W1.heap.size:=by rw[W2h]
 have n0:∀b,kx b=true\/tl b=true->b≠x.w.heap.size:=λb h e=>by have:=hkt b h;omega
 have old3:∀b B,tl b=true->(β3 b B↔x.β b B):=λb B h=>⟨λh3=>by
  rcases cs3 b B h3 with h4|h4
  ·exact(old1 b B h).1 h4
  ·exact absurd h4.1 (n0 b (.inr h)),λh3=>le3 _ _ ((old1 b B h).2 h3)⟩
 have toyHid:∀b B,β3 b B->Toy B->tl b=true:=λb B h hB=>by
  have hlt:=toyLt B hB
  rw[hToy] at hB
  obtain⟨b',h1,h2⟩:=hB
  rcases cs3 b B h with h4|h4
  ·have h5:=(lowB b B h4 hlt).1
   rw[ht.wl.fine.inj h5 h2];exact h1
  ·omega
 have C:=I.ctx (β:=x.β) (Pr:=Pr) (T:=A.callers) (Toy:=Toy) (Wg:=W2.heap.size) lib Wl h93 hT bD (λb B h1 h2=>by rw[hPr] at h1;rw[hToy];exact⟨b,h2,(old3 b B h2).1 h1.2⟩)
  (λb h=>by obtain⟨B,hB⟩:=hpair b (.inr h);exact⟨B,by rw[hPr];exact⟨.inr (.inl h),(old3 b B h).2 hB⟩⟩) (λb B h=>by rw[hPr] at h;exact h.1) (by rw[hPr];exact⟨.inr (.inr (.inl rfl)),pair3⟩) (λh=>by have:=toyLt _ h;omega)
  (λb B h=>by rw[hPr];exact⟨λh1=>(old3 b B h).1 h1.2,λh1=>⟨.inr (.inl h),(old3 b B h).2 h1⟩⟩)
 have hd0:=na I
 have sw:∀b,b<x.w.heap.size+3->(startW kx tl x.w cb (.func f fx fc)).heap[b]?≠none:=λb hb=>by rw[Ne,Array.getElem?_eq_none_iff,dj];omega
 have scr : ScrR PP SB BB true 0 144 W2.heap.size Toy (ToyW x.β tl oK) (ToyW x.β tl oE) 67 70 x.w.heap.size Pr A.callers (FnE BB tl x.w (tpOf n)) n true (hidE tl x.w)
   (G ((base 39).at ((gA cb (x.w.heap.size+1) (x.w.heap.size+1+1) (.func f fx fc)).put (some 4) (.pointer (some ⟨x.w.heap.size,0,none⟩))) (.inRegion o1 []::kA)) [bad]) (startW kx tl x.w cb (.func f fx fc)):=by
  obtain⟨e1,v,e2⟩:=I.hold _ I.ok
  refine rB I.hB (cC C.fins n) (by simp) (I.box2 _ I.ok) e1 e2 ?_
  have:=qo C (λb B h=>by rw[hPr] at h;exact h.1) n 0 (by omega) (kbE kx tl x.w) _ hd0 undef undef undef (.pointer (some ⟨cb,0,none⟩)) (.pointer (some ⟨cb,0,none⟩)) (.pointer (some ⟨cb,2,none⟩)) undef undef undef undef undef undef undef undef undef undef undef undef undef (λv hv=>by
   simp only[List.mem_cons,List.not_mem_nil,or_false] at hv
   rcases hv with rfl|rfl|rfl|rfl|rfl|rfl|rfl|rfl|rfl|rfl|rfl<;>first|exact VRel.undef _ _|exact .ptr (.inl I.ks.1) _ _)
  rw[I.tp0] at this
  exact this
 have keep1:=tw2.keep
 have Wold:∀B,B<W.heap.size->W3.heap[B]?=W.heap[B]?:=λB hB=>by
  obtain⟨h1,h2⟩:=keep1 B hB
  rw[W3get B h1];exact h2
 have W3osW:W3.os=W.os/\W3.output=W.output:=⟨W3os.1.trans (W2o.1.trans os1.1),W3os.2.trans (W2o.2.trans os1.2)⟩
 obtain⟨x3,hx3⟩:∃x3:Lone,x3=⟨G ((base 39).at ((gA cb (x.w.heap.size+1) (x.w.heap.size+1+1) (.func f fx fc)).put (some 4) (.pointer (some ⟨x.w.heap.size,0,none⟩))) (.inRegion o1 []::kA)) [bad],startW kx tl x.w cb (.func f fx fc),hidE tl x.w,β3,A.callers⟩:=⟨_,rfl⟩
 have gl3':GLike PP SB BB true x3 A3:=by rw[hx3];rw[eH1,eT1] at gl3;exact gl3
 have b3:x3.β=β3:=by rw[hx3]
 have H3:x3.H=hidE tl x.w:=by rw[hx3]
 have wg3:∀b,β3 b W2.heap.size->(hidE tl x.w).at_ b=true:=λb hb=>by
  rcases cs3 _ _ hb with h|h
  ·have:=lt1 _ _ h;omega
  ·simp[h.1]
 have nd3:∀b B,β3 b B->¬Dead B:=λb B hb hd=>by
  rcases cs3 _ _ hb with h|h
  ·have h1:=tw2.dead b B h hd
   rw[eH1] at h1
   simp only[Bool.or_eq_true,beq_iff_eq] at h1
   rcases h1 with h1|rfl
   ·exact noDead b B ((old1 b B h1).1 h) hd
   ·exact none1 _ h
  ·have:=b2.low B hd;omega
 have keepx3:∀b B,β3 b B->B<W.heap.size->(hidE tl x.w).at_ b=true\/Ro (startW kx tl x.w cb (.func f fx fc)) b:=λb B hb hB=>by
  rcases cs3 _ _ hb with h|h
  ·rcases(lowB b B h hB).2 with h|h
   ·have hl:=hkt b (.inl h)
    obtain⟨q1,l,ty,g,q2,q3,q4⟩:=I.kxs b h
    refine .inr ?_
    unfold Ro
    rw[aW,if_neg (by omega),if_neg (by omega),if_neg (by omega),eO q2 h q1]
    exact⟨_,_,_,rfl,λi hi=>⟨Nat.zero_le _,hi⟩⟩
   ·exact .inl (by simp[h])
  ·exact .inl (by simp[h.1])
 have toys3:ToyW x.β tl oK W3:=λb B hb h=>by
  obtain⟨o,O,p1,p2,p3⟩:=ht.wl.objs b B hb (hH b)
  obtain⟨q1,q2,_⟩:=I.tls b h
  rw[q1] at p1;cases p1
  exact⟨O,(Wold B (xlt b B hb).2).trans p2,λS Ck β'=>q2.rel p3⟩
 obtain⟨μ,hinv⟩:=begin_group (P:=PP) (SB:=SB) (BB:=BB) (lets:=true) (Gn:=0) (ty:=144) (Wg:=W2.heap.size) (Dead:=Dead) (Toy:=Toy) (Kp:=⟨λB=>B<W.heap.size/\¬Toy B,W,gs.size+n⟩) (Ψ0:=ToyW x.β tl oK) (Ψ2:=ToyW x.β tl oE) (fA:=67) (fW:=70) (wl:=x.w.heap.size) (Pr:=Pr) (T:=A.callers) (Fn:=FnE BB tl x.w (tpOf n))
  (gs:=gs3) (W:=W3) (t:=t2) (q:=q2) (sl:=sl2) (x:=x3) (a:=A3) (tp:=true) (k:=n) lv3 b2.past b2.quiet (λi op h=>by rw[z3];exact b2.gs_ i op h) b2.low (by show W3.heap[W2.heap.size]?=_;rw[hW3,ax,if_pos rfl];rfl) g3
  gl3' (by rw[hx3];exact wl3) (by rw[H3]) (by rw[hx3]) (λb B h=>by rw[hPr] at h;rw[b3];exact h.2) (λb hb=>by rw[b3] at hb;rw[H3];exact wg3 b hb) (λb B hb=>by rw[b3] at hb;exact nd3 b B hb) (λb B hb hB=>by rw[b3] at hb;rw[H3];simp[toyHid b B hb hB])
  (λB hB=>⟨⟨by have:=toyLt B hB;omega,λhd=>by rw[hToy] at hB;obtain⟨b,_,h⟩:=hB;exact noDead _ _ h hd⟩,λh=>h.2 hB,by have:=toyLt B hB;omega⟩)
  (λB hB=>⟨by have:=hB.1;omega,by have:=hB.1;omega,Wold B hB.1⟩) (λb B hb hB=>by rw[b3] at hb;have:=keepx3 b B hb hB.1;rw[hx3];exact this) W3osW ⟨λ_=>toys3,λh=>(by cases h)⟩ (by rw[hx3];exact scr) (by simp only;omega)
 have tzK:ap Toy (ToyW x.β tl oK):=λW W' hW h b B h1 h2=>by
  obtain⟨O,h3,h4⟩:=h b B h1 h2
  exact⟨O,(hW B (by rw[hToy];exact⟨b,h2,h1⟩)).trans h3,h4⟩
 have tzE:ap Toy (ToyW x.β tl oE):=λW W' hW h b B h1 h2=>by
  obtain⟨O,h3,h4⟩:=h b B h1 h2
  exact⟨O,(hW B (by rw[hToy];exact⟨b,h2,h1⟩)).trans h3,h4⟩
 have hA:=addIn (P:=PP) (SB:=SB) (BB:=BB) (lets:=true) (Gn:=0) (Wg:=W2.heap.size) (T:=A.callers) (L:=L) Wl bA x.w.heap.size
 have hW:=sU (P:=PP) (SB:=SB) (BB:=BB) (lets:=true) (Gn:=0) (Wg:=W2.heap.size) (T:=A.callers) (L:=L) Wl bW x.w.heap.size
 rw[hT,h91] at hA
 rw[hT,h94] at hW
 obtain⟨N4,m4,t4,hr4,hfin⟩:=join (by rw[hPr];exact⟨.inr (.inr (.inl rfl)),pair3⟩) lib (λf fn h _=>h) tzK tzE hA hW hinv
 obtain⟨gs4,W4,sl4,x4,a4,tp4,q4,rfl,g4,lv4,past4,quiet4,gsb4,fini4,wl4,tw4,wg4,dead4,toy4,keep4,wgl4,dl4,t0_4,t2_4,os4,ou4,bd4,keepx4⟩:=past_of_fin hfin
 obtain⟨e4,eH4,r4⟩:=fini4.fin
 have W4lt:∀B,B<W.heap.size->B<W4.heap.size:=λB h=>by omega
 have b4:Btw Tryz.prog (λB=>Dead B\/B=W2.heap.size) gs4 W4 t4 q4:=⟨lv4,past4,quiet4,gsb4,λB hB=>hB.elim (dl4 B) λh=>h▸wgl4⟩
 have tw4':Tw PP SB BB true 0 (λB=>Dead B\/B=W2.heap.size) ⟨λB=>B<W.heap.size,W4,0⟩ x4 a4 W4:=⟨fini4.gl,wl4,tw4,λb B hb hd=>hd.elim (λh=>absurd h (dead4 b B hb)) λh=>wg4 b (h▸hb),λB hB=>⟨W4lt B hB,rfl⟩,λb B hb hB=>by
  by_cases hty:Toy B
  ·exact .inl (toy4 b B hb hty)
  ·exact keepx4 b B hb ⟨hB,hty⟩⟩
 obtain⟨N5,m5,t5,hr5,gs5,W5,sl5,q5,x5,a5,rfl,g5,z5,b5,tw5,Q5,eH5,eT5,le5,os5,sz5,sz5',new5⟩:=tree_beside (P:=PP) (SB:=SB) (BB:=BB) (lets:=true) (Gn:=0) (Kp:=⟨λB=>B<W.heap.size,W4,0⟩) lib
  (H:=x4.H) (T:=x4.T) (β:=x4.β) (Q:=Iso.Left Tryz.prog 39 λv _=>v=.tuple #[]) (os:=W4.os) (ou:=W4) (n:=gs4.size) (b0:=0) (B0:=W4.heap.size) _ (crowd gs4 W4 sl4) t4
  ⟨gs4,W4,sl4,q4,x4,a4,rfl,g4,rfl,b4,tw4',r4,rfl,rfl,Bij.le_refl _,⟨rfl,rfl⟩,⟨Nat.le_refl _,Nat.zero_le _,λb B h=>.inl h⟩,rfl⟩
 obtain⟨N6,m6,t6,hr6,gs6,d6,sl6,q6,st6,g6,z6,b6⟩:=main_turn (P:=PP) (sl:=sl5) b5 g5 tw5.gl.status.2
 have tw6:=tw5.at d6
 have hgl5:GRel PP SB x5.H true BB (FR::CS) x5.β x5.g a5:=by
  have:=tw5.gl
  rw[GLike,eT5,fini4.t,eCS] at this
  exact this
 obtain⟨v,w0,w1,V,W7,ES,β7,_,hv,_,st7,hV,fin7⟩:=leave (P:=PP) (lib x5.H) (main2:=true) Q5 I.hB hgl5 tw6.wl
 subst hv
 have eV:V=.tuple #[]:=by
  cases hV with
  |@tuple _ X h1 _ =>
   have:X=#[]:=by simpa using h1.symm
   rw[this]
 subst eV
 obtain⟨gs7,ops7,hst7,z7,g7,b7⟩:=b6.fin (P:=PP) (SB:=SB) (lets:=true) (Gn:=0) (x:=x5) tw5.tw tw6.dead g6 st7 fin7 sl6
 obtain⟨keep7,_⟩:=keep_fin (P:=PP) (SB:=SB) (lets:=true) (Gn:=0) (x:=x5) fin7 tw6.keep tw6.keepx
 have hrun:runNT Tryz.prog ((N1+(N2+1))+(N4+(N5+(N6+1)))) (crowd gs W sl) t=(.next (crowd gs7 W7 sl6),t6++ops7):=by
  have e4:runNT Tryz.prog N4 (crowd gs3 W3 sl2) t2=(.next (crowd gs4 W4 sl4),t4):=hr4
  have e5:runNT Tryz.prog N5 (crowd gs4 W4 sl4) t4=(.next (crowd gs5 W5 sl5),t5):=hr5
  have e6:runNT Tryz.prog N6 (crowd gs5 W5 sl5) t5=(.next m6,t6):=hr6
  have e7:stepT Tryz.prog m6=(.next (crowd gs7 W7 sl6),ops7):=st6.trans hst7
  rw[ck hr3,ck e4,ck e5,ck e6,mg e7]
 have W7old:∀B,B<W.heap.size->B<W7.heap.size/\W7.heap[B]?=W4.heap[B]?:=λB hB=>keep7 B hB
 have W7plain:∀B,B<W.heap.size->¬Toy B->W7.heap[B]?=W.heap[B]?:=λB hB hT=>(W7old B hB).2.trans (keep4 B ⟨hB,hT⟩)
 have W5s:W5.heap.size<=W7.heap.size:=fin7.SIZE
 have toyF:∀b B,x.β b B->tl b=true->∃O,W7.heap[B]?=some O/\∀(S:Par) (Ck:Code->Prop) (β':Bij),ORel S Ck β' (oF (tpOf n) oK oE b) O:=λb B hb h=>by
  have hE:=(W7old B (xlt b B hb).2).2
  rw[hE]
  cases htp:tpOf n with
  |true=>exact t0_4 (by rw[e4];exact htp) b B hb h
  |false=>exact t2_4 (by rw[e4];exact htp) b B hb h
 have notToy:∀b B,x.β b B->tl b=false->¬Toy B:=λb B hb h hT=>by
  rw[hToy] at hT
  obtain⟨b',h1,h2⟩:=hT
  rw[ht.wl.fine.inj hb h2] at h
  rw[h] at h1;cases h1
 have os7:W7.os=W.os/\W7.output=W.output:=⟨fin7.OS.trans (os5.1.trans os4),fin7.OUT.trans (os5.2.trans ou4)⟩
 refine⟨_,_,_,hrun,gs7,W7,sl6,q6,_,_,rfl,g7,?_,b7,⟨ii (x:=⟨back fr cs,relay tl (oF (tpOf n) oK oE) x.w,x.H,x.β,x.T⟩) r1 r2,⟨ht.wl.fine,⟨Nat.zero_le _,Nat.zero_le _⟩,λb B hb hh=>?_,λb B hb hh=>?_,λb hh=>?_,?_⟩,ht.tw,λb B hb hd=>?_,λB hB=>?_,λb B hb hB=>?_⟩,os7,by omega,λB hB=>hB.imp id λh=>by rw[h];omega⟩
 ·rw[z7,z6,z5];exact bd4
 ·have hl:=(xlt b B hb).1
  rw[bz _ _ _ _ hl]
  cases h:tl b with
  |true =>
   obtain⟨O,h1,h2⟩:=toyF b B hb h
   exact⟨_,O,rfl,h1,h2 _ _ _⟩
  |false =>
   obtain⟨o,O,p1,p2,p3⟩:=ht.wl.objs b B hb (hH b)
   exact⟨o,O,p1,(W7plain B (xlt b B hb).2 (notToy b B hb h)).trans p2,p3⟩
 ·have hh':x.H b=true:=hh
  rw[hH] at hh';cases hh'
 ·have hh':x.H b=true:=hh
  rw[hH] at hh';cases hh'
 ·show x.w.os.env=W7.os.env
  rw[os7.1];exact ht.wl.env
 ·rcases hd with hd|hd
  ·exact absurd hd (noDead b B hb)
  ·have:=(xlt b B hb).2
   omega
 ·obtain⟨k1,k2⟩:=ht.keep B hB
  refine⟨(W7old B k1).1,(W7plain B k1 λhT=>?_).trans k2⟩
  rw[hToy] at hT
  obtain⟨b,h1,h2⟩:=hT
  exact hKp b B h2 h1 hB
 ·rcases ht.keepx b B hb hB with h|⟨c',t',f',h1,h2⟩
  ·exact .inl h
  ·refine .inr ⟨c',t',f',?_,h2⟩
   show(relay tl _ x.w).heap[b]?=_
   rw[bz _ _ _ _ (xlt b B hb).1]
   cases h:tl b with
   |true=>exact absurd hB (hKp b B hb h)
   |false=>exact h1
end
open Go.RowKit Go.Sq
def aZ (a b c:Int)(w:World):Calls uZ 19 #[.int .i64 a,.int .i64 b,.int .i64 c] w λe w'=>e=.returned (.bool (inR a b c))/\w=w':=by
 by_cases h1:b<=a
 ·by_cases h2:a<=c
  ·have HS:=ui (show inR a b c=true by simp[inR,h1,h2])
   go_enter Sq.func19,Tryz.ntmps19
   go_wp2
   go_ret
   exact⟨aD HS.out.symm,rfl⟩
  ·have HS:=ui (show inR a b c=false by simp[inR];omega)
   go_enter Sq.func19,Tryz.ntmps19
   go_wp2
   go_ret
   exact⟨aD HS.out.symm,rfl⟩
 ·have HS:=ui (show inR a b c=false by simp[inR];omega)
  go_enter Sq.func19,Tryz.ntmps19
  go_wp2
  go_ret
  exact⟨aD HS.out.symm,rfl⟩
def eP (n lo hi:Int)(w:World):Calls uZ 18 #[.int .i64 n,.int .i64 lo,.int .i64 hi] w λe w'=>e=.returned (.int .i64 (manyE n lo hi))/\w=w':=by
 by_cases h1:n<lo
 ·have HS:=ui (show manyE n lo hi=7 by simp[manyE,h1])
  go_enter Sq.func18,Tryz.ntmps18
  go_wp2
  go_ret
  exact⟨aq HS.out.symm,rfl⟩
 ·by_cases h2:hi<n
  ·have HS:=ui (show manyE n lo hi=6 by simp[manyE,h1,h2])
   go_enter Sq.func18,Tryz.ntmps18
   go_wp2
   go_ret
   exact⟨aq HS.out.symm,rfl⟩
  ·have HS:=ui (show manyE n lo hi=0 by simp[manyE,h1,h2])
   go_enter Sq.func18,Tryz.ntmps18
   go_wp2
   go_ret
   exact⟨aq HS.out.symm,rfl⟩
def gP (A:Option Addr)(c:Nat)(l:List Int)(n:Int)(w:World)(B:Nat)(h:RI w B A l)(hl:l.length<=4611686018427387904)(hn0:0<=n)(hn:n<=4611686018427387904) :
  Calls uZ 32 #[.slice A l.length c,.int .i64 n] w λe w'=>e=.returned (.int .i64 (ascE l n))/\w=w':=by
 have HR:=ui h
 clear h
 go_enter Sq.func32,Tryz.ntmps32
 go_wp2
 go_loop [9] (λi=>∃k:Nat,k<=l.length/\i=.int .i64 k/\∀j,j<k->ascAt l n j=0) (λi=>l.length-(intOf i).toNat)
 case atStart=>exact⟨0,by omega,rfl,λj hj=>absurd hj (Nat.not_lt_zero _)⟩
 case round =>
  obtain⟨k,hk,rfl,hz⟩:=hrel
  have HZ:=ui hz
  clear hz
  by_cases hlt:k<l.length
  ·obtain⟨b,o,rfl,hb,hc⟩:=HR.out.at_ hlt
   have HA:Hid (ascAt l n k=if 0<=l[k]?.getD 0/\l[k]?.getD 0<=n-1 then(if 0<k/\l[k]?.getD 0<=l[k-1]?.getD 0 then 5 else 0) else 3):=ui rfl
   by_cases hr:0<=l[k]?.getD 0/\l[k]?.getD 0<=n-1
   ·have HI : Hid (Calls uZ 19 #[.int .i64 (l[k]?.getD 0), .int .i64 0, .int .i64 (n - 1)] w fun e w' => e = .returned (.bool true) ∧ w = w') := Lib.hid (by
     have:=aZ (l[k]?.getD 0) 0 (n-1) w
     rwa [show inR (l[k]?.getD 0) 0 (n-1)=true by simp[inR,hr.1,hr.2]] at this)
    rcases Nat.eq_zero_or_pos k with h0|h0
    ·subst h0
     have HS:=ui (show ascAt l n 0=0 by rw[HA.out,if_pos hr,if_neg (by omega)])
     clear HA hr
     simp only[Nat.add_zero] at hc
     generalize l[0]?.getD 0=x at hc HI
     go_wp2_with (go_at_call 19;refine HI.out.mono ?_;rintro e w' ⟨rfl,rfl⟩)
     go_round
     case rel=>exact⟨1,by omega,by go_num,λj hj=>by
      have:j=0:=by omega
      subst this;exact HS.out⟩
     case measure=>simp[intOf];omega
    ·obtain⟨m,rfl⟩:∃m,k=m+1:=⟨k-1,by omega⟩
     have hc':w.cell? ⟨b,o+m,none⟩=some (.int .i64 (l[m]?.getD 0)):=by
      obtain⟨b',o',e,_,h⟩:=HR.out.at_ (k:=m) (by omega)
      simp only[Option.some.injEq,Addr.mk.injEq] at e
      obtain⟨rfl,rfl,_⟩:=e
      exact h
     by_cases hle:l[m+1]?.getD 0<=l[m]?.getD 0
     ·have HS := Lib.hid (show ascE l n = 5 by
       have e:ascAt l n (m+1)=5:=by rw[HA.out,if_pos hr,if_pos ⟨h0,hle⟩]
       rw[j9 hlt HZ.out (by rw[e];decide),e])
      clear HA hr
      generalize l[m+1]?.getD 0=x at hc HI hle
      generalize l[m]?.getD 0=y at hc' hle
      go_wp2_with (go_at_call 19;refine HI.out.mono ?_;rintro e w' ⟨rfl,rfl⟩)
      go_ret
      exact⟨aq HS.out.symm,rfl⟩
     ·have HS:=ui (show ascAt l n (m+1)=0 by rw[HA.out,if_pos hr,if_neg (λh=>hle h.2)])
      clear HA hr
      generalize l[m+1]?.getD 0=x at hc HI hle
      generalize l[m]?.getD 0=y at hc' hle
      go_wp2_with (go_at_call 19;refine HI.out.mono ?_;rintro e w' ⟨rfl,rfl⟩)
      go_round
      case rel=>exact⟨m+1+1,by omega,by go_num,λj hj=>by
       rcases Nat.lt_or_eq_of_le (Nat.le_of_lt_succ hj) with h|rfl
       ·exact HZ.out j h
       ·exact HS.out⟩
      case measure=>simp[intOf];omega
   ·have HI : Hid (Calls uZ 19 #[.int .i64 (l[k]?.getD 0), .int .i64 0, .int .i64 (n - 1)] w fun e w' => e = .returned (.bool false) ∧ w = w') := Lib.hid (by
     have:=aZ (l[k]?.getD 0) 0 (n-1) w
     rwa [show inR (l[k]?.getD 0) 0 (n-1)=false by simp[inR];omega] at this)
    have HS:=ui (show ascE l n=3 by
     have e:ascAt l n k=3:=by rw[HA.out,if_neg hr]
     rw[j9 hlt HZ.out (by rw[e];decide),e])
    clear HA hr
    generalize l[k]?.getD 0=x at hc HI
    go_wp2_with (go_at_call 19;refine HI.out.mono ?_;rintro e w' ⟨rfl,rfl⟩)
    go_ret
    exact⟨aq HS.out.symm,rfl⟩
  ·have HS:=ui (show ascE l n=0 from nZ λi hi=>HZ.out i (by omega))
   have:k=l.length:=by omega
   clear HZ
   go_wp2
   go_ret
   exact⟨aq HS.out.symm,rfl⟩
open Go.RowKit Go.Sq
def campV (nA hA:Option Addr)(c:Camp)(nc hc:Nat):Value:=.agg #[.slice nA c.needs.length nc,.slice hA c.herders.length hc]
def nd {c:Camp}(h1:manyE c.needs.length 1 5=0)(h2:(c.needs.all λx=>inR x 0 12)=true)(h3:manyE c.herders.length 1 4=0):checkE c=bj (c.herders.map (herdE c.needs.length)):=by
 simp[checkE,h1,h2,h3]
def dK (c:Camp)(n:Int){i:Nat}(hi:i<c.herders.length):(c.herders.map (herdE n))[i]?.getD 0=herdE n (c.h i):=by
 unfold Camp.h
 simp[hi]
def rJ (nA hA:Option Addr)(nc hc:Nat)(c:Camp)(w:World)(B:Nat)(hB:B<=w.heap.size)(hn:RI w B nA c.needs)(hh:HsAt w B hA c.herders)(hl1:c.needs.length<=4611686018427387904)(hl2:c.herders.length<=4611686018427387904)
  (hlo:∀h∈c.herders,h.off.length<=4611686018427387904) :
  Calls uZ 63 #[campV nA hA c nc hc] w λe w'=>e=.returned (.int .i64 (checkE c))/\Gr w w':=by
 have HN:=ui hn
 have HH:=ui hh
 have HLO:=ui hlo
 clear hn hh hlo
 unfold campV
 obtain⟨W0,hW0⟩:∃W0:World,W0=w.alloc (.cells #[.slice nA c.needs.length nc,.slice hA c.herders.length hc] 27):=⟨_,rfl⟩
 have HG0:Hid (Gr w W0):=ui (by rw[hW0];exact(Gr.refl w).alloc _)
 have HC:Hid (∀W,Gr W0 W->W.cell? ⟨w.heap.size,0,none⟩=some (.slice nA c.needs.length nc)/\W.cell? ⟨w.heap.size,1,none⟩=some (.slice hA c.herders.length hc)):=ui λW hg=>by
  rw[hg.cell (by show w.heap.size<_;rw[hW0];simp),hg.cell (by show w.heap.size<_;rw[hW0];simp),hW0,World.cell?_alloc_at _ _ _ _ rfl,World.cell?_alloc_at _ _ _ _ rfl]
  exact⟨rfl,rfl⟩
 have hz0:W0.heap.size=w.heap.size+1:=by rw[hW0];simp
 by_cases hm1:manyE c.needs.length 1 5=0
 ·have HM:Hid (Calls uZ 18 #[.int .i64 c.needs.length,.int .i64 1,.int .i64 5] (w.alloc (.cells #[.slice nA c.needs.length nc,.slice hA c.herders.length hc] 27)) λe w'=>e=.returned (.int .i64 0)/\(w.alloc (.cells #[.slice nA c.needs.length nc,.slice hA c.herders.length hc] 27))=w'):=ui (by rw[<-hm1];exact eP _ _ _ _)
  have HM1:=ui hm1
  have HW:=ui hW0
  clear hm1 hW0
  go_enter Sq.func63,Tryz.ntmps63
  go_wp2_with (first|(go_at_call 18;refine HM.out.mono ?_;rintro e w' ⟨rfl,rfl⟩))
  rw[<-HW.out]
  clear HW HM
  obtain⟨hc0,hc1⟩:=HC.out W0 (Gr.refl _)
  have HN0:=ui ((HN.out.gr hB HG0.out).more (B':=W0.heap.size) (by omega))
  go_loop [20] (λi=>∃k:Nat,k<=c.needs.length/\i=.int .i64 k/\∀j,j<k->inR (c.needs[j]?.getD 0) 0 12=true) (λi=>c.needs.length-(intOf i).toNat)
  case atStart=>exact⟨0,by omega,rfl,λj hj=>absurd hj (Nat.not_lt_zero _)⟩
  case round =>
   obtain⟨k,hk,rfl,hz⟩:=hrel
   have HZ:=ui hz
   clear hz
   by_cases hlt:k<c.needs.length
   ·obtain⟨b,o,rfl,hb,hcell⟩:=HN0.out.at_ hlt
    have hI:=aZ (c.needs[k]?.getD 0) 0 12 W0
    cases hin:inR (c.needs[k]?.getD 0) 0 12 with
    |true =>
     rw[hin] at hI
     have HI:=ui hI
     have HIN:=ui hin
     clear hI hin
     generalize c.needs[k]?.getD 0=x at hcell HI
     go_wp2_with (go_at_call 19;refine HI.out.mono ?_;rintro e w' ⟨rfl,rfl⟩)
     go_round
     case rel=>exact⟨k+1,by omega,by go_num,λj hj=>by
      rcases Nat.lt_or_eq_of_le (Nat.le_of_lt_succ hj) with h|rfl
      ·exact HZ.out j h
      ·exact HIN.out⟩
     case measure=>simp[intOf];omega
    |false =>
     rw[hin] at hI
     have HI:=ui hI
     have HS:=ui (show checkE c=1 by
      have:(c.needs.all λx=>inR x 0 12)=false:=by
       rw[List.all_eq_false]
       exact⟨_,mem_get _ _ hlt,by simp[hin]⟩
      simp[checkE,HM1.out,this])
     clear hI hin
     generalize c.needs[k]?.getD 0=x at hcell HI
     go_wp2_with (go_at_call 19;refine HI.out.mono ?_;rintro e w' ⟨rfl,rfl⟩)
     go_ret
     exact⟨aq HS.out.symm,HG0.out⟩
   ·have HA := Lib.hid (show (c.needs.all fun x => inR x 0 12) = true by
     rw[List.all_eq_true]
     intro x hx
     obtain⟨j,hj,rfl⟩:=List.mem_iff_getElem.1 hx
     have:=HZ.out j (by omega)
     rwa [List.getElem?_eq_getElem hj] at this)
    have hkl:k=c.needs.length:=by omega
    clear HZ
    subst hkl
    have hM2:=eP c.herders.length 1 4 W0
    by_cases hm2:manyE c.herders.length 1 4=0
    ·rw[hm2] at hM2
     have HM:=ui hM2
     have HD:=ui (nd HM1.out HA.out hm2)
     clear hM2 hm2
     go_wp2_with (first|(go_at_call 18;refine HM.out.mono ?_;rintro e w' ⟨rfl,rfl⟩))
     go_loopw [38] (λi wr=>∃k:Nat,k<=c.herders.length/\i=.int .i64 k/\(∀j,j<k->herdE c.needs.length (c.h j)=0)/\Gr W0 wr) (λi _=>c.herders.length-(intOf i).toNat)
     case atStart=>exact⟨0,by omega,rfl,λj hj=>absurd hj (Nat.not_lt_zero _),Gr.refl _⟩
     case round =>
      obtain⟨k,hk,rfl,hz,hgr⟩:=hrel
      have HZ:=ui hz
      have HG1:=ui hgr
      have HGW:=ui (HG0.out.trans hgr)
      obtain⟨hd0,hd1⟩:=HC.out wr hgr
      have hsz:w.heap.size<wr.heap.size:=by have:=HG1.out.size;omega
      clear hz hgr
      by_cases hlt:k<c.herders.length
      ·have HH1:=ui (HH.out.keep λb o hb=>HGW.out.cell (p:=⟨b,o,none⟩) (Nat.lt_of_lt_of_le hb hB))
       obtain⟨b,o,rfl,hb,hat⟩:=HH1.out.at_ (c:=c) hlt
       obtain⟨g0,g1,g2,A,ac,g3,hri⟩:=hat
       have HRI:=ui (hri.more (B':=wr.heap.size) (by omega))
       have hol:=HLO.out _ (c.h_mem hlt)
       have HF:=ui (dK c c.needs.length hlt)
       have HIT:∀x lo hi v,inR x lo hi=v->∀W:World,Calls uZ 19 #[.int .i64 x,.int .i64 lo,.int .i64 hi] W λe w'=>e=.returned (.bool v)/\W=w':=λx lo hi v h W=>by rw[<-h];exact aZ _ _ _ _
       have HHIT:=ui HIT
       clear HIT hri
       cases t1:inR (c.h k).heads 1 40 with
       |false =>
        have HS:=ui (show checkE c=1 by
         have e:herdE c.needs.length (c.h k)=1:=by simp[herdE,t1]
         rw[HD.out,cg (k:=k) (by simpa using hlt) (λi hi=>by rw[dK c _ (by omega)];exact HZ.out i hi) (by rw[HF.out,e];decide),HF.out,e])
        have HA:=ui (HHIT.out _ _ _ _ t1)
        clear t1
        go_wp2_with (first|(go_at_call 19;refine(HA.out _).mono ?_;rintro e w' ⟨rfl,rfl⟩))
        go_ret
        exact⟨aq HS.out.symm,HGW.out.alloc _⟩
       |true =>
        have HA:=ui (HHIT.out _ _ _ _ t1)
        cases t2:inR (c.h k).dogs 1 5 with
        |false =>
         have HS:=ui (show checkE c=1 by
          have e:herdE c.needs.length (c.h k)=1:=by simp[herdE,t2]
          rw[HD.out,cg (k:=k) (by simpa using hlt) (λi hi=>by rw[dK c _ (by omega)];exact HZ.out i hi) (by rw[HF.out,e];decide),HF.out,e])
         have HB2:=ui (HHIT.out _ _ _ _ t2)
         clear t1 t2
         go_wp2_with fail
         refine(HA.out _).mono ?_
         rintro e w' ⟨rfl,rfl⟩
         go_wp2_with fail
         refine(HB2.out _).mono ?_
         rintro e w' ⟨rfl,rfl⟩
         go_wp2
         go_ret
         exact⟨aq HS.out.symm,HGW.out.alloc _⟩
        |true =>
         have HB2:=ui (HHIT.out _ _ _ _ t2)
         cases t3:inR (c.h k).most 0 5 with
         |false =>
          have HS:=ui (show checkE c=1 by
           have e:herdE c.needs.length (c.h k)=1:=by simp[herdE,t3]
           rw[HD.out,cg (k:=k) (by simpa using hlt) (λi hi=>by rw[dK c _ (by omega)];exact HZ.out i hi) (by rw[HF.out,e];decide),HF.out,e])
          have HC3:=ui (HHIT.out _ _ _ _ t3)
          clear t1 t2 t3
          go_wp2_with fail
          refine(HA.out _).mono ?_
          rintro e w' ⟨rfl,rfl⟩
          go_wp2_with fail
          refine(HB2.out _).mono ?_
          rintro e w' ⟨rfl,rfl⟩
          go_wp2_with fail
          refine(HC3.out _).mono ?_
          rintro e w' ⟨rfl,rfl⟩
          go_wp2
          go_ret
          exact⟨aq HS.out.symm,HGW.out.alloc _⟩
         |true =>
          have HC3:=ui (HHIT.out _ _ _ _ t3)
          have HE:=ui (show herdE c.needs.length (c.h k)=ascE (c.h k).off c.needs.length by simp[herdE,t1,t2,t3])
          have HAS:=ui (λW (hg:Gr wr W)=>gP A ac (c.h k).off c.needs.length W wr.heap.size (HRI.out.gr (Nat.le_refl _) hg) hol (by omega) (by omega))
          have HGA:=ui (λv=>HGW.out.alloc v)
          have hgr2:Hid (∀v,Gr wr (wr.alloc v)):=ui λv=>(Gr.refl wr).alloc v
          clear t1 t2 t3
          by_cases he:ascE (c.h k).off c.needs.length=0
          ·rw[he] at HAS
           have HE0:=ui (HE.out.trans he)
           clear he HE
           go_wp2_with fail
           refine(HA.out _).mono ?_
           rintro e w' ⟨rfl,rfl⟩
           go_wp2_with fail
           refine(HB2.out _).mono ?_
           rintro e w' ⟨rfl,rfl⟩
           go_wp2_with fail
           refine(HC3.out _).mono ?_
           rintro e w' ⟨rfl,rfl⟩
           go_wp2_with fail
           refine(HAS.out _ (hgr2.out _)).mono ?_
           rintro e w' ⟨rfl,rfl⟩
           go_wp2
           go_roundw
           case rel=>exact⟨k+1,by omega,by go_num,λj hj=>by
            rcases Nat.lt_or_eq_of_le (Nat.le_of_lt_succ hj) with h|rfl
            ·exact HZ.out j h
            ·exact HE0.out,HG1.out.alloc _⟩
           case measure=>simp[intOf];omega
          ·have HS := Lib.hid (show checkE c = ascE (c.h k).off c.needs.length by
            rw[HD.out,cg (k:=k) (by simpa using hlt) (λi hi=>by rw[dK c _ (by omega)];exact HZ.out i hi) (by rw[HF.out,HE.out];exact he),HF.out,HE.out])
           have hne:((ascE (c.h k).off c.needs.length) != 0)=true:=by simpa using he
           clear HE he
           generalize ascE (c.h k).off c.needs.length=e0 at HAS HS hne
           go_wp2_with fail
           refine(HA.out _).mono ?_
           rintro e w' ⟨rfl,rfl⟩
           go_wp2_with fail
           refine(HB2.out _).mono ?_
           rintro e w' ⟨rfl,rfl⟩
           go_wp2_with fail
           refine(HC3.out _).mono ?_
           rintro e w' ⟨rfl,rfl⟩
           go_wp2_with fail
           refine(HAS.out _ (hgr2.out _)).mono ?_
           rintro e w' ⟨rfl,rfl⟩
           go_wp2
           go_ret
           exact⟨aq HS.out.symm,HGW.out.alloc _⟩
      ·have HS := Lib.hid (show checkE c = 0 by
        rw[HD.out]
        exact eD λi hi=>by
         rw[List.length_map] at hi
         rw[dK c _ hi];exact HZ.out i (by omega))
       have hkl:k=c.herders.length:=by omega
       clear HZ
       subst hkl
       go_wp2
       go_ret
       exact⟨aq HS.out.symm,HGW.out⟩
    ·have HS:=ui (show checkE c=manyE c.herders.length 1 4 by simp[checkE,HM1.out,HA.out,hm2])
     have HM:=ui hM2
     have hb:((manyE c.herders.length 1 4) != 0)=true:=by simpa using hm2
     clear hM2 hm2
     generalize manyE c.herders.length 1 4=e0 at HM hb HS
     go_wp2_with (first|(go_at_call 18;refine HM.out.mono ?_;rintro e w' ⟨rfl,rfl⟩))
     go_ret
     exact⟨aq HS.out.symm,HG0.out⟩
 ·have HS:=ui (show checkE c=manyE c.needs.length 1 5 by simp[checkE,hm1])
  have HM:=ui (eP c.needs.length 1 5 W0)
  have hb:((manyE c.needs.length 1 5) != 0)=true:=by simpa using hm1
  rw[hW0] at HM
  generalize manyE c.needs.length 1 5=e0 at HM hb HS
  clear hm1 hW0
  go_enter Sq.func63,Tryz.ntmps63
  go_wp2_with (first|(go_at_call 18;refine HM.out.mono ?_;rintro e w' ⟨rfl,rfl⟩))
  go_ret
  exact⟨aq HS.out.symm,(Gr.refl w).alloc _⟩
end Go.Proofs.YtjmmlkobmhlikaaGreat
namespace Go.Sq
open Go.RowKit
def gb (u:Value):Prop:=∃x,u=.int .u8 x
def FlatS (w:World)(v:Value):Prop:=∀a n c,v=.slice (some a) n c->∃(cur:Array Value) (t:TypeId),w.heap[a.block]?=some (.cells cur t (0,0))/\∀u∈cur.toList,gb u
def FlatS.nil (w:World):FlatS w (.slice none 0 0):=λa n c h=>by cases h
def FlatS.keep {w w':World}{v:Value}(h:FlatS w v)(hk:∀a n c,v=.slice (some a) n c->w'.heap[a.block]?=w.heap[a.block]?):FlatS w' v:=λa n c e=>by
 obtain⟨cur,t,h1,h2⟩:=h a n c e
 exact⟨cur,t,(hk a n c e).trans h1,h2⟩
variable {P:Program}
def rL (n:Nat):∀u∈(Builtin.zeroCells (Value.int .u8 0).cells n).toList,gb u:=by
 intro u hu
 simp only[Builtin.zeroCells,Array.toList_map,List.mem_map] at hu
 obtain⟨i,_,rfl⟩:=hu
 refine⟨0,?_⟩
 show(#[Value.int .u8 0]:Array Value)[i % 1]! = _
 rw[Nat.mod_one];rfl
def lD (w:World)(base:Nat)(t ty e:TypeId)(i:TypeInfo)(ht:P.underlying t=some (.slice e))(hi:P.info? e=some i)(hz:i.zero=some (.int .u8 0))
  (hsize:i.size=1) (hby:i.bytes=1) (v:Value) (n:Nat) (xs:List Value) (hown:w.ownsRow base e 1 v n xs) (hf:FlatS w v)
  (a:Addr) (m c:Nat) (news:List Value) (hl:news.length=m*1) (hnews:∀j u,news[j]?=some u->w.cell? (a.add j)=some u) (h1:∀u∈news,gb u) (h63:n+m<=maxLen) (hbytes:(n+m)*1<=140737488355328)
  {v':Value} {w':World} (hrun:(Builtin.append_ #[t,t] ty #[v,.slice (some a) m c]).run P w=.ok v' w'):FlatS w' v':=by
 have hsmall:n+m<=9223372036854775807:=by simp only[maxLen] at h63;omega
 have hone:∀u∈news,u.oneCell'=true:=λu hu=>by obtain⟨x,rfl⟩:=h1 u hu;rfl
 have grown:∀(ys:List Value) k,(∀u∈ys,gb u)->∀l1 l2 n1 c1,l1++l2=ys->FlatS (w.drew.alloc (.cells (l1.toArray++l2.toArray++Builtin.zeroCells (Value.int .u8 0).cells k) e)) (.slice (some ⟨w.heap.size,0,none⟩) n1 c1):=by
  intro ys k hys l1 l2 n1 c1 hl12 a n c he
  injection he with h _ _
  injection h with h
  subst h
  refine⟨_,e,heap_alloc_new w.drew _,λu hu=>?_⟩
  simp only[Array.toList_append,List.mem_append] at hu
  rcases hu with hu|hu
  ·refine hys u ?_
   rw[<-hl12]
   simpa using hu
  ·exact rL _ u hu
 rcases hown.2 with⟨rfl,rfl⟩|⟨g,cap,cur,rfl,hbg,hg,hnc,hcm,hcs,htake⟩
 ·by_cases hm:m=0
  ·subst hm
   have hn:news=[]:=List.eq_nil_of_length_eq_zero (by simpa using hl)
   subst hn
   simp[Builtin.append_,run_underlying ht,sizeOf,typeInfo,hi,Builtin.lenOf,Builtin.firstCells,loadCells,loadCellsFrom] at hrun
   obtain⟨rfl,rfl⟩:=hrun
   exact FlatS.nil _
  ·have hr:=run_append_nil (P:=P) w t ty e i (.int .u8 0) ht hi hz a m c news (by rw[hsize];exact hl) hnews (by omega) (by omega) (by rw[hby];omega)
   rw[hr] at hrun
   cases hrun
   have:=grown news (grownCap w m 0 e-m) h1 [] news m (grownCap w m 0 e) rfl
   simpa using this
 ·obtain⟨cur',t',z1,z2⟩:=hf _ _ _ rfl
  have z1':w.heap[g]?=some (.cells cur' t' (0,0)):=z1
  rw[hg] at z1'
  cases z1'
  have hxs:∀u∈xs,gb u:=λu hu=>z2 u (by rw[<-htake] at hu;exact List.mem_of_mem_take hu)
  by_cases hroom:n+m<=cap
  ·have hfit:n*i.size+news.length<=cur.size:=by rw[hsize,hl,hcs];omega
   have hr:=run_append_room (P:=P) w t ty e i ht hi g n cap cur hg a m c news (by rw[hsize];exact hl) hnews hone hroom hfit
   rw[hr] at hrun
   cases hrun
   intro a2 n2 c2 he
   injection he with h _ _
   injection h with h
   subst h
   refine⟨_,e,setRow_heap w g cur _ e _ hg,λu hu=>?_⟩
   simp only[List.mem_append] at hu
   rcases hu with(hu|hu)|hu
   ·exact z2 u (List.mem_of_mem_take hu)
   ·exact h1 u hu
   ·exact z2 u (List.mem_of_mem_drop hu)
  ·have holds:∀j u,xs[j]?=some u->w.cell? ((⟨g,0,none⟩:Addr).add j)=some u:=hown.cells (g:=g) rfl
   have hr:=run_append_grow (P:=P) w t ty e i (.int .u8 0) ht hi hz ⟨g,0,none⟩ n cap xs (by rw[hsize];exact hown.1) holds a m c news (by rw[hsize];exact hl) hnews (by omega) (by omega) (by rw[hby];exact growslice_fits (by omega) hbytes)
   rw[hr] at hrun
   cases hrun
   exact grown (xs++news) _ (λu hu=>(List.mem_append.1 hu).elim (hxs u) (h1 u)) xs news _ _ rfl
def gd {w:World}{ops:Array Oper}{rest:List Oper}{o:Oper}{a:Act}{Q:Exit->Act->World->Prop}(hgd:o.guard=none)(s x:Operand)(t:TypeId)
  (ho:o.op=.call { callee:=.builtin .append,args:=#[s,x],argTypes:=#[t,t] })
  (base:Nat) (e:TypeId) (i:TypeInfo) (ht:P.underlying t=some (.slice e)) (hi:P.info? e=some i) (hz:i.zero=some (.int .u8 0))
  (hsize:i.size=1) (hby:i.bytes=1)
  (v:Value) (n:Nat) (xs:List Value) (hs:a.eval s=v) (hown:w.ownsRow base e 1 v n xs) (hf:FlatS w v)
  (ad:Addr) (m c:Nat) (news:List Value) (hx:a.eval x=.slice (some ad) m c) (hl:news.length=m*1) (hnews:∀j u,news[j]?=some u->w.cell? (ad.add j)=some u) (h1:∀u∈news,gb u)
  (h63:n+m<=maxLen) (hbytes:(n+m)*1<=140737488355328) (hbase:base<=w.heap.size)
  (h:∀v' w',w'.ownsRow base e 1 v' (n+m) (xs++news)->w.grownBy w' v.ownBlock->w.drawn<=w'.drawn->FlatS w' v'->wpList P ops Q rest (a.put o.dst v') w'):wpList P ops Q (o::rest) a w:=by
 refine wpList_plain hgd λK hK=>?_
 have hone:∀u∈news,u.oneCell'=true:=λu hu=>by obtain⟨x,rfl⟩:=h1 u hu;rfl
 obtain⟨v',w',hr,h2,h3,h4⟩:=run_append_own (P:=P) w base t o.type e i (.int .u8 0) 1 1 ht hi hz hsize hby rfl (by decide) v n xs hown ad m c news hl hnews hone h63 hbytes hbase
 have hfl:=lD (P:=P) w base t o.type e i ht hi hz hsize hby v n xs hown hf ad m c news hl hnews h1 h63 hbytes hr
 have hd:=Go.Iso.drawn_mono P (Builtin.append_ #[t,t] o.type #[v,.slice (some ad) m c]) w #[]
 rw[Sem.runT_fst,hr] at hd
 unfold Oper.wp execOp
 simp only[ho,resolve,invoke,builtin,Sem.run_bind,Sem.run_pure,Result.andThen_ok,List.map_toArray,List.map_cons,List.map_nil,hs,hx,hr]
 exact hK _ _ (h v' w' h2 h3 hd hfl)
end Go.Sq
namespace Go.Proofs.YtjmmlkobmhlikaaGreat
open Go.RowKit Go.Sq
def rM:∀x:Fin 16,∀n:Fin 4,bits BinOp.or IntKind.u8 (x.val:Int) (2 ^ n.val % 256)=((x.val ||| 2 ^ n.val:Nat):Int):=by decide
def of_t (A:Option Addr)(c:Nat)(l:List Int)(w:World)(B:Nat)(h:RI w B A l)(hl:l.length<=4611686018427387904)(hx:∀x∈l,0<=x/\x<4) :
  Calls uZ 33 #[.slice A l.length c] w λe w'=>e=.returned (.int .u8 (ofL l))/\w=w':=by
 have HR:=ui h
 have HX:=ui hx
 clear h hx
 go_enter Sq.func33,Tryz.ntmps33
 go_wp2
 go_loop [3,8] (λs i=>∃k:Nat,k<=l.length/\i=.int .i64 k/\s=.int .u8 (ofL (l.take k))) (λ_ i=>l.length-(intOf i).toNat)
 case atStart=>exact⟨0,by omega,rfl,rfl⟩
 case round =>
  obtain⟨k,hk,rfl,rfl⟩:=hrel
  by_cases hlt:k<l.length
  ·obtain⟨b,o,rfl,hb,hc⟩:=HR.out.at_ hlt
   have HS:=ui (pK l k hlt)
   obtain⟨n,hn,hn4⟩:∃n:Nat,l[k]?.getD 0=n/\n<4:=by
    obtain⟨h1,h2⟩:=HX.out _ (mem_get l k hlt)
    exact⟨(l[k]?.getD 0).toNat,by omega,by omega⟩
   rw[hn] at hc
   have HN:=ui hn
   clear hn
   have hx16:ofL (l.take k)<16:=n8 _ λy hy=>HX.out y (List.mem_of_mem_take hy)
   have HO:=ui (show bits BinOp.or IntKind.u8 ((ofL (l.take k):Nat):Int) (2 ^ n % 256)=((ofL (l.take k) ||| 2 ^ n:Nat):Int) from rM ⟨_,hx16⟩ ⟨n,hn4⟩)
   have HS2:=ui (show ofL (l.take (k+1))=ofL (l.take k) ||| 2 ^ n by rw[HS.out,HN.out];rfl)
   clear HS
   generalize ofL (l.take k)=x at HO HS2 hx16
   go_wp2
   go_round
   case rel=>exact⟨k+1,by omega,by go_num,by rw[HS2.out];exact congrArg (Value.int .u8) HO.out⟩
   case measure=>simp[intOf];omega
  ·have hkl:k=l.length:=by omega
   have HS:=ui (show ofL (l.take k)=ofL l by rw[List.take_of_length_le (by omega)])
   clear hkl
   go_wp2
   go_ret
   exact⟨aq (by rw[HS.out]),rfl⟩
def uS:(uZ.info? 58).map (λi=>(i.zero,i.size,i.bytes))=some (some (.int .u8 0),1,1):=by
 rw[ur];kernel_rfl
def rawL (k:Nat):List Value:=(List.range k).map λi:Nat=>.int .u8 (i:Int)
def oQ (k:Nat):rawL (k+1)=rawL k++[.int .u8 k]:=by simp[rawL,List.range_succ]
def oR (N:Nat)(R:Value->World->World->Prop):Prop:=∀(W:World) (g cap B:Nat),W.ownsRow B 58 1 (.slice (some ⟨g,0,none⟩) N cap) N (rawL N) ->
 Calls uZ 78 #[.slice (some ⟨g,0,none⟩) N cap,.func (.func 79) #[] #[]] W λe W'=>e=.returned (.tuple #[])/\R (.slice (some ⟨g,0,none⟩) N cap) W W'
def mh (nA hA:Option Addr)(nc hc nn m:Nat)(w:World)(hm:m<=4){R:Value->World->World->Prop}(hs:oR (2 ^ m) R) :
  Calls uZ 55 #[.agg #[.slice nA nn nc,.slice hA m hc]] w λe w'=>e=.returned (.pointer (some ⟨w.heap.size+1,0,none⟩))/\∃(g cap:Nat) (W:World),R (.slice (some ⟨g,0,none⟩) (2 ^ m) cap) W w'/\w.heap.size+2<=g/\Gr w W/\w.heap.size+1<W.heap.size /\
   W.cell? ⟨w.heap.size+1,0,none⟩=some (.slice nA nn nc)/\W.cell? ⟨w.heap.size+1,1,none⟩=some (.slice hA m hc)/\W.cell? ⟨w.heap.size+1,2,none⟩=some (.slice (some ⟨g,0,none⟩) (2 ^ m) cap) /\
   W.ownsRow (w.heap.size+2) 58 1 (.slice (some ⟨g,0,none⟩) (2 ^ m) cap) (2 ^ m) (rawL (2 ^ m)) /\
   FlatS W (.slice (some ⟨g,0,none⟩) (2 ^ m) cap)/\W.heap[w.heap.size+1]?=some (.cells #[.slice nA nn nc,.slice hA m hc,.slice (some ⟨g,0,none⟩) (2 ^ m) cap] 138 (0,0)):=by
 obtain⟨i0,hi,hz0,hz1,hz2⟩:=info_parts uS
 have HSORT:=ui hs
 clear hs
 have hpow:((2:Int) ^ m % 256)=((2 ^ m:Nat):Int)/\2 ^ m<=16/\1<=2 ^ m:=by
  have:m=0\/m=1\/m=2\/m=3\/m=4:=by omega
  rcases this with rfl|rfl|rfl|rfl|rfl<;>decide
 obtain⟨hp1,hp2,hp3⟩:=hpow
 generalize 2 ^ m=N at hp1 hp2 hp3 HSORT ⊢
 have HP:=ui hp1
 clear hp1
 go_enter Sq.func55,Tryz.ntmps55
 go_wp2
 rw[HP.out]
 go_loopw [13] (λi wr=>∃k:Nat,k<=N/\i=.int .u8 k/\∃v,wr.cell? ⟨w.heap.size+1,0,none⟩=some (.slice nA nn nc)/\wr.cell? ⟨w.heap.size+1,1,none⟩=some (.slice hA m hc)/\wr.cell? ⟨w.heap.size+1,2,none⟩=some v/\wr.frozen? ⟨w.heap.size+1,2,none⟩=false /\
  wr.ownsRow (w.heap.size+2) 58 1 v k (rawL k)/\Gr w wr/\w.heap.size+2<=wr.heap.size/\FlatS wr v/\wr.heap[w.heap.size+1]?=some (.cells #[.slice nA nn nc,.slice hA m hc,v] 138 (0,0))) (λi _=>N-(intOf i).toNat)
 case atStart =>
  refine⟨0,by omega,rfl,.slice none 0 0,?_,?_,?_,?_,World.ownsRow_nil _ _ _ _,((Gr.refl w).alloc _).alloc _,by simp,FlatS.nil _,?_⟩
  ·rw[World.cell?_alloc_at _ _ _ _ (by simp)];rfl
  ·rw[World.cell?_alloc_at _ _ _ _ (by simp)];rfl
  ·rw[World.cell?_alloc_at _ _ _ _ (by simp)];rfl
  ·rw[World.frozen?_alloc_at _ _ _ _ (by simp)]
  ·have e1:∀A:Obj,w.heap.size+1=(w.alloc A).heap.size:=λA=>by simp
   rw[e1 (.cells #[.slice nA nn nc,.slice hA m hc] 27)]
   exact heap_alloc_new _ _
 case round =>
  obtain⟨k,hk,rfl,v,h0,h1,h2,hfz,hown,hgr,hsz,hfl,hob⟩:=hrel
  have HFL:=ui hfl
  have HOB:=ui hob
  clear hfl hob
  have HG:=ui hgr
  clear hgr
  by_cases hlt:k<N
  ·have h0':=h0
   have hfa:FlatS (wr.alloc (.cells #[.int .u8 k] 58)) v:=HFL.out.keep λa n c e=>heap_alloc_old wr _ (hown.lt a.block (by rw[e];rfl)).2
   go_wp2_with (at_builtin;refine gd rfl _ _ 136 rfl (w.heap.size+2) 58 i0 Sq.underlying136 hi hz0 hz1 hz2 _ _ _ rfl (hown.alloc _) hfa ⟨wr.heap.size,0,none⟩ 1 1 [.int .u8 k] rfl rfl ?c1 ?c2 ?c3 ?c4 ?c5 ?_)
   case c1 =>
    intro j u hj
    match j,hj with
    |0,hj=>simp at hj;subst hj;simp[Addr.add]
   case c2=>intro u hu;simp at hu;subst hu;exact⟨_,rfl⟩
   case c3=>unfold maxLen;omega
   case c4=>omega
   case c5=>simp;omega
   intro v' w1 hown' hgrow hd hfl'
   have HFL':=ui hfl'
   clear hfl'
   obtain⟨g',cap',rfl⟩:=ownsRow_succ hown'
   have hne:some (w.heap.size+1)≠v.ownBlock:=λh=>by have:=(hown.lt _ h.symm).1;omega
   have k0:w1.cell? ⟨w.heap.size+1,0,none⟩=some (.slice nA nn nc):=hgrow.cell ((World.cell?_alloc_past _ _ _ (by show w.heap.size+1<_;omega)).trans h0) hne
   have k1:w1.cell? ⟨w.heap.size+1,1,none⟩=some (.slice hA m hc):=hgrow.cell ((World.cell?_alloc_past _ _ _ (by show w.heap.size+1<_;omega)).trans h1) hne
   have k2:w1.cell? ⟨w.heap.size+1,2,none⟩=some v:=hgrow.cell ((World.cell?_alloc_past _ _ _ (by show w.heap.size+1<_;omega)).trans h2) hne
   have kf:w1.frozen? ⟨w.heap.size+1,2,none⟩=false:=by
    rw[World.frozen?_of_block (w:=wr.alloc (.cells #[.int .u8 k] 58)) (hgrow.block (w.heap.size+1) (by simp;omega) hne)]
    exact(World.frozen?_alloc_past _ _ _ (by show w.heap.size+1<_;omega)).trans hfz
   have HOB1:=ui ((hgrow.block (w.heap.size+1) (by simp;omega) hne).trans ((heap_alloc_old wr _ (by omega)).trans HOB.out))
   have HG1:=ui ((HG.out.alloc (.cells #[.int .u8 k] 58)).grown hgrow hd λj hj=>by have:=(hown.lt j hj).1;omega)
   have hz1':w.heap.size+2<=w1.heap.size:=by have:=hgrow.size;simp at this;omega
   have HO:Hid (w1.ownsRow (w.heap.size+2) 58 1 (.slice (some ⟨g',0,none⟩) (k+1) cap') (k+1) (rawL (k+1))):=ui (by rw[oQ];exact hown')
   clear hown' hgrow hown hd h0 h1 h2 hfz HG h0'
   go_wp2
   go_roundw
   case rel =>
    refine⟨k+1,by omega,by go_num,_,(World.cell?_setCell_other _ _ _ _ (by simp)).trans k0,(World.cell?_setCell_other _ _ _ _ (by simp)).trans k1,World.cell?_setCell_same _ _ _ k2,(World.frozen?_setCell _ _ _ _).trans kf,ownsRow_setCell_below HO.out (by show w.heap.size+1<_;omega) _,HG1.out.setCell (by show _<=w.heap.size+1;omega) _,by simpa using hz1',HFL'.out.keep λa n c e=>?_,?_⟩
    ·have hb:a.block=g':=by injection e with e1 _ _;injection e1 with e1;rw[<-e1]
     have hlt:=(HO.out.lt g' rfl).1
     unfold World.setCell
     simp only[Array.getElem?_modify]
     rw[if_neg (by omega)]
    ·unfold World.setCell
     simp only[Array.getElem?_modify,if_true,HOB1.out]
     rfl
   case measure=>simp[intOf];omega
  ·have hkN:k=N:=by omega
   subst hkN
   obtain⟨m',rfl⟩:∃m',k=m'+1:=⟨k-1,by omega⟩
   obtain⟨g,cap,rfl⟩:=ownsRow_succ hown
   have HC:=ui (HSORT.out wr g cap _ hown)
   have hg:=(hown.lt g rfl).1
   have HO:=ui hown
   clear hown
   go_wp2_with fail
   refine HC.out.mono ?_
   rintro e w2 ⟨rfl,hR⟩
   have HR:=ui hR
   clear hR
   go_wp2
   go_ret
   exact⟨rfl,g,cap,wr,HR.out,hg,HG.out,by omega,h0,h1,h2,HO.out,HFL.out,HOB.out⟩
end Go.Proofs.YtjmmlkobmhlikaaGreat
