/- Parts of the proof. -/
import Derived.Test.YteckikkkfpblhaaGreatP13
import Derived.Test.YteckikkkfpblhaaGreatP00
import Derived.Test.YteckikkkfpblhaaGreatP01
import Derived.Outline
import Derived.RangeFuncBox
import Derived.Shelf.SlSortCmp.Whole1
set_option linter.all false
set_option maxHeartbeats 3200000
set_option maxRecDepth 1000000
namespace Go.Proofs.Ao
open Go.RowKit Go.AW Go.Co Go.Conc Go.ConcN
open Go.ConcR (WgAt wgBlock)
section
variable {SB AZ BB Zp BB':FuncId->Bool} {Lh:Bool} {kx tl:Nat->Bool} {Kc:Nat->Prop} {Ok:World->Prop} {cb sb n c:Nat} {f:Fn} {fx fc:Array Value} {sets kind:Nat->Int} {Cv:Nat->Bool} {oK oE:Nat->Obj}
 {Dead:Nat->Prop} {Kp:EP} {x:Lone} {A:Goroutine} {W:World}
abbrev E3 (cb:Nat)(f:Fn)(fx fc:Array Value):Array Value:=#[.pointer (some ⟨cb,0,none⟩),.func f fx fc]
noncomputable def inner (kx tl:Nat->Bool)(cb:Nat)(f:Fn)(fx fc:Array Value)(x:Lone)(A:Goroutine):Lone :=
 ⟨Go.AW.Bx (Frame.enter Tryz.prog 39 (E3 cb f fx fc) .normal) [bad],(sink kx tl x.w).alloc (.coro none),Ho tl x.w,cut (λb=>kx b=true\/tl b=true) x.β,A.callers⟩
def jC:((sink kx tl x.w).alloc (.coro none)).heap.size=x.w.heap.size+1:=by rw[aI,dO]
def gT {b:Nat}(hb:b<x.w.heap.size):((sink kx tl x.w).alloc (.coro none)).heap[b]?=(sink kx tl x.w).heap[b]?:=by
 rw[aF,dO,if_neg (by omega)]
def Li (I:FO SB AZ BB x.w kx tl Kc Ok cb sb n c f fx fc sets kind Cv oK oE)(lib:∀H,Lib PP SB H true BB 0){cE:Code}(S7:Tryz.f39.body=some cE)(DT:codeOk Tryz.prog Zp Lh true cE=false)
  (ht:Tw PP Zp BB' Lh 0 Dead Kp x A W) (hH:∀b,x.H b=false) {fr:Frame} {cs:List Frame} (hg:x.g=bZ PP 39 (E3 cb f fx fc) fr cs) :
  BZ PP SB BB true (inner kx tl cb f fx fc x A) A/\Dq PP SB true 0 (inner kx tl cb f fx fc x A) W/\(∀b,tl b=true->Ro (inner kx tl cb f fx fc x A).w b\/(inner kx tl cb f fx fc x A).H b=true)/\∀b,kx b=true->Ro (inner kx tl cb f fx fc x A).w b:=by
 have B9:=ht.gl.top;rw[hg] at B9;obtain⟨ARGS,eA,C8⟩:=Lg (fa:=Tryz.f39) (fb:=Tryz.f39) Tryz.func39 Tryz.func39 S7 DT rfl (by rw[Tryz.ntmps39];simp) B9;have Gz:AA (SP SB (Ho tl x.w)) (Bn λb=>kx b=true\/tl b=true) (E3 cb f fx fc) (E3 cb f fx fc):=BQ λv hv=>by
  simp only[xu,xm,or_false] at hv;rcases hv with rfl|rfl
  .exact .ptr (.inl I.ks.1) _ _
  .exact I.Gu _
 refine⟨⟨?_,.base,⟨rfl,ht.gl.status.2⟩,⟨rfl,ht.gl.dying.2⟩,⟨rfl,ht.gl.offers.2⟩⟩,⟨⟨λh1 h2=>ht.wl.B6.fn h1.2 h2.2,λh1 h2=>ht.wl.B6.inj h1.2 h2.2,λ_=>⟨xK _,xK _⟩⟩,⟨xK _,xK _⟩,?_,?_,?_,?_⟩,λb hb=>.inr (by simp[inner,hb]),λb hb=>?_⟩
 .rw[eA];exact BK (P:=PP) (lib _) (.inl I.XO) (C8.cut rfl Gz) .normal (by decide)
 .rintro b B ⟨hk,hb⟩ hh;have Fh:(tl b||b==x.w.heap.size)=false:=hh;simp only[yR] at Fh;have hkx:kx b=true:=hk.resolve_right (by simp[Fh.1]);obtain⟨e1,l,t,g,e2,e3,e4⟩:=I.XS b hkx;obtain⟨o,O,q1,q2,q3⟩:=ht.wl.Cq b B hb (hH b);rw[e2] at q1;cases q1;have hlt:=I.lt (.inl hkx);cases q3 with
  |cells a z =>
   refine⟨_,_,(gT hlt).trans (fD e2 hkx e1),q2,.cells (a.cut rfl (BQ λv hv=>e4 v hv _)) λi h1 h2=>?_⟩;obtain⟨z1,z2⟩:=z i h1 h2;exact⟨xK _,by simpa using e3 i z1 z2⟩
 .rintro b B ⟨hk,hb⟩ hh;have hlt:=I.lt hk;have Fh:(tl b||b==x.w.heap.size)=true:=hh;have J9:tl b=true:=by
   simp only[xO,beq_iff_eq] at Fh;exact Fh.resolve_right (by omega)
  refine⟨(gT hlt).trans (j7 hlt J9),λ_=>?_,λh=>by cases h⟩;obtain⟨e1,⟨l,t,g,e2,e3⟩,_⟩:=I.Zn b J9;obtain⟨o,O,q1,q2,q3⟩:=ht.wl.Cq b B hb (hH b);rw[e1,e2] at q1;cases q1;cases q3 with
  |cells a z=>exact⟨_,_,_,q2⟩
 .intro b hb;have hb':(tl b||b==x.w.heap.size)=true:=hb;show b<((sink kx tl x.w).alloc (.coro none)).heap.size;rw[jC];simp only[xO,beq_iff_eq] at hb';rcases hb' with h|h
  .have:=I.lt (.inr h);omega
  .omega
 .exact ht.wl.env
 .obtain⟨e1,l,t,g,e2,e3,e4⟩:=I.XS b hb;exact⟨_,_,_,(gT (I.lt (.inl hb))).trans (fD e2 hb e1),λi hi=>⟨xK _,hi⟩⟩
def VM {p:Program}{H:Hid}{lets:Bool}{β:AO}{g:FuncId}{a:Act}{ops:Array Oper}{l:List Nat}{k:List Item}{F:Frame}(h:AQ p SB H lets β ((base g).at a (.inRegion ops l::k)) F) :
  ∃(a':Act) (K:List Item),F=(base g).at a' (.inRegion ops l::K):=by
 obtain⟨h1,h2,h3,h4,h5,h6,h7,h8⟩:=h;obtain⟨f1,f2,f3,f4,f5,f6,f7⟩:=F;dsimp only[Frame.at,base] at h1 h2 h3 h4 h5 h6 h7 h8;subst h1 h6;cases h5;cases h8;cases h3 with
 |cons hi _ =>
  cases hi
  exact⟨⟨f2,f4⟩,_,rfl⟩
noncomputable abbrev gA (cb b2 b3:Nat)(p1:Value):Act:=⟨#[.pointer (some ⟨cb,0,none⟩),p1,.pointer (some ⟨b2,0,none⟩),.pointer (some ⟨b3,0,none⟩),undef,undef,undef,undef,undef,undef,undef,undef,undef,undef,undef,undef,undef,undef,undef,undef,undef,undef,undef,undef,undef,undef,undef],[]⟩
noncomputable abbrev kA:List Item:=[.code (.seq (.seq (.region 2 o2 false) (.block 0 (.loop eL))) (.region 10 Ir false))]
def boxed (w:World)(cb:Nat)(p1:Value):World:=(w.alloc (.cells #[.pointer (some ⟨cb,0,none⟩)] 69)).alloc (.cells #[p1] 90)
def QA (cb:Nat)(p1:Value)(w0:World)(g:Goroutine)(w:World):Prop:=g=G ((base 39).at (gA cb w0.heap.size (w0.heap.size+1) p1) (.inRegion o1 [0]::kA)) [bad]/\AR (boxed w0 cb p1) w
def Mr {P:Ba}{lets:Bool}(hBB:BB 39=true){x:Lone}{a:Goroutine}{W:World}{cb b2 b3 b4:Nat}{p1:Value}(hg:x.g=G ((base 39).at (gA cb b2 b3 p1) (.inRegion o1 [0]::kA)) [bad])(JD:BZ P SB BB lets x a)
  {β:AO} (hle:x.β.le β) (hb4:β b4 W.heap.size) :
  ∃a',stepG Tryz.prog true a W=.go a' (W.alloc (.cells #[.int .u64 0,.int .u32 0] 133)) #[]/\BZ P SB BB lets ⟨G ((base 39).at ((gA cb b2 b3 p1).put (some 4) (.pointer (some ⟨b4,0,none⟩))) (.inRegion o1 []::kA)) [bad],x.w,x.H,β,x.T⟩ a':=by
 have B9:=JD.top.FL (by rw[hg];exact hBB);have hcs:=JD.callers;have ea:=gS JD;rw[hg] at B9 hcs;obtain⟨A,K,eA⟩:=VM B9;refine⟨_,by rw[ea,eA];exact oT,?_⟩;have hf:=bg (B9.mono hle) (v:=.pointer (some ⟨b4,0,none⟩)) (V:=.pointer (some ⟨W.heap.size,0,none⟩)) (.ptr 0 none hb4);rw[eA] at hf;have e1:(o1[0]?).bind (·.dst)=some 4:=rfl;change AQ _ _ _ _ _ (((base 39).at (gA cb b2 b3 p1) (.inRegion o1 [0]::kA)).finish _) _ at hf
 rw[Frame.finish_at,Frame.finish_at,e1] at hf;exact⟨.on hf,hcs.mono λc C h=>h.mono hle,⟨rfl,rfl⟩,⟨rfl,rfl⟩,⟨rfl,rfl⟩⟩
def tW {cb:Nat}{p1:Value}{w0:World}(g:Goroutine)(w W:World)(h:AR w W)(q:QA cb p1 w0 g w):QA cb p1 w0 g W:=⟨q.1,q.2.trans h⟩
def oZ (hB:BB 39=true){w:World}:AG Tryz.prog (BO Tryz.prog BB) (QA cb (.func f fx fc) w) (Go.AW.Bx (Frame.enter Tryz.prog 39 (E3 cb f fx fc) .normal) [bad]) w :=
 tO hB tW (by simp) (.fin ⟨rfl,rfl,rfl,rfl⟩)
def bj (w:World)(p1:Value)(b:Nat):(Dr kx tl w cb p1).heap[b]?=if b=w.heap.size+2 then some (.cells #[p1] 90 (0,1)) else if b=w.heap.size+1 then some (.cells #[.pointer (some ⟨cb,0,none⟩)] 69 (0,1)) else if b=w.heap.size then some (.coro none) else(sink kx tl w).heap[b]?:=by
 have z:=dO kx tl w;have g:∀b,((((sink kx tl w).alloc (.coro none)).alloc (.cells #[.pointer (some ⟨cb,0,none⟩)] 69)).alloc (.cells #[p1] 90)).heap[b]?=if b=w.heap.size+2 then some (.cells #[p1] 90) else if b=w.heap.size+1 then some (.cells #[.pointer (some ⟨cb,0,none⟩)] 69) else if b=w.heap.size then some (.coro none) else(sink kx tl w).heap[b]?:=λb=>by
  rw[aF,aI,aI,aF,aI,aF,z]
 unfold Dr;by_cases h2:b=w.heap.size+2
 .subst h2;rw[if_pos rfl];exact dc (c:=#[p1]) (t:=90) (f:=(0,0)) (by rw[eM _ (by omega),g,if_pos rfl])
 .rw[if_neg h2,eM _ h2];by_cases h1:b=w.heap.size+1
  .subst h1;rw[if_pos rfl];exact dc (c:=#[.pointer (some ⟨cb,0,none⟩)]) (t:=69) (f:=(0,0)) (by rw[g,if_neg (by omega),if_pos rfl])
  .rw[if_neg h1,eM _ h1,g,if_neg h2,if_neg h1]
def dK (w:World)(p1:Value):(Dr kx tl w cb p1).heap.size=w.heap.size+3:=by
 unfold Dr;rw[cR,cR,aI,aI,aI,dO]
def qy (w:World)(p1:Value):(Dr kx tl w cb p1).os=w.os:=by
 unfold Dr;rw[fS,fS];rfl
def pa (I:FO SB AZ BB x.w kx tl Kc Ok cb sb n c f fx fc sets kind Cv oK oE):Head SB (Ho tl x.w) 0 (LR kx tl x.w) Ok (LR kx tl x.w) (Dr kx tl x.w cb (.func f fx fc)):=by
 have hk:∀b,kx b=true\/tl b=true->b<x.w.heap.size:=λb h=>I.lt h;refine⟨λ_ h=>h,λb hb hh=>?_,λb hb hh=>?_,λ_ _=>xK _,λb hb=>?_,λb hb=>?_,xK _,I.ok⟩
 .have Fh:(tl b||b==x.w.heap.size)=false:=hh;simp only[yR,beq_eq_false_iff_ne] at Fh;rw[bj];unfold Ro;rw[bj];rcases hb with h|h|h|h|h
  .have hl:=hk b (.inl h);obtain⟨e1,l,t,g,e2,e3,e4⟩:=I.XS b h;rw[if_neg (by omega),if_neg (by omega),if_neg (by omega),fD e2 h e1];exact⟨⟨_,_,_,rfl,λi hi=>⟨xK _,hi⟩⟩,_,rfl,.cells (BQ λv hv=>(e4 v hv _).mono λb hb=>hb.elim .inl λh=>.inr (.inl h)) λi h1 h2=>⟨h1,h2⟩⟩
  .rw[Fh.1] at h;cases h
  .exact absurd h Fh.2
  .subst h;rw[if_neg (by omega),if_pos rfl]
   exact⟨⟨_,_,_,rfl,λi hi=>⟨xK _,hi⟩⟩,_,rfl,.cells (BQ (l:=[_]) λv hv=>by
    simp only[xu,xm,or_false] at hv;subst hv
    exact .ptr (.inl I.ks.1) _ _) λi h1 h2=>⟨h1,h2⟩⟩
  .subst h;rw[if_pos rfl]
   exact⟨⟨_,_,_,rfl,λi hi=>⟨xK _,hi⟩⟩,_,rfl,.cells (BQ (l:=[_]) λv hv=>by
    simp only[xu,xm,or_false] at hv;subst hv
    exact(I.Gu _).mono λb hb=>hb.elim .inl λh=>.inr (.inl h)) λi h1 h2=>⟨h1,h2⟩⟩
 .have Fh:(tl b||b==x.w.heap.size)=true:=hh;simp only[xO,beq_iff_eq] at Fh;rw[bj];rcases Fh with h|h
  .have hl:=hk b (.inr h);rw[if_neg (by omega),if_neg (by omega),if_neg (by omega),j7 hl h]
  .subst h;rw[if_neg (by omega),if_neg (by omega),if_pos rfl]
 .rw[dK];rcases hb with h|h|h|h|h
  .have:=hk b (.inl h);omega
  .have:=hk b (.inr h);omega
  all_goals omega
 .have hb':(tl b||b==x.w.heap.size)=true:=hb;simp only[xO,beq_iff_eq] at hb';rw[dK];rcases hb' with h|h
  .have:=hk b (.inr h);omega
  .omega
def oF (tpn:Bool)(oK oE:Nat->Obj):Nat->Obj:=if tpn then oK else oE
def JH {sl:Option (Nat×Nat)}{gs:Array Goroutine}{t:Trace}{q:Nat->Nat}(I:FO SB AZ BB x.w kx tl Kc Ok cb sb n c f fx fc sets kind Cv oK oE)(lib:∀H,Lib PP SB H true BB 0){cE:Code}(S7:Tryz.f39.body=some cE)(DT:codeOk Tryz.prog Zp Lh true cE=false)
  {L:Lib.WgLink} (Wl:Lib.WgLib Tryz.prog L) (h91:L.add=73) (h94:L.wait=76) (LQ:L.done=75) (hT:L.tWg=133) (bA:Go.Co.Barred PP SB true L.add (Lib.addFn L)) (bW:Go.Co.Barred PP SB true L.wait (Lib.waitFn L)) (bD:Go.Co.Barred PP SB true L.done (Lib.doneFn L))
  (hb:Gd Tryz.prog Dead gs W t q) (ht:Tw PP Zp BB' Lh 0 Dead Kp x A W) (h0:gs[0]?=some A) {fr:Frame} {cs:List Frame} (hg:x.g=bZ PP 39 (E3 cb f fx fc) fr cs) (hc:eK fr) (hH:∀b,x.H b=false)
  (Up:∀b,kx b=true\/tl b=true->∃B,x.β b B) (hKp:∀b B,x.β b B->tl b=true->¬Kp.at_ B) (Jh:gs.size+n<=2147483647) :
  ∃N m' t',runNT Tryz.prog N (crowd gs W sl) t=(.next m',t')/\∃gs' W' sl' q' A' Eo,m'=crowd gs' W' sl'/\gs'[0]?=some A'/\gs'.size<=gs.size+n/\Gd Tryz.prog Eo gs' W' t' q' /\
   Tw PP Zp BB' Lh 0 Eo Kp ⟨back fr cs,En tl (oF (Cv n) oK oE) x.w,x.H,x.β,x.T⟩ A' W'/\(W'.os=W.os/\W'.output=W.output)/\W.heap.size<=W'.heap.size/\∀B,Eo B->Dead B\/W.heap.size<=B:=by
 obtain⟨s1,s2,s3,s4⟩:=Li I lib S7 DT ht hH hg;have hcs:=ht.gl.callers;rw[hg] at hcs;obtain⟨FR,CS,VF,r1,r2⟩:=GG hcs hc;have Kd:∀b B,x.β b B->¬Dead B:=λb B hb hd=>by have:=ht.dead b B hb hd;rw[hH] at this;cases this
 have VN:∀b B,x.β b B->b<x.w.heap.size/\B<W.heap.size:=λb B h=>ht.wl.lt h;have CB:∀b,kx b=true\/tl b=true->b<x.w.heap.size:=λb h=>I.lt h;have Zq:((sink kx tl x.w).alloc (.coro none)).heap.size=x.w.heap.size+1:=jC;have kx0:∀b B,(inner kx tl cb f fx fc x A).β b B->(inner kx tl cb f fx fc x A).H b=true\/Ro (inner kx tl cb f fx fc x A).w b:=λb B hb=>hb.1.elim (λh=>.inr (s4 b h)) λh=>.inl (by simp[inner,h])
 obtain⟨N1,m1,t1,hr1,JG,W1,NU,q1,x1,a1,rfl,g1,z1,b1,tw1,Q1,eH1,eT1,OC,os1,sz1,sz1',Zr⟩:=H5 (P:=PP) (SB:=SB) (BB:=BB) (lets:=true) (Gn:=0) (Dead:=Dead) (Kp:=⟨λB=>B<W.heap.size,W,0⟩) lib
  (H:=Ho tl x.w) (T:=A.callers) (β:=cut (λb=>kx b=true\/tl b=true) x.β) (Q:=QA cb (.func f fx fc) ((sink kx tl x.w).alloc (.coro none))) (os:=W.os) (ou:=W) (n:=gs.size) (b0:=x.w.heap.size+1) (B0:=W.heap.size) _ (crowd gs W sl) t
  ⟨gs,W,sl,q,inner kx tl cb f fx fc x A,A,rfl,h0,rfl,hb,⟨s1,s2,rfl,λb B hb hd=>absurd hd (Kd b B hb.2),λB hB=>⟨hB,rfl⟩,λb B hb _=>kx0 b B hb⟩,oZ I.hB,rfl,rfl,AO.le_refl _,⟨rfl,rfl⟩,⟨xh _,yl Zq.symm,λb B h=>.inl h⟩,rfl⟩
 obtain⟨Q1g,Q1w⟩:=Q1;rw[Zq] at Q1g;obtain⟨N2,m2,t2,hr2,XM,d2,S0,q2,st2,g2,z2,b2⟩:=JF (P:=PP) (sl:=NU) b1 g1 tw1.gl.status.2;obtain⟨W2,hW2⟩:∃W2,W2=W1.at d2:=⟨_,rfl⟩;have Zs:=tw1.at d2;rw[<-hW2] at st2 b2 Zs;have W2h:W2.heap=W1.heap:=by rw[hW2];rfl
 have W2o:W2.os=W1.os/\W2.output=W1.output:=by rw[hW2];exact⟨rfl,rfl⟩
 have VO:∀b B,tl b=true->(x1.β b B↔x.β b B):=λb B h=>by
  obtain⟨B',hB'⟩:=Up b (.inr h);have h1:=OC b B' ⟨.inr h,hB'⟩;exact⟨λh2=>by rw[tw1.wl.B6.fn h2 h1];exact hB',λh2=>OC b B ⟨.inr h,h2⟩⟩
 have Uq:∀B,¬x1.β x.w.heap.size B:=λB h=>by
  rcases Zr _ _ h with h|h
  .have:=CB _ h.1;omega
  .omega
 have lt1:∀b B,x1.β b B->B<W2.heap.size:=λb B h=>by rw[W2h];exact(tw1.wl.lt h).2
 have Zt:∀b B,x1.β b B->B<W.heap.size->x.β b B/\(kx b=true\/tl b=true):=λb B h hB=>by
  rcases Zr _ _ h with h|h
  .exact⟨h.2,h.1⟩
  .omega
 obtain⟨CQ,S8⟩:∃CQ,CQ=more x1.β x.w.heap.size W2.heap.size:=⟨_,rfl⟩;have SR:x1.β.le CQ:=by rw[S8];exact nM _ _ _
 have Zu:∀b B,CQ b B->x1.β b B\/(b=x.w.heap.size/\B=W2.heap.size):=λb B h=>by rw[S8] at h;exact h
 have PN:CQ x.w.heap.size W2.heap.size:=by rw[S8];exact .inr ⟨rfl,rfl⟩
 obtain⟨A3,st3,gl3⟩:=Mr I.hB Q1g Zs.gl SR PN;obtain⟨W3,hW3⟩:∃W3,W3=W2.alloc (.cells #[.int .u64 0,.int .u32 0] 133):=⟨_,rfl⟩;rw[<-hW3] at st3;have Zv:∀B,B<W2.heap.size->W3.heap[B]?=W2.heap[B]?:=λB h=>by rw[hW3,aF,if_neg (by omega)]
 have aeb:W3.heap.size=W2.heap.size+1:=by rw[hW3,aI]
 have Zw:W3.os=W2.os/\W3.output=W2.output:=by rw[hW3];exact⟨rfl,rfl⟩
 obtain⟨Zx,aec,z3,g3,lv3⟩:=b2.Zm (P:=PP) (sl:=S0) g2 st3;have hr3:runNT Tryz.prog (N1+(N2+1)) (crowd gs W sl) t=(.next (crowd Zx W3 S0),t2):=by
  have e1:runNT Tryz.prog N1 (crowd gs W sl) t=(.next (crowd JG W1 NU),t1):=hr1;have e2:runNT Tryz.prog N2 (crowd JG W1 NU) t1=(.next m2,t2):=hr2;have e3:stepT Tryz.prog m2=(.next (crowd Zx W3 S0),#[]):=st2.trans aec;rw[cS e1,cS e2,nO e3,Array.append_empty]
 have wl3:Bg (SP SB (Ho tl x.w)) (CK Tryz.prog SB true) 0 CQ (Dr kx tl x.w cb (.func f fx fc)) W3:=by
  have e1:Bg (SP SB (Ho tl x.w)) (CK Tryz.prog SB true) 0 x1.β x1.w W2:=by have:=Zs.wl;rw[Dq,eH1] at this;exact this
  have bx:∀b,x1.w.heap[b]?=if b=x.w.heap.size+2 then some (.cells #[.func f fx fc] 90) else if b=x.w.heap.size+1 then some (.cells #[.pointer (some ⟨cb,0,none⟩)] 69) else if b=x.w.heap.size then some (.coro none) else(sink kx tl x.w).heap[b]?:=λb=>by
   rw[Q1w.1,boxed,aF,aI,Zq,aF,Zq,aF,dO]
  have e2:=qu (c:=#[.int .u64 0,.int .u32 0]) (ty:=133) (f:=(0,0)) e1 (b:=x.w.heap.size) Uq (by simp) rfl (by rw[bx,if_neg (by omega),if_neg (by omega),if_pos rfl]) (xK _);rw[<-S8] at e2;rw[hW3];refine qx e2 ?_ ?_ λb=>?_
  .rw[dK,Q1w.1,boxed,aI,aI,Zq]
  .rw[qy,Q1w.2.1];rfl
  .rw[bj,bx];by_cases h2:b=x.w.heap.size+2
   .rw[if_pos h2,if_pos h2];exact .inr ⟨_,_,_,_,rfl,rfl,λi h1 h2=>by simp at h2⟩
   .rw[if_neg h2,if_neg h2];by_cases h1:b=x.w.heap.size+1
    .rw[if_pos h1,if_pos h1];exact .inr ⟨_,_,_,_,rfl,rfl,λi h1 h2=>by simp at h2⟩
    .rw[if_neg h1,if_neg h1];exact .inl rfl
 obtain⟨Toy,Jt⟩:∃Toy:Nat->Prop,Toy=λB=>∃b,tl b=true/\x.β b B:=⟨_,rfl⟩;obtain⟨Pr,Jr⟩:∃Pr:AO,Pr=cut (LR kx tl x.w) CQ:=⟨_,rfl⟩;have M9:∀B,Toy B->B<W.heap.size:=λB h=>by rw[Jt] at h;obtain⟨b,_,h⟩:=h;exact(VN _ _ h).2
 have W23:W2.heap.size=W1.heap.size:=by rw[W2h]
 have n0:∀b,kx b=true\/tl b=true->b≠x.w.heap.size:=λb h e=>by have:=CB b h;omega
 have S9:∀b B,tl b=true->(CQ b B↔x.β b B):=λb B h=>⟨λh3=>by
  rcases Zu b B h3 with h4|h4
  .exact(VO b B h).1 h4
  .exact absurd h4.1 (n0 b (.inr h)),λh3=>SR _ _ ((VO b B h).2 h3)⟩
 have VP:∀b B,CQ b B->Toy B->tl b=true:=λb B h hB=>by
  have hlt:=M9 B hB;rw[Jt] at hB;obtain⟨b',h1,h2⟩:=hB;rcases Zu b B h with h4|h4
  .have h5:=(Zt b B h4 hlt).1;rw[ht.wl.B6.inj h5 h2];exact h1
  .omega
 have C:=I.ctx (β:=x.β) (Pr:=Pr) (T:=A.callers) (Toy:=Toy) (Wg:=W2.heap.size) lib Wl LQ hT bD (λb B h1 h2=>by rw[Jr] at h1;rw[Jt];exact⟨b,h2,(S9 b B h2).1 h1.2⟩)
  (λb h=>by obtain⟨B,hB⟩:=Up b (.inr h);exact⟨B,by rw[Jr];exact⟨.inr (.inl h),(S9 b B h).2 hB⟩⟩) (λb B h=>by rw[Jr] at h;exact h.1) (by rw[Jr];exact⟨.inr (.inr (.inl rfl)),PN⟩) (λh=>by have:=M9 _ h;omega)
  (λb B h=>by rw[Jr];exact⟨λh1=>(S9 b B h).1 h1.2,λh1=>⟨.inr (.inl h),(S9 b B h).2 h1⟩⟩)
 have NM:=pa I;have sw:∀b,b<x.w.heap.size+3->(Dr kx tl x.w cb (.func f fx fc)).heap[b]?≠none:=λb hb=>by rw[Ne,Array.getElem?_eq_none_iff,dK];omega
 have scr : VB PP SB BB true 0 133 W2.heap.size Toy (Ka x.β tl oK) (Ka x.β tl oE) 73 76 x.w.heap.size Pr A.callers (FnE BB tl x.w (Cv n)) n true (Ho tl x.w)
   (G ((base 39).at ((gA cb (x.w.heap.size+1) (x.w.heap.size+1+1) (.func f fx fc)).put (some 4) (.pointer (some ⟨x.w.heap.size,0,none⟩))) (.inRegion o1 []::kA)) [bad]) (Dr kx tl x.w cb (.func f fx fc)):=by
  obtain⟨e1,v,e2⟩:=I.hold _ I.ok;refine tP I.hB (de C.Lf n) (by simp) (I.NT _ I.ok) e1 e2 ?_
  have:=sf C (λb B h=>by rw[Jr] at h;exact h.1) n 0 (by omega) (LR kx tl x.w) _ NM undef undef undef (.pointer (some ⟨cb,0,none⟩)) (.pointer (some ⟨cb,0,none⟩)) (.pointer (some ⟨cb,2,none⟩)) undef undef undef undef undef undef undef undef undef undef undef undef undef (λv hv=>by
   simp only[xu,xm,or_false] at hv
   rcases hv with rfl|rfl|rfl|rfl|rfl|rfl|rfl|rfl|rfl|rfl|rfl<;>first|exact Aw.undef _ _|exact .ptr (.inl I.ks.1) _ _)
  rw[I.tp0] at this;exact this
 have Zy:=Zs.keep;have Zz:∀B,B<W.heap.size->W3.heap[B]?=W.heap[B]?:=λB hB=>by
  obtain⟨h1,h2⟩:=Zy B hB;rw[Zv B h1];exact h2
 have ZA:W3.os=W.os/\W3.output=W.output:=⟨Zw.1.trans (W2o.1.trans os1.1),Zw.2.trans (W2o.2.trans os1.2)⟩;obtain⟨x3,hx3⟩:∃x3:Lone,x3=⟨G ((base 39).at ((gA cb (x.w.heap.size+1) (x.w.heap.size+1+1) (.func f fx fc)).put (some 4) (.pointer (some ⟨x.w.heap.size,0,none⟩))) (.inRegion o1 []::kA)) [bad],Dr kx tl x.w cb (.func f fx fc),Ho tl x.w,CQ,A.callers⟩:=⟨_,rfl⟩;have aed:BZ PP SB BB true x3 A3:=by rw[hx3];rw[eH1,eT1] at gl3;exact gl3
 have b3:x3.β=CQ:=by rw[hx3]
 have H3:x3.H=Ho tl x.w:=by rw[hx3]
 have wg3:∀b,CQ b W2.heap.size->(Ho tl x.w).at_ b=true:=λb hb=>by
  rcases Zu _ _ hb with h|h
  .have:=lt1 _ _ h;omega
  .simp[h.1]
 have nd3:∀b B,CQ b B->¬Dead B:=λb B hb hd=>by
  rcases Zu _ _ hb with h|h
  .have h1:=Zs.dead b B h hd;rw[eH1] at h1;simp only[xO,beq_iff_eq] at h1;rcases h1 with h1|rfl
   .exact Kd b B ((VO b B h1).1 h) hd
   .exact Uq _ h
  .have:=b2.low B hd;omega
 have VQ:∀b B,CQ b B->B<W.heap.size->(Ho tl x.w).at_ b=true\/Ro (Dr kx tl x.w cb (.func f fx fc)) b:=λb B hb hB=>by
  rcases Zu _ _ hb with h|h
  .rcases(Zt b B h hB).2 with h|h
   .have hl:=CB b (.inl h);obtain⟨q1,l,ty,g,q2,q3,q4⟩:=I.XS b h;refine .inr ?_;unfold Ro;rw[bj,if_neg (by omega),if_neg (by omega),if_neg (by omega),fD q2 h q1];exact⟨_,_,_,rfl,λi hi=>⟨xK _,hi⟩⟩
   .exact .inl (by simp[h])
  .exact .inl (by simp[h.1])
 have ZB:Ka x.β tl oK W3:=λb B hb h=>by
  obtain⟨o,O,p1,p2,p3⟩:=ht.wl.Cq b B hb (hH b);obtain⟨q1,q2,_⟩:=I.Zn b h;rw[q1] at p1;cases p1;exact⟨O,(Zz B (VN b B hb).2).trans p2,λS Ck Ax=>q2.rel p3⟩
 obtain⟨μ,hinv⟩:=Lb (P:=PP) (SB:=SB) (BB:=BB) (lets:=true) (Gn:=0) (ty:=133) (Wg:=W2.heap.size) (Dead:=Dead) (Toy:=Toy) (Kp:=⟨λB=>B<W.heap.size/\¬Toy B,W,gs.size+n⟩) (Ψ0:=Ka x.β tl oK) (Ψ2:=Ka x.β tl oE) (fA:=73) (fW:=76) (wl:=x.w.heap.size) (Pr:=Pr) (T:=A.callers) (Fn:=FnE BB tl x.w (Cv n))
  (gs:=Zx) (W:=W3) (t:=t2) (q:=q2) (sl:=S0) (x:=x3) (a:=A3) (tp:=true) (k:=n) lv3 b2.past b2.quiet (λi op h=>by rw[z3];exact b2.PI i op h) b2.low (by show W3.heap[W2.heap.size]?=_;rw[hW3,aF,if_pos rfl];rfl) g3
  aed (by rw[hx3];exact wl3) (by rw[H3]) (by rw[hx3]) (λb B h=>by rw[Jr] at h;rw[b3];exact h.2) (λb hb=>by rw[b3] at hb;rw[H3];exact wg3 b hb) (λb B hb=>by rw[b3] at hb;exact nd3 b B hb) (λb B hb hB=>by rw[b3] at hb;rw[H3];simp[VP b B hb hB])
  (λB hB=>⟨⟨by have:=M9 B hB;omega,λhd=>by rw[Jt] at hB;obtain⟨b,_,h⟩:=hB;exact Kd _ _ h hd⟩,λh=>h.2 hB,by have:=M9 B hB;omega⟩)
  (λB hB=>⟨by have:=hB.1;omega,by have:=hB.1;omega,Zz B hB.1⟩) (λb B hb hB=>by rw[b3] at hb;have:=VQ b B hb hB.1;rw[hx3];exact this) ZA ⟨λ_=>ZB,λh=>(by cases h)⟩ (by rw[hx3];exact scr) (by simp only;omega)
 have tzK:av Toy (Ka x.β tl oK):=λW W' hW h b B h1 h2=>by
  obtain⟨O,h3,h4⟩:=h b B h1 h2;exact⟨O,(hW B (by rw[Jt];exact⟨b,h2,h1⟩)).trans h3,h4⟩
 have tzE:av Toy (Ka x.β tl oE):=λW W' hW h b B h1 h2=>by
  obtain⟨O,h3,h4⟩:=h b B h1 h2;exact⟨O,(hW B (by rw[Jt];exact⟨b,h2,h1⟩)).trans h3,h4⟩
 have hA:=Zf (P:=PP) (SB:=SB) (BB:=BB) (lets:=true) (Gn:=0) (Wg:=W2.heap.size) (T:=A.callers) (L:=L) Wl bA x.w.heap.size;have hW:=vr (P:=PP) (SB:=SB) (BB:=BB) (lets:=true) (Gn:=0) (Wg:=W2.heap.size) (T:=A.callers) (L:=L) Wl bW x.w.heap.size;rw[hT,h91] at hA;rw[hT,h94] at hW;obtain⟨N4,m4,t4,hr4,Gi⟩:=join (by rw[Jr];exact⟨.inr (.inr (.inl rfl)),PN⟩) lib (λf fn h _=>h) tzK tzE hA hW hinv;obtain⟨Sj,W4,VR,x4,a4,tp4,q4,rfl,g4,lv4,ZC,VS,aee,PO,wl4,tw4,wg4,ZE,aef,ZF,aeg,dl4,aeh,aei,os4,ou4,bd4,VT⟩:=K8 Gi
 obtain⟨e4,eH4,r4⟩:=PO.fin;have aej:∀B,B<W.heap.size->B<W4.heap.size:=λB h=>by omega
 have b4:Gd Tryz.prog (λB=>Dead B\/B=W2.heap.size) Sj W4 t4 q4:=⟨lv4,ZC,VS,aee,λB hB=>hB.elim (dl4 B) λh=>h▸aeg⟩
 have aek:Tw PP SB BB true 0 (λB=>Dead B\/B=W2.heap.size) ⟨λB=>B<W.heap.size,W4,0⟩ x4 a4 W4:=⟨PO.gl,wl4,tw4,λb B hb hd=>hd.elim (λh=>absurd h (ZE b B hb)) λh=>wg4 b (h▸hb),λB hB=>⟨aej B hB,rfl⟩,λb B hb hB=>by
  by_cases Um:Toy B
  .exact .inl (aef b B hb Um)
  .exact VT b B hb ⟨hB,Um⟩⟩
 obtain⟨N5,m5,t5,hr5,gs5,W5,ZG,q5,x5,a5,rfl,g5,z5,b5,tw5,Q5,eH5,eT5,le5,os5,sz5,sz5',new5⟩:=H5 (P:=PP) (SB:=SB) (BB:=BB) (lets:=true) (Gn:=0) (Kp:=⟨λB=>B<W.heap.size,W4,0⟩) lib
  (H:=x4.H) (T:=x4.T) (β:=x4.β) (Q:=AW.Left Tryz.prog 39 λv _=>v=.tuple #[]) (os:=W4.os) (ou:=W4) (n:=Sj.size) (b0:=0) (B0:=W4.heap.size) _ (crowd Sj W4 VR) t4
  ⟨Sj,W4,VR,q4,x4,a4,rfl,g4,rfl,b4,aek,r4,rfl,rfl,AO.le_refl _,⟨rfl,rfl⟩,⟨xh _,xK _,λb B h=>.inl h⟩,rfl⟩
 obtain⟨N6,m6,t6,hr6,gs6,d6,sl6,q6,st6,g6,z6,b6⟩:=JF (P:=PP) (sl:=ZG) b5 g5 tw5.gl.status.2;have tw6:=tw5.at d6;have ael:CI PP SB x5.H true BB (FR::CS) x5.β x5.g a5:=by
  have:=tw5.gl;rw[BZ,eT5,PO.t,VF] at this;exact this
 obtain⟨v,w0,w1,V,W7,ES,β7,_,hv,_,st7,hV,PR⟩:=leave (P:=PP) (lib x5.H) (main2:=true) Q5 I.hB ael tw6.wl;subst hv;have eV:V=.tuple #[]:=by
  cases hV with
  |@tuple _ X h1 _ =>
   have:X=#[]:=by simpa using h1.symm
   rw[this]
 subst eV;obtain⟨gs7,ZH,aen,z7,g7,b7⟩:=b6.fin (P:=PP) (SB:=SB) (lets:=true) (Gn:=0) (x:=x5) tw5.tw tw6.dead g6 st7 PR sl6;obtain⟨ZI,_⟩:=IZ (P:=PP) (SB:=SB) (lets:=true) (Gn:=0) (x:=x5) PR tw6.keep tw6.Cp;have hrun:runNT Tryz.prog ((N1+(N2+1))+(N4+(N5+(N6+1)))) (crowd gs W sl) t=(.next (crowd gs7 W7 sl6),t6++ZH):=by
  have e4:runNT Tryz.prog N4 (crowd Zx W3 S0) t2=(.next (crowd Sj W4 VR),t4):=hr4;have e5:runNT Tryz.prog N5 (crowd Sj W4 VR) t4=(.next (crowd gs5 W5 ZG),t5):=hr5;have e6:runNT Tryz.prog N6 (crowd gs5 W5 ZG) t5=(.next m6,t6):=hr6;have e7:stepT Tryz.prog m6=(.next (crowd gs7 W7 sl6),ZH):=st6.trans aen;rw[cS hr3,cS e4,cS e5,cS e6,nO e7]
 have PS:∀B,B<W.heap.size->B<W7.heap.size/\W7.heap[B]?=W4.heap[B]?:=λB hB=>ZI B hB;have Na:∀B,B<W.heap.size->¬Toy B->W7.heap[B]?=W.heap[B]?:=λB hB hT=>(PS B hB).2.trans (ZF B ⟨hB,hT⟩);have W5s:W5.heap.size<=W7.heap.size:=PR.SIZE;have aeo:∀b B,x.β b B->tl b=true->∃O,W7.heap[B]?=some O/\∀(S:Cb) (Ck:Code->Prop) (Ax:AO),Bw S Ck Ax (oF (Cv n) oK oE b) O:=λb B hb h=>by
  have hE:=(PS B (VN b B hb).2).2;rw[hE];cases NF:Cv n with
  |true=>exact aeh (by rw[e4];exact NF) b B hb h
  |false=>exact aei (by rw[e4];exact NF) b B hb h
 have VU:∀b B,x.β b B->tl b=false->¬Toy B:=λb B hb h hT=>by
  rw[Jt] at hT;obtain⟨b',h1,h2⟩:=hT;rw[ht.wl.B6.inj hb h2] at h;rw[h] at h1;cases h1
 have os7:W7.os=W.os/\W7.output=W.output:=⟨PR.OS.trans (os5.1.trans os4),PR.OUT.trans (os5.2.trans ou4)⟩;refine⟨_,_,_,hrun,gs7,W7,sl6,q6,_,_,rfl,g7,?_,b7,⟨i9 (x:=⟨back fr cs,En tl (oF (Cv n) oK oE) x.w,x.H,x.β,x.T⟩) r1 r2,⟨ht.wl.B6,⟨xK _,xK _⟩,λb B hb hh=>?_,λb B hb hh=>?_,λb hh=>?_,?_⟩,ht.tw,λb B hb hd=>?_,λB hB=>?_,λb B hb hB=>?_⟩,os7,by omega,λB hB=>hB.imp id λh=>by rw[h];omega⟩
 .rw[z7,z6,z5];exact bd4
 .have hl:=(VN b B hb).1;rw[bP _ _ _ _ hl];cases h:tl b with
  |true =>
   obtain⟨O,h1,h2⟩:=aeo b B hb h;exact⟨_,O,rfl,h1,h2 _ _ _⟩
  |false =>
   obtain⟨o,O,p1,p2,p3⟩:=ht.wl.Cq b B hb (hH b);exact⟨o,O,p1,(Na B (VN b B hb).2 (VU b B hb h)).trans p2,p3⟩
 .have Fh:x.H b=true:=hh;rw[hH] at Fh;cases Fh
 .have Fh:x.H b=true:=hh;rw[hH] at Fh;cases Fh
 .show x.w.os.env=W7.os.env;rw[os7.1];exact ht.wl.env
 .rcases hd with hd|hd
  .exact absurd hd (Kd b B hb)
  .have:=(VN b B hb).2;omega
 .obtain⟨k1,k2⟩:=ht.keep B hB;refine⟨(PS B k1).1,(Na B k1 λhT=>?_).trans k2⟩;rw[Jt] at hT;obtain⟨b,h1,h2⟩:=hT;exact hKp b B h2 h1 hB
 .rcases ht.Cp b B hb hB with h|⟨c',t',f',h1,h2⟩
  .exact .inl h
  .refine .inr ⟨c',t',f',?_,h2⟩;show(En tl _ x.w).heap[b]?=_;rw[bP _ _ _ _ (VN b B hb).1];cases h:tl b with
   |true=>exact absurd hB (hKp b B hb h)
   |false=>exact h1
end
open Go.Sq
def bQ (a b c:Int)(w:World):Calls An 49 #[.int .i64 a,.int .i64 b,.int .i64 c] w λe w'=>e=.returned (.bool (C2 a b c))/\w=w':=by
 by_cases h1:b<=a
 .by_cases h2:a<=c
  .have HS:=xf (show C2 a b c=true by simp[C2,h1,h2]);go_enter Sq.func49,Tryz.ntmps49;go_wp2;go_ret;exact⟨ap HS.out.symm,rfl⟩
  .have HS:=xf (show C2 a b c=false by simp[C2];omega);go_enter Sq.func49,Tryz.ntmps49;go_wp2;go_ret;exact⟨ap HS.out.symm,rfl⟩
 .have HS:=xf (show C2 a b c=false by simp[C2];omega);go_enter Sq.func49,Tryz.ntmps49;go_wp2;go_ret;exact⟨ap HS.out.symm,rfl⟩
def gV (n lo hi:Int)(w:World):Calls An 63 #[.int .i64 n,.int .i64 lo,.int .i64 hi] w λe w'=>e=.returned (.int .i64 (Bb n lo hi))/\w=w':=by
 by_cases h1:n<lo
 .have HS:=xf (show Bb n lo hi=7 by simp[Bb,h1]);go_enter Sq.func63,Tryz.ntmps63;go_wp2;go_ret;exact⟨ao HS.out.symm,rfl⟩
 .by_cases h2:hi<n
  .have HS:=xf (show Bb n lo hi=6 by simp[Bb,h1,h2]);go_enter Sq.func63,Tryz.ntmps63;go_wp2;go_ret;exact⟨ao HS.out.symm,rfl⟩
  .have HS:=xf (show Bb n lo hi=0 by simp[Bb,h1,h2]);go_enter Sq.func63,Tryz.ntmps63;go_wp2;go_ret;exact⟨ao HS.out.symm,rfl⟩
def iP (A:Option Addr)(c:Nat)(l:List Int)(n:Int)(w:World)(B:Nat)(h:RI w B A l)(hl:l.length<=4611686018427387904)(Ku:0<=n)(hn:n<=4611686018427387904) :
  Calls An 64 #[.slice A l.length c,.int .i64 n] w λe w'=>e=.returned (.int .i64 (B1 l n))/\w=w':=by
 have HR:=xf h;clear h;go_enter Sq.func64,Tryz.ntmps64;go_wp2;go_loop [9] (λi=>∃k:Nat,k<=l.length/\i=.int .i64 k/\∀j,j<k->CL l n j=0) (λi=>l.length-(intOf i).toNat)
 case atStart=>exact⟨0,by omega,rfl,λj hj=>absurd hj (yr _)⟩
 case round =>
  obtain⟨k,hk,rfl,hz⟩:=hrel;have HZ:=xf hz;clear hz;by_cases hlt:k<l.length
  .obtain⟨b,o,rfl,hb,hc⟩:=HR.out.at_ hlt;have HA:Hid (CL l n k=if 0<=l[k]?.getD 0/\l[k]?.getD 0<=n-1 then(if 0<k/\l[k]?.getD 0<=l[k-1]?.getD 0 then 5 else 0) else 3):=xf rfl;by_cases hr:0<=l[k]?.getD 0/\l[k]?.getD 0<=n-1
   .have HI : Hid (Calls An 49 #[.int .i64 (l[k]?.getD 0), .int .i64 0, .int .i64 (n - 1)] w fun e w' => e = .returned (.bool true) ∧ w = w') := Lib.hid (by
     have:=bQ (l[k]?.getD 0) 0 (n-1) w
     rwa [show C2 (l[k]?.getD 0) 0 (n-1)=true by simp[C2,hr.1,hr.2]] at this)
    rcases xV k with h0|h0
    .subst h0;have HS:=xf (show CL l n 0=0 by rw[HA.out,if_pos hr,if_neg (by omega)]);clear HA hr;simp only[Nat.add_zero] at hc;generalize l[0]?.getD 0=x at hc HI;go_wp2_with (go_at_call 49;refine HI.out.mono ?_;rintro e w' ⟨rfl,rfl⟩);go_round
     case rel=>exact⟨1,by omega,by go_num,λj hj=>by
      have:j=0:=by omega
      subst this;exact HS.out⟩
     case measure=>simp[intOf];omega
    .obtain⟨m,rfl⟩:∃m,k=m+1:=⟨k-1,by omega⟩;have hc':w.cell? ⟨b,o+m,none⟩=some (.int .i64 (l[m]?.getD 0)):=by
      obtain⟨b',o',e,_,h⟩:=HR.out.at_ (k:=m) (by omega);simp only[Option.some.injEq,Addr.mk.injEq] at e;obtain⟨rfl,rfl,_⟩:=e;exact h
     by_cases hle:l[m+1]?.getD 0<=l[m]?.getD 0
     .have HS := Lib.hid (show B1 l n = 5 by
       have e:CL l n (m+1)=5:=by rw[HA.out,if_pos hr,if_pos ⟨h0,hle⟩]
       rw[fN hlt HZ.out (by rw[e];decide),e])
      clear HA hr;generalize l[m+1]?.getD 0=x at hc HI hle;generalize l[m]?.getD 0=y at hc' hle;go_wp2_with (go_at_call 49;refine HI.out.mono ?_;rintro e w' ⟨rfl,rfl⟩);go_ret;exact⟨ao HS.out.symm,rfl⟩
     .have HS:=xf (show CL l n (m+1)=0 by rw[HA.out,if_pos hr,if_neg (λh=>hle h.2)]);clear HA hr;generalize l[m+1]?.getD 0=x at hc HI hle;generalize l[m]?.getD 0=y at hc' hle;go_wp2_with (go_at_call 49;refine HI.out.mono ?_;rintro e w' ⟨rfl,rfl⟩);go_round
      case rel=>exact⟨m+1+1,by omega,by go_num,λj hj=>by
       rcases yf (yB hj) with h|rfl
       .exact HZ.out j h
       .exact HS.out⟩
      case measure=>simp[intOf];omega
   .have HI : Hid (Calls An 49 #[.int .i64 (l[k]?.getD 0), .int .i64 0, .int .i64 (n - 1)] w fun e w' => e = .returned (.bool false) ∧ w = w') := Lib.hid (by
     have:=bQ (l[k]?.getD 0) 0 (n-1) w
     rwa [show C2 (l[k]?.getD 0) 0 (n-1)=false by simp[C2];omega] at this)
    have HS:=xf (show B1 l n=3 by
     have e:CL l n k=3:=by rw[HA.out,if_neg hr]
     rw[fN hlt HZ.out (by rw[e];decide),e])
    clear HA hr;generalize l[k]?.getD 0=x at hc HI;go_wp2_with (go_at_call 49;refine HI.out.mono ?_;rintro e w' ⟨rfl,rfl⟩);go_ret;exact⟨ao HS.out.symm,rfl⟩
  .have HS:=xf (show B1 l n=0 from ku λi hi=>HZ.out i (by omega));have:k=l.length:=by omega
   clear HZ;go_wp2;go_ret;exact⟨ao HS.out.symm,rfl⟩
def AH (nA hA:Option Addr)(c:AD)(nc hc:Nat):Value:=.agg #[.slice nA c.Aq.length nc,.slice hA c.Ap.length hc]
def jD {c:AD}(h1:Bb c.Aq.length 1 5=0)(h2:(c.Aq.all λx=>C2 x 0 12)=true)(h3:Bb c.Ap.length 1 4=0):AK c=bE (c.Ap.map (Cm c.Aq.length)):=by
 simp[AK,h1,h2,h3]
def bN (c:AD)(n:Int){i:Nat}(hi:i<c.Ap.length):(c.Ap.map (Cm n))[i]?.getD 0=Cm n (c.h i):=by
 unfold AD.h;simp[hi]
def tX (nA hA:Option Addr)(nc hc:Nat)(c:AD)(w:World)(B:Nat)(hB:B<=w.heap.size)(hn:RI w B nA c.Aq)(hh:BG w B hA c.Ap)(DG:c.Aq.length<=4611686018427387904)(hl2:c.Ap.length<=4611686018427387904)
  (BU:∀h∈c.Ap,h.off.length<=4611686018427387904) :
  Calls An 71 #[AH nA hA c nc hc] w λe w'=>e=.returned (.int .i64 (AK c))/\Gr w w':=by
 have HN:=xf hn;have HH:=xf hh;have Ms:=xf BU;clear hn hh BU;unfold AH;obtain⟨W0,hW0⟩:∃W0:World,W0=w.alloc (.cells #[.slice nA c.Aq.length nc,.slice hA c.Ap.length hc] 25):=⟨_,rfl⟩;have B4:Hid (Gr w W0):=xf (by rw[hW0];exact(Gr.refl w).alloc _);have HC:Hid (∀W,Gr W0 W->W.cell? ⟨w.heap.size,0,none⟩=some (.slice nA c.Aq.length nc)/\W.cell? ⟨w.heap.size,1,none⟩=some (.slice hA c.Ap.length hc)):=xf λW hg=>by
  rw[hg.cell (by show w.heap.size<_;rw[hW0];simp),hg.cell (by show w.heap.size<_;rw[hW0];simp),hW0,xj _ _ _ _ rfl,xj _ _ _ _ rfl];exact⟨rfl,rfl⟩
 have hz0:W0.heap.size=w.heap.size+1:=by rw[hW0];simp
 by_cases JI:Bb c.Aq.length 1 5=0
 .have HM:Hid (Calls An 63 #[.int .i64 c.Aq.length,.int .i64 1,.int .i64 5] (w.alloc (.cells #[.slice nA c.Aq.length nc,.slice hA c.Ap.length hc] 25)) λe w'=>e=.returned (.int .i64 0)/\(w.alloc (.cells #[.slice nA c.Aq.length nc,.slice hA c.Ap.length hc] 25))=w'):=xf (by rw[<-JI];exact gV _ _ _ _);have VV:=xf JI;have HW:=xf hW0;clear JI hW0;go_enter Sq.func71,Tryz.ntmps71;go_wp2_with (first|(go_at_call 63;refine HM.out.mono ?_;rintro e w' ⟨rfl,rfl⟩))
  rw[<-HW.out];clear HW HM;obtain⟨hc0,hc1⟩:=HC.out W0 (Gr.refl _);have VW:=xf ((HN.out.gr hB B4.out).more (B':=W0.heap.size) (by omega));go_loop [20] (λi=>∃k:Nat,k<=c.Aq.length/\i=.int .i64 k/\∀j,j<k->C2 (c.Aq[j]?.getD 0) 0 12=true) (λi=>c.Aq.length-(intOf i).toNat)
  case atStart=>exact⟨0,by omega,rfl,λj hj=>absurd hj (yr _)⟩
  case round =>
   obtain⟨k,hk,rfl,hz⟩:=hrel;have HZ:=xf hz;clear hz;by_cases hlt:k<c.Aq.length
   .obtain⟨b,o,rfl,hb,hcell⟩:=VW.out.at_ hlt;have hI:=bQ (c.Aq[k]?.getD 0) 0 12 W0;cases Gz:C2 (c.Aq[k]?.getD 0) 0 12 with
    |true =>
     rw[Gz] at hI;have HI:=xf hI;have Ur:=xf Gz;clear hI Gz;generalize c.Aq[k]?.getD 0=x at hcell HI;go_wp2_with (go_at_call 49;refine HI.out.mono ?_;rintro e w' ⟨rfl,rfl⟩);go_round
     case rel=>exact⟨k+1,by omega,by go_num,λj hj=>by
      rcases yf (yB hj) with h|rfl
      .exact HZ.out j h
      .exact Ur.out⟩
     case measure=>simp[intOf];omega
    |false =>
     rw[Gz] at hI;have HI:=xf hI
     have HS:=xf (show AK c=1 by
      have:(c.Aq.all λx=>C2 x 0 12)=false:=by
       rw[List.all_eq_false];exact⟨_,Dd _ _ hlt,by simp[Gz]⟩
      simp[AK,VV.out,this])
     clear hI Gz;generalize c.Aq[k]?.getD 0=x at hcell HI;go_wp2_with (go_at_call 49;refine HI.out.mono ?_;rintro e w' ⟨rfl,rfl⟩);go_ret;exact⟨ao HS.out.symm,B4.out⟩
   .have HA := Lib.hid (show (c.Aq.all fun x => C2 x 0 12) = true by
     rw[xY];intro x hx;obtain⟨j,hj,rfl⟩:=yT.1 hx;have:=HZ.out j (by omega)
     rwa [xi hj] at this)
    have D6:k=c.Aq.length:=by omega
    clear HZ;subst D6;have NV:=gV c.Ap.length 1 4 W0;by_cases Jl:Bb c.Ap.length 1 4=0
    .rw[Jl] at NV;have HM:=xf NV;have HD:=xf (jD VV.out HA.out Jl);clear NV Jl;go_wp2_with (first|(go_at_call 63;refine HM.out.mono ?_;rintro e w' ⟨rfl,rfl⟩));go_loopw [38] (λi wr=>∃k:Nat,k<=c.Ap.length/\i=.int .i64 k/\(∀j,j<k->Cm c.Aq.length (c.h j)=0)/\Gr W0 wr) (λi _=>c.Ap.length-(intOf i).toNat)
     case atStart=>exact⟨0,by omega,rfl,λj hj=>absurd hj (yr _),Gr.refl _⟩
     case round =>
      obtain⟨k,hk,rfl,hz,hgr⟩:=hrel;have HZ:=xf hz;have Ch:=xf hgr;have Ex:=xf (B4.out.trans hgr);obtain⟨NM,JY⟩:=HC.out wr hgr;have hsz:w.heap.size<wr.heap.size:=by have:=Ch.out.size;omega
      clear hz hgr;by_cases hlt:k<c.Ap.length
      .have ZJ:=xf (HH.out.keep λb o hb=>Ex.out.cell (p:=⟨b,o,none⟩) (xl hb hB));obtain⟨b,o,rfl,hb,hat⟩:=ZJ.out.at_ (c:=c) hlt;obtain⟨g0,g1,g2,A,ac,g3,Ct⟩:=hat;have Hf:=xf (Ct.more (B':=wr.heap.size) (by omega));have Un:=Ms.out _ (c.FH hlt);have HF:=xf (bN c c.Aq.length hlt);have ZK:∀x lo hi v,C2 x lo hi=v->∀W:World,Calls An 49 #[.int .i64 x,.int .i64 lo,.int .i64 hi] W λe w'=>e=.returned (.bool v)/\W=w':=λx lo hi v h W=>by rw[<-h];exact bQ _ _ _ _
       have Hp:=xf ZK;clear ZK Ct;cases t1:C2 (c.h k).heads 1 40 with
       |false =>
        have HS:=xf (show AK c=1 by
         have e:Cm c.Aq.length (c.h k)=1:=by simp[Cm,t1]
         rw[HD.out,aV (k:=k) (by simpa using hlt) (λi hi=>by rw[bN c _ (by omega)];exact HZ.out i hi) (by rw[HF.out,e];decide),HF.out,e])
        have HA:=xf (Hp.out _ _ _ _ t1);clear t1;go_wp2_with (first|(go_at_call 49;refine(HA.out _).mono ?_;rintro e w' ⟨rfl,rfl⟩));go_ret;exact⟨ao HS.out.symm,Ex.out.alloc _⟩
       |true =>
        have HA:=xf (Hp.out _ _ _ _ t1);cases t2:C2 (c.h k).CJ 1 5 with
        |false =>
         have HS:=xf (show AK c=1 by
          have e:Cm c.Aq.length (c.h k)=1:=by simp[Cm,t2]
          rw[HD.out,aV (k:=k) (by simpa using hlt) (λi hi=>by rw[bN c _ (by omega)];exact HZ.out i hi) (by rw[HF.out,e];decide),HF.out,e])
         have Ke:=xf (Hp.out _ _ _ _ t2);clear t1 t2;go_wp2_with fail;refine(HA.out _).mono ?_;rintro e w' ⟨rfl,rfl⟩;go_wp2_with fail;refine(Ke.out _).mono ?_;rintro e w' ⟨rfl,rfl⟩;go_wp2;go_ret;exact⟨ao HS.out.symm,Ex.out.alloc _⟩
        |true =>
         have Ke:=xf (Hp.out _ _ _ _ t2);cases t3:C2 (c.h k).most 0 5 with
         |false =>
          have HS:=xf (show AK c=1 by
           have e:Cm c.Aq.length (c.h k)=1:=by simp[Cm,t3]
           rw[HD.out,aV (k:=k) (by simpa using hlt) (λi hi=>by rw[bN c _ (by omega)];exact HZ.out i hi) (by rw[HF.out,e];decide),HF.out,e])
          have OJ:=xf (Hp.out _ _ _ _ t3);clear t1 t2 t3;go_wp2_with fail;refine(HA.out _).mono ?_;rintro e w' ⟨rfl,rfl⟩;go_wp2_with fail;refine(Ke.out _).mono ?_;rintro e w' ⟨rfl,rfl⟩;go_wp2_with fail;refine(OJ.out _).mono ?_;rintro e w' ⟨rfl,rfl⟩;go_wp2;go_ret;exact⟨ao HS.out.symm,Ex.out.alloc _⟩
         |true =>
          have OJ:=xf (Hp.out _ _ _ _ t3);have HE:=xf (show Cm c.Aq.length (c.h k)=B1 (c.h k).off c.Aq.length by simp[Cm,t1,t2,t3]);have HAS:=xf (λW (hg:Gr wr W)=>iP A ac (c.h k).off c.Aq.length W wr.heap.size (Hf.out.gr (xh _) hg) Un (by omega) (by omega));have Nb:=xf (λv=>Ex.out.alloc v);have Lj:Hid (∀v,Gr wr (wr.alloc v)):=xf λv=>(Gr.refl wr).alloc v;clear t1 t2 t3;by_cases he:B1 (c.h k).off c.Aq.length=0
          .rw[he] at HAS;have ZL:=xf (HE.out.trans he);clear he HE;go_wp2_with fail;refine(HA.out _).mono ?_;rintro e w' ⟨rfl,rfl⟩;go_wp2_with fail;refine(Ke.out _).mono ?_;rintro e w' ⟨rfl,rfl⟩;go_wp2_with fail;refine(OJ.out _).mono ?_;rintro e w' ⟨rfl,rfl⟩;go_wp2_with fail;refine(HAS.out _ (Lj.out _)).mono ?_;rintro e w' ⟨rfl,rfl⟩;go_wp2;go_roundw
           case rel=>exact⟨k+1,by omega,by go_num,λj hj=>by
            rcases yf (yB hj) with h|rfl
            .exact HZ.out j h
            .exact ZL.out,Ch.out.alloc _⟩
           case measure=>simp[intOf];omega
          .have HS := Lib.hid (show AK c = B1 (c.h k).off c.Aq.length by
            rw[HD.out,aV (k:=k) (by simpa using hlt) (λi hi=>by rw[bN c _ (by omega)];exact HZ.out i hi) (by rw[HF.out,HE.out];exact he),HF.out,HE.out])
           have hne:((B1 (c.h k).off c.Aq.length) != 0)=true:=by simpa using he
           clear HE he;generalize B1 (c.h k).off c.Aq.length=e0 at HAS HS hne;go_wp2_with fail;refine(HA.out _).mono ?_;rintro e w' ⟨rfl,rfl⟩;go_wp2_with fail;refine(Ke.out _).mono ?_;rintro e w' ⟨rfl,rfl⟩;go_wp2_with fail;refine(OJ.out _).mono ?_;rintro e w' ⟨rfl,rfl⟩;go_wp2_with fail;refine(HAS.out _ (Lj.out _)).mono ?_;rintro e w' ⟨rfl,rfl⟩;go_wp2;go_ret;exact⟨ao HS.out.symm,Ex.out.alloc _⟩
      .have HS := Lib.hid (show AK c = 0 by
        rw[HD.out];exact cV λi hi=>by
         rw[yK] at hi
         rw[bN c _ hi];exact HZ.out i (by omega))
       have D6:k=c.Ap.length:=by omega
       clear HZ;subst D6;go_wp2;go_ret;exact⟨ao HS.out.symm,Ex.out⟩
    .have HS:=xf (show AK c=Bb c.Ap.length 1 4 by simp[AK,VV.out,HA.out,Jl]);have HM:=xf NV;have hb:((Bb c.Ap.length 1 4) != 0)=true:=by simpa using Jl
     clear NV Jl;generalize Bb c.Ap.length 1 4=e0 at HM hb HS;go_wp2_with (first|(go_at_call 63;refine HM.out.mono ?_;rintro e w' ⟨rfl,rfl⟩));go_ret;exact⟨ao HS.out.symm,B4.out⟩
 .have HS:=xf (show AK c=Bb c.Aq.length 1 5 by simp[AK,JI]);have HM:=xf (gV c.Aq.length 1 5 W0);have hb:((Bb c.Aq.length 1 5) != 0)=true:=by simpa using JI
  rw[hW0] at HM;generalize Bb c.Aq.length 1 5=e0 at HM hb HS;clear JI hW0;go_enter Sq.func71,Tryz.ntmps71;go_wp2_with (first|(go_at_call 63;refine HM.out.mono ?_;rintro e w' ⟨rfl,rfl⟩));go_ret;exact⟨ao HS.out.symm,(Gr.refl w).alloc _⟩
end Go.Proofs.Ao
namespace Go.Sq
open Go.RowKit
def gW (u:Value):Prop:=∃x,u=.int .u8 x
def Dz (w:World)(v:Value):Prop:=∀a n c,v=.slice (some a) n c->∃(cur:Array Value) (t:TypeId),w.heap[a.block]?=some (.cells cur t (0,0))/\∀u∈cur.toList,gW u
def Dz.nil (w:World):Dz w (.slice none 0 0):=λa n c h=>by cases h
def Dz.keep {w w':World}{v:Value}(h:Dz w v)(hk:∀a n c,v=.slice (some a) n c->w'.heap[a.block]?=w.heap[a.block]?):Dz w' v:=λa n c e=>by
 obtain⟨cur,t,h1,h2⟩:=h a n c e;exact⟨cur,t,(hk a n c e).trans h1,h2⟩
variable {P:Program}
def tY (n:Nat):∀u∈(Builtin.zeroCells (Value.int .u8 0).cells n).toList,gW u:=by
 intro u hu;simp only[Builtin.zeroCells,Array.toList_map,xW] at hu;obtain⟨i,_,rfl⟩:=hu;refine⟨0,?_⟩;show(#[Value.int .u8 0]:Array Value)[i % 1]! = _;rw[Nat.mod_one];rfl
def mX (w:World)(base:Nat)(t ty e:TypeId)(i:TypeInfo)(ht:P.underlying t=some (.slice e))(hi:P.info? e=some i)(hz:i.zero=some (.int .u8 0))
  (hsize:i.size=1) (hby:i.bytes=1) (v:Value) (n:Nat) (xs:List Value) (hown:w.ownsRow base e 1 v n xs) (hf:Dz w v)
  (a:Addr) (m c:Nat) (news:List Value) (hl:news.length=m*1) (hnews:∀j u,news[j]?=some u->w.cell? (a.add j)=some u) (h1:∀u∈news,gW u) (h63:n+m<=maxLen) (hbytes:(n+m)*1<=140737488355328)
  {v':Value} {w':World} (hrun:(Builtin.append_ #[t,t] ty #[v,.slice (some a) m c]).run P w=.ok v' w'):Dz w' v':=by
 have aep:n+m<=9223372036854775807:=by simp only[maxLen] at h63;omega
 have Gp:∀u∈news,u.oneCell'=true:=λu hu=>by obtain⟨x,rfl⟩:=h1 u hu;rfl
 have grown:∀(ys:List Value) k,(∀u∈ys,gW u)->∀l1 l2 n1 c1,l1++l2=ys->Dz (w.drew.alloc (.cells (l1.toArray++l2.toArray++Builtin.zeroCells (Value.int .u8 0).cells k) e)) (.slice (some ⟨w.heap.size,0,none⟩) n1 c1):=by
  intro ys k hys l1 l2 n1 c1 aeq a n c he;injection he with h _ _
  injection h with h
  subst h;refine⟨_,e,heap_alloc_new w.drew _,λu hu=>?_⟩;simp only[Array.toList_append,ym] at hu;rcases hu with hu|hu
  .refine hys u ?_;rw[<-aeq];simpa using hu
  .exact tY _ u hu
 rcases hown.2 with⟨rfl,rfl⟩|⟨g,cap,cur,rfl,hbg,hg,Vo,hcm,hcs,PG⟩
 .by_cases hm:m=0
  .subst hm;have hn:news=[]:=xU (by simpa using hl);subst hn;simp[Builtin.append_,run_underlying ht,sizeOf,typeInfo,hi,Builtin.lenOf,Builtin.firstCells,loadCells,loadCellsFrom] at hrun;obtain⟨rfl,rfl⟩:=hrun;exact Dz.nil _
  .have hr:=run_append_nil (P:=P) w t ty e i (.int .u8 0) ht hi hz a m c news (by rw[hsize];exact hl) hnews (by omega) (by omega) (by rw[hby];omega);rw[hr] at hrun;cases hrun;have:=grown news (grownCap w m 0 e-m) h1 [] news m (grownCap w m 0 e) rfl;simpa using this
 .obtain⟨cur',t',z1,z2⟩:=hf _ _ _ rfl;have z1':w.heap[g]?=some (.cells cur' t' (0,0)):=z1;rw[hg] at z1';cases z1';have Sk:∀u∈xs,gW u:=λu hu=>z2 u (by rw[<-PG] at hu;exact za hu);by_cases hroom:n+m<=cap
  .have aer:n*i.size+news.length<=cur.size:=by rw[hsize,hl,hcs];omega
   have hr:=run_append_room (P:=P) w t ty e i ht hi g n cap cur hg a m c news (by rw[hsize];exact hl) hnews Gp hroom aer;rw[hr] at hrun;cases hrun;intro a2 n2 c2 he;injection he with h _ _
   injection h with h
   subst h;refine⟨_,e,setRow_heap w g cur _ e _ hg,λu hu=>?_⟩;simp only[ym] at hu;rcases hu with(hu|hu)|hu
   .exact z2 u (za hu)
   .exact h1 u hu
   .exact z2 u (List.mem_of_mem_drop hu)
  .have holds:∀j u,xs[j]?=some u->w.cell? ((⟨g,0,none⟩:Addr).add j)=some u:=hown.cells (g:=g) rfl;have hr:=run_append_grow (P:=P) w t ty e i (.int .u8 0) ht hi hz ⟨g,0,none⟩ n cap xs (by rw[hsize];exact hown.1) holds a m c news (by rw[hsize];exact hl) hnews (by omega) (by omega) (by rw[hby];exact growslice_fits (by omega) hbytes);rw[hr] at hrun;cases hrun;exact grown (xs++news) _ (λu hu=>(ym.1 hu).elim (Sk u) (h1 u)) xs news _ _ rfl
def gX {w:World}{ops:Array Oper}{rest:List Oper}{o:Oper}{a:Act}{Q:Exit->Act->World->Prop}(hgd:o.guard=none)(s x:Operand)(t:TypeId)
  (ho:o.op=.call { callee:=.builtin .append,args:=#[s,x],argTypes:=#[t,t] })
  (base:Nat) (e:TypeId) (i:TypeInfo) (ht:P.underlying t=some (.slice e)) (hi:P.info? e=some i) (hz:i.zero=some (.int .u8 0))
  (hsize:i.size=1) (hby:i.bytes=1)
  (v:Value) (n:Nat) (xs:List Value) (hs:a.eval s=v) (hown:w.ownsRow base e 1 v n xs) (hf:Dz w v)
  (ad:Addr) (m c:Nat) (news:List Value) (hx:a.eval x=.slice (some ad) m c) (hl:news.length=m*1) (hnews:∀j u,news[j]?=some u->w.cell? (ad.add j)=some u) (h1:∀u∈news,gW u)
  (h63:n+m<=maxLen) (hbytes:(n+m)*1<=140737488355328) (hbase:base<=w.heap.size)
  (h:∀v' w',w'.ownsRow base e 1 v' (n+m) (xs++news)->w.grownBy w' v.ownBlock->w.drawn<=w'.drawn->Dz w' v'->wpList P ops Q rest (a.put o.dst v') w'):wpList P ops Q (o::rest) a w:=by
 refine wpList_plain hgd λK hK=>?_;have Gp:∀u∈news,u.oneCell'=true:=λu hu=>by obtain⟨x,rfl⟩:=h1 u hu;rfl
 obtain⟨v',w',hr,h2,h3,h4⟩:=run_append_own (P:=P) w base t o.type e i (.int .u8 0) 1 1 ht hi hz hsize hby rfl (by decide) v n xs hown ad m c news hl hnews Gp h63 hbytes hbase;have OL:=mX (P:=P) w base t o.type e i ht hi hz hsize hby v n xs hown hf ad m c news hl hnews h1 h63 hbytes hr;have hd:=Go.AW.Cr P (Builtin.append_ #[t,t] o.type #[v,.slice (some ad) m c]) w #[];rw[Sem.runT_fst,hr] at hd
 unfold Oper.wp execOp;simp only[ho,resolve,invoke,builtin,Sem.run_bind,Sem.run_pure,Result.andThen_ok,zm,zc,zk,hs,hx,hr];exact hK _ _ (h v' w' h2 h3 hd OL)
end Go.Sq
namespace Go.Proofs.Ao
open Go.RowKit Go.Sq
def tZ:∀x:Fin 16,∀n:Fin 4,bits BinOp.or IntKind.u8 (x.val:Int) (2 ^ n.val % 256)=((x.val ||| 2 ^ n.val:Nat):Int):=by decide
def aes (A:Option Addr)(c:Nat)(l:List Int)(w:World)(B:Nat)(h:RI w B A l)(hl:l.length<=4611686018427387904)(hx:∀x∈l,0<=x/\x<4) :
  Calls An 65 #[.slice A l.length c] w λe w'=>e=.returned (.int .u8 (Hw l))/\w=w':=by
 have HR:=xf h;have HX:=xf hx;clear h hx;go_enter Sq.func65,Tryz.ntmps65;go_wp2;go_loop [3,8] (λs i=>∃k:Nat,k<=l.length/\i=.int .i64 k/\s=.int .u8 (Hw (l.take k))) (λ_ i=>l.length-(intOf i).toNat)
 case atStart=>exact⟨0,by omega,rfl,rfl⟩
 case round =>
  obtain⟨k,hk,rfl,rfl⟩:=hrel;by_cases hlt:k<l.length
  .obtain⟨b,o,rfl,hb,hc⟩:=HR.out.at_ hlt;have HS:=xf (rD l k hlt);obtain⟨n,hn,Yl⟩:∃n:Nat,l[k]?.getD 0=n/\n<4:=by
    obtain⟨h1,h2⟩:=HX.out _ (Dd l k hlt);exact⟨(l[k]?.getD 0).toNat,by omega,by omega⟩
   rw[hn] at hc;have HN:=xf hn;clear hn;have He:Hw (l.take k)<16:=pV _ λy hy=>HX.out y (za hy);have HO:=xf (show bits BinOp.or IntKind.u8 ((Hw (l.take k):Nat):Int) (2 ^ n % 256)=((Hw (l.take k) ||| 2 ^ n:Nat):Int) from tZ ⟨_,He⟩ ⟨n,Yl⟩);have Jy:=xf (show Hw (l.take (k+1))=Hw (l.take k) ||| 2 ^ n by rw[HS.out,HN.out];rfl);clear HS;generalize Hw (l.take k)=x at HO Jy He;go_wp2;go_round
   case rel=>exact⟨k+1,by omega,by go_num,by rw[Jy.out];exact congrArg (Value.int .u8) HO.out⟩
   case measure=>simp[intOf];omega
  .have D6:k=l.length:=by omega
   have HS:=xf (show Hw (l.take k)=Hw l by rw[xN (by omega)]);clear D6;go_wp2;go_ret;exact⟨ao (by rw[HS.out]),rfl⟩
def Ai:(An.info? 70).map (λi=>(i.zero,i.size,i.bytes))=some (some (.int .u8 0),1,1):=by
 rw[zJ];kernel_rfl
def Lk (k:Nat):List Value:=(List.range k).map λi:Nat=>.int .u8 (i:Int)
def qz (k:Nat):Lk (k+1)=Lk k++[.int .u8 k]:=by simp[Lk,yZ]
def qA (N:Nat)(R:Value->World->World->Prop):Prop:=∀(W:World) (g cap B:Nat),W.ownsRow B 70 1 (.slice (some ⟨g,0,none⟩) N cap) N (Lk N) ->
 Calls An 84 #[.slice (some ⟨g,0,none⟩) N cap,.func (.func 85) #[] #[]] W λe W'=>e=.returned (.tuple #[])/\R (.slice (some ⟨g,0,none⟩) N cap) W W'
def nP (nA hA:Option Addr)(nc hc nn m:Nat)(w:World)(hm:m<=4){R:Value->World->World->Prop}(hs:qA (2 ^ m) R) :
  Calls An 54 #[.agg #[.slice nA nn nc,.slice hA m hc]] w λe w'=>e=.returned (.pointer (some ⟨w.heap.size+1,0,none⟩))/\∃(g cap:Nat) (W:World),R (.slice (some ⟨g,0,none⟩) (2 ^ m) cap) W w'/\w.heap.size+2<=g/\Gr w W/\w.heap.size+1<W.heap.size /\
   W.cell? ⟨w.heap.size+1,0,none⟩=some (.slice nA nn nc)/\W.cell? ⟨w.heap.size+1,1,none⟩=some (.slice hA m hc)/\W.cell? ⟨w.heap.size+1,2,none⟩=some (.slice (some ⟨g,0,none⟩) (2 ^ m) cap) /\
   W.ownsRow (w.heap.size+2) 70 1 (.slice (some ⟨g,0,none⟩) (2 ^ m) cap) (2 ^ m) (Lk (2 ^ m)) /\
   Dz W (.slice (some ⟨g,0,none⟩) (2 ^ m) cap)/\W.heap[w.heap.size+1]?=some (.cells #[.slice nA nn nc,.slice hA m hc,.slice (some ⟨g,0,none⟩) (2 ^ m) cap] 127 (0,0)):=by
 obtain⟨i0,hi,hz0,hz1,hz2⟩:=info_parts Ai;have Nc:=xf hs;clear hs;have VX:((2:Int) ^ m % 256)=((2 ^ m:Nat):Int)/\2 ^ m<=16/\1<=2 ^ m:=by
  have:m=0\/m=1\/m=2\/m=3\/m=4:=by omega
  rcases this with rfl|rfl|rfl|rfl|rfl<;>decide
 obtain⟨Gu,Mb,hp3⟩:=VX;generalize 2 ^ m=N at Gu Mb hp3 Nc ⊢;have HP:=xf Gu;clear Gu;go_enter Sq.func54,Tryz.ntmps54;go_wp2;rw[HP.out]
 go_loopw [13] (λi wr=>∃k:Nat,k<=N/\i=.int .u8 k/\∃v,wr.cell? ⟨w.heap.size+1,0,none⟩=some (.slice nA nn nc)/\wr.cell? ⟨w.heap.size+1,1,none⟩=some (.slice hA m hc)/\wr.cell? ⟨w.heap.size+1,2,none⟩=some v/\wr.frozen? ⟨w.heap.size+1,2,none⟩=false /\
  wr.ownsRow (w.heap.size+2) 70 1 v k (Lk k)/\Gr w wr/\w.heap.size+2<=wr.heap.size/\Dz wr v/\wr.heap[w.heap.size+1]?=some (.cells #[.slice nA nn nc,.slice hA m hc,v] 127 (0,0))) (λi _=>N-(intOf i).toNat)
 case atStart =>
  refine⟨0,by omega,rfl,.slice none 0 0,?_,?_,?_,?_,xZ _ _ _ _,((Gr.refl w).alloc _).alloc _,by simp,Dz.nil _,?_⟩
  .rw[xj _ _ _ _ (by simp)];rfl
  .rw[xj _ _ _ _ (by simp)];rfl
  .rw[xj _ _ _ _ (by simp)];rfl
  .rw[xX _ _ _ _ (by simp)]
  .have e1:∀A:Obj,w.heap.size+1=(w.alloc A).heap.size:=λA=>by simp
   rw[e1 (.cells #[.slice nA nn nc,.slice hA m hc] 25)];exact heap_alloc_new _ _
 case round =>
  obtain⟨k,hk,rfl,v,h0,h1,h2,hfz,hown,hgr,hsz,OL,M7⟩:=hrel;have HFL:=xf OL;have HOB:=xf M7;clear OL M7;have HG:=xf hgr;clear hgr;by_cases hlt:k<N
  .have h0':=h0;have hfa:Dz (wr.alloc (.cells #[.int .u8 k] 70)) v:=HFL.out.keep λa n c e=>heap_alloc_old wr _ (hown.lt a.block (by rw[e];rfl)).2;go_wp2_with (at_builtin;refine gX rfl _ _ 125 rfl (w.heap.size+2) 70 i0 Sq.underlying125 hi hz0 hz1 hz2 _ _ _ rfl (hown.alloc _) hfa ⟨wr.heap.size,0,none⟩ 1 1 [.int .u8 k] rfl rfl ?c1 ?c2 ?c3 ?c4 ?c5 ?_)
   case c1 =>
    intro j u hj
    match j,hj with
    |0,hj=>simp at hj;subst hj;simp[Addr.add]
   case c2=>intro u hu;simp at hu;subst hu;exact⟨_,rfl⟩
   case c3=>unfold maxLen;omega
   case c4=>omega
   case c5=>simp;omega
   intro v' w1 hown' hgrow hd ZM;have aet:=xf ZM;clear ZM;obtain⟨g',cap',rfl⟩:=ownsRow_succ hown';have hne:some (w.heap.size+1)≠v.ownBlock:=λh=>by have:=(hown.lt _ h.symm).1;omega
   have k0:w1.cell? ⟨w.heap.size+1,0,none⟩=some (.slice nA nn nc):=hgrow.cell ((xI _ _ _ (by show w.heap.size+1<_;omega)).trans h0) hne;have k1:w1.cell? ⟨w.heap.size+1,1,none⟩=some (.slice hA m hc):=hgrow.cell ((xI _ _ _ (by show w.heap.size+1<_;omega)).trans h1) hne;have k2:w1.cell? ⟨w.heap.size+1,2,none⟩=some v:=hgrow.cell ((xI _ _ _ (by show w.heap.size+1<_;omega)).trans h2) hne;have kf:w1.frozen? ⟨w.heap.size+1,2,none⟩=false:=by
    rw[yV (w:=wr.alloc (.cells #[.int .u8 k] 70)) (hgrow.block (w.heap.size+1) (by simp;omega) hne)];exact(yF _ _ _ (by show w.heap.size+1<_;omega)).trans hfz
   have aeu:=xf ((hgrow.block (w.heap.size+1) (by simp;omega) hne).trans ((heap_alloc_old wr _ (by omega)).trans HOB.out));have Ch:=xf ((HG.out.alloc (.cells #[.int .u8 k] 70)).grown hgrow hd λj hj=>by have:=(hown.lt j hj).1;omega);have aev:w.heap.size+2<=w1.heap.size:=by have:=hgrow.size;simp at this;omega
   have HO:Hid (w1.ownsRow (w.heap.size+2) 70 1 (.slice (some ⟨g',0,none⟩) (k+1) cap') (k+1) (Lk (k+1))):=xf (by rw[qz];exact hown');clear hown' hgrow hown hd h0 h1 h2 hfz HG h0';go_wp2;go_roundw
   case rel =>
    refine⟨k+1,by omega,by go_num,_,(xq _ _ _ _ (by simp)).trans k0,(xq _ _ _ _ (by simp)).trans k1,xE _ _ _ k2,(yg _ _ _ _).trans kf,ownsRow_setCell_below HO.out (by show w.heap.size+1<_;omega) _,Ch.out.setCell (by show _<=w.heap.size+1;omega) _,by simpa using aev,aet.out.keep λa n c e=>?_,?_⟩
    .have hb:a.block=g':=by injection e with e1 _ _;injection e1 with e1;rw[<-e1]
     have hlt:=(HO.out.lt g' rfl).1;unfold World.setCell;simp only[ya];rw[if_neg (by omega)]
    .unfold World.setCell;simp only[ya,if_true,aeu.out]
     rfl
   case measure=>simp[intOf];omega
  .have hkN:k=N:=by omega
   subst hkN;obtain⟨m',rfl⟩:∃m',k=m'+1:=⟨k-1,by omega⟩;obtain⟨g,cap,rfl⟩:=ownsRow_succ hown;have HC:=xf (Nc.out wr g cap _ hown);have hg:=(hown.lt g rfl).1;have HO:=xf hown;clear hown;go_wp2_with fail;refine HC.out.mono ?_;rintro e w2 ⟨rfl,hR⟩;have HR:=xf hR;clear hR;go_wp2;go_ret;exact⟨rfl,g,cap,wr,HR.out,hg,HG.out,by omega,h0,h1,h2,HO.out,HFL.out,HOB.out⟩
open Go.Shelf
def aW {P:Program} {i:Nat} {f B:Func} (h:P.funcs[i]?=some f) (hn:(f.name == "runtime.NumGoroutine")=false) (hf:f={ B with name:=f.name }):Bears P i B:=⟨f.name,hn,h.trans (congrArg some hf)⟩
def Ad:Ren:=⟨λ|6=>84|15=>83|14=>129|28=>127|29=>128|20=>149|21=>150|22=>151|23=>152|24=>153|25=>154|26=>155|27=>156|46=>166|47=>145|48=>146|49=>167|50=>168|57=>169|n=>n,λ|22=>125|24=>70|25=>148|3=>3|39=>146|0=>0|53=>95|55=>60|4=>4|46=>179|45=>178|50=>183|5=>5|9=>9|66=>206|70=>209|76=>217|77=>79|n=>n,λn=>n⟩
def Aa:SlLaysF.n6 An Ad where
 mixed:=(congrArg (λt:Tables=>t.follows .mixedOrders) zJ).trans (by kernel_rfl)
 f6:=aW Sq.func84 (by decide +kernel) (by kernel_rfl)
 f14:=aW Sq.func129 (by decide +kernel) (by kernel_rfl)
 f15:=Sq.func83.trans (congrArg some (by kernel_rfl))
 f20:=aW Sq.func149 (by decide +kernel) (by kernel_rfl)
 f21:=aW Sq.func150 (by decide +kernel) (by kernel_rfl)
 f22:=aW Sq.func151 (by decide +kernel) (by kernel_rfl)
 f23:=aW Sq.func152 (by decide +kernel) (by kernel_rfl)
 f24:=aW Sq.func153 (by decide +kernel) (by kernel_rfl)
 f25:=aW Sq.func154 (by decide +kernel) (by kernel_rfl)
 f26:=aW Sq.func155 (by decide +kernel) (by kernel_rfl)
 f27:=aW Sq.func156 (by decide +kernel) (by kernel_rfl)
 f28:=Sq.func127.trans (congrArg some (by kernel_rfl))
 f29:=Sq.func128.trans (congrArg some (by kernel_rfl))
 f46:=aW Sq.func166 (by decide +kernel) (by kernel_rfl)
 f47:=Sq.func145.trans (congrArg some (by kernel_rfl))
 f48:=Sq.func146.trans (congrArg some (by kernel_rfl))
 f49:=aW Sq.func167 (by decide +kernel) (by kernel_rfl)
 f50:=aW Sq.func168 (by decide +kernel) (by kernel_rfl)
 f57:=aW Sq.func169 (by decide +kernel) (by kernel_rfl)
 t0:=(Sq.underlying 0).trans Tryz.underlying0
 a0:=λw=>(zE 0 w).trans (Tryz.isAgg0 w)
 z0:=λw=>(Sq.sizeOf 0 w).trans (Tryz.sizeOf0 w)
 v0:=λw=>(Sq.zeroValue 0 w).trans (Tryz.zeroValue0 w)
 t3:=(Sq.underlying 3).trans Tryz.underlying3
 a3:=λw=>(zE 3 w).trans (Tryz.isAgg3 w)
 z3:=λw=>(Sq.sizeOf 3 w).trans (Tryz.sizeOf3 w)
 v3:=λw=>(Sq.zeroValue 3 w).trans (Tryz.zeroValue3 w)
 t4:=(Sq.underlying 4).trans Tryz.underlying4
 a4:=λw=>(zE 4 w).trans (Tryz.isAgg4 w)
 z4:=λw=>(Sq.sizeOf 4 w).trans (Tryz.sizeOf4 w)
 v4:=λw=>(Sq.zeroValue 4 w).trans (Tryz.zeroValue4 w)
 t5:=(Sq.underlying 5).trans Tryz.underlying5
 a5:=λw=>(zE 5 w).trans (Tryz.isAgg5 w)
 z5:=λw=>(Sq.sizeOf 5 w).trans (Tryz.sizeOf5 w)
 v5:=λw=>(Sq.zeroValue 5 w).trans (Tryz.zeroValue5 w)
 t9:=(Sq.underlying 9).trans Tryz.underlying9
 a9:=λw=>(zE 9 w).trans (Tryz.isAgg9 w)
 z9:=λw=>(Sq.sizeOf 9 w).trans (Tryz.sizeOf9 w)
 v9:=λw=>(Sq.zeroValue 9 w).trans (Tryz.zeroValue9 w)
 t22:=(Sq.underlying 125).trans Tryz.underlying125
 a22:=λw=>(zE 125 w).trans (Tryz.isAgg125 w)
 z22:=λw=>(Sq.sizeOf 125 w).trans (Tryz.sizeOf125 w)
 v22:=λw=>(Sq.zeroValue 125 w).trans (Tryz.zeroValue125 w)
 a24:=λw=>(zE 70 w).trans (Tryz.isAgg70 w)
 z24:=λw=>(Sq.sizeOf 70 w).trans (Tryz.sizeOf70 w)
 t25:=(Sq.underlying 148).trans Tryz.underlying148
 a25:=λw=>(zE 148 w).trans (Tryz.isAgg148 w)
 z25:=λw=>(Sq.sizeOf 148 w).trans (Tryz.sizeOf148 w)
 v25:=λw=>(Sq.zeroValue 148 w).trans (Tryz.zeroValue148 w)
 t39:=(Sq.underlying 146).trans Tryz.underlying146
 a39:=λw=>(zE 146 w).trans (Tryz.isAgg146 w)
 z39:=λw=>(Sq.sizeOf 146 w).trans (Tryz.sizeOf146 w)
 v39:=λw=>(Sq.zeroValue 146 w).trans (Tryz.zeroValue146 w)
 t45:=(Sq.underlying 178).trans Tryz.underlying178
 a45:=λw=>(zE 178 w).trans (Tryz.isAgg178 w)
 z45:=λw=>(Sq.sizeOf 178 w).trans (Tryz.sizeOf178 w)
 v45:=λw=>(Sq.zeroValue 178 w).trans (Tryz.zeroValue178 w)
 t46:=(Sq.underlying 179).trans Tryz.underlying179
 a46:=λw=>(zE 179 w).trans (Tryz.isAgg179 w)
 z46:=λw=>(Sq.sizeOf 179 w).trans (Tryz.sizeOf179 w)
 v46:=λw=>(Sq.zeroValue 179 w).trans (Tryz.zeroValue179 w)
 t50:=(Sq.underlying 183).trans Tryz.underlying183
 a50:=λw=>(zE 183 w).trans (Tryz.isAgg183 w)
 z50:=λw=>(Sq.sizeOf 183 w).trans (Tryz.sizeOf183 w)
 v50:=λw=>(Sq.zeroValue 183 w).trans (Tryz.zeroValue183 w)
 t53:=(Sq.underlying 95).trans Tryz.underlying95
 a53:=λw=>(zE 95 w).trans (Tryz.isAgg95 w)
 z53:=λw=>(Sq.sizeOf 95 w).trans (Tryz.sizeOf95 w)
 v53:=λw=>(Sq.zeroValue 95 w).trans (Tryz.zeroValue95 w)
 t55:=(Sq.underlying 60).trans Tryz.underlying60
 a55:=λw=>(zE 60 w).trans (Tryz.isAgg60 w)
 z55:=λw=>(Sq.sizeOf 60 w).trans (Tryz.sizeOf60 w)
 v55:=λw=>(Sq.zeroValue 60 w).trans (Tryz.zeroValue60 w)
 t66:=(Sq.underlying 206).trans Tryz.underlying206
 a66:=λw=>(zE 206 w).trans (Tryz.isAgg206 w)
 z66:=λw=>(Sq.sizeOf 206 w).trans (Tryz.sizeOf206 w)
 v66:=λw=>(Sq.zeroValue 206 w).trans (Tryz.zeroValue206 w)
 t70:=(Sq.underlying 209).trans Tryz.underlying209
 a70:=λw=>(zE 209 w).trans (Tryz.isAgg209 w)
 z70:=λw=>(Sq.sizeOf 209 w).trans (Tryz.sizeOf209 w)
 v70:=λw=>(Sq.zeroValue 209 w).trans (Tryz.zeroValue209 w)
 t76:=(Sq.underlying 217).trans Tryz.underlying217
 a76:=λw=>(zE 217 w).trans (Tryz.isAgg217 w)
 z76:=λw=>(Sq.sizeOf 217 w).trans (Tryz.sizeOf217 w)
 v76:=λw=>(Sq.zeroValue 217 w).trans (Tryz.zeroValue217 w)
 t77:=(Sq.underlying 79).trans Tryz.underlying79
 a77:=λw=>(zE 79 w).trans (Tryz.isAgg79 w)
 z77:=λw=>(Sq.sizeOf 79 w).trans (Tryz.sizeOf79 w)
 v77:=λw=>(Sq.zeroValue 79 w).trans (Tryz.zeroValue79 w)
end Go.Proofs.Ao
