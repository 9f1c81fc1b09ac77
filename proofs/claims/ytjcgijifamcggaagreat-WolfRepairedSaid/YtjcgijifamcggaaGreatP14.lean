/- Parts of the proof. -/
import Derived.Test.YtjcgijifamcggaaGreatP13
import Derived.Test.YtjcgijifamcggaaGreatP00
import Derived.Test.YtjcgijifamcggaaGreatP01
import Derived.Outline
import Derived.RangeFuncBox
import Derived.Shelf.SlSortCmp.Whole1
set_option linter.all false
set_option maxHeartbeats 3200000
set_option maxRecDepth 1000000
namespace Go.Proofs.YtjcgijifamcggaaGreat
open Go.RowKit Go.Bl Go.Co Go.Conc Go.ConcN
open Go.ConcR (WgAt wgBlock)
section
variable {SB Bu BB Z2 BB':FuncId->Bool} {Lu:Bool} {kx tl:Nat->Bool} {Kc:Nat->Prop} {Ok:World->Prop} {cb sb n c:Nat} {f:Fn} {fx fc:Array Value} {sets kind:Nat->Int} {C1:Nat->Bool} {oK oE:Nat->Obj}
 {Dead:Nat->Prop} {Kp:Fg} {x:Lone} {A:Goroutine} {W:World}
abbrev Fx (cb:Nat)(f:Fn)(fx fc:Array Value):Array Value:=#[.pointer (some ⟨cb,0,none⟩),.func f fx fc]
noncomputable def inner (kx tl:Nat->Bool)(cb:Nat)(f:Fn)(fx fc:Array Value)(x:Lone)(A:Goroutine):Lone :=
 ⟨Go.Bl.BU (Frame.enter Tryz.prog 58 (Fx cb f fx fc) .normal) [bad],(sink kx tl x.w).alloc (.coro none),H6 tl x.w,cut (λb=>kx b=true\/tl b=true) x.β,A.callers⟩
def jl:((sink kx tl x.w).alloc (.coro none)).heap.size=x.w.heap.size+1:=by rw[aE,dG]
def gM {b:Nat}(hb:b<x.w.heap.size):((sink kx tl x.w).alloc (.coro none)).heap[b]?=(sink kx tl x.w).heap[b]?:=by
 rw[aA,dG,if_neg (by omega)]
def Lv (I:Gd SB Bu BB x.w kx tl Kc Ok cb sb n c f fx fc sets kind C1 oK oE)(lib:∀H,Lib PP SB H true BB 0){cE:Code}(Tu:Tryz.f58.body=some cE)(Er:codeOk Tryz.prog Z2 Lu true cE=false)
  (ht:Tw PP Z2 BB' Lu 0 Dead Kp x A W) (hH:∀b,x.H b=false) {fr:Frame} {cs:List Frame} (hg:x.g=bQ PP 58 (Fx cb f fx fc) fr cs) :
  Ch PP SB BB true (inner kx tl cb f fx fc x A) A/\D6 PP SB true 0 (inner kx tl cb f fx fc x A) W/\(∀b,tl b=true->Ro (inner kx tl cb f fx fc x A).w b\/(inner kx tl cb f fx fc x A).H b=true)/\∀b,kx b=true->Ro (inner kx tl cb f fx fc x A).w b:=by
 have Cs:=ht.gl.top;rw[hg] at Cs;obtain⟨ARGS,eA,DU⟩:=Ls (fa:=Tryz.f58) (fb:=Tryz.f58) Tryz.func58 Tryz.func58 Tu Er rfl (by rw[Tryz.ntmps58];simp) Cs;have I3:AU (SP SB (H6 tl x.w)) (BK λb=>kx b=true\/tl b=true) (Fx cb f fx fc) (Fx cb f fx fc):=B9 λv hv=>by
  simp only[xC,xz,or_false] at hv;rcases hv with rfl|rfl
  .exact .ptr (.inl I.ks.1) _ _
  .exact I.FV _
 refine⟨⟨?_,.base,⟨rfl,ht.gl.status.2⟩,⟨rfl,ht.gl.dying.2⟩,⟨rfl,ht.gl.offers.2⟩⟩,⟨⟨λh1 h2=>ht.wl.Cn.fn h1.2 h2.2,λh1 h2=>ht.wl.Cn.inj h1.2 h2.2,λ_=>⟨xQ _,xQ _⟩⟩,⟨xQ _,xQ _⟩,?_,?_,?_,?_⟩,λb hb=>.inr (by simp[inner,hb]),λb hb=>?_⟩
 .rw[eA];exact B5 (P:=PP) (lib _) (.inl I.Yi) (DU.cut rfl I3) .normal (by decide)
 .rintro b B ⟨hk,hb⟩ hh;have F3:(tl b||b==x.w.heap.size)=false:=hh;simp only[ze] at F3;have hkx:kx b=true:=hk.resolve_right (by simp[F3.1]);obtain⟨e1,l,t,g,e2,e3,e4⟩:=I.Ym b hkx;obtain⟨o,O,q1,q2,q3⟩:=ht.wl.CQ b B hb (hH b);rw[e2] at q1;cases q1;have hlt:=I.lt (.inl hkx);cases q3 with
  |cells a z =>
   refine⟨_,_,(gM hlt).trans (fy e2 hkx e1),q2,.cells (a.cut rfl (B9 λv hv=>e4 v hv _)) λi h1 h2=>?_⟩;obtain⟨z1,z2⟩:=z i h1 h2;exact⟨xQ _,by simpa using e3 i z1 z2⟩
 .rintro b B ⟨hk,hb⟩ hh;have hlt:=I.lt hk;have F3:(tl b||b==x.w.heap.size)=true:=hh;have Kt:tl b=true:=by
   simp only[xV,beq_iff_eq] at F3;exact F3.resolve_right (by omega)
  refine⟨(gM hlt).trans (jO hlt Kt),λ_=>?_,λh=>by cases h⟩;obtain⟨e1,⟨l,t,g,e2,e3⟩,_⟩:=I.ZZ b Kt;obtain⟨o,O,q1,q2,q3⟩:=ht.wl.CQ b B hb (hH b);rw[e1,e2] at q1;cases q1;cases q3 with
  |cells a z=>exact⟨_,_,_,q2⟩
 .intro b hb;have hb':(tl b||b==x.w.heap.size)=true:=hb;show b<((sink kx tl x.w).alloc (.coro none)).heap.size;rw[jl];simp only[xV,beq_iff_eq] at hb';rcases hb' with h|h
  .have:=I.lt (.inr h);omega
  .omega
 .exact ht.wl.env
 .obtain⟨e1,l,t,g,e2,e3,e4⟩:=I.Ym b hb;exact⟨_,_,_,(gM (I.lt (.inl hb))).trans (fy e2 hb e1),λi hi=>⟨xQ _,hi⟩⟩
def Wj {p:Program}{H:Hid}{lets:Bool}{β:Bc}{g:FuncId}{a:Act}{ops:Array Oper}{l:List Nat}{k:List Item}{F:Frame}(h:Bf p SB H lets β ((base g).at a (.inRegion ops l::k)) F) :
  ∃(a':Act) (K:List Item),F=(base g).at a' (.inRegion ops l::K):=by
 obtain⟨h1,h2,h3,h4,h5,h6,h7,h8⟩:=h;obtain⟨f1,f2,f3,f4,f5,f6,f7⟩:=F;dsimp only[Frame.at,base] at h1 h2 h3 h4 h5 h6 h7 h8;subst h1 h6;cases h5;cases h8;cases h3 with
 |cons hi _ =>
  cases hi
  exact⟨⟨f2,f4⟩,_,rfl⟩
noncomputable abbrev gA (cb b2 b3:Nat)(p1:Value):Act:=⟨#[.pointer (some ⟨cb,0,none⟩),p1,.pointer (some ⟨b2,0,none⟩),.pointer (some ⟨b3,0,none⟩),undef,undef,undef,undef,undef,undef,undef,undef,undef,undef,undef,undef,undef,undef,undef,undef,undef,undef,undef,undef,undef,undef,undef],[]⟩
noncomputable abbrev kA:List Item:=[.code (.seq (.seq (.region 2 o2 false) (.block 0 (.loop eL))) (.region 10 II false))]
def boxed (w:World)(cb:Nat)(p1:Value):World:=(w.alloc (.cells #[.pointer (some ⟨cb,0,none⟩)] 49)).alloc (.cells #[p1] 119)
def QA (cb:Nat)(p1:Value)(w0:World)(g:Goroutine)(w:World):Prop:=g=G ((base 58).at (gA cb w0.heap.size (w0.heap.size+1) p1) (.inRegion o1 [0]::kA)) [bad]/\Bh (boxed w0 cb p1) w
def MH {P:Bw}{lets:Bool}(hBB:BB 58=true){x:Lone}{a:Goroutine}{W:World}{cb b2 b3 b4:Nat}{p1:Value}(hg:x.g=G ((base 58).at (gA cb b2 b3 p1) (.inRegion o1 [0]::kA)) [bad])(IJ:Ch P SB BB lets x a)
  {β:Bc} (hle:x.β.le β) (hb4:β b4 W.heap.size) :
  ∃a',stepG Tryz.prog true a W=.go a' (W.alloc (.cells #[.int .u64 0,.int .u32 0] 159)) #[]/\Ch P SB BB lets ⟨G ((base 58).at ((gA cb b2 b3 p1).put (some 4) (.pointer (some ⟨b4,0,none⟩))) (.inRegion o1 []::kA)) [bad],x.w,x.H,β,x.T⟩ a':=by
 have Cs:=IJ.top.Gb (by rw[hg];exact hBB);have hcs:=IJ.callers;have ea:=gK IJ;rw[hg] at Cs hcs;obtain⟨A,K,eA⟩:=Wj Cs;refine⟨_,by rw[ea,eA];exact ot,?_⟩;have hf:=ba (Cs.mono hle) (v:=.pointer (some ⟨b4,0,none⟩)) (V:=.pointer (some ⟨W.heap.size,0,none⟩)) (.ptr 0 none hb4);rw[eA] at hf;have e1:(o1[0]?).bind (·.dst)=some 4:=rfl;change Bf _ _ _ _ _ (((base 58).at (gA cb b2 b3 p1) (.inRegion o1 [0]::kA)).finish _) _ at hf
 rw[Frame.finish_at,Frame.finish_at,e1] at hf;exact⟨.on hf,hcs.mono λc C h=>h.mono hle,⟨rfl,rfl⟩,⟨rfl,rfl⟩,⟨rfl,rfl⟩⟩
def tU {cb:Nat}{p1:Value}{w0:World}(g:Goroutine)(w W:World)(h:Bh w W)(q:QA cb p1 w0 g w):QA cb p1 w0 g W:=⟨q.1,q.2.trans h⟩
def oB (hB:BB 58=true){w:World}:AZ Tryz.prog (B8 Tryz.prog BB) (QA cb (.func f fx fc) w) (Go.Bl.BU (Frame.enter Tryz.prog 58 (Fx cb f fx fc) .normal) [bad]) w :=
 tM hB tU (by simp) (.fin ⟨rfl,rfl,rfl,rfl⟩)
def bf (w:World)(p1:Value)(b:Nat):(D7 kx tl w cb p1).heap[b]?=if b=w.heap.size+2 then some (.cells #[p1] 119 (0,1)) else if b=w.heap.size+1 then some (.cells #[.pointer (some ⟨cb,0,none⟩)] 49 (0,1)) else if b=w.heap.size then some (.coro none) else(sink kx tl w).heap[b]?:=by
 have z:=dG kx tl w;have g:∀b,((((sink kx tl w).alloc (.coro none)).alloc (.cells #[.pointer (some ⟨cb,0,none⟩)] 49)).alloc (.cells #[p1] 119)).heap[b]?=if b=w.heap.size+2 then some (.cells #[p1] 119) else if b=w.heap.size+1 then some (.cells #[.pointer (some ⟨cb,0,none⟩)] 49) else if b=w.heap.size then some (.coro none) else(sink kx tl w).heap[b]?:=λb=>by
  rw[aA,aE,aE,aA,aE,aA,z]
 unfold D7;by_cases h2:b=w.heap.size+2
 .subst h2;rw[if_pos rfl];exact cR (c:=#[p1]) (t:=119) (f:=(0,0)) (by rw[ey _ (by omega),g,if_pos rfl])
 .rw[if_neg h2,ey _ h2];by_cases h1:b=w.heap.size+1
  .subst h1;rw[if_pos rfl];exact cR (c:=#[.pointer (some ⟨cb,0,none⟩)]) (t:=49) (f:=(0,0)) (by rw[g,if_neg (by omega),if_pos rfl])
  .rw[if_neg h1,ey _ h1,g,if_neg h2,if_neg h1]
def dC (w:World)(p1:Value):(D7 kx tl w cb p1).heap.size=w.heap.size+3:=by
 unfold D7;rw[cC,cC,aE,aE,aE,dG]
def p8 (w:World)(p1:Value):(D7 kx tl w cb p1).os=w.os:=by
 unfold D7;rw[fL,fL];rfl
def oC (I:Gd SB Bu BB x.w kx tl Kc Ok cb sb n c f fx fc sets kind C1 oK oE):Head SB (H6 tl x.w) 0 (Me kx tl x.w) Ok (Me kx tl x.w) (D7 kx tl x.w cb (.func f fx fc)):=by
 have hk:∀b,kx b=true\/tl b=true->b<x.w.heap.size:=λb h=>I.lt h;refine⟨λ_ h=>h,λb hb hh=>?_,λb hb hh=>?_,λ_ _=>xQ _,λb hb=>?_,λb hb=>?_,xQ _,I.ok⟩
 .have F3:(tl b||b==x.w.heap.size)=false:=hh;simp only[ze,beq_eq_false_iff_ne] at F3;rw[bf];unfold Ro;rw[bf];rcases hb with h|h|h|h|h
  .have hl:=hk b (.inl h);obtain⟨e1,l,t,g,e2,e3,e4⟩:=I.Ym b h;rw[if_neg (by omega),if_neg (by omega),if_neg (by omega),fy e2 h e1];exact⟨⟨_,_,_,rfl,λi hi=>⟨xQ _,hi⟩⟩,_,rfl,.cells (B9 λv hv=>(e4 v hv _).mono λb hb=>hb.elim .inl λh=>.inr (.inl h)) λi h1 h2=>⟨h1,h2⟩⟩
  .rw[F3.1] at h;cases h
  .exact absurd h F3.2
  .subst h;rw[if_neg (by omega),if_pos rfl]
   exact⟨⟨_,_,_,rfl,λi hi=>⟨xQ _,hi⟩⟩,_,rfl,.cells (B9 (l:=[_]) λv hv=>by
    simp only[xC,xz,or_false] at hv;subst hv
    exact .ptr (.inl I.ks.1) _ _) λi h1 h2=>⟨h1,h2⟩⟩
  .subst h;rw[if_pos rfl]
   exact⟨⟨_,_,_,rfl,λi hi=>⟨xQ _,hi⟩⟩,_,rfl,.cells (B9 (l:=[_]) λv hv=>by
    simp only[xC,xz,or_false] at hv;subst hv
    exact(I.FV _).mono λb hb=>hb.elim .inl λh=>.inr (.inl h)) λi h1 h2=>⟨h1,h2⟩⟩
 .have F3:(tl b||b==x.w.heap.size)=true:=hh;simp only[xV,beq_iff_eq] at F3;rw[bf];rcases F3 with h|h
  .have hl:=hk b (.inr h);rw[if_neg (by omega),if_neg (by omega),if_neg (by omega),jO hl h]
  .subst h;rw[if_neg (by omega),if_neg (by omega),if_pos rfl]
 .rw[dC];rcases hb with h|h|h|h|h
  .have:=hk b (.inl h);omega
  .have:=hk b (.inr h);omega
  all_goals omega
 .have hb':(tl b||b==x.w.heap.size)=true:=hb;simp only[xV,beq_iff_eq] at hb';rw[dC];rcases hb' with h|h
  .have:=hk b (.inr h);omega
  .omega
def oF (tpn:Bool)(oK oE:Nat->Obj):Nat->Obj:=if tpn then oK else oE
def J1 {sl:Option (Nat×Nat)}{gs:Array Goroutine}{t:Trace}{q:Nat->Nat}(I:Gd SB Bu BB x.w kx tl Kc Ok cb sb n c f fx fc sets kind C1 oK oE)(lib:∀H,Lib PP SB H true BB 0){cE:Code}(Tu:Tryz.f58.body=some cE)(Er:codeOk Tryz.prog Z2 Lu true cE=false)
  {L:Lib.WgLink} (Wl:Lib.WgLib Tryz.prog L) (h91:L.add=92) (h94:L.wait=95) (Md:L.done=94) (hT:L.tWg=159) (bA:Go.Co.Barred PP SB true L.add (Lib.addFn L)) (bW:Go.Co.Barred PP SB true L.wait (Lib.waitFn L)) (bD:Go.Co.Barred PP SB true L.done (Lib.doneFn L))
  (hb:Gy Tryz.prog Dead gs W t q) (ht:Tw PP Z2 BB' Lu 0 Dead Kp x A W) (h0:gs[0]?=some A) {fr:Frame} {cs:List Frame} (hg:x.g=bQ PP 58 (Fx cb f fx fc) fr cs) (hc:ew fr) (hH:∀b,x.H b=false)
  (UL:∀b,kx b=true\/tl b=true->∃B,x.β b B) (hKp:∀b B,x.β b B->tl b=true->¬Kp.at_ B) (JH:gs.size+n<=2147483647) :
  ∃N m' t',runNT Tryz.prog N (crowd gs W sl) t=(.next m',t')/\∃gs' W' sl' q' A' EO,m'=crowd gs' W' sl'/\gs'[0]?=some A'/\gs'.size<=gs.size+n/\Gy Tryz.prog EO gs' W' t' q' /\
   Tw PP Z2 BB' Lu 0 EO Kp ⟨back fr cs,EN tl (oF (C1 n) oK oE) x.w,x.H,x.β,x.T⟩ A' W'/\(W'.os=W.os/\W'.output=W.output)/\W.heap.size<=W'.heap.size/\∀B,EO B->Dead B\/W.heap.size<=B:=by
 obtain⟨s1,s2,s3,s4⟩:=Lv I lib Tu Er ht hH hg;have hcs:=ht.gl.callers;rw[hg] at hcs;obtain⟨FR,CS,V5,r1,r2⟩:=GV hcs hc;have Kv:∀b B,x.β b B->¬Dead B:=λb B hb hd=>by have:=ht.dead b B hb hd;rw[hH] at this;cases this
 have Wk:∀b B,x.β b B->b<x.w.heap.size/\B<W.heap.size:=λb B h=>ht.wl.lt h;have CZ:∀b,kx b=true\/tl b=true->b<x.w.heap.size:=λb h=>I.lt h;have Z3:((sink kx tl x.w).alloc (.coro none)).heap.size=x.w.heap.size+1:=jl;have kx0:∀b B,(inner kx tl cb f fx fc x A).β b B->(inner kx tl cb f fx fc x A).H b=true\/Ro (inner kx tl cb f fx fc x A).w b:=λb B hb=>hb.1.elim (λh=>.inr (s4 b h)) λh=>.inl (by simp[inner,h])
 obtain⟨N1,m1,t1,hr1,J0,W1,NZ,q1,x1,a1,rfl,g1,z1,b1,tw1,Q1,eH1,eT1,OL,os1,sz1,sz1',Z4⟩:=Ii (P:=PP) (SB:=SB) (BB:=BB) (lets:=true) (Gn:=0) (Dead:=Dead) (Kp:=⟨λB=>B<W.heap.size,W,0⟩) lib
  (H:=H6 tl x.w) (T:=A.callers) (β:=cut (λb=>kx b=true\/tl b=true) x.β) (Q:=QA cb (.func f fx fc) ((sink kx tl x.w).alloc (.coro none))) (os:=W.os) (ou:=W) (n:=gs.size) (b0:=x.w.heap.size+1) (B0:=W.heap.size) _ (crowd gs W sl) t
  ⟨gs,W,sl,q,inner kx tl cb f fx fc x A,A,rfl,h0,rfl,hb,⟨s1,s2,rfl,λb B hb hd=>absurd hd (Kv b B hb.2),λB hB=>⟨hB,rfl⟩,λb B hb _=>kx0 b B hb⟩,oB I.hB,rfl,rfl,Bc.le_refl _,⟨rfl,rfl⟩,⟨xp _,yP Z3.symm,λb B h=>.inl h⟩,rfl⟩
 obtain⟨Q1g,Q1w⟩:=Q1;rw[Z3] at Q1g;obtain⟨N2,m2,t2,hr2,Yg,d2,Tn,q2,st2,g2,z2,b2⟩:=JZ (P:=PP) (sl:=NZ) b1 g1 tw1.gl.status.2;obtain⟨W2,hW2⟩:∃W2,W2=W1.at d2:=⟨_,rfl⟩;have Z5:=tw1.at d2;rw[<-hW2] at st2 b2 Z5;have W2h:W2.heap=W1.heap:=by rw[hW2];rfl
 have W2o:W2.os=W1.os/\W2.output=W1.output:=by rw[hW2];exact⟨rfl,rfl⟩
 have Wn:∀b B,tl b=true->(x1.β b B↔x.β b B):=λb B h=>by
  obtain⟨B',hB'⟩:=UL b (.inr h);have h1:=OL b B' ⟨.inr h,hB'⟩;exact⟨λh2=>by rw[tw1.wl.Cn.fn h2 h1];exact hB',λh2=>OL b B ⟨.inr h,h2⟩⟩
 have UM:∀B,¬x1.β x.w.heap.size B:=λB h=>by
  rcases Z4 _ _ h with h|h
  .have:=CZ _ h.1;omega
  .omega
 have lt1:∀b B,x1.β b B->B<W2.heap.size:=λb B h=>by rw[W2h];exact(tw1.wl.lt h).2
 have Z6:∀b B,x1.β b B->B<W.heap.size->x.β b B/\(kx b=true\/tl b=true):=λb B h hB=>by
  rcases Z4 _ _ h with h|h
  .exact⟨h.2,h.1⟩
  .omega
 obtain⟨Dh,Tv⟩:∃Dh,Dh=more x1.β x.w.heap.size W2.heap.size:=⟨_,rfl⟩;have Te:x1.β.le Dh:=by rw[Tv];exact nd _ _ _
 have Z7:∀b B,Dh b B->x1.β b B\/(b=x.w.heap.size/\B=W2.heap.size):=λb B h=>by rw[Tv] at h;exact h
 have PX:Dh x.w.heap.size W2.heap.size:=by rw[Tv];exact .inr ⟨rfl,rfl⟩
 obtain⟨A3,st3,gl3⟩:=MH I.hB Q1g Z5.gl Te PX;obtain⟨W3,hW3⟩:∃W3,W3=W2.alloc (.cells #[.int .u64 0,.int .u32 0] 159):=⟨_,rfl⟩;rw[<-hW3] at st3;have Z8:∀B,B<W2.heap.size->W3.heap[B]?=W2.heap[B]?:=λB h=>by rw[hW3,aA,if_neg (by omega)]
 have ae3:W3.heap.size=W2.heap.size+1:=by rw[hW3,aE]
 have Z9:W3.os=W2.os/\W3.output=W2.output:=by rw[hW3];exact⟨rfl,rfl⟩
 obtain⟨gs3,ae4,z3,g3,lv3⟩:=b2.ZY (P:=PP) (sl:=Tn) g2 st3;have hr3:runNT Tryz.prog (N1+(N2+1)) (crowd gs W sl) t=(.next (crowd gs3 W3 Tn),t2):=by
  have e1:runNT Tryz.prog N1 (crowd gs W sl) t=(.next (crowd J0 W1 NZ),t1):=hr1;have e2:runNT Tryz.prog N2 (crowd J0 W1 NZ) t1=(.next m2,t2):=hr2;have e3:stepT Tryz.prog m2=(.next (crowd gs3 W3 Tn),#[]):=st2.trans ae4;rw[cD e1,cD e2,ni e3,Array.append_empty]
 have wl3:BF (SP SB (H6 tl x.w)) (CK Tryz.prog SB true) 0 Dh (D7 kx tl x.w cb (.func f fx fc)) W3:=by
  have e1:BF (SP SB (H6 tl x.w)) (CK Tryz.prog SB true) 0 x1.β x1.w W2:=by have:=Z5.wl;rw[D6,eH1] at this;exact this
  have bx:∀b,x1.w.heap[b]?=if b=x.w.heap.size+2 then some (.cells #[.func f fx fc] 119) else if b=x.w.heap.size+1 then some (.cells #[.pointer (some ⟨cb,0,none⟩)] 49) else if b=x.w.heap.size then some (.coro none) else(sink kx tl x.w).heap[b]?:=λb=>by
   rw[Q1w.1,boxed,aA,aE,Z3,aA,Z3,aA,dG]
  have e2:=pZ (c:=#[.int .u64 0,.int .u32 0]) (ty:=159) (f:=(0,0)) e1 (b:=x.w.heap.size) UM (by simp) rfl (by rw[bx,if_neg (by omega),if_neg (by omega),if_pos rfl]) (xQ _);rw[<-Tv] at e2;rw[hW3];refine p7 e2 ?_ ?_ λb=>?_
  .rw[dC,Q1w.1,boxed,aE,aE,Z3]
  .rw[p8,Q1w.2.1];rfl
  .rw[bf,bx];by_cases h2:b=x.w.heap.size+2
   .rw[if_pos h2,if_pos h2];exact .inr ⟨_,_,_,_,rfl,rfl,λi h1 h2=>by simp at h2⟩
   .rw[if_neg h2,if_neg h2];by_cases h1:b=x.w.heap.size+1
    .rw[if_pos h1,if_pos h1];exact .inr ⟨_,_,_,_,rfl,rfl,λi h1 h2=>by simp at h2⟩
    .rw[if_neg h1,if_neg h1];exact .inl rfl
 obtain⟨Toy,JL⟩:∃Toy:Nat->Prop,Toy=λB=>∃b,tl b=true/\x.β b B:=⟨_,rfl⟩;obtain⟨Pr,JK⟩:∃Pr:Bc,Pr=cut (Me kx tl x.w) Dh:=⟨_,rfl⟩;have Nj:∀B,Toy B->B<W.heap.size:=λB h=>by rw[JL] at h;obtain⟨b,_,h⟩:=h;exact(Wk _ _ h).2
 have W23:W2.heap.size=W1.heap.size:=by rw[W2h]
 have n0:∀b,kx b=true\/tl b=true->b≠x.w.heap.size:=λb h e=>by have:=CZ b h;omega
 have Tx:∀b B,tl b=true->(Dh b B↔x.β b B):=λb B h=>⟨λh3=>by
  rcases Z7 b B h3 with h4|h4
  .exact(Wn b B h).1 h4
  .exact absurd h4.1 (n0 b (.inr h)),λh3=>Te _ _ ((Wn b B h).2 h3)⟩
 have Wo:∀b B,Dh b B->Toy B->tl b=true:=λb B h hB=>by
  have hlt:=Nj B hB;rw[JL] at hB;obtain⟨b',h1,h2⟩:=hB;rcases Z7 b B h with h4|h4
  .have h5:=(Z6 b B h4 hlt).1;rw[ht.wl.Cn.inj h5 h2];exact h1
  .omega
 have C:=I.ctx (β:=x.β) (Pr:=Pr) (T:=A.callers) (Toy:=Toy) (Wg:=W2.heap.size) lib Wl Md hT bD (λb B h1 h2=>by rw[JK] at h1;rw[JL];exact⟨b,h2,(Tx b B h2).1 h1.2⟩)
  (λb h=>by obtain⟨B,hB⟩:=UL b (.inr h);exact⟨B,by rw[JK];exact⟨.inr (.inl h),(Tx b B h).2 hB⟩⟩) (λb B h=>by rw[JK] at h;exact h.1) (by rw[JK];exact⟨.inr (.inr (.inl rfl)),PX⟩) (λh=>by have:=Nj _ h;omega)
  (λb B h=>by rw[JK];exact⟨λh1=>(Tx b B h).1 h1.2,λh1=>⟨.inr (.inl h),(Tx b B h).2 h1⟩⟩)
 have OO:=oC I;have sw:∀b,b<x.w.heap.size+3->(D7 kx tl x.w cb (.func f fx fc)).heap[b]?≠none:=λb hb=>by rw[Ne,Array.getElem?_eq_none_iff,dC];omega
 have scr : VW PP SB BB true 0 159 W2.heap.size Toy (Ku x.β tl oK) (Ku x.β tl oE) 92 95 x.w.heap.size Pr A.callers (FnE BB tl x.w (C1 n)) n true (H6 tl x.w)
   (G ((base 58).at ((gA cb (x.w.heap.size+1) (x.w.heap.size+1+1) (.func f fx fc)).put (some 4) (.pointer (some ⟨x.w.heap.size,0,none⟩))) (.inRegion o1 []::kA)) [bad]) (D7 kx tl x.w cb (.func f fx fc)):=by
  obtain⟨e1,v,e2⟩:=I.hold _ I.ok;refine tN I.hB (cS C.Lr n) (by simp) (I.NY _ I.ok) e1 e2 ?_
  have:=r6 C (λb B h=>by rw[JK] at h;exact h.1) n 0 (by omega) (Me kx tl x.w) _ OO undef undef undef (.pointer (some ⟨cb,0,none⟩)) (.pointer (some ⟨cb,0,none⟩)) (.pointer (some ⟨cb,2,none⟩)) undef undef undef undef undef undef undef undef undef undef undef undef undef (λv hv=>by
   simp only[xC,xz,or_false] at hv
   rcases hv with rfl|rfl|rfl|rfl|rfl|rfl|rfl|rfl|rfl|rfl|rfl<;>first|exact AO.undef _ _|exact .ptr (.inl I.ks.1) _ _)
  rw[I.tp0] at this;exact this
 have aab:=Z5.keep;have aac:∀B,B<W.heap.size->W3.heap[B]?=W.heap[B]?:=λB hB=>by
  obtain⟨h1,h2⟩:=aab B hB;rw[Z8 B h1];exact h2
 have aad:W3.os=W.os/\W3.output=W.output:=⟨Z9.1.trans (W2o.1.trans os1.1),Z9.2.trans (W2o.2.trans os1.2)⟩;obtain⟨x3,hx3⟩:∃x3:Lone,x3=⟨G ((base 58).at ((gA cb (x.w.heap.size+1) (x.w.heap.size+1+1) (.func f fx fc)).put (some 4) (.pointer (some ⟨x.w.heap.size,0,none⟩))) (.inRegion o1 []::kA)) [bad],D7 kx tl x.w cb (.func f fx fc),H6 tl x.w,Dh,A.callers⟩:=⟨_,rfl⟩;have ae5:Ch PP SB BB true x3 A3:=by rw[hx3];rw[eH1,eT1] at gl3;exact gl3
 have b3:x3.β=Dh:=by rw[hx3]
 have H3:x3.H=H6 tl x.w:=by rw[hx3]
 have wg3:∀b,Dh b W2.heap.size->(H6 tl x.w).at_ b=true:=λb hb=>by
  rcases Z7 _ _ hb with h|h
  .have:=lt1 _ _ h;omega
  .simp[h.1]
 have nd3:∀b B,Dh b B->¬Dead B:=λb B hb hd=>by
  rcases Z7 _ _ hb with h|h
  .have h1:=Z5.dead b B h hd;rw[eH1] at h1;simp only[xV,beq_iff_eq] at h1;rcases h1 with h1|rfl
   .exact Kv b B ((Wn b B h1).1 h) hd
   .exact UM _ h
  .have:=b2.low B hd;omega
 have Wp:∀b B,Dh b B->B<W.heap.size->(H6 tl x.w).at_ b=true\/Ro (D7 kx tl x.w cb (.func f fx fc)) b:=λb B hb hB=>by
  rcases Z7 _ _ hb with h|h
  .rcases(Z6 b B h hB).2 with h|h
   .have hl:=CZ b (.inl h);obtain⟨q1,l,ty,g,q2,q3,q4⟩:=I.Ym b h;refine .inr ?_;unfold Ro;rw[bf,if_neg (by omega),if_neg (by omega),if_neg (by omega),fy q2 h q1];exact⟨_,_,_,rfl,λi hi=>⟨xQ _,hi⟩⟩
   .exact .inl (by simp[h])
  .exact .inl (by simp[h.1])
 have aae:Ku x.β tl oK W3:=λb B hb h=>by
  obtain⟨o,O,p1,p2,p3⟩:=ht.wl.CQ b B hb (hH b);obtain⟨q1,q2,_⟩:=I.ZZ b h;rw[q1] at p1;cases p1;exact⟨O,(aac B (Wk b B hb).2).trans p2,λS Ck AQ=>q2.rel p3⟩
 obtain⟨μ,hinv⟩:=Ln (P:=PP) (SB:=SB) (BB:=BB) (lets:=true) (Gn:=0) (ty:=159) (Wg:=W2.heap.size) (Dead:=Dead) (Toy:=Toy) (Kp:=⟨λB=>B<W.heap.size/\¬Toy B,W,gs.size+n⟩) (Ψ0:=Ku x.β tl oK) (Ψ2:=Ku x.β tl oE) (fA:=92) (fW:=95) (wl:=x.w.heap.size) (Pr:=Pr) (T:=A.callers) (Fn:=FnE BB tl x.w (C1 n))
  (gs:=gs3) (W:=W3) (t:=t2) (q:=q2) (sl:=Tn) (x:=x3) (a:=A3) (tp:=true) (k:=n) lv3 b2.past b2.quiet (λi op h=>by rw[z3];exact b2.PN i op h) b2.low (by show W3.heap[W2.heap.size]?=_;rw[hW3,aA,if_pos rfl];rfl) g3
  ae5 (by rw[hx3];exact wl3) (by rw[H3]) (by rw[hx3]) (λb B h=>by rw[JK] at h;rw[b3];exact h.2) (λb hb=>by rw[b3] at hb;rw[H3];exact wg3 b hb) (λb B hb=>by rw[b3] at hb;exact nd3 b B hb) (λb B hb hB=>by rw[b3] at hb;rw[H3];simp[Wo b B hb hB])
  (λB hB=>⟨⟨by have:=Nj B hB;omega,λhd=>by rw[JL] at hB;obtain⟨b,_,h⟩:=hB;exact Kv _ _ h hd⟩,λh=>h.2 hB,by have:=Nj B hB;omega⟩)
  (λB hB=>⟨by have:=hB.1;omega,by have:=hB.1;omega,aac B hB.1⟩) (λb B hb hB=>by rw[b3] at hb;have:=Wp b B hb hB.1;rw[hx3];exact this) aad ⟨λ_=>aae,λh=>(by cases h)⟩ (by rw[hx3];exact scr) (by simp only;omega)
 have tzK:ao Toy (Ku x.β tl oK):=λW W' hW h b B h1 h2=>by
  obtain⟨O,h3,h4⟩:=h b B h1 h2;exact⟨O,(hW B (by rw[JL];exact⟨b,h2,h1⟩)).trans h3,h4⟩
 have tzE:ao Toy (Ku x.β tl oE):=λW W' hW h b B h1 h2=>by
  obtain⟨O,h3,h4⟩:=h b B h1 h2;exact⟨O,(hW B (by rw[JL];exact⟨b,h2,h1⟩)).trans h3,h4⟩
 have hA:=ZT (P:=PP) (SB:=SB) (BB:=BB) (lets:=true) (Gn:=0) (Wg:=W2.heap.size) (T:=A.callers) (L:=L) Wl bA x.w.heap.size;have hW:=vz (P:=PP) (SB:=SB) (BB:=BB) (lets:=true) (Gn:=0) (Wg:=W2.heap.size) (T:=A.callers) (L:=L) Wl bW x.w.heap.size;rw[hT,h91] at hA;rw[hT,h94] at hW;obtain⟨N4,m4,t4,hr4,FK⟩:=join (by rw[JK];exact⟨.inr (.inr (.inl rfl)),PX⟩) lib (λf fn h _=>h) tzK tzE hA hW hinv;obtain⟨SF,W4,Wq,x4,a4,tp4,q4,rfl,g4,lv4,aaf,Ws,ae6,PY,wl4,tw4,wg4,aag,ae7,aah,ae8,dl4,ae9,afa,os4,ou4,bd4,Wt⟩:=Ll FK
 obtain⟨e4,eH4,r4⟩:=PY.fin;have afb:∀B,B<W.heap.size->B<W4.heap.size:=λB h=>by omega
 have b4:Gy Tryz.prog (λB=>Dead B\/B=W2.heap.size) SF W4 t4 q4:=⟨lv4,aaf,Ws,ae6,λB hB=>hB.elim (dl4 B) λh=>h▸ae8⟩
 have afc:Tw PP SB BB true 0 (λB=>Dead B\/B=W2.heap.size) ⟨λB=>B<W.heap.size,W4,0⟩ x4 a4 W4:=⟨PY.gl,wl4,tw4,λb B hb hd=>hd.elim (λh=>absurd h (aag b B hb)) λh=>wg4 b (h▸hb),λB hB=>⟨afb B hB,rfl⟩,λb B hb hB=>by
  by_cases UJ:Toy B
  .exact .inl (ae7 b B hb UJ)
  .exact Wt b B hb ⟨hB,UJ⟩⟩
 obtain⟨N5,m5,t5,hr5,gs5,W5,sl5,q5,x5,a5,rfl,g5,z5,b5,tw5,Q5,eH5,eT5,le5,os5,sz5,sz5',new5⟩:=Ii (P:=PP) (SB:=SB) (BB:=BB) (lets:=true) (Gn:=0) (Kp:=⟨λB=>B<W.heap.size,W4,0⟩) lib
  (H:=x4.H) (T:=x4.T) (β:=x4.β) (Q:=Bl.Left Tryz.prog 58 λv _=>v=.tuple #[]) (os:=W4.os) (ou:=W4) (n:=SF.size) (b0:=0) (B0:=W4.heap.size) _ (crowd SF W4 Wq) t4
  ⟨SF,W4,Wq,q4,x4,a4,rfl,g4,rfl,b4,afc,r4,rfl,rfl,Bc.le_refl _,⟨rfl,rfl⟩,⟨xp _,xQ _,λb B h=>.inl h⟩,rfl⟩
 obtain⟨N6,m6,t6,hr6,gs6,d6,sl6,q6,st6,g6,z6,b6⟩:=JZ (P:=PP) (sl:=sl5) b5 g5 tw5.gl.status.2;have tw6:=tw5.at d6;have afd:Dc PP SB x5.H true BB (FR::CS) x5.β x5.g a5:=by
  have:=tw5.gl;rw[Ch,eT5,PY.t,V5] at this;exact this
 obtain⟨v,w0,w1,V,W7,ES,β7,_,hv,_,st7,hV,PZ⟩:=leave (P:=PP) (lib x5.H) (main2:=true) Q5 I.hB afd tw6.wl;subst hv;have eV:V=.tuple #[]:=by
  cases hV with
  |@tuple _ X h1 _ =>
   have:X=#[]:=by simpa using h1.symm
   rw[this]
 subst eV;obtain⟨gs7,aaj,aff,z7,g7,b7⟩:=b6.fin (P:=PP) (SB:=SB) (lets:=true) (Gn:=0) (x:=x5) tw5.tw tw6.dead g6 st7 PZ sl6;obtain⟨aak,_⟩:=Jh (P:=PP) (SB:=SB) (lets:=true) (Gn:=0) (x:=x5) PZ tw6.keep tw6.CN;have hrun:runNT Tryz.prog ((N1+(N2+1))+(N4+(N5+(N6+1)))) (crowd gs W sl) t=(.next (crowd gs7 W7 sl6),t6++aaj):=by
  have e4:runNT Tryz.prog N4 (crowd gs3 W3 Tn) t2=(.next (crowd SF W4 Wq),t4):=hr4;have e5:runNT Tryz.prog N5 (crowd SF W4 Wq) t4=(.next (crowd gs5 W5 sl5),t5):=hr5;have e6:runNT Tryz.prog N6 (crowd gs5 W5 sl5) t5=(.next m6,t6):=hr6;have e7:stepT Tryz.prog m6=(.next (crowd gs7 W7 sl6),aaj):=st6.trans aff;rw[cD hr3,cD e4,cD e5,cD e6,ni e7]
 have P0:∀B,B<W.heap.size->B<W7.heap.size/\W7.heap[B]?=W4.heap[B]?:=λB hB=>aak B hB;have Nk:∀B,B<W.heap.size->¬Toy B->W7.heap[B]?=W.heap[B]?:=λB hB hT=>(P0 B hB).2.trans (aah B ⟨hB,hT⟩);have W5s:W5.heap.size<=W7.heap.size:=PZ.SIZE;have afg:∀b B,x.β b B->tl b=true->∃O,W7.heap[B]?=some O/\∀(S:CF) (Ck:Code->Prop) (AQ:Bc),BS S Ck AQ (oF (C1 n) oK oE b) O:=λb B hb h=>by
  have hE:=(P0 B (Wk b B hb).2).2;rw[hE];cases NM:C1 n with
  |true=>exact ae9 (by rw[e4];exact NM) b B hb h
  |false=>exact afa (by rw[e4];exact NM) b B hb h
 have Wu:∀b B,x.β b B->tl b=false->¬Toy B:=λb B hb h hT=>by
  rw[JL] at hT;obtain⟨b',h1,h2⟩:=hT;rw[ht.wl.Cn.inj hb h2] at h;rw[h] at h1;cases h1
 have os7:W7.os=W.os/\W7.output=W.output:=⟨PZ.OS.trans (os5.1.trans os4),PZ.OUT.trans (os5.2.trans ou4)⟩;refine⟨_,_,_,hrun,gs7,W7,sl6,q6,_,_,rfl,g7,?_,b7,⟨iN (x:=⟨back fr cs,EN tl (oF (C1 n) oK oE) x.w,x.H,x.β,x.T⟩) r1 r2,⟨ht.wl.Cn,⟨xQ _,xQ _⟩,λb B hb hh=>?_,λb B hb hh=>?_,λb hh=>?_,?_⟩,ht.tw,λb B hb hd=>?_,λB hB=>?_,λb B hb hB=>?_⟩,os7,by omega,λB hB=>hB.imp id λh=>by rw[h];omega⟩
 .rw[z7,z6,z5];exact bd4
 .have hl:=(Wk b B hb).1;rw[bH _ _ _ _ hl];cases h:tl b with
  |true =>
   obtain⟨O,h1,h2⟩:=afg b B hb h;exact⟨_,O,rfl,h1,h2 _ _ _⟩
  |false =>
   obtain⟨o,O,p1,p2,p3⟩:=ht.wl.CQ b B hb (hH b);exact⟨o,O,p1,(Nk B (Wk b B hb).2 (Wu b B hb h)).trans p2,p3⟩
 .have F3:x.H b=true:=hh;rw[hH] at F3;cases F3
 .have F3:x.H b=true:=hh;rw[hH] at F3;cases F3
 .show x.w.os.env=W7.os.env;rw[os7.1];exact ht.wl.env
 .rcases hd with hd|hd
  .exact absurd hd (Kv b B hb)
  .have:=(Wk b B hb).2;omega
 .obtain⟨k1,k2⟩:=ht.keep B hB;refine⟨(P0 B k1).1,(Nk B k1 λhT=>?_).trans k2⟩;rw[JL] at hT;obtain⟨b,h1,h2⟩:=hT;exact hKp b B h2 h1 hB
 .rcases ht.CN b B hb hB with h|⟨c',t',f',h1,h2⟩
  .exact .inl h
  .refine .inr ⟨c',t',f',?_,h2⟩;show(EN tl _ x.w).heap[b]?=_;rw[bH _ _ _ _ (Wk b B hb).1];cases h:tl b with
   |true=>exact absurd hB (hKp b B hb h)
   |false=>exact h1
end
open Go.Sq
def bI (a b c:Int)(w:World):Calls AG 18 #[.int .i64 a,.int .i64 b,.int .i64 c] w λe w'=>e=.returned (.bool (Ej a b c))/\w=w':=by
 by_cases h1:b<=a
 .by_cases h2:a<=c
  .have HS:=xl (show Ej a b c=true by simp[Ej,h1,h2]);go_enter Sq.func18,Tryz.ntmps18;go_wp2;go_ret;exact⟨aH HS.out.symm,rfl⟩
  .have HS:=xl (show Ej a b c=false by simp[Ej];omega);go_enter Sq.func18,Tryz.ntmps18;go_wp2;go_ret;exact⟨aH HS.out.symm,rfl⟩
 .have HS:=xl (show Ej a b c=false by simp[Ej];omega);go_enter Sq.func18,Tryz.ntmps18;go_wp2;go_ret;exact⟨aH HS.out.symm,rfl⟩
def gN (n lo hi:Int)(w:World):Calls AG 41 #[.int .i64 n,.int .i64 lo,.int .i64 hi] w λe w'=>e=.returned (.int .i64 (BV n lo hi))/\w=w':=by
 by_cases h1:n<lo
 .have HS:=xl (show BV n lo hi=7 by simp[BV,h1]);go_enter Sq.func41,Tryz.ntmps41;go_wp2;go_ret;exact⟨av HS.out.symm,rfl⟩
 .by_cases h2:hi<n
  .have HS:=xl (show BV n lo hi=6 by simp[BV,h1,h2]);go_enter Sq.func41,Tryz.ntmps41;go_wp2;go_ret;exact⟨av HS.out.symm,rfl⟩
  .have HS:=xl (show BV n lo hi=0 by simp[BV,h1,h2]);go_enter Sq.func41,Tryz.ntmps41;go_wp2;go_ret;exact⟨av HS.out.symm,rfl⟩
def iD (A:Option Addr)(c:Nat)(l:List Int)(n:Int)(w:World)(B:Nat)(h:RI w B A l)(hl:l.length<=4611686018427387904)(JS:0<=n)(hn:n<=4611686018427387904) :
  Calls AG 42 #[.slice A l.length c,.int .i64 n] w λe w'=>e=.returned (.int .i64 (De l n))/\w=w':=by
 have HR:=xl h;clear h;go_enter Sq.func42,Tryz.ntmps42;go_wp2;go_loop [9] (λi=>∃k:Nat,k<=l.length/\i=.int .i64 k/\∀j,j<k->Ep l n j=0) (λi=>l.length-(intOf i).toNat)
 case atStart=>exact⟨0,by omega,rfl,λj hj=>absurd hj (zg _)⟩
 case round =>
  obtain⟨k,hk,rfl,hz⟩:=hrel;have HZ:=xl hz;clear hz;by_cases hlt:k<l.length
  .obtain⟨b,o,rfl,hb,hc⟩:=HR.out.at_ hlt;have HA:Hid (Ep l n k=if 0<=l[k]?.getD 0/\l[k]?.getD 0<=n-1 then(if 0<k/\l[k]?.getD 0<=l[k-1]?.getD 0 then 5 else 0) else 3):=xl rfl;by_cases hr:0<=l[k]?.getD 0/\l[k]?.getD 0<=n-1
   .have HI : Hid (Calls AG 18 #[.int .i64 (l[k]?.getD 0), .int .i64 0, .int .i64 (n - 1)] w fun e w' => e = .returned (.bool true) ∧ w = w') := Lib.hid (by
     have:=bI (l[k]?.getD 0) 0 (n-1) w
     rwa [show Ej (l[k]?.getD 0) 0 (n-1)=true by simp[Ej,hr.1,hr.2]] at this)
    rcases yg k with h0|h0
    .subst h0;have HS:=xl (show Ep l n 0=0 by rw[HA.out,if_pos hr,if_neg (by omega)]);clear HA hr;simp only[Nat.add_zero] at hc;generalize l[0]?.getD 0=x at hc HI;go_wp2_with (go_at_call 18;refine HI.out.mono ?_;rintro e w' ⟨rfl,rfl⟩);go_round
     case rel=>exact⟨1,by omega,by go_num,λj hj=>by
      have:j=0:=by omega
      subst this;exact HS.out⟩
     case measure=>simp[intOf];omega
    .obtain⟨m,rfl⟩:∃m,k=m+1:=⟨k-1,by omega⟩;have hc':w.cell? ⟨b,o+m,none⟩=some (.int .i64 (l[m]?.getD 0)):=by
      obtain⟨b',o',e,_,h⟩:=HR.out.at_ (k:=m) (by omega);simp only[Option.some.injEq,Addr.mk.injEq] at e;obtain⟨rfl,rfl,_⟩:=e;exact h
     by_cases hle:l[m+1]?.getD 0<=l[m]?.getD 0
     .have HS := Lib.hid (show De l n = 5 by
       have e:Ep l n (m+1)=5:=by rw[HA.out,if_pos hr,if_pos ⟨h0,hle⟩]
       rw[lb hlt HZ.out (by rw[e];decide),e])
      clear HA hr;generalize l[m+1]?.getD 0=x at hc HI hle;generalize l[m]?.getD 0=y at hc' hle;go_wp2_with (go_at_call 18;refine HI.out.mono ?_;rintro e w' ⟨rfl,rfl⟩);go_ret;exact⟨av HS.out.symm,rfl⟩
     .have HS:=xl (show Ep l n (m+1)=0 by rw[HA.out,if_pos hr,if_neg (λh=>hle h.2)]);clear HA hr;generalize l[m+1]?.getD 0=x at hc HI hle;generalize l[m]?.getD 0=y at hc' hle;go_wp2_with (go_at_call 18;refine HI.out.mono ?_;rintro e w' ⟨rfl,rfl⟩);go_round
      case rel=>exact⟨m+1+1,by omega,by go_num,λj hj=>by
       rcases yB (yW hj) with h|rfl
       .exact HZ.out j h
       .exact HS.out⟩
      case measure=>simp[intOf];omega
   .have HI : Hid (Calls AG 18 #[.int .i64 (l[k]?.getD 0), .int .i64 0, .int .i64 (n - 1)] w fun e w' => e = .returned (.bool false) ∧ w = w') := Lib.hid (by
     have:=bI (l[k]?.getD 0) 0 (n-1) w
     rwa [show Ej (l[k]?.getD 0) 0 (n-1)=false by simp[Ej];omega] at this)
    have HS:=xl (show De l n=3 by
     have e:Ep l n k=3:=by rw[HA.out,if_neg hr]
     rw[lb hlt HZ.out (by rw[e];decide),e])
    clear HA hr;generalize l[k]?.getD 0=x at hc HI;go_wp2_with (go_at_call 18;refine HI.out.mono ?_;rintro e w' ⟨rfl,rfl⟩);go_ret;exact⟨av HS.out.symm,rfl⟩
  .have HS:=xl (show De l n=0 from py λi hi=>HZ.out i (by omega));have:k=l.length:=by omega
   clear HZ;go_wp2;go_ret;exact⟨av HS.out.symm,rfl⟩
def Bp (nA hA:Option Addr)(c:AW)(nc hc:Nat):Value:=.agg #[.slice nA c.AK.length nc,.slice hA c.AH.length hc]
def oD {c:AW}(h1:BV c.AK.length 1 5=0)(h2:(c.AK.all λx=>Ej x 0 12)=true)(h3:BV c.AH.length 1 4=0):Bi c=bz (c.AH.map (Dv c.AK.length)):=by
 simp[Bi,h1,h2,h3]
def dV (c:AW)(n:Int){i:Nat}(hi:i<c.AH.length):(c.AH.map (Dv n))[i]?.getD 0=Dv n (c.h i):=by
 unfold AW.h;simp[hi]
def tV (nA hA:Option Addr)(nc hc:Nat)(c:AW)(w:World)(B:Nat)(hB:B<=w.heap.size)(hn:RI w B nA c.AK)(hh:Dr w B hA c.AH)(IZ:c.AK.length<=4611686018427387904)(hl2:c.AH.length<=4611686018427387904)
  (C7:∀h∈c.AH,h.off.length<=4611686018427387904) :
  Calls AG 73 #[Bp nA hA c nc hc] w λe w'=>e=.returned (.int .i64 (Bi c))/\Gr w w':=by
 have HN:=xl hn;have HH:=xl hh;have P3:=xl C7;clear hn hh C7;unfold Bp;obtain⟨W0,hW0⟩:∃W0:World,W0=w.alloc (.cells #[.slice nA c.AK.length nc,.slice hA c.AH.length hc] 27):=⟨_,rfl⟩;have Ds:Hid (Gr w W0):=xl (by rw[hW0];exact(Gr.refl w).alloc _);have HC:Hid (∀W,Gr W0 W->W.cell? ⟨w.heap.size,0,none⟩=some (.slice nA c.AK.length nc)/\W.cell? ⟨w.heap.size,1,none⟩=some (.slice hA c.AH.length hc)):=xl λW hg=>by
  rw[hg.cell (by show w.heap.size<_;rw[hW0];simp),hg.cell (by show w.heap.size<_;rw[hW0];simp),hW0,xu _ _ _ _ rfl,xu _ _ _ _ rfl];exact⟨rfl,rfl⟩
 have hz0:W0.heap.size=w.heap.size+1:=by rw[hW0];simp
 by_cases N0:BV c.AK.length 1 5=0
 .have HM:Hid (Calls AG 41 #[.int .i64 c.AK.length,.int .i64 1,.int .i64 5] (w.alloc (.cells #[.slice nA c.AK.length nc,.slice hA c.AH.length hc] 27)) λe w'=>e=.returned (.int .i64 0)/\(w.alloc (.cells #[.slice nA c.AK.length nc,.slice hA c.AH.length hc] 27))=w'):=xl (by rw[<-N0];exact gN _ _ _ _);have Yp:=xl N0;have HW:=xl hW0;clear N0 hW0;go_enter Sq.func73,Tryz.ntmps73;go_wp2_with (first|(go_at_call 41;refine HM.out.mono ?_;rintro e w' ⟨rfl,rfl⟩))
  rw[<-HW.out];clear HW HM;obtain⟨hc0,hc1⟩:=HC.out W0 (Gr.refl _);have HN0:=xl ((HN.out.gr hB Ds.out).more (B':=W0.heap.size) (by omega));go_loop [20] (λi=>∃k:Nat,k<=c.AK.length/\i=.int .i64 k/\∀j,j<k->Ej (c.AK[j]?.getD 0) 0 12=true) (λi=>c.AK.length-(intOf i).toNat)
  case atStart=>exact⟨0,by omega,rfl,λj hj=>absurd hj (zg _)⟩
  case round =>
   obtain⟨k,hk,rfl,hz⟩:=hrel;have HZ:=xl hz;clear hz;by_cases hlt:k<c.AK.length
   .obtain⟨b,o,rfl,hb,hcell⟩:=HN0.out.at_ hlt;have hI:=bI (c.AK[k]?.getD 0) 0 12 W0;cases I3:Ej (c.AK[k]?.getD 0) 0 12 with
    |true =>
     rw[I3] at hI;have HI:=xl hI;have HIN:=xl I3;clear hI I3;generalize c.AK[k]?.getD 0=x at hcell HI;go_wp2_with (go_at_call 18;refine HI.out.mono ?_;rintro e w' ⟨rfl,rfl⟩);go_round
     case rel=>exact⟨k+1,by omega,by go_num,λj hj=>by
      rcases yB (yW hj) with h|rfl
      .exact HZ.out j h
      .exact HIN.out⟩
     case measure=>simp[intOf];omega
    |false =>
     rw[I3] at hI;have HI:=xl hI
     have HS:=xl (show Bi c=1 by
      have:(c.AK.all λx=>Ej x 0 12)=false:=by
       rw[List.all_eq_false];exact⟨_,Dq _ _ hlt,by simp[I3]⟩
      simp[Bi,Yp.out,this])
     clear hI I3;generalize c.AK[k]?.getD 0=x at hcell HI;go_wp2_with (go_at_call 18;refine HI.out.mono ?_;rintro e w' ⟨rfl,rfl⟩);go_ret;exact⟨av HS.out.symm,Ds.out⟩
   .have HA := Lib.hid (show (c.AK.all fun x => Ej x 0 12) = true by
     rw[yu];intro x hx;obtain⟨j,hj,rfl⟩:=zC.1 hx;have:=HZ.out j (by omega)
     rwa [xq hj] at this)
    have FD:k=c.AK.length:=by omega
    clear HZ;subst FD;have hM2:=gN c.AH.length 1 4 W0;by_cases OQ:BV c.AH.length 1 4=0
    .rw[OQ] at hM2;have HM:=xl hM2;have HD:=xl (oD Yp.out HA.out OQ);clear hM2 OQ;go_wp2_with (first|(go_at_call 41;refine HM.out.mono ?_;rintro e w' ⟨rfl,rfl⟩));go_loopw [38] (λi wr=>∃k:Nat,k<=c.AH.length/\i=.int .i64 k/\(∀j,j<k->Dv c.AK.length (c.h j)=0)/\Gr W0 wr) (λi _=>c.AH.length-(intOf i).toNat)
     case atStart=>exact⟨0,by omega,rfl,λj hj=>absurd hj (zg _),Gr.refl _⟩
     case round =>
      obtain⟨k,hk,rfl,hz,hgr⟩:=hrel;have HZ:=xl hz;have Df:=xl hgr;have IY:=xl (Ds.out.trans hgr);obtain⟨OO,O5⟩:=HC.out wr hgr;have hsz:w.heap.size<wr.heap.size:=by have:=Df.out.size;omega
      clear hz hgr;by_cases hlt:k<c.AH.length
      .have HH1:=xl (HH.out.keep λb o hb=>IY.out.cell (p:=⟨b,o,none⟩) (xx hb hB));obtain⟨b,o,rfl,hb,hat⟩:=HH1.out.at_ (c:=c) hlt;obtain⟨g0,g1,g2,A,ac,g3,Ea⟩:=hat;have IG:=xl (Ea.more (B':=wr.heap.size) (by omega));have Z1:=P3.out _ (c.GI hlt);have HF:=xl (dV c c.AK.length hlt);have HIT:∀x lo hi v,Ej x lo hi=v->∀W:World,Calls AG 18 #[.int .i64 x,.int .i64 lo,.int .i64 hi] W λe w'=>e=.returned (.bool v)/\W=w':=λx lo hi v h W=>by rw[<-h];exact bI _ _ _ _
       have N7:=xl HIT;clear HIT Ea;cases t1:Ej (c.h k).heads 1 40 with
       |false =>
        have HS:=xl (show Bi c=1 by
         have e:Dv c.AK.length (c.h k)=1:=by simp[Dv,t1]
         rw[HD.out,cy (k:=k) (by simpa using hlt) (λi hi=>by rw[dV c _ (by omega)];exact HZ.out i hi) (by rw[HF.out,e];decide),HF.out,e])
        have HA:=xl (N7.out _ _ _ _ t1);clear t1;go_wp2_with (first|(go_at_call 18;refine(HA.out _).mono ?_;rintro e w' ⟨rfl,rfl⟩));go_ret;exact⟨av HS.out.symm,IY.out.alloc _⟩
       |true =>
        have HA:=xl (N7.out _ _ _ _ t1);cases t2:Ej (c.h k).DC 1 5 with
        |false =>
         have HS:=xl (show Bi c=1 by
          have e:Dv c.AK.length (c.h k)=1:=by simp[Dv,t2]
          rw[HD.out,cy (k:=k) (by simpa using hlt) (λi hi=>by rw[dV c _ (by omega)];exact HZ.out i hi) (by rw[HF.out,e];decide),HF.out,e])
         have Jn:=xl (N7.out _ _ _ _ t2);clear t1 t2;go_wp2_with fail;refine(HA.out _).mono ?_;rintro e w' ⟨rfl,rfl⟩;go_wp2_with fail;refine(Jn.out _).mono ?_;rintro e w' ⟨rfl,rfl⟩;go_wp2;go_ret;exact⟨av HS.out.symm,IY.out.alloc _⟩
        |true =>
         have Jn:=xl (N7.out _ _ _ _ t2);cases t3:Ej (c.h k).most 0 5 with
         |false =>
          have HS:=xl (show Bi c=1 by
           have e:Dv c.AK.length (c.h k)=1:=by simp[Dv,t3]
           rw[HD.out,cy (k:=k) (by simpa using hlt) (λi hi=>by rw[dV c _ (by omega)];exact HZ.out i hi) (by rw[HF.out,e];decide),HF.out,e])
          have SG:=xl (N7.out _ _ _ _ t3);clear t1 t2 t3;go_wp2_with fail;refine(HA.out _).mono ?_;rintro e w' ⟨rfl,rfl⟩;go_wp2_with fail;refine(Jn.out _).mono ?_;rintro e w' ⟨rfl,rfl⟩;go_wp2_with fail;refine(SG.out _).mono ?_;rintro e w' ⟨rfl,rfl⟩;go_wp2;go_ret;exact⟨av HS.out.symm,IY.out.alloc _⟩
         |true =>
          have SG:=xl (N7.out _ _ _ _ t3);have HE:=xl (show Dv c.AK.length (c.h k)=De (c.h k).off c.AK.length by simp[Dv,t1,t2,t3]);have HAS:=xl (λW (hg:Gr wr W)=>iD A ac (c.h k).off c.AK.length W wr.heap.size (IG.out.gr (xp _) hg) Z1 (by omega) (by omega));have Wv:=xl (λv=>IY.out.alloc v);have aam:Hid (∀v,Gr wr (wr.alloc v)):=xl λv=>(Gr.refl wr).alloc v;clear t1 t2 t3;by_cases he:De (c.h k).off c.AK.length=0
          .rw[he] at HAS;have HE0:=xl (HE.out.trans he);clear he HE;go_wp2_with fail;refine(HA.out _).mono ?_;rintro e w' ⟨rfl,rfl⟩;go_wp2_with fail;refine(Jn.out _).mono ?_;rintro e w' ⟨rfl,rfl⟩;go_wp2_with fail;refine(SG.out _).mono ?_;rintro e w' ⟨rfl,rfl⟩;go_wp2_with fail;refine(HAS.out _ (aam.out _)).mono ?_;rintro e w' ⟨rfl,rfl⟩;go_wp2;go_roundw
           case rel=>exact⟨k+1,by omega,by go_num,λj hj=>by
            rcases yB (yW hj) with h|rfl
            .exact HZ.out j h
            .exact HE0.out,Df.out.alloc _⟩
           case measure=>simp[intOf];omega
          .have HS := Lib.hid (show Bi c = De (c.h k).off c.AK.length by
            rw[HD.out,cy (k:=k) (by simpa using hlt) (λi hi=>by rw[dV c _ (by omega)];exact HZ.out i hi) (by rw[HF.out,HE.out];exact he),HF.out,HE.out])
           have hne:((De (c.h k).off c.AK.length) != 0)=true:=by simpa using he
           clear HE he;generalize De (c.h k).off c.AK.length=e0 at HAS HS hne;go_wp2_with fail;refine(HA.out _).mono ?_;rintro e w' ⟨rfl,rfl⟩;go_wp2_with fail;refine(Jn.out _).mono ?_;rintro e w' ⟨rfl,rfl⟩;go_wp2_with fail;refine(SG.out _).mono ?_;rintro e w' ⟨rfl,rfl⟩;go_wp2_with fail;refine(HAS.out _ (aam.out _)).mono ?_;rintro e w' ⟨rfl,rfl⟩;go_wp2;go_ret;exact⟨av HS.out.symm,IY.out.alloc _⟩
      .have HS := Lib.hid (show Bi c = 0 by
        rw[HD.out];exact fj λi hi=>by
         rw[ye] at hi
         rw[dV c _ hi];exact HZ.out i (by omega))
       have FD:k=c.AH.length:=by omega
       clear HZ;subst FD;go_wp2;go_ret;exact⟨av HS.out.symm,IY.out⟩
    .have HS:=xl (show Bi c=BV c.AH.length 1 4 by simp[Bi,Yp.out,HA.out,OQ]);have HM:=xl hM2;have hb:((BV c.AH.length 1 4) != 0)=true:=by simpa using OQ
     clear hM2 OQ;generalize BV c.AH.length 1 4=e0 at HM hb HS;go_wp2_with (first|(go_at_call 41;refine HM.out.mono ?_;rintro e w' ⟨rfl,rfl⟩));go_ret;exact⟨av HS.out.symm,Ds.out⟩
 .have HS:=xl (show Bi c=BV c.AK.length 1 5 by simp[Bi,N0]);have HM:=xl (gN c.AK.length 1 5 W0);have hb:((BV c.AK.length 1 5) != 0)=true:=by simpa using N0
  rw[hW0] at HM;generalize BV c.AK.length 1 5=e0 at HM hb HS;clear N0 hW0;go_enter Sq.func73,Tryz.ntmps73;go_wp2_with (first|(go_at_call 41;refine HM.out.mono ?_;rintro e w' ⟨rfl,rfl⟩));go_ret;exact⟨av HS.out.symm,(Gr.refl w).alloc _⟩
end Go.Proofs.YtjcgijifamcggaaGreat
namespace Go.Sq
open Go.RowKit
def gO (u:Value):Prop:=∃x,u=.int .u8 x
def Eg (w:World)(v:Value):Prop:=∀a n c,v=.slice (some a) n c->∃(cur:Array Value) (t:TypeId),w.heap[a.block]?=some (.cells cur t (0,0))/\∀u∈cur.toList,gO u
def Eg.nil (w:World):Eg w (.slice none 0 0):=λa n c h=>by cases h
def Eg.keep {w w':World}{v:Value}(h:Eg w v)(hk:∀a n c,v=.slice (some a) n c->w'.heap[a.block]?=w.heap[a.block]?):Eg w' v:=λa n c e=>by
 obtain⟨cur,t,h1,h2⟩:=h a n c e;exact⟨cur,t,(hk a n c e).trans h1,h2⟩
variable {P:Program}
def tW (n:Nat):∀u∈(Builtin.zeroCells (Value.int .u8 0).cells n).toList,gO u:=by
 intro u hu;simp only[Builtin.zeroCells,Array.toList_map,xU] at hu;obtain⟨i,_,rfl⟩:=hu;refine⟨0,?_⟩;show(#[Value.int .u8 0]:Array Value)[i % 1]! = _;rw[Nat.mod_one];rfl
def mD (w:World)(base:Nat)(t ty e:TypeId)(i:TypeInfo)(ht:P.underlying t=some (.slice e))(hi:P.info? e=some i)(hz:i.zero=some (.int .u8 0))
  (hsize:i.size=1) (hby:i.bytes=1) (v:Value) (n:Nat) (xs:List Value) (hown:w.ownsRow base e 1 v n xs) (hf:Eg w v)
  (a:Addr) (m c:Nat) (news:List Value) (hl:news.length=m*1) (hnews:∀j u,news[j]?=some u->w.cell? (a.add j)=some u) (h1:∀u∈news,gO u) (h63:n+m<=maxLen) (hbytes:(n+m)*1<=140737488355328)
  {v':Value} {w':World} (hrun:(Builtin.append_ #[t,t] ty #[v,.slice (some a) m c]).run P w=.ok v' w'):Eg w' v':=by
 have afk:n+m<=9223372036854775807:=by simp only[maxLen] at h63;omega
 have GF:∀u∈news,u.oneCell'=true:=λu hu=>by obtain⟨x,rfl⟩:=h1 u hu;rfl
 have grown:∀(ys:List Value) k,(∀u∈ys,gO u)->∀l1 l2 n1 c1,l1++l2=ys->Eg (w.drew.alloc (.cells (l1.toArray++l2.toArray++Builtin.zeroCells (Value.int .u8 0).cells k) e)) (.slice (some ⟨w.heap.size,0,none⟩) n1 c1):=by
  intro ys k hys l1 l2 n1 c1 afl a n c he;injection he with h _ _
  injection h with h
  subst h;refine⟨_,e,heap_alloc_new w.drew _,λu hu=>?_⟩;simp only[Array.toList_append,yD] at hu;rcases hu with hu|hu
  .refine hys u ?_;rw[<-afl];simpa using hu
  .exact tW _ u hu
 rcases hown.2 with⟨rfl,rfl⟩|⟨g,cap,cur,rfl,hbg,hg,VK,hcm,hcs,PL⟩
 .by_cases hm:m=0
  .subst hm;have hn:news=[]:=xT (by simpa using hl);subst hn;simp[Builtin.append_,run_underlying ht,sizeOf,typeInfo,hi,Builtin.lenOf,Builtin.firstCells,loadCells,loadCellsFrom] at hrun;obtain⟨rfl,rfl⟩:=hrun;exact Eg.nil _
  .have hr:=run_append_nil (P:=P) w t ty e i (.int .u8 0) ht hi hz a m c news (by rw[hsize];exact hl) hnews (by omega) (by omega) (by rw[hby];omega);rw[hr] at hrun;cases hrun;have:=grown news (grownCap w m 0 e-m) h1 [] news m (grownCap w m 0 e) rfl;simpa using this
 .obtain⟨cur',t',z1,z2⟩:=hf _ _ _ rfl;have z1':w.heap[g]?=some (.cells cur' t' (0,0)):=z1;rw[hg] at z1';cases z1';have SH:∀u∈xs,gO u:=λu hu=>z2 u (by rw[<-PL] at hu;exact zp hu);by_cases hroom:n+m<=cap
  .have afm:n*i.size+news.length<=cur.size:=by rw[hsize,hl,hcs];omega
   have hr:=run_append_room (P:=P) w t ty e i ht hi g n cap cur hg a m c news (by rw[hsize];exact hl) hnews GF hroom afm;rw[hr] at hrun;cases hrun;intro a2 n2 c2 he;injection he with h _ _
   injection h with h
   subst h;refine⟨_,e,setRow_heap w g cur _ e _ hg,λu hu=>?_⟩;simp only[yD] at hu;rcases hu with(hu|hu)|hu
   .exact z2 u (zp hu)
   .exact h1 u hu
   .exact z2 u (List.mem_of_mem_drop hu)
  .have holds:∀j u,xs[j]?=some u->w.cell? ((⟨g,0,none⟩:Addr).add j)=some u:=hown.cells (g:=g) rfl;have hr:=run_append_grow (P:=P) w t ty e i (.int .u8 0) ht hi hz ⟨g,0,none⟩ n cap xs (by rw[hsize];exact hown.1) holds a m c news (by rw[hsize];exact hl) hnews (by omega) (by omega) (by rw[hby];exact growslice_fits (by omega) hbytes);rw[hr] at hrun;cases hrun;exact grown (xs++news) _ (λu hu=>(yD.1 hu).elim (SH u) (h1 u)) xs news _ _ rfl
def gP {w:World}{ops:Array Oper}{rest:List Oper}{o:Oper}{a:Act}{Q:Exit->Act->World->Prop}(hgd:o.guard=none)(s x:Operand)(t:TypeId)
  (ho:o.op=.call { callee:=.builtin .append,args:=#[s,x],argTypes:=#[t,t] })
  (base:Nat) (e:TypeId) (i:TypeInfo) (ht:P.underlying t=some (.slice e)) (hi:P.info? e=some i) (hz:i.zero=some (.int .u8 0))
  (hsize:i.size=1) (hby:i.bytes=1)
  (v:Value) (n:Nat) (xs:List Value) (hs:a.eval s=v) (hown:w.ownsRow base e 1 v n xs) (hf:Eg w v)
  (ad:Addr) (m c:Nat) (news:List Value) (hx:a.eval x=.slice (some ad) m c) (hl:news.length=m*1) (hnews:∀j u,news[j]?=some u->w.cell? (ad.add j)=some u) (h1:∀u∈news,gO u)
  (h63:n+m<=maxLen) (hbytes:(n+m)*1<=140737488355328) (hbase:base<=w.heap.size)
  (h:∀v' w',w'.ownsRow base e 1 v' (n+m) (xs++news)->w.grownBy w' v.ownBlock->w.drawn<=w'.drawn->Eg w' v'->wpList P ops Q rest (a.put o.dst v') w'):wpList P ops Q (o::rest) a w:=by
 refine wpList_plain hgd λK hK=>?_;have GF:∀u∈news,u.oneCell'=true:=λu hu=>by obtain⟨x,rfl⟩:=h1 u hu;rfl
 obtain⟨v',w',hr,h2,h3,h4⟩:=run_append_own (P:=P) w base t o.type e i (.int .u8 0) 1 1 ht hi hz hsize hby rfl (by decide) v n xs hown ad m c news hl hnews GF h63 hbytes hbase;have N8:=mD (P:=P) w base t o.type e i ht hi hz hsize hby v n xs hown hf ad m c news hl hnews h1 h63 hbytes hr;have hd:=Go.Bl.Cy P (Builtin.append_ #[t,t] o.type #[v,.slice (some ad) m c]) w #[];rw[Sem.runT_fst,hr] at hd
 unfold Oper.wp execOp;simp only[ho,resolve,invoke,builtin,Sem.run_bind,Sem.run_pure,Result.andThen_ok,zr,yE,yH,hs,hx,hr];exact hK _ _ (h v' w' h2 h3 hd N8)
end Go.Sq
namespace Go.Proofs.YtjcgijifamcggaaGreat
open Go.RowKit Go.Sq
def tX:∀x:Fin 16,∀n:Fin 4,bits BinOp.or IntKind.u8 (x.val:Int) (2 ^ n.val % 256)=((x.val ||| 2 ^ n.val:Nat):Int):=by decide
def afn (A:Option Addr)(c:Nat)(l:List Int)(w:World)(B:Nat)(h:RI w B A l)(hl:l.length<=4611686018427387904)(hx:∀x∈l,0<=x/\x<4) :
  Calls AG 43 #[.slice A l.length c] w λe w'=>e=.returned (.int .u8 (G4 l))/\w=w':=by
 have HR:=xl h;have HX:=xl hx;clear h hx;go_enter Sq.func43,Tryz.ntmps43;go_wp2;go_loop [3,8] (λs i=>∃k:Nat,k<=l.length/\i=.int .i64 k/\s=.int .u8 (G4 (l.take k))) (λ_ i=>l.length-(intOf i).toNat)
 case atStart=>exact⟨0,by omega,rfl,rfl⟩
 case round =>
  obtain⟨k,hk,rfl,rfl⟩:=hrel;by_cases hlt:k<l.length
  .obtain⟨b,o,rfl,hb,hc⟩:=HR.out.at_ hlt;have HS:=xl (ru l k hlt);obtain⟨n,hn,Y2⟩:∃n:Nat,l[k]?.getD 0=n/\n<4:=by
    obtain⟨h1,h2⟩:=HX.out _ (Dq l k hlt);exact⟨(l[k]?.getD 0).toNat,by omega,by omega⟩
   rw[hn] at hc;have HN:=xl hn;clear hn;have JF:G4 (l.take k)<16:=pA _ λy hy=>HX.out y (zp hy);have HO:=xl (show bits BinOp.or IntKind.u8 ((G4 (l.take k):Nat):Int) (2 ^ n % 256)=((G4 (l.take k) ||| 2 ^ n:Nat):Int) from tX ⟨_,JF⟩ ⟨n,Y2⟩);have JA:=xl (show G4 (l.take (k+1))=G4 (l.take k) ||| 2 ^ n by rw[HS.out,HN.out];rfl);clear HS;generalize G4 (l.take k)=x at HO JA JF;go_wp2;go_round
   case rel=>exact⟨k+1,by omega,by go_num,by rw[JA.out];exact congrArg (Value.int .u8) HO.out⟩
   case measure=>simp[intOf];omega
  .have FD:k=l.length:=by omega
   have HS:=xl (show G4 (l.take k)=G4 l by rw[xZ (by omega)]);clear FD;go_wp2;go_ret;exact⟨av (by rw[HS.out]),rfl⟩
def AB:(AG.info? 50).map (λi=>(i.zero,i.size,i.bytes))=some (some (.int .u8 0),1,1):=by
 rw[zZ];kernel_rfl
def Lz (k:Nat):List Value:=(List.range k).map λi:Nat=>.int .u8 (i:Int)
def p9 (k:Nat):Lz (k+1)=Lz k++[.int .u8 k]:=by simp[Lz,zn]
def qa (N:Nat)(R:Value->World->World->Prop):Prop:=∀(W:World) (g cap B:Nat),W.ownsRow B 50 1 (.slice (some ⟨g,0,none⟩) N cap) N (Lz N) ->
 Calls AG 47 #[.slice (some ⟨g,0,none⟩) N cap,.func (.func 48) #[] #[]] W λe W'=>e=.returned (.tuple #[])/\R (.slice (some ⟨g,0,none⟩) N cap) W W'
def nj (nA hA:Option Addr)(nc hc nn m:Nat)(w:World)(hm:m<=4){R:Value->World->World->Prop}(hs:qa (2 ^ m) R) :
  Calls AG 23 #[.agg #[.slice nA nn nc,.slice hA m hc]] w λe w'=>e=.returned (.pointer (some ⟨w.heap.size+1,0,none⟩))/\∃(g cap:Nat) (W:World),R (.slice (some ⟨g,0,none⟩) (2 ^ m) cap) W w'/\w.heap.size+2<=g/\Gr w W/\w.heap.size+1<W.heap.size /\
   W.cell? ⟨w.heap.size+1,0,none⟩=some (.slice nA nn nc)/\W.cell? ⟨w.heap.size+1,1,none⟩=some (.slice hA m hc)/\W.cell? ⟨w.heap.size+1,2,none⟩=some (.slice (some ⟨g,0,none⟩) (2 ^ m) cap) /\
   W.ownsRow (w.heap.size+2) 50 1 (.slice (some ⟨g,0,none⟩) (2 ^ m) cap) (2 ^ m) (Lz (2 ^ m)) /\
   Eg W (.slice (some ⟨g,0,none⟩) (2 ^ m) cap)/\W.heap[w.heap.size+1]?=some (.cells #[.slice nA nn nc,.slice hA m hc,.slice (some ⟨g,0,none⟩) (2 ^ m) cap] 101 (0,0)):=by
 obtain⟨i0,hi,hz0,hz1,hz2⟩:=info_parts AB;have Nl:=xl hs;clear hs;have Ww:((2:Int) ^ m % 256)=((2 ^ m:Nat):Int)/\2 ^ m<=16/\1<=2 ^ m:=by
  have:m=0\/m=1\/m=2\/m=3\/m=4:=by omega
  rcases this with rfl|rfl|rfl|rfl|rfl<;>decide
 obtain⟨FV,JI,Wy⟩:=Ww;generalize 2 ^ m=N at FV JI Wy Nl ⊢;have HP:=xl FV;clear FV;go_enter Sq.func23,Tryz.ntmps23;go_wp2;rw[HP.out]
 go_loopw [13] (λi wr=>∃k:Nat,k<=N/\i=.int .u8 k/\∃v,wr.cell? ⟨w.heap.size+1,0,none⟩=some (.slice nA nn nc)/\wr.cell? ⟨w.heap.size+1,1,none⟩=some (.slice hA m hc)/\wr.cell? ⟨w.heap.size+1,2,none⟩=some v/\wr.frozen? ⟨w.heap.size+1,2,none⟩=false /\
  wr.ownsRow (w.heap.size+2) 50 1 v k (Lz k)/\Gr w wr/\w.heap.size+2<=wr.heap.size/\Eg wr v/\wr.heap[w.heap.size+1]?=some (.cells #[.slice nA nn nc,.slice hA m hc,v] 101 (0,0))) (λi _=>N-(intOf i).toNat)
 case atStart =>
  refine⟨0,by omega,rfl,.slice none 0 0,?_,?_,?_,?_,x9 _ _ _ _,((Gr.refl w).alloc _).alloc _,by simp,Eg.nil _,?_⟩
  .rw[xu _ _ _ _ (by simp)];rfl
  .rw[xu _ _ _ _ (by simp)];rfl
  .rw[xu _ _ _ _ (by simp)];rfl
  .rw[yi _ _ _ _ (by simp)]
  .have e1:∀A:Obj,w.heap.size+1=(w.alloc A).heap.size:=λA=>by simp
   rw[e1 (.cells #[.slice nA nn nc,.slice hA m hc] 27)];exact heap_alloc_new _ _
 case round =>
  obtain⟨k,hk,rfl,v,h0,h1,h2,hfz,hown,hgr,hsz,N8,Nh⟩:=hrel;have HFL:=xl N8;have HOB:=xl Nh;clear N8 Nh;have HG:=xl hgr;clear hgr;by_cases hlt:k<N
  .have h0':=h0;have hfa:Eg (wr.alloc (.cells #[.int .u8 k] 50)) v:=HFL.out.keep λa n c e=>heap_alloc_old wr _ (hown.lt a.block (by rw[e];rfl)).2;go_wp2_with (at_builtin;refine gP rfl _ _ 99 rfl (w.heap.size+2) 50 i0 Sq.underlying99 hi hz0 hz1 hz2 _ _ _ rfl (hown.alloc _) hfa ⟨wr.heap.size,0,none⟩ 1 1 [.int .u8 k] rfl rfl ?c1 ?c2 ?c3 ?c4 ?c5 ?_)
   case c1 =>
    intro j u hj
    match j,hj with
    |0,hj=>simp at hj;subst hj;simp[Addr.add]
   case c2=>intro u hu;simp at hu;subst hu;exact⟨_,rfl⟩
   case c3=>unfold maxLen;omega
   case c4=>omega
   case c5=>simp;omega
   intro v' w1 hown' hgrow hd aan;have afo:=xl aan;clear aan;obtain⟨g',cap',rfl⟩:=ownsRow_succ hown';have hne:some (w.heap.size+1)≠v.ownBlock:=λh=>by have:=(hown.lt _ h.symm).1;omega
   have k0:w1.cell? ⟨w.heap.size+1,0,none⟩=some (.slice nA nn nc):=hgrow.cell ((xO _ _ _ (by show w.heap.size+1<_;omega)).trans h0) hne;have k1:w1.cell? ⟨w.heap.size+1,1,none⟩=some (.slice hA m hc):=hgrow.cell ((xO _ _ _ (by show w.heap.size+1<_;omega)).trans h1) hne;have k2:w1.cell? ⟨w.heap.size+1,2,none⟩=some v:=hgrow.cell ((xO _ _ _ (by show w.heap.size+1<_;omega)).trans h2) hne;have kf:w1.frozen? ⟨w.heap.size+1,2,none⟩=false:=by
    rw[zl (w:=wr.alloc (.cells #[.int .u8 k] 50)) (hgrow.block (w.heap.size+1) (by simp;omega) hne)];exact(yS _ _ _ (by show w.heap.size+1<_;omega)).trans hfz
   have afp:=xl ((hgrow.block (w.heap.size+1) (by simp;omega) hne).trans ((heap_alloc_old wr _ (by omega)).trans HOB.out));have Df:=xl ((HG.out.alloc (.cells #[.int .u8 k] 50)).grown hgrow hd λj hj=>by have:=(hown.lt j hj).1;omega);have afq:w.heap.size+2<=w1.heap.size:=by have:=hgrow.size;simp at this;omega
   have HO:Hid (w1.ownsRow (w.heap.size+2) 50 1 (.slice (some ⟨g',0,none⟩) (k+1) cap') (k+1) (Lz (k+1))):=xl (by rw[p9];exact hown');clear hown' hgrow hown hd h0 h1 h2 hfz HG h0';go_wp2;go_roundw
   case rel =>
    refine⟨k+1,by omega,by go_num,_,(xB _ _ _ _ (by simp)).trans k0,(xB _ _ _ _ (by simp)).trans k1,xJ _ _ _ k2,(yt _ _ _ _).trans kf,ownsRow_setCell_below HO.out (by show w.heap.size+1<_;omega) _,Df.out.setCell (by show _<=w.heap.size+1;omega) _,by simpa using afq,afo.out.keep λa n c e=>?_,?_⟩
    .have hb:a.block=g':=by injection e with e1 _ _;injection e1 with e1;rw[<-e1]
     have hlt:=(HO.out.lt g' rfl).1;unfold World.setCell;simp only[yh];rw[if_neg (by omega)]
    .unfold World.setCell;simp only[yh,if_true,afp.out]
     rfl
   case measure=>simp[intOf];omega
  .have X7:k=N:=by omega
   subst X7;obtain⟨m',rfl⟩:∃m',k=m'+1:=⟨k-1,by omega⟩;obtain⟨g,cap,rfl⟩:=ownsRow_succ hown;have HC:=xl (Nl.out wr g cap _ hown);have hg:=(hown.lt g rfl).1;have HO:=xl hown;clear hown;go_wp2_with fail;refine HC.out.mono ?_;rintro e w2 ⟨rfl,hR⟩;have HR:=xl hR;clear hR;go_wp2;go_ret;exact⟨rfl,g,cap,wr,HR.out,hg,HG.out,by omega,h0,h1,h2,HO.out,HFL.out,HOB.out⟩
open Go.Shelf
def aP {P:Program} {i:Nat} {f B:Func} (h:P.funcs[i]?=some f) (hn:(f.name == "runtime.NumGoroutine")=false) (hf:f={ B with name:=f.name }):Bears P i B:=⟨f.name,hn,h.trans (congrArg some hf)⟩
def Aw:Ren:=⟨λ|6=>47|15=>46|14=>85|28=>83|29=>84|20=>108|21=>109|22=>110|23=>111|24=>112|25=>113|26=>114|27=>115|46=>141|47=>103|48=>104|49=>142|50=>143|57=>154|n=>n,λ|22=>99|24=>50|25=>105|3=>3|39=>91|0=>0|53=>126|55=>43|4=>4|46=>143|45=>142|50=>147|5=>5|9=>9|66=>171|70=>174|76=>203|77=>204|n=>n,λn=>n⟩
def At:SlLaysF.n6 AG Aw where
 mixed:=(congrArg (λt:Tables=>t.follows .mixedOrders) zZ).trans (by kernel_rfl)
 f6:=aP Sq.func47 (by decide +kernel) (by kernel_rfl)
 f14:=aP Sq.func85 (by decide +kernel) (by kernel_rfl)
 f15:=Sq.func46.trans (congrArg some (by kernel_rfl))
 f20:=aP Sq.func108 (by decide +kernel) (by kernel_rfl)
 f21:=aP Sq.func109 (by decide +kernel) (by kernel_rfl)
 f22:=aP Sq.func110 (by decide +kernel) (by kernel_rfl)
 f23:=aP Sq.func111 (by decide +kernel) (by kernel_rfl)
 f24:=aP Sq.func112 (by decide +kernel) (by kernel_rfl)
 f25:=aP Sq.func113 (by decide +kernel) (by kernel_rfl)
 f26:=aP Sq.func114 (by decide +kernel) (by kernel_rfl)
 f27:=aP Sq.func115 (by decide +kernel) (by kernel_rfl)
 f28:=Sq.func83.trans (congrArg some (by kernel_rfl))
 f29:=Sq.func84.trans (congrArg some (by kernel_rfl))
 f46:=aP Sq.func141 (by decide +kernel) (by kernel_rfl)
 f47:=Sq.func103.trans (congrArg some (by kernel_rfl))
 f48:=Sq.func104.trans (congrArg some (by kernel_rfl))
 f49:=aP Sq.func142 (by decide +kernel) (by kernel_rfl)
 f50:=aP Sq.func143 (by decide +kernel) (by kernel_rfl)
 f57:=aP Sq.func154 (by decide +kernel) (by kernel_rfl)
 t0:=(Sq.underlying 0).trans Tryz.underlying0
 a0:=λw=>(zW 0 w).trans (Tryz.isAgg0 w)
 z0:=λw=>(Sq.sizeOf 0 w).trans (Tryz.sizeOf0 w)
 v0:=λw=>(Sq.zeroValue 0 w).trans (Tryz.zeroValue0 w)
 t3:=(Sq.underlying 3).trans Tryz.underlying3
 a3:=λw=>(zW 3 w).trans (Tryz.isAgg3 w)
 z3:=λw=>(Sq.sizeOf 3 w).trans (Tryz.sizeOf3 w)
 v3:=λw=>(Sq.zeroValue 3 w).trans (Tryz.zeroValue3 w)
 t4:=(Sq.underlying 4).trans Tryz.underlying4
 a4:=λw=>(zW 4 w).trans (Tryz.isAgg4 w)
 z4:=λw=>(Sq.sizeOf 4 w).trans (Tryz.sizeOf4 w)
 v4:=λw=>(Sq.zeroValue 4 w).trans (Tryz.zeroValue4 w)
 t5:=(Sq.underlying 5).trans Tryz.underlying5
 a5:=λw=>(zW 5 w).trans (Tryz.isAgg5 w)
 z5:=λw=>(Sq.sizeOf 5 w).trans (Tryz.sizeOf5 w)
 v5:=λw=>(Sq.zeroValue 5 w).trans (Tryz.zeroValue5 w)
 t9:=(Sq.underlying 9).trans Tryz.underlying9
 a9:=λw=>(zW 9 w).trans (Tryz.isAgg9 w)
 z9:=λw=>(Sq.sizeOf 9 w).trans (Tryz.sizeOf9 w)
 v9:=λw=>(Sq.zeroValue 9 w).trans (Tryz.zeroValue9 w)
 t22:=(Sq.underlying 99).trans Tryz.underlying99
 a22:=λw=>(zW 99 w).trans (Tryz.isAgg99 w)
 z22:=λw=>(Sq.sizeOf 99 w).trans (Tryz.sizeOf99 w)
 v22:=λw=>(Sq.zeroValue 99 w).trans (Tryz.zeroValue99 w)
 a24:=λw=>(zW 50 w).trans (Tryz.isAgg50 w)
 z24:=λw=>(Sq.sizeOf 50 w).trans (Tryz.sizeOf50 w)
 t25:=(Sq.underlying 105).trans Tryz.underlying105
 a25:=λw=>(zW 105 w).trans (Tryz.isAgg105 w)
 z25:=λw=>(Sq.sizeOf 105 w).trans (Tryz.sizeOf105 w)
 v25:=λw=>(Sq.zeroValue 105 w).trans (Tryz.zeroValue105 w)
 t39:=(Sq.underlying 91).trans Tryz.underlying91
 a39:=λw=>(zW 91 w).trans (Tryz.isAgg91 w)
 z39:=λw=>(Sq.sizeOf 91 w).trans (Tryz.sizeOf91 w)
 v39:=λw=>(Sq.zeroValue 91 w).trans (Tryz.zeroValue91 w)
 t45:=(Sq.underlying 142).trans Tryz.underlying142
 a45:=λw=>(zW 142 w).trans (Tryz.isAgg142 w)
 z45:=λw=>(Sq.sizeOf 142 w).trans (Tryz.sizeOf142 w)
 v45:=λw=>(Sq.zeroValue 142 w).trans (Tryz.zeroValue142 w)
 t46:=(Sq.underlying 143).trans Tryz.underlying143
 a46:=λw=>(zW 143 w).trans (Tryz.isAgg143 w)
 z46:=λw=>(Sq.sizeOf 143 w).trans (Tryz.sizeOf143 w)
 v46:=λw=>(Sq.zeroValue 143 w).trans (Tryz.zeroValue143 w)
 t50:=(Sq.underlying 147).trans Tryz.underlying147
 a50:=λw=>(zW 147 w).trans (Tryz.isAgg147 w)
 z50:=λw=>(Sq.sizeOf 147 w).trans (Tryz.sizeOf147 w)
 v50:=λw=>(Sq.zeroValue 147 w).trans (Tryz.zeroValue147 w)
 t53:=(Sq.underlying 126).trans Tryz.underlying126
 a53:=λw=>(zW 126 w).trans (Tryz.isAgg126 w)
 z53:=λw=>(Sq.sizeOf 126 w).trans (Tryz.sizeOf126 w)
 v53:=λw=>(Sq.zeroValue 126 w).trans (Tryz.zeroValue126 w)
 t55:=(Sq.underlying 43).trans Tryz.underlying43
 a55:=λw=>(zW 43 w).trans (Tryz.isAgg43 w)
 z55:=λw=>(Sq.sizeOf 43 w).trans (Tryz.sizeOf43 w)
 v55:=λw=>(Sq.zeroValue 43 w).trans (Tryz.zeroValue43 w)
 t66:=(Sq.underlying 171).trans Tryz.underlying171
 a66:=λw=>(zW 171 w).trans (Tryz.isAgg171 w)
 z66:=λw=>(Sq.sizeOf 171 w).trans (Tryz.sizeOf171 w)
 v66:=λw=>(Sq.zeroValue 171 w).trans (Tryz.zeroValue171 w)
 t70:=(Sq.underlying 174).trans Tryz.underlying174
 a70:=λw=>(zW 174 w).trans (Tryz.isAgg174 w)
 z70:=λw=>(Sq.sizeOf 174 w).trans (Tryz.sizeOf174 w)
 v70:=λw=>(Sq.zeroValue 174 w).trans (Tryz.zeroValue174 w)
 t76:=(Sq.underlying 203).trans Tryz.underlying203
 a76:=λw=>(zW 203 w).trans (Tryz.isAgg203 w)
 z76:=λw=>(Sq.sizeOf 203 w).trans (Tryz.sizeOf203 w)
 v76:=λw=>(Sq.zeroValue 203 w).trans (Tryz.zeroValue203 w)
 t77:=(Sq.underlying 204).trans Tryz.underlying204
 a77:=λw=>(zW 204 w).trans (Tryz.isAgg204 w)
 z77:=λw=>(Sq.sizeOf 204 w).trans (Tryz.sizeOf204 w)
 v77:=λw=>(Sq.zeroValue 204 w).trans (Tryz.zeroValue204 w)
end Go.Proofs.YtjcgijifamcggaaGreat
