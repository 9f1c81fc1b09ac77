/- Parts of the proof. -/
import Derived.Test.YtoeoefobdjociaaGreatP25
set_option linter.all false
set_option maxRecDepth 100000
open Go.Proofs.Tryz renaming prog->Z,func90->bb,func88->bw,func91->cf,func153->ed,func155->ek,func154->eo,func156->er,func89->ez,func53->eC,func92->eG,func93->eH
open Bool renaming true->Y,false->y
open Go.Value renaming pointer->J,int->bk,slice->dr
open Option renaming some->U,none->E
open Go renaming World->M,Value->R,FuncId->bq,Goroutine->cr,TypeId->df,Frame->dS,callFunc->eF,Calls->eT
open Go.Obj renaming cells->ak
open Go.Conc renaming crowd->bc,G->cq,goes_go->eb
open Go.Instr renaming takeDeferred->br
open Go.Frame renaming enter->bs,finish_at->dy
open Go.IntKind renaming i64->ck
open List renaming mem_append_right->cu,mem_append_left->cw,any_eq_true->dn
namespace Go.Sq
open Go.Proofs
open Go.RowKit Go.Eu Go.Co Go.Conc
def step_collected {P:Program}{main:Bool}{b:dS}{a:Act}{todo:List Item}{cs:List dS}{w:M}{D:Nat}{l ds:List Deferred}{x:Array R}(hd:a.defers={ target:=.collected D,args:=x }::ds)(hD:w.heap[D]?=U (.deferred (U l))) :
  ∃es,stepG P main (cq { b.at a todo with mode:=.returning } cs) w=.go (cq { b.at ⟨a.tmps,l++ds⟩ todo with mode:=.returning } cs) { w with heap:=w.heap.setIfInBounds D (.deferred E) } es:=by
 have hr:(br D).run P w=.ok l { w with heap:=w.heap.setIfInBounds D (.deferred E) }:=by
  simp[br,getObj,setObj,Sem.run,hD,Result.andThen]
 exact⟨seen P b.fn ((br D).events P w #[]),by simp[cq,stepG,unwind,Frame.at,hd,hr,GStep.after]⟩
noncomputable abbrev iO (b2 b3 b4 r:Nat):Array Value:=(dD b2 b3 b4 r).tmps
def yd:codeOk DU JM y Y PD=true:=by kernel_rfl
def mu {BB:bq->Bool}(hL:MU BB){T0 K0:Nat->Prop}{b2 b3 b4 r:Nat}{H:Hid}(hn:H.bl=y){Ψ:M->Prop}{w:M}(hk:K0 b2/\K0 b3/\K0 b4/\K0 r)(hh:∀b,K0 b->H b=Y->H.EZ=Y/\w.heap[b]?=U (.coro E))(aF:∀b,H b=Y->b<w.heap.size)
  (a7:∀b,K0 b->H b=y->∃o,w.heap[b]?=U o/\EW (SP JM H) (CK DU JM y) (EK K0) o o)
  (aG:∀τ d,PD.wp DU (λe a' w'=>(e=.normal\/e=.ret)/\(e=.normal/\Ψ w'/\∃D,a'.defers=[{ target:=.collected D,args:=#[] },Lp b4]/\¬T0 D/\w'.heap[D]?=U (.deferred (U [])))) (dD b2 b3 b4 r) (on w τ d))
  (a6:∀W W',Ψ W->(∀b,T0 b->W'.heap[b]?=W.heap[b]?)->Ψ W') :
  EO Z BB (Jg Z b4 Ψ) 0 (cq (bs Z 89 (bN b2 b3 b4 r) .deferred) [bad]) w:=by
 have hB:BB (baseD 89).fn=true:=hL.sub 89 (by decide);have hQ:∀g w W,Et w W->Jg Z b4 Ψ g w->Jg Z b4 Ψ g W:=by
  rintro g w W s ⟨c,e1,e2,e3,e4,e5,e6⟩;exact⟨c,e1,e2,e3,e4,e5,a6 w W e6 λb _=>by rw[s.1]⟩
 rw[enter_atD _ ez rfl];have e0:(bN b2 b3 b4 r++Array.replicate (Tryz.f89.ntmps-(bN b2 b3 b4 r).size) undef)=iO b2 b3 b4 r:=by
  rw[Tryz.ntmps89];rfl
 rw[e0];refine aw hQ hB (Ep _ _) ?_;refine aD hQ hB (Ep _ _) ?_;simp only[AP,AM,AS,Nat.reduceAdd,AO,List.range,List.range.loop];refine aB hQ hB (by kernel_rfl) λτ d=>?_;rw[stepG_defer rfl rfl (by decide) rfl];simp only[eb];refine⟨Ep _ _,w,Di,?_⟩;refine aC hQ hB (Ep _ _) ?_;have eA:∀o:Option Tmp,o=E->(Act.put ⟨iO b2 b3 b4 r,dcall 90 (#[Operand.tmp 0].map (Act.mk (iO b2 b3 b4 r) []).eval)::[]⟩ o undef)=dD b2 b3 b4 r:=by
  rintro o rfl;simp[Act.put,iO,dD,dcall,Lp,Act.eval]
 have hI:∀v∈[J (U ⟨b4,0,E⟩),.pointer (U ⟨b2,0,E⟩),.pointer (U ⟨r,0,E⟩),.pointer (U ⟨b3,0,E⟩),undef,undef,undef,undef,undef,undef,undef,undef],E7 JM H K0 v:=λv hv=>by
  simp only[AJ,AG,or_false] at hv;obtain rfl|rfl|rfl|rfl|rfl|rfl|rfl|rfl|rfl|rfl|rfl|rfl:=hv
  .exact E7.ptr hk.2.2.1 _ _
  .exact E7.ptr hk.1 _ _
  .exact E7.ptr hk.2.2.2 _ _
  .exact E7.ptr hk.2.1 _ _
  all_goals exact E7.undef
 have zR:Er DU JM H y (EK K0) ((baseD 89).at (dD b2 b3 b4 r) [.code PD]) ((baseD 89).at (dD b2 b3 b4 r) [.code PD]):=by
  refine⟨rfl,Fc hI,.cons (.code yd) .nil,.cons ?_ .nil,.run,rfl,⟨(by show CallKind.deferred≠.early;decide),(by show JM 89=Y;decide)⟩,.none⟩;refine .fn (.func (.inr (by decide))) (Fc (l:=[]) (by simp)) (Fc (l:=[.pointer (U ⟨b4,0,E⟩)]) λv hv=>?_);simp only[AJ,AG,or_false] at hv;subst hv;exact E7.ptr hk.2.2.1 _ _
 have a8:=(xU (H:=H) hL hn).seg (b:=baseD 89) (a:=dD b2 b3 b4 r) (c:=PD) (k:=[]) (C:=bad) (cs:=[]) (Q:=Jg Z b4 Ψ) (w:=w) (K0:=K0) zR (λ_ _=>AU _) (AU _) hh aF
  a7 (λs h=>by cases h) (λ_ _ _ _ _ _ _ _ _ _ _ h=>by cases h) (.inr ⟨_,_,Sq.put ez rfl,rfl⟩) hQ
  (N:=λe a' w'=>e=.normal/\Ψ w'/\∃D,a'.defers=[{ target:=.collected D,args:=#[] },Lp b4]/\¬T0 D/\w'.heap[D]?=U (.deferred (U []))) aG ?_ (λa' w' todo h _=>by cases h.1)
 .have e9:=eA (#[({ dst:=E,op:=Op.defer { callee:=Callee.value (Operand.func 90),args:=#[Operand.tmp 0],argTypes:=#[149] },type:=0,pos := "wolf.go:243",after:=#[],guard:=E }:Oper)][0].dst) rfl;rw[e9];exact a8
 .rintro a' w' ⟨_,aA,D,hd,hD,hDw⟩;show EO Z BB (Jg Z b4 Ψ) 0 _ w';refine aB hQ hB (by kernel_rfl) λτ d=>?_;rw[stepG_end];simp only[eb];refine⟨Ep _ _,w',Di,?_⟩;refine dT hQ hB (by kernel_rfl) λτ d=>?_;obtain⟨es,e1⟩:=step_collected (P:=Z) (main:=Y) (b:=baseD 89) (todo:=[]) (cs:=[bad]) (w:=on w' τ d) hd hDw;rw[e1];simp only[eb];refine⟨Ep _ _,{ w' with heap:=w'.heap.setIfInBounds D (.deferred E) },⟨rfl,rfl,rfl⟩,?_⟩
  refine dT hQ hB (by kernel_rfl) λτ d=>?_;rw[stepG_unwind_enter (f:=90) (args:=#[.pointer (U ⟨b4,0,E⟩)]) (ds:=[]) rfl bb (by kernel_rfl) rfl];simp only[eb];refine⟨Ep _ _,{ w' with heap:=w'.heap.setIfInBounds D (.deferred E) },⟨rfl,rfl,rfl⟩,.fin ?_⟩;rw[<-enter_atD _ bb rfl];exact⟨_,rfl,rfl,rfl,rfl,rfl,a6 w' _ aA λb hb=>Bn (λe:D=b=>hD (by rw[e];exact hb))⟩
open Go.ConcN
open Go.ConcR (WgAt wgBlock)
section
variable {SB EB BB QR Ru:bq->Bool} {LN:Bool} {kx tl:Nat->Bool} {Kc:Nat->Prop} {Ok:M->Prop} {cb sb n c:Nat} {f:Fn} {fx fc:Array R} {sets kind:Nat->Int} {FO:Nat->Bool} {oK oE:Nat->Obj}
 {zO:Nat->Prop} {Kp:H6} {x:Lone} {A:cr} {W:M}
abbrev Ig (cb:Nat)(f:Fn)(fx fc:Array R):Array Value:=#[.pointer (U ⟨cb,0,E⟩),.func f fx fc]
noncomputable def inner (kx tl:Nat->Bool)(cb:Nat)(f:Fn)(fx fc:Array R)(x:Lone)(A:cr):Lone :=
 ⟨Go.Eu.EX (bs Z 53 (Ig cb f fx fc) .normal) [bad],(sink kx tl x.w).alloc (.coro E),JF tl x.w,cut (λb=>kx b=Y\/tl b=Y) x.β,A.callers⟩
def jS:((sink kx tl x.w).alloc (.coro E)).heap.size=x.w.heap.size+1:=by rw[aL,ej]
def ir {b:Nat}(hb:b<x.w.heap.size):((sink kx tl x.w).alloc (.coro E)).heap[b]?=(sink kx tl x.w).heap[b]?:=by
 rw[aG,ej,AD (by omega)]
def LO (I:IU SB EB BB x.w kx tl Kc Ok cb sb n c f fx fc sets kind FO oK oE)(lib:∀H,Lib PP SB H Y BB 0){cE:Code}(aD:Tryz.f53.body=U cE)(aC:codeOk Z QR LN Y cE=y)
  (ht:Tw PP QR Ru LN 0 zO Kp x A W) (hH:∀b,x.H b=y) {fr:dS} {cs:List dS} (hg:x.g=ca PP 53 (Ig cb f fx fc) fr cs) :
  Fp PP SB BB Y (inner kx tl cb f fx fc x A) A/\Gy PP SB Y 0 (inner kx tl cb f fx fc x A) W/\(∀b,tl b=Y->Ro (inner kx tl cb f fx fc x A).w b\/(inner kx tl cb f fx fc x A).H b=Y)/\∀b,kx b=Y->Ro (inner kx tl cb f fx fc x A).w b:=by
 have a7:=ht.gl.top;rw[hg] at a7;obtain⟨ARGS,eA,aA⟩:=LM (fa:=Tryz.f53) (fb:=Tryz.f53) eC eC aD aC rfl (by rw[Tryz.ntmps53];simp) a7;have aF:D8 (SP SB (JF tl x.w)) (EK λb=>kx b=Y\/tl b=Y) (Ig cb f fx fc) (Ig cb f fx fc):=Fc λv hv=>by
  simp only[AJ,AG,or_false] at hv;obtain rfl|rfl:=hv
  .exact .ptr (.inl I.ks.1) _ _
  .exact I.Iq _
 refine⟨⟨?_,.base,⟨rfl,ht.gl.status.2⟩,⟨rfl,ht.gl.dying.2⟩,⟨rfl,ht.gl.offers.2⟩⟩,⟨⟨λh1 h2=>ht.wl.Fv.fn h1.2 h2.2,λh1 h2=>ht.wl.Fv.inj h1.2 h2.2,λ_=>⟨AU _,AU _⟩⟩,⟨AU _,AU _⟩,?_,?_,?_,?_⟩,λb hb=>.inr (by simp[inner,hb]),λb hb=>?_⟩
 .rw[eA];exact E6 (P:=PP) (lib _) (.inl I.Ql) (aA.cut rfl aF) .normal (by decide)
 .rintro b B ⟨hk,hb⟩ hh;have a6:(tl b||b==x.w.heap.size)=false:=hh;simp only[Cy] at a6;have a8:kx b=true:=hk.resolve_right (by simp[a6.1]);obtain⟨e1,l,t,g,e2,e3,e4⟩:=I.Qp b a8;obtain⟨o,O,q1,q2,q3⟩:=ht.wl.FJ b B hb (hH b);rw[e2] at q1;cases q1;have zY:=I.lt (.inl a8);cases q3 with
  |cells a z =>
   refine⟨_,_,(ir zY).trans (fV e2 a8 e1),q2,.cells (a.cut rfl (Fc λv hv=>e4 v hv _)) λi h1 h2=>?_⟩;obtain⟨z1,z2⟩:=z i h1 h2;exact⟨AU _,by simpa using e3 i z1 z2⟩
 .rintro b B ⟨hk,hb⟩ hh;have zY:=I.lt hk;have a6:(tl b||b==x.w.heap.size)=true:=hh;have aB:tl b=true:=by
   simp only[Bm,beq_iff_eq] at a6;exact a6.resolve_right (by omega)
  refine⟨(ir zY).trans (kG zY aB),λ_=>?_,λh=>by cases h⟩;obtain⟨e1,⟨l,t,g,e2,e3⟩,_⟩:=I.QQ b aB;obtain⟨o,O,q1,q2,q3⟩:=ht.wl.FJ b B hb (hH b);rw[e1,e2] at q1;cases q1;cases q3 with
  |cells a z=>exact⟨_,_,_,q2⟩
 .intro b hb;have hb':(tl b||b==x.w.heap.size)=true:=hb;show b<((sink kx tl x.w).alloc (.coro E)).heap.size;rw[jS];simp only[Bm,beq_iff_eq] at hb';obtain h|h:=hb'
  .have:=I.lt (.inr h);omega
  .omega
 .exact ht.wl.env
 .obtain⟨e1,l,t,g,e2,e3,e4⟩:=I.Qp b hb;exact⟨_,_,_,(ir (I.lt (.inl hb))).trans (fV e2 hb e1),λi hi=>⟨AU _,hi⟩⟩
def PR {p:Program}{H:Hid}{zZ:Bool}{β:Em}{g:bq}{a:Act}{ops:Array Oper}{l:List Nat}{k:List Item}{F:dS}(h:Er p SB H zZ β ((base g).at a (.inRegion ops l::k)) F) :
  ∃(a':Act) (K:List Item),F=(base g).at a' (.inRegion ops l::K):=by
 obtain⟨h1,h2,h3,h4,h5,h6,h7,h8⟩:=h;obtain⟨f1,f2,f3,f4,f5,f6,f7⟩:=F;dsimp only[Frame.at,base] at h1 h2 h3 h4 h5 h6 h7 h8;subst h1 h6;cases h5;cases h8;cases h3 with
 |cons hi _ =>
  cases hi
  exact⟨⟨f2,f4⟩,_,rfl⟩
noncomputable abbrev gA (cb b2 b3:Nat)(p1:R):Act:=⟨#[.pointer (U ⟨cb,0,E⟩),p1,.pointer (U ⟨b2,0,E⟩),.pointer (U ⟨b3,0,E⟩),undef,undef,undef,undef,undef,undef,undef,undef,undef,undef,undef,undef,undef,undef,undef,undef,undef,undef,undef,undef,undef,undef,undef],[]⟩
noncomputable abbrev kA:List Item:=[.code (.seq (.seq (.region 2 o2 y) (.block 0 (.loop eL))) (.region 10 J0 y))]
def boxed (w:M)(cb:Nat)(p1:R):World:=(w.alloc (ak #[.pointer (U ⟨cb,0,E⟩)] 69)).alloc (ak #[p1] 111)
def QA (cb:Nat)(p1:R)(w0:M)(g:cr)(w:M):Prop:=g=G ((base 53).at (gA cb w0.heap.size (w0.heap.size+1) p1) (.inRegion o1 [0]::kA)) [bad]/\Et (boxed w0 cb p1) w
def MA {P:ED}{zZ:Bool}(hBB:BB 53=Y){x:Lone}{a:cr}{W:M}{cb b2 b3 b4:Nat}{p1:R}(hg:x.g=G ((base 53).at (gA cb b2 b3 p1) (.inRegion o1 [0]::kA)) [bad])(zQ:Fp P SB BB zZ x a)
  {β:Em} (zX:x.β.le β) (hb4:β b4 W.heap.size) :
  ∃a',stepG Z Y a W=.go a' (W.alloc (ak #[.int .u64 0,.int .u32 0] 149)) #[]/\Fp P SB BB zZ ⟨G ((base 53).at ((gA cb b2 b3 p1).put (U 4) (.pointer (U ⟨b4,0,E⟩))) (.inRegion o1 []::kA)) [bad],x.w,x.H,β,x.T⟩ a':=by
 have a6:=zQ.top.IP (by rw[hg];exact hBB);have zW:=zQ.callers;have ea:=iq zQ;rw[hg] at a6 zW;obtain⟨A,K,eA⟩:=PR a6;refine⟨_,by rw[ea,eA];exact pW,?_⟩;have hf:=bp (a6.mono zX) (v:=.pointer (U ⟨b4,0,E⟩)) (V:=.pointer (U ⟨W.heap.size,0,E⟩)) (.ptr 0 E hb4);rw[eA] at hf;have e1:(o1[0]?).bind (·.dst)=U 4:=rfl;change Er _ _ _ _ _ (((base 53).at (gA cb b2 b3 p1) (.inRegion o1 [0]::kA)).finish _) _ at hf
 rw[dy,dy,e1] at hf;exact⟨.on hf,zW.mono λc C h=>h.mono zX,⟨rfl,rfl⟩,⟨rfl,rfl⟩,⟨rfl,rfl⟩⟩
def wn {cb:Nat}{p1:R}{w0:M}(g:cr)(w W:M)(h:Et w W)(q:QA cb p1 w0 g w):QA cb p1 w0 g W:=⟨q.1,q.2.trans h⟩
def p8 (hB:BB 53=Y){w:M}:Ee Z (Fa Z BB) (QA cb (.func f fx fc) w) (Go.Eu.EX (bs Z 53 (Ig cb f fx fc) .normal) [bad]) w :=
 vU hB wn (by simp) (.fin ⟨rfl,rfl,rfl,rfl⟩)
def bu (w:M)(p1:R)(b:Nat):(Gz kx tl w cb p1).heap[b]?=if b=w.heap.size+2 then U (ak #[p1] 111 (0,1)) else if b=w.heap.size+1 then U (ak #[.pointer (U ⟨cb,0,E⟩)] 69 (0,1)) else if b=w.heap.size then U (.coro E) else(sink kx tl w).heap[b]?:=by
 have z:=ej kx tl w;have g:∀b,((((sink kx tl w).alloc (.coro E)).alloc (ak #[.pointer (U ⟨cb,0,E⟩)] 69)).alloc (ak #[p1] 111)).heap[b]?=if b=w.heap.size+2 then U (ak #[p1] 111) else if b=w.heap.size+1 then U (ak #[.pointer (U ⟨cb,0,E⟩)] 69) else if b=w.heap.size then U (.coro E) else(sink kx tl w).heap[b]?:=λb=>by
  rw[aG,aL,aL,aG,aL,aG,z]
 unfold Gz;by_cases h2:b=w.heap.size+2
 .subst h2;rw[AF rfl];exact dt (c:=#[p1]) (t:=111) (f:=(0,0)) (by rw[fg _ (by omega),g,AF rfl])
 .rw[AD h2,fg _ h2];by_cases h1:b=w.heap.size+1
  .subst h1;rw[AF rfl];exact dt (c:=#[.pointer (U ⟨cb,0,E⟩)]) (t:=69) (f:=(0,0)) (by rw[g,AD (by omega),AF rfl])
  .rw[AD h1,fg _ h1,g,AD h2,AD h1]
def dZ (w:M)(p1:R):(Gz kx tl w cb p1).heap.size=w.heap.size+3:=by
 unfold Gz;rw[cY,cY,aL,aL,aL,ej]
def rP (w:M)(p1:R):(Gz kx tl w cb p1).os=w.os:=by
 unfold Gz;rw[gu,gu];rfl
def p9 (I:IU SB EB BB x.w kx tl Kc Ok cb sb n c f fx fc sets kind FO oK oE):Head SB (JF tl x.w) 0 (Mk kx tl x.w) Ok (Mk kx tl x.w) (Gz kx tl x.w cb (.func f fx fc)):=by
 have hk:∀b,kx b=Y\/tl b=Y->b<x.w.heap.size:=λb h=>I.lt h;refine⟨λ_ h=>h,λb hb hh=>?_,λb hb hh=>?_,λ_ _=>AU _,λb hb=>?_,λb hb=>?_,AU _,I.ok⟩
 .have a6:(tl b||b==x.w.heap.size)=false:=hh;simp only[Cy,beq_eq_false_iff_ne] at a6;rw[bu];unfold Ro;rw[bu];obtain h|h|h|h|h:=hb
  .have hl:=hk b (.inl h);obtain⟨e1,l,t,g,e2,e3,e4⟩:=I.Qp b h;rw[AD (by omega),AD (by omega),AD (by omega),fV e2 h e1];exact⟨⟨_,_,_,rfl,λi hi=>⟨AU _,hi⟩⟩,_,rfl,.cells (Fc λv hv=>(e4 v hv _).mono λb hb=>hb.elim .inl λh=>.inr (.inl h)) λi h1 h2=>⟨h1,h2⟩⟩
  .rw[a6.1] at h;cases h
  .exact AI h a6.2
  .subst h;rw[AD (by omega),AF rfl]
   exact⟨⟨_,_,_,rfl,λi hi=>⟨AU _,hi⟩⟩,_,rfl,.cells (Fc (l:=[_]) λv hv=>by
    simp only[AJ,AG,or_false] at hv;subst hv
    exact .ptr (.inl I.ks.1) _ _) λi h1 h2=>⟨h1,h2⟩⟩
  .subst h;rw[AF rfl]
   exact⟨⟨_,_,_,rfl,λi hi=>⟨AU _,hi⟩⟩,_,rfl,.cells (Fc (l:=[_]) λv hv=>by
    simp only[AJ,AG,or_false] at hv;subst hv
    exact(I.Iq _).mono λb hb=>hb.elim .inl λh=>.inr (.inl h)) λi h1 h2=>⟨h1,h2⟩⟩
 .have a6:(tl b||b==x.w.heap.size)=true:=hh;simp only[Bm,beq_iff_eq] at a6;rw[bu];obtain h|h:=a6
  .have hl:=hk b (.inr h);rw[AD (by omega),AD (by omega),AD (by omega),kG hl h]
  .subst h;rw[AD (by omega),AD (by omega),AF rfl]
 .rw[dZ];obtain h|h|h|h|h:=hb
  .have:=hk b (.inl h);omega
  .have:=hk b (.inr h);omega
  all_goals omega
 .have hb':(tl b||b==x.w.heap.size)=true:=hb;simp only[Bm,beq_iff_eq] at hb';rw[dZ];obtain h|h:=hb'
  .have:=hk b (.inr h);omega
  .omega
def oF (tpn:Bool)(oK oE:Nat->Obj):Nat->Obj:=if tpn then oK else oE
def KL {sl:Option (Nat×Nat)}{gs:Array cr}{t:Trace}{q:Nat->Nat}(I:IU SB EB BB x.w kx tl Kc Ok cb sb n c f fx fc sets kind FO oK oE)(lib:∀H,Lib PP SB H Y BB 0){cE:Code}(cU:Tryz.f53.body=U cE)(cG:codeOk Z QR LN Y cE=y)
  {L:Lib.WgLink} (Wl:Lib.WgLib Z L) (h91:L.add=88) (h94:L.wait=91) (Mj:L.done=90) (hT:L.tWg=149) (bA:Go.Co.Barred PP SB Y L.add (Lib.addFn L)) (bW:Go.Co.Barred PP SB Y L.wait (Lib.waitFn L)) (bD:Go.Co.Barred PP SB Y L.done (Lib.doneFn L))
  (hb:IZ Z zO gs W t q) (ht:Tw PP QR Ru LN 0 zO Kp x A W) (h0:gs[0]?=U A) {fr:dS} {cs:List dS} (hg:x.g=ca PP 53 (Ig cb f fx fc) fr cs) (hc:ff fr) (hH:∀b,x.H b=y)
  (aV:∀b,kx b=Y\/tl b=Y->∃B,x.β b B) (hKp:∀b B,x.β b B->tl b=Y->¬Kp.at_ B) (cX:gs.size+n<=2147483647) :
  ∃N m' t',runNT Z N (bc gs W sl) t=(.next m',t')/\∃gs' W' sl' q' A' aI,m'=bc gs' W' sl'/\gs'[0]?=U A'/\gs'.size<=gs.size+n/\IZ Z aI gs' W' t' q' /\
   Tw PP QR Ru LN 0 aI Kp ⟨back fr cs,Hh tl (oF (FO n) oK oE) x.w,x.H,x.β,x.T⟩ A' W'/\(W'.os=W.os/\W'.output=W.output)/\W.heap.size<=W'.heap.size/\∀B,aI B->zO B\/W.heap.size<=B:=by
 obtain⟨s1,s2,s3,s4⟩:=LO I lib cU cG ht hH hg;have zW:=ht.gl.callers;rw[hg] at zW;obtain⟨FR,CS,cV,r1,r2⟩:=Jf zW hc;have a8:∀b B,x.β b B->¬zO B:=λb B hb hd=>by have:=ht.dead b B hb hd;rw[hH] at this;cases this
 have aC:∀b B,x.β b B->b<x.w.heap.size/\B<W.heap.size:=λb B h=>ht.wl.lt h;have bC:∀b,kx b=Y\/tl b=Y->b<x.w.heap.size:=λb h=>I.lt h;have aP:((sink kx tl x.w).alloc (.coro E)).heap.size=x.w.heap.size+1:=jS;have kx0:∀b B,(inner kx tl cb f fx fc x A).β b B->(inner kx tl cb f fx fc x A).H b=Y\/Ro (inner kx tl cb f fx fc x A).w b:=λb B hb=>hb.1.elim (λh=>.inr (s4 b h)) λh=>.inl (by simp[inner,h])
 obtain⟨N1,m1,t1,zj,c4,W1,bE,q1,x1,a1,rfl,g1,z1,b1,aW,Q1,bF,eT1,c5,os1,sz1,sz1',bG⟩:=JO (P:=PP) (SB:=SB) (BB:=BB) (zZ:=Y) (Gn:=0) (zO:=zO) (Kp:=⟨λB=>B<W.heap.size,W,0⟩) lib
  (H:=JF tl x.w) (T:=A.callers) (β:=cut (λb=>kx b=Y\/tl b=Y) x.β) (Q:=QA cb (.func f fx fc) ((sink kx tl x.w).alloc (.coro E))) (os:=W.os) (ou:=W) (n:=gs.size) (b0:=x.w.heap.size+1) (B0:=W.heap.size) _ (bc gs W sl) t
  ⟨gs,W,sl,q,inner kx tl cb f fx fc x A,A,rfl,h0,rfl,hb,⟨s1,s2,rfl,λb B hb hd=>AI hd (a8 b B hb.2),λB hB=>⟨hB,rfl⟩,λb B hb _=>kx0 b B hb⟩,p8 I.hB,rfl,rfl,Em.le_refl _,⟨rfl,rfl⟩,⟨AA _,BR aP.symm,λb B h=>.inl h⟩,rfl⟩
 obtain⟨Q1g,bH⟩:=Q1;rw[aP] at Q1g;obtain⟨N2,m2,t2,zz,cY,d2,aQ,q2,cA,g2,z2,b2⟩:=KJ (P:=PP) (sl:=bE) b1 g1 aW.gl.status.2;obtain⟨W2,zn⟩:∃W2,W2=W1.at d2:=⟨_,rfl⟩;have aR:=aW.at d2;rw[<-zn] at cA b2 aR;have W2h:W2.heap=W1.heap:=by rw[zn];rfl
 have W2o:W2.os=W1.os/\W2.output=W1.output:=by rw[zn];exact⟨rfl,rfl⟩
 have aU:∀b B,tl b=Y->(x1.β b B↔x.β b B):=λb B h=>by
  obtain⟨B',hB'⟩:=aV b (.inr h);have h1:=c5 b B' ⟨.inr h,hB'⟩;exact⟨λh2=>by rw[aW.wl.Fv.fn h2 h1];exact hB',λh2=>c5 b B ⟨.inr h,h2⟩⟩
 have aX:∀B,¬x1.β x.w.heap.size B:=λB h=>by
  obtain h|h:=bG _ _ h
  .have:=bC _ h.1;omega
  .omega
 have lt1:∀b B,x1.β b B->B<W2.heap.size:=λb B h=>by rw[W2h];exact(aW.wl.lt h).2
 have bI:∀b B,x1.β b B->B<W.heap.size->x.β b B/\(kx b=Y\/tl b=Y):=λb B h hB=>by
  obtain h|h:=bG _ _ h
  .exact⟨h.2,h.1⟩
  .omega
 obtain⟨a6,aJ⟩:∃a6,a6=more x1.β x.w.heap.size W2.heap.size:=⟨_,rfl⟩;have cB:x1.β.le a6:=by rw[aJ];exact oQ _ _ _
 have aS:∀b B,a6 b B->x1.β b B\/(b=x.w.heap.size/\B=W2.heap.size):=λb B h=>by rw[aJ] at h;exact h
 have aK:a6 x.w.heap.size W2.heap.size:=by rw[aJ];exact .inr ⟨rfl,rfl⟩
 obtain⟨A3,st3,gl3⟩:=MA I.hB Q1g aR.gl cB aK;obtain⟨W3,hW3⟩:∃W3,W3=W2.alloc (ak #[.int .u64 0,.int .u32 0] 149):=⟨_,rfl⟩;rw[<-hW3] at st3;have bU:∀B,B<W2.heap.size->W3.heap[B]?=W2.heap[B]?:=λB h=>by rw[hW3,aG,AD (by omega)]
 have cW:W3.heap.size=W2.heap.size+1:=by rw[hW3,aL]
 have bJ:W3.os=W2.os/\W3.output=W2.output:=by rw[hW3];exact⟨rfl,rfl⟩
 obtain⟨aY,cH,z3,g3,lv3⟩:=b2.QP (P:=PP) (sl:=aQ) g2 st3;have hr3:runNT Z (N1+(N2+1)) (bc gs W sl) t=(.next (bc aY W3 aQ),t2):=by
  have e1:runNT Z N1 (bc gs W sl) t=(.next (bc c4 W1 bE),t1):=zj;have e2:runNT Z N2 (bc c4 W1 bE) t1=(.next m2,t2):=zz;have e3:stepT Z m2=(.next (bc aY W3 aQ),#[]):=cA.trans cH;rw[cZ e1,cZ e2,oS e3,Array.append_empty]
 have wl3:EI (SP SB (JF tl x.w)) (CK Z SB Y) 0 a6 (Gz kx tl x.w cb (.func f fx fc)) W3:=by
  have e1:EI (SP SB (JF tl x.w)) (CK Z SB Y) 0 x1.β x1.w W2:=by have:=aR.wl;rw[Gy,bF] at this;exact this
  have bx:∀b,x1.w.heap[b]?=if b=x.w.heap.size+2 then U (ak #[.func f fx fc] 111) else if b=x.w.heap.size+1 then U (ak #[.pointer (U ⟨cb,0,E⟩)] 69) else if b=x.w.heap.size then U (.coro E) else(sink kx tl x.w).heap[b]?:=λb=>by
   rw[bH.1,boxed,aG,aL,aP,aG,aP,aG,ej]
  have e2:=rL (c:=#[.int .u64 0,.int .u32 0]) (ty:=149) (f:=(0,0)) e1 (b:=x.w.heap.size) aX (by simp) rfl (by rw[bx,AD (by omega),AD (by omega),AF rfl]) (AU _);rw[<-aJ] at e2;rw[hW3];refine rO e2 ?_ ?_ λb=>?_
  .rw[dZ,bH.1,boxed,aL,aL,aP]
  .rw[rP,bH.2.1];rfl
  .rw[bu,bx];by_cases h2:b=x.w.heap.size+2
   .rw[AF h2,AF h2];exact .inr ⟨_,_,_,_,rfl,rfl,λi h1 h2=>by simp at h2⟩
   .rw[AD h2,AD h2];by_cases h1:b=x.w.heap.size+1
    .rw[AF h1,AF h1];exact .inr ⟨_,_,_,_,rfl,rfl,λi h1 h2=>by simp at h2⟩
    .rw[AD h1,AD h1];exact .inl rfl
 obtain⟨zN,a7⟩:∃zN:Nat->Prop,zN=λB=>∃b,tl b=Y/\x.β b B:=⟨_,rfl⟩;obtain⟨Pr,aA⟩:∃Pr:Em,Pr=cut (Mk kx tl x.w) a6:=⟨_,rfl⟩;have aB:∀B,zN B->B<W.heap.size:=λB h=>by rw[a7] at h;obtain⟨b,_,h⟩:=h;exact(aC _ _ h).2
 have W23:W2.heap.size=W1.heap.size:=by rw[W2h]
 have n0:∀b,kx b=Y\/tl b=Y->b≠x.w.heap.size:=λb h e=>by have:=bC b h;omega
 have aM:∀b B,tl b=Y->(a6 b B↔x.β b B):=λb B h=>⟨λh3=>by
  obtain h4|h4:=aS b B h3
  .exact(aU b B h).1 h4
  .exact AI h4.1 (n0 b (.inr h)),λh3=>cB _ _ ((aU b B h).2 h3)⟩
 have bK:∀b B,a6 b B->zN B->tl b=true:=λb B h hB=>by
  have zY:=aB B hB;rw[a7] at hB;obtain⟨b',h1,h2⟩:=hB;obtain h4|h4:=aS b B h
  .have h5:=(bI b B h4 zY).1;rw[ht.wl.Fv.inj h5 h2];exact h1
  .omega
 have C:=I.ctx (β:=x.β) (Pr:=Pr) (T:=A.callers) (zN:=zN) (Wg:=W2.heap.size) lib Wl Mj hT bD (λb B h1 h2=>by rw[aA] at h1;rw[a7];exact⟨b,h2,(aM b B h2).1 h1.2⟩)
  (λb h=>by obtain⟨B,hB⟩:=aV b (.inr h);exact⟨B,by rw[aA];exact⟨.inr (.inl h),(aM b B h).2 hB⟩⟩) (λb B h=>by rw[aA] at h;exact h.1) (by rw[aA];exact⟨.inr (.inr (.inl rfl)),aK⟩) (λh=>by have:=aB _ h;omega)
  (λb B h=>by rw[aA];exact⟨λh1=>(aM b B h).1 h1.2,λh1=>⟨.inr (.inl h),(aM b B h).2 h1⟩⟩)
 have KC:=p9 I;have sw:∀b,b<x.w.heap.size+3->(Gz kx tl x.w cb (.func f fx fc)).heap[b]?≠none:=λb hb=>by rw[Ne,Array.getElem?_eq_none_iff,dZ];omega
 have scr : PL PP SB BB Y 0 149 W2.heap.size zN (La x.β tl oK) (La x.β tl oE) 88 91 x.w.heap.size Pr A.callers (Rt BB tl x.w (FO n)) n Y (JF tl x.w)
   (G ((base 53).at ((gA cb (x.w.heap.size+1) (x.w.heap.size+1+1) (.func f fx fc)).put (U 4) (.pointer (U ⟨x.w.heap.size,0,E⟩))) (.inRegion o1 []::kA)) [bad]) (Gz kx tl x.w cb (.func f fx fc)):=by
  obtain⟨e1,v,e2⟩:=I.hold _ I.ok;refine vV I.hB (du C.LL n) (by simp) (I.Nt _ I.ok) e1 e2 ?_
  have:=ua C (λb B h=>by rw[aA] at h;exact h.1) n 0 (by omega) (Mk kx tl x.w) _ KC undef undef undef (.pointer (U ⟨cb,0,E⟩)) (.pointer (U ⟨cb,0,E⟩)) (.pointer (U ⟨cb,2,E⟩)) undef undef undef undef undef undef undef undef undef undef undef undef undef (λv hv=>by
   simp only[AJ,AG,or_false] at hv
   rcases hv with rfl|rfl|rfl|rfl|rfl|rfl|rfl|rfl|rfl|rfl|rfl<;>first|exact DZ.undef _ _|exact .ptr (.inl I.ks.1) _ _)
  rw[I.tp0] at this;exact this
 have bV:=aR.keep;have bL:∀B,B<W.heap.size->W3.heap[B]?=W.heap[B]?:=λB hB=>by
  obtain⟨h1,h2⟩:=bV B hB;rw[bU B h1];exact h2
 have bX:W3.os=W.os/\W3.output=W.output:=⟨bJ.1.trans (W2o.1.trans os1.1),bJ.2.trans (W2o.2.trans os1.2)⟩;obtain⟨x3,hx3⟩:∃x3:Lone,x3=⟨G ((base 53).at ((gA cb (x.w.heap.size+1) (x.w.heap.size+1+1) (.func f fx fc)).put (U 4) (.pointer (U ⟨x.w.heap.size,0,E⟩))) (.inRegion o1 []::kA)) [bad],Gz kx tl x.w cb (.func f fx fc),JF tl x.w,a6,A.callers⟩:=⟨_,rfl⟩;have cI:Fp PP SB BB Y x3 A3:=by rw[hx3];rw[bF,eT1] at gl3;exact gl3
 have b3:x3.β=a6:=by rw[hx3]
 have H3:x3.H=JF tl x.w:=by rw[hx3]
 have wg3:∀b,a6 b W2.heap.size->(JF tl x.w).at_ b=true:=λb hb=>by
  obtain h|h:=aS _ _ hb
  .have:=lt1 _ _ h;omega
  .simp[h.1]
 have nd3:∀b B,a6 b B->¬zO B:=λb B hb hd=>by
  obtain h|h:=aS _ _ hb
  .have h1:=aR.dead b B h hd;rw[bF] at h1;simp only[Bm,beq_iff_eq] at h1;obtain h1|rfl:=h1
   .exact a8 b B ((aU b B h1).1 h) hd
   .exact aX _ h
  .have:=b2.low B hd;omega
 have bM:∀b B,a6 b B->B<W.heap.size->(JF tl x.w).at_ b=Y\/Ro (Gz kx tl x.w cb (.func f fx fc)) b:=λb B hb hB=>by
  obtain h|h:=aS _ _ hb
  .obtain h|h:=(bI b B h hB).2
   .have hl:=bC b (.inl h);obtain⟨q1,l,ty,g,q2,q3,q4⟩:=I.Qp b h;refine .inr ?_;unfold Ro;rw[bu,AD (by omega),AD (by omega),AD (by omega),fV q2 h q1];exact⟨_,_,_,rfl,λi hi=>⟨AU _,hi⟩⟩
   .exact .inl (by simp[h])
  .exact .inl (by simp[h.1])
 have bY:La x.β tl oK W3:=λb B hb h=>by
  obtain⟨o,O,p1,p2,p3⟩:=ht.wl.FJ b B hb (hH b);obtain⟨q1,q2,_⟩:=I.QQ b h;rw[q1] at p1;cases p1;exact⟨O,(bL B (aC b B hb).2).trans p2,λS Ck D6=>q2.rel p3⟩
 obtain⟨μ,hinv⟩:=LI (P:=PP) (SB:=SB) (BB:=BB) (zZ:=Y) (Gn:=0) (ty:=149) (Wg:=W2.heap.size) (zO:=zO) (zN:=zN) (Kp:=⟨λB=>B<W.heap.size/\¬zN B,W,gs.size+n⟩) (Ψ0:=La x.β tl oK) (Ψ2:=La x.β tl oE) (fA:=88) (fW:=91) (wl:=x.w.heap.size) (Pr:=Pr) (T:=A.callers) (Fn:=Rt BB tl x.w (FO n))
  (gs:=aY) (W:=W3) (t:=t2) (q:=q2) (sl:=aQ) (x:=x3) (a:=A3) (tp:=Y) (k:=n) lv3 b2.past b2.quiet (λi op h=>by rw[z3];exact b2.Ob i op h) b2.low (by show W3.heap[W2.heap.size]?=_;rw[hW3,aG,AF rfl];rfl) g3
  cI (by rw[hx3];exact wl3) (by rw[H3]) (by rw[hx3]) (λb B h=>by rw[aA] at h;rw[b3];exact h.2) (λb hb=>by rw[b3] at hb;rw[H3];exact wg3 b hb) (λb B hb=>by rw[b3] at hb;exact nd3 b B hb) (λb B hb hB=>by rw[b3] at hb;rw[H3];simp[bK b B hb hB])
  (λB hB=>⟨⟨by have:=aB B hB;omega,λhd=>by rw[a7] at hB;obtain⟨b,_,h⟩:=hB;exact a8 _ _ h hd⟩,λh=>h.2 hB,by have:=aB B hB;omega⟩)
  (λB hB=>⟨by have:=hB.1;omega,by have:=hB.1;omega,bL B hB.1⟩) (λb B hb hB=>by rw[b3] at hb;have:=bM b B hb hB.1;rw[hx3];exact this) bX ⟨λ_=>bY,λh=>(by cases h)⟩ (by rw[hx3];exact scr) (by simp only;omega)
 have tzK:ax zN (La x.β tl oK):=λW W' hW h b B h1 h2=>by
  obtain⟨O,h3,h4⟩:=h b B h1 h2;exact⟨O,(hW B (by rw[a7];exact⟨b,h2,h1⟩)).trans h3,h4⟩
 have tzE:ax zN (La x.β tl oE):=λW W' hW h b B h1 h2=>by
  obtain⟨O,h3,h4⟩:=h b B h1 h2;exact⟨O,(hW B (by rw[a7];exact⟨b,h2,h1⟩)).trans h3,h4⟩
 have hA:=QN (P:=PP) (SB:=SB) (BB:=BB) (zZ:=Y) (Gn:=0) (Wg:=W2.heap.size) (T:=A.callers) (L:=L) Wl bA x.w.heap.size;have hW:=x9 (P:=PP) (SB:=SB) (BB:=BB) (zZ:=Y) (Gn:=0) (Wg:=W2.heap.size) (T:=A.callers) (L:=L) Wl bW x.w.heap.size;rw[hT,h91] at hA;rw[hT,h94] at hW;obtain⟨N4,m4,t4,hr4,cJ⟩:=join (by rw[aA];exact⟨.inr (.inr (.inl rfl)),aK⟩) lib (λf fn h _=>h) tzK tzE hA hW hinv;obtain⟨aF,W4,aZ,x4,a4,tp4,q4,rfl,g4,lv4,bZ,bN,cK,aN,wl4,tw4,wg4,c0,cL,c2,cM,dl4,cN,cO,os4,ou4,bd4,bO⟩:=LH cJ
 obtain⟨e4,eH4,r4⟩:=aN.fin;have cP:∀B,B<W.heap.size->B<W4.heap.size:=λB h=>by omega
 have b4:IZ Z (λB=>zO B\/B=W2.heap.size) aF W4 t4 q4:=⟨lv4,bZ,bN,cK,λB hB=>hB.elim (dl4 B) λh=>h▸cM⟩
 have cQ:Tw PP SB BB Y 0 (λB=>zO B\/B=W2.heap.size) ⟨λB=>B<W.heap.size,W4,0⟩ x4 a4 W4:=⟨aN.gl,wl4,tw4,λb B hb hd=>hd.elim (λh=>AI h (c0 b B hb)) λh=>wg4 b (h▸hb),λB hB=>⟨cP B hB,rfl⟩,λb B hb hB=>by
  by_cases cC:zN B
  .exact .inl (cL b B hb cC)
  .exact bO b B hb ⟨hB,cC⟩⟩
 obtain⟨N5,m5,t5,hr5,cD,W5,bP,q5,x5,a5,rfl,g5,z5,b5,b8,Q5,eH5,eT5,le5,os5,sz5,sz5',new5⟩:=JO (P:=PP) (SB:=SB) (BB:=BB) (zZ:=Y) (Gn:=0) (Kp:=⟨λB=>B<W.heap.size,W4,0⟩) lib
  (H:=x4.H) (T:=x4.T) (β:=x4.β) (Q:=Eu.Left Z 53 λv _=>v=.tuple #[]) (os:=W4.os) (ou:=W4) (n:=aF.size) (b0:=0) (B0:=W4.heap.size) _ (bc aF W4 aZ) t4
  ⟨aF,W4,aZ,q4,x4,a4,rfl,g4,rfl,b4,cQ,r4,rfl,rfl,Em.le_refl _,⟨rfl,rfl⟩,⟨AA _,AU _,λb B h=>.inl h⟩,rfl⟩
 obtain⟨N6,m6,t6,hr6,gs6,d6,b9,q6,st6,g6,z6,b6⟩:=KJ (P:=PP) (sl:=bP) b5 g5 b8.gl.status.2;have bB:=b8.at d6;have cR:FX PP SB x5.H Y BB (FR::CS) x5.β x5.g a5:=by
  have:=b8.gl;rw[Fp,eT5,aN.t,cV] at this;exact this
 obtain⟨v,w0,w1,V,W7,ES,β7,_,hv,_,st7,hV,aD⟩:=leave (P:=PP) (lib x5.H) (main2:=Y) Q5 I.hB cR bB.wl;subst hv;have eV:V=.tuple #[]:=by
  cases hV with
  |@tuple _ X h1 _ =>
   have:X=#[]:=by simpa using h1.symm
   rw[this]
 subst eV;obtain⟨bQ,bS,cS,z7,g7,b7⟩:=b6.fin (P:=PP) (SB:=SB) (zZ:=Y) (Gn:=0) (x:=x5) b8.tw bB.dead g6 st7 aD b9;obtain⟨c3,_⟩:=Ko (P:=PP) (SB:=SB) (zZ:=Y) (Gn:=0) (x:=x5) aD bB.keep bB.FI;have zA:runNT Z ((N1+(N2+1))+(N4+(N5+(N6+1)))) (bc gs W sl) t=(.next (bc bQ W7 b9),t6++bS):=by
  have e4:runNT Z N4 (bc aY W3 aQ) t2=(.next (bc aF W4 aZ),t4):=hr4;have e5:runNT Z N5 (bc aF W4 aZ) t4=(.next (bc cD W5 bP),t5):=hr5;have e6:runNT Z N6 (bc cD W5 bP) t5=(.next m6,t6):=hr6;have e7:stepT Z m6=(.next (bc bQ W7 b9),bS):=st6.trans cS;rw[cZ hr3,cZ e4,cZ e5,cZ e6,oS e7]
 have aO:∀B,B<W.heap.size->B<W7.heap.size/\W7.heap[B]?=W4.heap[B]?:=λB hB=>c3 B hB;have aH:∀B,B<W.heap.size->¬zN B->W7.heap[B]?=W.heap[B]?:=λB hB hT=>(aO B hB).2.trans (c2 B ⟨hB,hT⟩);have W5s:W5.heap.size<=W7.heap.size:=aD.SIZE;have cT:∀b B,x.β b B->tl b=Y->∃O,W7.heap[B]?=U O/\∀(S:Fy) (Ck:Code->Prop) (D6:Em),EW S Ck D6 (oF (FO n) oK oE b) O:=λb B hb h=>by
  have hE:=(aO B (aC b B hb).2).2;rw[hE];cases cF:FO n with
  |true=>exact cN (by rw[e4];exact cF) b B hb h
  |false=>exact cO (by rw[e4];exact cF) b B hb h
 have bT:∀b B,x.β b B->tl b=y->¬zN B:=λb B hb h hT=>by
  rw[a7] at hT;obtain⟨b',h1,h2⟩:=hT;rw[ht.wl.Fv.inj hb h2] at h;rw[h] at h1;cases h1
 have os7:W7.os=W.os/\W7.output=W.output:=⟨aD.OS.trans (os5.1.trans os4),aD.OUT.trans (os5.2.trans ou4)⟩;refine⟨_,_,_,zA,bQ,W7,b9,q6,_,_,rfl,g7,?_,b7,⟨jq (x:=⟨back fr cs,Hh tl (oF (FO n) oK oE) x.w,x.H,x.β,x.T⟩) r1 r2,⟨ht.wl.Fv,⟨AU _,AU _⟩,λb B hb hh=>?_,λb B hb hh=>?_,λb hh=>?_,?_⟩,ht.tw,λb B hb hd=>?_,λB hB=>?_,λb B hb hB=>?_⟩,os7,by omega,λB hB=>hB.imp id λh=>by rw[h];omega⟩
 .rw[z7,z6,z5];exact bd4
 .have hl:=(aC b B hb).1;rw[bR _ _ _ _ hl];cases h:tl b with
  |true =>
   obtain⟨O,h1,h2⟩:=cT b B hb h;exact⟨_,O,rfl,h1,h2 _ _ _⟩
  |false =>
   obtain⟨o,O,p1,p2,p3⟩:=ht.wl.FJ b B hb (hH b);exact⟨o,O,p1,(aH B (aC b B hb).2 (bT b B hb h)).trans p2,p3⟩
 .have aT:x.H b=true:=hh;rw[hH] at aT;cases aT
 .have aT:x.H b=true:=hh;rw[hH] at aT;cases aT
 .show x.w.os.env=W7.os.env;rw[os7.1];exact ht.wl.env
 .obtain hd|hd:=hd
  .exact AI hd (a8 b B hb)
  .have:=(aC b B hb).2;omega
 .obtain⟨k1,k2⟩:=ht.keep B hB;refine⟨(aO B k1).1,(aH B k1 λhT=>?_).trans k2⟩;rw[a7] at hT;obtain⟨b,h1,h2⟩:=hT;exact hKp b B h2 h1 hB
 .obtain h|⟨c',t',f',h1,h2⟩:=ht.FI b B hb hB
  .exact .inl h
  .refine .inr ⟨c',t',f',?_,h2⟩;show(Hh tl _ x.w).heap[b]?=_;rw[bR _ _ _ _ (aC b B hb).1];cases h:tl b with
   |true=>exact AI hB (hKp b B hb h)
   |false=>exact h1
end
abbrev Js:=List (Nat×List R×df)
def zB (o:Js)(b:Nat):Bool:=o.any λp=>p.1==b
def Hw {o:Js}{b:Nat}(h:zB o b=Y):∃p∈o,p.1=b:=by
 obtain⟨p,h1,h2⟩:=dn.1 h;exact⟨p,h1,by simpa using h2⟩
def jY {o:Js}{p:Nat×List R×df}(h:p∈o):zB o p.1=true:=dn.2 ⟨p,h,by simp⟩
def bj {o e:Js}{b:Nat}:zB (o++e) b=(zB o b||zB e b):=List.any_append ..
def RA:List FuncId:=Qe++[88,90,91,115,116,154,155,156]
def Ld (f:bq):Bool:=RA.contains f
def Oh (f:bq):Bool:=Ld f&&!(f==88||f==90||f==91||f==154||f==156)
def oX:MU Oh:=by
 refine⟨λf hf=>?_,by decide,by decide⟩;have:Qe.all Oh=true:=by decide
 exact mn this f hf
def oY:∀f,Mz f=Y->Oh f=true:=λf hf=>by
 have:Q8.all Oh=true:=by decide
 exact kI this f hf
def Ih (W:M)(o:Js):Prop:=∀p∈o,∃f,W.heap[p.1]?=U (.cells p.2.1.toArray p.2.2 f)
structure FK (w:M)(co ex:Js)(tb cb sb cap:Nat)(nA hA:Option Addr)(nc F:Nat)(fc:List R)(oK oE:Obj):Prop where
 obj:∀p∈co++ex,w.heap[p.1]?=U (.cells p.2.1.toArray p.2.2 (0,0))
 I3:w.heap[tb]?=U oK
 O7:G7 oK/\G7 oE
 nt:zB (co++ex) tb=y
 QU:∀p∈co,∀v∈p.2.1,∀(SB:bq->Bool) (H:Hid),E7 SB H (λb=>zB co b=Y) v
 Q9:∀p∈ex,∀v∈p.2.1,∀(SB:bq->Bool) (H:Hid),SB 57=Y->E7 SB H (λb=>zB (co++ex) b=Y) v
 Ra:∀v∈fc,∀(SB:bq->Bool) (H:Hid),E7 SB H (λb=>zB (co++ex) b=Y\/b=tb) v
 sF:JM F=Y/\Ld F=Y
 cF:∀(x:Array R) (w:M),(eF F x).run DU w=.ok (.enter F x) w
 Pq:zB co cb=Y
 Qo:zB co sb=Y
 F4:∀W:M,Ih W co->FZ W (λb=>zB co b=Y) cb Ei (En 3) nA hA nc 3 sb cap
abbrev Nu (co ex:Js):Nat->Bool:=zB (co++ex)
abbrev KE (tb:Nat):Nat->Bool:=λb=>b==tb
def PT (kx tl:Nat->Bool)(w:M)(cb:Nat)(p1:R)(w':M):Prop:=∀b,Mk kx tl w b->w'.heap[b]?=(Gz kx tl w cb p1).heap[b]?
section
variable {w:M} {co ex:Js} {tb cb sb cap:Nat} {nA hA:Option Addr} {nc F:Nat} {fc:List R} {oK oE:Obj}
def FK.lt (S:FK w co ex tb cb sb cap nA hA nc F fc oK oE){b:Nat}(h:Nu co ex b=Y\/KE tb b=Y):b<w.heap.size:=by
 obtain h|h:=h
 .obtain⟨p,h1,rfl⟩:=Hw h;exact(Az.1 (S.obj p h1)).1
 .have:b=tb:=by simpa using h
  subst this;exact(Az.1 S.I3).1
def FK.at_ (S:FK w co ex tb cb sb cap nA hA nc F fc oK oE){p1:R}{w':M}(h:PT (Nu co ex) (KE tb) w cb p1 w') :
  (∀p∈co++ex,w'.heap[p.1]?=U (.cells p.2.1.toArray p.2.2 (0,p.2.1.toArray.size)))/\w'.heap[tb]?=U (.coro E)/\w'.heap[w.heap.size]?=U (.coro E) /\
   w'.heap[w.heap.size+1]?=U (ak #[.pointer (U ⟨cb,0,E⟩)] 69 (0,1))/\w'.heap[w.heap.size+2]?=U (ak #[p1] 111 (0,1)):=by
 refine⟨λp hp=>?_,?_,?_,?_,?_⟩
 .have hk:Nu co ex p.1=true:=jY hp;have hl:=S.lt (.inl hk);have ht:KE tb p.1=false:=by
   cases hc:KE tb p.1 with
   |false=>rfl
   |true =>
    have:p.1=tb:=by simpa using hc
    have h2:=S.nt;rw[<-this] at h2;rw[show zB (co++ex) p.1=Y from hk] at h2;cases h2
  rw[h _ (.inl hk),bu,AD (by omega),AD (by omega),AD (by omega),fV (S.obj p hp) hk ht]
 .have hl:=S.lt (b:=tb) (.inr (by simp));rw[h _ (.inr (.inl (by simp))),bu,AD (by omega),AD (by omega),AD (by omega),kG hl (by simp)]
 .rw[h _ (.inr (.inr (.inl rfl))),bu,AD (by omega),AD (by omega),AF rfl]
 .rw[h _ (.inr (.inr (.inr (.inl rfl)))),bu,AD (by omega),AF rfl]
 .rw[h _ (.inr (.inr (.inr (.inr rfl)))),bu,AF rfl]
def cell_of {W:M}{b:Nat}{l:Array R}{t:df}{f:Nat×Nat}(h:W.heap[b]?=U (.cells l t f))(i:Nat):W.cell? ⟨b,i,E⟩=l[i]?:=by
 unfold World.cell?;simp only[h]
 rfl
def FK.sees (S:FK w co ex tb cb sb cap nA hA nc F fc oK oE){p1:R}{w':M}(h:PT (Nu co ex) (KE tb) w cb p1 w'):Ih w' (co++ex):=λp hp=>⟨_,(S.at_ h).1 p hp⟩
def Ih.left {W:M}{o e:Js}(h:Ih W (o++e)):Ih W o:=λp hp=>h p (cw _ hp)
def yZ:∀i:Nat,i<8->IntKind.i64.wrap ((i:Int)+1)=((i+1:Nat):Int):=by decide
def za (i:Nat)(hi:i<8):(En 3)[i]?=U (Ga i):=by
 have:∀i,i<8->(En 3)[i]?=U (Ga i):=by decide
 exact this i hi
def kL (x:Nat)(j:Nat)(hj:j<5):(#[.int .u8 (x:Int),.int .u8 0,.int .u8 0,.int .u8 0,.int .u8 0]:Array R)[j]?=U (.int .u8 (FA x j:Nat)):=by
 match j,hj with
 |0,_=>rfl
 |1,_=>rfl
 |2,_=>rfl
 |3,_=>rfl
 |4,_=>rfl
def FK.Ks (S:FK w co ex tb cb sb cap nA hA nc F fc oK oE){p1:R}{w':M}(h:PT (Nu co ex) (KE tb) w cb p1 w')(i:Nat)(hi:i<8)(τ:Tape)(d:Nat) :
  eT DU 79 #[.pointer (U ⟨cb,0,E⟩),.pointer (U ⟨w'.heap.size,0,E⟩),bk ck 0] (on (w'.alloc (first (Ga i))) τ d) (λe w2=>∃v,e=.returned v/\((∃y1 y2,v=.agg #[bk ck (Og i),bk ck y1,bk ck y2])/\Ext (w'.alloc (first (Ga i))) w2)):=by
 have hold:∀b,b<w'.heap.size->(on (w'.alloc (first (Ga i))) τ d).heap[b]?=w'.heap[b]?:=λb hb=>ae w' _ hb;have hs:Ih (on (w'.alloc (first (Ga i))) τ d) co:=λp hp=>by
  obtain⟨f,hf⟩:=(S.sees h).left p hp;exact⟨f,(hold _ (Az.1 hf).1).trans hf⟩
 have hr:GU (on (w'.alloc (first (Ga i))) τ d) (on (w'.alloc (first (Ga i))) τ d).heap.size w'.heap.size (FA (Ga i)):=by
  refine⟨by show _<(w'.alloc _).heap.size;rw[aL];omega,λj hj=>?_⟩;exact(cell_of (W:=w'.alloc (first (Ga i))) (l:=#[.int .u8 (Ga i:Int),.int .u8 0,.int .u8 0,.int .u8 0,.int .u8 0]) (t:=72) (f:=(0,0)) (gv w' (Ga i)) j).trans (kL _ j hj)
 refine(oG cb w'.heap.size 0 Ei (FA (Ga i)) _ (S.F4 _ hs).NT hr (D9.Ok.of iR) (by decide) (gC i hi)).mono ?_;rintro e w2 ⟨rfl,hg⟩;exact⟨_,rfl,⟨_,_,rfl⟩,hg.size,λb hb=>hg.below.block b hb,hg.below.os⟩
def kM {o:Obj}(h:G7 o){S:Fy}{Ck:Code->Prop}{β:Em}:EW S Ck β o o:=by
 obtain⟨l,t,f,rfl,hl⟩:=h;refine .cells ⟨rfl,λi v V h1 h2=>?_⟩ λi h1 h2=>⟨h1,h2⟩;rw[h1] at h2;cases h2;cases hl v (B5 (by simpa using h1)) with
 |bool b=>exact .bool b
 |int k n=>exact .int k n
def Oi (co ex:Js)(tb n r:Nat)(b:Nat):Prop:=zB (co++ex) b=Y\/b=tb\/b=n\/b=n+1\/b=n+2\/b=r
def mE (S:FK w co ex tb cb sb cap nA hA nc F fc oK oE){p1:R}{w' W:M}(h:PT (Nu co ex) (KE tb) w cb p1 w')(Iq:∀(H:Hid),E7 JM H (λb=>zB (co++ex) b=Y\/b=tb) p1){x:Nat}{r:Nat}(hr:w'.heap[r]?=U (ak #[.int .u8 (x:Int),.int .u8 0,.int .u8 0,.int .u8 0,.int .u8 0] 72 (0,5)))
  (hW:∀b,b≠tb->W.heap[b]?=w'.heap[b]?) {H:Hid} (hH:∀b,H b=y->b≠w.heap.size/\(b=tb->W.heap[tb]?=U oK)) :
  ∀b,Oi co ex tb w.heap.size r b->H b=y->∃o,W.heap[b]?=U o/\EW (SP JM H) (CK DU JM y) (EK (Oi co ex tb w.heap.size r)) o o:=by
 obtain⟨a1,a2,a3,a4,a5⟩:=S.at_ h;have nt:∀b,zB (co++ex) b=Y->b≠tb:=λb hb e=>by
  have:=S.nt;rw[<-e,hb] at this;cases this
 intro b hb hHb;obtain⟨h1,h2⟩:=hH b hHb;by_cases a6:b=tb
 .subst a6;exact⟨oK,h2 rfl,kM S.O7.1⟩
 obtain hb|hb|hb|hb|hb|hb:=hb
 .obtain⟨p,hp,rfl⟩:=Hw hb;refine⟨_,(hW _ a6).trans (a1 p hp),.cells (Fc λv hv=>?_) λi z1 z2=>⟨z1,z2⟩⟩;obtain hp|hp:=Bp.1 hp
  .exact(S.QU p hp v hv JM H).mono λc hc=>.inl (by rw[bj];simp[hc])
  .exact(S.Q9 p hp v hv JM H (by decide)).mono λc hc=>.inl hc
 .exact AI hb a6
 .exact AI hb h1
 .subst hb;refine⟨_,(hW _ a6).trans a4,.cells (Fc (l:=[.pointer (U ⟨cb,0,E⟩)]) λv hv=>?_) λi z1 z2=>⟨z1,z2⟩⟩;simp only[AJ,AG,or_false] at hv;subst hv;exact E7.ptr (.inl (by rw[bj];simp[S.Pq])) _ _
 .subst hb;refine⟨_,(hW _ a6).trans a5,.cells (Fc (l:=[p1]) λv hv=>?_) λi z1 z2=>⟨z1,z2⟩⟩;simp only[AJ,AG,or_false] at hv;subst hv;exact(Iq H).mono λc hc=>hc.elim .inl λh=>.inr (.inl h)
 .subst hb;refine⟨_,(hW _ a6).trans hr,.cells (Fc (l:=[.int .u8 (x:Int),.int .u8 0,.int .u8 0,.int .u8 0,.int .u8 0]) λv hv=>?_) λi z1 z2=>⟨z1,z2⟩⟩;simp only[AJ,AG,or_false] at hv;rcases hv with rfl|rfl|rfl|rfl|rfl<;>exact DZ.int _ _
def vp (S:FK w co ex tb cb sb cap nA hA nc F fc oK oE)(H:Hid):E7 JM H (λb=>zB (co++ex) b=Y\/b=tb) (.func (.func F) #[] fc.toArray):=E7.func S.sF.1 λv hv=>S.Ra v hv JM H
def rW (S:FK w co ex tb cb sb cap nA hA nc F fc oK oE){w':M}(h:PT (Nu co ex) (KE tb) w cb (.func (.func F) #[] fc.toArray) w'){i:Nat}(hi:i<8)(hnone:Eh Ei (En 3) 2 (FA (Ga i)) 1=[]){r:Nat}(zT:¬Mk (Nu co ex) (KE tb) w r)
  (hr:w'.heap[r]?=U (ak #[.int .u8 (Ga i:Int),.int .u8 0,.int .u8 0,.int .u8 0,.int .u8 0] 72 (0,5))) :
  EO Z Oh (Jg Z w.heap.size λ_=>True) 0 (cq (bs Z 89 (bN (w.heap.size+1) (w.heap.size+2) w.heap.size r) .deferred) [bad]) w':=by
 obtain⟨a1,a2,a3,a4,a5⟩:=S.at_ h;have l2:w.heap.size+2<w'.heap.size:=(Az.1 a5).1;have ltb:tb<w.heap.size:=S.lt (.inr (by simp));have hid:∀b,(⟨λb=>b==w.heap.size||b==tb,Y,y⟩:Hid) b=Y->b=w.heap.size\/b=tb:=λb hb=>by simpa using hb
 refine mu (H:=⟨λb=>b==w.heap.size||b==tb,Y,y⟩) (T0:=λ_=>False) oX (hn:=rfl) (K0:=Oi co ex tb w.heap.size r) ⟨.inr (.inr (.inr (.inl rfl))),.inr (.inr (.inr (.inr (.inl rfl)))),.inr (.inr (.inl rfl)),.inr (.inr (.inr (.inr (.inr rfl))))⟩
  (λb _ hb=>⟨rfl,by obtain rfl|rfl:=hid b hb;exact a3;exact a2⟩) (λb hb=>by rcases hid b hb with rfl|rfl<;>omega)
  (mE S h (vp S) hr (λ_ _=>rfl) λb hb=>?_) (λτ d=>?_) (λ_ _ _ _=>trivial)
 .have hb':(b==w.heap.size||b==tb)=false:=hb;simp only[Cy,beq_eq_false_iff_ne] at hb';exact⟨hb'.1,λe=>AI e hb'.2⟩
 .have := oI (T0 := fun _ => False) (K := fun b => zB co b = Y) (cb := cb) (c := Ei) (sets := En 3) (b2 := w.heap.size + 1) (b3 := w.heap.size + 2) (b4 := w.heap.size) (rb := r) (F := F) (k := 2) (fc := fc.toArray) (r := FA (Ga i)) (w := on w' τ d)
   (D9.Ok.of iR) jr (by decide) (S.F4 (on w' τ d) (S.sees h).left) (λ_ hb=>hb.elim) (λ_ _ hb=>hb) (gC i hi) (λj hj=>by unfold FA;rw[AD (by omega)]) rfl
   (cell_of (W:=on w' τ d) a4 0) (λj hj=>(cell_of (W:=on w' τ d) hr j).trans (kL _ j hj)) (cell_of (W:=on w' τ d) a5 0) ⟨l2,λhb=>hb⟩
   (λpre _=>pre=[]) (λ_ _ _ hp _=>hp) rfl S.cF (λpre ρ W a6 _ _=>by
    rw[hnone] at a6;have:=a6.length_le
    simp at this)
  refine Go.wp_mono this ?_;rintro e a' w2 ⟨he,h1,_,D,h2,h3,h4⟩;exact⟨he,h1,trivial,D,h2,h3,h4⟩
def rX (S:FK w co ex tb cb sb cap nA hA nc F fc oK oE){w':M}(h:PT (Nu co ex) (KE tb) w cb (.func (.func F) #[] fc.toArray) w'){i:Nat}(hi:i<8){aA:EH}(aB:Eh Ei (En 3) 2 (FA (Ga i)) 1=[aA]){r:Nat}(zT:¬Mk (Nu co ex) (KE tb) w r)
  (hr:w'.heap[r]?=U (ak #[.int .u8 (Ga i:Int),.int .u8 0,.int .u8 0,.int .u8 0,.int .u8 0] 72 (0,5)))
  (aF:∀W:M,W.heap[tb]?=U oK->Ih W ex->eT DU F (#[Fl aA]++fc.toArray) W λe W'=>e=.returned (.tuple #[])/\KT (λb=>b=tb) W W'/\W'.heap[tb]?=U oE) :
  EO Z Oh (Jg Z w.heap.size λw2=>∀b,KE tb b=Y->w2.heap[b]?=U oE) 0 (cq (bs Z 89 (bN (w.heap.size+1) (w.heap.size+2) w.heap.size r) .deferred) [bad]) (Hh (KE tb) (λ_=>oK) w'):=by
 obtain⟨a1,a2,a3,a4,a5⟩:=S.at_ h;have l2:w.heap.size+2<w'.heap.size:=(Az.1 a5).1;have ltb:tb<w.heap.size:=S.lt (.inr (by simp));obtain⟨W0,zM⟩:∃W0,W0=Hh (KE tb) (λ_=>oK) w':=⟨_,rfl⟩;have g0:∀b,b<w'.heap.size->W0.heap[b]?=if KE tb b then U oK else w'.heap[b]?:=λb hb=>by rw[zM];exact bR _ _ _ _ hb
 have a6:∀b,b≠tb->W0.heap[b]?=w'.heap[b]?:=λb hb=>by
  by_cases hl:b<w'.heap.size
  .rw[g0 b hl,AD (by simpa using hb)]
  .rw[Cp (show W0.heap.size<=b by rw[zM,bQ];omega),Cp (by omega)]
 have gtb:W0.heap[tb]?=U oK:=by rw[g0 tb (by omega),AF (by simp)]
 have gsz:W0.heap.size=w'.heap.size:=by rw[zM,bQ]
 rw[<-zM];have nt:∀b,zB (co++ex) b=Y->b≠tb:=λb hb e=>by
  have:=S.nt;rw[<-e,hb] at this;cases this
 have rne:r≠tb:=λe=>zT (.inr (.inl (by simp[e])));have a8:Ih W0 (co++ex):=λp hp=>⟨_,(a6 _ (nt _ (jY hp))).trans (a1 p hp)⟩;have aC:∀b,Oi co ex tb w.heap.size r b->(⟨λb=>b==w.heap.size,Y,y⟩:Hid) b=Y->(⟨λb=>b==w.heap.size,Y,y⟩:Hid).EZ=Y/\W0.heap[b]?=U (.coro E):=λb _ hb=>by
  have e:b=w.heap.size:=by simpa using hb
  refine⟨rfl,?_⟩;rw[e,a6 _ (by omega)];exact a3
 have aD:∀b,(⟨λb=>b==w.heap.size,Y,y⟩:Hid) b=Y->b<W0.heap.size:=λb hb=>by
  have e:b=w.heap.size:=by simpa using hb
  omega
 refine mu (H:=⟨λb=>b==w.heap.size,Y,y⟩) (T0:=λb=>b=tb) oX (hn:=rfl) (K0:=Oi co ex tb w.heap.size r) ⟨.inr (.inr (.inr (.inl rfl))),.inr (.inr (.inr (.inr (.inl rfl)))),.inr (.inr (.inl rfl)),.inr (.inr (.inr (.inr (.inr rfl))))⟩
  aC aD
  (mE S h (vp S) hr a6 λb hb=>⟨by simpa using hb,λ_=>gtb⟩) (λτ d=>?_) (λW W' hW hk b hb=>?_)
 .have := oI (T0 := fun b => b = tb) (K := fun b => zB co b = Y) (cb := cb) (c := Ei) (sets := En 3) (b2 := w.heap.size + 1) (b3 := w.heap.size + 2) (b4 := w.heap.size) (rb := r) (F := F) (k := 2) (fc := fc.toArray) (r := FA (Ga i)) (w := on W0 τ d)
   (D9.Ok.of iR) jr (by decide) (S.F4 (on W0 τ d) a8.left) (λb hb=>by show b<W0.heap.size;omega) (λb hb=>nt b (by rw[bj];simp[hb])) (gC i hi) (λj hj=>by unfold FA;rw[AD (by omega)]) rfl
   (cell_of (W:=on W0 τ d) ((a6 _ (by omega)).trans a4) 0) (λj hj=>(cell_of (W:=on W0 τ d) ((a6 _ rne).trans hr) j).trans (kL _ j hj)) (cell_of (W:=on W0 τ d) ((a6 _ (by omega)).trans a5) 0) ⟨by show _<W0.heap.size;omega,by omega⟩
   (λpre W=>W.heap[tb]?=U (if pre=[] then oK else oE)) (λpre W W' hp hk=>(hk tb rfl).trans hp) gtb S.cF (λpre ρ W a7 aG hI=>by
    rw[aB] at a7;have hl:=a7.length_le;have hp:pre=[]:=by cases pre with
     |nil=>rfl
     |cons a l=>simp at hl
    subst hp;have aH:ρ=aA:=by
     obtain⟨t,ht⟩:=a7;simp at ht;exact ht.1
    subst aH;have hex:Ih W ex:=λp hp=>by
     obtain⟨f,hf⟩:=a8 p (cu _ hp);have zC:=(Az.1 hf).1
     exact⟨f,(aG.block p.1 zC (by
      rintro(e|e)
      .exact nt _ (jY (cu co hp)) e
      .have e':W0.heap.size<=p.1:=e
       omega)).trans hf⟩
    refine(aF W hI hex).mono ?_;rintro e W' ⟨h1,h2,h3⟩
    exact⟨h1,h2,h3⟩)
  refine Go.wp_mono this ?_;rintro e a' w2 ⟨he,h1,hI,D,h2,h3,h4⟩;rw[aB] at hI
  exact⟨he,h1,λb hb=>by
   have e:b=tb:=by simpa using hb
   rw[e];exact hI,D,h2,h3,h4⟩
 .have e:b=tb:=by simpa using hb
  rw[e,hk tb rfl];exact hW tb (by simp)
end
def wF {p:Nat->Bool}(h:RA.all p=Y):∀f,Ld f=Y->p f=true:=λf hf=>(Bz.1 h) f (by simpa [Ld] using hf)
def O8 (f:bq):Bool:=f==92||f==93||f==153||f==155
def QV (f:bq):Bool:=f==88||f==90||f==91||f==154||f==156
def yi:RA.all (λf=>Jo Z Ld Y f||O8 f||QV f)=true:=by kernel_rfl
def vw {f:bq}(h:O8 f=Y):Lv PP f:=by
 unfold O8 at h;simp only[Bm,beq_iff_eq] at h;obtain((rfl|rfl)|rfl)|rfl:=h
 .exact⟨Tryz.f92,_,eG,eG,by kernel_rfl,by kernel_rfl,by kernel_rfl,by kernel_rfl,.add ck,by kernel_rfl⟩
 .exact⟨Tryz.f93,_,eH,eH,by kernel_rfl,by kernel_rfl,by kernel_rfl,by kernel_rfl,.load ck,by kernel_rfl⟩
 .exact⟨Tryz.f153,_,ed,ed,by kernel_rfl,by kernel_rfl,by kernel_rfl,by kernel_rfl,.Je .i32 (by decide),by kernel_rfl⟩
 .exact⟨Tryz.f155,_,ek,ek,by kernel_rfl,by kernel_rfl,by kernel_rfl,by kernel_rfl,.add .i32,by kernel_rfl⟩
def zb {P:ED}(f:bq)(hf:aP Ld f=Y):IE P f:=by
 unfold aP at hf;have h:Ld 90=true:=by decide
 rw[h,Bool.not_true,Cj,Cj] at hf;cases hf
def Pu (H:Hid):Lib PP Ld H Y Oh 0:=by
 refine iN (λf hf=>?_) (λf hf hb=>?_) (λf hf=>?_) zb ⟨BR Tryz.globals_size,Tryz.K7⟩
 .simp only[Oh,AN,B2] at hf;have:=wF yi f hf.1;have a6:QV f=false:=hf.2;simp only[a6,C6,Bm] at this;obtain h|h:=this
  .exact .inl ⟨h,rfl⟩
  .exact .inr (vw h)
 .simp only[Oh,hf,Cg,Cv,Bm,beq_iff_eq] at hb;obtain(((rfl|rfl)|rfl)|rfl)|rfl:=hb
  .exact⟨_,_,bw,bw,rfl,by decide,by decide,rfl,rfl⟩
  .exact⟨_,_,bb,bb,rfl,by decide,by decide,rfl,rfl⟩
  .exact⟨_,_,cf,cf,rfl,by decide,by decide,rfl,rfl⟩
  .exact⟨_,_,eo,eo,rfl,by decide,by decide,rfl,rfl⟩
  .exact⟨_,_,er,er,rfl,by decide,by decide,rfl,rfl⟩
 .simp only[Oh,AN] at hf;exact hf.1
section
variable {w:M} {co ex:Js} {tb cb sb cap:Nat} {nA hA:Option Addr} {nc F:Nat} {fc:List R} {oK oE:Obj}
def zc:codeOk Z Ld Y Y (.region 9 o9 y)=true:=by kernel_rfl
def yj:codeOk Z Ld Y Y (.region 10 J0 y)=true:=by kernel_rfl
def zd:codeOk Z Ld Y Y eL=true:=by kernel_rfl
def ze:o8.all (cy Z Ld Y Y)=true:=by kernel_rfl
def M4 (S:FK w co ex tb cb sb cap nA hA nc F fc oK oE){a6:EH}(a7:Eh Ei (En 3) 2 (FA (Ga 1)) 1=[a6])
  (a8:∀W:M,W.heap[tb]?=U oK->Ih W ex->eT DU F (#[Fl a6]++fc.toArray) W λe W'=>e=.returned (.tuple #[])/\KT (λb=>b=tb) W W'/\W'.heap[tb]?=U oE) :
  IU Ld Mz Oh w (Nu co ex) (KE tb) (λb=>zB co b=Y) (PT (Nu co ex) (KE tb) w cb (.func (.func F) #[] fc.toArray)) cb sb 8 cap (.func F) #[] fc.toArray (λi=>(Ga i:Int)) Og (λi=>decide (i<=1)) (λ_=>oK) (λ_=>oE) where
 hB:=by decide
 Mj:=by decide
 Ql:=by decide
 Qm:=by decide
 L0:=ye oY
 b0:=oY
 Qn:=by decide
 todo:=λH K=>.cons (.inRegion ze) (.cons (.inBlock 1) (.cons (.code zc) (.cons (.inLoop zd) (.cons (.inBlock 0) (.cons (.code yj) .nil)))))
 only:=λw1 w2 h _ aA b hb=>(h b hb).trans (aA b hb)
 ok:=λb hb=>rfl
 Nt:=λw' h=>cell_of (S.at_ h).2.2.2.1 0
 hold:=λw' h=>⟨(S.F4 w' (S.sees h).left).c2,_,(S.F4 w' (S.sees h).left).c0⟩
 Kr:=λw' i h hi=>(S.F4 w' (S.sees h).left).sets i _ (za i hi)
 F4:=λw' b h hb=>by
  obtain⟨p,hp,rfl⟩:=Hw hb;refine⟨by show zB (co++ex) p.1=Y;rw[bj];simp[hb],_,(S.at_ h).1 p (cw _ hp),.cells (Fc λv hv=>S.QU p hp v hv Mz Dj) λi z1 z2=>⟨z1,z2⟩⟩
 cK:=S.Pq
 ks:=⟨by show zB (co++ex) cb=Y;rw[bj];simp[S.Pq],by show zB (co++ex) sb=Y;rw[bj];simp[S.Qo]⟩
 Qp:=λb hb=>by
  have ht:KE tb b=false:=by
   cases hc:KE tb b with
   |false=>rfl
   |true =>
    have e:b=tb:=by simpa using hc
    have h2:=S.nt;rw[<-e] at h2;rw[show zB (co++ex) b=Y from hb] at h2;cases h2
  obtain⟨p,hp,rfl⟩:=Hw hb;refine⟨ht,p.2.1,p.2.2,(0,0),S.obj p hp,λi h1 h2=>AI h2 (BJ _),λv hv H=>?_⟩;obtain hp|hp:=Bp.1 hp
  .exact(S.QU p hp v hv Ld H).mono λc hc=>.inl (by show zB (co++ex) c=Y;rw[bj];simp[hc])
  .exact(S.Q9 p hp v hv Ld H (by decide)).mono λc hc=>.inl hc
 QQ:=λb hb=>by
  have e:b=tb:=by simpa using hb
  subst e;exact⟨S.I3,S.O7⟩
 Iq:=λH=>E7.func S.sF.2 λv hv=>(S.Ra v hv Ld H).mono λc hc=>hc.elim .inl λh=>.inr (by simp[h])
 wrap:=yZ
 Ks:=λw' i h hi τ d=>S.Ks h i hi τ d
 tp0:=rfl
 QO:=λi hi hk=>by
  have h1:i≠1:=λe=>hk ((Iw i hi).2 (.inl e));show decide (i+1<=1)=decide (i<=1);by_cases h0:i=0
  .subst h0;rfl
  .rw[Bx (by omega),Bx (by omega)]
 which:=λi hi hk=>by
  obtain rfl|rfl:=(Iw i hi).1 hk
  .exact .inr ⟨rfl,rfl⟩
  .exact .inl rfl
 plain:=λi r w' hi hk ht h zT hr=>by
  obtain rfl|rfl:=(Iw i hi).1 hk
  .cases ht
  .exact rW S h hi qd zT hr
 owner:=λi r w' hi hk ht ht1 h zT hr=>by
  obtain rfl|rfl:=(Iw i hi).1 hk
  .exact rX S h hi a7 zT hr a8
  .cases ht
end
abbrev Lw:Go.Conc.Lib.WgLink:={ add:=88,done:=90,wait:=91,relMerge:=118,disable:=119,enable:=120,inBubble:=121,associate:=122,fatal:=123,uOr:=124,uAdd:=125,raceRead:=126,uLoad:=127,uStore:=128,disassociate:=129,semrelease:=130,acquire:=131,isAssociated:=132,uCas:=133,raceWrite:=134,semacquire:=135,orU64:=157,addU64:=158,loadU64:=159,storeU64:=160,casU64:=161,tWgP:=179,tUP:=181,tAssoc:=182,tWg:=149,tAU:=147,tU64:=60,tUint:=128,tU32:=93,tPU32:=186,tPAU:=215,tPU64:=217,tNoCopy:=92,tANoCopy:=105,tAlign64:=106 }
def Pv:Go.Conc.Lib.WgLib Z Lw :=
 ⟨bw,bb,cf,Tryz.func118,Tryz.func119,Tryz.func120,Tryz.func121,Tryz.func122,Tryz.func123,Tryz.func124,Tryz.func125,Tryz.func126,Tryz.func127,Tryz.func128,Tryz.func129,Tryz.func130,Tryz.func131,Tryz.func132,Tryz.func133,Tryz.func134,Tryz.func135,Tryz.func157,Tryz.func158,Tryz.func159,Tryz.func160,Tryz.func161,Tryz.underlying179,Tryz.runUnderlying179,Tryz.sizeOf179,Tryz.isAgg179,Tryz.zeroValue179,Tryz.underlying181,Tryz.runUnderlying181,Tryz.sizeOf181,Tryz.isAgg181,Tryz.zeroValue181,Tryz.underlying182,Tryz.runUnderlying182,Tryz.sizeOf182,Tryz.isAgg182,Tryz.zeroValue182,Tryz.underlying149,Tryz.runUnderlying149,Tryz.sizeOf149,Tryz.isAgg149,Tryz.zeroValue149,Tryz.underlying147,Tryz.runUnderlying147,Tryz.sizeOf147,Tryz.isAgg147,Tryz.zeroValue147,Tryz.underlying60,Tryz.runUnderlying60,Tryz.sizeOf60,Tryz.isAgg60,Tryz.zeroValue60,Tryz.underlying128,Tryz.runUnderlying128,Tryz.sizeOf128,Tryz.isAgg128,Tryz.zeroValue128,Tryz.underlying93,Tryz.runUnderlying93,Tryz.sizeOf93,Tryz.isAgg93,Tryz.zeroValue93,Tryz.underlying186,Tryz.runUnderlying186,Tryz.sizeOf186,Tryz.isAgg186,Tryz.zeroValue186,Tryz.underlying215,Tryz.runUnderlying215,Tryz.sizeOf215,Tryz.isAgg215,Tryz.zeroValue215,Tryz.underlying217,Tryz.runUnderlying217,Tryz.sizeOf217,Tryz.isAgg217,Tryz.zeroValue217,Tryz.underlying0,Tryz.runUnderlying0,Tryz.sizeOf0,Tryz.isAgg0,Tryz.zeroValue0,Tryz.underlying3,Tryz.runUnderlying3,Tryz.sizeOf3,Tryz.isAgg3,Tryz.zeroValue3,Tryz.underlying4,Tryz.runUnderlying4,Tryz.sizeOf4,Tryz.isAgg4,Tryz.zeroValue4,Tryz.underlying9,Tryz.runUnderlying9,Tryz.sizeOf9,Tryz.isAgg9,Tryz.zeroValue9,Tryz.underlying20,Tryz.runUnderlying20,Tryz.sizeOf20,Tryz.isAgg20,Tryz.zeroValue20,Tryz.underlying21,Tryz.runUnderlying21,Tryz.sizeOf21,Tryz.isAgg21,Tryz.zeroValue21,(by kernel_rfl),(by kernel_rfl)⟩
def M5:Go.Co.Barred PP Ld Y Lw.add (Go.Conc.Lib.addFn Lw):=⟨_,bw,bw,rfl,by kernel_rfl⟩
def LQ:Go.Co.Barred PP Ld Y Lw.wait (Go.Conc.Lib.waitFn Lw):=⟨_,cf,cf,rfl,by kernel_rfl⟩
def LR:Go.Co.Barred PP Ld Y Lw.done (Go.Conc.Lib.doneFn Lw):=⟨_,bb,bb,rfl,by kernel_rfl⟩
def Hx (bo:Nat):List Value:=[bk ck 12,bk ck 3,bk ck 2,.slice E 0 0,bk ck 6,bk ck 2,bk ck 2,.slice (U ⟨bo,0,E⟩) 1 1,bk ck 6,bk ck 1,bk ck 1,.slice E 0 0]
def LS (bn bh sb cap:Nat):List Value:=[.slice (U ⟨bn,0,E⟩) 3 3,.slice (U ⟨bh,0,E⟩) 3 3,.slice (U ⟨sb,0,E⟩) 8 cap]
def G5:List Value:=[bk ck 3,bk ck 2,bk ck 4]
def EF (bn bo bh cb sb cap:Nat)(cur:List R)(t:df):Js:=[(bn,G5,3),(bo,[bk ck 0],3),(bh,Hx bo,49),(cb,LS bn bh sb cap,137),(sb,cur,t)]
section
variable {bn bo bh cb sb cap:Nat} {cur:List R} {t:df}
def EY (b:Nat):zB (EF bn bo bh cb sb cap cur t) b=Y↔b=bn\/b=bo\/b=bh\/b=cb\/b=sb:=by
 simp only[zB,EF,List.any_cons,List.any_nil,C6,Bm,beq_iff_eq];constructor
 .rintro(h|h|h|h|h)<;>simp[h]
 .rintro(h|h|h|h|h)<;>simp[h]
def oZ {W:M}(h:Ih W (EF bn bo bh cb sb cap cur t))(a6:∀(i x:Nat),(En 3)[i]?=U x->cur[i]?=U (bk .u8 (x:Int))) :
  FZ W (λb=>zB (EF bn bo bh cb sb cap cur t) b=Y) cb Ei (En 3) (U ⟨bn,0,E⟩) (U ⟨bh,0,E⟩) 3 3 sb cap:=by
 obtain⟨f1,h1⟩:=h (bn,G5,3) (by simp[EF]);obtain⟨f2,h2⟩:=h (bo,[bk ck 0],3) (by simp[EF]);obtain⟨f3,h3⟩:=h (bh,Hx bo,49) (by simp[EF]);obtain⟨f4,h4⟩:=h (cb,LS bn bh sb cap,137) (by simp[EF]);obtain⟨f5,h5⟩:=h (sb,cur,t) (by simp[EF]);have hb:∀i:Nat,W.cell? ⟨bh,i,E⟩=(Hx bo)[i]?:=λi=>(cell_of h3 i).trans (by simp);have hn:IH W (λb=>zB (EF bn bo bh cb sb cap cur t) b=Y) (U ⟨bn,0,E⟩) [3,2,4]:=λ_=>by
  refine⟨bn,0,rfl,(EY _).2 (by simp),λi x hx=>?_⟩;rw[cell_of h1]
  match i,hx with
  |0,hx=>simp at hx;subst hx;rfl
  |1,hx=>simp at hx;subst hx;rfl
  |2,hx=>simp at hx;subst hx;rfl
  |k+3,hx=>simp at hx
 have ho:IH W (λb=>zB (EF bn bo bh cb sb cap cur t) b=Y) (U ⟨bo,0,E⟩) [0]:=λ_=>by
  refine⟨bo,0,rfl,(EY _).2 (by simp),λi x hx=>?_⟩;rw[cell_of h2]
  match i,hx with
  |0,hx=>simp at hx;subst hx;rfl
  |k+1,hx=>simp at hx
 have hnil:IH W (λb=>zB (EF bn bo bh cb sb cap cur t) b=Y) E []:=λh=>AI rfl h;refine⟨λb a7=>?_,(EY _).2 (by simp),cell_of h4 0,cell_of h4 1,cell_of h4 2,(EY _).2 (by simp),λi x hx=>(cell_of h5 i).trans (by simpa using a6 i x hx),hn,λ_=>⟨bh,0,rfl,(EY _).2 (by simp),λi x hx=>?_⟩⟩
 .obtain rfl|rfl|rfl|rfl|rfl:=(EY _).1 a7
  .exact(Az.1 h1).1
  .exact(Az.1 h2).1
  .exact(Az.1 h3).1
  .exact(Az.1 h4).1
  .exact(Az.1 h5).1
 .match i,hx with
  |0,hx=>simp[Ei,EL] at hx;subst hx;exact⟨hb _,hb _,hb _,E,0,hb _,hnil⟩
  |1,hx=>simp[Ei,EL] at hx;subst hx;exact⟨hb _,hb _,hb _,_,1,hb _,ho⟩
  |2,hx=>simp[Ei,EL] at hx;subst hx;exact⟨hb _,hb _,hb _,E,0,hb _,hnil⟩
  |k+3,hx=>simp[Ei,EL] at hx
def gD (a7:∀u∈cur,iw u):∀p∈EF bn bo bh cb sb cap cur t,∀v∈p.2.1,∀(SB:bq->Bool) (H:Hid),E7 SB H (λb=>zB (EF bn bo bh cb sb cap cur t) b=Y) v:=by
 intro p hp v hv SB H;have a6:E7 SB H (λb=>zB (EF bn bo bh cb sb cap cur t) b=Y) (.slice E 0 0):=DZ.GL 0 0;simp only[EF,AJ,AG,or_false] at hp;obtain rfl|rfl|rfl|rfl|rfl:=hp
 .simp only[G5,AJ,AG,or_false] at hv;rcases hv with rfl|rfl|rfl<;>exact DZ.int _ _
 .simp only[AJ,AG,or_false] at hv;subst hv;exact DZ.int _ _
 .simp only[Hx,AJ,AG,or_false] at hv;rcases hv with rfl|rfl|rfl|rfl|rfl|rfl|rfl|rfl|rfl|rfl|rfl|rfl<;>first|exact DZ.int _ _|exact a6|exact E7.slice ((EY _).2 (by simp)) _ _ _ _
 .simp only[LS,AJ,AG,or_false] at hv;rcases hv with rfl|rfl|rfl<;>exact E7.slice ((EY _).2 (by simp)) _ _ _ _
 .obtain⟨x,rfl⟩:=a7 v hv;exact DZ.int _ _
end
section
variable {bn bo bh cb sb cap:Nat} {cur:List R} {t:df} {w:M}
structure F2 (w:M)(bn bo bh cb sb cap:Nat)(cur:List R)(t:df):Prop where
 obj:∀p∈EF bn bo bh cb sb cap cur t,w.heap[p.1]?=U (.cells p.2.1.toArray p.2.2 (0,0))
 sets:∀(i x:Nat),(En 3)[i]?=U x->cur[i]?=U (bk .u8 (x:Int))
 flat:∀u∈cur,iw u
def F2.keep {w':M}(h:F2 w bn bo bh cb sb cap cur t)(hk:∀b,zB (EF bn bo bh cb sb cap cur t) b=Y->w'.heap[b]?=w.heap[b]?):F2 w' bn bo bh cb sb cap cur t :=
 ⟨λp hp=>(hk _ (jY hp)).trans (h.obj p hp),h.sets,h.flat⟩
def F2.lt (h:F2 w bn bo bh cb sb cap cur t){b:Nat}(hb:zB (EF bn bo bh cb sb cap cur t) b=Y):b<w.heap.size:=by
 obtain⟨p,hp,rfl⟩:=Hw hb;exact(Az.1 (h.obj p hp)).1
abbrev Ji (n:Int):Obj:=ak #[bk ck n] 108 (0,0)
def PU (n:Int):G7 (Ji n):=⟨[bk ck n],108,(0,0),rfl,λv hv=>by
 simp only[AJ,AG,or_false] at hv
 subst hv;exact .int _ _⟩
def Nv (h:F2 w bn bo bh cb sb cap cur t){nb:Nat}(hn:w.heap[nb]?=U (Ji 0))(a6:zB (EF bn bo bh cb sb cap cur t) nb=y) :
  FK w (EF bn bo bh cb sb cap cur t) [] nb cb sb cap (U ⟨bn,0,E⟩) (U ⟨bh,0,E⟩) 3 54 [.pointer (U ⟨nb,0,E⟩)] (Ji 0) (Ji 1) where
 obj:=λp hp=>h.obj p (by simpa using hp)
 I3:=hn
 O7:=⟨PU 0,PU 1⟩
 nt:=by rw[B6];exact a6
 QU:=gD h.flat
 Q9:=λp hp=>by cases hp
 Ra:=λv hv SB H=>by
  simp only[AJ,AG,or_false] at hv;subst hv;exact E7.ptr (.inr rfl) _ _
 sF:=⟨by decide,by decide⟩
 cF:=λx w=>by
  have h1:¬Tryz.f54.name = "runtime.NumGoroutine":=by decide
  simp[eF,Sq.fn Tryz.func54 rfl,h1,Tryz.f54]
 Pq:=(EY _).2 (by simp)
 Qo:=(EY _).2 (by simp)
 F4:=λW hW=>oZ hW h.sets
def Oj (nb:Nat){ex:Js}(ρ:EH)(W:M)(h:W.heap[nb]?=U (Ji 0))(_:Ih W ex) :
  eT DU 54 (#[Fl ρ]++[J (U ⟨nb,0,E⟩)].toArray) W λe W'=>e=.returned (.tuple #[])/\KT (λb=>b=nb) W W'/\W'.heap[nb]?=U (Ji 1) :=
 tB nb 0 1 ρ W h (by decide)
abbrev GA (b:Bool)(r:EH):Obj:=.cells (IL 0 r b) 118 (0,0)
def Ol (b:Bool)(r:EH):G7 (GA b r):=⟨(IL 0 r b).toList,118,(0,0),by simp[IL],λv hv=>by
 simp only[IL,AJ,AG,or_false] at hv
 rcases hv with rfl|rfl|rfl|rfl|rfl|rfl|rfl|rfl<;>first|exact .int _ _|exact .bool _⟩
def FT (xb qb cb:Nat):Js:=[(xb,[.func (.func 57) #[] #[.pointer (U ⟨qb,0,E⟩)]],116),(qb,[.pointer (U ⟨cb,0,E⟩)],69)]
def Om (h:F2 w bn bo bh cb sb cap cur t){kb xb qb:Nat}{ρ:EH}(hk:w.heap[kb]?=U (GA y λ_=>0))(hx:∀p∈FT xb qb cb,w.heap[p.1]?=U (.cells p.2.1.toArray p.2.2 (0,0)))
  (a6:zB (EF bn bo bh cb sb cap cur t++FT xb qb cb) kb=y) :
  FK w (EF bn bo bh cb sb cap cur t) (FT xb qb cb) kb cb sb cap (U ⟨bn,0,E⟩) (U ⟨bh,0,E⟩) 3 62 [.pointer (U ⟨kb,0,E⟩),.pointer (U ⟨xb,0,E⟩)] (GA y λ_=>0) (GA Y ρ) where
 obj:=λp hp=>(Bp.1 hp).elim (h.obj p) (hx p)
 I3:=hk
 O7:=⟨Ol _ _,Ol _ _⟩
 nt:=a6
 QU:=gD h.flat
 Q9:=λp hp v hv SB H h54=>by
  have hq:∀b,(b=xb\/b=qb)->zB (EF bn bo bh cb sb cap cur t++FT xb qb cb) b=true:=λb hb=>by
   rw[bj];rcases hb with rfl|rfl<;>simp[zB,FT]
  simp only[FT,AJ,AG,or_false] at hp;obtain rfl|rfl:=hp
  .simp only[AJ,AG,or_false] at hv;subst hv;refine E7.func (l:=[.pointer (U ⟨qb,0,E⟩)]) h54 λv hv=>?_;simp only[AJ,AG,or_false] at hv;subst hv;exact E7.ptr (hq _ (.inr rfl)) _ _
  .simp only[AJ,AG,or_false] at hv;subst hv;exact E7.ptr (by rw[bj,(EY cb).2 (by simp),Bool.true_or]) _ _
 Ra:=λv hv SB H=>by
  simp only[AJ,AG,or_false] at hv;obtain rfl|rfl:=hv
  .exact E7.ptr (.inr rfl) _ _
  .exact E7.ptr (.inl (by rw[bj];simp[zB,FT])) _ _
 sF:=⟨by decide,by decide⟩
 cF:=λx w=>by
  have h1:¬Tryz.f62.name = "runtime.NumGoroutine":=by decide
  simp[eF,Sq.fn Tryz.func62 rfl,h1,Tryz.f62]
 Pq:=(EY _).2 (by simp)
 Qo:=(EY _).2 (by simp)
 F4:=λW hW=>oZ hW h.sets
def O9 (kb xb qb cb:Nat)(ρ:EH)(W:M)(h:W.heap[kb]?=U (GA y λ_=>0))(hs:Ih W (FT xb qb cb)) :
  eT DU 62 (#[Fl ρ]++[J (U ⟨kb,0,E⟩),.pointer (U ⟨xb,0,E⟩)].toArray) W λe W'=>e=.returned (.tuple #[])/\KT (λb=>b=kb) W W'/\W'.heap[kb]?=U (GA Y ρ):=by
 obtain⟨f,hf⟩:=hs (xb,[.func (.func 57) #[] #[.pointer (U ⟨qb,0,E⟩)]],116) (by simp[FT]);exact vG kb xb ρ _ W (cell_of hf 0) (Az.1 hf).1 h
end
end Go.Sq
