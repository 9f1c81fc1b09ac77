/- Parts of the proof. -/
import Derived.Test.YteckikkkfpblhaaGreatP01
import Derived.Test.YteckikkkfpblhaaGreatP00
import Derived.RangeFuncOwn
import Derived.RangeFuncLeaves
import Derived.Defers
import Derived.Laws.LoneSync
import Derived.BigQuiet
set_option linter.all false
set_option maxHeartbeats 3200000
set_option maxRecDepth 1000000
namespace Go.Proofs.Ao
open Go.RowKit Go.Sq Go.Shelf
def O3 (T0:Nat->Prop)(I:List Bl->World->Prop)(Ix:Code->List Bl->World->Prop)(xs:List Bl)(W:World):Exit->Act->World->Prop
 |.normal,_,W'=>KT T0 W W'/\I xs W'
 |.ret,_,W'=>KT T0 W W'/\Ix .ret xs W'
 |.exit id,_,W'=>KT T0 W W'/\Ix (.exit id) xs W'
 |.goto t,_,W'=>KT T0 W W'/\Ix (.goto t) xs W'
 |.panic _,_,_=>False
 |.outgrown,_,_=>False
def _root_.Go.Sq.KT.low {T T':Nat->Prop}{w w':World}(h:KT T w w')(hT:∀b,b<w.heap.size->T b->T' b):KT T' w w':=⟨h.os,h.tape,h.output,h.drawn,h.size,λb hb hn=>h.block b hb λt=>hn (hT b hb t)⟩
def dI {fn:Func}{tmps:Array Value}{R:Ending->World->Prop}{D:Nat}{W:World}{v:Value}(hd:W.heap[D]?=some (.deferred (some [])))(hr:(results fn tmps).run An (W.putObj D (.deferred none))=.ok v (W.putObj D (.deferred none)))(hR:R (.returned v) (W.putObj D (.deferred none))) :
  LeavesInM Fence.wide 0 An fn tmps R [{ target:=.collected D,args:=#[] }] .returning W:=⟨by simp,.inl ⟨D,_,rfl,run_takeDeferred hd,v,hr,hR⟩⟩
def cx {W:World}{D:Nat}{o:Obj}{p:Addr}(h:p.block≠D):(W.putObj D o).cell? p=W.cell? p:=xH (World.putObj_heap_other h)
def one_cell {W:World}{b:Nat}{v:Value}{t:TypeId}(h:W.heap[b]?=some (.cells #[v] t (0,0))):W.cell? ⟨b,0,none⟩=some v/\W.frozen? ⟨b,0,none⟩=false/\b<W.heap.size:=by
 refine⟨?_,?_,(xg.1 h).1⟩
 .unfold World.cell?;simp only[h];rfl
 .unfold World.frozen?;simp only[h];rfl
def one_set {W:World}{b:Nat}{v u:Value}{t:TypeId}(h:W.heap[b]?=some (.cells #[v] t (0,0))):(W.setCell ⟨b,0,none⟩ u).heap[b]?=some (.cells #[u] t (0,0)):=by
 unfold World.setCell;simp only[ya,if_true,h]
 rfl
def _root_.Go.Sq.KT.gr {T:Nat->Prop}{w w1 W:World}(h:Gr w w1)(hk:KT T w1 W)(hT:∀b,T b->w.heap.size<=b):Gr w W :=
 ⟨⟨hk.os.trans h.below.os,hk.tape.trans h.below.tape,hk.output.trans h.below.output,xx h.size hk.size,λb hb=>(hk.block b (xl hb h.size) λt=>by have:=hT b t;omega).trans (h.below.block b hb)⟩,xx h.drawn hk.drawn⟩
def _root_.Go.Sq.Gr.putObj {w W:World}(h:Gr w W){D:Nat}(hD:w.heap.size<=D)(o:Obj):Gr w (W.putObj D o) :=
 ⟨⟨h.below.os,h.below.tape,h.below.output,by simpa [World.putObj] using h.size,λb hb=>(World.putObj_heap_other (by omega)).trans (h.below.block b hb)⟩,h.drawn⟩
def pZ {T0 K:Nat->Prop}{cb:Nat}{c:AD}{sets:List Nat}{nA hA:Option Addr}{nc hc sb sc bc br bn k n:Nat}{r:Bl}{g:Operand}{ps:Array Tmp}{assign body:Code}{Q:Exit->Act->World->Prop}{a:Act}{w:World}
  (Du:c.Ok) (E0:∀x∈sets,c.has x) (O1:sets.length<=16) (hg:a.eval g=.func (.func 86) #[] #[.pointer (some ⟨bc,0,none⟩),.pointer (some ⟨br,0,none⟩),.pointer (some ⟨bn,0,none⟩)])
  (hn:n+k=c.Aq.length) (hz:∀i,n<=i->r i=0) (hs:L4 T0 K cb c sets nA hA nc hc sb sc bc br bn r n w) (Hx:∀b,T0 b->b<w.heap.size) (hps:ps.size=1)
  (I:List Bl->World->Prop) (Ix:Code->List Bl->World->Prop) (hI:∀pre W W',I pre W->(∀b,T0 b->W'.heap[b]?=W.heap[b]?)->I pre W') (O4:∀c pre W W',Ix c pre W->(∀b,T0 b->W'.heap[b]?=W.heap[b]?)->Ix c pre W') (h0:I [] w)
  (a₁:Bl->Act)
  (SG:∀(l:Nat) (ρ:Bl) (W:World) (K:Act->World->Prop),K (a₁ ρ) W->assign.wpIn (Fence.wide.inRound l) 0 An (Exit.then K (λ_ _ _=>False)) { tmps:=(ps.zip #[BI ρ]).foldl (λt (p,v)=>t.setIfInBounds p v) a.tmps,defers:=[] } W)
  (IL:∀(l:Nat) (pre:List Bl) (ρ:Bl) (W:World),pre++[ρ] <+: Bo c sets k r n->KT (λb=>T0 b\/b=br) w W->I pre W->body.wpIn (Fence.wide.inRound l) 0 An (O3 T0 I Ix (pre++[ρ]) W) (a₁ ρ) W)
  (hdone:∀(D:Nat) (W:World),w.heap.size<=D->KT (λb=>T0 b\/b=br) w W->I (Bo c sets k r n) W->W.heap[D]?=some (.deferred (some []))->Q .normal { a with defers:={ target:=.collected D,args:=#[] }::a.defers } W)
  (Bf:∀(D:Nat) (j:Code) (q:List Bl) (W:World),w.heap.size<=D->KT (λb=>T0 b\/b=br) w W->q <+: Bo c sets k r n->Ix j q W->W.heap[D]?=some (.deferred (some []))->j.wpIn Fence.wide 0 An Q { a with defers:={ target:=.collected D,args:=#[] }::a.defers } W) :
  (Code.rangeFunc g ps assign body).wpIn Fence.wide 0 An Q a w:=by
 refine wpIn_rangeFunc ?_;intro fn hfn;have O5:∀b,K b->b<w.heap.size:=hs.CZ.lt;obtain⟨rec,Ff⟩:∃rec:LoopState->Option Code->Loop,rec=λst pe=>{ state:=st,pending:=pe,fn,tmps:=a.tmps,params:=ps,assign,body,defers:=w.heap.size }:=⟨_,rfl⟩;obtain⟨W1,hW1⟩:∃W1,(w.alloc (.deferred (some []))).alloc (.loop (rec .ready none))=W1:=⟨_,rfl⟩;have hL1:W1.heap[w.heap.size+1]?=some (.loop (rec .ready none)):=by
  rw[<-hW1];have:=World.alloc_heap_new (w.alloc (.deferred (some []))) (.loop (rec .ready none));rwa [zn] at this
 have Yt:W1.heap[w.heap.size]?=some (.deferred (some [])):=by
  rw[<-hW1];exact(yP _ _ _ (by simp)).trans (World.alloc_heap_new w _)
 have hg1:Gr w W1:=by rw[<-hW1];exact((Gr.refl w).alloc _).alloc _
 have hI1:I [] W1:=hI _ _ _ h0 λb hb=>hg1.below.block b (Hx b hb);have hz1:W1.heap.size=w.heap.size+2:=by rw[<-hW1];simp
 refine⟨w.heap.size+1,[{ target:=.collected w.heap.size,args:=#[] }],W1,{ target:=.fn (.func 86) #[.pointer (some ⟨bc,0,none⟩),.pointer (some ⟨br,0,none⟩),.pointer (some ⟨bn,0,none⟩)],args:=#[.func (.yield (w.heap.size+1)) #[] #[]] },W1,86,
  #[.func (.yield (w.heap.size+1)) #[] #[]]++#[.pointer (some ⟨bc,0,none⟩),.pointer (some ⟨br,0,none⟩),.pointer (some ⟨bn,0,none⟩)],W1,?_,?_,?_,?_,λh=>(by cases h),?_⟩
 .rw[<-hW1,Ff];exact run_enterLoop_outer _ _ _ _ _
 .simp only[resolve,hg];simp[go_sem]
 .intro f' _;trivial
 .simp[invoke,go_sem]
 .obtain⟨T,hT⟩:∃T:Nat->Prop,T=λb=>T0 b\/b=w.heap.size\/b=w.heap.size+1:=⟨_,rfl⟩;have Ny:∀b,T0 b->T b:=λb hb=>by rw[hT];exact .inl hb
  have hTD:T w.heap.size:=by rw[hT];exact .inr (.inl rfl)
  have O6:T (w.heap.size+1):=by rw[hT];exact .inr (.inr rfl)
  have GP:∀b,b<w.heap.size->T b->T0 b:=λb hb h=>by
   rw[hT] at h;rcases h with h|h|h
   .exact h
   .omega
   .omega
  have k1:KT T0 w W1:=zF hg1;have hs1:L4 T K cb c sets nA hA nc hc sb sc bc br bn r n W1:=by
   refine⟨hs.CZ.keep hg1.size λb o hb=>hg1.cell (O5 b hb),λb hb h=>hs.kt b hb (GP b (O5 b hb) h),⟨(hg1.cell hs.xc.2.2).trans hs.xc.1,λh=>hs.xc.2.1 (GP _ hs.xc.2.2 h),by have:=hs.xc.2.2;omega⟩,⟨λi hi=>⟨(hg1.cell (p:=⟨br,i,none⟩) hs.xr.2.2).trans (hs.xr.1 i hi).1,(hg1.frozen (p:=⟨br,i,none⟩) hs.xr.2.2).trans (hs.xr.1 i hi).2⟩,λh=>hs.xr.2.1 (GP _ hs.xr.2.2 h),by have:=hs.xr.2.2;omega⟩,
    ⟨(hg1.cell hs.xn.2).trans hs.xn.1,by have:=hs.xn.2;omega⟩,hs.ne,hs.rs⟩
  have L5:∀ {W:World},KT (λb=>T b\/b=br) W1 W->KT (λb=>T0 b\/b=br) w W:=λhk =>
   KT.low (T:=λb=>T b\/b=br) ((zF hg1).trans hk) λb hb h=>h.elim (λh=>.inl (GP b hb h)) .inr
  have Yu:=hs.xr.2.2;have hput:∀(W:World) (o:Obj),KT T W (W.putObj (w.heap.size+1) o):=λW o=>KT.putObj W O6 o;have hq:=tj (T:=T) (l:=w.heap.size+1) (W0:=W1)
   (J:=λpre W=>I pre W/\W.heap[w.heap.size+1]?=some (.loop (rec .ready none))/\W.heap[w.heap.size]?=some (.deferred (some [])))
   (Jx:=λpre W=>∃j,Ix j pre W/\W.heap[w.heap.size+1]?=some (.loop (rec .done (some j)))/\W.heap[w.heap.size]?=some (.deferred (some [])))
   Du E0 O1 (λpre W W' h hk=>⟨hI _ _ _ h.1 λb hb=>hk b (Ny b hb),(hk _ O6).trans h.2.1,(hk _ hTD).trans h.2.2⟩)
   (λpre W h b hb=>by
    have h1:=(xg.1 h.2.1).1;rw[hT] at hb;rcases hb with hb|hb|hb
    .have:=Hx b hb;omega
    .omega
    .omega)
   ?_ hn hs1 (KT.refl _ _) ⟨hI1,hL1,Yt⟩ hz
  .refine hq.mono ?_;rintro e W2 ⟨rfl,hk2,(⟨hi,hl,hd⟩|⟨q,C4,j,hi,hl,hd⟩)⟩
   .refine⟨none,_,by have:=run_endLoop (P:=An) hl (by rw[Ff];simp);rw[Ff] at this;exact this,hdone _ _ (xh _) (L5 (hk2.trans ((hput _ _).mono λb h=>.inl h))) (hI _ _ _ hi λb hb=>World.putObj_heap_other (by have:=Hx b hb;omega)) ((World.putObj_heap_other (by omega)).trans hd)⟩
   .exact⟨some j,_,by have:=run_endLoop (P:=An) hl (by rw[Ff];simp);rw[Ff] at this;exact this,Bf _ j q _ (xh _) (L5 (hk2.trans ((hput _ _).mono λb h=>.inl h))) C4 (O4 _ _ _ _ hi λb hb=>World.putObj_heap_other (by have:=Hx b hb;omega)) ((World.putObj_heap_other (by omega)).trans hd)⟩
  .rintro pre ρ W hpl hkW ⟨hi,hl,hd⟩;have hlt:w.heap.size+1<W.heap.size:=(xg.1 hl).1;have hy:=run_yield (P:=An) (args:=#[BI ρ]) hl (by rw[Ff];simp[hps]);rw[Ff] at hy;refine⟨fn,_,assign,body,hy,roundIn_of_wpIn hfn (SG _ ρ W _ ⟨_,run_beginRound hl (by rw[Ff]),?_⟩)⟩;obtain⟨Wb,OA⟩:∃Wb,Wb=W.putObj (w.heap.size+1) (.loop { rec .ready none with state:=.busy }):=⟨_,rfl⟩;rw[<-OA];have kb:KT T W Wb:=by rw[OA];exact hput _ _
   have hl2:Wb.heap[w.heap.size+1]?=some (.loop { rec .ready none with state:=.busy }):=by rw[OA];exact World.putObj_heap_same hlt
   have LL:Wb.heap[w.heap.size]?=some (.deferred (some [])):=by rw[OA];exact(World.putObj_heap_other (by omega)).trans hd
   have hi2:I pre Wb:=hI _ _ _ hi λb hb=>by rw[OA];exact World.putObj_heap_other (by have:=Hx b hb;omega)
   have hzb:Wb.heap.size=W.heap.size:=by rw[OA];simp[World.putObj]
   refine wpIn_mono (IL _ pre ρ Wb hpl (L5 (hkW.trans (kb.mono λb h=>.inl h))) hi2) ?_;have fin : ∀ (jump : Option Code) (W3 : World), KT T0 Wb W3 ->
     (Instr.endRound (w.heap.size+1) jump).run An W3=.ok (.bool jump.isNone) (W3.putObj (w.heap.size+1) (.loop (rec (if jump.isNone then .ready else .done) jump))) /\
     (W3.putObj (w.heap.size+1) (.loop (rec (if jump.isNone then .ready else .done) jump))).heap[w.heap.size+1]?=some (.loop (rec (if jump.isNone then .ready else .done) jump)) /\
     (W3.putObj (w.heap.size+1) (.loop (rec (if jump.isNone then .ready else .done) jump))).heap[w.heap.size]?=some (.deferred (some []))/\KT T W (W3.putObj (w.heap.size+1) (.loop (rec (if jump.isNone then .ready else .done) jump))) /\
     ∀b,T0 b->(W3.putObj (w.heap.size+1) (.loop (rec (if jump.isNone then .ready else .done) jump))).heap[b]?=W3.heap[b]?:=λjump W3 hk3=>by
    have EY:W3.heap[w.heap.size+1]?=some (.loop { rec .ready none with state:=.busy }):=(hk3.block _ (by omega) λh=>by have:=Hx _ h;omega).trans hl2;have L6:W3.heap[w.heap.size]?=some (.deferred (some [])):=(hk3.block _ (by omega) λh=>by have:=Hx _ h;omega).trans LL;have:=run_endRound (P:=An) jump EY;rw[Ff] at this ⊢;exact⟨this,World.putObj_heap_same (xg.1 EY).1,(World.putObj_heap_other (by omega)).trans L6,(kb.trans (hk3.mono Ny)).trans (KT.putObj W3 O6 _),λb hb=>World.putObj_heap_other (by have:=Hx b hb;omega)⟩
   rintro e a3 W3 hp;cases e with
   |normal =>
    obtain⟨hk3,L8⟩:=hp;obtain⟨hr,hl4,JZ,hk4,hb4⟩:=fin none W3 hk3;exact⟨_,_,hr,.inl ⟨rfl,⟨hI _ _ _ L8 hb4,hl4,JZ⟩,hk4⟩⟩
   |ret =>
    obtain⟨hk3,L8⟩:=hp;obtain⟨hr,hl4,JZ,hk4,hb4⟩:=fin (some .ret) W3 hk3;exact⟨_,_,hr,.inr ⟨rfl,⟨.ret,O4 _ _ _ _ L8 hb4,hl4,JZ⟩,hk4⟩⟩
   |exit id =>
    obtain⟨hk3,L8⟩:=hp;obtain⟨hr,hl4,JZ,hk4,hb4⟩:=fin (some (.exit id)) W3 hk3;exact⟨_,_,hr,.inr ⟨rfl,⟨.exit id,O4 _ _ _ _ L8 hb4,hl4,JZ⟩,hk4⟩⟩
   |goto t =>
    obtain⟨hk3,L8⟩:=hp;obtain⟨hr,hl4,JZ,hk4,hb4⟩:=fin (some (.goto t)) W3 hk3;exact⟨_,_,hr,.inr ⟨rfl,⟨.goto t,O4 _ _ _ _ L8 hb4,hl4,JZ⟩,hk4⟩⟩
   |panic ch=>exact hp.elim
   |outgrown=>exact hp.elim
def ot {T0 K:Nat->Prop}{cb:Nat}{c:AD}{sets:List Nat}{nA hA:Option Addr}{nc hc sb sc bc br bn k n:Nat}{r:Bl}{g:Operand}{p:Tmp}{body:Code}{Q:Exit->Act->World->Prop}{a:Act}{w:World}
  (Du:c.Ok) (E0:∀x∈sets,c.has x) (O1:sets.length<=16) (hg:a.eval g=.func (.func 86) #[] #[.pointer (some ⟨bc,0,none⟩),.pointer (some ⟨br,0,none⟩),.pointer (some ⟨bn,0,none⟩)])
  (hn:n+k=c.Aq.length) (hz:∀i,n<=i->r i=0) (hs:L4 T0 K cb c sets nA hA nc hc sb sc bc br bn r n w) (Hx:∀b,T0 b->b<w.heap.size)
  (I:List Bl->World->Prop) (Ix:Code->List Bl->World->Prop) (hI:∀pre W W',I pre W->(∀b,T0 b->W'.heap[b]?=W.heap[b]?)->I pre W') (O4:∀c pre W W',Ix c pre W->(∀b,T0 b->W'.heap[b]?=W.heap[b]?)->Ix c pre W') (h0:I [] w)
  (IL:∀(l:Nat) (pre:List Bl) (ρ:Bl) (W:World),KT (λb=>T0 b\/b=br) w W->I pre W->body.wpIn (Fence.wide.inRound l) 0 An (O3 T0 I Ix (pre++[ρ]) W) { tmps:=a.tmps.setIfInBounds p (BI ρ),defers:=[] } W)
  (hdone:∀(D:Nat) (W:World),w.heap.size<=D->KT (λb=>T0 b\/b=br) w W->I (Bo c sets k r n) W->W.heap[D]?=some (.deferred (some []))->Q .normal { a with defers:={ target:=.collected D,args:=#[] }::a.defers } W)
  (Bf:∀(D:Nat) (j:Code) (q:List Bl) (W:World),w.heap.size<=D->KT (λb=>T0 b\/b=br) w W->q <+: Bo c sets k r n->Ix j q W->W.heap[D]?=some (.deferred (some []))->j.wpIn Fence.wide 0 An Q { a with defers:={ target:=.collected D,args:=#[] }::a.defers } W) :
  (Code.rangeFunc g #[p] .skip body).wpIn Fence.wide 0 An Q a w:=by
 exact pZ (ps:=#[p]) (assign:=.skip) Du E0 O1 hg hn hz hs Hx rfl I Ix hI O4 h0 (λρ=>{ tmps:=a.tmps.setIfInBounds p (BI ρ),defers:=[] }) (λl ρ W K hK=>wpIn_skip (by show K _ W;simpa using hK)) (λl pre ρ W _=>IL l pre ρ W) hdone Bf
def kw {T0 K:Nat->Prop}{cb:Nat}{c:AD}{sets:List Nat}{nA hA:Option Addr}{nc hc sb sc bc br bn k n:Nat}{r:Bl}{g:Operand}{ps:Array Tmp}{assign body:Code}{Q:Exit->Act->World->Prop}{a:Act}{w:World}
  (Du:c.Ok) (E0:∀x∈sets,c.has x) (O1:sets.length<=16) (hg:a.eval g=.func (.func 86) #[] #[.pointer (some ⟨bc,0,none⟩),.pointer (some ⟨br,0,none⟩),.pointer (some ⟨bn,0,none⟩)])
  (hn:n+k=c.Aq.length) (hz:∀i,n<=i->r i=0) (hs:L4 T0 K cb c sets nA hA nc hc sb sc bc br bn r n w) (Hx:∀b,T0 b->b<w.heap.size) (hps:ps.size=1)
  (I:List Bl->World->Prop) (Ix:Code->List Bl->World->Prop) (hI:∀pre W W',I pre W->(∀b,T0 b->W'.heap[b]?=W.heap[b]?)->I pre W') (O4:∀c pre W W',Ix c pre W->(∀b,T0 b->W'.heap[b]?=W.heap[b]?)->Ix c pre W') (h0:I [] w)
  (Vb:∀(l:Nat) (pre:List Bl) (ρ:Bl) (W:World),pre++[ρ] <+: Bo c sets k r n->KT (λb=>T0 b\/b=br) w W->I pre W->w.heap.size<l->l<W.heap.size ->
   assign.wpIn (Fence.wide.inRound l) 0 An (Exit.then (λa₁ w₁=>KT T0 W w₁/\∀o,body.wpIn (Fence.wide.inRound l) 0 An (O3 T0 I Ix (pre++[ρ]) (w₁.putObj l o)) a₁ (w₁.putObj l o)) (λ_ _ _=>False)) { tmps:=(ps.zip #[BI ρ]).foldl (λt (p,v)=>t.setIfInBounds p v) a.tmps,defers:=[] } W)
  (hdone:∀(D:Nat) (W:World),w.heap.size<=D->KT (λb=>T0 b\/b=br) w W->I (Bo c sets k r n) W->W.heap[D]?=some (.deferred (some []))->Q .normal { a with defers:={ target:=.collected D,args:=#[] }::a.defers } W)
  (Bf:∀(D:Nat) (j:Code) (q:List Bl) (W:World),w.heap.size<=D->KT (λb=>T0 b\/b=br) w W->q <+: Bo c sets k r n->Ix j q W->W.heap[D]?=some (.deferred (some []))->j.wpIn Fence.wide 0 An Q { a with defers:={ target:=.collected D,args:=#[] }::a.defers } W) :
  (Code.rangeFunc g ps assign body).wpIn Fence.wide 0 An Q a w:=by
 refine wpIn_rangeFunc ?_;intro fn hfn;have O5:∀b,K b->b<w.heap.size:=hs.CZ.lt;obtain⟨rec,Ff⟩:∃rec:LoopState->Option Code->Loop,rec=λst pe=>{ state:=st,pending:=pe,fn,tmps:=a.tmps,params:=ps,assign,body,defers:=w.heap.size }:=⟨_,rfl⟩;obtain⟨W1,hW1⟩:∃W1,(w.alloc (.deferred (some []))).alloc (.loop (rec .ready none))=W1:=⟨_,rfl⟩;have hL1:W1.heap[w.heap.size+1]?=some (.loop (rec .ready none)):=by
  rw[<-hW1];have:=World.alloc_heap_new (w.alloc (.deferred (some []))) (.loop (rec .ready none));rwa [zn] at this
 have Yt:W1.heap[w.heap.size]?=some (.deferred (some [])):=by
  rw[<-hW1];exact(yP _ _ _ (by simp)).trans (World.alloc_heap_new w _)
 have hg1:Gr w W1:=by rw[<-hW1];exact((Gr.refl w).alloc _).alloc _
 have hI1:I [] W1:=hI _ _ _ h0 λb hb=>hg1.below.block b (Hx b hb);have hz1:W1.heap.size=w.heap.size+2:=by rw[<-hW1];simp
 refine⟨w.heap.size+1,[{ target:=.collected w.heap.size,args:=#[] }],W1,{ target:=.fn (.func 86) #[.pointer (some ⟨bc,0,none⟩),.pointer (some ⟨br,0,none⟩),.pointer (some ⟨bn,0,none⟩)],args:=#[.func (.yield (w.heap.size+1)) #[] #[]] },W1,86,
  #[.func (.yield (w.heap.size+1)) #[] #[]]++#[.pointer (some ⟨bc,0,none⟩),.pointer (some ⟨br,0,none⟩),.pointer (some ⟨bn,0,none⟩)],W1,?_,?_,?_,?_,λh=>(by cases h),?_⟩
 .rw[<-hW1,Ff];exact run_enterLoop_outer _ _ _ _ _
 .simp only[resolve,hg];simp[go_sem]
 .intro f' _;trivial
 .simp[invoke,go_sem]
 .obtain⟨T,hT⟩:∃T:Nat->Prop,T=λb=>T0 b\/b=w.heap.size\/b=w.heap.size+1:=⟨_,rfl⟩;have Ny:∀b,T0 b->T b:=λb hb=>by rw[hT];exact .inl hb
  have hTD:T w.heap.size:=by rw[hT];exact .inr (.inl rfl)
  have O6:T (w.heap.size+1):=by rw[hT];exact .inr (.inr rfl)
  have GP:∀b,b<w.heap.size->T b->T0 b:=λb hb h=>by
   rw[hT] at h;rcases h with h|h|h
   .exact h
   .omega
   .omega
  have k1:KT T0 w W1:=zF hg1;have hs1:L4 T K cb c sets nA hA nc hc sb sc bc br bn r n W1:=by
   refine⟨hs.CZ.keep hg1.size λb o hb=>hg1.cell (O5 b hb),λb hb h=>hs.kt b hb (GP b (O5 b hb) h),⟨(hg1.cell hs.xc.2.2).trans hs.xc.1,λh=>hs.xc.2.1 (GP _ hs.xc.2.2 h),by have:=hs.xc.2.2;omega⟩,⟨λi hi=>⟨(hg1.cell (p:=⟨br,i,none⟩) hs.xr.2.2).trans (hs.xr.1 i hi).1,(hg1.frozen (p:=⟨br,i,none⟩) hs.xr.2.2).trans (hs.xr.1 i hi).2⟩,λh=>hs.xr.2.1 (GP _ hs.xr.2.2 h),by have:=hs.xr.2.2;omega⟩,
    ⟨(hg1.cell hs.xn.2).trans hs.xn.1,by have:=hs.xn.2;omega⟩,hs.ne,hs.rs⟩
  have L5:∀ {W:World},KT (λb=>T b\/b=br) W1 W->KT (λb=>T0 b\/b=br) w W:=λhk =>
   KT.low (T:=λb=>T b\/b=br) ((zF hg1).trans hk) λb hb h=>h.elim (λh=>.inl (GP b hb h)) .inr
  have Yu:=hs.xr.2.2;have hput:∀(W:World) (o:Obj),KT T W (W.putObj (w.heap.size+1) o):=λW o=>KT.putObj W O6 o;have hq:=tj (T:=T) (l:=w.heap.size+1) (W0:=W1)
   (J:=λpre W=>I pre W/\W.heap[w.heap.size+1]?=some (.loop (rec .ready none))/\W.heap[w.heap.size]?=some (.deferred (some [])))
   (Jx:=λpre W=>∃j,Ix j pre W/\W.heap[w.heap.size+1]?=some (.loop (rec .done (some j)))/\W.heap[w.heap.size]?=some (.deferred (some [])))
   Du E0 O1 (λpre W W' h hk=>⟨hI _ _ _ h.1 λb hb=>hk b (Ny b hb),(hk _ O6).trans h.2.1,(hk _ hTD).trans h.2.2⟩)
   (λpre W h b hb=>by
    have h1:=(xg.1 h.2.1).1;rw[hT] at hb;rcases hb with hb|hb|hb
    .have:=Hx b hb;omega
    .omega
    .omega)
   ?_ hn hs1 (KT.refl _ _) ⟨hI1,hL1,Yt⟩ hz
  .refine hq.mono ?_;rintro e W2 ⟨rfl,hk2,(⟨hi,hl,hd⟩|⟨q,C4,j,hi,hl,hd⟩)⟩
   .refine⟨none,_,by have:=run_endLoop (P:=An) hl (by rw[Ff];simp);rw[Ff] at this;exact this,hdone _ _ (xh _) (L5 (hk2.trans ((hput _ _).mono λb h=>.inl h))) (hI _ _ _ hi λb hb=>World.putObj_heap_other (by have:=Hx b hb;omega)) ((World.putObj_heap_other (by omega)).trans hd)⟩
   .exact⟨some j,_,by have:=run_endLoop (P:=An) hl (by rw[Ff];simp);rw[Ff] at this;exact this,Bf _ j q _ (xh _) (L5 (hk2.trans ((hput _ _).mono λb h=>.inl h))) C4 (O4 _ _ _ _ hi λb hb=>World.putObj_heap_other (by have:=Hx b hb;omega)) ((World.putObj_heap_other (by omega)).trans hd)⟩
  .rintro pre ρ W hpl hkW ⟨hi,hl,hd⟩;have hlt:w.heap.size+1<W.heap.size:=(xg.1 hl).1;have hy:=run_yield (P:=An) (args:=#[BI ρ]) hl (by rw[Ff];simp[hps]);rw[Ff] at hy;refine⟨fn,_,assign,body,hy,roundIn_of_wpIn hfn (wpIn_mono (Vb (w.heap.size+1) pre ρ W hpl (L5 hkW) hi (by omega) hlt) ?_)⟩;rintro e1 a1 w1 Gu;cases e1 with
   |panic ch=>exact Gu.elim
   |outgrown=>exact Gu.elim
   |ret=>exact Gu.elim
   |exit id=>exact Gu.elim
   |goto t=>exact Gu.elim
   |normal =>
   obtain⟨kw1,hb1⟩:=Gu;have DG:w1.heap[w.heap.size+1]?=some (.loop (rec .ready none)):=(kw1.block _ hlt λh=>by have:=Hx _ h;omega).trans hl;have JY:w1.heap[w.heap.size]?=some (.deferred (some [])):=(kw1.block _ (by omega) λh=>by have:=Hx _ h;omega).trans hd;have Yv:w.heap.size+1<w1.heap.size:=(xg.1 DG).1;refine⟨_,run_beginRound DG (by rw[Ff]),?_⟩;obtain⟨Wb,OA⟩:∃Wb,Wb=w1.putObj (w.heap.size+1) (.loop { rec .ready none with state:=.busy }):=⟨_,rfl⟩
   have OB:=hb1 (.loop { rec .ready none with state:=.busy });rw[<-OA] at OB ⊢;have kb:KT T W Wb:=(kw1.mono Ny).trans (by rw[OA];exact hput _ _);have hl2:Wb.heap[w.heap.size+1]?=some (.loop { rec .ready none with state:=.busy }):=by rw[OA];exact World.putObj_heap_same Yv
   have LL:Wb.heap[w.heap.size]?=some (.deferred (some [])):=by rw[OA];exact(World.putObj_heap_other (by omega)).trans JY
   have hzb:Wb.heap.size=w1.heap.size:=by rw[OA];simp[World.putObj]
   refine wpIn_mono OB ?_;have fin : ∀ (jump : Option Code) (W3 : World), KT T0 Wb W3 ->
     (Instr.endRound (w.heap.size+1) jump).run An W3=.ok (.bool jump.isNone) (W3.putObj (w.heap.size+1) (.loop (rec (if jump.isNone then .ready else .done) jump))) /\
     (W3.putObj (w.heap.size+1) (.loop (rec (if jump.isNone then .ready else .done) jump))).heap[w.heap.size+1]?=some (.loop (rec (if jump.isNone then .ready else .done) jump)) /\
     (W3.putObj (w.heap.size+1) (.loop (rec (if jump.isNone then .ready else .done) jump))).heap[w.heap.size]?=some (.deferred (some []))/\KT T W (W3.putObj (w.heap.size+1) (.loop (rec (if jump.isNone then .ready else .done) jump))) /\
     ∀b,T0 b->(W3.putObj (w.heap.size+1) (.loop (rec (if jump.isNone then .ready else .done) jump))).heap[b]?=W3.heap[b]?:=λjump W3 hk3=>by
    have EY:W3.heap[w.heap.size+1]?=some (.loop { rec .ready none with state:=.busy }):=(hk3.block _ (by omega) λh=>by have:=Hx _ h;omega).trans hl2;have L6:W3.heap[w.heap.size]?=some (.deferred (some [])):=(hk3.block _ (by omega) λh=>by have:=Hx _ h;omega).trans LL;have:=run_endRound (P:=An) jump EY;rw[Ff] at this ⊢;exact⟨this,World.putObj_heap_same (xg.1 EY).1,(World.putObj_heap_other (by omega)).trans L6,(kb.trans (hk3.mono Ny)).trans (KT.putObj W3 O6 _),λb hb=>World.putObj_heap_other (by have:=Hx b hb;omega)⟩
   rintro e a3 W3 hp;cases e with
   |normal =>
    obtain⟨hk3,L8⟩:=hp;obtain⟨hr,hl4,JZ,hk4,hb4⟩:=fin none W3 hk3;exact⟨_,_,hr,.inl ⟨rfl,⟨hI _ _ _ L8 hb4,hl4,JZ⟩,hk4⟩⟩
   |ret =>
    obtain⟨hk3,L8⟩:=hp;obtain⟨hr,hl4,JZ,hk4,hb4⟩:=fin (some .ret) W3 hk3;exact⟨_,_,hr,.inr ⟨rfl,⟨.ret,O4 _ _ _ _ L8 hb4,hl4,JZ⟩,hk4⟩⟩
   |exit id =>
    obtain⟨hk3,L8⟩:=hp;obtain⟨hr,hl4,JZ,hk4,hb4⟩:=fin (some (.exit id)) W3 hk3;exact⟨_,_,hr,.inr ⟨rfl,⟨.exit id,O4 _ _ _ _ L8 hb4,hl4,JZ⟩,hk4⟩⟩
   |goto t =>
    obtain⟨hk3,L8⟩:=hp;obtain⟨hr,hl4,JZ,hk4,hb4⟩:=fin (some (.goto t)) W3 hk3;exact⟨_,_,hr,.inr ⟨rfl,⟨.goto t,O4 _ _ _ _ L8 hb4,hl4,JZ⟩,hk4⟩⟩
   |panic ch=>exact hp.elim
   |outgrown=>exact hp.elim
def zP (a:Addr)(w:World)(hc:w.cell? a=some (.int .i32 0))(hz:w.frozen? a=false) :
  Calls An 79 #[.pointer (some a)] w λe w'=>e=.returned (.tuple #[])/\w'=w.setCell a (.int .i32 1):=by
 have Yw:=run_call_cas_hit (P:=An) Sq.func140 (by kernel_rfl) (by kernel_rfl) (by kernel_rfl) .i32 (by kernel_rfl) (x:=0) (y:=1) hc hz;go_enter Sq.func79,zW;simp only[casBody];go_wp2;refine bodyPost_ret (results_none rfl _ _ _) rfl ?_;exact⟨rfl,rfl⟩
def zO (a:Addr)(u:FrameMode)(w:World)(hc:w.cell? a=some (.int .i32 1))(hz:w.frozen? a=false) :
  CallsD An 80 #[.pointer (some a)] u w λe u' w'=>u'=u/\(e=.returned (.tuple #[])/\w'=w.setCell a (.int .i32 0)):=by
 have Yw:=run_call_cas_hit (P:=An) Sq.func140 (by kernel_rfl) (by kernel_rfl) (by kernel_rfl) .i32 (by kernel_rfl) (x:=1) (y:=0) hc hz;go_enter_d Sq.func80,zU;simp only[casBody];go_wp2;refine bodyPost_ret (results_none rfl _ _ _) rfl ?_;exact⟨rfl,rfl⟩
def tC (nb:Nat)(x y s:Int)(w:World)(hc:w.heap[nb]?=some (.cells #[.int .i64 x] 87 (0,0)))(hs:IntKind.i64.wrap (x+y)=s) :
  Calls An 41 #[.pointer (some ⟨nb,0,none⟩),.int .i64 y] w λe w'=>e=.returned (.int .i64 s)/\w'=w.setCell ⟨nb,0,none⟩ (.int .i64 s):=by
 obtain⟨h1,h2,h3⟩:=one_cell hc;have ac7:=run_call_add (P:=An) Sq.func77 (by kernel_rfl) (by kernel_rfl) (by kernel_rfl) .i64 (by kernel_rfl) (y:=y) (s:=s) h1 h2 (by simp[go_sem];exact hs);go_enter Sq.func41,Tryz.ntmps41;go_wp2;go_ret;exact⟨rfl,rfl⟩
def rE (nb:Nat)(x:Int)(w:World)(hc:w.heap[nb]?=some (.cells #[.int .i64 x] 87 (0,0))) :
  Calls An 42 #[.pointer (some ⟨nb,0,none⟩)] w λe w'=>e=.returned (.int .i64 x)/\w'=w:=by
 obtain⟨h1,h2,h3⟩:=one_cell hc;have hload:=run_call_load (P:=An) Sq.func78 (by kernel_rfl) (by kernel_rfl) (by kernel_rfl) .i64 (by kernel_rfl) h1;go_enter Sq.func42,Tryz.ntmps42;go_wp2;go_ret;exact⟨rfl,rfl⟩
def rF (nb:Nat)(x s:Int)(ρ:Bl)(w:World)(hc:w.heap[nb]?=some (.cells #[.int .i64 x] 87 (0,0)))(hs:IntKind.i64.wrap (x+1)=s) :
  Calls An 40 #[BI ρ,.pointer (some ⟨nb,0,none⟩)] w λe w'=>e=.returned (.tuple #[])/\KT (·=nb) w w'/\w'.heap[nb]?=some (.cells #[.int .i64 s] 87 (0,0)):=by
 have hlt:=(one_cell hc).2.2;obtain⟨W,hW⟩:∃W,W=w.alloc (.cells #[.int .u8 (ρ 0),.int .u8 (ρ 1),.int .u8 (ρ 2),.int .u8 (ρ 3),.int .u8 (ρ 4)] 72):=⟨_,rfl⟩;have hc2:W.heap[nb]?=some (.cells #[.int .i64 x] 87 (0,0)):=by rw[hW,heap_alloc_old _ _ hlt];exact hc
 have HK:=xf (show KT (·=nb) w W by rw[hW];exact zF ((Gr.refl w).alloc _));have ac8:=xf (tC nb x 1 s W hc2 hs);have HW:=xf hW;have TY:=xf hc2;clear hW hc hc2;unfold BI;go_enter Sq.func40,Tryz.ntmps40;go_wp2_with fail;rw[<-HW.out];refine ac8.out.mono ?_;rintro e w' ⟨rfl,hw'⟩;have HW':=xf hw';clear hw';go_wp2;go_end0;refine⟨rfl,HK.out.trans (by rw[HW'.out];exact KT.setCell (T:=(·=nb)) W (p:=⟨nb,0,none⟩) rfl _),?_⟩
 rw[HW'.out];exact one_set TY.out
def cd {W:World}{b i:Nat}{a:Array Value}{u:Value}{t:TypeId}{f:Nat×Nat}(h:W.heap[b]?=some (.cells a t f)):(W.setCell ⟨b,i,none⟩ u).heap[b]?=some (.cells (a.setIfInBounds i u) t f):=by
 unfold World.setCell;simp only[ya,if_true,h]
 rfl
def Dn {W:World}{b:Nat}{a:Array Value}{t:TypeId}(h:W.heap[b]?=some (.cells a t (0,0))):(∀i:Nat,W.cell? ⟨b,i,none⟩=a[i]?)/\(∀i,W.frozen? ⟨b,i,none⟩=false)/\b<W.heap.size:=by
 refine⟨λi=>?_,λi=>?_,(xg.1 h).1⟩
 .unfold World.cell?;simp only[h];rfl
 .unfold World.frozen?;simp[h]
def FJ (m:Int)(r:Bl)(b:Bool):Array Value:=#[.int .i32 m,.int .u32 0,.int .u8 (r 0),.int .u8 (r 1),.int .u8 (r 2),.int .u8 (r 3),.int .u8 (r 4),.bool b]
def rG (kb:Nat)(ρ:Bl)(f:Value)(w:World)(hk:w.heap[kb]?=some (.cells (FJ 0 (λ_=>0) false) 101 (0,0))) :
  Calls An 47 #[.pointer (some ⟨kb,0,none⟩),BI ρ,f] w λe w'=>e=.returned (.tuple #[])/\KT (·=kb) w w'/\w'.heap[kb]?=some (.cells (FJ 0 ρ true) 101 (0,0)):=by
 obtain⟨W,hW⟩:∃W,W=w.alloc (.cells #[.int .u8 (ρ 0),.int .u8 (ρ 1),.int .u8 (ρ 2),.int .u8 (ρ 3),.int .u8 (ρ 4)] 72):=⟨_,rfl⟩;have hlt:=(xg.1 hk).1;have hk2:W.heap[kb]?=some (.cells (FJ 0 (λ_=>0) false) 101 (0,0)):=by rw[hW,heap_alloc_old _ _ hlt];exact hk
 obtain⟨hc,hf,_⟩:=Dn hk2;have h0:=hc 0;have f0:=hf 0;have hk3:=cd (i:=0) (u:=.int .i32 1) hk2;have HK:=xf (show KT (·=kb) w W by rw[hW];exact zF ((Gr.refl w).alloc _));obtain⟨hc3,hf3,_⟩:=Dn hk3;have g0:=hc3 0;have g2:=hc3 2;have g3:=hc3 3;have g4:=hc3 4;have g5:=hc3 5;have g6:=hc3 6;have g7:=hc3 7;have e0:=hf3 0;have e2:=hf3 2;have e3:=hf3 3;have e4:=hf3 4;have e5:=hf3 5;have e6:=hf3 6
 have e7:=hf3 7;simp[FJ] at h0 g0 g2 g3 g4 g5 g6 g7;have hb:∀i,i<5->(W.setCell ⟨kb,0,none⟩ (.int .i32 1)).cell? ⟨w.heap.size,i,none⟩=some (.int .u8 (ρ i)):=λi hi=>by
  rw[xq _ _ _ _ (λe=>by have:kb=w.heap.size:=congrArg Addr.block e;omega),hW,xj _ _ _ _ rfl]
  match i,hi with
  |0,_=>rfl
  |1,_=>rfl
  |2,_=>rfl
  |3,_=>rfl
  |4,_=>rfl
 have b0:=hb 0 (by omega);have b1:=hb 1 (by omega);have b2:=hb 2 (by omega);have b3:=hb 3 (by omega);have b4:=hb 4 (by omega);have HW:=xf hW;have SH:=xf hk2;have SF:=xf hk3;clear hc hf hc3 hf3 hk3 hk2 hk hW hb;unfold BI;go_enter_defers Sq.func47,Tryz.ntmps47;go_wp2_with (go_at_call 79;rw[<-HW.out];refine(zP ⟨kb,0,none⟩ _ h0 f0).mono ?_;rintro e w' ⟨rfl,rfl⟩);go_quiet (fail);go_wp2;have HS:=xf (cd (i:=7) (u:=.bool true) (cd (i:=6) (u:=.int .u8 (ρ 4)) (cd (i:=5) (u:=.int .u8 (ρ 3)) (cd (i:=4) (u:=.int .u8 (ρ 2)) (cd (i:=3) (u:=.int .u8 (ρ 1)) (cd (i:=2) (u:=.int .u8 (ρ 0)) (show((W.setCell ⟨kb,0,none⟩ (.int .i32 1)).drewN nq).heap[kb]?=_ from SF.out)))))))
 refine leaves_cons (f:=80) (args:=#[.pointer (some ⟨kb,0,none⟩)]) (by simp) (by simp[go_sem]) ?_;obtain⟨hc4,hf4,_⟩:=Dn HS.out;refine(zO ⟨kb,0,none⟩ .returning _ (by rw[hc4 0];rfl) (hf4 0)).mono ?_;rintro e u' w'' ⟨rfl,rfl,rfl⟩;have k:∀(w:World) (i:Nat) (v:Value),KT (·=kb) w (w.setCell ⟨kb,i,none⟩ v):=λw i v=>KT.setCell (T:=(·=kb)) w (p:=⟨kb,i,none⟩) rfl v;refine⟨.tuple #[],results_none rfl _ _ _,rfl,HK.out.trans ((k _ 0 _).trans ((zF ((Gr.refl _).drewN nq)).trans ((k _ 2 _).trans ((k _ 3 _).trans ((k _ 4 _).trans ((k _ 5 _).trans ((k _ 6 _).trans ((k _ 7 _).trans (k _ 0 _))))))))),?_⟩
 exact cd (i:=0) (u:=.int .i32 0) HS.out
def tD (kb xb:Nat)(ρ:Bl)(f:Value)(w:World)(hx:w.cell? ⟨xb,0,none⟩=some f)(Yx:xb<w.heap.size)(hk:w.heap[kb]?=some (.cells (FJ 0 (λ_=>0) false) 101 (0,0))) :
  Calls An 46 #[BI ρ,.pointer (some ⟨kb,0,none⟩),.pointer (some ⟨xb,0,none⟩)] w λe w'=>e=.returned (.tuple #[])/\KT (·=kb) w w'/\w'.heap[kb]?=some (.cells (FJ 0 ρ true) 101 (0,0)):=by
 obtain⟨W,hW⟩:∃W,W=w.alloc (.cells #[.int .u8 (ρ 0),.int .u8 (ρ 1),.int .u8 (ρ 2),.int .u8 (ρ 3),.int .u8 (ρ 4)] 72):=⟨_,rfl⟩;have hlt:=(xg.1 hk).1;have HO:=xf (rG kb ρ f W (by rw[hW,heap_alloc_old _ _ hlt];exact hk));have HK:=xf (show KT (·=kb) w W by rw[hW];exact zF ((Gr.refl w).alloc _));have HW:=xf hW;clear hk hW;unfold BI at HO ⊢;go_enter Sq.func46,Tryz.ntmps46;go_wp2_with fail;rw[<-HW.out]
 refine HO.out.mono ?_;rintro e w' ⟨rfl,SI,hk2⟩;have HK1:=xf (HK.out.trans SI);have SH:=xf hk2;clear SI hk2 HO;go_wp2;go_end0;exact⟨rfl,HK1.out,SH.out⟩
def jW {T0 K:Nat->Prop}{cb:Nat}{c:AD}{sets:List Nat}{nA hA:Option Addr}{nc hc sb sc n:Nat}{r:Bl}{w:World}(hC:CN w K cb c sets nA hA nc hc sb sc)(hT:∀b,T0 b->b<w.heap.size)(hK:∀b,K b->¬T0 b)(hr:∀i,c.has (r i)) :
  L4 T0 K cb c sets nA hA nc hc sb sc w.heap.size (w.heap.size+1) (w.heap.size+2) r n
   (((w.alloc (.cells #[.pointer (some ⟨cb,0,none⟩)] 69)).alloc (.cells #[.int .u8 (r 0),.int .u8 (r 1),.int .u8 (r 2),.int .u8 (r 3),.int .u8 (r 4)] 72)).alloc (.cells #[.int .i64 n] 3)):=by
 have hg:Gr w (((w.alloc (.cells #[.pointer (some ⟨cb,0,none⟩)] 69)).alloc (.cells #[.int .u8 (r 0),.int .u8 (r 1),.int .u8 (r 2),.int .u8 (r 3),.int .u8 (r 4)] 72)).alloc (.cells #[.int .i64 n] 3)):=(((Gr.refl w).alloc _).alloc _).alloc _;refine⟨hC.keep hg.size λb o hb=>hg.cell (hC.lt b hb),hK,⟨?_,λh=>by have:=hT _ h;omega,by simp;omega⟩,⟨λi hi=>?_,λh=>by have:=hT _ h;omega,by simp⟩,⟨?_,by simp⟩,⟨by omega,λb hb=>by have:=hC.lt b hb;omega⟩,hr⟩
 .rw[xI _ _ _ (by simp;omega),xI _ _ _ (by simp),xj _ _ _ _ rfl];rfl
 .rw[xI _ _ _ (by simp),xj _ _ _ _ (by simp),yF _ _ _ (by simp),xX _ _ _ _ (by simp)]
  match i,hi with
  |0,_=>exact⟨rfl,rfl⟩
  |1,_=>exact⟨rfl,rfl⟩
  |2,_=>exact⟨rfl,rfl⟩
  |3,_=>exact⟨rfl,rfl⟩
  |4,_=>exact⟨rfl,rfl⟩
 .rw[xj _ _ _ _ (by simp)];rfl
attribute [local go_sem] Oper.semAt_some
def Yy:Code->Code
 |.seq _ b=>b
 |c=>c
noncomputable abbrev Vd:Code:=Yy (Tryz.f74.body.getD .skip)
def KG (b4:Nat):Deferred:={ target:=.fn (.func 75) #[],args:=#[.pointer (some ⟨b4,0,none⟩)] }
def dm (b2 b3 b4 r:Nat):Act:=⟨#[.pointer (some ⟨b4,0,none⟩),.pointer (some ⟨b2,0,none⟩),.pointer (some ⟨r,0,none⟩),.pointer (some ⟨b3,0,none⟩),undef,undef,undef,undef,undef,undef,undef,undef],[KG b4]⟩
def nF {T0 K:Nat->Prop}{cb:Nat}{c:AD}{sets:List Nat}{nA hA:Option Addr}{nc hc sb sc b2 b3 b4 rb F k:Nat}{fc:Array Value}{r:Bl}{w:World}
  (Du:c.Ok) (E0:∀x∈sets,c.has x) (O1:sets.length<=16) (hC:CN w K cb c sets nA hA nc hc sb sc) (hT:∀b,T0 b->b<w.heap.size) (hK:∀b,K b->¬T0 b) (hr:∀i,c.has (r i)) (hz:∀i,1<=i->r i=0) (hk:1+k=c.Aq.length)
  (h2:w.cell? ⟨b2,0,none⟩=some (.pointer (some ⟨cb,0,none⟩))) (MN:∀i,i<5->w.cell? ⟨rb,i,none⟩=some (.int .u8 (r i))) (h3:w.cell? ⟨b3,0,none⟩=some (.func (.func F) #[] fc)) (Xv:b3<w.heap.size/\¬T0 b3)
  (I:List Bl->World->Prop) (hI:∀pre W W',I pre W->(∀b,T0 b->W'.heap[b]?=W.heap[b]?)->I pre W') (h0:I [] w)
  (hcf:∀(x:Array Value) (w:World),(callFunc F x).run An w=.ok (.enter F x) w)
  (Xw:∀(pre:List Bl) (ρ:Bl) (W:World),pre++[ρ] <+: Bo c sets k r 1->KT (λb=>T0 b\/w.heap.size<=b) w W->I pre W->Calls An F (#[BI ρ]++fc) W λe W'=>e=.returned (.tuple #[])/\KT T0 W W'/\I (pre++[ρ]) W') :
  Vd.wp An (λe a' w'=>(e=.normal\/e=.ret)/\(e=.normal/\I (Bo c sets k r 1) w'/\∃D,a'.defers=[{ target:=.collected D,args:=#[] },KG b4]/\¬T0 D/\w'.heap[D]?=some (.deferred (some [])))) (dm b2 b3 b4 rb) w:=by
 have HC:=xf hC;have HDO:=xf Xw;have HT:=xf hT;have HK:=xf hK;have HI:=xf hI;have H0:=xf h0;have HR:=xf hr;have HZ:=xf hz;have HST:=xf E0;have r0:=MN 0 (by omega);have r1:=MN 1 (by omega);have r2:=MN 2 (by omega);have r3:=MN 3 (by omega);have r4:=MN 4 (by omega);have E1:=lD cb 1 r w;rw[<-callsIn_wide (n:=0)] at E1;unfold BI at E1;rw[show(((1:Nat):Int))=1 from rfl] at E1;have HF:=xf E1
 have Yz:=xf h3;clear hC Xw hT hK hI h0 hr hz E0 MN E1 h3;unfold dm Vd Tryz.f74;simp only[Option.getD_some,Yy];rw[<-wpIn_wide (n:=0)]
 gi_wp2_with fail
 refine⟨trivial,rfl,HF.out.mono ?_⟩;rintro e w1 ⟨rfl,Eb⟩;have hs:=jW (T0:=T0) (K:=K) (n:=1) (r:=r) HC.out HT.out HK.out HR.out;rw[show(((1:Nat):Int))=1 from rfl,<-Eb] at hs;have HS:=xf hs;have hg1:Gr w w1:=by rw[Eb];exact(((Gr.refl w).alloc _).alloc _).alloc _
 have hz1:w1.heap.size=w.heap.size+3:=by rw[Eb];simp
 have Ch:=xf hg1;have MO:=xf hz1;clear hs hg1 Eb HF hz1
 gi_wp2_with fail
 refine kw (T0:=T0) (K:=K) (cb:=cb) (c:=c) (sets:=sets) (nA:=nA) (hA:=hA) (nc:=nc) (hc:=hc) (sb:=sb) (sc:=sc) (bc:=w.heap.size) (br:=w.heap.size+1) (bn:=w.heap.size+2) (k:=k) (n:=1) (r:=r)
  Du HST.out O1 rfl hk HZ.out HS.out (λb hb=>xl (HT.out b hb) Ch.out.size) rfl
  I (λ_ _ _=>False) HI.out (λc pre W W' h _=>h) (HI.out _ _ _ H0.out λb hb=>Ch.out.below.block b (HT.out b hb)) ?_ ?_ (λD j q W _ _ _ h _=>h.elim)
 .intro l pre ρ W hpl Jz C4 DG hl2;have SJ:KT (λb=>T0 b\/w.heap.size<=b) w W:=KT.low (T:=λb=>T0 b\/b=w.heap.size+1) ((zF Ch.out).trans Jz) λb hb h=>h.elim .inl λh=>by omega
  have HKW:=xf SJ;have HPL:=xf hpl;have ada:=xf C4;have hb3:W.cell? ⟨b3,0,none⟩=some (.func (.func F) #[] fc):=(SJ.cell (p:=⟨b3,0,none⟩) Xv.1 (by rintro(h|h);exact Xv.2 h;have:=Xv.1;exact absurd h (by show ¬w.heap.size<=b3;omega))).trans Yz.out;have hzw:=SJ.size;have hzl:w.heap.size+3<=W.heap.size:=by have:=Jz.size;have:=MO.out;omega
  obtain⟨W2,hW2⟩:∃W2,W2=W.alloc (.cells #[.int .u8 (ρ 0),.int .u8 (ρ 1),.int .u8 (ρ 2),.int .u8 (ρ 3),.int .u8 (ρ 4)] 72):=⟨_,rfl⟩;have YA:Hid (KT T0 W W2):=xf (by rw[hW2];exact zF ((Gr.refl W).alloc _));have Hd:Hid (W2.heap[W.heap.size]?=some (.cells #[.int .u8 (ρ 0),.int .u8 (ρ 1),.int .u8 (ρ 2),.int .u8 (ρ 3),.int .u8 (ρ 4)] 72 (0,0))):=xf (by rw[hW2];exact World.alloc_heap_new W _);have HOLD:Hid (∀b,b<W.heap.size->W2.heap[b]?=W.heap[b]?):=xf λb hb=>by rw[hW2];exact heap_alloc_old _ _ hb
  have hz2:W2.heap.size=W.heap.size+1:=by rw[hW2];simp
  have Ve:=xf hz2;have O7:=xf hW2;clear Jz SJ hpl C4 hW2 hz2;unfold BI
  gi_wp2
  rw[<-O7.out];refine⟨YA.out,λo=>?_⟩;clear O7;have hlD:∀b,b<w.heap.size->b≠l:=λb hb=>by have:=MO.out;omega
  have HB3:(W2.putObj l o).cell? ⟨b3,0,none⟩=some (.func (.func F) #[] fc):=(cx (hlD b3 Xv.1)).trans ((YA.out.cell (p:=⟨b3,0,none⟩) (by show b3<_;have:=Xv.1;omega) Xv.2).trans hb3);obtain⟨Xx,_,_⟩:=Dn (W:=W2.putObj l o) ((World.putObj_heap_other (by omega)).trans Hd.out);have c0:=Xx 0;have c1:=Xx 1;have c2:=Xx 2;have c3:=Xx 3;have c4:=Xx 4;simp at c0 c1 c2 c3 c4;have HI2:=xf (HI.out pre W (W2.putObj l o) ada.out λb hb=>(World.putObj_heap_other (hlD b (HT.out b hb))).trans (HOLD.out b (by have:=HT.out b hb;omega)))
  have SK:=HDO.out pre ρ (W2.putObj l o) HPL.out ((HKW.out.trans (YA.out.mono λb h=>.inl h)).trans (KT.putObj (T:=λb=>T0 b\/w.heap.size<=b) W2 (.inr (by have:=MO.out;omega)) o)) HI2.out;rw[<-callsIn_wide (n:=0)] at SK;unfold BI at SK;have HD2:=xf SK;clear Xx Hd SK
  gi_wp2_with fail
  refine⟨trivial,rfl,HD2.out.mono ?_⟩;rintro e w5 ⟨rfl,TZ,hi5⟩;have HK5:=xf TZ;have HI5:=xf hi5;clear TZ hi5 HD2
  gi_wp2
  exact⟨HK5.out,HI5.out⟩
 .intro D W hD Jz hi hd;have HND:=xf (show ¬T0 D from λh=>by have:=HT.out D h;have:=Ch.out.size;omega)
  gi_wp2
  exact⟨hi,HND.out⟩
end Go.Proofs.Ao
namespace Go.AW
section
variable (P:Ba) (S:Cb) (Ck:Code->Prop) (G:Nat)
def Ends {α Ej:Type}(β:AO)(w W:World)(B5:Array Event)(R:AO->α->Ej->Prop):Result α×Array Event->Result Ej×Array Event->Prop
 |(.ok a w',_),r=>∃Ax A W' ES,r=(.ok A W',B5++ES.toArray)/\R Ax a A/\Fin S Ck G β Ax w W w' W' ES
 |(.halt (.panic v) w',_),r=>∃Ax V W' ES,r=(.halt (.panic V) W',B5++ES.toArray)/\Aw S Ax v V/\Fin S Ck G β Ax w W w' W' ES
 |(.halt (.stuck _) _,_),_=>True
 |(.halt (.unsupported u) _,_),_=>∀g,u≠.initOrder g
 |_,_=>False
def AE {α Ej:Type}(β:AO)(m:Sem α)(M:Sem Ej)(R:AO->α->Ej->Prop):Prop :=
 ∀w W n,Bg S Ck G β w W->Im n w W->∀BV B5,(world (m.runT P.a w BV).1).drawn<=w.drawn+n ->
  Ends S Ck G β w W B5 R (m.runT P.a w BV) (M.runT P.b W B5)
end
section
variable {P:Ba} {S:Cb} {Ck:Code->Prop} {G:Nat} {β:AO} {α Ej γ γ':Type}
def Au {R:AO->α->Ej->Prop}{a:α}{A:Ej}(h:R β a A):AE P S Ck G β (pure a:Sem α) (pure A:Sem Ej) R:=by
 intro w W n hw ht BV B5 _;exact⟨β,A,W,[],by show(Result.ok A W,B5)=_;simp,h,Fin.refl hw⟩
def tE {R R':AO->α->Ej->Prop}{m:Sem α}{M:Sem Ej}(h:AE P S Ck G β m M R)(hr:∀Ax a A,β.le Ax->R Ax a A->R' Ax a A):AE P S Ck G β m M R':=by
 intro w W n hw ht BV B5 hb;have:=h w W n hw ht BV B5 hb;revert this;generalize m.runT P.a w BV=r;obtain⟨r,es'⟩:=r;cases r with
 |ok a w' =>
  rintro⟨Ax,A,W',ES,h1,h3,h4⟩;exact⟨Ax,A,W',ES,h1,hr _ _ _ h4.le h3,h4⟩
 |halt x w'=>cases x<;>exact id
def Ar {R:AO->α->Ej->Prop}{R':AO->γ->γ'->Prop}{m:Sem α}{M:Sem Ej}{k:α->Sem γ}{K:Ej->Sem γ'}(h:AE P S Ck G β m M R)
  (hk:∀Ax a A,β.le Ax->R Ax a A->AE P S Ck G Ax (k a) (K A) R'):AE P S Ck G β (m >>= k) (M >>= K) R':=by
 intro w W n hw ht BV B5 hb;rw[aj] at hb ⊢;rw[aj];have hm:=h w W n hw ht BV B5;revert hb hm;generalize hr:m.runT P.a w BV=r;obtain⟨r,T2⟩:=r;cases r with
 |ok a w1 =>
  intro hb hm;simp only at hb ⊢;have h1:=Cr P.a (k a) w1 T2;obtain⟨B7,A,W1,ES,e1,e3,e4⟩:=hm (xx h1 hb);have hd:=e4.drawn;have h2:=hk B7 a A e4.le e3 w1 W1 (n-(w1.drawn-w.drawn)) e4.rel (ht.rest e4) T2 (B5++ES.toArray) (by omega);rw[e1];simp only;revert h2;generalize (k a).runT P.a w1 T2=r2;obtain⟨r2,es2⟩:=r2;cases r2 with
  |ok b w2 =>
   rintro⟨BS,B,W2,xe,f1,f3,f4⟩;exact⟨BS,B,W2,ES++xe,by rw[f1];simp,f3,e4.trans f4⟩
  |halt x w2 =>
   cases x with
   |panic v =>
    rintro⟨BS,B,W2,xe,f1,f3,f4⟩;exact⟨BS,B,W2,ES++xe,by rw[f1];simp,f3,e4.trans f4⟩
   |_=>exact id
 |halt x w1 =>
  intro hb hm;simp only at hb ⊢;have:=hm hb;cases x with
  |panic v =>
   obtain⟨B7,A,W1,ES,e1,e3,e4⟩:=this;exact⟨B7,A,W1,ES,by rw[e1],e3,e4⟩
  |_=>exact this
def Az {R:AO->α->Ej->Prop}{s:String}{M:Sem Ej}:AE P S Ck G β (stuck s:Sem α) M R:=λ_ _ _ _ _ _ _ _=>trivial
def AB {R:AO->α->Ej->Prop}{u:Unsupported}{M:Sem Ej}(h:∀g,u≠.initOrder g):AE P S Ck G β (unsupported u:Sem α) M R:=λ_ _ _ _ _ _ _ _=>h
def db {R:AO->α->Ej->Prop}{v V:Value}(h:Aw S β v V):AE P S Ck G β (goPanic v:Sem α) (goPanic V:Sem Ej) R:=by
 intro w W n hw ht BV B5 _;exact⟨β,V,W,[],by show(Result.halt (.panic V) W,B5)=_;simp,h,Fin.refl hw⟩
def aQ:AE P S Ck G β program program (λ_ a A=>a=P.a/\A=P.b):=by
 intro w W n hw ht BV B5 _;exact⟨β,P.b,W,[],by show(Result.ok P.b W,B5)=_;simp,⟨rfl,rfl⟩,Fin.refl hw⟩
def al (t:TypeId):AE P S Ck G β (underlying t) (underlying t) (λ_ a A=>a=A/\P.a.underlying t=some a):=by
 refine Ar aQ ?_;rintro Ax a A _ ⟨rfl,rfl⟩;rw[Ba.underlying];cases h:P.a.underlying t with
 |none=>exact Az
 |some d=>exact Au ⟨rfl,rfl⟩
def bf (t:TypeId):AE P S Ck G β (typeInfo t) (typeInfo t) (λ_ a A=>a=A/\P.a.info? t=some a):=by
 refine Ar aQ ?_;rintro Ax a A _ ⟨rfl,rfl⟩;rw[Aj];cases h:P.a.info? t with
 |none=>exact Az
 |some d=>exact Au ⟨rfl,rfl⟩
def aH (t:TypeId):AE P S Ck G β (sizeOf t) (sizeOf t) (λ_ a A=>a=A):=by
 refine Ar (bf t) ?_;rintro Ax a A _ ⟨rfl,_⟩;exact Au rfl
def lE (t:TypeId):AE P S Ck G β (isAgg t) (isAgg t) (λ_ a A=>a=A):=by
 refine Ar (al t) ?_;rintro Ax a A _ ⟨rfl,_⟩;split<;>exact Au rfl
def dp {v V:Value}(h:Aw S β v V):AE P S Ck G β (asIntOf v) (asIntOf V) (λ_ a A=>a=A):=by
 cases h with
 |int k n=>exact Au rfl
 |ptr=>exact AB (by simp)
 |_=>exact Az
def et {v V:Value}(h:Aw S β v V):AE P S Ck G β (asInt v) (asInt V) (λ_ a A=>a=A):=by
 refine Ar (dp h) ?_;rintro Ax a A _ rfl;exact Au rfl
def gw {v V:Value}(h:Aw S β v V):AE P S Ck G β (asBool v) (asBool V) (λ_ a A=>a=A):=by
 cases h with
 |bool b=>exact Au rfl
 |_=>exact Az
def rH {v V:Value}(h:Aw S β v V):AE P S Ck G β (asAgg v) (asAgg V) (λAx a A=>AA S Ax a A):=by
 cases h with
 |agg h1 h2=>exact Au ⟨h1,h2⟩
 |_=>exact Az
end
structure BF (β:AO)(a A:Addr):Prop where
 block:β a.block A.block
 off:a.off=A.off
 spot:a.spot=A.spot
def BF.mono {β Ax:AO}(h:β.le Ax){a A:Addr}(r:BF β a A):BF Ax a A:=⟨h _ _ r.block,r.off,r.spot⟩
def BF.add {β:AO}{a A:Addr}(r:BF β a A)(n:Nat):BF β (a.add n) (A.add n):=by
 unfold Addr.add;split
 .exact r
 .exact⟨r.block,by simp[r.off],rfl⟩
def BF.ptr {S:Cb}{β:AO}{a A:Addr}(r:BF β a A):Aw S β (.pointer (some a)) (.pointer (some A)):=by
 obtain⟨b,o,s⟩:=a;obtain⟨B,O,s'⟩:=A;obtain⟨h1,h2,h3⟩:=r;cases h2;cases h3;exact .ptr _ _ h1
def BF.sl {S:Cb}{β:AO}{a A:Addr}(r:BF β a A)(l c:Nat):Aw S β (.slice (some a) l c) (.slice (some A) l c):=by
 obtain⟨b,o,s⟩:=a;obtain⟨B,O,s'⟩:=A;obtain⟨h1,h2,h3⟩:=r;cases h2;cases h3;exact .slice _ _ _ _ h1
def Fg (a:Addr)(v:Value):Obj->Obj
 |.cells c elem frozen=>.cells (if a.spot.isSome then c else c.setIfInBounds a.off v) elem frozen
 |o=>o
def Bi (w:World)(a:Addr)(v:Value)(b:Nat):(w.setCell a v).heap[b]?=if b=a.block then(w.heap[b]?).map (Fg a v) else w.heap[b]?:=by
 have e:w.setCell a v={ w with heap:=w.heap.modify a.block (Fg a v) }:=by
  unfold World.setCell;congr 2
 rw[e];simp only;rw[ya];by_cases h:b=a.block
 .subst h;simp
 .rw[if_neg (λe=>h e.symm),if_neg h]
def bp (w:World)(a:Addr)(v:Value):(w.setCell a v).heap.size=w.heap.size:=by simp[World.setCell]
def YB (i:Nat):Obj->Bool
 |.cells _ _ r=>decide (r.1<=i)&&decide (i<r.2)
 |_=>false
def aZ (w:World)(x:Addr):w.frozen? x=((w.heap[x.block]?).map (YB x.off)).getD false:=by
 unfold World.frozen?;cases w.heap[x.block]? with
 |none=>rfl
 |some o=>cases o<;>rfl
def tF (a:Addr)(v:Value)(i:Nat)(o:Obj):YB i (Fg a v o)=YB i o:=by cases o<;>rfl
def fz (w:World)(a:Addr)(v:Value)(x:Addr):(w.setCell a v).frozen? x=w.frozen? x:=by
 rw[aZ,aZ,Bi];split
 .cases w.heap[x.block]? with
  |none=>rfl
  |some o=>simp[tF]
 .rfl
section
variable {P:Ba} {S:Cb} {Ck:Code->Prop} {G:Nat} {β:AO}
def Bg.cell {w W:World}(hw:Bg S Ck G β w W){a A:Addr}(h:BF β a A){v:Value}(hc:w.cell? a=some v) :
  ∃c C t f F,w.heap[a.block]?=some (.cells c t f)/\W.heap[A.block]?=some (.cells C t F)/\AA S β c C/\(∀i,F.1<=i->i<F.2->f.1<=i/\i<f.2) /\
   a.spot=none/\a.off<c.size/\c[a.off]?=some v/\∃V,W.cell? A=some V/\Aw S β v V:=by
 unfold World.cell? at hc;cases hh:S.hid a.block with
 |true=>rw[(hw.CG _ _ h.block hh).1] at hc;cases hc
 |false =>
  obtain⟨o,O,h1,h2,h3⟩:=hw.Cq _ _ h.block hh;rw[h1] at hc;cases h3 with
  |cells ha hf =>
   rename_i c C t f F;simp only at hc;have hs:a.spot=none:=by
    cases hs:a.spot with
    |none=>rfl
    |some s=>rw[hs] at hc;simp at hc
   rw[hs] at hc;simp at hc;obtain⟨V,hV,hr⟩:=ha.get? hc;refine⟨c,C,t,f,F,h1,h2,ha,hf,hs,(xg.1 hc).1,hc,V,?_,hr⟩;unfold World.cell?;rw[h2];simp only[<-h.spot,hs,<-h.off];simpa using hV
  |_=>simp at hc
def MP {w W:World}(hw:Bg S Ck G β w W){a A:Addr}(h:BF β a A):(∀b,∃s,w.farLoad P.a a b=.error (.stuck s))/\(∀v b,∃s,w.farStore P.a a v b=.error (.stuck s)):=by
 unfold World.farLoad World.farStore World.noCell;cases hh:S.hid a.block with
 |true =>
  rw[(hw.CG _ _ h.block hh).1];exact⟨λ_=>⟨_,rfl⟩,λ_ _=>⟨_,rfl⟩⟩
 |false =>
  obtain⟨o,O,h1,h2,h3⟩:=hw.Cq _ _ h.block hh;rw[h1];cases h3<;>exact⟨λ_=>⟨_,rfl⟩,λ_ _=>⟨_,rfl⟩⟩
def ix {a A:Addr}(h:BF β a A)(m:Mode):AE P S Ck G β (Go.load a m) (Go.load A m) (λAx v V=>Aw S Ax v V):=by
 intro w W n hw ht BV B5 _;cases hc:w.cell? a with
 |none =>
  obtain⟨s,hs⟩:=(MP (P:=P) hw h).1 (m==.atomic);have:(Go.load a m).runT P.a w BV=(.halt (.stuck s) w,BV):=by simp only[Go.load,Sem.runT,hc,hs]
  rw[this];trivial
 |some v =>
  obtain⟨c,C,t,f,F,h1,h2,h3,h4,h5,h6,h7,V,h8,h9⟩:=hw.cell h hc;have e1:(Go.load a m).runT P.a w BV=(.ok v w,BV.push ⟨.cell a,false,m==.atomic⟩):=by simp only[Go.load,Sem.runT,hc]
  have e2:(Go.load A m).runT P.b W B5=(.ok V W,B5.push ⟨.cell A,false,m==.atomic⟩):=by simp only[Go.load,Sem.runT,h8]
  rw[e1,e2];refine⟨β,V,W,[⟨.cell A,false,m==.atomic⟩],by simp,h9,{ Fin.refl hw with evs:=?_ }⟩;intro _ E hE;cases yG.1 hE;exact .cell h.block h.off ⟨c.size,by rw[h1];rfl,h6⟩ (λe=>by cases e)
def iZ {a A:Addr}(h:BF β a A)(m:Mode){v V:Value}(hv:Aw S β v V):AE P S Ck G β (Go.store a v m) (Go.store A V m) (λ_ _ _=>True):=by
 intro w W n hw ht BV B5 _;by_cases h1:∃x,v=.agg x
 .obtain⟨x,rfl⟩:=h1;trivial
 by_cases h2:∃x,v=.tuple x
 .obtain⟨x,rfl⟩:=h2;trivial
 have YC:∀x,V≠.agg x:=λx e=>by subst e;cases hv with
  |agg=>exact h1 ⟨_,rfl⟩
  |blank _ h=>cases h
 have MQ:∀x,V≠.tuple x:=λx e=>by subst e;cases hv with
  |tuple=>exact h2 ⟨_,rfl⟩
  |blank _ h=>cases h
 have r1:=dj P.a m a v (.pure ()) w BV (λx e=>h1 ⟨x,e⟩) (λx e=>h2 ⟨x,e⟩);have r2:=dj P.b m A V (.pure ()) W B5 YC MQ;unfold Go.store;rw[r1,r2];cases hc:w.cell? a with
 |none =>
  obtain⟨s,hs⟩:=(MP (P:=P) hw h).2 v (m==.atomic);simp only[hs];trivial
 |some x =>
  obtain⟨c,C,t,f,F,g1,g2,g3,g4,g5,g6,g7,X,g8,g9⟩:=hw.cell h hc;simp only[g8];by_cases hz:w.frozen? a=true
  .rw[if_pos hz];exact λg e=>by cases e
  .rw[if_neg hz];have hZ:¬W.frozen? A=true:=by
    unfold World.frozen? at hz ⊢;rw[g1] at hz;rw[g2];simp only[xC,decide_eq_true_eq] at hz ⊢;rw[<-h.off];exact λ⟨p,q⟩=>hz (g4 _ p q)
   rw[if_neg hZ];refine⟨β,(),W.setCell A V,[⟨.cell A,true,m==.atomic⟩],by show(Result.ok () _,B5.push _)=_;simp,trivial,?_⟩;have ww:∀b B,β b B->(b=a.block↔B=A.block):=λb B hb=>⟨λe=>hw.B6.fn (e▸hb) h.block,λe=>hw.B6.inj hb (e▸h.block)⟩;have nh:S.hid a.block=false:=by
    cases hh:S.hid a.block with
    |false=>rfl
    |true=>rw[(hw.CG _ _ h.block hh).1] at g1;cases g1
   have hrel:Bg S Ck G β (w.setCell a v) (W.setCell A V):=by
    refine⟨hw.B6,by rw[bp,bp];exact hw.room,λb B hb hh=>?_,λb B hb hh=>?_,λb hb=>by rw[bp];exact hw.old b hb,hw.env⟩
    .obtain⟨o,O,k1,k2,k3⟩:=hw.Cq b B hb hh;rw[Bi,Bi];by_cases e:b=a.block
     .have E:=(ww b B hb).1 e;subst e;subst E;rw[g1] at k1;cases k1;rw[g2] at k2;cases k2;rw[g1,g2];have hs:A.spot=none:=by rw[<-h.spot];exact g5
      refine⟨_,_,by rw[if_pos rfl];rfl,by rw[if_pos rfl];rfl,?_⟩;simp only[Fg,g5,hs,h.off];exact .cells (g3.set _ hv) g4
     .have E:¬B=A.block:=λE=>e ((ww b B hb).2 E);exact⟨o,O,by rw[if_neg e];exact k1,by rw[if_neg E];exact k2,k3⟩
    .have e:¬b=a.block:=λe=>by subst e;rw[nh] at hh;cases hh
     have E:¬B=A.block:=λE=>e ((ww b B hb).2 E);rw[Bi,Bi,if_neg e,if_neg E];exact hw.CG b B hb hh
   have Xy:¬(∀i,i<c.size->f.1<=i/\i<f.2):=λhf=>by
    obtain⟨p,q⟩:=hf _ g6;unfold World.frozen? at hz;rw[g1] at hz;exact hz (by simp[p,q])
   have KI:∀b,((w.setCell a v).heap[b]?).map B8=(w.heap[b]?).map B8:=λb=>by
    rw[Bi];split
    .cases w.heap[b]? with
     |none=>rfl
     |some o=>cases o<;>first|rfl|(simp only[Fg,B8,yq];split<;>simp)
    .rfl
   exact {
    le:=β.le_refl
    rel:=hrel
    tape:=rfl
    TAPE:=rfl
    drawn:=xh _
    draws:=rfl
    os:=rfl
    OS:=rfl
    out:=rfl
    OUT:=rfl
    size:=by rw[bp];exact xh _
    SIZE:=by rw[bp];exact xh _
    new:=λ_ _ h=>.inl h
    NEW:=λB h1 h2=>absurd h2 (by rw[bp];omega)
    frozen:=λx _=>fz w a v x
    KEPT:=λB _ hn=>by rw[Bi,if_neg (λe=>hn _ (e▸h.block))]
    ro:=λb B c' t' f' hb hc' hf'=>by
     by_cases e:b=a.block
     .subst e;rw[g1] at hc';cases hc';exact absurd hf' Xy
     .have E:¬B=A.block:=λE=>e ((ww b B hb).2 E);exact⟨by rw[Bi,if_neg e],by rw[Bi,if_neg E]⟩
    kind:=λb _=>KI b
    evs:=λ_ E hE=>by
     cases yG.1 hE
     exact .cell h.block h.off ⟨c.size,by rw[KI,g1];rfl,g6⟩ (λ_=>by rw[fz];simpa using hz)
    same:=λi e=>by
     have ea:a=A:=by
      obtain⟨b1,o1,s1⟩:=a;obtain⟨b2,o2,s2⟩:=A;obtain⟨q1,q2,q3⟩:=h;cases q2;cases q3;have q4:b1=b2:=i.2 _ _ q1;rw[q4]
     have ev:v=V:=hv.id i;subst ea ev;exact⟨i,by simp only[World.setCell,e]⟩
    hk:=λb B hb hh=>by
     have e:¬b=a.block:=λe=>by subst e;rw[nh] at hh;cases hh
     have E:¬B=A.block:=λE=>e ((ww b B hb).2 E)
     rw[Bi,if_neg E] }
def bL (w:World)(o:Obj)(b:Nat):({ w with heap:=w.heap.push o }:World).heap[b]?=if b=w.heap.size then some o else w.heap[b]?:=by
 simp only[yL]
def jn {o O:Obj}(h:Bw S Ck β o O)(hid:Jo S.hid β->o=O):AE P S Ck G β (newObj o) (newObj O) (λAx b B=>Ax b B/\S.hid b=false):=by
 intro w W n hw ht BV B5 _;have e1:(newObj o).runT P.a w BV=(.ok w.heap.size { w with heap:=w.heap.push o },BV):=rfl;have e2:(newObj O).runT P.b W B5=(.ok W.heap.size { W with heap:=W.heap.push O },B5):=rfl;rw[e1,e2];have hG:=hw.room;have nh:S.hid w.heap.size=false:=by
  cases hh:S.hid w.heap.size with
  |false=>rfl
  |true=>have:=hw.old _ hh;omega
 let Ax:AO:=λb B=>β b B\/(b=w.heap.size/\B=W.heap.size)
 have le:β.le Ax:=λb B h=>.inl h;have B6:Ax.BO G:=by
  refine⟨?_,?_,?_⟩
  .rintro b B B' (h1|⟨rfl,rfl⟩) (h2|⟨h2,rfl⟩)
   .exact hw.B6.fn h1 h2
   .exact absurd (hw.lt h1).1 (by omega)
   .exact absurd (hw.lt h2).1 (by omega)
   .rfl
  .rintro b b' B (h1|⟨rfl,rfl⟩) (h2|⟨rfl,h2⟩)
   .exact hw.B6.inj h1 h2
   .exact absurd (hw.lt h1).2 (by omega)
   .exact absurd (hw.lt h2).2 (by omega)
   .rfl
  .rintro b B (h1|⟨rfl,rfl⟩)
   .exact hw.B6.lo h1
   .exact hG
 have rel:Bg S Ck G Ax { w with heap:=w.heap.push o } { W with heap:=W.heap.push O }:=by
  refine⟨B6,by simp;omega,?_,?_,λb hb=>by have:=hw.old b hb;simp;omega,hw.env⟩
  .rintro b B (hb|⟨rfl,rfl⟩) hh
   .obtain⟨x,X,k1,k2,k3⟩:=hw.Cq b B hb hh;have:=hw.lt hb;exact⟨x,X,by rw[bL,if_neg (by omega)];exact k1,by rw[bL,if_neg (by omega)];exact k2,k3.mono le⟩
   .exact⟨o,O,by rw[bL,if_pos rfl],by rw[bL,if_pos rfl],h.mono le⟩
  .rintro b B (hb|⟨rfl,rfl⟩) hh
   .have:=hw.lt hb;rw[bL,bL,if_neg (by omega),if_neg (by omega)];exact hw.CG b B hb hh
   .rw[nh] at hh;cases hh
 refine⟨Ax,W.heap.size,_,[],by simp,⟨.inr ⟨rfl,rfl⟩,nh⟩,{
  le:=le
  rel:=rel
  tape:=rfl
  TAPE:=rfl
  drawn:=xh _
  draws:=rfl
  os:=rfl
  OS:=rfl
  out:=rfl
  OUT:=rfl
  size:=by simp
  SIZE:=by simp
  new:=?_
  NEW:=λB h1 h2=>⟨w.heap.size,.inr ⟨rfl,by simp at h2;omega⟩⟩
  frozen:=λx hx=>by rw[aZ,aZ,bL,if_neg (by omega)]
  KEPT:=λB hB _=>by rw[bL,if_neg (by omega)]
  ro:=λb B c t f hb _ _=>by have:=hw.lt hb;rw[bL,bL,if_neg (by omega),if_neg (by omega)];exact⟨rfl,rfl⟩
  kind:=λb hb=>by rw[bL,if_neg (by omega)]
  evs:=by simp
  same:=λi e=>⟨⟨i.1,by
   rintro b B (hb|⟨rfl,rfl⟩)
   .exact i.2 b B hb
   .rw[e]⟩,by rw[e,hid i]⟩
  hk:=λb B hb _=>by have:=(hw.lt hb).2;rw[bL,if_neg (by omega)] }⟩
 rintro b B (hb|⟨rfl,rfl⟩)
 .exact .inl hb
 .exact .inr ⟨xh _,xh _⟩
def i3 {b B:Nat}(h:β b B):AE P S Ck G β (Go.shape b) (Go.shape B) (λ_ x X=>x=X\/x=none):=by
 intro w W n hw ht BV B5 _;have e1:(Go.shape b).runT P.a w BV=(.ok (w.shape? b) w,BV):=rfl;have e2:(Go.shape B).runT P.b W B5=(.ok (W.shape? B) W,B5):=rfl;rw[e1,e2];refine⟨β,W.shape? B,W,[],by simp,?_,Fin.refl hw⟩;unfold World.shape?;cases hh:S.hid b with
 |true=>rw[(hw.CG _ _ h hh).1];exact .inr rfl
 |false =>
  obtain⟨o,O,k1,k2,k3⟩:=hw.Cq b B h hh;rw[k1,k2];cases k3 with
  |cells ha _=>exact .inl (by simp[ha.size])
  |_=>exact .inl rfl
def ky {b B:Nat}(h:β b B)(hh:S.hid b=false):AE P S Ck G β (Go.shape b) (Go.shape B) (λ_ x X=>x=X):=by
 intro w W n hw ht BV B5 _;have e1:(Go.shape b).runT P.a w BV=(.ok (w.shape? b) w,BV):=rfl;have e2:(Go.shape B).runT P.b W B5=(.ok (W.shape? B) W,B5):=rfl;rw[e1,e2];refine⟨β,W.shape? B,W,[],by simp,?_,Fin.refl hw⟩;unfold World.shape?;obtain⟨o,O,k1,k2,k3⟩:=hw.Cq b B h hh;rw[k1,k2];cases k3 with
 |cells ha _=>simp[ha.size]
 |_=>rfl
def eZ (q:Question):AE P S Ck G β (Go.choose q) (Go.choose q) (λ_ x X=>x=X):=by
 intro w W n hw ht BV B5 hb;by_cases hq:q.forced=true
 .have e1:(Go.choose q).runT P.a w BV=(.ok 0 w,BV):=by simp only[Go.choose,Sem.runT,hq,if_true]
  have e2:(Go.choose q).runT P.b W B5=(.ok 0 W,B5):=by simp only[Go.choose,Sem.runT,hq,if_true]
  rw[e1,e2];exact⟨β,0,W,[],by simp,rfl,Fin.refl hw⟩
 .have e1:(Go.choose q).runT P.a w BV=(.ok (q.cut (w.tape w.drawn q)) { w with drawn:=w.drawn+1 },BV):=by simp only[Go.choose,Sem.runT,if_neg hq]
  have e2:(Go.choose q).runT P.b W B5=(.ok (q.cut (W.tape W.drawn q)) { W with drawn:=W.drawn+1 },B5):=by simp only[Go.choose,Sem.runT,if_neg hq]
  rw[e1] at hb;rw[e1,e2];have:w.tape w.drawn q=W.tape W.drawn q:=by
   have:=ht 0 (by simp only[world] at hb;omega) q;simpa using this
  refine⟨β,q.cut (W.tape W.drawn q),{ W with drawn:=W.drawn+1 },[],by simp,by rw[this],{ Fin.refl hw with evs:=by simp,rel:=⟨hw.B6,hw.room,hw.Cq,hw.CG,hw.old,hw.env⟩,drawn:=Nat.le_succ _,draws:=?_,same:=λi e=>⟨i,e⟩,hk:=λ_ _ _ _=>rfl,.. }⟩
  .show W.drawn+1+w.drawn=W.drawn+(w.drawn+1);omega
def p5:AE P S Ck G β (mark .noRoom) (mark .noRoom) (λ_ _ _=>True):=by
 intro w W n hw ht BV B5 _;have e1:(mark .noRoom).runT P.a w BV=(.ok () w,BV.push ⟨.mark .noRoom,false,true⟩):=rfl;have e2:(mark .noRoom).runT P.b W B5=(.ok () W,B5.push ⟨.mark .noRoom,false,true⟩):=rfl;rw[e1,e2];exact⟨β,(),W,[⟨.mark .noRoom,false,true⟩],by simp,trivial,{ Fin.refl hw with evs:=λ_ E hE=>by cases yG.1 hE;exact .mark .noRoom }⟩
def fd {r R:Nat}(h:β r R)(hh:S.hid r=false):AE P S Ck G β (Go.getObj r) (Go.getObj R) (λAx o O=>Bw S Ck Ax o O):=by
 intro w W n hw ht BV B5 _;obtain⟨o,O,k1,k2,k3⟩:=hw.Cq r R h hh;have key:∀(hk:B8 o=2),(∀c t f,o≠.cells c t f)->(∀c t f,O≠.cells c t f)->Ends S Ck G β w W B5 (λAx o O=>Bw S Ck Ax o O) ((Go.getObj r).runT P.a w BV) ((Go.getObj R).runT P.b W B5):=by
  intro hk h1 h2;have e1:(Go.getObj r).runT P.a w BV=(.ok o w,BV.push ⟨.obj r,false,o.isChan⟩):=by
   simp only[Go.getObj,Sem.runT,k1]
  have e2:(Go.getObj R).runT P.b W B5=(.ok O W,B5.push ⟨.obj R,false,O.isChan⟩):=by
   simp only[Go.getObj,Sem.runT,k2]
  rw[e1,e2];exact⟨β,O,W,[⟨.obj R,false,O.isChan⟩],by simp,k3,{ Fin.refl hw with evs:=λ_ E hE=>by cases yG.1 hE;exact .obj h (by rw[k1];simp[hk]) }⟩
 cases k3 with
 |cells a f =>
  have:(Go.getObj r).runT P.a w BV=(.halt (.stuck "getObj: a row of cells") w,BV):=by simp only[Go.getObj,Sem.runT,k1]
  rw[this];trivial
 |loop=>exact key rfl (by simp) (by simp)
 |number=>exact key rfl (by simp) (by simp)
 |taken=>exact key rfl (by simp) (by simp)
 |defs=>exact key rfl (by simp) (by simp)
def aS (w:World)(r:Nat)(o:Obj)(b:Nat)(h:r<w.heap.size):({ w with heap:=w.heap.setIfInBounds r o }:World).heap[b]?=if b=r then some o else w.heap[b]?:=by
 simp only;rw[yH];by_cases e:r=b
 .subst e;simp[h]
 .rw[if_neg e,if_neg (λx=>e x.symm)]
def fe {r R:Nat}(h:β r R)(hh:S.hid r=false){o O:Obj}(ho:Bw S Ck β o O)(hk:B8 o=2):AE P S Ck G β (Go.setObj r o) (Go.setObj R O) (λ_ _ _=>True):=by
 intro w W n hw ht BV B5 _;obtain⟨x,X,k1,k2,k3⟩:=hw.Cq r R h hh;have lt:=hw.lt h;have hn:∀c t f,o≠.cells c t f:=λc t f e=>by subst e;simp[B8] at hk
 have key:B8 x=2->(∀c t f,x≠.cells c t f)->(∀c t f,X≠.cells c t f)->Ends S Ck G β w W B5 (λ_ _ _=>True) ((Go.setObj r o).runT P.a w BV) ((Go.setObj R O).runT P.b W B5):=by
  intro hx h1 h2;have e1:(Go.setObj r o).runT P.a w BV=(.ok () { w with heap:=w.heap.setIfInBounds r o },BV.push ⟨.obj r,true,o.isChan⟩):=by
   simp only[Go.setObj,Sem.runT,k1]
  have e2:(Go.setObj R O).runT P.b W B5=(.ok () { W with heap:=W.heap.setIfInBounds R O },B5.push ⟨.obj R,true,O.isChan⟩):=by
   simp only[Go.setObj,Sem.runT,k2]
  rw[e1,e2];have ww:∀b B,β b B->(b=r↔B=R):=λb B hb=>⟨λe=>hw.B6.fn (e▸hb) h,λe=>hw.B6.inj hb (e▸h)⟩;have KI:∀b,(({ w with heap:=w.heap.setIfInBounds r o }:World).heap[b]?).map B8=(w.heap[b]?).map B8:=λb=>by
   rw[aS _ _ _ _ lt.1];split
   .rename_i e;rw[e,k1];simp[hx,hk]
   .rfl
  refine⟨β,(),{ W with heap:=W.heap.setIfInBounds R O },[⟨.obj R,true,O.isChan⟩],by simp,trivial,{
   le:=β.le_refl
   rel:=⟨hw.B6,by simpa using hw.room,λb B hb Fh=>?_,λb B hb Fh=>?_,λb hb=>by have:=hw.old b hb;simpa using this,hw.env⟩
   tape:=rfl
   TAPE:=rfl
   drawn:=xh _
   draws:=rfl
   os:=rfl
   OS:=rfl
   out:=rfl
   OUT:=rfl
   size:=by simp
   SIZE:=by simp
   new:=λ_ _ h=>.inl h
   NEW:=λB h1 h2=>absurd h2 (by simp;omega)
   frozen:=λa _=>?_
   KEPT:=λB hB hn=>by rw[aS _ _ _ _ lt.2,if_neg (λe=>hn _ (e▸h))]
   ro:=λb B c t f hb hc _=>?_
   kind:=λb _=>KI b
   evs:=λ_ E hE=>by cases yG.1 hE;exact .obj h (by rw[KI,k1];simp[hx])
   same:=λi e=>⟨i,by rw[e,i.2 _ _ h,ho.id i hn]⟩
   hk:=λb B hb Fh=>by
    have e:¬b=r:=λe=>by subst e;rw[hh] at Fh;cases Fh
    have E:¬B=R:=λE=>e ((ww b B hb).2 E)
    rw[aS _ _ _ _ lt.2,if_neg E] }⟩
  .obtain⟨y,Y,j1,j2,j3⟩:=hw.Cq b B hb Fh;by_cases e:b=r
   .have E:=(ww b B hb).1 e;exact⟨o,O,by rw[aS _ _ _ _ lt.1,if_pos e],by rw[aS _ _ _ _ lt.2,if_pos E],ho⟩
   .have E:¬B=R:=λE=>e ((ww b B hb).2 E);exact⟨y,Y,by rw[aS _ _ _ _ lt.1,if_neg e];exact j1,by rw[aS _ _ _ _ lt.2,if_neg E];exact j2,j3⟩
  .have e:¬b=r:=λe=>by subst e;rw[hh] at Fh;cases Fh
   have E:¬B=R:=λE=>e ((ww b B hb).2 E);rw[aS _ _ _ _ lt.1,aS _ _ _ _ lt.2,if_neg e,if_neg E];exact hw.CG b B hb Fh
  .rw[aZ,aZ,aS _ _ _ _ lt.1];split
   .rename_i e;rw[e,k1];cases x<;>cases o<;>first|exact absurd rfl (h1 _ _ _)|exact absurd rfl (hn _ _ _)|rfl
   .rfl
  .have e:¬b=r:=λe=>by subst e;rw[k1] at hc;cases hc;exact h1 _ _ _ rfl
   have E:¬B=R:=λE=>e ((ww b B hb).2 E);exact⟨by rw[aS _ _ _ _ lt.1,if_neg e],by rw[aS _ _ _ _ lt.2,if_neg E]⟩
 cases k3 with
 |cells a f =>
  have:(Go.setObj r o).runT P.a w BV=(.halt (.stuck "setObj: a row of cells") w,BV):=by simp only[Go.setObj,Sem.runT,k1]
  rw[this];trivial
 |loop=>exact key rfl (by simp) (by simp)
 |number=>exact key rfl (by simp) (by simp)
 |taken=>exact key rfl (by simp) (by simp)
 |defs=>exact key rfl (by simp) (by simp)
end
end Go.AW
