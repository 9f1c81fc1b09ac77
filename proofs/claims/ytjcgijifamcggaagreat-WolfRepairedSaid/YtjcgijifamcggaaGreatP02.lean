/- Parts of the proof. -/
import Derived.Test.YtjcgijifamcggaaGreatP01
import Derived.Test.YtjcgijifamcggaaGreatP00
import Derived.RangeFuncOwn
import Derived.RangeFuncLeaves
import Derived.Defers
import Derived.Laws.LoneSync
import Derived.BigQuiet
set_option linter.all false
set_option maxHeartbeats 3200000
set_option maxRecDepth 1000000
namespace Go.Proofs.YtjcgijifamcggaaGreat
open Go.RowKit Go.Sq Go.Shelf
def O7 (T0:Nat->Prop)(I:List Bt->World->Prop)(Ix:Code->List Bt->World->Prop)(xs:List Bt)(W:World):Exit->Act->World->Prop
 |.normal,_,W'=>KT T0 W W'/\I xs W'
 |.ret,_,W'=>KT T0 W W'/\Ix .ret xs W'
 |.exit id,_,W'=>KT T0 W W'/\Ix (.exit id) xs W'
 |.goto t,_,W'=>KT T0 W W'/\Ix (.goto t) xs W'
 |.panic _,_,_=>False
 |.outgrown,_,_=>False
def _root_.Go.Sq.KT.low {T T':Nat->Prop}{w w':World}(h:KT T w w')(hT:∀b,b<w.heap.size->T b->T' b):KT T' w w':=⟨h.os,h.tape,h.output,h.drawn,h.size,λb hb hn=>h.block b hb λt=>hn (hT b hb t)⟩
def dz {fn:Func}{tmps:Array Value}{R:Ending->World->Prop}{D:Nat}{W:World}{v:Value}(hd:W.heap[D]?=some (.deferred (some [])))(hr:(results fn tmps).run AG (W.putObj D (.deferred none))=.ok v (W.putObj D (.deferred none)))(hR:R (.returned v) (W.putObj D (.deferred none))) :
  LeavesInM Fence.wide 0 AG fn tmps R [{ target:=.collected D,args:=#[] }] .returning W:=⟨by simp,.inl ⟨D,_,rfl,run_takeDeferred hd,v,hr,hR⟩⟩
def cd {W:World}{D:Nat}{o:Obj}{p:Addr}(h:p.block≠D):(W.putObj D o).cell? p=W.cell? p:=xN (World.putObj_heap_other h)
def one_cell {W:World}{b:Nat}{v:Value}{t:TypeId}(h:W.heap[b]?=some (.cells #[v] t (0,0))):W.cell? ⟨b,0,none⟩=some v/\W.frozen? ⟨b,0,none⟩=false/\b<W.heap.size:=by
 refine⟨?_,?_,(xm.1 h).1⟩
 .unfold World.cell?;simp only[h];rfl
 .unfold World.frozen?;simp only[h];rfl
def one_set {W:World}{b:Nat}{v u:Value}{t:TypeId}(h:W.heap[b]?=some (.cells #[v] t (0,0))):(W.setCell ⟨b,0,none⟩ u).heap[b]?=some (.cells #[u] t (0,0)):=by
 unfold World.setCell;simp only[yh,if_true,h]
 rfl
def _root_.Go.Sq.KT.gr {T:Nat->Prop}{w w1 W:World}(h:Gr w w1)(hk:KT T w1 W)(hT:∀b,T b->w.heap.size<=b):Gr w W :=
 ⟨⟨hk.os.trans h.below.os,hk.tape.trans h.below.tape,hk.output.trans h.below.output,xI h.size hk.size,λb hb=>(hk.block b (xx hb h.size) λt=>by have:=hT b t;omega).trans (h.below.block b hb)⟩,xI h.drawn hk.drawn⟩
def _root_.Go.Sq.Gr.putObj {w W:World}(h:Gr w W){D:Nat}(hD:w.heap.size<=D)(o:Obj):Gr w (W.putObj D o) :=
 ⟨⟨h.below.os,h.below.tape,h.below.output,by simpa [World.putObj] using h.size,λb hb=>(World.putObj_heap_other (by omega)).trans (h.below.block b hb)⟩,h.drawn⟩
def pE {T0 K:Nat->Prop}{cb:Nat}{c:AW}{sets:List Nat}{nA hA:Option Addr}{nc hc sb sc bc br bn k n:Nat}{r:Bt}{g:Operand}{ps:Array Tmp}{assign body:Code}{Q:Exit->Act->World->Prop}{a:Act}{w:World}
  (DV:c.Ok) (Fs:∀x∈sets,c.has x) (L5:sets.length<=16) (hg:a.eval g=.func (.func 51) #[] #[.pointer (some ⟨bc,0,none⟩),.pointer (some ⟨br,0,none⟩),.pointer (some ⟨bn,0,none⟩)])
  (hn:n+k=c.AK.length) (hz:∀i,n<=i->r i=0) (hs:Ml T0 K cb c sets nA hA nc hc sb sc bc br bn r n w) (Ia:∀b,T0 b->b<w.heap.size) (hps:ps.size=1)
  (I:List Bt->World->Prop) (Ix:Code->List Bt->World->Prop) (hI:∀pre W W',I pre W->(∀b,T0 b->W'.heap[b]?=W.heap[b]?)->I pre W') (O8:∀c pre W W',Ix c pre W->(∀b,T0 b->W'.heap[b]?=W.heap[b]?)->Ix c pre W') (h0:I [] w)
  (a₁:Bt->Act)
  (S5:∀(l:Nat) (ρ:Bt) (W:World) (K:Act->World->Prop),K (a₁ ρ) W->assign.wpIn (Fence.wide.inRound l) 0 AG (Exit.then K (λ_ _ _=>False)) { tmps:=(ps.zip #[Cc ρ]).foldl (λt (p,v)=>t.setIfInBounds p v) a.tmps,defers:=[] } W)
  (Ha:∀(l:Nat) (pre:List Bt) (ρ:Bt) (W:World),pre++[ρ] <+: Bz c sets k r n->KT (λb=>T0 b\/b=br) w W->I pre W->body.wpIn (Fence.wide.inRound l) 0 AG (O7 T0 I Ix (pre++[ρ]) W) (a₁ ρ) W)
  (hdone:∀(D:Nat) (W:World),w.heap.size<=D->KT (λb=>T0 b\/b=br) w W->I (Bz c sets k r n) W->W.heap[D]?=some (.deferred (some []))->Q .normal { a with defers:={ target:=.collected D,args:=#[] }::a.defers } W)
  (BD:∀(D:Nat) (j:Code) (q:List Bt) (W:World),w.heap.size<=D->KT (λb=>T0 b\/b=br) w W->q <+: Bz c sets k r n->Ix j q W->W.heap[D]?=some (.deferred (some []))->j.wpIn Fence.wide 0 AG Q { a with defers:={ target:=.collected D,args:=#[] }::a.defers } W) :
  (Code.rangeFunc g ps assign body).wpIn Fence.wide 0 AG Q a w:=by
 refine wpIn_rangeFunc ?_;intro fn hfn;have O9:∀b,K b->b<w.heap.size:=hs.Dt.lt;obtain⟨rec,FH⟩:∃rec:LoopState->Option Code->Loop,rec=λst pe=>{ state:=st,pending:=pe,fn,tmps:=a.tmps,params:=ps,assign,body,defers:=w.heap.size }:=⟨_,rfl⟩;obtain⟨W1,hW1⟩:∃W1,(w.alloc (.deferred (some []))).alloc (.loop (rec .ready none))=W1:=⟨_,rfl⟩;have hL1:W1.heap[w.heap.size+1]?=some (.loop (rec .ready none)):=by
  rw[<-hW1];have:=World.alloc_heap_new (w.alloc (.deferred (some []))) (.loop (rec .ready none));rwa [zD] at this
 have Y9:W1.heap[w.heap.size]?=some (.deferred (some [])):=by
  rw[<-hW1];exact(za _ _ _ (by simp)).trans (World.alloc_heap_new w _)
 have hg1:Gr w W1:=by rw[<-hW1];exact((Gr.refl w).alloc _).alloc _
 have hI1:I [] W1:=hI _ _ _ h0 λb hb=>hg1.below.block b (Ia b hb);have hz1:W1.heap.size=w.heap.size+2:=by rw[<-hW1];simp
 refine⟨w.heap.size+1,[{ target:=.collected w.heap.size,args:=#[] }],W1,{ target:=.fn (.func 51) #[.pointer (some ⟨bc,0,none⟩),.pointer (some ⟨br,0,none⟩),.pointer (some ⟨bn,0,none⟩)],args:=#[.func (.yield (w.heap.size+1)) #[] #[]] },W1,51,
  #[.func (.yield (w.heap.size+1)) #[] #[]]++#[.pointer (some ⟨bc,0,none⟩),.pointer (some ⟨br,0,none⟩),.pointer (some ⟨bn,0,none⟩)],W1,?_,?_,?_,?_,λh=>(by cases h),?_⟩
 .rw[<-hW1,FH];exact run_enterLoop_outer _ _ _ _ _
 .simp only[resolve,hg];simp[go_sem]
 .intro f' _;trivial
 .simp[invoke,go_sem]
 .obtain⟨T,hT⟩:∃T:Nat->Prop,T=λb=>T0 b\/b=w.heap.size\/b=w.heap.size+1:=⟨_,rfl⟩;have NG:∀b,T0 b->T b:=λb hb=>by rw[hT];exact .inl hb
  have hTD:T w.heap.size:=by rw[hT];exact .inr (.inl rfl)
  have Pa:T (w.heap.size+1):=by rw[hT];exact .inr (.inr rfl)
  have Hb:∀b,b<w.heap.size->T b->T0 b:=λb hb h=>by
   rw[hT] at h;rcases h with h|h|h
   .exact h
   .omega
   .omega
  have k1:KT T0 w W1:=KT.Cu hg1;have hs1:Ml T K cb c sets nA hA nc hc sb sc bc br bn r n W1:=by
   refine⟨hs.Dt.keep hg1.size λb o hb=>hg1.cell (O9 b hb),λb hb h=>hs.kt b hb (Hb b (O9 b hb) h),⟨(hg1.cell hs.xc.2.2).trans hs.xc.1,λh=>hs.xc.2.1 (Hb _ hs.xc.2.2 h),by have:=hs.xc.2.2;omega⟩,⟨λi hi=>⟨(hg1.cell (p:=⟨br,i,none⟩) hs.xr.2.2).trans (hs.xr.1 i hi).1,(hg1.frozen (p:=⟨br,i,none⟩) hs.xr.2.2).trans (hs.xr.1 i hi).2⟩,λh=>hs.xr.2.1 (Hb _ hs.xr.2.2 h),by have:=hs.xr.2.2;omega⟩,
    ⟨(hg1.cell hs.xn.2).trans hs.xn.1,by have:=hs.xn.2;omega⟩,hs.ne,hs.rs⟩
  have Mm:∀ {W:World},KT (λb=>T b\/b=br) W1 W->KT (λb=>T0 b\/b=br) w W:=λhk =>
   KT.low (T:=λb=>T b\/b=br) ((KT.Cu hg1).trans hk) λb hb h=>h.elim (λh=>.inl (Hb b hb h)) .inr
  have Za:=hs.xr.2.2;have hput:∀(W:World) (o:Obj),KT T W (W.putObj (w.heap.size+1) o):=λW o=>KT.putObj W Pa o;have hq:=ta (T:=T) (l:=w.heap.size+1) (W0:=W1)
   (J:=λpre W=>I pre W/\W.heap[w.heap.size+1]?=some (.loop (rec .ready none))/\W.heap[w.heap.size]?=some (.deferred (some [])))
   (Jx:=λpre W=>∃j,Ix j pre W/\W.heap[w.heap.size+1]?=some (.loop (rec .done (some j)))/\W.heap[w.heap.size]?=some (.deferred (some [])))
   DV Fs L5 (λpre W W' h hk=>⟨hI _ _ _ h.1 λb hb=>hk b (NG b hb),(hk _ Pa).trans h.2.1,(hk _ hTD).trans h.2.2⟩)
   (λpre W h b hb=>by
    have h1:=(xm.1 h.2.1).1;rw[hT] at hb;rcases hb with hb|hb|hb
    .have:=Ia b hb;omega
    .omega
    .omega)
   ?_ hn hs1 (KT.refl _ _) ⟨hI1,hL1,Y9⟩ hz
  .refine hq.mono ?_;rintro e W2 ⟨rfl,hk2,(⟨hi,hl,hd⟩|⟨q,Dx,j,hi,hl,hd⟩)⟩
   .refine⟨none,_,by have:=run_endLoop (P:=AG) hl (by rw[FH];simp);rw[FH] at this;exact this,hdone _ _ (xp _) (Mm (hk2.trans ((hput _ _).mono λb h=>.inl h))) (hI _ _ _ hi λb hb=>World.putObj_heap_other (by have:=Ia b hb;omega)) ((World.putObj_heap_other (by omega)).trans hd)⟩
   .exact⟨some j,_,by have:=run_endLoop (P:=AG) hl (by rw[FH];simp);rw[FH] at this;exact this,BD _ j q _ (xp _) (Mm (hk2.trans ((hput _ _).mono λb h=>.inl h))) Dx (O8 _ _ _ _ hi λb hb=>World.putObj_heap_other (by have:=Ia b hb;omega)) ((World.putObj_heap_other (by omega)).trans hd)⟩
  .rintro pre ρ W hpl hkW ⟨hi,hl,hd⟩;have hlt:w.heap.size+1<W.heap.size:=(xm.1 hl).1;have hy:=run_yield (P:=AG) (args:=#[Cc ρ]) hl (by rw[FH];simp[hps]);rw[FH] at hy;refine⟨fn,_,assign,body,hy,roundIn_of_wpIn hfn (S5 _ ρ W _ ⟨_,run_beginRound hl (by rw[FH]),?_⟩)⟩;obtain⟨Wb,OH⟩:∃Wb,Wb=W.putObj (w.heap.size+1) (.loop { rec .ready none with state:=.busy }):=⟨_,rfl⟩;rw[<-OH];have kb:KT T W Wb:=by rw[OH];exact hput _ _
   have hl2:Wb.heap[w.heap.size+1]?=some (.loop { rec .ready none with state:=.busy }):=by rw[OH];exact World.putObj_heap_same hlt
   have KL:Wb.heap[w.heap.size]?=some (.deferred (some [])):=by rw[OH];exact(World.putObj_heap_other (by omega)).trans hd
   have Sx:I pre Wb:=hI _ _ _ hi λb hb=>by rw[OH];exact World.putObj_heap_other (by have:=Ia b hb;omega)
   have hzb:Wb.heap.size=W.heap.size:=by rw[OH];simp[World.putObj]
   refine wpIn_mono (Ha _ pre ρ Wb hpl (Mm (hkW.trans (kb.mono λb h=>.inl h))) Sx) ?_;have fin : ∀ (jump : Option Code) (W3 : World), KT T0 Wb W3 ->
     (Instr.endRound (w.heap.size+1) jump).run AG W3=.ok (.bool jump.isNone) (W3.putObj (w.heap.size+1) (.loop (rec (if jump.isNone then .ready else .done) jump))) /\
     (W3.putObj (w.heap.size+1) (.loop (rec (if jump.isNone then .ready else .done) jump))).heap[w.heap.size+1]?=some (.loop (rec (if jump.isNone then .ready else .done) jump)) /\
     (W3.putObj (w.heap.size+1) (.loop (rec (if jump.isNone then .ready else .done) jump))).heap[w.heap.size]?=some (.deferred (some []))/\KT T W (W3.putObj (w.heap.size+1) (.loop (rec (if jump.isNone then .ready else .done) jump))) /\
     ∀b,T0 b->(W3.putObj (w.heap.size+1) (.loop (rec (if jump.isNone then .ready else .done) jump))).heap[b]?=W3.heap[b]?:=λjump W3 hk3=>by
    have L8:W3.heap[w.heap.size+1]?=some (.loop { rec .ready none with state:=.busy }):=(hk3.block _ (by omega) λh=>by have:=Ia _ h;omega).trans hl2;have GJ:W3.heap[w.heap.size]?=some (.deferred (some [])):=(hk3.block _ (by omega) λh=>by have:=Ia _ h;omega).trans KL;have:=run_endRound (P:=AG) jump L8;rw[FH] at this ⊢;exact⟨this,World.putObj_heap_same (xm.1 L8).1,(World.putObj_heap_other (by omega)).trans GJ,(kb.trans (hk3.mono NG)).trans (KT.putObj W3 Pa _),λb hb=>World.putObj_heap_other (by have:=Ia b hb;omega)⟩
   rintro e a3 W3 hp;cases e with
   |normal =>
    obtain⟨hk3,Mn⟩:=hp;obtain⟨hr,hl4,Mo,hk4,hb4⟩:=fin none W3 hk3;exact⟨_,_,hr,.inl ⟨rfl,⟨hI _ _ _ Mn hb4,hl4,Mo⟩,hk4⟩⟩
   |ret =>
    obtain⟨hk3,Mn⟩:=hp;obtain⟨hr,hl4,Mo,hk4,hb4⟩:=fin (some .ret) W3 hk3;exact⟨_,_,hr,.inr ⟨rfl,⟨.ret,O8 _ _ _ _ Mn hb4,hl4,Mo⟩,hk4⟩⟩
   |exit id =>
    obtain⟨hk3,Mn⟩:=hp;obtain⟨hr,hl4,Mo,hk4,hb4⟩:=fin (some (.exit id)) W3 hk3;exact⟨_,_,hr,.inr ⟨rfl,⟨.exit id,O8 _ _ _ _ Mn hb4,hl4,Mo⟩,hk4⟩⟩
   |goto t =>
    obtain⟨hk3,Mn⟩:=hp;obtain⟨hr,hl4,Mo,hk4,hb4⟩:=fin (some (.goto t)) W3 hk3;exact⟨_,_,hr,.inr ⟨rfl,⟨.goto t,O8 _ _ _ _ Mn hb4,hl4,Mo⟩,hk4⟩⟩
   |panic ch=>exact hp.elim
   |outgrown=>exact hp.elim
def nM {T0 K:Nat->Prop}{cb:Nat}{c:AW}{sets:List Nat}{nA hA:Option Addr}{nc hc sb sc bc br bn k n:Nat}{r:Bt}{g:Operand}{p:Tmp}{body:Code}{Q:Exit->Act->World->Prop}{a:Act}{w:World}
  (DV:c.Ok) (Fs:∀x∈sets,c.has x) (L5:sets.length<=16) (hg:a.eval g=.func (.func 51) #[] #[.pointer (some ⟨bc,0,none⟩),.pointer (some ⟨br,0,none⟩),.pointer (some ⟨bn,0,none⟩)])
  (hn:n+k=c.AK.length) (hz:∀i,n<=i->r i=0) (hs:Ml T0 K cb c sets nA hA nc hc sb sc bc br bn r n w) (Ia:∀b,T0 b->b<w.heap.size)
  (I:List Bt->World->Prop) (Ix:Code->List Bt->World->Prop) (hI:∀pre W W',I pre W->(∀b,T0 b->W'.heap[b]?=W.heap[b]?)->I pre W') (O8:∀c pre W W',Ix c pre W->(∀b,T0 b->W'.heap[b]?=W.heap[b]?)->Ix c pre W') (h0:I [] w)
  (Ha:∀(l:Nat) (pre:List Bt) (ρ:Bt) (W:World),KT (λb=>T0 b\/b=br) w W->I pre W->body.wpIn (Fence.wide.inRound l) 0 AG (O7 T0 I Ix (pre++[ρ]) W) { tmps:=a.tmps.setIfInBounds p (Cc ρ),defers:=[] } W)
  (hdone:∀(D:Nat) (W:World),w.heap.size<=D->KT (λb=>T0 b\/b=br) w W->I (Bz c sets k r n) W->W.heap[D]?=some (.deferred (some []))->Q .normal { a with defers:={ target:=.collected D,args:=#[] }::a.defers } W)
  (BD:∀(D:Nat) (j:Code) (q:List Bt) (W:World),w.heap.size<=D->KT (λb=>T0 b\/b=br) w W->q <+: Bz c sets k r n->Ix j q W->W.heap[D]?=some (.deferred (some []))->j.wpIn Fence.wide 0 AG Q { a with defers:={ target:=.collected D,args:=#[] }::a.defers } W) :
  (Code.rangeFunc g #[p] .skip body).wpIn Fence.wide 0 AG Q a w:=by
 exact pE (ps:=#[p]) (assign:=.skip) DV Fs L5 hg hn hz hs Ia rfl I Ix hI O8 h0 (λρ=>{ tmps:=a.tmps.setIfInBounds p (Cc ρ),defers:=[] }) (λl ρ W K hK=>wpIn_skip (by show K _ W;simpa using hK)) (λl pre ρ W _=>Ha l pre ρ W) hdone BD
def j8 {T0 K:Nat->Prop}{cb:Nat}{c:AW}{sets:List Nat}{nA hA:Option Addr}{nc hc sb sc bc br bn k n:Nat}{r:Bt}{g:Operand}{ps:Array Tmp}{assign body:Code}{Q:Exit->Act->World->Prop}{a:Act}{w:World}
  (DV:c.Ok) (Fs:∀x∈sets,c.has x) (L5:sets.length<=16) (hg:a.eval g=.func (.func 51) #[] #[.pointer (some ⟨bc,0,none⟩),.pointer (some ⟨br,0,none⟩),.pointer (some ⟨bn,0,none⟩)])
  (hn:n+k=c.AK.length) (hz:∀i,n<=i->r i=0) (hs:Ml T0 K cb c sets nA hA nc hc sb sc bc br bn r n w) (Ia:∀b,T0 b->b<w.heap.size) (hps:ps.size=1)
  (I:List Bt->World->Prop) (Ix:Code->List Bt->World->Prop) (hI:∀pre W W',I pre W->(∀b,T0 b->W'.heap[b]?=W.heap[b]?)->I pre W') (O8:∀c pre W W',Ix c pre W->(∀b,T0 b->W'.heap[b]?=W.heap[b]?)->Ix c pre W') (h0:I [] w)
  (VD:∀(l:Nat) (pre:List Bt) (ρ:Bt) (W:World),pre++[ρ] <+: Bz c sets k r n->KT (λb=>T0 b\/b=br) w W->I pre W->w.heap.size<l->l<W.heap.size ->
   assign.wpIn (Fence.wide.inRound l) 0 AG (Exit.then (λa₁ w₁=>KT T0 W w₁/\∀o,body.wpIn (Fence.wide.inRound l) 0 AG (O7 T0 I Ix (pre++[ρ]) (w₁.putObj l o)) a₁ (w₁.putObj l o)) (λ_ _ _=>False)) { tmps:=(ps.zip #[Cc ρ]).foldl (λt (p,v)=>t.setIfInBounds p v) a.tmps,defers:=[] } W)
  (hdone:∀(D:Nat) (W:World),w.heap.size<=D->KT (λb=>T0 b\/b=br) w W->I (Bz c sets k r n) W->W.heap[D]?=some (.deferred (some []))->Q .normal { a with defers:={ target:=.collected D,args:=#[] }::a.defers } W)
  (BD:∀(D:Nat) (j:Code) (q:List Bt) (W:World),w.heap.size<=D->KT (λb=>T0 b\/b=br) w W->q <+: Bz c sets k r n->Ix j q W->W.heap[D]?=some (.deferred (some []))->j.wpIn Fence.wide 0 AG Q { a with defers:={ target:=.collected D,args:=#[] }::a.defers } W) :
  (Code.rangeFunc g ps assign body).wpIn Fence.wide 0 AG Q a w:=by
 refine wpIn_rangeFunc ?_;intro fn hfn;have O9:∀b,K b->b<w.heap.size:=hs.Dt.lt;obtain⟨rec,FH⟩:∃rec:LoopState->Option Code->Loop,rec=λst pe=>{ state:=st,pending:=pe,fn,tmps:=a.tmps,params:=ps,assign,body,defers:=w.heap.size }:=⟨_,rfl⟩;obtain⟨W1,hW1⟩:∃W1,(w.alloc (.deferred (some []))).alloc (.loop (rec .ready none))=W1:=⟨_,rfl⟩;have hL1:W1.heap[w.heap.size+1]?=some (.loop (rec .ready none)):=by
  rw[<-hW1];have:=World.alloc_heap_new (w.alloc (.deferred (some []))) (.loop (rec .ready none));rwa [zD] at this
 have Y9:W1.heap[w.heap.size]?=some (.deferred (some [])):=by
  rw[<-hW1];exact(za _ _ _ (by simp)).trans (World.alloc_heap_new w _)
 have hg1:Gr w W1:=by rw[<-hW1];exact((Gr.refl w).alloc _).alloc _
 have hI1:I [] W1:=hI _ _ _ h0 λb hb=>hg1.below.block b (Ia b hb);have hz1:W1.heap.size=w.heap.size+2:=by rw[<-hW1];simp
 refine⟨w.heap.size+1,[{ target:=.collected w.heap.size,args:=#[] }],W1,{ target:=.fn (.func 51) #[.pointer (some ⟨bc,0,none⟩),.pointer (some ⟨br,0,none⟩),.pointer (some ⟨bn,0,none⟩)],args:=#[.func (.yield (w.heap.size+1)) #[] #[]] },W1,51,
  #[.func (.yield (w.heap.size+1)) #[] #[]]++#[.pointer (some ⟨bc,0,none⟩),.pointer (some ⟨br,0,none⟩),.pointer (some ⟨bn,0,none⟩)],W1,?_,?_,?_,?_,λh=>(by cases h),?_⟩
 .rw[<-hW1,FH];exact run_enterLoop_outer _ _ _ _ _
 .simp only[resolve,hg];simp[go_sem]
 .intro f' _;trivial
 .simp[invoke,go_sem]
 .obtain⟨T,hT⟩:∃T:Nat->Prop,T=λb=>T0 b\/b=w.heap.size\/b=w.heap.size+1:=⟨_,rfl⟩;have NG:∀b,T0 b->T b:=λb hb=>by rw[hT];exact .inl hb
  have hTD:T w.heap.size:=by rw[hT];exact .inr (.inl rfl)
  have Pa:T (w.heap.size+1):=by rw[hT];exact .inr (.inr rfl)
  have Hb:∀b,b<w.heap.size->T b->T0 b:=λb hb h=>by
   rw[hT] at h;rcases h with h|h|h
   .exact h
   .omega
   .omega
  have k1:KT T0 w W1:=KT.Cu hg1;have hs1:Ml T K cb c sets nA hA nc hc sb sc bc br bn r n W1:=by
   refine⟨hs.Dt.keep hg1.size λb o hb=>hg1.cell (O9 b hb),λb hb h=>hs.kt b hb (Hb b (O9 b hb) h),⟨(hg1.cell hs.xc.2.2).trans hs.xc.1,λh=>hs.xc.2.1 (Hb _ hs.xc.2.2 h),by have:=hs.xc.2.2;omega⟩,⟨λi hi=>⟨(hg1.cell (p:=⟨br,i,none⟩) hs.xr.2.2).trans (hs.xr.1 i hi).1,(hg1.frozen (p:=⟨br,i,none⟩) hs.xr.2.2).trans (hs.xr.1 i hi).2⟩,λh=>hs.xr.2.1 (Hb _ hs.xr.2.2 h),by have:=hs.xr.2.2;omega⟩,
    ⟨(hg1.cell hs.xn.2).trans hs.xn.1,by have:=hs.xn.2;omega⟩,hs.ne,hs.rs⟩
  have Mm:∀ {W:World},KT (λb=>T b\/b=br) W1 W->KT (λb=>T0 b\/b=br) w W:=λhk =>
   KT.low (T:=λb=>T b\/b=br) ((KT.Cu hg1).trans hk) λb hb h=>h.elim (λh=>.inl (Hb b hb h)) .inr
  have Za:=hs.xr.2.2;have hput:∀(W:World) (o:Obj),KT T W (W.putObj (w.heap.size+1) o):=λW o=>KT.putObj W Pa o;have hq:=ta (T:=T) (l:=w.heap.size+1) (W0:=W1)
   (J:=λpre W=>I pre W/\W.heap[w.heap.size+1]?=some (.loop (rec .ready none))/\W.heap[w.heap.size]?=some (.deferred (some [])))
   (Jx:=λpre W=>∃j,Ix j pre W/\W.heap[w.heap.size+1]?=some (.loop (rec .done (some j)))/\W.heap[w.heap.size]?=some (.deferred (some [])))
   DV Fs L5 (λpre W W' h hk=>⟨hI _ _ _ h.1 λb hb=>hk b (NG b hb),(hk _ Pa).trans h.2.1,(hk _ hTD).trans h.2.2⟩)
   (λpre W h b hb=>by
    have h1:=(xm.1 h.2.1).1;rw[hT] at hb;rcases hb with hb|hb|hb
    .have:=Ia b hb;omega
    .omega
    .omega)
   ?_ hn hs1 (KT.refl _ _) ⟨hI1,hL1,Y9⟩ hz
  .refine hq.mono ?_;rintro e W2 ⟨rfl,hk2,(⟨hi,hl,hd⟩|⟨q,Dx,j,hi,hl,hd⟩)⟩
   .refine⟨none,_,by have:=run_endLoop (P:=AG) hl (by rw[FH];simp);rw[FH] at this;exact this,hdone _ _ (xp _) (Mm (hk2.trans ((hput _ _).mono λb h=>.inl h))) (hI _ _ _ hi λb hb=>World.putObj_heap_other (by have:=Ia b hb;omega)) ((World.putObj_heap_other (by omega)).trans hd)⟩
   .exact⟨some j,_,by have:=run_endLoop (P:=AG) hl (by rw[FH];simp);rw[FH] at this;exact this,BD _ j q _ (xp _) (Mm (hk2.trans ((hput _ _).mono λb h=>.inl h))) Dx (O8 _ _ _ _ hi λb hb=>World.putObj_heap_other (by have:=Ia b hb;omega)) ((World.putObj_heap_other (by omega)).trans hd)⟩
  .rintro pre ρ W hpl hkW ⟨hi,hl,hd⟩;have hlt:w.heap.size+1<W.heap.size:=(xm.1 hl).1;have hy:=run_yield (P:=AG) (args:=#[Cc ρ]) hl (by rw[FH];simp[hps]);rw[FH] at hy;refine⟨fn,_,assign,body,hy,roundIn_of_wpIn hfn (wpIn_mono (VD (w.heap.size+1) pre ρ W hpl (Mm hkW) hi (by omega) hlt) ?_)⟩;rintro e1 a1 w1 FV;cases e1 with
   |panic ch=>exact FV.elim
   |outgrown=>exact FV.elim
   |ret=>exact FV.elim
   |exit id=>exact FV.elim
   |goto t=>exact FV.elim
   |normal =>
   obtain⟨kw1,hb1⟩:=FV;have IZ:w1.heap[w.heap.size+1]?=some (.loop (rec .ready none)):=(kw1.block _ hlt λh=>by have:=Ia _ h;omega).trans hl;have O5:w1.heap[w.heap.size]?=some (.deferred (some [])):=(kw1.block _ (by omega) λh=>by have:=Ia _ h;omega).trans hd;have S6:w.heap.size+1<w1.heap.size:=(xm.1 IZ).1;refine⟨_,run_beginRound IZ (by rw[FH]),?_⟩;obtain⟨Wb,OH⟩:∃Wb,Wb=w1.putObj (w.heap.size+1) (.loop { rec .ready none with state:=.busy }):=⟨_,rfl⟩
   have OI:=hb1 (.loop { rec .ready none with state:=.busy });rw[<-OH] at OI ⊢;have kb:KT T W Wb:=(kw1.mono NG).trans (by rw[OH];exact hput _ _);have hl2:Wb.heap[w.heap.size+1]?=some (.loop { rec .ready none with state:=.busy }):=by rw[OH];exact World.putObj_heap_same S6
   have KL:Wb.heap[w.heap.size]?=some (.deferred (some [])):=by rw[OH];exact(World.putObj_heap_other (by omega)).trans O5
   have hzb:Wb.heap.size=w1.heap.size:=by rw[OH];simp[World.putObj]
   refine wpIn_mono OI ?_;have fin : ∀ (jump : Option Code) (W3 : World), KT T0 Wb W3 ->
     (Instr.endRound (w.heap.size+1) jump).run AG W3=.ok (.bool jump.isNone) (W3.putObj (w.heap.size+1) (.loop (rec (if jump.isNone then .ready else .done) jump))) /\
     (W3.putObj (w.heap.size+1) (.loop (rec (if jump.isNone then .ready else .done) jump))).heap[w.heap.size+1]?=some (.loop (rec (if jump.isNone then .ready else .done) jump)) /\
     (W3.putObj (w.heap.size+1) (.loop (rec (if jump.isNone then .ready else .done) jump))).heap[w.heap.size]?=some (.deferred (some []))/\KT T W (W3.putObj (w.heap.size+1) (.loop (rec (if jump.isNone then .ready else .done) jump))) /\
     ∀b,T0 b->(W3.putObj (w.heap.size+1) (.loop (rec (if jump.isNone then .ready else .done) jump))).heap[b]?=W3.heap[b]?:=λjump W3 hk3=>by
    have L8:W3.heap[w.heap.size+1]?=some (.loop { rec .ready none with state:=.busy }):=(hk3.block _ (by omega) λh=>by have:=Ia _ h;omega).trans hl2;have GJ:W3.heap[w.heap.size]?=some (.deferred (some [])):=(hk3.block _ (by omega) λh=>by have:=Ia _ h;omega).trans KL;have:=run_endRound (P:=AG) jump L8;rw[FH] at this ⊢;exact⟨this,World.putObj_heap_same (xm.1 L8).1,(World.putObj_heap_other (by omega)).trans GJ,(kb.trans (hk3.mono NG)).trans (KT.putObj W3 Pa _),λb hb=>World.putObj_heap_other (by have:=Ia b hb;omega)⟩
   rintro e a3 W3 hp;cases e with
   |normal =>
    obtain⟨hk3,Mn⟩:=hp;obtain⟨hr,hl4,Mo,hk4,hb4⟩:=fin none W3 hk3;exact⟨_,_,hr,.inl ⟨rfl,⟨hI _ _ _ Mn hb4,hl4,Mo⟩,hk4⟩⟩
   |ret =>
    obtain⟨hk3,Mn⟩:=hp;obtain⟨hr,hl4,Mo,hk4,hb4⟩:=fin (some .ret) W3 hk3;exact⟨_,_,hr,.inr ⟨rfl,⟨.ret,O8 _ _ _ _ Mn hb4,hl4,Mo⟩,hk4⟩⟩
   |exit id =>
    obtain⟨hk3,Mn⟩:=hp;obtain⟨hr,hl4,Mo,hk4,hb4⟩:=fin (some (.exit id)) W3 hk3;exact⟨_,_,hr,.inr ⟨rfl,⟨.exit id,O8 _ _ _ _ Mn hb4,hl4,Mo⟩,hk4⟩⟩
   |goto t =>
    obtain⟨hk3,Mn⟩:=hp;obtain⟨hr,hl4,Mo,hk4,hb4⟩:=fin (some (.goto t)) W3 hk3;exact⟨_,_,hr,.inr ⟨rfl,⟨.goto t,O8 _ _ _ _ Mn hb4,hl4,Mo⟩,hk4⟩⟩
   |panic ch=>exact hp.elim
   |outgrown=>exact hp.elim
def Ag (a:Addr)(w:World)(hc:w.cell? a=some (.int .i32 0))(hz:w.frozen? a=false) :
  Calls AG 98 #[.pointer (some a)] w λe w'=>e=.returned (.tuple #[])/\w'=w.setCell a (.int .i32 1):=by
 have Zb:=run_call_cas_hit (P:=AG) Sq.func149 (by kernel_rfl) (by kernel_rfl) (by kernel_rfl) .i32 (by kernel_rfl) (x:=0) (y:=1) hc hz;go_enter Sq.func98,Ao;simp only[casBody];go_wp2;refine bodyPost_ret (results_none rfl _ _ _) rfl ?_;exact⟨rfl,rfl⟩
def Ae (a:Addr)(u:FrameMode)(w:World)(hc:w.cell? a=some (.int .i32 1))(hz:w.frozen? a=false) :
  CallsD AG 99 #[.pointer (some a)] u w λe u' w'=>u'=u/\(e=.returned (.tuple #[])/\w'=w.setCell a (.int .i32 0)):=by
 have Zb:=run_call_cas_hit (P:=AG) Sq.func149 (by kernel_rfl) (by kernel_rfl) (by kernel_rfl) .i32 (by kernel_rfl) (x:=1) (y:=0) hc hz;go_enter_d Sq.func99,Am;simp only[casBody];go_wp2;refine bodyPost_ret (results_none rfl _ _ _) rfl ?_;exact⟨rfl,rfl⟩
def tA (nb:Nat)(x y s:Int)(w:World)(hc:w.heap[nb]?=some (.cells #[.int .i64 x] 116 (0,0)))(hs:IntKind.i64.wrap (x+y)=s) :
  Calls AG 60 #[.pointer (some ⟨nb,0,none⟩),.int .i64 y] w λe w'=>e=.returned (.int .i64 s)/\w'=w.setCell ⟨nb,0,none⟩ (.int .i64 s):=by
 obtain⟨h1,h2,h3⟩:=one_cell hc;have ad1:=run_call_add (P:=AG) Sq.func96 (by kernel_rfl) (by kernel_rfl) (by kernel_rfl) .i64 (by kernel_rfl) (y:=y) (s:=s) h1 h2 (by simp[go_sem];exact hs);go_enter Sq.func60,Tryz.ntmps60;go_wp2;go_ret;exact⟨rfl,rfl⟩
def rv (nb:Nat)(x:Int)(w:World)(hc:w.heap[nb]?=some (.cells #[.int .i64 x] 116 (0,0))) :
  Calls AG 61 #[.pointer (some ⟨nb,0,none⟩)] w λe w'=>e=.returned (.int .i64 x)/\w'=w:=by
 obtain⟨h1,h2,h3⟩:=one_cell hc;have hload:=run_call_load (P:=AG) Sq.func97 (by kernel_rfl) (by kernel_rfl) (by kernel_rfl) .i64 (by kernel_rfl) h1;go_enter Sq.func61,Tryz.ntmps61;go_wp2;go_ret;exact⟨rfl,rfl⟩
def rx (nb:Nat)(x s:Int)(ρ:Bt)(w:World)(hc:w.heap[nb]?=some (.cells #[.int .i64 x] 116 (0,0)))(hs:IntKind.i64.wrap (x+1)=s) :
  Calls AG 59 #[Cc ρ,.pointer (some ⟨nb,0,none⟩)] w λe w'=>e=.returned (.tuple #[])/\KT (·=nb) w w'/\w'.heap[nb]?=some (.cells #[.int .i64 s] 116 (0,0)):=by
 have hlt:=(one_cell hc).2.2;obtain⟨W,hW⟩:∃W,W=w.alloc (.cells #[.int .u8 (ρ 0),.int .u8 (ρ 1),.int .u8 (ρ 2),.int .u8 (ρ 3),.int .u8 (ρ 4)] 52):=⟨_,rfl⟩;have hc2:W.heap[nb]?=some (.cells #[.int .i64 x] 116 (0,0)):=by rw[hW,heap_alloc_old _ _ hlt];exact hc
 have HK:=xl (show KT (·=nb) w W by rw[hW];exact KT.Cu ((Gr.refl w).alloc _));have ad2:=xl (tA nb x 1 s W hc2 hs);have HW:=xl hW;have Zc:=xl hc2;clear hW hc hc2;unfold Cc;go_enter Sq.func59,Tryz.ntmps59;go_wp2_with fail;rw[<-HW.out];refine ad2.out.mono ?_;rintro e w' ⟨rfl,hw'⟩;have HW':=xl hw';clear hw';go_wp2;go_end0;refine⟨rfl,HK.out.trans (by rw[HW'.out];exact KT.setCell (T:=(·=nb)) W (p:=⟨nb,0,none⟩) rfl _),?_⟩
 rw[HW'.out];exact one_set Zc.out
def bS {W:World}{b i:Nat}{a:Array Value}{u:Value}{t:TypeId}{f:Nat×Nat}(h:W.heap[b]?=some (.cells a t f)):(W.setCell ⟨b,i,none⟩ u).heap[b]?=some (.cells (a.setIfInBounds i u) t f):=by
 unfold World.setCell;simp only[yh,if_true,h]
 rfl
def D4 {W:World}{b:Nat}{a:Array Value}{t:TypeId}(h:W.heap[b]?=some (.cells a t (0,0))):(∀i:Nat,W.cell? ⟨b,i,none⟩=a[i]?)/\(∀i,W.frozen? ⟨b,i,none⟩=false)/\b<W.heap.size:=by
 refine⟨λi=>?_,λi=>?_,(xm.1 h).1⟩
 .unfold World.cell?;simp only[h];rfl
 .unfold World.frozen?;simp[h]
def F9 (m:Int)(r:Bt)(b:Bool):Array Value:=#[.int .i32 m,.int .u32 0,.int .u8 (r 0),.int .u8 (r 1),.int .u8 (r 2),.int .u8 (r 3),.int .u8 (r 4),.bool b]
def ry (kb:Nat)(ρ:Bt)(f:Value)(w:World)(hk:w.heap[kb]?=some (.cells (F9 0 (λ_=>0) false) 132 (0,0))) :
  Calls AG 68 #[.pointer (some ⟨kb,0,none⟩),Cc ρ,f] w λe w'=>e=.returned (.tuple #[])/\KT (·=kb) w w'/\w'.heap[kb]?=some (.cells (F9 0 ρ true) 132 (0,0)):=by
 obtain⟨W,hW⟩:∃W,W=w.alloc (.cells #[.int .u8 (ρ 0),.int .u8 (ρ 1),.int .u8 (ρ 2),.int .u8 (ρ 3),.int .u8 (ρ 4)] 52):=⟨_,rfl⟩;have hlt:=(xm.1 hk).1;have hk2:W.heap[kb]?=some (.cells (F9 0 (λ_=>0) false) 132 (0,0)):=by rw[hW,heap_alloc_old _ _ hlt];exact hk
 obtain⟨hc,hf,_⟩:=D4 hk2;have h0:=hc 0;have f0:=hf 0;have hk3:=bS (i:=0) (u:=.int .i32 1) hk2;have HK:=xl (show KT (·=kb) w W by rw[hW];exact KT.Cu ((Gr.refl w).alloc _));obtain⟨hc3,hf3,_⟩:=D4 hk3;have g0:=hc3 0;have g2:=hc3 2;have g3:=hc3 3;have g4:=hc3 4;have g5:=hc3 5;have g6:=hc3 6;have g7:=hc3 7;have e0:=hf3 0;have e2:=hf3 2;have e3:=hf3 3;have e4:=hf3 4;have e5:=hf3 5;have e6:=hf3 6
 have e7:=hf3 7;simp[F9] at h0 g0 g2 g3 g4 g5 g6 g7;have hb:∀i,i<5->(W.setCell ⟨kb,0,none⟩ (.int .i32 1)).cell? ⟨w.heap.size,i,none⟩=some (.int .u8 (ρ i)):=λi hi=>by
  rw[xB _ _ _ _ (λe=>by have:kb=w.heap.size:=congrArg Addr.block e;omega),hW,xu _ _ _ _ rfl]
  match i,hi with
  |0,_=>rfl
  |1,_=>rfl
  |2,_=>rfl
  |3,_=>rfl
  |4,_=>rfl
 have b0:=hb 0 (by omega);have b1:=hb 1 (by omega);have b2:=hb 2 (by omega);have b3:=hb 3 (by omega);have b4:=hb 4 (by omega);have HW:=xl hW;have S7:=xl hk2;have S4:=xl hk3;clear hc hf hc3 hf3 hk3 hk2 hk hW hb;unfold Cc;go_enter_defers Sq.func68,Tryz.ntmps68;go_wp2_with (go_at_call 98;rw[<-HW.out];refine(Ag ⟨kb,0,none⟩ _ h0 f0).mono ?_;rintro e w' ⟨rfl,rfl⟩);go_quiet (fail);go_wp2;have HS:=xl (bS (i:=7) (u:=.bool true) (bS (i:=6) (u:=.int .u8 (ρ 4)) (bS (i:=5) (u:=.int .u8 (ρ 3)) (bS (i:=4) (u:=.int .u8 (ρ 2)) (bS (i:=3) (u:=.int .u8 (ρ 1)) (bS (i:=2) (u:=.int .u8 (ρ 0)) (show((W.setCell ⟨kb,0,none⟩ (.int .i32 1)).drewN nq).heap[kb]?=_ from S4.out)))))))
 refine leaves_cons (f:=99) (args:=#[.pointer (some ⟨kb,0,none⟩)]) (by simp) (by simp[go_sem]) ?_;obtain⟨hc4,hf4,_⟩:=D4 HS.out;refine(Ae ⟨kb,0,none⟩ .returning _ (by rw[hc4 0];rfl) (hf4 0)).mono ?_;rintro e u' w'' ⟨rfl,rfl,rfl⟩;have k:∀(w:World) (i:Nat) (v:Value),KT (·=kb) w (w.setCell ⟨kb,i,none⟩ v):=λw i v=>KT.setCell (T:=(·=kb)) w (p:=⟨kb,i,none⟩) rfl v;refine⟨.tuple #[],results_none rfl _ _ _,rfl,HK.out.trans ((k _ 0 _).trans ((KT.Cu ((Gr.refl _).drewN nq)).trans ((k _ 2 _).trans ((k _ 3 _).trans ((k _ 4 _).trans ((k _ 5 _).trans ((k _ 6 _).trans ((k _ 7 _).trans (k _ 0 _))))))))),?_⟩
 exact bS (i:=0) (u:=.int .i32 0) HS.out
def tB (kb xb:Nat)(ρ:Bt)(f:Value)(w:World)(hx:w.cell? ⟨xb,0,none⟩=some f)(Pb:xb<w.heap.size)(hk:w.heap[kb]?=some (.cells (F9 0 (λ_=>0) false) 132 (0,0))) :
  Calls AG 67 #[Cc ρ,.pointer (some ⟨kb,0,none⟩),.pointer (some ⟨xb,0,none⟩)] w λe w'=>e=.returned (.tuple #[])/\KT (·=kb) w w'/\w'.heap[kb]?=some (.cells (F9 0 ρ true) 132 (0,0)):=by
 obtain⟨W,hW⟩:∃W,W=w.alloc (.cells #[.int .u8 (ρ 0),.int .u8 (ρ 1),.int .u8 (ρ 2),.int .u8 (ρ 3),.int .u8 (ρ 4)] 52):=⟨_,rfl⟩;have hlt:=(xm.1 hk).1;have HO:=xl (ry kb ρ f W (by rw[hW,heap_alloc_old _ _ hlt];exact hk));have HK:=xl (show KT (·=kb) w W by rw[hW];exact KT.Cu ((Gr.refl w).alloc _));have HW:=xl hW;clear hk hW;unfold Cc at HO ⊢;go_enter Sq.func67,Tryz.ntmps67;go_wp2_with fail;rw[<-HW.out]
 refine HO.out.mono ?_;rintro e w' ⟨rfl,VE,hk2⟩;have HK1:=xl (HK.out.trans VE);have S7:=xl hk2;clear VE hk2 HO;go_wp2;go_end0;exact⟨rfl,HK1.out,S7.out⟩
def jH {T0 K:Nat->Prop}{cb:Nat}{c:AW}{sets:List Nat}{nA hA:Option Addr}{nc hc sb sc n:Nat}{r:Bt}{w:World}(hC:Dg w K cb c sets nA hA nc hc sb sc)(hT:∀b,T0 b->b<w.heap.size)(hK:∀b,K b->¬T0 b)(hr:∀i,c.has (r i)) :
  Ml T0 K cb c sets nA hA nc hc sb sc w.heap.size (w.heap.size+1) (w.heap.size+2) r n
   (((w.alloc (.cells #[.pointer (some ⟨cb,0,none⟩)] 49)).alloc (.cells #[.int .u8 (r 0),.int .u8 (r 1),.int .u8 (r 2),.int .u8 (r 3),.int .u8 (r 4)] 52)).alloc (.cells #[.int .i64 n] 3)):=by
 have hg:Gr w (((w.alloc (.cells #[.pointer (some ⟨cb,0,none⟩)] 49)).alloc (.cells #[.int .u8 (r 0),.int .u8 (r 1),.int .u8 (r 2),.int .u8 (r 3),.int .u8 (r 4)] 52)).alloc (.cells #[.int .i64 n] 3)):=(((Gr.refl w).alloc _).alloc _).alloc _;refine⟨hC.keep hg.size λb o hb=>hg.cell (hC.lt b hb),hK,⟨?_,λh=>by have:=hT _ h;omega,by simp;omega⟩,⟨λi hi=>?_,λh=>by have:=hT _ h;omega,by simp⟩,⟨?_,by simp⟩,⟨by omega,λb hb=>by have:=hC.lt b hb;omega⟩,hr⟩
 .rw[xO _ _ _ (by simp;omega),xO _ _ _ (by simp),xu _ _ _ _ rfl];rfl
 .rw[xO _ _ _ (by simp),xu _ _ _ _ (by simp),yS _ _ _ (by simp),yi _ _ _ _ (by simp)]
  match i,hi with
  |0,_=>exact⟨rfl,rfl⟩
  |1,_=>exact⟨rfl,rfl⟩
  |2,_=>exact⟨rfl,rfl⟩
  |3,_=>exact⟨rfl,rfl⟩
  |4,_=>exact⟨rfl,rfl⟩
 .rw[xu _ _ _ _ (by simp)];rfl
attribute [local go_sem] Oper.semAt_some
def Zd:Code->Code
 |.seq _ b=>b
 |c=>c
noncomputable abbrev VF:Code:=Zd (Tryz.f93.body.getD .skip)
def KW (b4:Nat):Deferred:={ target:=.fn (.func 94) #[],args:=#[.pointer (some ⟨b4,0,none⟩)] }
def da (b2 b3 b4 r:Nat):Act:=⟨#[.pointer (some ⟨b4,0,none⟩),.pointer (some ⟨b2,0,none⟩),.pointer (some ⟨r,0,none⟩),.pointer (some ⟨b3,0,none⟩),undef,undef,undef,undef,undef,undef,undef,undef],[KW b4]⟩
def mX {T0 K:Nat->Prop}{cb:Nat}{c:AW}{sets:List Nat}{nA hA:Option Addr}{nc hc sb sc b2 b3 b4 rb F k:Nat}{fc:Array Value}{r:Bt}{w:World}
  (DV:c.Ok) (Fs:∀x∈sets,c.has x) (L5:sets.length<=16) (hC:Dg w K cb c sets nA hA nc hc sb sc) (hT:∀b,T0 b->b<w.heap.size) (hK:∀b,K b->¬T0 b) (hr:∀i,c.has (r i)) (hz:∀i,1<=i->r i=0) (hk:1+k=c.AK.length)
  (h2:w.cell? ⟨b2,0,none⟩=some (.pointer (some ⟨cb,0,none⟩))) (L9:∀i,i<5->w.cell? ⟨rb,i,none⟩=some (.int .u8 (r i))) (h3:w.cell? ⟨b3,0,none⟩=some (.func (.func F) #[] fc)) (XY:b3<w.heap.size/\¬T0 b3)
  (I:List Bt->World->Prop) (hI:∀pre W W',I pre W->(∀b,T0 b->W'.heap[b]?=W.heap[b]?)->I pre W') (h0:I [] w)
  (hcf:∀(x:Array Value) (w:World),(callFunc F x).run AG w=.ok (.enter F x) w)
  (XZ:∀(pre:List Bt) (ρ:Bt) (W:World),pre++[ρ] <+: Bz c sets k r 1->KT (λb=>T0 b\/w.heap.size<=b) w W->I pre W->Calls AG F (#[Cc ρ]++fc) W λe W'=>e=.returned (.tuple #[])/\KT T0 W W'/\I (pre++[ρ]) W') :
  VF.wp AG (λe a' w'=>(e=.normal\/e=.ret)/\(e=.normal/\I (Bz c sets k r 1) w'/\∃D,a'.defers=[{ target:=.collected D,args:=#[] },KW b4]/\¬T0 D/\w'.heap[D]?=some (.deferred (some [])))) (da b2 b3 b4 rb) w:=by
 have HC:=xl hC;have HDO:=xl XZ;have HT:=xl hT;have HK:=xl hK;have HI:=xl hI;have H0:=xl h0;have HR:=xl hr;have HZ:=xl hz;have HST:=xl Fs;have r0:=L9 0 (by omega);have r1:=L9 1 (by omega);have r2:=L9 2 (by omega);have r3:=L9 3 (by omega);have r4:=L9 4 (by omega);have Fu:=lf cb 1 r w;rw[<-callsIn_wide (n:=0)] at Fu;unfold Cc at Fu;rw[show(((1:Nat):Int))=1 from rfl] at Fu;have HF:=xl Fu
 have Ze:=xl h3;clear hC XZ hT hK hI h0 hr hz Fs L9 Fu h3;unfold da VF Tryz.f93;simp only[Option.getD_some,Zd];rw[<-wpIn_wide (n:=0)]
 gi_wp2_with fail
 refine⟨trivial,rfl,HF.out.mono ?_⟩;rintro e w1 ⟨rfl,EH⟩;have hs:=jH (T0:=T0) (K:=K) (n:=1) (r:=r) HC.out HT.out HK.out HR.out;rw[show(((1:Nat):Int))=1 from rfl,<-EH] at hs;have HS:=xl hs;have hg1:Gr w w1:=by rw[EH];exact(((Gr.refl w).alloc _).alloc _).alloc _
 have hz1:w1.heap.size=w.heap.size+3:=by rw[EH];simp
 have Df:=xl hg1;have Um:=xl hz1;clear hs hg1 EH HF hz1
 gi_wp2_with fail
 refine j8 (T0:=T0) (K:=K) (cb:=cb) (c:=c) (sets:=sets) (nA:=nA) (hA:=hA) (nc:=nc) (hc:=hc) (sb:=sb) (sc:=sc) (bc:=w.heap.size) (br:=w.heap.size+1) (bn:=w.heap.size+2) (k:=k) (n:=1) (r:=r)
  DV HST.out L5 rfl hk HZ.out HS.out (λb hb=>xx (HT.out b hb) Df.out.size) rfl
  I (λ_ _ _=>False) HI.out (λc pre W W' h _=>h) (HI.out _ _ _ H0.out λb hb=>Df.out.below.block b (HT.out b hb)) ?_ ?_ (λD j q W _ _ _ h _=>h.elim)
 .intro l pre ρ W hpl JP Dx IZ hl2;have S8:KT (λb=>T0 b\/w.heap.size<=b) w W:=KT.low (T:=λb=>T0 b\/b=w.heap.size+1) ((KT.Cu Df.out).trans JP) λb hb h=>h.elim .inl λh=>by omega
  have HKW:=xl S8;have VA:=xl hpl;have ad4:=xl Dx;have hb3:W.cell? ⟨b3,0,none⟩=some (.func (.func F) #[] fc):=(S8.cell (p:=⟨b3,0,none⟩) XY.1 (by rintro(h|h);exact XY.2 h;have:=XY.1;exact absurd h (by show ¬w.heap.size<=b3;omega))).trans Ze.out;have hzw:=S8.size;have hzl:w.heap.size+3<=W.heap.size:=by have:=JP.size;have:=Um.out;omega
  obtain⟨W2,hW2⟩:∃W2,W2=W.alloc (.cells #[.int .u8 (ρ 0),.int .u8 (ρ 1),.int .u8 (ρ 2),.int .u8 (ρ 3),.int .u8 (ρ 4)] 52):=⟨_,rfl⟩;have Zf:Hid (KT T0 W W2):=xl (by rw[hW2];exact KT.Cu ((Gr.refl W).alloc _));have Hc:Hid (W2.heap[W.heap.size]?=some (.cells #[.int .u8 (ρ 0),.int .u8 (ρ 1),.int .u8 (ρ 2),.int .u8 (ρ 3),.int .u8 (ρ 4)] 52 (0,0))):=xl (by rw[hW2];exact World.alloc_heap_new W _);have HOLD:Hid (∀b,b<W.heap.size->W2.heap[b]?=W.heap[b]?):=xl λb hb=>by rw[hW2];exact heap_alloc_old _ _ hb
  have hz2:W2.heap.size=W.heap.size+1:=by rw[hW2];simp
  have Sy:=xl hz2;have Mp:=xl hW2;clear JP S8 hpl Dx hW2 hz2;unfold Cc
  gi_wp2
  rw[<-Mp.out];refine⟨Zf.out,λo=>?_⟩;clear Mp;have hlD:∀b,b<w.heap.size->b≠l:=λb hb=>by have:=Um.out;omega
  have HB3:(W2.putObj l o).cell? ⟨b3,0,none⟩=some (.func (.func F) #[] fc):=(cd (hlD b3 XY.1)).trans ((Zf.out.cell (p:=⟨b3,0,none⟩) (by show b3<_;have:=XY.1;omega) XY.2).trans hb3);obtain⟨Pe,_,_⟩:=D4 (W:=W2.putObj l o) ((World.putObj_heap_other (by omega)).trans Hc.out);have c0:=Pe 0;have c1:=Pe 1;have c2:=Pe 2;have c3:=Pe 3;have c4:=Pe 4;simp at c0 c1 c2 c3 c4;have HI2:=xl (HI.out pre W (W2.putObj l o) ad4.out λb hb=>(World.putObj_heap_other (hlD b (HT.out b hb))).trans (HOLD.out b (by have:=HT.out b hb;omega)))
  have S9:=HDO.out pre ρ (W2.putObj l o) VA.out ((HKW.out.trans (Zf.out.mono λb h=>.inl h)).trans (KT.putObj (T:=λb=>T0 b\/w.heap.size<=b) W2 (.inr (by have:=Um.out;omega)) o)) HI2.out;rw[<-callsIn_wide (n:=0)] at S9;unfold Cc at S9;have HD2:=xl S9;clear Pe Hc S9
  gi_wp2_with fail
  refine⟨trivial,rfl,HD2.out.mono ?_⟩;rintro e w5 ⟨rfl,Un,hi5⟩;have HK5:=xl Un;have HI5:=xl hi5;clear Un hi5 HD2
  gi_wp2
  exact⟨HK5.out,HI5.out⟩
 .intro D W hD JP hi hd;have HND:=xl (show ¬T0 D from λh=>by have:=HT.out D h;have:=Df.out.size;omega)
  gi_wp2
  exact⟨hi,HND.out⟩
end Go.Proofs.YtjcgijifamcggaaGreat
namespace Go.Bl
section
variable (P:Bw) (S:CF) (Ck:Code->Prop) (G:Nat)
def Ends {α EJ:Type}(β:Bc)(w W:World)(Cm:Array Event)(R:Bc->α->EJ->Prop):Result α×Array Event->Result EJ×Array Event->Prop
 |(.ok a w',_),r=>∃AQ A W' ES,r=(.ok A W',Cm++ES.toArray)/\R AQ a A/\Fin S Ck G β AQ w W w' W' ES
 |(.halt (.panic v) w',_),r=>∃AQ V W' ES,r=(.halt (.panic V) W',Cm++ES.toArray)/\AO S AQ v V/\Fin S Ck G β AQ w W w' W' ES
 |(.halt (.stuck _) _,_),_=>True
 |(.halt (.unsupported u) _,_),_=>∀g,u≠.initOrder g
 |_,_=>False
def AX {α EJ:Type}(β:Bc)(m:Sem α)(M:Sem EJ)(R:Bc->α->EJ->Prop):Prop :=
 ∀w W n,BF S Ck G β w W->ID n w W->∀Ce Cm,(world (m.runT P.a w Ce).1).drawn<=w.drawn+n ->
  Ends S Ck G β w W Cm R (m.runT P.a w Ce) (M.runT P.b W Cm)
end
section
variable {P:Bw} {S:CF} {Ck:Code->Prop} {G:Nat} {β:Bc} {α EJ γ γ':Type}
def AL {R:Bc->α->EJ->Prop}{a:α}{A:EJ}(h:R β a A):AX P S Ck G β (pure a:Sem α) (pure A:Sem EJ) R:=by
 intro w W n hw ht Ce Cm _;exact⟨β,A,W,[],by show(Result.ok A W,Cm)=_;simp,h,Fin.refl hw⟩
def tC {R R':Bc->α->EJ->Prop}{m:Sem α}{M:Sem EJ}(h:AX P S Ck G β m M R)(hr:∀AQ a A,β.le AQ->R AQ a A->R' AQ a A):AX P S Ck G β m M R':=by
 intro w W n hw ht Ce Cm hb;have:=h w W n hw ht Ce Cm hb;revert this;generalize m.runT P.a w Ce=r;obtain⟨r,es'⟩:=r;cases r with
 |ok a w' =>
  rintro⟨AQ,A,W',ES,h1,h3,h4⟩;exact⟨AQ,A,W',ES,h1,hr _ _ _ h4.le h3,h4⟩
 |halt x w'=>cases x<;>exact id
def AJ {R:Bc->α->EJ->Prop}{R':Bc->γ->γ'->Prop}{m:Sem α}{M:Sem EJ}{k:α->Sem γ}{K:EJ->Sem γ'}(h:AX P S Ck G β m M R)
  (hk:∀AQ a A,β.le AQ->R AQ a A->AX P S Ck G AQ (k a) (K A) R'):AX P S Ck G β (m >>= k) (M >>= K) R':=by
 intro w W n hw ht Ce Cm hb;rw[ah] at hb ⊢;rw[ah];have hm:=h w W n hw ht Ce Cm;revert hb hm;generalize hr:m.runT P.a w Ce=r;obtain⟨r,Uo⟩:=r;cases r with
 |ok a w1 =>
  intro hb hm;simp only at hb ⊢;have h1:=Cy P.a (k a) w1 Uo;obtain⟨Cp,A,W1,ES,e1,e3,e4⟩:=hm (xI h1 hb);have hd:=e4.drawn;have h2:=hk Cp a A e4.le e3 w1 W1 (n-(w1.drawn-w.drawn)) e4.rel (ht.rest e4) Uo (Cm++ES.toArray) (by omega);rw[e1];simp only;revert h2;generalize (k a).runT P.a w1 Uo=r2;obtain⟨r2,es2⟩:=r2;cases r2 with
  |ok b w2 =>
   rintro⟨Cb,B,W2,xj,f1,f3,f4⟩;exact⟨Cb,B,W2,ES++xj,by rw[f1];simp,f3,e4.trans f4⟩
  |halt x w2 =>
   cases x with
   |panic v =>
    rintro⟨Cb,B,W2,xj,f1,f3,f4⟩;exact⟨Cb,B,W2,ES++xj,by rw[f1];simp,f3,e4.trans f4⟩
   |_=>exact id
 |halt x w1 =>
  intro hb hm;simp only at hb ⊢;have:=hm hb;cases x with
  |panic v =>
   obtain⟨Cp,A,W1,ES,e1,e3,e4⟩:=this;exact⟨Cp,A,W1,ES,by rw[e1],e3,e4⟩
  |_=>exact this
def AR {R:Bc->α->EJ->Prop}{s:String}{M:Sem EJ}:AX P S Ck G β (stuck s:Sem α) M R:=λ_ _ _ _ _ _ _ _=>trivial
def AV {R:Bc->α->EJ->Prop}{u:Unsupported}{M:Sem EJ}(h:∀g,u≠.initOrder g):AX P S Ck G β (unsupported u:Sem α) M R:=λ_ _ _ _ _ _ _ _=>h
def cQ {R:Bc->α->EJ->Prop}{v V:Value}(h:AO S β v V):AX P S Ck G β (goPanic v:Sem α) (goPanic V:Sem EJ) R:=by
 intro w W n hw ht Ce Cm _;exact⟨β,V,W,[],by show(Result.halt (.panic V) W,Cm)=_;simp,h,Fin.refl hw⟩
def aL:AX P S Ck G β program program (λ_ a A=>a=P.a/\A=P.b):=by
 intro w W n hw ht Ce Cm _;exact⟨β,P.b,W,[],by show(Result.ok P.b W,Cm)=_;simp,⟨rfl,rfl⟩,Fin.refl hw⟩
def aj (t:TypeId):AX P S Ck G β (underlying t) (underlying t) (λ_ a A=>a=A/\P.a.underlying t=some a):=by
 refine AJ aL ?_;rintro AQ a A _ ⟨rfl,rfl⟩;rw[Bw.underlying];cases h:P.a.underlying t with
 |none=>exact AR
 |some d=>exact AL ⟨rfl,rfl⟩
def aZ (t:TypeId):AX P S Ck G β (typeInfo t) (typeInfo t) (λ_ a A=>a=A/\P.a.info? t=some a):=by
 refine AJ aL ?_;rintro AQ a A _ ⟨rfl,rfl⟩;rw[AC];cases h:P.a.info? t with
 |none=>exact AR
 |some d=>exact AL ⟨rfl,rfl⟩
def aD (t:TypeId):AX P S Ck G β (sizeOf t) (sizeOf t) (λ_ a A=>a=A):=by
 refine AJ (aZ t) ?_;rintro AQ a A _ ⟨rfl,_⟩;exact AL rfl
def lg (t:TypeId):AX P S Ck G β (isAgg t) (isAgg t) (λ_ a A=>a=A):=by
 refine AJ (aj t) ?_;rintro AQ a A _ ⟨rfl,_⟩;split<;>exact AL rfl
def db {v V:Value}(h:AO S β v V):AX P S Ck G β (asIntOf v) (asIntOf V) (λ_ a A=>a=A):=by
 cases h with
 |int k n=>exact AL rfl
 |ptr=>exact AV (by simp)
 |_=>exact AR
def ef {v V:Value}(h:AO S β v V):AX P S Ck G β (asInt v) (asInt V) (λ_ a A=>a=A):=by
 refine AJ (db h) ?_;rintro AQ a A _ rfl;exact AL rfl
def gi {v V:Value}(h:AO S β v V):AX P S Ck G β (asBool v) (asBool V) (λ_ a A=>a=A):=by
 cases h with
 |bool b=>exact AL rfl
 |_=>exact AR
def rz {v V:Value}(h:AO S β v V):AX P S Ck G β (asAgg v) (asAgg V) (λAQ a A=>AU S AQ a A):=by
 cases h with
 |agg h1 h2=>exact AL ⟨h1,h2⟩
 |_=>exact AR
end
structure BZ (β:Bc)(a A:Addr):Prop where
 block:β a.block A.block
 off:a.off=A.off
 spot:a.spot=A.spot
def BZ.mono {β AQ:Bc}(h:β.le AQ){a A:Addr}(r:BZ β a A):BZ AQ a A:=⟨h _ _ r.block,r.off,r.spot⟩
def BZ.add {β:Bc}{a A:Addr}(r:BZ β a A)(n:Nat):BZ β (a.add n) (A.add n):=by
 unfold Addr.add;split
 .exact r
 .exact⟨r.block,by simp[r.off],rfl⟩
def BZ.ptr {S:CF}{β:Bc}{a A:Addr}(r:BZ β a A):AO S β (.pointer (some a)) (.pointer (some A)):=by
 obtain⟨b,o,s⟩:=a;obtain⟨B,O,s'⟩:=A;obtain⟨h1,h2,h3⟩:=r;cases h2;cases h3;exact .ptr _ _ h1
def BZ.sl {S:CF}{β:Bc}{a A:Addr}(r:BZ β a A)(l c:Nat):AO S β (.slice (some a) l c) (.slice (some A) l c):=by
 obtain⟨b,o,s⟩:=a;obtain⟨B,O,s'⟩:=A;obtain⟨h1,h2,h3⟩:=r;cases h2;cases h3;exact .slice _ _ _ _ h1
def FI (a:Addr)(v:Value):Obj->Obj
 |.cells c elem frozen=>.cells (if a.spot.isSome then c else c.setIfInBounds a.off v) elem frozen
 |o=>o
def BG (w:World)(a:Addr)(v:Value)(b:Nat):(w.setCell a v).heap[b]?=if b=a.block then(w.heap[b]?).map (FI a v) else w.heap[b]?:=by
 have e:w.setCell a v={ w with heap:=w.heap.modify a.block (FI a v) }:=by
  unfold World.setCell;congr 2
 rw[e];simp only;rw[yh];by_cases h:b=a.block
 .subst h;simp
 .rw[if_neg (λe=>h e.symm),if_neg h]
def bi (w:World)(a:Addr)(v:Value):(w.setCell a v).heap.size=w.heap.size:=by simp[World.setCell]
def Zg (i:Nat):Obj->Bool
 |.cells _ _ r=>decide (r.1<=i)&&decide (i<r.2)
 |_=>false
def aT (w:World)(x:Addr):w.frozen? x=((w.heap[x.block]?).map (Zg x.off)).getD false:=by
 unfold World.frozen?;cases w.heap[x.block]? with
 |none=>rfl
 |some o=>cases o<;>rfl
def tD (a:Addr)(v:Value)(i:Nat)(o:Obj):Zg i (FI a v o)=Zg i o:=by cases o<;>rfl
def ft (w:World)(a:Addr)(v:Value)(x:Addr):(w.setCell a v).frozen? x=w.frozen? x:=by
 rw[aT,aT,BG];split
 .cases w.heap[x.block]? with
  |none=>rfl
  |some o=>simp[tD]
 .rfl
section
variable {P:Bw} {S:CF} {Ck:Code->Prop} {G:Nat} {β:Bc}
def BF.cell {w W:World}(hw:BF S Ck G β w W){a A:Addr}(h:BZ β a A){v:Value}(hc:w.cell? a=some v) :
  ∃c C t f F,w.heap[a.block]?=some (.cells c t f)/\W.heap[A.block]?=some (.cells C t F)/\AU S β c C/\(∀i,F.1<=i->i<F.2->f.1<=i/\i<f.2) /\
   a.spot=none/\a.off<c.size/\c[a.off]?=some v/\∃V,W.cell? A=some V/\AO S β v V:=by
 unfold World.cell? at hc;cases hh:S.hid a.block with
 |true=>rw[(hw.Db _ _ h.block hh).1] at hc;cases hc
 |false =>
  obtain⟨o,O,h1,h2,h3⟩:=hw.CQ _ _ h.block hh;rw[h1] at hc;cases h3 with
  |cells ha hf =>
   rename_i c C t f F;simp only at hc;have hs:a.spot=none:=by
    cases hs:a.spot with
    |none=>rfl
    |some s=>rw[hs] at hc;simp at hc
   rw[hs] at hc;simp at hc;obtain⟨V,hV,hr⟩:=ha.get? hc;refine⟨c,C,t,f,F,h1,h2,ha,hf,hs,(xm.1 hc).1,hc,V,?_,hr⟩;unfold World.cell?;rw[h2];simp only[<-h.spot,hs,<-h.off];simpa using hV
  |_=>simp at hc
def MX {w W:World}(hw:BF S Ck G β w W){a A:Addr}(h:BZ β a A):(∀b,∃s,w.farLoad P.a a b=.error (.stuck s))/\(∀v b,∃s,w.farStore P.a a v b=.error (.stuck s)):=by
 unfold World.farLoad World.farStore World.noCell;cases hh:S.hid a.block with
 |true =>
  rw[(hw.Db _ _ h.block hh).1];exact⟨λ_=>⟨_,rfl⟩,λ_ _=>⟨_,rfl⟩⟩
 |false =>
  obtain⟨o,O,h1,h2,h3⟩:=hw.CQ _ _ h.block hh;rw[h1];cases h3<;>exact⟨λ_=>⟨_,rfl⟩,λ_ _=>⟨_,rfl⟩⟩
def ij {a A:Addr}(h:BZ β a A)(m:Mode):AX P S Ck G β (Go.load a m) (Go.load A m) (λAQ v V=>AO S AQ v V):=by
 intro w W n hw ht Ce Cm _;cases hc:w.cell? a with
 |none =>
  obtain⟨s,hs⟩:=(MX (P:=P) hw h).1 (m==.atomic);have:(Go.load a m).runT P.a w Ce=(.halt (.stuck s) w,Ce):=by simp only[Go.load,Sem.runT,hc,hs]
  rw[this];trivial
 |some v =>
  obtain⟨c,C,t,f,F,h1,h2,h3,h4,h5,h6,h7,V,h8,h9⟩:=hw.cell h hc;have e1:(Go.load a m).runT P.a w Ce=(.ok v w,Ce.push ⟨.cell a,false,m==.atomic⟩):=by simp only[Go.load,Sem.runT,hc]
  have e2:(Go.load A m).runT P.b W Cm=(.ok V W,Cm.push ⟨.cell A,false,m==.atomic⟩):=by simp only[Go.load,Sem.runT,h8]
  rw[e1,e2];refine⟨β,V,W,[⟨.cell A,false,m==.atomic⟩],by simp,h9,{ Fin.refl hw with evs:=?_ }⟩;intro _ E hE;cases yT.1 hE;exact .cell h.block h.off ⟨c.size,by rw[h1];rfl,h6⟩ (λe=>by cases e)
def iG {a A:Addr}(h:BZ β a A)(m:Mode){v V:Value}(hv:AO S β v V):AX P S Ck G β (Go.store a v m) (Go.store A V m) (λ_ _ _=>True):=by
 intro w W n hw ht Ce Cm _;by_cases h1:∃x,v=.agg x
 .obtain⟨x,rfl⟩:=h1;trivial
 by_cases h2:∃x,v=.tuple x
 .obtain⟨x,rfl⟩:=h2;trivial
 have h1':∀x,V≠.agg x:=λx e=>by subst e;cases hv with
  |agg=>exact h1 ⟨_,rfl⟩
  |blank _ h=>cases h
 have Pf:∀x,V≠.tuple x:=λx e=>by subst e;cases hv with
  |tuple=>exact h2 ⟨_,rfl⟩
  |blank _ h=>cases h
 have r1:=cY P.a m a v (.pure ()) w Ce (λx e=>h1 ⟨x,e⟩) (λx e=>h2 ⟨x,e⟩);have r2:=cY P.b m A V (.pure ()) W Cm h1' Pf;unfold Go.store;rw[r1,r2];cases hc:w.cell? a with
 |none =>
  obtain⟨s,hs⟩:=(MX (P:=P) hw h).2 v (m==.atomic);simp only[hs];trivial
 |some x =>
  obtain⟨c,C,t,f,F,g1,g2,g3,g4,g5,g6,g7,X,g8,g9⟩:=hw.cell h hc;simp only[g8];by_cases hz:w.frozen? a=true
  .rw[if_pos hz];exact λg e=>by cases e
  .rw[if_neg hz];have hZ:¬W.frozen? A=true:=by
    unfold World.frozen? at hz ⊢;rw[g1] at hz;rw[g2];simp only[xG,decide_eq_true_eq] at hz ⊢;rw[<-h.off];exact λ⟨p,q⟩=>hz (g4 _ p q)
   rw[if_neg hZ];refine⟨β,(),W.setCell A V,[⟨.cell A,true,m==.atomic⟩],by show(Result.ok () _,Cm.push _)=_;simp,trivial,?_⟩;have ww:∀b B,β b B->(b=a.block↔B=A.block):=λb B hb=>⟨λe=>hw.Cn.fn (e▸hb) h.block,λe=>hw.Cn.inj hb (e▸h.block)⟩;have nh:S.hid a.block=false:=by
    cases hh:S.hid a.block with
    |false=>rfl
    |true=>rw[(hw.Db _ _ h.block hh).1] at g1;cases g1
   have hrel:BF S Ck G β (w.setCell a v) (W.setCell A V):=by
    refine⟨hw.Cn,by rw[bi,bi];exact hw.room,λb B hb hh=>?_,λb B hb hh=>?_,λb hb=>by rw[bi];exact hw.old b hb,hw.env⟩
    .obtain⟨o,O,k1,k2,k3⟩:=hw.CQ b B hb hh;rw[BG,BG];by_cases e:b=a.block
     .have E:=(ww b B hb).1 e;subst e;subst E;rw[g1] at k1;cases k1;rw[g2] at k2;cases k2;rw[g1,g2];have hs:A.spot=none:=by rw[<-h.spot];exact g5
      refine⟨_,_,by rw[if_pos rfl];rfl,by rw[if_pos rfl];rfl,?_⟩;simp only[FI,g5,hs,h.off];exact .cells (g3.set _ hv) g4
     .have E:¬B=A.block:=λE=>e ((ww b B hb).2 E);exact⟨o,O,by rw[if_neg e];exact k1,by rw[if_neg E];exact k2,k3⟩
    .have e:¬b=a.block:=λe=>by subst e;rw[nh] at hh;cases hh
     have E:¬B=A.block:=λE=>e ((ww b B hb).2 E);rw[BG,BG,if_neg e,if_neg E];exact hw.Db b B hb hh
   have X0:¬(∀i,i<c.size->f.1<=i/\i<f.2):=λhf=>by
    obtain⟨p,q⟩:=hf _ g6;unfold World.frozen? at hz;rw[g1] at hz;exact hz (by simp[p,q])
   have KX:∀b,((w.setCell a v).heap[b]?).map Cr=(w.heap[b]?).map Cr:=λb=>by
    rw[BG];split
    .cases w.heap[b]? with
     |none=>rfl
     |some o=>cases o<;>first|rfl|(simp only[FI,Cr,yC];split<;>simp)
    .rfl
   exact {
    le:=β.le_refl
    rel:=hrel
    tape:=rfl
    TAPE:=rfl
    drawn:=xp _
    draws:=rfl
    os:=rfl
    OS:=rfl
    out:=rfl
    OUT:=rfl
    size:=by rw[bi];exact xp _
    SIZE:=by rw[bi];exact xp _
    new:=λ_ _ h=>.inl h
    NEW:=λB h1 h2=>absurd h2 (by rw[bi];omega)
    frozen:=λx _=>ft w a v x
    KEPT:=λB _ hn=>by rw[BG,if_neg (λe=>hn _ (e▸h.block))]
    ro:=λb B c' t' f' hb hc' hf'=>by
     by_cases e:b=a.block
     .subst e;rw[g1] at hc';cases hc';exact absurd hf' X0
     .have E:¬B=A.block:=λE=>e ((ww b B hb).2 E);exact⟨by rw[BG,if_neg e],by rw[BG,if_neg E]⟩
    kind:=λb _=>KX b
    evs:=λ_ E hE=>by
     cases yT.1 hE
     exact .cell h.block h.off ⟨c.size,by rw[KX,g1];rfl,g6⟩ (λ_=>by rw[ft];simpa using hz)
    same:=λi e=>by
     have ea:a=A:=by
      obtain⟨b1,o1,s1⟩:=a;obtain⟨b2,o2,s2⟩:=A;obtain⟨q1,q2,q3⟩:=h;cases q2;cases q3;have q4:b1=b2:=i.2 _ _ q1;rw[q4]
     have ev:v=V:=hv.id i;subst ea ev;exact⟨i,by simp only[World.setCell,e]⟩
    hk:=λb B hb hh=>by
     have e:¬b=a.block:=λe=>by subst e;rw[nh] at hh;cases hh
     have E:¬B=A.block:=λE=>e ((ww b B hb).2 E)
     rw[BG,if_neg E] }
def bE (w:World)(o:Obj)(b:Nat):({ w with heap:=w.heap.push o }:World).heap[b]?=if b=w.heap.size then some o else w.heap[b]?:=by
 simp only[yY]
def i5 {o O:Obj}(h:BS S Ck β o O)(hid:JE S.hid β->o=O):AX P S Ck G β (newObj o) (newObj O) (λAQ b B=>AQ b B/\S.hid b=false):=by
 intro w W n hw ht Ce Cm _;have e1:(newObj o).runT P.a w Ce=(.ok w.heap.size { w with heap:=w.heap.push o },Ce):=rfl;have e2:(newObj O).runT P.b W Cm=(.ok W.heap.size { W with heap:=W.heap.push O },Cm):=rfl;rw[e1,e2];have hG:=hw.room;have nh:S.hid w.heap.size=false:=by
  cases hh:S.hid w.heap.size with
  |false=>rfl
  |true=>have:=hw.old _ hh;omega
 let AQ:Bc:=λb B=>β b B\/(b=w.heap.size/\B=W.heap.size)
 have le:β.le AQ:=λb B h=>.inl h;have Cn:AQ.B8 G:=by
  refine⟨?_,?_,?_⟩
  .rintro b B B' (h1|⟨rfl,rfl⟩) (h2|⟨h2,rfl⟩)
   .exact hw.Cn.fn h1 h2
   .exact absurd (hw.lt h1).1 (by omega)
   .exact absurd (hw.lt h2).1 (by omega)
   .rfl
  .rintro b b' B (h1|⟨rfl,rfl⟩) (h2|⟨rfl,h2⟩)
   .exact hw.Cn.inj h1 h2
   .exact absurd (hw.lt h1).2 (by omega)
   .exact absurd (hw.lt h2).2 (by omega)
   .rfl
  .rintro b B (h1|⟨rfl,rfl⟩)
   .exact hw.Cn.lo h1
   .exact hG
 have rel:BF S Ck G AQ { w with heap:=w.heap.push o } { W with heap:=W.heap.push O }:=by
  refine⟨Cn,by simp;omega,?_,?_,λb hb=>by have:=hw.old b hb;simp;omega,hw.env⟩
  .rintro b B (hb|⟨rfl,rfl⟩) hh
   .obtain⟨x,X,k1,k2,k3⟩:=hw.CQ b B hb hh;have:=hw.lt hb;exact⟨x,X,by rw[bE,if_neg (by omega)];exact k1,by rw[bE,if_neg (by omega)];exact k2,k3.mono le⟩
   .exact⟨o,O,by rw[bE,if_pos rfl],by rw[bE,if_pos rfl],h.mono le⟩
  .rintro b B (hb|⟨rfl,rfl⟩) hh
   .have:=hw.lt hb;rw[bE,bE,if_neg (by omega),if_neg (by omega)];exact hw.Db b B hb hh
   .rw[nh] at hh;cases hh
 refine⟨AQ,W.heap.size,_,[],by simp,⟨.inr ⟨rfl,rfl⟩,nh⟩,{
  le:=le
  rel:=rel
  tape:=rfl
  TAPE:=rfl
  drawn:=xp _
  draws:=rfl
  os:=rfl
  OS:=rfl
  out:=rfl
  OUT:=rfl
  size:=by simp
  SIZE:=by simp
  new:=?_
  NEW:=λB h1 h2=>⟨w.heap.size,.inr ⟨rfl,by simp at h2;omega⟩⟩
  frozen:=λx hx=>by rw[aT,aT,bE,if_neg (by omega)]
  KEPT:=λB hB _=>by rw[bE,if_neg (by omega)]
  ro:=λb B c t f hb _ _=>by have:=hw.lt hb;rw[bE,bE,if_neg (by omega),if_neg (by omega)];exact⟨rfl,rfl⟩
  kind:=λb hb=>by rw[bE,if_neg (by omega)]
  evs:=by simp
  same:=λi e=>⟨⟨i.1,by
   rintro b B (hb|⟨rfl,rfl⟩)
   .exact i.2 b B hb
   .rw[e]⟩,by rw[e,hid i]⟩
  hk:=λb B hb _=>by have:=(hw.lt hb).2;rw[bE,if_neg (by omega)] }⟩
 rintro b B (hb|⟨rfl,rfl⟩)
 .exact .inl hb
 .exact .inr ⟨xp _,xp _⟩
def iH {b B:Nat}(h:β b B):AX P S Ck G β (Go.shape b) (Go.shape B) (λ_ x X=>x=X\/x=none):=by
 intro w W n hw ht Ce Cm _;have e1:(Go.shape b).runT P.a w Ce=(.ok (w.shape? b) w,Ce):=rfl;have e2:(Go.shape B).runT P.b W Cm=(.ok (W.shape? B) W,Cm):=rfl;rw[e1,e2];refine⟨β,W.shape? B,W,[],by simp,?_,Fin.refl hw⟩;unfold World.shape?;cases hh:S.hid b with
 |true=>rw[(hw.Db _ _ h hh).1];exact .inr rfl
 |false =>
  obtain⟨o,O,k1,k2,k3⟩:=hw.CQ b B h hh;rw[k1,k2];cases k3 with
  |cells ha _=>exact .inl (by simp[ha.size])
  |_=>exact .inl rfl
def j9 {b B:Nat}(h:β b B)(hh:S.hid b=false):AX P S Ck G β (Go.shape b) (Go.shape B) (λ_ x X=>x=X):=by
 intro w W n hw ht Ce Cm _;have e1:(Go.shape b).runT P.a w Ce=(.ok (w.shape? b) w,Ce):=rfl;have e2:(Go.shape B).runT P.b W Cm=(.ok (W.shape? B) W,Cm):=rfl;rw[e1,e2];refine⟨β,W.shape? B,W,[],by simp,?_,Fin.refl hw⟩;unfold World.shape?;obtain⟨o,O,k1,k2,k3⟩:=hw.CQ b B h hh;rw[k1,k2];cases k3 with
 |cells ha _=>simp[ha.size]
 |_=>rfl
def eR (q:Question):AX P S Ck G β (Go.choose q) (Go.choose q) (λ_ x X=>x=X):=by
 intro w W n hw ht Ce Cm hb;by_cases hq:q.forced=true
 .have e1:(Go.choose q).runT P.a w Ce=(.ok 0 w,Ce):=by simp only[Go.choose,Sem.runT,hq,if_true]
  have e2:(Go.choose q).runT P.b W Cm=(.ok 0 W,Cm):=by simp only[Go.choose,Sem.runT,hq,if_true]
  rw[e1,e2];exact⟨β,0,W,[],by simp,rfl,Fin.refl hw⟩
 .have e1:(Go.choose q).runT P.a w Ce=(.ok (q.cut (w.tape w.drawn q)) { w with drawn:=w.drawn+1 },Ce):=by simp only[Go.choose,Sem.runT,if_neg hq]
  have e2:(Go.choose q).runT P.b W Cm=(.ok (q.cut (W.tape W.drawn q)) { W with drawn:=W.drawn+1 },Cm):=by simp only[Go.choose,Sem.runT,if_neg hq]
  rw[e1] at hb;rw[e1,e2];have:w.tape w.drawn q=W.tape W.drawn q:=by
   have:=ht 0 (by simp only[world] at hb;omega) q;simpa using this
  refine⟨β,q.cut (W.tape W.drawn q),{ W with drawn:=W.drawn+1 },[],by simp,by rw[this],{ Fin.refl hw with evs:=by simp,rel:=⟨hw.Cn,hw.room,hw.CQ,hw.Db,hw.old,hw.env⟩,drawn:=Nat.le_succ _,draws:=?_,same:=λi e=>⟨i,e⟩,hk:=λ_ _ _ _=>rfl,.. }⟩
  .show W.drawn+1+w.drawn=W.drawn+(w.drawn+1);omega
def pF:AX P S Ck G β (mark .noRoom) (mark .noRoom) (λ_ _ _=>True):=by
 intro w W n hw ht Ce Cm _;have e1:(mark .noRoom).runT P.a w Ce=(.ok () w,Ce.push ⟨.mark .noRoom,false,true⟩):=rfl;have e2:(mark .noRoom).runT P.b W Cm=(.ok () W,Cm.push ⟨.mark .noRoom,false,true⟩):=rfl;rw[e1,e2];exact⟨β,(),W,[⟨.mark .noRoom,false,true⟩],by simp,trivial,{ Fin.refl hw with evs:=λ_ E hE=>by cases yT.1 hE;exact .mark .noRoom }⟩
def eU {r R:Nat}(h:β r R)(hh:S.hid r=false):AX P S Ck G β (Go.getObj r) (Go.getObj R) (λAQ o O=>BS S Ck AQ o O):=by
 intro w W n hw ht Ce Cm _;obtain⟨o,O,k1,k2,k3⟩:=hw.CQ r R h hh;have key:∀(hk:Cr o=2),(∀c t f,o≠.cells c t f)->(∀c t f,O≠.cells c t f)->Ends S Ck G β w W Cm (λAQ o O=>BS S Ck AQ o O) ((Go.getObj r).runT P.a w Ce) ((Go.getObj R).runT P.b W Cm):=by
  intro hk h1 h2;have e1:(Go.getObj r).runT P.a w Ce=(.ok o w,Ce.push ⟨.obj r,false,o.isChan⟩):=by
   simp only[Go.getObj,Sem.runT,k1]
  have e2:(Go.getObj R).runT P.b W Cm=(.ok O W,Cm.push ⟨.obj R,false,O.isChan⟩):=by
   simp only[Go.getObj,Sem.runT,k2]
  rw[e1,e2];exact⟨β,O,W,[⟨.obj R,false,O.isChan⟩],by simp,k3,{ Fin.refl hw with evs:=λ_ E hE=>by cases yT.1 hE;exact .obj h (by rw[k1];simp[hk]) }⟩
 cases k3 with
 |cells a f =>
  have:(Go.getObj r).runT P.a w Ce=(.halt (.stuck "getObj: a row of cells") w,Ce):=by simp only[Go.getObj,Sem.runT,k1]
  rw[this];trivial
 |loop=>exact key rfl (by simp) (by simp)
 |number=>exact key rfl (by simp) (by simp)
 |taken=>exact key rfl (by simp) (by simp)
 |defs=>exact key rfl (by simp) (by simp)
def aN (w:World)(r:Nat)(o:Obj)(b:Nat)(h:r<w.heap.size):({ w with heap:=w.heap.setIfInBounds r o }:World).heap[b]?=if b=r then some o else w.heap[b]?:=by
 simp only;rw[yK];by_cases e:r=b
 .subst e;simp[h]
 .rw[if_neg e,if_neg (λx=>e x.symm)]
def eW {r R:Nat}(h:β r R)(hh:S.hid r=false){o O:Obj}(ho:BS S Ck β o O)(hk:Cr o=2):AX P S Ck G β (Go.setObj r o) (Go.setObj R O) (λ_ _ _=>True):=by
 intro w W n hw ht Ce Cm _;obtain⟨x,X,k1,k2,k3⟩:=hw.CQ r R h hh;have lt:=hw.lt h;have hn:∀c t f,o≠.cells c t f:=λc t f e=>by subst e;simp[Cr] at hk
 have key:Cr x=2->(∀c t f,x≠.cells c t f)->(∀c t f,X≠.cells c t f)->Ends S Ck G β w W Cm (λ_ _ _=>True) ((Go.setObj r o).runT P.a w Ce) ((Go.setObj R O).runT P.b W Cm):=by
  intro hx h1 h2;have e1:(Go.setObj r o).runT P.a w Ce=(.ok () { w with heap:=w.heap.setIfInBounds r o },Ce.push ⟨.obj r,true,o.isChan⟩):=by
   simp only[Go.setObj,Sem.runT,k1]
  have e2:(Go.setObj R O).runT P.b W Cm=(.ok () { W with heap:=W.heap.setIfInBounds R O },Cm.push ⟨.obj R,true,O.isChan⟩):=by
   simp only[Go.setObj,Sem.runT,k2]
  rw[e1,e2];have ww:∀b B,β b B->(b=r↔B=R):=λb B hb=>⟨λe=>hw.Cn.fn (e▸hb) h,λe=>hw.Cn.inj hb (e▸h)⟩;have KX:∀b,(({ w with heap:=w.heap.setIfInBounds r o }:World).heap[b]?).map Cr=(w.heap[b]?).map Cr:=λb=>by
   rw[aN _ _ _ _ lt.1];split
   .rename_i e;rw[e,k1];simp[hx,hk]
   .rfl
  refine⟨β,(),{ W with heap:=W.heap.setIfInBounds R O },[⟨.obj R,true,O.isChan⟩],by simp,trivial,{
   le:=β.le_refl
   rel:=⟨hw.Cn,by simpa using hw.room,λb B hb F3=>?_,λb B hb F3=>?_,λb hb=>by have:=hw.old b hb;simpa using this,hw.env⟩
   tape:=rfl
   TAPE:=rfl
   drawn:=xp _
   draws:=rfl
   os:=rfl
   OS:=rfl
   out:=rfl
   OUT:=rfl
   size:=by simp
   SIZE:=by simp
   new:=λ_ _ h=>.inl h
   NEW:=λB h1 h2=>absurd h2 (by simp;omega)
   frozen:=λa _=>?_
   KEPT:=λB hB hn=>by rw[aN _ _ _ _ lt.2,if_neg (λe=>hn _ (e▸h))]
   ro:=λb B c t f hb hc _=>?_
   kind:=λb _=>KX b
   evs:=λ_ E hE=>by cases yT.1 hE;exact .obj h (by rw[KX,k1];simp[hx])
   same:=λi e=>⟨i,by rw[e,i.2 _ _ h,ho.id i hn]⟩
   hk:=λb B hb F3=>by
    have e:¬b=r:=λe=>by subst e;rw[hh] at F3;cases F3
    have E:¬B=R:=λE=>e ((ww b B hb).2 E)
    rw[aN _ _ _ _ lt.2,if_neg E] }⟩
  .obtain⟨y,Y,j1,j2,j3⟩:=hw.CQ b B hb F3;by_cases e:b=r
   .have E:=(ww b B hb).1 e;exact⟨o,O,by rw[aN _ _ _ _ lt.1,if_pos e],by rw[aN _ _ _ _ lt.2,if_pos E],ho⟩
   .have E:¬B=R:=λE=>e ((ww b B hb).2 E);exact⟨y,Y,by rw[aN _ _ _ _ lt.1,if_neg e];exact j1,by rw[aN _ _ _ _ lt.2,if_neg E];exact j2,j3⟩
  .have e:¬b=r:=λe=>by subst e;rw[hh] at F3;cases F3
   have E:¬B=R:=λE=>e ((ww b B hb).2 E);rw[aN _ _ _ _ lt.1,aN _ _ _ _ lt.2,if_neg e,if_neg E];exact hw.Db b B hb F3
  .rw[aT,aT,aN _ _ _ _ lt.1];split
   .rename_i e;rw[e,k1];cases x<;>cases o<;>first|exact absurd rfl (h1 _ _ _)|exact absurd rfl (hn _ _ _)|rfl
   .rfl
  .have e:¬b=r:=λe=>by subst e;rw[k1] at hc;cases hc;exact h1 _ _ _ rfl
   have E:¬B=R:=λE=>e ((ww b B hb).2 E);exact⟨by rw[aN _ _ _ _ lt.1,if_neg e],by rw[aN _ _ _ _ lt.2,if_neg E]⟩
 cases k3 with
 |cells a f =>
  have:(Go.setObj r o).runT P.a w Ce=(.halt (.stuck "setObj: a row of cells") w,Ce):=by simp only[Go.setObj,Sem.runT,k1]
  rw[this];trivial
 |loop=>exact key rfl (by simp) (by simp)
 |number=>exact key rfl (by simp) (by simp)
 |taken=>exact key rfl (by simp) (by simp)
 |defs=>exact key rfl (by simp) (by simp)
end
end Go.Bl
