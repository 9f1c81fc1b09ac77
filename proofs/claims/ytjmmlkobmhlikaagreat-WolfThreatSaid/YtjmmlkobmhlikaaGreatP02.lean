/- Parts of the proof. -/
import Derived.Test.YtjmmlkobmhlikaaGreatP01
import Derived.Test.YtjmmlkobmhlikaaGreatP00
import Derived.RangeFuncOwn
import Derived.RangeFuncLeaves
import Derived.Defers
import Derived.Laws.LoneSync
import Derived.BigQuiet
set_option linter.all false
set_option maxHeartbeats 3200000
set_option maxRecDepth 1000000
namespace Go.Proofs.YtjmmlkobmhlikaaGreat
open Go.RowKit Go.Sq Go.Shelf
attribute [local go_sem] Oper.semAt_some
def kh (cb n:Nat)(r:Ros)(w:World):Calls uZ 56 #[.pointer (some ⟨cb,0,none⟩),rosV r,.int .i64 n] w λe w' =>
  e=.returned (.func (.func 80) #[] #[.pointer (some ⟨w.heap.size,0,none⟩),.pointer (some ⟨w.heap.size+1,0,none⟩),.pointer (some ⟨w.heap.size+2,0,none⟩)]) /\
   w'=((w.alloc (.cells #[.pointer (some ⟨cb,0,none⟩)] 57)).alloc (.cells #[.int .u8 (r 0),.int .u8 (r 1),.int .u8 (r 2),.int .u8 (r 3),.int .u8 (r 4)] 60)).alloc (.cells #[.int .i64 n] 3):=by
 unfold rosV
 have hmf:∀(fn:Fn) (first cap:Array Value) (w:World),(Instr.makeFunc fn first cap).run uZ w=.ok (.func fn first cap) w:=λ_ _ _ _=>rfl
 go_enter Sq.func56,Tryz.ntmps56
 go_wp2
 go_ret
 exact⟨rfl,rfl⟩
section
variable {T K:Nat->Prop} {cb:Nat} {c:Camp} {sets:List Nat} {nA hA:Option Addr} {nc hc sb sc bc br bn l:Nat} {J Jx:List Ros->World->Prop} {W0:World}
structure Seq0 (T K:Nat->Prop)(cb:Nat)(c:Camp)(sets:List Nat)(nA hA:Option Addr)(nc hc sb sc bc br bn:Nat)(r:Ros)(n:Nat)(w:World):Prop where
 camp:CampK w K cb c sets nA hA nc hc sb sc
 kt:∀b,K b->¬T b
 xc:w.cell? ⟨bc,0,none⟩=some (.pointer (some ⟨cb,0,none⟩))/\¬T bc/\bc<w.heap.size
 xr:(∀i,i<5->w.cell? ⟨br,i,none⟩=some (.int .u8 (r i))/\w.frozen? ⟨br,i,none⟩=false)/\¬T br/\br<w.heap.size
 xn:w.cell? ⟨bn,0,none⟩=some (.int .i64 n)/\bn<w.heap.size
 ne:bc≠br/\∀b,K b->b≠br
 rs:∀i,c.has (r i)
def qT (hok:c.Ok)(hsets:∀x∈sets,c.has x)(hsl:sets.length<=16)(hJT:∀pre w w',J pre w->(∀b,T b->w'.heap[b]?=w.heap[b]?)->J pre w')
  (hTlt:∀pre w,J pre w->∀b,T b->b<w.heap.size)
  {k n:Nat} {r:Ros} {W:World} (hY:∀pre ρ W,pre++[ρ] <+: walkL c sets k r n->KT (λb=>T b\/b=br) W0 W->J pre W->YieldAt Fence.wide 0 uZ l #[rosV ρ] W (Said T J Jx pre ρ W))
  (hn:n+k=c.needs.length) (hs:Seq0 T K cb c sets nA hA nc hc sb sc bc br bn r n W) (hk:KT (λb=>T b\/b=br) W0 W) (hj:J [] W) (hz:∀i,n<=i->r i=0) :
  CallsIn Fence.wide 0 uZ 80 #[.func (.yield l) #[] #[],.pointer (some ⟨bc,0,none⟩),.pointer (some ⟨br,0,none⟩),.pointer (some ⟨bn,0,none⟩)] W
   λe W'=>e=.returned (.tuple #[])/\KT (λb=>T b\/b=br) W W'/\(J (walkL c sets k r n) W'\/∃q,q <+: walkL c sets k r n/\Jx q W'):=by
 obtain⟨W1,hW1⟩:∃W1:World,W1=(W.alloc (.cells #[.func (.yield l) #[] #[]] 159)).alloc (.cells #[.func (.func 81) #[] #[.pointer (some ⟨bc,0,none⟩),.pointer (some ⟨W.heap.size,0,none⟩),.pointer (some ⟨br,0,none⟩),.pointer (some ⟨W.heap.size+1,0,none⟩)]] 160):=⟨_,rfl⟩
 have g1:Gr W W1:=by rw[hW1];exact((Gr.refl W).alloc _).alloc _
 have hTW:=hTlt _ _ hj
 have hz1:W1.heap.size=W.heap.size+2:=by rw[hW1];simp
 have HS1:Hid (WkS T K cb c sets nA hA nc hc sb sc bc W.heap.size br (W.heap.size+1) l r W1):=ui (by
  have k1:KT T W W1:=um g1
  refine⟨hs.camp.keep k1.size λb o hb=>k1.cell (p:=⟨b,o,none⟩) (hs.camp.lt b hb) (hs.kt b hb),hs.kt,⟨(k1.cell hs.xc.2.2 hs.xc.2.1).trans hs.xc.1,hs.xc.2.1,by have:=hs.xc.2.2;omega⟩,⟨?_,λh=>by have:=hTW _ h;omega,by omega⟩,⟨?_,λh=>by have:=hTW _ h;omega,by omega⟩,
   ⟨λi hi=>⟨(k1.cell (p:=⟨br,i,none⟩) hs.xr.2.2 hs.xr.2.1).trans (hs.xr.1 i hi).1,(k1.frozen (p:=⟨br,i,none⟩) hs.xr.2.2 hs.xr.2.1).trans (hs.xr.1 i hi).2⟩,hs.xr.2.1,by have:=hs.xr.2.2;omega⟩,⟨hs.ne.1,?_,?_,hs.ne.2⟩,hs.rs⟩
  ·rw[hW1,World.cell?_alloc_past _ _ _ (by simp),World.cell?_alloc_at _ _ _ _ rfl];rfl
  ·rw[hW1,World.cell?_alloc_at _ _ _ _ (by simp)];rfl
  ·have:=hs.xr.2.2;omega
  ·have:=hs.xr.2.2;omega)
 have HJ1:Hid (J [] W1):=ui (hJT _ _ _ hj λb hb=>g1.below.block b (hTW b hb))
 have HWT:=ui (sD (by_:=W.heap.size) (bw:=W.heap.size+1) hok hsets hsl hJT hTlt hs.xr.2.1 hY k n r [] W1 hn HS1.out (hk.trans (um g1)) HJ1.out hz (by simp))
 have hxn:=hs.xn.1
 have hbn:=hs.xn.2
 have HG1:=ui g1
 have hmf:∀(fn:Fn) (first cap:Array Value) (w:World),(Instr.makeFunc fn first cap).run uZ w=.ok (.func fn first cap) w:=λ_ _ _ _=>rfl
 clear hs hk hj hz hJT hTlt hY g1 hTW hz1
 rw[hW1] at HWT
 clear HS1 HJ1
 refine callsIn_of_wp Sq.func80 rfl trivial ?_ rfl
 simp only[Tryz.ntmps80,List.size_toArray,List.length_cons,List.length_nil,Nat.reduceAdd,Nat.reduceSub,Array.replicate_succ,Array.replicate_zero,List.push_toArray,List.append_toArray,List.nil_append,List.cons_append]
 gi_wp2_with fail
 refine⟨trivial,rfl,HWT.out.mono ?_⟩
 rw[<-hW1]
 rintro e w3 (⟨rfl,hj3,_,hk3⟩|⟨rfl,hq3,hk3⟩)
 ·have HJ3:=ui hj3
  have HK3:=ui ((um HG1.out).trans hk3)
  clear hj3 hk3 hW1
  gi_wp2
  go_end0
  exact⟨rfl,HK3.out,.inl (by simpa using HJ3.out)⟩
 ·have HQ3:=ui hq3
  have HK3:=ui ((um HG1.out).trans hk3)
  clear hq3 hk3 hW1
  gi_wp2
  go_end0
  refine⟨rfl,HK3.out,.inr ?_⟩
  obtain⟨q,h1,h2⟩:=HQ3.out
  exact⟨q,h1,by simpa using h2⟩
end
open Go.RowKit Go.Sq Go.Shelf
def rPost (T0:Nat->Prop)(I:List Ros->World->Prop)(Ix:Code->List Ros->World->Prop)(xs:List Ros)(W:World):Exit->Act->World->Prop
 |.normal,_,W'=>KT T0 W W'/\I xs W'
 |.ret,_,W'=>KT T0 W W'/\Ix .ret xs W'
 |.exit id,_,W'=>KT T0 W W'/\Ix (.exit id) xs W'
 |.goto t,_,W'=>KT T0 W W'/\Ix (.goto t) xs W'
 |.panic _,_,_=>False
 |.outgrown,_,_=>False
def _root_.Go.Sq.KT.low {T T':Nat->Prop}{w w':World}(h:KT T w w')(hT:∀b,b<w.heap.size->T b->T' b):KT T' w w':=⟨h.os,h.tape,h.output,h.drawn,h.size,λb hb hn=>h.block b hb λt=>hn (hT b hb t)⟩
def dh {fn:Func}{tmps:Array Value}{R:Ending->World->Prop}{D:Nat}{W:World}{v:Value}(hd:W.heap[D]?=some (.deferred (some [])))(hr:(results fn tmps).run uZ (W.putObj D (.deferred none))=.ok v (W.putObj D (.deferred none)))(hR:R (.returned v) (W.putObj D (.deferred none))) :
  LeavesInM Fence.wide 0 uZ fn tmps R [{ target:=.collected D,args:=#[] }] .returning W:=⟨by simp,.inl ⟨D,_,rfl,run_takeDeferred hd,v,hr,hR⟩⟩
def bR {W:World}{D:Nat}{o:Obj}{p:Addr}(h:p.block≠D):(W.putObj D o).cell? p=W.cell? p:=World.cell?_of_block (World.putObj_heap_other h)
def one_cell {W:World}{b:Nat}{v:Value}{t:TypeId}(h:W.heap[b]?=some (.cells #[v] t (0,0))):W.cell? ⟨b,0,none⟩=some v/\W.frozen? ⟨b,0,none⟩=false/\b<W.heap.size:=by
 refine⟨?_,?_,(Array.getElem?_eq_some_iff.1 h).1⟩
 ·unfold World.cell?;simp only[h];rfl
 ·unfold World.frozen?;simp only[h];rfl
def one_set {W:World}{b:Nat}{v u:Value}{t:TypeId}(h:W.heap[b]?=some (.cells #[v] t (0,0))):(W.setCell ⟨b,0,none⟩ u).heap[b]?=some (.cells #[u] t (0,0)):=by
 unfold World.setCell
 simp only[Array.getElem?_modify,if_true,h]
 rfl
def _root_.Go.Sq.KT.gr {T:Nat->Prop}{w w1 W:World}(h:Gr w w1)(hk:KT T w1 W)(hT:∀b,T b->w.heap.size<=b):Gr w W :=
 ⟨⟨hk.os.trans h.below.os,hk.tape.trans h.below.tape,hk.output.trans h.below.output,Nat.le_trans h.size hk.size,λb hb=>(hk.block b (Nat.lt_of_lt_of_le hb h.size) λt=>by have:=hT b t;omega).trans (h.below.block b hb)⟩,Nat.le_trans h.drawn hk.drawn⟩
def _root_.Go.Sq.Gr.putObj {w W:World}(h:Gr w W){D:Nat}(hD:w.heap.size<=D)(o:Obj):Gr w (W.putObj D o) :=
 ⟨⟨h.below.os,h.below.tape,h.below.output,by simpa [World.putObj] using h.size,λb hb=>(World.putObj_heap_other (by omega)).trans (h.below.block b hb)⟩,h.drawn⟩
def oe {T0 K:Nat->Prop}{cb:Nat}{c:Camp}{sets:List Nat}{nA hA:Option Addr}{nc hc sb sc bc br bn k n:Nat}{r:Ros}{g:Operand}{ps:Array Tmp}{assign body:Code}{Q:Exit->Act->World->Prop}{a:Act}{w:World}
  (hok:c.Ok) (hsets:∀x∈sets,c.has x) (hsl:sets.length<=16) (hg:a.eval g=.func (.func 80) #[] #[.pointer (some ⟨bc,0,none⟩),.pointer (some ⟨br,0,none⟩),.pointer (some ⟨bn,0,none⟩)])
  (hn:n+k=c.needs.length) (hz:∀i,n<=i->r i=0) (hs:Seq0 T0 K cb c sets nA hA nc hc sb sc bc br bn r n w) (hT0:∀b,T0 b->b<w.heap.size) (hps:ps.size=1)
  (I:List Ros->World->Prop) (Ix:Code->List Ros->World->Prop) (hI:∀pre W W',I pre W->(∀b,T0 b->W'.heap[b]?=W.heap[b]?)->I pre W') (hIx:∀c pre W W',Ix c pre W->(∀b,T0 b->W'.heap[b]?=W.heap[b]?)->Ix c pre W') (h0:I [] w)
  (a₁:Ros->Act)
  (hassign:∀(l:Nat) (ρ:Ros) (W:World) (K:Act->World->Prop),K (a₁ ρ) W->assign.wpIn (Fence.wide.inRound l) 0 uZ (Exit.then K (λ_ _ _=>False)) { tmps:=(ps.zip #[rosV ρ]).foldl (λt (p,v)=>t.setIfInBounds p v) a.tmps,defers:=[] } W)
  (hbody:∀(l:Nat) (pre:List Ros) (ρ:Ros) (W:World),pre++[ρ] <+: walkL c sets k r n->KT (λb=>T0 b\/b=br) w W->I pre W->body.wpIn (Fence.wide.inRound l) 0 uZ (rPost T0 I Ix (pre++[ρ]) W) (a₁ ρ) W)
  (hdone:∀(D:Nat) (W:World),w.heap.size<=D->KT (λb=>T0 b\/b=br) w W->I (walkL c sets k r n) W->W.heap[D]?=some (.deferred (some []))->Q .normal { a with defers:={ target:=.collected D,args:=#[] }::a.defers } W)
  (hstop:∀(D:Nat) (j:Code) (q:List Ros) (W:World),w.heap.size<=D->KT (λb=>T0 b\/b=br) w W->q <+: walkL c sets k r n->Ix j q W->W.heap[D]?=some (.deferred (some []))->j.wpIn Fence.wide 0 uZ Q { a with defers:={ target:=.collected D,args:=#[] }::a.defers } W) :
  (Code.rangeFunc g ps assign body).wpIn Fence.wide 0 uZ Q a w:=by
 refine wpIn_rangeFunc ?_
 intro fn hfn
 have hlt0:∀b,K b->b<w.heap.size:=hs.camp.lt
 obtain⟨rec,hrec⟩:∃rec:LoopState->Option Code->Loop,rec=λst pe=>{ state:=st,pending:=pe,fn,tmps:=a.tmps,params:=ps,assign,body,defers:=w.heap.size }:=⟨_,rfl⟩
 obtain⟨W1,hW1⟩:∃W1,(w.alloc (.deferred (some []))).alloc (.loop (rec .ready none))=W1:=⟨_,rfl⟩
 have hL1:W1.heap[w.heap.size+1]?=some (.loop (rec .ready none)):=by
  rw[<-hW1];have:=World.alloc_heap_new (w.alloc (.deferred (some []))) (.loop (rec .ready none));rwa [World.size_alloc] at this
 have hK1:W1.heap[w.heap.size]?=some (.deferred (some [])):=by
  rw[<-hW1];exact(Below.heap_alloc _ _ _ (by simp)).trans (World.alloc_heap_new w _)
 have hg1:Gr w W1:=by rw[<-hW1];exact((Gr.refl w).alloc _).alloc _
 have hI1:I [] W1:=hI _ _ _ h0 λb hb=>hg1.below.block b (hT0 b hb)
 have hz1:W1.heap.size=w.heap.size+2:=by rw[<-hW1];simp
 refine⟨w.heap.size+1,[{ target:=.collected w.heap.size,args:=#[] }],W1,{ target:=.fn (.func 80) #[.pointer (some ⟨bc,0,none⟩),.pointer (some ⟨br,0,none⟩),.pointer (some ⟨bn,0,none⟩)],args:=#[.func (.yield (w.heap.size+1)) #[] #[]] },W1,80,
  #[.func (.yield (w.heap.size+1)) #[] #[]]++#[.pointer (some ⟨bc,0,none⟩),.pointer (some ⟨br,0,none⟩),.pointer (some ⟨bn,0,none⟩)],W1,?_,?_,?_,?_,λh=>(by cases h),?_⟩
 ·rw[<-hW1,hrec];exact run_enterLoop_outer _ _ _ _ _
 ·simp only[resolve,hg]
  simp[go_sem]
 ·intro f' _;trivial
 ·simp[invoke,go_sem]
 ·obtain⟨T,hT⟩:∃T:Nat->Prop,T=λb=>T0 b\/b=w.heap.size\/b=w.heap.size+1:=⟨_,rfl⟩
  have hTin:∀b,T0 b->T b:=λb hb=>by rw[hT];exact .inl hb
  have hTD:T w.heap.size:=by rw[hT];exact .inr (.inl rfl)
  have hTl:T (w.heap.size+1):=by rw[hT];exact .inr (.inr rfl)
  have hTold:∀b,b<w.heap.size->T b->T0 b:=λb hb h=>by
   rw[hT] at h
   rcases h with h|h|h
   ·exact h
   ·omega
   ·omega
  have k1:KT T0 w W1:=um hg1
  have hs1:Seq0 T K cb c sets nA hA nc hc sb sc bc br bn r n W1:=by
   refine⟨hs.camp.keep hg1.size λb o hb=>hg1.cell (hlt0 b hb),λb hb h=>hs.kt b hb (hTold b (hlt0 b hb) h),⟨(hg1.cell hs.xc.2.2).trans hs.xc.1,λh=>hs.xc.2.1 (hTold _ hs.xc.2.2 h),by have:=hs.xc.2.2;omega⟩,⟨λi hi=>⟨(hg1.cell (p:=⟨br,i,none⟩) hs.xr.2.2).trans (hs.xr.1 i hi).1,(hg1.frozen (p:=⟨br,i,none⟩) hs.xr.2.2).trans (hs.xr.1 i hi).2⟩,λh=>hs.xr.2.1 (hTold _ hs.xr.2.2 h),by have:=hs.xr.2.2;omega⟩,
    ⟨(hg1.cell hs.xn.2).trans hs.xn.1,by have:=hs.xn.2;omega⟩,hs.ne,hs.rs⟩
  have lowT:∀ {W:World},KT (λb=>T b\/b=br) W1 W->KT (λb=>T0 b\/b=br) w W:=λhk =>
   KT.low (T:=λb=>T b\/b=br) ((um hg1).trans hk) λb hb h=>h.elim (λh=>.inl (hTold b hb h)) .inr
  have hbrlt:=hs.xr.2.2
  have hput:∀(W:World) (o:Obj),KT T W (W.putObj (w.heap.size+1) o):=λW o=>KT.putObj W hTl o
  have hq:=qT (T:=T) (l:=w.heap.size+1) (W0:=W1)
   (J:=λpre W=>I pre W/\W.heap[w.heap.size+1]?=some (.loop (rec .ready none))/\W.heap[w.heap.size]?=some (.deferred (some [])))
   (Jx:=λpre W=>∃j,Ix j pre W/\W.heap[w.heap.size+1]?=some (.loop (rec .done (some j)))/\W.heap[w.heap.size]?=some (.deferred (some [])))
   hok hsets hsl (λpre W W' h hk=>⟨hI _ _ _ h.1 λb hb=>hk b (hTin b hb),(hk _ hTl).trans h.2.1,(hk _ hTD).trans h.2.2⟩)
   (λpre W h b hb=>by
    have h1:=(Array.getElem?_eq_some_iff.1 h.2.1).1
    rw[hT] at hb
    rcases hb with hb|hb|hb
    ·have:=hT0 b hb;omega
    ·omega
    ·omega)
   ?_ hn hs1 (KT.refl _ _) ⟨hI1,hL1,hK1⟩ hz
  ·refine hq.mono ?_
   rintro e W2 ⟨rfl,hk2,(⟨hi,hl,hd⟩|⟨q,hpre,j,hi,hl,hd⟩)⟩
   ·refine⟨none,_,by have:=run_endLoop (P:=uZ) hl (by rw[hrec];simp);rw[hrec] at this;exact this,hdone _ _ (Nat.le_refl _) (lowT (hk2.trans ((hput _ _).mono λb h=>.inl h))) (hI _ _ _ hi λb hb=>World.putObj_heap_other (by have:=hT0 b hb;omega)) ((World.putObj_heap_other (by omega)).trans hd)⟩
   ·exact⟨some j,_,by have:=run_endLoop (P:=uZ) hl (by rw[hrec];simp);rw[hrec] at this;exact this,hstop _ j q _ (Nat.le_refl _) (lowT (hk2.trans ((hput _ _).mono λb h=>.inl h))) hpre (hIx _ _ _ _ hi λb hb=>World.putObj_heap_other (by have:=hT0 b hb;omega)) ((World.putObj_heap_other (by omega)).trans hd)⟩
  ·rintro pre ρ W hpl hkW ⟨hi,hl,hd⟩
   have hlt:w.heap.size+1<W.heap.size:=(Array.getElem?_eq_some_iff.1 hl).1
   have hy:=run_yield (P:=uZ) (args:=#[rosV ρ]) hl (by rw[hrec];simp[hps])
   rw[hrec] at hy
   refine⟨fn,_,assign,body,hy,roundIn_of_wpIn hfn (hassign _ ρ W _ ⟨_,run_beginRound hl (by rw[hrec]),?_⟩)⟩
   obtain⟨Wb,hWb⟩:∃Wb,Wb=W.putObj (w.heap.size+1) (.loop { rec .ready none with state:=.busy }):=⟨_,rfl⟩
   rw[<-hWb]
   have kb:KT T W Wb:=by rw[hWb];exact hput _ _
   have hl2:Wb.heap[w.heap.size+1]?=some (.loop { rec .ready none with state:=.busy }):=by rw[hWb];exact World.putObj_heap_same hlt
   have hd2:Wb.heap[w.heap.size]?=some (.deferred (some [])):=by rw[hWb];exact(World.putObj_heap_other (by omega)).trans hd
   have hi2:I pre Wb:=hI _ _ _ hi λb hb=>by rw[hWb];exact World.putObj_heap_other (by have:=hT0 b hb;omega)
   have hzb:Wb.heap.size=W.heap.size:=by rw[hWb];simp[World.putObj]
   refine wpIn_mono (hbody _ pre ρ Wb hpl (lowT (hkW.trans (kb.mono λb h=>.inl h))) hi2) ?_
   have fin : ∀ (jump : Option Code) (W3 : World), KT T0 Wb W3 ->
     (Instr.endRound (w.heap.size+1) jump).run uZ W3=.ok (.bool jump.isNone) (W3.putObj (w.heap.size+1) (.loop (rec (if jump.isNone then .ready else .done) jump))) /\
     (W3.putObj (w.heap.size+1) (.loop (rec (if jump.isNone then .ready else .done) jump))).heap[w.heap.size+1]?=some (.loop (rec (if jump.isNone then .ready else .done) jump)) /\
     (W3.putObj (w.heap.size+1) (.loop (rec (if jump.isNone then .ready else .done) jump))).heap[w.heap.size]?=some (.deferred (some []))/\KT T W (W3.putObj (w.heap.size+1) (.loop (rec (if jump.isNone then .ready else .done) jump))) /\
     ∀b,T0 b->(W3.putObj (w.heap.size+1) (.loop (rec (if jump.isNone then .ready else .done) jump))).heap[b]?=W3.heap[b]?:=λjump W3 hk3=>by
    have hl3:W3.heap[w.heap.size+1]?=some (.loop { rec .ready none with state:=.busy }):=(hk3.block _ (by omega) λh=>by have:=hT0 _ h;omega).trans hl2
    have hd3:W3.heap[w.heap.size]?=some (.deferred (some [])):=(hk3.block _ (by omega) λh=>by have:=hT0 _ h;omega).trans hd2
    have:=run_endRound (P:=uZ) jump hl3
    rw[hrec] at this ⊢
    exact⟨this,World.putObj_heap_same (Array.getElem?_eq_some_iff.1 hl3).1,(World.putObj_heap_other (by omega)).trans hd3,(kb.trans (hk3.mono hTin)).trans (KT.putObj W3 hTl _),λb hb=>World.putObj_heap_other (by have:=hT0 b hb;omega)⟩
   rintro e a3 W3 hp
   cases e with
   |normal =>
    obtain⟨hk3,hi3⟩:=hp
    obtain⟨hr,hl4,hd4,hk4,hb4⟩:=fin none W3 hk3
    exact⟨_,_,hr,.inl ⟨rfl,⟨hI _ _ _ hi3 hb4,hl4,hd4⟩,hk4⟩⟩
   |ret =>
    obtain⟨hk3,hi3⟩:=hp
    obtain⟨hr,hl4,hd4,hk4,hb4⟩:=fin (some .ret) W3 hk3
    exact⟨_,_,hr,.inr ⟨rfl,⟨.ret,hIx _ _ _ _ hi3 hb4,hl4,hd4⟩,hk4⟩⟩
   |exit id =>
    obtain⟨hk3,hi3⟩:=hp
    obtain⟨hr,hl4,hd4,hk4,hb4⟩:=fin (some (.exit id)) W3 hk3
    exact⟨_,_,hr,.inr ⟨rfl,⟨.exit id,hIx _ _ _ _ hi3 hb4,hl4,hd4⟩,hk4⟩⟩
   |goto t =>
    obtain⟨hk3,hi3⟩:=hp
    obtain⟨hr,hl4,hd4,hk4,hb4⟩:=fin (some (.goto t)) W3 hk3
    exact⟨_,_,hr,.inr ⟨rfl,⟨.goto t,hIx _ _ _ _ hi3 hb4,hl4,hd4⟩,hk4⟩⟩
   |panic ch=>exact hp.elim
   |outgrown=>exact hp.elim
def mA {T0 K:Nat->Prop}{cb:Nat}{c:Camp}{sets:List Nat}{nA hA:Option Addr}{nc hc sb sc bc br bn k n:Nat}{r:Ros}{g:Operand}{p:Tmp}{body:Code}{Q:Exit->Act->World->Prop}{a:Act}{w:World}
  (hok:c.Ok) (hsets:∀x∈sets,c.has x) (hsl:sets.length<=16) (hg:a.eval g=.func (.func 80) #[] #[.pointer (some ⟨bc,0,none⟩),.pointer (some ⟨br,0,none⟩),.pointer (some ⟨bn,0,none⟩)])
  (hn:n+k=c.needs.length) (hz:∀i,n<=i->r i=0) (hs:Seq0 T0 K cb c sets nA hA nc hc sb sc bc br bn r n w) (hT0:∀b,T0 b->b<w.heap.size)
  (I:List Ros->World->Prop) (Ix:Code->List Ros->World->Prop) (hI:∀pre W W',I pre W->(∀b,T0 b->W'.heap[b]?=W.heap[b]?)->I pre W') (hIx:∀c pre W W',Ix c pre W->(∀b,T0 b->W'.heap[b]?=W.heap[b]?)->Ix c pre W') (h0:I [] w)
  (hbody:∀(l:Nat) (pre:List Ros) (ρ:Ros) (W:World),KT (λb=>T0 b\/b=br) w W->I pre W->body.wpIn (Fence.wide.inRound l) 0 uZ (rPost T0 I Ix (pre++[ρ]) W) { tmps:=a.tmps.setIfInBounds p (rosV ρ),defers:=[] } W)
  (hdone:∀(D:Nat) (W:World),w.heap.size<=D->KT (λb=>T0 b\/b=br) w W->I (walkL c sets k r n) W->W.heap[D]?=some (.deferred (some []))->Q .normal { a with defers:={ target:=.collected D,args:=#[] }::a.defers } W)
  (hstop:∀(D:Nat) (j:Code) (q:List Ros) (W:World),w.heap.size<=D->KT (λb=>T0 b\/b=br) w W->q <+: walkL c sets k r n->Ix j q W->W.heap[D]?=some (.deferred (some []))->j.wpIn Fence.wide 0 uZ Q { a with defers:={ target:=.collected D,args:=#[] }::a.defers } W) :
  (Code.rangeFunc g #[p] .skip body).wpIn Fence.wide 0 uZ Q a w:=by
 exact oe (ps:=#[p]) (assign:=.skip) hok hsets hsl hg hn hz hs hT0 rfl I Ix hI hIx h0 (λρ=>{ tmps:=a.tmps.setIfInBounds p (rosV ρ),defers:=[] }) (λl ρ W K hK=>wpIn_skip (by show K _ W;simpa using hK)) (λl pre ρ W _=>hbody l pre ρ W) hdone hstop
open Go.RowKit Go.Sq Go.Shelf
def jq {T0 K:Nat->Prop}{cb:Nat}{c:Camp}{sets:List Nat}{nA hA:Option Addr}{nc hc sb sc bc br bn k n:Nat}{r:Ros}{g:Operand}{ps:Array Tmp}{assign body:Code}{Q:Exit->Act->World->Prop}{a:Act}{w:World}
  (hok:c.Ok) (hsets:∀x∈sets,c.has x) (hsl:sets.length<=16) (hg:a.eval g=.func (.func 80) #[] #[.pointer (some ⟨bc,0,none⟩),.pointer (some ⟨br,0,none⟩),.pointer (some ⟨bn,0,none⟩)])
  (hn:n+k=c.needs.length) (hz:∀i,n<=i->r i=0) (hs:Seq0 T0 K cb c sets nA hA nc hc sb sc bc br bn r n w) (hT0:∀b,T0 b->b<w.heap.size) (hps:ps.size=1)
  (I:List Ros->World->Prop) (Ix:Code->List Ros->World->Prop) (hI:∀pre W W',I pre W->(∀b,T0 b->W'.heap[b]?=W.heap[b]?)->I pre W') (hIx:∀c pre W W',Ix c pre W->(∀b,T0 b->W'.heap[b]?=W.heap[b]?)->Ix c pre W') (h0:I [] w)
  (hround:∀(l:Nat) (pre:List Ros) (ρ:Ros) (W:World),pre++[ρ] <+: walkL c sets k r n->KT (λb=>T0 b\/b=br) w W->I pre W->w.heap.size<l->l<W.heap.size ->
   assign.wpIn (Fence.wide.inRound l) 0 uZ (Exit.then (λa₁ w₁=>KT T0 W w₁/\∀o,body.wpIn (Fence.wide.inRound l) 0 uZ (rPost T0 I Ix (pre++[ρ]) (w₁.putObj l o)) a₁ (w₁.putObj l o)) (λ_ _ _=>False)) { tmps:=(ps.zip #[rosV ρ]).foldl (λt (p,v)=>t.setIfInBounds p v) a.tmps,defers:=[] } W)
  (hdone:∀(D:Nat) (W:World),w.heap.size<=D->KT (λb=>T0 b\/b=br) w W->I (walkL c sets k r n) W->W.heap[D]?=some (.deferred (some []))->Q .normal { a with defers:={ target:=.collected D,args:=#[] }::a.defers } W)
  (hstop:∀(D:Nat) (j:Code) (q:List Ros) (W:World),w.heap.size<=D->KT (λb=>T0 b\/b=br) w W->q <+: walkL c sets k r n->Ix j q W->W.heap[D]?=some (.deferred (some []))->j.wpIn Fence.wide 0 uZ Q { a with defers:={ target:=.collected D,args:=#[] }::a.defers } W) :
  (Code.rangeFunc g ps assign body).wpIn Fence.wide 0 uZ Q a w:=by
 refine wpIn_rangeFunc ?_
 intro fn hfn
 have hlt0:∀b,K b->b<w.heap.size:=hs.camp.lt
 obtain⟨rec,hrec⟩:∃rec:LoopState->Option Code->Loop,rec=λst pe=>{ state:=st,pending:=pe,fn,tmps:=a.tmps,params:=ps,assign,body,defers:=w.heap.size }:=⟨_,rfl⟩
 obtain⟨W1,hW1⟩:∃W1,(w.alloc (.deferred (some []))).alloc (.loop (rec .ready none))=W1:=⟨_,rfl⟩
 have hL1:W1.heap[w.heap.size+1]?=some (.loop (rec .ready none)):=by
  rw[<-hW1];have:=World.alloc_heap_new (w.alloc (.deferred (some []))) (.loop (rec .ready none));rwa [World.size_alloc] at this
 have hK1:W1.heap[w.heap.size]?=some (.deferred (some [])):=by
  rw[<-hW1];exact(Below.heap_alloc _ _ _ (by simp)).trans (World.alloc_heap_new w _)
 have hg1:Gr w W1:=by rw[<-hW1];exact((Gr.refl w).alloc _).alloc _
 have hI1:I [] W1:=hI _ _ _ h0 λb hb=>hg1.below.block b (hT0 b hb)
 have hz1:W1.heap.size=w.heap.size+2:=by rw[<-hW1];simp
 refine⟨w.heap.size+1,[{ target:=.collected w.heap.size,args:=#[] }],W1,{ target:=.fn (.func 80) #[.pointer (some ⟨bc,0,none⟩),.pointer (some ⟨br,0,none⟩),.pointer (some ⟨bn,0,none⟩)],args:=#[.func (.yield (w.heap.size+1)) #[] #[]] },W1,80,
  #[.func (.yield (w.heap.size+1)) #[] #[]]++#[.pointer (some ⟨bc,0,none⟩),.pointer (some ⟨br,0,none⟩),.pointer (some ⟨bn,0,none⟩)],W1,?_,?_,?_,?_,λh=>(by cases h),?_⟩
 ·rw[<-hW1,hrec];exact run_enterLoop_outer _ _ _ _ _
 ·simp only[resolve,hg]
  simp[go_sem]
 ·intro f' _;trivial
 ·simp[invoke,go_sem]
 ·obtain⟨T,hT⟩:∃T:Nat->Prop,T=λb=>T0 b\/b=w.heap.size\/b=w.heap.size+1:=⟨_,rfl⟩
  have hTin:∀b,T0 b->T b:=λb hb=>by rw[hT];exact .inl hb
  have hTD:T w.heap.size:=by rw[hT];exact .inr (.inl rfl)
  have hTl:T (w.heap.size+1):=by rw[hT];exact .inr (.inr rfl)
  have hTold:∀b,b<w.heap.size->T b->T0 b:=λb hb h=>by
   rw[hT] at h
   rcases h with h|h|h
   ·exact h
   ·omega
   ·omega
  have k1:KT T0 w W1:=um hg1
  have hs1:Seq0 T K cb c sets nA hA nc hc sb sc bc br bn r n W1:=by
   refine⟨hs.camp.keep hg1.size λb o hb=>hg1.cell (hlt0 b hb),λb hb h=>hs.kt b hb (hTold b (hlt0 b hb) h),⟨(hg1.cell hs.xc.2.2).trans hs.xc.1,λh=>hs.xc.2.1 (hTold _ hs.xc.2.2 h),by have:=hs.xc.2.2;omega⟩,⟨λi hi=>⟨(hg1.cell (p:=⟨br,i,none⟩) hs.xr.2.2).trans (hs.xr.1 i hi).1,(hg1.frozen (p:=⟨br,i,none⟩) hs.xr.2.2).trans (hs.xr.1 i hi).2⟩,λh=>hs.xr.2.1 (hTold _ hs.xr.2.2 h),by have:=hs.xr.2.2;omega⟩,
    ⟨(hg1.cell hs.xn.2).trans hs.xn.1,by have:=hs.xn.2;omega⟩,hs.ne,hs.rs⟩
  have lowT:∀ {W:World},KT (λb=>T b\/b=br) W1 W->KT (λb=>T0 b\/b=br) w W:=λhk =>
   KT.low (T:=λb=>T b\/b=br) ((um hg1).trans hk) λb hb h=>h.elim (λh=>.inl (hTold b hb h)) .inr
  have hbrlt:=hs.xr.2.2
  have hput:∀(W:World) (o:Obj),KT T W (W.putObj (w.heap.size+1) o):=λW o=>KT.putObj W hTl o
  have hq:=qT (T:=T) (l:=w.heap.size+1) (W0:=W1)
   (J:=λpre W=>I pre W/\W.heap[w.heap.size+1]?=some (.loop (rec .ready none))/\W.heap[w.heap.size]?=some (.deferred (some [])))
   (Jx:=λpre W=>∃j,Ix j pre W/\W.heap[w.heap.size+1]?=some (.loop (rec .done (some j)))/\W.heap[w.heap.size]?=some (.deferred (some [])))
   hok hsets hsl (λpre W W' h hk=>⟨hI _ _ _ h.1 λb hb=>hk b (hTin b hb),(hk _ hTl).trans h.2.1,(hk _ hTD).trans h.2.2⟩)
   (λpre W h b hb=>by
    have h1:=(Array.getElem?_eq_some_iff.1 h.2.1).1
    rw[hT] at hb
    rcases hb with hb|hb|hb
    ·have:=hT0 b hb;omega
    ·omega
    ·omega)
   ?_ hn hs1 (KT.refl _ _) ⟨hI1,hL1,hK1⟩ hz
  ·refine hq.mono ?_
   rintro e W2 ⟨rfl,hk2,(⟨hi,hl,hd⟩|⟨q,hpre,j,hi,hl,hd⟩)⟩
   ·refine⟨none,_,by have:=run_endLoop (P:=uZ) hl (by rw[hrec];simp);rw[hrec] at this;exact this,hdone _ _ (Nat.le_refl _) (lowT (hk2.trans ((hput _ _).mono λb h=>.inl h))) (hI _ _ _ hi λb hb=>World.putObj_heap_other (by have:=hT0 b hb;omega)) ((World.putObj_heap_other (by omega)).trans hd)⟩
   ·exact⟨some j,_,by have:=run_endLoop (P:=uZ) hl (by rw[hrec];simp);rw[hrec] at this;exact this,hstop _ j q _ (Nat.le_refl _) (lowT (hk2.trans ((hput _ _).mono λb h=>.inl h))) hpre (hIx _ _ _ _ hi λb hb=>World.putObj_heap_other (by have:=hT0 b hb;omega)) ((World.putObj_heap_other (by omega)).trans hd)⟩
  ·rintro pre ρ W hpl hkW ⟨hi,hl,hd⟩
   have hlt:w.heap.size+1<W.heap.size:=(Array.getElem?_eq_some_iff.1 hl).1
   have hy:=run_yield (P:=uZ) (args:=#[rosV ρ]) hl (by rw[hrec];simp[hps])
   rw[hrec] at hy
   refine⟨fn,_,assign,body,hy,roundIn_of_wpIn hfn (wpIn_mono (hround (w.heap.size+1) pre ρ W hpl (lowT hkW) hi (by omega) hlt) ?_)⟩
   rintro e1 a1 w1 hp1
   cases e1 with
   |panic ch=>exact hp1.elim
   |outgrown=>exact hp1.elim
   |ret=>exact hp1.elim
   |exit id=>exact hp1.elim
   |goto t=>exact hp1.elim
   |normal =>
   obtain⟨kw1,hb1⟩:=hp1
   have hl1:w1.heap[w.heap.size+1]?=some (.loop (rec .ready none)):=(kw1.block _ hlt λh=>by have:=hT0 _ h;omega).trans hl
   have hd1:w1.heap[w.heap.size]?=some (.deferred (some [])):=(kw1.block _ (by omega) λh=>by have:=hT0 _ h;omega).trans hd
   have hlt1:w.heap.size+1<w1.heap.size:=(Array.getElem?_eq_some_iff.1 hl1).1
   refine⟨_,run_beginRound hl1 (by rw[hrec]),?_⟩
   obtain⟨Wb,hWb⟩:∃Wb,Wb=w1.putObj (w.heap.size+1) (.loop { rec .ready none with state:=.busy }):=⟨_,rfl⟩
   have hbb:=hb1 (.loop { rec .ready none with state:=.busy })
   rw[<-hWb] at hbb ⊢
   have kb:KT T W Wb:=(kw1.mono hTin).trans (by rw[hWb];exact hput _ _)
   have hl2:Wb.heap[w.heap.size+1]?=some (.loop { rec .ready none with state:=.busy }):=by rw[hWb];exact World.putObj_heap_same hlt1
   have hd2:Wb.heap[w.heap.size]?=some (.deferred (some [])):=by rw[hWb];exact(World.putObj_heap_other (by omega)).trans hd1
   have hzb:Wb.heap.size=w1.heap.size:=by rw[hWb];simp[World.putObj]
   refine wpIn_mono hbb ?_
   have fin : ∀ (jump : Option Code) (W3 : World), KT T0 Wb W3 ->
     (Instr.endRound (w.heap.size+1) jump).run uZ W3=.ok (.bool jump.isNone) (W3.putObj (w.heap.size+1) (.loop (rec (if jump.isNone then .ready else .done) jump))) /\
     (W3.putObj (w.heap.size+1) (.loop (rec (if jump.isNone then .ready else .done) jump))).heap[w.heap.size+1]?=some (.loop (rec (if jump.isNone then .ready else .done) jump)) /\
     (W3.putObj (w.heap.size+1) (.loop (rec (if jump.isNone then .ready else .done) jump))).heap[w.heap.size]?=some (.deferred (some []))/\KT T W (W3.putObj (w.heap.size+1) (.loop (rec (if jump.isNone then .ready else .done) jump))) /\
     ∀b,T0 b->(W3.putObj (w.heap.size+1) (.loop (rec (if jump.isNone then .ready else .done) jump))).heap[b]?=W3.heap[b]?:=λjump W3 hk3=>by
    have hl3:W3.heap[w.heap.size+1]?=some (.loop { rec .ready none with state:=.busy }):=(hk3.block _ (by omega) λh=>by have:=hT0 _ h;omega).trans hl2
    have hd3:W3.heap[w.heap.size]?=some (.deferred (some [])):=(hk3.block _ (by omega) λh=>by have:=hT0 _ h;omega).trans hd2
    have:=run_endRound (P:=uZ) jump hl3
    rw[hrec] at this ⊢
    exact⟨this,World.putObj_heap_same (Array.getElem?_eq_some_iff.1 hl3).1,(World.putObj_heap_other (by omega)).trans hd3,(kb.trans (hk3.mono hTin)).trans (KT.putObj W3 hTl _),λb hb=>World.putObj_heap_other (by have:=hT0 b hb;omega)⟩
   rintro e a3 W3 hp
   cases e with
   |normal =>
    obtain⟨hk3,hi3⟩:=hp
    obtain⟨hr,hl4,hd4,hk4,hb4⟩:=fin none W3 hk3
    exact⟨_,_,hr,.inl ⟨rfl,⟨hI _ _ _ hi3 hb4,hl4,hd4⟩,hk4⟩⟩
   |ret =>
    obtain⟨hk3,hi3⟩:=hp
    obtain⟨hr,hl4,hd4,hk4,hb4⟩:=fin (some .ret) W3 hk3
    exact⟨_,_,hr,.inr ⟨rfl,⟨.ret,hIx _ _ _ _ hi3 hb4,hl4,hd4⟩,hk4⟩⟩
   |exit id =>
    obtain⟨hk3,hi3⟩:=hp
    obtain⟨hr,hl4,hd4,hk4,hb4⟩:=fin (some (.exit id)) W3 hk3
    exact⟨_,_,hr,.inr ⟨rfl,⟨.exit id,hIx _ _ _ _ hi3 hb4,hl4,hd4⟩,hk4⟩⟩
   |goto t =>
    obtain⟨hk3,hi3⟩:=hp
    obtain⟨hr,hl4,hd4,hk4,hb4⟩:=fin (some (.goto t)) W3 hk3
    exact⟨_,_,hr,.inr ⟨rfl,⟨.goto t,hIx _ _ _ _ hi3 hb4,hl4,hd4⟩,hk4⟩⟩
   |panic ch=>exact hp.elim
   |outgrown=>exact hp.elim
open Go.RowKit
def uy (a:Addr)(w:World)(hc:w.cell? a=some (.int .i32 0))(hz:w.frozen? a=false) :
  Calls uZ 73 #[.pointer (some a)] w λe w'=>e=.returned (.tuple #[])/\w'=w.setCell a (.int .i32 1):=by
 have hcas:=run_call_cas_hit (P:=uZ) Sq.func126 (by kernel_rfl) (by kernel_rfl) (by kernel_rfl) .i32 (by kernel_rfl) (x:=0) (y:=1) hc hz
 go_enter Sq.func73,uG
 simp only[casBody]
 go_wp2
 refine bodyPost_ret (results_none rfl _ _ _) rfl ?_
 exact⟨rfl,rfl⟩
def ux (a:Addr)(u:FrameMode)(w:World)(hc:w.cell? a=some (.int .i32 1))(hz:w.frozen? a=false) :
  CallsD uZ 74 #[.pointer (some a)] u w λe u' w'=>u'=u/\(e=.returned (.tuple #[])/\w'=w.setCell a (.int .i32 0)):=by
 have hcas:=run_call_cas_hit (P:=uZ) Sq.func126 (by kernel_rfl) (by kernel_rfl) (by kernel_rfl) .i32 (by kernel_rfl) (x:=1) (y:=0) hc hz
 go_enter_d Sq.func74,uE
 simp only[casBody]
 go_wp2
 refine bodyPost_ret (results_none rfl _ _ _) rfl ?_
 exact⟨rfl,rfl⟩
open Go.RowKit Go.Sq Go.Shelf
def rf (nb:Nat)(x y s:Int)(w:World)(hc:w.heap[nb]?=some (.cells #[.int .i64 x] 100 (0,0)))(hs:IntKind.i64.wrap (x+y)=s) :
  Calls uZ 41 #[.pointer (some ⟨nb,0,none⟩),.int .i64 y] w λe w'=>e=.returned (.int .i64 s)/\w'=w.setCell ⟨nb,0,none⟩ (.int .i64 s):=by
 obtain⟨h1,h2,h3⟩:=one_cell hc
 have hadd:=run_call_add (P:=uZ) Sq.func71 (by kernel_rfl) (by kernel_rfl) (by kernel_rfl) .i64 (by kernel_rfl) (y:=y) (s:=s) h1 h2 (by simp[go_sem];exact hs)
 go_enter Sq.func41,Tryz.ntmps41
 go_wp2
 go_ret
 exact⟨rfl,rfl⟩
def pL (nb:Nat)(x:Int)(w:World)(hc:w.heap[nb]?=some (.cells #[.int .i64 x] 100 (0,0))) :
  Calls uZ 42 #[.pointer (some ⟨nb,0,none⟩)] w λe w'=>e=.returned (.int .i64 x)/\w'=w:=by
 obtain⟨h1,h2,h3⟩:=one_cell hc
 have hload:=run_call_load (P:=uZ) Sq.func72 (by kernel_rfl) (by kernel_rfl) (by kernel_rfl) .i64 (by kernel_rfl) h1
 go_enter Sq.func42,Tryz.ntmps42
 go_wp2
 go_ret
 exact⟨rfl,rfl⟩
def pM (nb:Nat)(x s:Int)(ρ:Ros)(w:World)(hc:w.heap[nb]?=some (.cells #[.int .i64 x] 100 (0,0)))(hs:IntKind.i64.wrap (x+1)=s) :
  Calls uZ 40 #[rosV ρ,.pointer (some ⟨nb,0,none⟩)] w λe w'=>e=.returned (.tuple #[])/\KT (·=nb) w w'/\w'.heap[nb]?=some (.cells #[.int .i64 s] 100 (0,0)):=by
 have hlt:=(one_cell hc).2.2
 obtain⟨W,hW⟩:∃W,W=w.alloc (.cells #[.int .u8 (ρ 0),.int .u8 (ρ 1),.int .u8 (ρ 2),.int .u8 (ρ 3),.int .u8 (ρ 4)] 60):=⟨_,rfl⟩
 have hc2:W.heap[nb]?=some (.cells #[.int .i64 x] 100 (0,0)):=by rw[hW,heap_alloc_old _ _ hlt];exact hc
 have HK:=ui (show KT (·=nb) w W by rw[hW];exact um ((Gr.refl w).alloc _))
 have HADD:=ui (rf nb x 1 s W hc2 hs)
 have HW:=ui hW
 have HC2:=ui hc2
 clear hW hc hc2
 unfold rosV
 go_enter Sq.func40,Tryz.ntmps40
 go_wp2_with fail
 rw[<-HW.out]
 refine HADD.out.mono ?_
 rintro e w' ⟨rfl,hw'⟩
 have HW':=ui hw'
 clear hw'
 go_wp2
 go_end0
 refine⟨rfl,HK.out.trans (by rw[HW'.out];exact KT.setCell (T:=(·=nb)) W (p:=⟨nb,0,none⟩) rfl _),?_⟩
 rw[HW'.out]
 exact one_set HC2.out
def bK {W:World}{b i:Nat}{a:Array Value}{u:Value}{t:TypeId}{f:Nat×Nat}(h:W.heap[b]?=some (.cells a t f)):(W.setCell ⟨b,i,none⟩ u).heap[b]?=some (.cells (a.setIfInBounds i u) t f):=by
 unfold World.setCell
 simp only[Array.getElem?_modify,if_true,h]
 rfl
def cells_at {W:World}{b:Nat}{a:Array Value}{t:TypeId}(h:W.heap[b]?=some (.cells a t (0,0))):(∀i:Nat,W.cell? ⟨b,i,none⟩=a[i]?)/\(∀i,W.frozen? ⟨b,i,none⟩=false)/\b<W.heap.size:=by
 refine⟨λi=>?_,λi=>?_,(Array.getElem?_eq_some_iff.1 h).1⟩
 ·unfold World.cell?;simp only[h];rfl
 ·unfold World.frozen?;simp[h]
def keepO (m:Int)(r:Ros)(b:Bool):Array Value:=#[.int .i32 m,.int .u32 0,.int .u8 (r 0),.int .u8 (r 1),.int .u8 (r 2),.int .u8 (r 3),.int .u8 (r 4),.bool b]
def pN (kb:Nat)(ρ:Ros)(f:Value)(w:World)(hk:w.heap[kb]?=some (.cells (keepO 0 (λ_=>0) false) 115 (0,0))) :
  Calls uZ 49 #[.pointer (some ⟨kb,0,none⟩),rosV ρ,f] w λe w'=>e=.returned (.tuple #[])/\KT (·=kb) w w'/\w'.heap[kb]?=some (.cells (keepO 0 ρ true) 115 (0,0)):=by
 obtain⟨W,hW⟩:∃W,W=w.alloc (.cells #[.int .u8 (ρ 0),.int .u8 (ρ 1),.int .u8 (ρ 2),.int .u8 (ρ 3),.int .u8 (ρ 4)] 60):=⟨_,rfl⟩
 have hlt:=(Array.getElem?_eq_some_iff.1 hk).1
 have hk2:W.heap[kb]?=some (.cells (keepO 0 (λ_=>0) false) 115 (0,0)):=by rw[hW,heap_alloc_old _ _ hlt];exact hk
 obtain⟨hc,hf,_⟩:=cells_at hk2
 have h0:=hc 0
 have f0:=hf 0
 have hk3:=bK (i:=0) (u:=.int .i32 1) hk2
 have HK:=ui (show KT (·=kb) w W by rw[hW];exact um ((Gr.refl w).alloc _))
 obtain⟨hc3,hf3,_⟩:=cells_at hk3
 have g0:=hc3 0
 have g2:=hc3 2
 have g3:=hc3 3
 have g4:=hc3 4
 have g5:=hc3 5
 have g6:=hc3 6
 have g7:=hc3 7
 have e0:=hf3 0
 have e2:=hf3 2
 have e3:=hf3 3
 have e4:=hf3 4
 have e5:=hf3 5
 have e6:=hf3 6
 have e7:=hf3 7
 simp[keepO] at h0 g0 g2 g3 g4 g5 g6 g7
 have hb:∀i,i<5->(W.setCell ⟨kb,0,none⟩ (.int .i32 1)).cell? ⟨w.heap.size,i,none⟩=some (.int .u8 (ρ i)):=λi hi=>by
  rw[World.cell?_setCell_other _ _ _ _ (λe=>by have:kb=w.heap.size:=congrArg Addr.block e;omega),hW,World.cell?_alloc_at _ _ _ _ rfl]
  match i,hi with
  |0,_=>rfl
  |1,_=>rfl
  |2,_=>rfl
  |3,_=>rfl
  |4,_=>rfl
 have b0:=hb 0 (by omega)
 have b1:=hb 1 (by omega)
 have b2:=hb 2 (by omega)
 have b3:=hb 3 (by omega)
 have b4:=hb 4 (by omega)
 have HW:=ui hW
 have HK2:=ui hk2
 have HK3:=ui hk3
 clear hc hf hc3 hf3 hk3 hk2 hk hW hb
 unfold rosV
 go_enter_defers Sq.func49,Tryz.ntmps49
 go_wp2_with (go_at_call 73;rw[<-HW.out];refine(uy ⟨kb,0,none⟩ _ h0 f0).mono ?_;rintro e w' ⟨rfl,rfl⟩)
 go_quiet (fail)
 go_wp2
 have HS:=ui (bK (i:=7) (u:=.bool true) (bK (i:=6) (u:=.int .u8 (ρ 4)) (bK (i:=5) (u:=.int .u8 (ρ 3)) (bK (i:=4) (u:=.int .u8 (ρ 2)) (bK (i:=3) (u:=.int .u8 (ρ 1)) (bK (i:=2) (u:=.int .u8 (ρ 0)) (show((W.setCell ⟨kb,0,none⟩ (.int .i32 1)).drewN nq).heap[kb]?=_ from HK3.out)))))))
 refine leaves_cons (f:=74) (args:=#[.pointer (some ⟨kb,0,none⟩)]) (by simp) (by simp[go_sem]) ?_
 obtain⟨hc4,hf4,_⟩:=cells_at HS.out
 refine(ux ⟨kb,0,none⟩ .returning _ (by rw[hc4 0];rfl) (hf4 0)).mono ?_
 rintro e u' w'' ⟨rfl,rfl,rfl⟩
 have k:∀(w:World) (i:Nat) (v:Value),KT (·=kb) w (w.setCell ⟨kb,i,none⟩ v):=λw i v=>KT.setCell (T:=(·=kb)) w (p:=⟨kb,i,none⟩) rfl v
 refine⟨.tuple #[],results_none rfl _ _ _,rfl,HK.out.trans ((k _ 0 _).trans ((um ((Gr.refl _).drewN nq)).trans ((k _ 2 _).trans ((k _ 3 _).trans ((k _ 4 _).trans ((k _ 5 _).trans ((k _ 6 _).trans ((k _ 7 _).trans (k _ 0 _))))))))),?_⟩
 exact bK (i:=0) (u:=.int .i32 0) HS.out
def rg (kb xb:Nat)(ρ:Ros)(f:Value)(w:World)(hx:w.cell? ⟨xb,0,none⟩=some f)(hxl:xb<w.heap.size)(hk:w.heap[kb]?=some (.cells (keepO 0 (λ_=>0) false) 115 (0,0))) :
  Calls uZ 48 #[rosV ρ,.pointer (some ⟨kb,0,none⟩),.pointer (some ⟨xb,0,none⟩)] w λe w'=>e=.returned (.tuple #[])/\KT (·=kb) w w'/\w'.heap[kb]?=some (.cells (keepO 0 ρ true) 115 (0,0)):=by
 obtain⟨W,hW⟩:∃W,W=w.alloc (.cells #[.int .u8 (ρ 0),.int .u8 (ρ 1),.int .u8 (ρ 2),.int .u8 (ρ 3),.int .u8 (ρ 4)] 60):=⟨_,rfl⟩
 have hlt:=(Array.getElem?_eq_some_iff.1 hk).1
 have HO:=ui (pN kb ρ f W (by rw[hW,heap_alloc_old _ _ hlt];exact hk))
 have HK:=ui (show KT (·=kb) w W by rw[hW];exact um ((Gr.refl w).alloc _))
 have HW:=ui hW
 clear hk hW
 unfold rosV at HO ⊢
 go_enter Sq.func48,Tryz.ntmps48
 go_wp2_with fail
 rw[<-HW.out]
 refine HO.out.mono ?_
 rintro e w' ⟨rfl,hk1,hk2⟩
 have HK1:=ui (HK.out.trans hk1)
 have HK2:=ui hk2
 clear hk1 hk2 HO
 go_wp2
 go_end0
 exact⟨rfl,HK1.out,HK2.out⟩
open Go.RowKit Go.Sq Go.Shelf
def i7 {T0 K:Nat->Prop}{cb:Nat}{c:Camp}{sets:List Nat}{nA hA:Option Addr}{nc hc sb sc n:Nat}{r:Ros}{w:World}(hC:CampK w K cb c sets nA hA nc hc sb sc)(hT:∀b,T0 b->b<w.heap.size)(hK:∀b,K b->¬T0 b)(hr:∀i,c.has (r i)) :
  Seq0 T0 K cb c sets nA hA nc hc sb sc w.heap.size (w.heap.size+1) (w.heap.size+2) r n
   (((w.alloc (.cells #[.pointer (some ⟨cb,0,none⟩)] 57)).alloc (.cells #[.int .u8 (r 0),.int .u8 (r 1),.int .u8 (r 2),.int .u8 (r 3),.int .u8 (r 4)] 60)).alloc (.cells #[.int .i64 n] 3)):=by
 have hg:Gr w (((w.alloc (.cells #[.pointer (some ⟨cb,0,none⟩)] 57)).alloc (.cells #[.int .u8 (r 0),.int .u8 (r 1),.int .u8 (r 2),.int .u8 (r 3),.int .u8 (r 4)] 60)).alloc (.cells #[.int .i64 n] 3)):=(((Gr.refl w).alloc _).alloc _).alloc _
 refine⟨hC.keep hg.size λb o hb=>hg.cell (hC.lt b hb),hK,⟨?_,λh=>by have:=hT _ h;omega,by simp;omega⟩,⟨λi hi=>?_,λh=>by have:=hT _ h;omega,by simp⟩,⟨?_,by simp⟩,⟨by omega,λb hb=>by have:=hC.lt b hb;omega⟩,hr⟩
 ·rw[World.cell?_alloc_past _ _ _ (by simp;omega),World.cell?_alloc_past _ _ _ (by simp),World.cell?_alloc_at _ _ _ _ rfl];rfl
 ·rw[World.cell?_alloc_past _ _ _ (by simp),World.cell?_alloc_at _ _ _ _ (by simp),World.frozen?_alloc_past _ _ _ (by simp),World.frozen?_alloc_at _ _ _ _ (by simp)]
  match i,hi with
  |0,_=>exact⟨rfl,rfl⟩
  |1,_=>exact⟨rfl,rfl⟩
  |2,_=>exact⟨rfl,rfl⟩
  |3,_=>exact⟨rfl,rfl⟩
  |4,_=>exact⟨rfl,rfl⟩
 ·rw[World.cell?_alloc_at _ _ _ _ (by simp)];rfl
open Go.RowKit Go.Sq Go.Shelf
attribute [local go_sem] Oper.semAt_some
def seqR:Code->Code
 |.seq _ b=>b
 |c=>c
noncomputable abbrev k92:Code:=seqR (Tryz.f68.body.getD .skip)
def dDone (b4:Nat):Deferred:={ target:=.fn (.func 69) #[],args:=#[.pointer (some ⟨b4,0,none⟩)] }
def cP (b2 b3 b4 r:Nat):Act:=⟨#[.pointer (some ⟨b4,0,none⟩),.pointer (some ⟨b2,0,none⟩),.pointer (some ⟨r,0,none⟩),.pointer (some ⟨b3,0,none⟩),undef,undef,undef,undef,undef,undef,undef,undef],[dDone b4]⟩
def lX {T0 K:Nat->Prop}{cb:Nat}{c:Camp}{sets:List Nat}{nA hA:Option Addr}{nc hc sb sc b2 b3 b4 rb F k:Nat}{fc:Array Value}{r:Ros}{w:World}
  (hok:c.Ok) (hsets:∀x∈sets,c.has x) (hsl:sets.length<=16) (hC:CampK w K cb c sets nA hA nc hc sb sc) (hT:∀b,T0 b->b<w.heap.size) (hK:∀b,K b->¬T0 b) (hr:∀i,c.has (r i)) (hz:∀i,1<=i->r i=0) (hk:1+k=c.needs.length)
  (h2:w.cell? ⟨b2,0,none⟩=some (.pointer (some ⟨cb,0,none⟩))) (hrb:∀i,i<5->w.cell? ⟨rb,i,none⟩=some (.int .u8 (r i))) (h3:w.cell? ⟨b3,0,none⟩=some (.func (.func F) #[] fc)) (h3t:b3<w.heap.size/\¬T0 b3)
  (I:List Ros->World->Prop) (hI:∀pre W W',I pre W->(∀b,T0 b->W'.heap[b]?=W.heap[b]?)->I pre W') (h0:I [] w)
  (hcf:∀(x:Array Value) (w:World),(callFunc F x).run uZ w=.ok (.enter F x) w)
  (hdo:∀(pre:List Ros) (ρ:Ros) (W:World),pre++[ρ] <+: walkL c sets k r 1->KT (λb=>T0 b\/w.heap.size<=b) w W->I pre W->Calls uZ F (#[rosV ρ]++fc) W λe W'=>e=.returned (.tuple #[])/\KT T0 W W'/\I (pre++[ρ]) W') :
  k92.wp uZ (λe a' w'=>(e=.normal\/e=.ret)/\(e=.normal/\I (walkL c sets k r 1) w'/\∃D,a'.defers=[{ target:=.collected D,args:=#[] },dDone b4]/\¬T0 D/\w'.heap[D]?=some (.deferred (some [])))) (cP b2 b3 b4 rb) w:=by
 have HC:=ui hC
 have HDO:=ui hdo
 have HT:=ui hT
 have HK:=ui hK
 have HI:=ui hI
 have H0:=ui h0
 have HR:=ui hr
 have HZ:=ui hz
 have HST:=ui hsets
 have r0:=hrb 0 (by omega)
 have r1:=hrb 1 (by omega)
 have r2:=hrb 2 (by omega)
 have r3:=hrb 3 (by omega)
 have r4:=hrb 4 (by omega)
 have hfrom:=kh cb 1 r w
 rw[<-callsIn_wide (n:=0)] at hfrom
 unfold rosV at hfrom
 rw[show(((1:Nat):Int))=1 from rfl] at hfrom
 have HF:=ui hfrom
 have HH3:=ui h3
 clear hC hdo hT hK hI h0 hr hz hsets hrb hfrom h3
 unfold cP k92 Tryz.f68
 simp only[Option.getD_some,seqR]
 rw[<-wpIn_wide (n:=0)]
 gi_wp2_with fail
 refine⟨trivial,rfl,HF.out.mono ?_⟩
 rintro e w1 ⟨rfl,hw1⟩
 have hs:=i7 (T0:=T0) (K:=K) (n:=1) (r:=r) HC.out HT.out HK.out HR.out
 rw[show(((1:Nat):Int))=1 from rfl,<-hw1] at hs
 have HS:=ui hs
 have hg1:Gr w w1:=by rw[hw1];exact(((Gr.refl w).alloc _).alloc _).alloc _
 have hz1:w1.heap.size=w.heap.size+3:=by rw[hw1];simp
 have HG1:=ui hg1
 have HZ1:=ui hz1
 clear hs hg1 hw1 HF hz1
 gi_wp2_with fail
 refine jq (T0:=T0) (K:=K) (cb:=cb) (c:=c) (sets:=sets) (nA:=nA) (hA:=hA) (nc:=nc) (hc:=hc) (sb:=sb) (sc:=sc) (bc:=w.heap.size) (br:=w.heap.size+1) (bn:=w.heap.size+2) (k:=k) (n:=1) (r:=r)
  hok HST.out hsl rfl hk HZ.out HS.out (λb hb=>Nat.lt_of_lt_of_le (HT.out b hb) HG1.out.size) rfl
  I (λ_ _ _=>False) HI.out (λc pre W W' h _=>h) (HI.out _ _ _ H0.out λb hb=>HG1.out.below.block b (HT.out b hb)) ?_ ?_ (λD j q W _ _ _ h _=>h.elim)
 ·intro l pre ρ W hpl hkw hpre hl1 hl2
  have hkw2:KT (λb=>T0 b\/w.heap.size<=b) w W:=KT.low (T:=λb=>T0 b\/b=w.heap.size+1) ((um HG1.out).trans hkw) λb hb h=>h.elim .inl λh=>by omega
  have HKW:=ui hkw2
  have HPL:=ui hpl
  have HPRE:=ui hpre
  have hb3:W.cell? ⟨b3,0,none⟩=some (.func (.func F) #[] fc):=(hkw2.cell (p:=⟨b3,0,none⟩) h3t.1 (by rintro(h|h);exact h3t.2 h;have:=h3t.1;exact absurd h (by show ¬w.heap.size<=b3;omega))).trans HH3.out
  have hzw:=hkw2.size
  have hzl:w.heap.size+3<=W.heap.size:=by have:=hkw.size;have:=HZ1.out;omega
  obtain⟨W2,hW2⟩:∃W2,W2=W.alloc (.cells #[.int .u8 (ρ 0),.int .u8 (ρ 1),.int .u8 (ρ 2),.int .u8 (ρ 3),.int .u8 (ρ 4)] 60):=⟨_,rfl⟩
  have HKA:Hid (KT T0 W W2):=ui (by rw[hW2];exact um ((Gr.refl W).alloc _))
  have HCS:Hid (W2.heap[W.heap.size]?=some (.cells #[.int .u8 (ρ 0),.int .u8 (ρ 1),.int .u8 (ρ 2),.int .u8 (ρ 3),.int .u8 (ρ 4)] 60 (0,0))):=ui (by rw[hW2];exact World.alloc_heap_new W _)
  have HOLD:Hid (∀b,b<W.heap.size->W2.heap[b]?=W.heap[b]?):=ui λb hb=>by rw[hW2];exact heap_alloc_old _ _ hb
  have hz2:W2.heap.size=W.heap.size+1:=by rw[hW2];simp
  have HZ2:=ui hz2
  have HW2:=ui hW2
  clear hkw hkw2 hpl hpre hW2 hz2
  unfold rosV
  gi_wp2
  rw[<-HW2.out]
  refine⟨HKA.out,λo=>?_⟩
  clear HW2
  have hlD:∀b,b<w.heap.size->b≠l:=λb hb=>by have:=HZ1.out;omega
  have HB3:(W2.putObj l o).cell? ⟨b3,0,none⟩=some (.func (.func F) #[] fc):=(bR (hlD b3 h3t.1)).trans ((HKA.out.cell (p:=⟨b3,0,none⟩) (by show b3<_;have:=h3t.1;omega) h3t.2).trans hb3)
  obtain⟨hc5,_,_⟩:=cells_at (W:=W2.putObj l o) ((World.putObj_heap_other (by omega)).trans HCS.out)
  have c0:=hc5 0
  have c1:=hc5 1
  have c2:=hc5 2
  have c3:=hc5 3
  have c4:=hc5 4
  simp at c0 c1 c2 c3 c4
  have HI2:=ui (HI.out pre W (W2.putObj l o) HPRE.out λb hb=>(World.putObj_heap_other (hlD b (HT.out b hb))).trans (HOLD.out b (by have:=HT.out b hb;omega)))
  have hD2:=HDO.out pre ρ (W2.putObj l o) HPL.out ((HKW.out.trans (HKA.out.mono λb h=>.inl h)).trans (KT.putObj (T:=λb=>T0 b\/w.heap.size<=b) W2 (.inr (by have:=HZ1.out;omega)) o)) HI2.out
  rw[<-callsIn_wide (n:=0)] at hD2
  unfold rosV at hD2
  have HD2:=ui hD2
  clear hc5 HCS hD2
  gi_wp2_with fail
  refine⟨trivial,rfl,HD2.out.mono ?_⟩
  rintro e w5 ⟨rfl,hk5,hi5⟩
  have HK5:=ui hk5
  have HI5:=ui hi5
  clear hk5 hi5 HD2
  gi_wp2
  exact⟨HK5.out,HI5.out⟩
 ·intro D W hD hkw hi hd
  have HND:=ui (show ¬T0 D from λh=>by have:=HT.out D h;have:=HG1.out.size;omega)
  gi_wp2
  exact⟨hi,HND.out⟩
end Go.Proofs.YtjmmlkobmhlikaaGreat
namespace Go.Iso
section
variable (P:Two) (S:Par) (Ck:Code->Prop) (G:Nat)
def Ends {α α':Type}(β:Bij)(w W:World)(ES0:Array Event)(R:Bij->α->α'->Prop):Result α×Array Event->Result α'×Array Event->Prop
 |(.ok a w',_),r=>∃β' A W' ES,r=(.ok A W',ES0++ES.toArray)/\R β' a A/\Fin S Ck G β β' w W w' W' ES
 |(.halt (.panic v) w',_),r=>∃β' V W' ES,r=(.halt (.panic V) W',ES0++ES.toArray)/\VRel S β' v V/\Fin S Ck G β β' w W w' W' ES
 |(.halt (.stuck _) _,_),_=>True
 |(.halt (.unsupported u) _,_),_=>∀g,u≠.initOrder g
 |_,_=>False
def SRel {α α':Type}(β:Bij)(m:Sem α)(M:Sem α')(R:Bij->α->α'->Prop):Prop :=
 ∀w W n,WRel S Ck G β w W->TRel n w W->∀es0 ES0,(world (m.runT P.a w es0).1).drawn<=w.drawn+n ->
  Ends S Ck G β w W ES0 R (m.runT P.a w es0) (M.runT P.b W ES0)
end
section
variable {P:Two} {S:Par} {Ck:Code->Prop} {G:Nat} {β:Bij} {α α' γ γ':Type}
def sr_pure {R:Bij->α->α'->Prop}{a:α}{A:α'}(h:R β a A):SRel P S Ck G β (pure a:Sem α) (pure A:Sem α') R:=by
 intro w W n hw ht es0 ES0 _
 exact⟨β,A,W,[],by show(Result.ok A W,ES0)=_;simp,h,Fin.refl hw⟩
def rh {R R':Bij->α->α'->Prop}{m:Sem α}{M:Sem α'}(h:SRel P S Ck G β m M R)(hr:∀β' a A,β.le β'->R β' a A->R' β' a A):SRel P S Ck G β m M R':=by
 intro w W n hw ht es0 ES0 hb
 have:=h w W n hw ht es0 ES0 hb
 revert this
 generalize m.runT P.a w es0=r
 obtain⟨r,es'⟩:=r
 cases r with
 |ok a w' =>
  rintro⟨β',A,W',ES,h1,h3,h4⟩
  exact⟨β',A,W',ES,h1,hr _ _ _ h4.le h3,h4⟩
 |halt x w'=>cases x<;>exact id
def sr_bind {R:Bij->α->α'->Prop}{R':Bij->γ->γ'->Prop}{m:Sem α}{M:Sem α'}{k:α->Sem γ}{K:α'->Sem γ'}(h:SRel P S Ck G β m M R)
  (hk:∀β' a A,β.le β'->R β' a A->SRel P S Ck G β' (k a) (K A) R'):SRel P S Ck G β (m >>= k) (M >>= K) R':=by
 intro w W n hw ht es0 ES0 hb
 rw[aj] at hb ⊢
 rw[aj]
 have hm:=h w W n hw ht es0 ES0
 revert hb hm
 generalize hr:m.runT P.a w es0=r
 obtain⟨r,es1⟩:=r
 cases r with
 |ok a w1 =>
  intro hb hm
  simp only at hb ⊢
  have h1:=drawn_mono P.a (k a) w1 es1
  obtain⟨β1,A,W1,ES,e1,e3,e4⟩:=hm (Nat.le_trans h1 hb)
  have hd:=e4.drawn
  have h2:=hk β1 a A e4.le e3 w1 W1 (n-(w1.drawn-w.drawn)) e4.rel (ht.rest e4) es1 (ES0++ES.toArray) (by omega)
  rw[e1]
  simp only
  revert h2
  generalize (k a).runT P.a w1 es1=r2
  obtain⟨r2,es2⟩:=r2
  cases r2 with
  |ok b w2 =>
   rintro⟨β2,B,W2,uh,f1,f3,f4⟩
   exact⟨β2,B,W2,ES++uh,by rw[f1];simp,f3,e4.trans f4⟩
  |halt x w2 =>
   cases x with
   |panic v =>
    rintro⟨β2,B,W2,uh,f1,f3,f4⟩
    exact⟨β2,B,W2,ES++uh,by rw[f1];simp,f3,e4.trans f4⟩
   |_=>exact id
 |halt x w1 =>
  intro hb hm
  simp only at hb ⊢
  have:=hm hb
  cases x with
  |panic v =>
   obtain⟨β1,A,W1,ES,e1,e3,e4⟩:=this
   exact⟨β1,A,W1,ES,by rw[e1],e3,e4⟩
  |_=>exact this
def sr_stuck {R:Bij->α->α'->Prop}{s:String}{M:Sem α'}:SRel P S Ck G β (stuck s:Sem α) M R:=λ_ _ _ _ _ _ _ _=>trivial
def sr_unsupported {R:Bij->α->α'->Prop}{u:Unsupported}{M:Sem α'}(h:∀g,u≠.initOrder g):SRel P S Ck G β (unsupported u:Sem α) M R:=λ_ _ _ _ _ _ _ _=>h
def cz {R:Bij->α->α'->Prop}{v V:Value}(h:VRel S β v V):SRel P S Ck G β (goPanic v:Sem α) (goPanic V:Sem α') R:=by
 intro w W n hw ht es0 ES0 _
 exact⟨β,V,W,[],by show(Result.halt (.panic V) W,ES0)=_;simp,h,Fin.refl hw⟩
def aJ:SRel P S Ck G β program program (λ_ a A=>a=P.a/\A=P.b):=by
 intro w W n hw ht es0 ES0 _
 exact⟨β,P.b,W,[],by show(Result.ok P.b W,ES0)=_;simp,⟨rfl,rfl⟩,Fin.refl hw⟩
def al (t:TypeId):SRel P S Ck G β (underlying t) (underlying t) (λ_ a A=>a=A/\P.a.underlying t=some a):=by
 refine sr_bind aJ ?_
 rintro β' a A _ ⟨rfl,rfl⟩
 rw[Two.underlying]
 cases h:P.a.underlying t with
 |none=>exact sr_stuck
 |some d=>exact sr_pure ⟨rfl,rfl⟩
def aU (t:TypeId):SRel P S Ck G β (typeInfo t) (typeInfo t) (λ_ a A=>a=A/\P.a.info? t=some a):=by
 refine sr_bind aJ ?_
 rintro β' a A _ ⟨rfl,rfl⟩
 rw[uX]
 cases h:P.a.info? t with
 |none=>exact sr_stuck
 |some d=>exact sr_pure ⟨rfl,rfl⟩
def aC (t:TypeId):SRel P S Ck G β (sizeOf t) (sizeOf t) (λ_ a A=>a=A):=by
 refine sr_bind (aU t) ?_
 rintro β' a A _ ⟨rfl,_⟩
 exact sr_pure rfl
def ki (t:TypeId):SRel P S Ck G β (isAgg t) (isAgg t) (λ_ a A=>a=A):=by
 refine sr_bind (al t) ?_
 rintro β' a A _ ⟨rfl,_⟩
 split<;>exact sr_pure rfl
def dC {v V:Value}(h:VRel S β v V):SRel P S Ck G β (asIntOf v) (asIntOf V) (λ_ a A=>a=A):=by
 cases h with
 |int k n=>exact sr_pure rfl
 |ptr=>exact sr_unsupported (by simp)
 |_=>exact sr_stuck
def dN {v V:Value}(h:VRel S β v V):SRel P S Ck G β (asInt v) (asInt V) (λ_ a A=>a=A):=by
 refine sr_bind (dC h) ?_
 rintro β' a A _ rfl
 exact sr_pure rfl
def fF {v V:Value}(h:VRel S β v V):SRel P S Ck G β (asBool v) (asBool V) (λ_ a A=>a=A):=by
 cases h with
 |bool b=>exact sr_pure rfl
 |_=>exact sr_stuck
def pO {v V:Value}(h:VRel S β v V):SRel P S Ck G β (asAgg v) (asAgg V) (λβ' a A=>AsRel S β' a A):=by
 cases h with
 |agg h1 h2=>exact sr_pure ⟨h1,h2⟩
 |_=>exact sr_stuck
end
end Go.Iso
