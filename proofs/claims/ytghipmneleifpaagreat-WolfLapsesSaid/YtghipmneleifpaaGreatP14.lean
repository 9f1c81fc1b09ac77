/- Parts of the proof. -/
import Derived.Test.YtghipmneleifpaaGreatP13
import Derived.Test.YtghipmneleifpaaGreatP10
import Derived.Test.YtghipmneleifpaaGreatP00
import Derived.Test.YtghipmneleifpaaGreatP12
import Derived.BigQuiet
import Derived.Laws.LoneSync
import Derived.Outline
import Derived.RangeFuncBox
set_option linter.all false
set_option maxHeartbeats 3200000
set_option maxRecDepth 1000000
open Go.Value renaming slice->a6,int->bb,pointer->bo
open Option renaming some->a7,none->a8
open Go renaming World->bh,Value->bq,Calls->bs,Addr->bw,TypeId->cr
open Go.IntKind renaming i64->bk,u8->cU
open Go.Obj renaming cells->bl
open Go.Proofs renaming intOf->bA,size_putRow->bD,sortWorld->cu
open Go.Builtin renaming zeroCells->bW,append_->b7
open Go.Lib renaming bitLen->b5
open Go.World renaming putObj_heap_other->b6,setCell->b9,frozen?->cE,cell?->cK
open Bool renaming true->b8,false->cw
open Go.Proofs.Tryz renaming ntmps39->cf,ntmps38->cq,ntmps15->cF
namespace Go.Sq
open Go.Proofs
open Go.RowKit Go.Shelf
def uB (nb:Nat)(x y s:Int)(w:bh)(hc:w.heap[nb]?=a7 (bl #[bb bk x] 93 (0,0)))(hs:IntKind.i64.wrap (x+y)=s) :
  bs B1 47 #[.pointer (a7 ⟨nb,0,a8⟩),bb bk y] w λe w'=>e=.returned (bb bk s)/\w'=w.setCell ⟨nb,0,a8⟩ (bb bk s):=by
 obtain⟨h1,h2,h3⟩:=one_cell hc;have afF:=run_call_add (P:=B1) Sq.func85 (by kernel_rfl) (by kernel_rfl) (by kernel_rfl) bk (by kernel_rfl) (y:=y) (s:=s) h1 h2 (by simp[go_sem];exact hs);go_enter Sq.func47,Tryz.ntmps47;go_wp2;go_ret;exact⟨rfl,rfl⟩
def sD (nb:Nat)(x:Int)(w:bh)(hc:w.heap[nb]?=a7 (bl #[bb bk x] 93 (0,0))) :
  bs B1 48 #[.pointer (a7 ⟨nb,0,a8⟩)] w λe w'=>e=.returned (bb bk x)/\w'=w:=by
 obtain⟨h1,h2,h3⟩:=one_cell hc;have hload:=run_call_load (P:=B1) Sq.func86 (by kernel_rfl) (by kernel_rfl) (by kernel_rfl) bk (by kernel_rfl) h1;go_enter Sq.func48,Tryz.ntmps48;go_wp2;go_ret;exact⟨rfl,rfl⟩
def sE (nb:Nat)(x s:Int)(ρ:CR)(w:bh)(hc:w.heap[nb]?=a7 (bl #[bb bk x] 93 (0,0)))(hs:IntKind.i64.wrap (x+1)=s) :
  bs B1 46 #[Dr ρ,.pointer (a7 ⟨nb,0,a8⟩)] w λe w'=>e=.returned (.tuple #[])/\KT (·=nb) w w'/\w'.heap[nb]?=a7 (bl #[bb bk s] 93 (0,0)):=by
 have hlt:=(one_cell hc).2.2;obtain⟨W,hW⟩:∃W,W=w.alloc (bl #[.int .u8 (ρ 0),.int .u8 (ρ 1),.int .u8 (ρ 2),.int .u8 (ρ 3),.int .u8 (ρ 4)] 76):=⟨_,rfl⟩;have hc2:W.heap[nb]?=a7 (bl #[bb bk x] 93 (0,0)):=by rw[hW,heap_alloc_old _ _ hlt];exact hc
 have HK:=yJ (show KT (·=nb) w W by rw[hW];exact KT.Dh ((Gr.refl w).alloc _));have afG:=yJ (uB nb x 1 s W hc2 hs);have HW:=yJ hW;have HC2:=yJ hc2;unfold Dr;go_enter Sq.func46,Tryz.ntmps46;go_wp2_with fail;rw[<-HW.out];refine afG.out.mono ?_;rintro e w' ⟨rfl,hw'⟩;have HW':=yJ hw';clear hw';go_wp2;go_end0;refine⟨rfl,HK.out.trans (by rw[HW'.out];exact KT.setCell (T:=(·=nb)) W (p:=⟨nb,0,a8⟩) rfl _),?_⟩
 rw[HW'.out];exact one_set HC2.out
def cj {W:bh}{b i:Nat}{a:Array bq}{u:bq}{t:cr}{f:Nat×Nat}(h:W.heap[b]?=a7 (.cells a t f)):(W.setCell ⟨b,i,a8⟩ u).heap[b]?=a7 (.cells (a.setIfInBounds i u) t f):=by
 unfold b9;simp only[zH,if_true,h]
 rfl
def E0 {W:bh}{b:Nat}{a:Array bq}{t:cr}(h:W.heap[b]?=a7 (.cells a t (0,0))):(∀i:Nat,W.cell? ⟨b,i,a8⟩=a[i]?)/\(∀i,W.frozen? ⟨b,i,a8⟩=cw)/\b<W.heap.size:=by
 refine⟨λi=>?_,λi=>?_,(yK.1 h).1⟩
 .unfold cK;simp only[h];rfl
 .unfold cE;simp[h]
def Hf (m:Int)(r:CR)(b:Bool):Array Value:=#[.int .i32 m,.int .u32 0,.int .u8 (r 0),.int .u8 (r 1),.int .u8 (r 2),.int .u8 (r 3),.int .u8 (r 4),.bool b]
def sG (kb:Nat)(ρ:CR)(f:bq)(w:bh)(hk:w.heap[kb]?=a7 (.cells (Hf 0 (λ_=>0) cw) 109 (0,0))) :
  bs B1 55 #[.pointer (a7 ⟨kb,0,a8⟩),Dr ρ,f] w λe w'=>e=.returned (.tuple #[])/\KT (·=kb) w w'/\w'.heap[kb]?=a7 (.cells (Hf 0 ρ b8) 109 (0,0)):=by
 obtain⟨W,hW⟩:∃W,W=w.alloc (bl #[.int .u8 (ρ 0),.int .u8 (ρ 1),.int .u8 (ρ 2),.int .u8 (ρ 3),.int .u8 (ρ 4)] 76):=⟨_,rfl⟩;have hlt:=(yK.1 hk).1;have hk2:W.heap[kb]?=a7 (.cells (Hf 0 (λ_=>0) cw) 109 (0,0)):=by rw[hW,heap_alloc_old _ _ hlt];exact hk
 obtain⟨hc,hf,_⟩:=E0 hk2;have h0:=hc 0;have f0:=hf 0;have hk3:=cj (i:=0) (u:=.int .i32 1) hk2;have HK:=yJ (show KT (·=kb) w W by rw[hW];exact KT.Dh ((Gr.refl w).alloc _));obtain⟨hc3,hf3,_⟩:=E0 hk3;have g0:=hc3 0;have g2:=hc3 2;have g3:=hc3 3;have g4:=hc3 4;have g5:=hc3 5;have g6:=hc3 6;have g7:=hc3 7;have e0:=hf3 0;have e2:=hf3 2;have e3:=hf3 3;have e4:=hf3 4;have e5:=hf3 5;have e6:=hf3 6
 have e7:=hf3 7;simp[Hf] at h0 g0 g2 g3 g4 g5 g6 g7;have hb:∀i,i<5->(W.setCell ⟨kb,0,a8⟩ (.int .i32 1)).cell? ⟨w.heap.size,i,a8⟩=a7 (.int .u8 (ρ i)):=λi hi=>by
  rw[yP _ _ _ _ (λe=>by have:kb=w.heap.size:=congrArg Addr.block e;omega),hW,yN _ _ _ _ rfl]
  match i,hi with
  |0,_=>rfl
  |1,_=>rfl
  |2,_=>rfl
  |3,_=>rfl
  |4,_=>rfl
 have b0:=hb 0 (by omega);have b1:=hb 1 (by omega);have b2:=hb 2 (by omega);have b3:=hb 3 (by omega);have b4:=hb 4 (by omega);have HW:=yJ hW;have QJ:=yJ hk2;have Mt:=yJ hk3;clear hc hf hc3 hf3 hk3 hk2 hk hW hb;unfold Dr;go_enter_defers Sq.func55,Tryz.ntmps55;go_wp2_with (go_at_call 87;rw[<-HW.out];refine(Bz ⟨kb,0,a8⟩ _ h0 f0).mono ?_;rintro e w' ⟨rfl,rfl⟩);go_quiet (fail);go_wp2;have HS:=yJ (cj (i:=7) (u:=.bool b8) (cj (i:=6) (u:=.int .u8 (ρ 4)) (cj (i:=5) (u:=.int .u8 (ρ 3)) (cj (i:=4) (u:=.int .u8 (ρ 2)) (cj (i:=3) (u:=.int .u8 (ρ 1)) (cj (i:=2) (u:=.int .u8 (ρ 0)) (show((W.setCell ⟨kb,0,a8⟩ (.int .i32 1)).drewN nq).heap[kb]?=_ from Mt.out)))))))
 refine leaves_cons (f:=88) (args:=#[.pointer (a7 ⟨kb,0,a8⟩)]) (by simp) (by simp[go_sem]) ?_;obtain⟨hc4,hf4,_⟩:=E0 HS.out;refine(Bx ⟨kb,0,a8⟩ .returning _ (by rw[hc4 0];rfl) (hf4 0)).mono ?_;rintro e u' w'' ⟨rfl,rfl,rfl⟩;have k:∀(w:bh) (i:Nat) (v:bq),KT (·=kb) w (w.setCell ⟨kb,i,a8⟩ v):=λw i v=>KT.setCell (T:=(·=kb)) w (p:=⟨kb,i,a8⟩) rfl v;refine⟨.tuple #[],results_none rfl _ _ _,rfl,HK.out.trans ((k _ 0 _).trans ((KT.Dh ((Gr.refl _).drewN nq)).trans ((k _ 2 _).trans ((k _ 3 _).trans ((k _ 4 _).trans ((k _ 5 _).trans ((k _ 6 _).trans ((k _ 7 _).trans (k _ 0 _))))))))),?_⟩
 exact cj (i:=0) (u:=.int .i32 0) HS.out
def uC (kb xb:Nat)(ρ:CR)(f:bq)(w:bh)(hx:w.cell? ⟨xb,0,a8⟩=a7 f)(UO:xb<w.heap.size)(hk:w.heap[kb]?=a7 (.cells (Hf 0 (λ_=>0) cw) 109 (0,0))) :
  bs B1 54 #[Dr ρ,.pointer (a7 ⟨kb,0,a8⟩),.pointer (a7 ⟨xb,0,a8⟩)] w λe w'=>e=.returned (.tuple #[])/\KT (·=kb) w w'/\w'.heap[kb]?=a7 (.cells (Hf 0 ρ b8) 109 (0,0)):=by
 obtain⟨W,hW⟩:∃W,W=w.alloc (bl #[.int .u8 (ρ 0),.int .u8 (ρ 1),.int .u8 (ρ 2),.int .u8 (ρ 3),.int .u8 (ρ 4)] 76):=⟨_,rfl⟩;have hlt:=(yK.1 hk).1;have HO:=yJ (sG kb ρ f W (by rw[hW,heap_alloc_old _ _ hlt];exact hk));have HK:=yJ (show KT (·=kb) w W by rw[hW];exact KT.Dh ((Gr.refl w).alloc _));have HW:=yJ hW;unfold Dr at HO ⊢;go_enter Sq.func54,Tryz.ntmps54;go_wp2_with fail;rw[<-HW.out];refine HO.out.mono ?_
 rintro e w' ⟨rfl,Wo,hk2⟩;have HK1:=yJ (HK.out.trans Wo);have QJ:=yJ hk2;go_wp2;go_end0;exact⟨rfl,HK1.out,QJ.out⟩
def ky {T0 K:Nat->Prop}{cb:Nat}{c:Cc}{sets:List Nat}{nA hA:Option bw}{nc hc sb sc n:Nat}{r:CR}{w:bh}(hC:Eo w K cb c sets nA hA nc hc sb sc)(hT:∀b,T0 b->b<w.heap.size)(hK:∀b,K b->¬T0 b)(hr:∀i,c.has (r i)) :
  NW T0 K cb c sets nA hA nc hc sb sc w.heap.size (w.heap.size+1) (w.heap.size+2) r n
   (((w.alloc (bl #[.pointer (a7 ⟨cb,0,a8⟩)] 73)).alloc (bl #[.int .u8 (r 0),.int .u8 (r 1),.int .u8 (r 2),.int .u8 (r 3),.int .u8 (r 4)] 76)).alloc (bl #[bb bk n] 3)):=by
 have hg:Gr w (((w.alloc (bl #[.pointer (a7 ⟨cb,0,a8⟩)] 73)).alloc (bl #[.int .u8 (r 0),.int .u8 (r 1),.int .u8 (r 2),.int .u8 (r 3),.int .u8 (r 4)] 76)).alloc (bl #[bb bk n] 3)):=(((Gr.refl w).alloc _).alloc _).alloc _;refine⟨hC.keep hg.size λb o hb=>hg.cell (hC.lt b hb),hK,⟨?_,λh=>by have:=hT _ h;omega,by simp;omega⟩,⟨λi hi=>?_,λh=>by have:=hT _ h;omega,by simp⟩,⟨?_,by simp⟩,⟨by omega,λb hb=>by have:=hC.lt b hb;omega⟩,hr⟩
 .rw[za _ _ _ (by simp;omega),za _ _ _ (by simp),yN _ _ _ _ rfl];rfl
 .rw[za _ _ _ (by simp),yN _ _ _ _ (by simp),Ax _ _ _ (by simp),zD _ _ _ _ (by simp)]
  match i,hi with
  |0,_=>exact⟨rfl,rfl⟩
  |1,_=>exact⟨rfl,rfl⟩
  |2,_=>exact⟨rfl,rfl⟩
  |3,_=>exact⟨rfl,rfl⟩
  |4,_=>exact⟨rfl,rfl⟩
 .rw[yN _ _ _ _ (by simp)];rfl
attribute [local go_sem] Oper.semAt_some
def aaU:Code->Code
 |.seq _ b=>b
 |c=>c
noncomputable abbrev XR:Code:=aaU (Tryz.f82.body.getD .skip)
def Mv (b4:Nat):Deferred:={ target:=.fn (.func 83) #[],args:=#[.pointer (a7 ⟨b4,0,a8⟩)] }
def dx (b2 b3 b4 r:Nat):Act:=⟨#[.pointer (a7 ⟨b4,0,a8⟩),.pointer (a7 ⟨b2,0,a8⟩),.pointer (a7 ⟨r,0,a8⟩),.pointer (a7 ⟨b3,0,a8⟩),undef,undef,undef,undef,undef,undef,undef,undef],[Mv b4]⟩
def oh {T0 K:Nat->Prop}{cb:Nat}{c:Cc}{sets:List Nat}{nA hA:Option bw}{nc hc sb sc b2 b3 b4 rb F k:Nat}{fc:Array bq}{r:CR}{w:bh}
  (Dx:c.Ok) (Gy:∀x∈sets,c.has x) (QH:sets.length<=16) (hC:Eo w K cb c sets nA hA nc hc sb sc) (hT:∀b,T0 b->b<w.heap.size) (hK:∀b,K b->¬T0 b) (hr:∀i,c.has (r i)) (hz:∀i,1<=i->r i=0) (hk:1+k=c.B3.length)
  (h2:w.cell? ⟨b2,0,a8⟩=a7 (.pointer (a7 ⟨cb,0,a8⟩))) (Ra:∀i,i<5->w.cell? ⟨rb,i,a8⟩=a7 (.int .u8 (r i))) (h3:w.cell? ⟨b3,0,a8⟩=a7 (.func (.func F) #[] fc)) (ZK:b3<w.heap.size/\¬T0 b3)
  (I:List CR->bh->Prop) (hI:∀pre W W',I pre W->(∀b,T0 b->W'.heap[b]?=W.heap[b]?)->I pre W') (h0:I [] w)
  (hcf:∀(x:Array bq) (w:bh),(callFunc F x).run B1 w=.ok (.enter F x) w)
  (ZL:∀(pre:List CR) (ρ:CR) (W:bh),pre++[ρ] <+: Cv c sets k r 1->KT (λb=>T0 b\/w.heap.size<=b) w W->I pre W->bs B1 F (#[Dr ρ]++fc) W λe W'=>e=.returned (.tuple #[])/\KT T0 W W'/\I (pre++[ρ]) W') :
  XR.wp B1 (λe a' w'=>(e=.normal\/e=.ret)/\(e=.normal/\I (Cv c sets k r 1) w'/\∃D,a'.defers=[{ target:=.collected D,args:=#[] },Mv b4]/\¬T0 D/\w'.heap[D]?=a7 (.deferred (a7 [])))) (dx b2 b3 b4 rb) w:=by
 have HC:=yJ hC;have HDO:=yJ ZL;have HT:=yJ hT;have HK:=yJ hK;have HI:=yJ hI;have H0:=yJ h0;have HR:=yJ hr;have HZ:=yJ hz;have HST:=yJ Gy;have r0:=Ra 0 (by omega);have r1:=Ra 1 (by omega);have r2:=Ra 2 (by omega);have r3:=Ra 3 (by omega);have r4:=Ra 4 (by omega);have Gz:=lZ cb 1 r w;rw[<-callsIn_wide (n:=0)] at Gz;unfold Dr at Gz;rw[show(((1:Nat):Int))=1 from rfl] at Gz;have HF:=yJ Gz
 have Rb:=yJ h3;clear hC ZL hT hK hI h0 hr hz Gy Ra Gz h3;unfold dx XR Tryz.f82;simp only[zc,aaU];rw[<-wpIn_wide (n:=0)]
 gi_wp2_with fail
 refine⟨trivial,rfl,HF.out.mono ?_⟩;rintro e w1 ⟨rfl,F0⟩;have hs:=ky (T0:=T0) (K:=K) (n:=1) (r:=r) HC.out HT.out HK.out HR.out;rw[show(((1:Nat):Int))=1 from rfl,<-F0] at hs;have HS:=yJ hs;have hg1:Gr w w1:=by rw[F0];exact(((Gr.refl w).alloc _).alloc _).alloc _
 have hz1:w1.heap.size=w.heap.size+3:=by rw[F0];simp
 have DO:=yJ hg1;have Uw:=yJ hz1;clear hs hg1 F0 HF hz1
 gi_wp2_with fail
 refine kU (T0:=T0) (K:=K) (cb:=cb) (c:=c) (sets:=sets) (nA:=nA) (hA:=hA) (nc:=nc) (hc:=hc) (sb:=sb) (sc:=sc) (bc:=w.heap.size) (br:=w.heap.size+1) (bn:=w.heap.size+2) (k:=k) (n:=1) (r:=r)
  Dx HST.out QH rfl hk HZ.out HS.out (λb hb=>yO (HT.out b hb) DO.out.size) rfl
  I (λ_ _ _=>False) HI.out (λc pre W W' h _=>h) (HI.out _ _ _ H0.out λb hb=>DO.out.below.block b (HT.out b hb)) ?_ ?_ (λD j q W _ _ _ h _=>h.elim)
 .intro l pre ρ W hpl JZ EC F4 hl2;have UQ:KT (λb=>T0 b\/w.heap.size<=b) w W:=KT.low (T:=λb=>T0 b\/b=w.heap.size+1) ((KT.Dh DO.out).trans JZ) λb hb h=>h.elim .inl λh=>by omega
  have HKW:=yJ UQ;have HPL:=yJ hpl;have afI:=yJ EC;have hb3:W.cell? ⟨b3,0,a8⟩=a7 (.func (.func F) #[] fc):=(UQ.cell (p:=⟨b3,0,a8⟩) ZK.1 (by rintro(h|h);exact ZK.2 h;have:=ZK.1;exact absurd h (by show ¬w.heap.size<=b3;omega))).trans Rb.out;have hzw:=UQ.size;have hzl:w.heap.size+3<=W.heap.size:=by have:=JZ.size;have:=Uw.out;omega
  obtain⟨W2,hW2⟩:∃W2,W2=W.alloc (bl #[.int .u8 (ρ 0),.int .u8 (ρ 1),.int .u8 (ρ 2),.int .u8 (ρ 3),.int .u8 (ρ 4)] 76):=⟨_,rfl⟩;have HKA:Hid (KT T0 W W2):=yJ (by rw[hW2];exact KT.Dh ((Gr.refl W).alloc _));have LN:Hid (W2.heap[W.heap.size]?=a7 (bl #[.int .u8 (ρ 0),.int .u8 (ρ 1),.int .u8 (ρ 2),.int .u8 (ρ 3),.int .u8 (ρ 4)] 76 (0,0))):=yJ (by rw[hW2];exact World.alloc_heap_new W _);have HOLD:Hid (∀b,b<W.heap.size->W2.heap[b]?=W.heap[b]?):=yJ λb hb=>by rw[hW2];exact heap_alloc_old _ _ hb
  have hz2:W2.heap.size=W.heap.size+1:=by rw[hW2];simp
  have XS:=yJ hz2;have Rc:=yJ hW2;clear JZ UQ hpl EC hW2 hz2;unfold Dr
  gi_wp2
  rw[<-Rc.out];refine⟨HKA.out,λo=>?_⟩;clear Rc;have hlD:∀b,b<w.heap.size->b≠l:=λb hb=>by have:=Uw.out;omega
  have HB3:(W2.putObj l o).cell? ⟨b3,0,a8⟩=a7 (.func (.func F) #[] fc):=(cy (hlD b3 ZK.1)).trans ((HKA.out.cell (p:=⟨b3,0,a8⟩) (by show b3<_;have:=ZK.1;omega) ZK.2).trans hb3);obtain⟨UR,_,_⟩:=E0 (W:=W2.putObj l o) ((b6 (by omega)).trans LN.out);have c0:=UR 0;have c1:=UR 1;have c2:=UR 2;have c3:=UR 3;have c4:=UR 4;simp at c0 c1 c2 c3 c4;have HI2:=yJ (HI.out pre W (W2.putObj l o) afI.out λb hb=>(b6 (hlD b (HT.out b hb))).trans (HOLD.out b (by have:=HT.out b hb;omega)))
  have Wp:=HDO.out pre ρ (W2.putObj l o) HPL.out ((HKW.out.trans (HKA.out.mono λb h=>.inl h)).trans (KT.putObj (T:=λb=>T0 b\/w.heap.size<=b) W2 (.inr (by have:=Uw.out;omega)) o)) HI2.out;rw[<-callsIn_wide (n:=0)] at Wp;unfold Dr at Wp;have HD2:=yJ Wp
  gi_wp2_with fail
  refine⟨trivial,rfl,HD2.out.mono ?_⟩;rintro e w5 ⟨rfl,XT,hi5⟩;have HK5:=yJ XT;have HI5:=yJ hi5
  gi_wp2
  exact⟨HK5.out,HI5.out⟩
 .intro D W hD JZ hi hd;have HND:=yJ (show ¬T0 D from λh=>by have:=HT.out D h;have:=DO.out.size;omega)
  gi_wp2
  exact⟨hi,HND.out⟩
def bS (a b c:Int)(w:bh):bs B1 39 #[bb bk a,bb bk b,bb bk c] w λe w'=>e=.returned (.bool (Ez a b c))/\w=w':=by
 by_cases h1:b<=a
 .by_cases h2:a<=c
  .have HS:=yJ (show Ez a b c=b8 by simp[Ez,h1,h2]);go_enter Sq.func39,cf;go_wp2;go_ret;exact⟨ap HS.out.symm,rfl⟩
  .have HS:=yJ (show Ez a b c=cw by simp[Ez];omega);go_enter Sq.func39,cf;go_wp2;go_ret;exact⟨ap HS.out.symm,rfl⟩
 .have HS:=yJ (show Ez a b c=cw by simp[Ez];omega);go_enter Sq.func39,cf;go_wp2;go_ret;exact⟨ap HS.out.symm,rfl⟩
def il (n lo hi:Int)(w:bh):bs B1 38 #[bb bk n,bb bk lo,bb bk hi] w λe w'=>e=.returned (bb bk (CM n lo hi))/\w=w':=by
 by_cases h1:n<lo
 .have HS:=yJ (show CM n lo hi=7 by simp[CM,h1]);go_enter Sq.func38,cq;go_wp2;go_ret;exact⟨am HS.out.symm,rfl⟩
 .by_cases h2:hi<n
  .have HS:=yJ (show CM n lo hi=6 by simp[CM,h1,h2]);go_enter Sq.func38,cq;go_wp2;go_ret;exact⟨am HS.out.symm,rfl⟩
  .have HS:=yJ (show CM n lo hi=0 by simp[CM,h1,h2]);go_enter Sq.func38,cq;go_wp2;go_ret;exact⟨am HS.out.symm,rfl⟩
def i3 (A:Option bw)(c:Nat)(l:List Int)(n:Int)(w:bh)(B:Nat)(h:RI w B A l)(hl:l.length<=4611686018427387904)(Ld:0<=n)(hn:n<=4611686018427387904) :
  bs B1 40 #[a6 A l.length c,bb bk n] w λe w'=>e=.returned (bb bk (Dw l n))/\w=w':=by
 have HR:=yJ h;go_enter Sq.func40,Tryz.ntmps40;go_wp2;go_loop [9] (λi=>∃k:Nat,k<=l.length/\i=bb bk k/\∀j,j<k->En l n j=0) (λi=>l.length-(bA i).toNat)
 case atStart=>exact⟨0,by omega,rfl,λj hj=>absurd hj (zU _)⟩
 case round =>
  obtain⟨k,hk,rfl,hz⟩:=hrel;have HZ:=yJ hz;by_cases hlt:k<l.length
  .obtain⟨b,o,rfl,hb,hc⟩:=HR.out.at_ hlt;have HA:Hid (En l n k=if 0<=l[k]?.getD 0/\l[k]?.getD 0<=n-1 then(if 0<k/\l[k]?.getD 0<=l[k-1]?.getD 0 then 5 else 0) else 3):=yJ rfl;by_cases hr:0<=l[k]?.getD 0/\l[k]?.getD 0<=n-1
   .have HI : Hid (bs B1 39 #[bb bk (l[k]?.getD 0), bb bk 0, bb bk (n - 1)] w fun e w' => e = .returned (.bool b8) ∧ w = w') := Lib.hid (by
     have:=bS (l[k]?.getD 0) 0 (n-1) w
     rwa [show Ez (l[k]?.getD 0) 0 (n-1)=b8 by simp[Ez,hr.1,hr.2]] at this)
    rcases zp k with h0|h0
    .subst h0;have HS:=yJ (show En l n 0=0 by rw[HA.out,if_pos hr,if_neg (by omega)]);simp only[Nat.add_zero] at hc;generalize l[0]?.getD 0=x at hc HI;go_wp2_with (go_at_call 39;refine HI.out.mono ?_;rintro e w' ⟨rfl,rfl⟩);go_round
     case rel=>exact⟨1,by omega,by go_num,λj hj=>by
      have:j=0:=by omega
      subst this;exact HS.out⟩
     case measure=>simp[Proofs.intOf];omega
    .obtain⟨m,rfl⟩:∃m,k=m+1:=⟨k-1,by omega⟩;have hc':w.cell? ⟨b,o+m,a8⟩=a7 (bb bk (l[m]?.getD 0)):=by
      obtain⟨b',o',e,_,h⟩:=HR.out.at_ (k:=m) (by omega);simp only[Option.some.injEq,Addr.mk.injEq] at e;obtain⟨rfl,rfl,_⟩:=e;exact h
     by_cases hle:l[m+1]?.getD 0<=l[m]?.getD 0
     .have HS := Lib.hid (show Dw l n = 5 by
       have e:En l n (m+1)=5:=by rw[HA.out,if_pos hr,if_pos ⟨h0,hle⟩]
       rw[gd hlt HZ.out (by rw[e];decide),e])
      generalize l[m+1]?.getD 0=x at hc HI hle;generalize l[m]?.getD 0=y at hc' hle;go_wp2_with (go_at_call 39;refine HI.out.mono ?_;rintro e w' ⟨rfl,rfl⟩);go_ret;exact⟨am HS.out.symm,rfl⟩
     .have HS:=yJ (show En l n (m+1)=0 by rw[HA.out,if_pos hr,if_neg (λh=>hle h.2)]);generalize l[m+1]?.getD 0=x at hc HI hle;generalize l[m]?.getD 0=y at hc' hle;go_wp2_with (go_at_call 39;refine HI.out.mono ?_;rintro e w' ⟨rfl,rfl⟩);go_round
      case rel=>exact⟨m+1+1,by omega,by go_num,λj hj=>by
       rcases zq (zG hj) with h|rfl
       .exact HZ.out j h
       .exact HS.out⟩
      case measure=>simp[Proofs.intOf];omega
   .have HI : Hid (bs B1 39 #[bb bk (l[k]?.getD 0), bb bk 0, bb bk (n - 1)] w fun e w' => e = .returned (.bool cw) ∧ w = w') := Lib.hid (by
     have:=bS (l[k]?.getD 0) 0 (n-1) w
     rwa [show Ez (l[k]?.getD 0) 0 (n-1)=cw by simp[Ez];omega] at this)
    have HS:=yJ (show Dw l n=3 by
     have e:En l n k=3:=by rw[HA.out,if_neg hr]
     rw[gd hlt HZ.out (by rw[e];decide),e])
    generalize l[k]?.getD 0=x at hc HI;go_wp2_with (go_at_call 39;refine HI.out.mono ?_;rintro e w' ⟨rfl,rfl⟩);go_ret;exact⟨am HS.out.symm,rfl⟩
  .have HS:=yJ (show Dw l n=0 from kS λi hi=>HZ.out i (by omega));have:k=l.length:=by omega
   go_wp2;go_ret;exact⟨am HS.out.symm,rfl⟩
def Cj (nA hA:Option bw)(c:Cc)(nc hc:Nat):Value:=.agg #[a6 nA c.B3.length nc,a6 hA c.B2.length hc]
def jS {c:Cc}(h1:CM c.B3.length 1 5=0)(h2:(c.B3.all λx=>Ez x 0 12)=b8)(h3:CM c.B2.length 1 4=0):Cn c=bG (c.B2.map (D6 c.B3.length)):=by
 simp[Cn,h1,h2,h3]
def bP (c:Cc)(n:Int){i:Nat}(hi:i<c.B2.length):(c.B2.map (D6 n))[i]?.getD 0=D6 n (c.h i):=by
 unfold Cc.h;simp[hi]
def oD (nA hA:Option bw)(nc hc:Nat)(c:Cc)(w:bh)(B:Nat)(hB:B<=w.heap.size)(hn:RI w B nA c.B3)(hh:Db w B hA c.B2)(F4:c.B3.length<=4611686018427387904)(hl2:c.B2.length<=4611686018427387904)
  (DN:∀h∈c.B2,h.off.length<=4611686018427387904) :
  bs B1 15 #[Cj nA hA c nc hc] w λe w'=>e=.returned (bb bk (Cn c))/\Gr w w':=by
 have HN:=yJ hn;have HH:=yJ hh;have Qd:=yJ DN;clear hn hh DN;unfold Cj;obtain⟨W0,hW0⟩:∃W0:bh,W0=w.alloc (bl #[a6 nA c.B3.length nc,a6 hA c.B2.length hc] 25):=⟨_,rfl⟩;have Du:Hid (Gr w W0):=yJ (by rw[hW0];exact(Gr.refl w).alloc _);have HC:Hid (∀W,Gr W0 W->W.cell? ⟨w.heap.size,0,a8⟩=a7 (a6 nA c.B3.length nc)/\W.cell? ⟨w.heap.size,1,a8⟩=a7 (a6 hA c.B2.length hc)):=yJ λW hg=>by
  rw[hg.cell (by show w.heap.size<_;rw[hW0];simp),hg.cell (by show w.heap.size<_;rw[hW0];simp),hW0,yN _ _ _ _ rfl,yN _ _ _ _ rfl];exact⟨rfl,rfl⟩
 have hz0:W0.heap.size=w.heap.size+1:=by rw[hW0];simp
 by_cases Ox:CM c.B3.length 1 5=0
 .have HM:Hid (bs B1 38 #[bb bk c.B3.length,bb bk 1,bb bk 5] (w.alloc (bl #[a6 nA c.B3.length nc,a6 hA c.B2.length hc] 25)) λe w'=>e=.returned (bb bk 0)/\(w.alloc (bl #[a6 nA c.B3.length nc,a6 hA c.B2.length hc] 25))=w'):=yJ (by rw[<-Ox];exact il _ _ _ _);have Yv:=yJ Ox;have HW:=yJ hW0;clear Ox hW0;go_enter Sq.func15,cF
  go_wp2_with (first|(go_at_call 38;refine HM.out.mono ?_;rintro e w' ⟨rfl,rfl⟩));rw[<-HW.out];clear HW HM;obtain⟨hc0,hc1⟩:=HC.out W0 (Gr.refl _);have HN0:=yJ ((HN.out.gr hB Du.out).more (B':=W0.heap.size) (by omega));go_loop [20] (λi=>∃k:Nat,k<=c.B3.length/\i=bb bk k/\∀j,j<k->Ez (c.B3[j]?.getD 0) 0 12=b8) (λi=>c.B3.length-(bA i).toNat)
  case atStart=>exact⟨0,by omega,rfl,λj hj=>absurd hj (zU _)⟩
  case round =>
   obtain⟨k,hk,rfl,hz⟩:=hrel;have HZ:=yJ hz;clear hz;by_cases hlt:k<c.B3.length
   .obtain⟨b,o,rfl,hb,hcell⟩:=HN0.out.at_ hlt;have hI:=bS (c.B3[k]?.getD 0) 0 12 W0;cases Ij:Ez (c.B3[k]?.getD 0) 0 12 with
    |true =>
     rw[Ij] at hI;have HI:=yJ hI;have UC:=yJ Ij;clear hI Ij;generalize c.B3[k]?.getD 0=x at hcell HI;go_wp2_with (go_at_call 39;refine HI.out.mono ?_;rintro e w' ⟨rfl,rfl⟩);go_round
     case rel=>exact⟨k+1,by omega,by go_num,λj hj=>by
      rcases zq (zG hj) with h|rfl
      .exact HZ.out j h
      .exact UC.out⟩
     case measure=>simp[Proofs.intOf];omega
    |false =>
     rw[Ij] at hI;have HI:=yJ hI
     have HS:=yJ (show Cn c=1 by
      have:(c.B3.all λx=>Ez x 0 12)=false:=by
       rw[List.all_eq_false];exact⟨_,EK _ _ hlt,by simp[Ij]⟩
      simp[Cn,Yv.out,this])
     clear hI Ij;generalize c.B3[k]?.getD 0=x at hcell HI;go_wp2_with (go_at_call 39;refine HI.out.mono ?_;rintro e w' ⟨rfl,rfl⟩);go_ret;exact⟨am HS.out.symm,Du.out⟩
   .have HA := Lib.hid (show (c.B3.all fun x => Ez x 0 12) = b8 by
     rw[zE];intro x hx;obtain⟨j,hj,rfl⟩:=zZ.1 hx;have:=HZ.out j (by omega)
     rwa [yM hj] at this)
    have FA:k=c.B3.length:=by omega
    clear HZ;subst FA;have Vg:=il c.B2.length 1 4 W0;by_cases NM:CM c.B2.length 1 4=0
    .rw[NM] at Vg;have HM:=yJ Vg;have HD:=yJ (jS Yv.out HA.out NM);clear Vg NM;go_wp2_with (first|(go_at_call 38;refine HM.out.mono ?_;rintro e w' ⟨rfl,rfl⟩));go_loopw [38] (λi wr=>∃k:Nat,k<=c.B2.length/\i=bb bk k/\(∀j,j<k->D6 c.B3.length (c.h j)=0)/\Gr W0 wr) (λi _=>c.B2.length-(bA i).toNat)
     case atStart=>exact⟨0,by omega,rfl,λj hj=>absurd hj (zU _),Gr.refl _⟩
     case round =>
      obtain⟨k,hk,rfl,hz,hgr⟩:=hrel;have HZ:=yJ hz;have DO:=yJ hgr;have Iu:=yJ (Du.out.trans hgr);obtain⟨P3,O3⟩:=HC.out wr hgr;have hsz:w.heap.size<wr.heap.size:=by have:=DO.out.size;omega
      clear hz hgr;by_cases hlt:k<c.B2.length
      .have WT:=yJ (HH.out.keep λb o hb=>Iu.out.cell (p:=⟨b,o,a8⟩) (yO hb hB));obtain⟨b,o,rfl,hb,hat⟩:=WT.out.at_ (c:=c) hlt;obtain⟨g0,g1,g2,A,ac,g3,Em⟩:=hat;have KQ:=yJ (Em.more (B':=wr.heap.size) (by omega));have WO:=Qd.out _ (c.Gw hlt);have HF:=yJ (bP c c.B3.length hlt);have HIT:∀x lo hi v,Ez x lo hi=v->∀W:bh,bs B1 39 #[bb bk x,bb bk lo,bb bk hi] W λe w'=>e=.returned (.bool v)/\W=w':=λx lo hi v h W=>by rw[<-h];exact bS _ _ _ _
       have Jr:=yJ HIT;cases t1:Ez (c.h k).heads 1 40 with
       |false =>
        have HS:=yJ (show Cn c=1 by
         have e:D6 c.B3.length (c.h k)=1:=by simp[D6,t1]
         rw[HD.out,aX (k:=k) (by simpa using hlt) (λi hi=>by rw[bP c _ (by omega)];exact HZ.out i hi) (by rw[HF.out,e];decide),HF.out,e])
        have HA:=yJ (Jr.out _ _ _ _ t1);go_wp2_with (first|(go_at_call 39;refine(HA.out _).mono ?_;rintro e w' ⟨rfl,rfl⟩));go_ret;exact⟨am HS.out.symm,Iu.out.alloc _⟩
       |true =>
        have HA:=yJ (Jr.out _ _ _ _ t1);cases t2:Ez (c.h k).Dd 1 5 with
        |false =>
         have HS:=yJ (show Cn c=1 by
          have e:D6 c.B3.length (c.h k)=1:=by simp[D6,t2]
          rw[HD.out,aX (k:=k) (by simpa using hlt) (λi hi=>by rw[bP c _ (by omega)];exact HZ.out i hi) (by rw[HF.out,e];decide),HF.out,e])
         have I5:=yJ (Jr.out _ _ _ _ t2);go_wp2_with fail;refine(HA.out _).mono ?_;rintro e w' ⟨rfl,rfl⟩;go_wp2_with fail;refine(I5.out _).mono ?_;rintro e w' ⟨rfl,rfl⟩;go_wp2;go_ret;exact⟨am HS.out.symm,Iu.out.alloc _⟩
        |true =>
         have I5:=yJ (Jr.out _ _ _ _ t2);cases t3:Ez (c.h k).most 0 5 with
         |false =>
          have HS:=yJ (show Cn c=1 by
           have e:D6 c.B3.length (c.h k)=1:=by simp[D6,t3]
           rw[HD.out,aX (k:=k) (by simpa using hlt) (λi hi=>by rw[bP c _ (by omega)];exact HZ.out i hi) (by rw[HF.out,e];decide),HF.out,e])
          have QO:=yJ (Jr.out _ _ _ _ t3);go_wp2_with fail;refine(HA.out _).mono ?_;rintro e w' ⟨rfl,rfl⟩;go_wp2_with fail;refine(I5.out _).mono ?_;rintro e w' ⟨rfl,rfl⟩;go_wp2_with fail;refine(QO.out _).mono ?_;rintro e w' ⟨rfl,rfl⟩;go_wp2;go_ret;exact⟨am HS.out.symm,Iu.out.alloc _⟩
         |true =>
          have QO:=yJ (Jr.out _ _ _ _ t3);have HE:=yJ (show D6 c.B3.length (c.h k)=Dw (c.h k).off c.B3.length by simp[D6,t1,t2,t3]);have HAS:=yJ (λW (hg:Gr wr W)=>i3 A ac (c.h k).off c.B3.length W wr.heap.size (KQ.out.gr (yL _) hg) WO (by omega) (by omega));have Oy:Hid (∀v,Gr wr (wr.alloc v)):=yJ λv=>(Gr.refl wr).alloc v;by_cases he:Dw (c.h k).off c.B3.length=0
          .rw[he] at HAS;have WU:=yJ (HE.out.trans he);go_wp2_with fail;refine(HA.out _).mono ?_;rintro e w' ⟨rfl,rfl⟩;go_wp2_with fail;refine(I5.out _).mono ?_;rintro e w' ⟨rfl,rfl⟩;go_wp2_with fail;refine(QO.out _).mono ?_;rintro e w' ⟨rfl,rfl⟩;go_wp2_with fail;refine(HAS.out _ (Oy.out _)).mono ?_;rintro e w' ⟨rfl,rfl⟩;go_wp2;go_roundw
           case rel=>exact⟨k+1,by omega,by go_num,λj hj=>by
            rcases zq (zG hj) with h|rfl
            .exact HZ.out j h
            .exact WU.out,DO.out.alloc _⟩
           case measure=>simp[Proofs.intOf];omega
          .have HS := Lib.hid (show Cn c = Dw (c.h k).off c.B3.length by
            rw[HD.out,aX (k:=k) (by simpa using hlt) (λi hi=>by rw[bP c _ (by omega)];exact HZ.out i hi) (by rw[HF.out,HE.out];exact he),HF.out,HE.out])
           have hne:((Dw (c.h k).off c.B3.length) != 0)=true:=by simpa using he
           generalize Dw (c.h k).off c.B3.length=e0 at HAS HS hne;go_wp2_with fail;refine(HA.out _).mono ?_;rintro e w' ⟨rfl,rfl⟩;go_wp2_with fail;refine(I5.out _).mono ?_;rintro e w' ⟨rfl,rfl⟩;go_wp2_with fail;refine(QO.out _).mono ?_;rintro e w' ⟨rfl,rfl⟩;go_wp2_with fail;refine(HAS.out _ (Oy.out _)).mono ?_;rintro e w' ⟨rfl,rfl⟩;go_wp2;go_ret;exact⟨am HS.out.symm,Iu.out.alloc _⟩
      .have HS := Lib.hid (show Cn c = 0 by
        rw[HD.out];exact cX λi hi=>by
         rw[zy] at hi
         rw[bP c _ hi];exact HZ.out i (by omega))
       have FA:k=c.B2.length:=by omega
       subst FA;go_wp2;go_ret;exact⟨am HS.out.symm,Iu.out⟩
    .have HS:=yJ (show Cn c=CM c.B2.length 1 4 by simp[Cn,Yv.out,HA.out,NM]);have HM:=yJ Vg;have hb:((CM c.B2.length 1 4) != 0)=true:=by simpa using NM
     generalize CM c.B2.length 1 4=e0 at HM hb HS;go_wp2_with (first|(go_at_call 38;refine HM.out.mono ?_;rintro e w' ⟨rfl,rfl⟩));go_ret;exact⟨am HS.out.symm,Du.out⟩
 .have HS:=yJ (show Cn c=CM c.B3.length 1 5 by simp[Cn,Ox]);have HM:=yJ (il c.B3.length 1 5 W0);have hb:((CM c.B3.length 1 5) != 0)=true:=by simpa using Ox
  rw[hW0] at HM;generalize CM c.B3.length 1 5=e0 at HM hb HS;go_enter Sq.func15,cF;go_wp2_with (first|(go_at_call 38;refine HM.out.mono ?_;rintro e w' ⟨rfl,rfl⟩));go_ret;exact⟨am HS.out.symm,(Gr.refl w).alloc _⟩
def im (u:bq):Prop:=∃x,u=.int .u8 x
def Fb (w:bh)(v:bq):Prop:=∀a n c,v=.slice (a7 a) n c->∃(cur:Array bq) (t:cr),w.heap[a.block]?=a7 (.cells cur t (0,0))/\∀u∈cur.toList,im u
def Fb.nil (w:bh):Fb w (.slice a8 0 0):=λa n c h=>by cases h
def Fb.keep {w w':bh}{v:bq}(h:Fb w v)(hk:∀a n c,v=.slice (a7 a) n c->w'.heap[a.block]?=w.heap[a.block]?):Fb w' v:=λa n c e=>by
 obtain⟨cur,t,h1,h2⟩:=h a n c e;exact⟨cur,t,(hk a n c e).trans h1,h2⟩
variable {P:Program}
def uW (n:Nat):∀u∈(bW (bb .u8 0).cells n).toList,im u:=by
 intro u hu;simp only[bW,Array.toList_map,zu] at hu;obtain⟨i,_,rfl⟩:=hu;refine⟨0,?_⟩;show(#[bb .u8 0]:Array bq)[i % 1]! = _;rw[Nat.mod_one];rfl
def nJ (w:bh)(base:Nat)(t ty e:cr)(i:TypeInfo)(ht:P.underlying t=a7 (.slice e))(hi:P.info? e=a7 i)(hz:i.zero=a7 (.int .u8 0))
  (hsize:i.size=1) (hby:i.bytes=1) (v:bq) (n:Nat) (xs:List bq) (hown:w.ownsRow base e 1 v n xs) (hf:Fb w v)
  (a:bw) (m c:Nat) (news:List bq) (hl:news.length=m*1) (hnews:∀j u,news[j]?=a7 u->w.cell? (a.add j)=a7 u) (h1:∀u∈news,im u) (h63:n+m<=maxLen) (hbytes:(n+m)*1<=140737488355328)
  {v':bq} {w':bh} (hrun:(b7 #[t,t] ty #[v,.slice (a7 a) m c]).run P w=.ok v' w'):Fb w' v':=by
 have Ik:∀u∈news,u.oneCell'=true:=λu hu=>by obtain⟨x,rfl⟩:=h1 u hu;rfl
 have grown:∀(ys:List bq) k,(∀u∈ys,im u)->∀l1 l2 n1 c1,l1++l2=ys->Fb (w.drew.alloc (.cells (l1.toArray++l2.toArray++bW (bb .u8 0).cells k) e)) (.slice (a7 ⟨w.heap.size,0,a8⟩) n1 c1):=by
  intro ys k hys l1 l2 n1 c1 agZ a n c he;injection he with h _ _
  injection h with h
  subst h;refine⟨_,e,heap_alloc_new w.drew _,λu hu=>?_⟩;simp only[Array.toList_append,zJ] at hu;rcases hu with hu|hu
  .refine hys u ?_;rw[<-agZ];simpa using hu
  .exact uW _ u hu
 rcases hown.2 with⟨rfl,rfl⟩|⟨g,cap,cur,rfl,hbg,hg,X0,hcm,hcs,RN⟩
 .by_cases hm:m=0
  .subst hm;have hn:news=[]:=zj (by simpa using hl);subst hn;simp[b7,run_underlying ht,sizeOf,typeInfo,hi,Builtin.lenOf,Builtin.firstCells,loadCells,loadCellsFrom] at hrun;obtain⟨rfl,rfl⟩:=hrun;exact Fb.nil _
  .have hr:=run_append_nil (P:=P) w t ty e i (.int .u8 0) ht hi hz a m c news (by rw[hsize];exact hl) hnews (by omega) (by omega) (by rw[hby];omega);rw[hr] at hrun;cases hrun;have:=grown news (grownCap w m 0 e-m) h1 [] news m (grownCap w m 0 e) rfl;simpa using this
 .obtain⟨cur',t',z1,z2⟩:=hf _ _ _ rfl;have z1':w.heap[g]?=a7 (.cells cur' t' (0,0)):=z1;rw[hg] at z1';cases z1';have Vh:∀u∈xs,im u:=λu hu=>z2 u (by rw[<-RN] at hu;exact Aw hu);by_cases hroom:n+m<=cap
  .have ag0:n*i.size+news.length<=cur.size:=by rw[hsize,hl,hcs];omega
   have hr:=run_append_room (P:=P) w t ty e i ht hi g n cap cur hg a m c news (by rw[hsize];exact hl) hnews Ik hroom ag0;rw[hr] at hrun;cases hrun;intro a2 n2 c2 he;injection he with h _ _
   injection h with h
   subst h;refine⟨_,e,setRow_heap w g cur _ e _ hg,λu hu=>?_⟩;simp only[zJ] at hu;rcases hu with(hu|hu)|hu
   .exact z2 u (Aw hu)
   .exact h1 u hu
   .exact z2 u (List.mem_of_mem_drop hu)
  .have holds:∀j u,xs[j]?=a7 u->w.cell? ((⟨g,0,a8⟩:bw).add j)=a7 u:=hown.cells (g:=g) rfl;have hr:=run_append_grow (P:=P) w t ty e i (.int .u8 0) ht hi hz ⟨g,0,a8⟩ n cap xs (by rw[hsize];exact hown.1) holds a m c news (by rw[hsize];exact hl) hnews (by omega) (by omega) (by rw[hby];exact growslice_fits (by omega) hbytes);rw[hr] at hrun;cases hrun;exact grown (xs++news) _ (λu hu=>(zJ.1 hu).elim (Vh u) (h1 u)) xs news _ _ rfl
def io {w:bh}{ops:Array Oper}{rest:List Oper}{o:Oper}{a:Act}{Q:Exit->Act->bh->Prop}(hgd:o.guard=a8)(s x:Operand)(t:cr)
  (ho:o.op=.call { callee:=.builtin .append,args:=#[s,x],argTypes:=#[t,t] })
  (base:Nat) (e:cr) (i:TypeInfo) (ht:P.underlying t=a7 (.slice e)) (hi:P.info? e=a7 i) (hz:i.zero=a7 (.int .u8 0))
  (hsize:i.size=1) (hby:i.bytes=1)
  (v:bq) (n:Nat) (xs:List bq) (hs:a.eval s=v) (hown:w.ownsRow base e 1 v n xs) (hf:Fb w v)
  (ad:bw) (m c:Nat) (news:List bq) (hx:a.eval x=.slice (a7 ad) m c) (hl:news.length=m*1) (hnews:∀j u,news[j]?=a7 u->w.cell? (ad.add j)=a7 u) (h1:∀u∈news,im u)
  (h63:n+m<=maxLen) (hbytes:(n+m)*1<=140737488355328) (hbase:base<=w.heap.size)
  (h:∀v' w',w'.ownsRow base e 1 v' (n+m) (xs++news)->w.grownBy w' v.ownBlock->w.drawn<=w'.drawn->Fb w' v'->wpList P ops Q rest (a.put o.dst v') w'):wpList P ops Q (o::rest) a w:=by
 refine wpList_plain hgd λK hK=>?_;have Ik:∀u∈news,u.oneCell'=true:=λu hu=>by obtain⟨x,rfl⟩:=h1 u hu;rfl
 obtain⟨v',w',hr,h2,h3,h4⟩:=run_append_own (P:=P) w base t o.type e i (.int .u8 0) 1 1 ht hi hz hsize hby rfl (by decide) v n xs hown ad m c news hl hnews Ik h63 hbytes hbase;have QP:=nJ (P:=P) w base t o.type e i ht hi hz hsize hby v n xs hown hf ad m c news hl hnews h1 h63 hbytes hr;have hd:=Go.Ct.EM P (b7 #[t,t] o.type #[v,.slice (a7 ad) m c]) w #[];rw[Sem.runT_fst,hr] at hd
 unfold Oper.wp execOp;simp only[ho,resolve,invoke,builtin,Sem.run_bind,Sem.run_pure,Result.andThen_ok,AA,Ae,Ag,hs,hx,hr];exact hK _ _ (h v' w' h2 h3 hd QP)
def uX:∀x:Fin 16,∀n:Fin 4,bits BinOp.or cU (x.val:Int) (2 ^ n.val % 256)=((x.val ||| 2 ^ n.val:Nat):Int):=by decide
def ag1 (A:Option bw)(c:Nat)(l:List Int)(w:bh)(B:Nat)(h:RI w B A l)(hl:l.length<=4611686018427387904)(hx:∀x∈l,0<=x/\x<4) :
  bs B1 72 #[a6 A l.length c] w λe w'=>e=.returned (.int .u8 (IU l))/\w=w':=by
 have HR:=yJ h;have HX:=yJ hx;go_enter Sq.func72,Tryz.ntmps72;go_wp2;go_loop [3,8] (λs i=>∃k:Nat,k<=l.length/\i=bb bk k/\s=.int .u8 (IU (l.take k))) (λ_ i=>l.length-(bA i).toNat)
 case atStart=>exact⟨0,by omega,rfl,rfl⟩
 case round =>
  obtain⟨k,hk,rfl,rfl⟩:=hrel;by_cases hlt:k<l.length
  .obtain⟨b,o,rfl,hb,hc⟩:=HR.out.at_ hlt;have HS:=yJ (sC l k hlt);obtain⟨n,hn,We⟩:∃n:Nat,l[k]?.getD 0=n/\n<4:=by
    obtain⟨h1,h2⟩:=HX.out _ (EK l k hlt);exact⟨(l[k]?.getD 0).toNat,by omega,by omega⟩
   rw[hn] at hc;have HN:=yJ hn;have KV:IU (l.take k)<16:=qC _ λy hy=>HX.out y (Aw hy);have HO:=yJ (show bits BinOp.or cU ((IU (l.take k):Nat):Int) (2 ^ n % 256)=((IU (l.take k) ||| 2 ^ n:Nat):Int) from uX ⟨_,KV⟩ ⟨n,We⟩);have K9:=yJ (show IU (l.take (k+1))=IU (l.take k) ||| 2 ^ n by rw[HS.out,HN.out];rfl);generalize IU (l.take k)=x at HO K9 KV;go_wp2;go_round
   case rel=>exact⟨k+1,by omega,by go_num,by rw[K9.out];exact congrArg (Value.int .u8) HO.out⟩
   case measure=>simp[Proofs.intOf];omega
  .have FA:k=l.length:=by omega
   have HS:=yJ (show IU (l.take k)=IU l by rw[zi (by omega)]);clear FA;go_wp2;go_ret;exact⟨am (by rw[HS.out]),rfl⟩
def BW:(B1.info? 74).map (λi=>(i.zero,i.size,i.bytes))=a7 (a7 (.int .u8 0),1,1):=by
 rw[Br];kernel_rfl
def M6 (k:Nat):List Value:=(List.range k).map λi:Nat=>.int .u8 (i:Int)
def rj (k:Nat):M6 (k+1)=M6 k++[.int .u8 k]:=by simp[M6,AY]
def rm (N:Nat)(R:bq->bh->bh->Prop):Prop:=∀(W:bh) (g cap B:Nat),W.ownsRow B 74 1 (.slice (a7 ⟨g,0,a8⟩) N cap) N (M6 N) ->
 bs B1 92 #[.slice (a7 ⟨g,0,a8⟩) N cap,.func (.func 93) #[] #[]] W λe W'=>e=.returned (.tuple #[])/\R (.slice (a7 ⟨g,0,a8⟩) N cap) W W'
def oG (nA hA:Option bw)(nc hc nn m:Nat)(w:bh)(hm:m<=4){R:bq->bh->bh->Prop}(hs:rm (2 ^ m) R) :
  bs B1 61 #[.agg #[a6 nA nn nc,a6 hA m hc]] w λe w'=>e=.returned (.pointer (a7 ⟨w.heap.size+1,0,a8⟩))/\∃(g cap:Nat) (W:bh),R (.slice (a7 ⟨g,0,a8⟩) (2 ^ m) cap) W w'/\w.heap.size+2<=g/\Gr w W/\w.heap.size+1<W.heap.size /\
   W.cell? ⟨w.heap.size+1,0,a8⟩=a7 (a6 nA nn nc)/\W.cell? ⟨w.heap.size+1,1,a8⟩=a7 (a6 hA m hc)/\W.cell? ⟨w.heap.size+1,2,a8⟩=a7 (.slice (a7 ⟨g,0,a8⟩) (2 ^ m) cap) /\
   W.ownsRow (w.heap.size+2) 74 1 (.slice (a7 ⟨g,0,a8⟩) (2 ^ m) cap) (2 ^ m) (M6 (2 ^ m)) /\
   Fb W (.slice (a7 ⟨g,0,a8⟩) (2 ^ m) cap)/\W.heap[w.heap.size+1]?=a7 (bl #[a6 nA nn nc,a6 hA m hc,.slice (a7 ⟨g,0,a8⟩) (2 ^ m) cap] 139 (0,0)):=by
 obtain⟨i0,hi,hz0,hz1,hz2⟩:=info_parts BW;have Ps:=yJ hs;have Yw:((2:Int) ^ m % 256)=((2 ^ m:Nat):Int)/\2 ^ m<=16/\1<=2 ^ m:=by
  have:m=0\/m=1\/m=2\/m=3\/m=4:=by omega
  rcases this with rfl|rfl|rfl|rfl|rfl<;>decide
 obtain⟨GN,Mh,hp3⟩:=Yw;generalize 2 ^ m=N at GN Mh hp3 Ps ⊢;have HP:=yJ GN;go_enter Sq.func61,Tryz.ntmps61;go_wp2;rw[HP.out]
 go_loopw [13] (λi wr=>∃k:Nat,k<=N/\i=.int .u8 k/\∃v,wr.cell? ⟨w.heap.size+1,0,a8⟩=a7 (a6 nA nn nc)/\wr.cell? ⟨w.heap.size+1,1,a8⟩=a7 (a6 hA m hc)/\wr.cell? ⟨w.heap.size+1,2,a8⟩=a7 v/\wr.frozen? ⟨w.heap.size+1,2,a8⟩=cw /\
  wr.ownsRow (w.heap.size+2) 74 1 v k (M6 k)/\Gr w wr/\w.heap.size+2<=wr.heap.size/\Fb wr v/\wr.heap[w.heap.size+1]?=a7 (bl #[a6 nA nn nc,a6 hA m hc,v] 139 (0,0))) (λi _=>N-(bA i).toNat)
 case atStart =>
  refine⟨0,by omega,rfl,.slice a8 0 0,?_,?_,?_,?_,zF _ _ _ _,((Gr.refl w).alloc _).alloc _,by simp,Fb.nil _,?_⟩
  .rw[yN _ _ _ _ (by simp)];rfl
  .rw[yN _ _ _ _ (by simp)];rfl
  .rw[yN _ _ _ _ (by simp)];rfl
  .rw[zD _ _ _ _ (by simp)]
  .have e1:∀A:Obj,w.heap.size+1=(w.alloc A).heap.size:=λA=>by simp
   rw[e1 (bl #[a6 nA nn nc,a6 hA m hc] 25)];exact heap_alloc_new _ _
 case round =>
  obtain⟨k,hk,rfl,v,h0,h1,h2,hfz,hown,hgr,hsz,QP,P8⟩:=hrel;have HFL:=yJ QP;have HOB:=yJ P8;have HG:=yJ hgr;by_cases hlt:k<N
  .have h0':=h0;have hfa:Fb (wr.alloc (bl #[.int .u8 k] 74)) v:=HFL.out.keep λa n c e=>heap_alloc_old wr _ (hown.lt a.block (by rw[e];rfl)).2;go_wp2_with (at_builtin;refine io rfl _ _ 137 rfl (w.heap.size+2) 74 i0 Sq.underlying137 hi hz0 hz1 hz2 _ _ _ rfl (hown.alloc _) hfa ⟨wr.heap.size,0,a8⟩ 1 1 [.int .u8 k] rfl rfl ?c1 ?c2 ?c3 ?c4 ?c5 ?_)
   case c1 =>
    intro j u hj
    match j,hj with
    |0,hj=>simp at hj;subst hj;simp[Addr.add]
   case c2=>intro u hu;simp at hu;subst hu;exact⟨_,rfl⟩
   case c3=>unfold maxLen;omega
   case c4=>omega
   case c5=>simp;omega
   intro v' w1 hown' hgrow hd ag3;have ag4:=yJ ag3;obtain⟨g',cap',rfl⟩:=ownsRow_succ hown';have hne:a7 (w.heap.size+1)≠v.ownBlock:=λh=>by have:=(hown.lt _ h.symm).1;omega
   have k0:w1.cell? ⟨w.heap.size+1,0,a8⟩=a7 (a6 nA nn nc):=hgrow.cell ((za _ _ _ (by show w.heap.size+1<_;omega)).trans h0) hne;have k1:w1.cell? ⟨w.heap.size+1,1,a8⟩=a7 (a6 hA m hc):=hgrow.cell ((za _ _ _ (by show w.heap.size+1<_;omega)).trans h1) hne;have k2:w1.cell? ⟨w.heap.size+1,2,a8⟩=a7 v:=hgrow.cell ((za _ _ _ (by show w.heap.size+1<_;omega)).trans h2) hne;have kf:w1.frozen? ⟨w.heap.size+1,2,a8⟩=false:=by
    rw[An (w:=wr.alloc (bl #[.int .u8 k] 74)) (hgrow.block (w.heap.size+1) (by simp;omega) hne)];exact(Ax _ _ _ (by show w.heap.size+1<_;omega)).trans hfz
   have ag5:=yJ ((hgrow.block (w.heap.size+1) (by simp;omega) hne).trans ((heap_alloc_old wr _ (by omega)).trans HOB.out));have DO:=yJ ((HG.out.alloc (bl #[.int .u8 k] 74)).grown hgrow hd λj hj=>by have:=(hown.lt j hj).1;omega);have ag6:w.heap.size+2<=w1.heap.size:=by have:=hgrow.size;simp at this;omega
   have HO:Hid (w1.ownsRow (w.heap.size+2) 74 1 (.slice (a7 ⟨g',0,a8⟩) (k+1) cap') (k+1) (M6 (k+1))):=yJ (by rw[rj];exact hown');go_wp2;go_roundw
   case rel =>
    refine⟨k+1,by omega,by go_num,_,(yP _ _ _ _ (by simp)).trans k0,(yP _ _ _ _ (by simp)).trans k1,yW _ _ _ k2,(zQ _ _ _ _).trans kf,ownsRow_setCell_below HO.out (by show w.heap.size+1<_;omega) _,DO.out.setCell (by show _<=w.heap.size+1;omega) _,by simpa using ag6,ag4.out.keep λa n c e=>?_,?_⟩
    .have hb:a.block=g':=by injection e with e1 _ _;injection e1 with e1;rw[<-e1]
     have hlt:=(HO.out.lt g' rfl).1;unfold b9;simp only[zH];rw[if_neg (by omega)]
    .unfold b9;simp only[zH,if_true,ag5.out]
     rfl
   case measure=>simp[Proofs.intOf];omega
  .have hkN:k=N:=by omega
   subst hkN;obtain⟨m',rfl⟩:∃m',k=m'+1:=⟨k-1,by omega⟩;obtain⟨g,cap,rfl⟩:=ownsRow_succ hown;have HC:=yJ (Ps.out wr g cap _ hown);have hg:=(hown.lt g rfl).1;have HO:=yJ hown;go_wp2_with fail;refine HC.out.mono ?_;rintro e w2 ⟨rfl,hR⟩;have HR:=yJ hR;go_wp2;go_ret;exact⟨rfl,g,cap,wr,HR.out,hg,HG.out,by omega,h0,h1,h2,HO.out,HFL.out,HOB.out⟩
open Go.Sort Go.Lib
abbrev xa:=Fin 16
def L3 (x:xa):Value:=.int .u8 (x.val:Int)
def Yx (a b:xa):Int:=Hc (wl a.val) (wl b.val)
def ag7:OneCell L3:=λ_=>rfl
def ag8:SWO (ltOf Yx):=by
 constructor
 all_goals decide +kernel
def J4 (m:Nat):Array xa:=((List.range (2 ^ m)).map (Fin.ofNat 16)).toArray
def Cy:Nat->List Nat
 |0=>[0]
 |1=>[0,1]
 |2=>[0,1,3,2]
 |3=>[0,1,3,7,5,2,6,4]
 |_=>[0,1,3,7,15,11,5,13,9,2,6,14,10,4,12,8]
def five {p:Nat->Prop}(h:p 0/\p 1/\p 2/\p 3/\p 4):∀m,m<=4->p m:=λm hm=>by
 have:m=0\/m=1\/m=2\/m=3\/m=4:=by omega
 obtain⟨h0,h1,h2,h3,h4⟩:=h;rcases this with rfl|rfl|rfl|rfl|rfl<;>assumption
def ag9:∀m,m<=4->(pdq (ltOf Yx) (J4 m) 0 (J4 m).size (b5 (J4 m).size) b8 b8).toList.map Fin.val=Cy m :=
 five ⟨by decide +kernel,by decide +kernel,by decide +kernel,by decide +kernel,by decide +kernel⟩
def aha:∀m,m<=4->(J4 m).size=2 ^ m/\∀j,j<2 ^ m->((J4 m)[j]!).val=j :=
 five ⟨by decide +kernel,by decide +kernel,by decide +kernel,by decide +kernel,by decide +kernel⟩
def dq:∀m,m<=4->(Cy m).length=2 ^ m:=five ⟨rfl,rfl,rfl,rfl,rfl⟩
def mw:∀m,m<=4->∀x∈Cy m,x<2 ^ m:=five ⟨by decide,by decide,by decide,by decide,by decide⟩
def Gr.grow {w w':bh}(h:Gr w w'):∃q os',w'=grow (w.drewN q) os':=by
 refine⟨w'.drawn-w.drawn,w'.heap.extract w.heap.size w'.heap.size,?_⟩;have hd:=h.drawn;have e:w'.heap=w.heap++w'.heap.extract w.heap.size w'.heap.size:=by
  apply Array.ext_getElem?;intro k;by_cases hk:k<w.heap.size
  .rw[AU hk];exact h.below.block k hk
  .rw[Array.getElem?_append_right (by omega),Array.getElem?_extract];by_cases hk2:k<w'.heap.size
   .rw[if_pos (by omega)];congr 1;omega
   .rw[if_neg (by omega),Ao (by omega)]
 cases w with
 |mk wh wt wd wo wu =>
  cases w' with
  |mk vh vt vd vo vu =>
   have e1:=h.below.os;have e2:=h.below.tape;have e3:=h.below.output;simp only at e1 e2 e3 e hd;subst e1 e2 e3;unfold Sort.grow World.drewN;simp only[World.mk.injEq,and_true,true_and];exact⟨e,by omega⟩
def SortedIn (sets:List Nat)(g:Nat)(W W':bh):Prop :=
 KT (·=g) W W'/\(∀(i x:Nat),sets[i]?=a7 x->W'.cell? ⟨g,i,a8⟩=a7 (.int .u8 (x:Int)))/\∀n c,Fb W (.slice (a7 ⟨g,0,a8⟩) n c)->Fb W' (.slice (a7 ⟨g,0,a8⟩) n c)
def tq (a b:Nat)(w:bh)(ha:a<16)(hb:b<16) :
  bs B1 93 #[.int .u8 a,.int .u8 b] w λe w'=>e=.returned (bb bk (Hc (wl a) (wl b)))/\Gr w w':=by
 have hla:=bF a;have hlb:=bF b;have HL:=yJ hla;have HL':=yJ hlb;go_enter Sq.func93,Tryz.ntmps93;go_wp2_with fail;refine(gK a w ha).mono ?_;rintro e w1 ⟨v,rfl,ho,hg⟩;have hO:=yJ ho;have hG:=yJ hg;go_wp2_with fail;refine(gK b w1 hb).mono ?_;rintro e w2 ⟨v',rfl,Oh,EE⟩;obtain⟨A,c,rfl,hr⟩:=Bp hO.out;obtain⟨A',c',rfl,NJ⟩:=Bp Oh;have hG2:=yJ (hG.out.trans EE);have HC:=yJ (kT A A' c c' (wl a) (wl b) w2 w2.heap.size ((hr.gr (yL _) EE).more EE.size) NJ (by have:=HL.out;omega) (by have:=HL'.out;omega))
 go_wp2_with fail;refine HC.out.mono ?_;rintro e w3 ⟨rfl,rfl⟩;go_wp2;go_ret;exact⟨rfl,hG2.out⟩
def rn (m:Nat)(hm:m<=4):rm (2 ^ m) (λv W W'=>∃g cap,v=.slice (a7 ⟨g,0,a8⟩) (2 ^ m) cap/\SortedIn (Cy m) g W W'):=by
 intro W g cap B ho;obtain⟨hsz,Vi⟩:=aha m hm;have hpq:=ag9 m hm;have hlen:=dq m hm;have Ii:1<=2 ^ m:=Nat.one_le_two_pow;have Wh:2 ^ m<=16:=(five (p:=λm=>2 ^ m<=16) ⟨by decide,by decide,by decide,by decide,by decide⟩) m hm;have hlt:g<W.heap.size:=(ho.lt g rfl).2;have hH:Holds L3 W g 0 (J4 m):=by
  intro j hj;rw[hsz] at hj;refine⟨?_,?_⟩
  .have:=ho.cells (g:=g) rfl j (.int .u8 j) (by unfold M6;simp[hj]);rw[show(⟨g,0,a8⟩:bw).add j=⟨g,0+j,a8⟩ by unfold Addr.add;split<;>simp_all] at this;rw[this,L3,Vi j hj]
  .rcases ho.2 with⟨h,_⟩|⟨g',c',cur,h,_,hb,_⟩
   .cases h
   .obtain⟨rfl⟩:g=g':=by injection h with h1;injection h1 with h2;injection h2
    simp[cE,hb]
 have hC:CmpLays1 B1 93 #[] L3 Yx g 0 (J4 m).size W:=by
  intro k os dk _ x y;refine(tq x.val y.val _ x.isLt y.isLt).mono ?_;rintro e w' ⟨he,hg⟩;exact⟨he,hg.grow⟩
 have h:=Any.slices_SortFunc_eq BN L3 ag7 Yx ag8 93 #[] g 0 cap (J4 m) W BU hC hH hlt (by rw[hsz];omega);rw[hsz] at h;refine h.mono ?_;rintro e W' ⟨he,n,os,hW⟩;refine⟨he,g,cap,rfl,?_,?_,?_⟩
 rotate_left 2
 .intro n1 c1 QP a n2 c2 e2;obtain⟨cur,t,q1,q2⟩:=QP a n2 c2 e2;have ea:a.block=g:=by injection e2 with z _ _;injection z with z;rw[<-z]
  rw[ea] at q1 ⊢;subst hW;refine⟨putCells L3 0 (pdq (ltOf Yx) (J4 m) 0 (2 ^ m) (b5 (2 ^ m)) b8 b8) cur,t,?_,λu hu=>?_⟩
  .unfold cu;rw[heap_grow_old _ _ (by rw[bD];exact hlt)];unfold putRow mapBlock;have XY:(Sort.ahead W n).heap[g]?=a7 (.cells cur t (0,0)):=q1;simp only[zH,if_true,XY]
   rfl
  .unfold putCells at hu;rw[Array.toList_mapIdx,List.mem_mapIdx] at hu;obtain⟨i,hi,rfl⟩:=hu;split
   .exact⟨_,rfl⟩
   .exact q2 _ (zx hi)
 .subst hW;refine⟨rfl,rfl,rfl,?_,?_,?_⟩
  .show W.drawn<=W.drawn+n;omega
  .have : W.heap.size <= (cu L3 W g 0 n (pdq (ltOf Yx) (J4 m) 0 (2 ^ m) (b5 (2 ^ m)) b8 b8) os).heap.size := by
    unfold cu;rw[size_grow,bD];exact Nat.le_add_right _ _
   exact this
  .intro b hb hne;unfold cu;rw[heap_grow_old _ _ (by rw[bD];exact hb)];unfold putRow mapBlock;rw[zH,if_neg (λh=>hne h.symm)]
   rfl
 .intro i x hx;rw[hsz] at hpq;have hi:i<2 ^ m:=by rw[<-hlen];exact(ze.1 hx).1
  generalize hd:pdq (ltOf Yx) (J4 m) 0 (2 ^ m) (b5 (2 ^ m)) b8 b8=d at hW hpq;have XU:d.size=2 ^ m:=by have:=congrArg List.length hpq;simpa [hlen] using this
  have hS:=(holds_sortWorld L3 W g 0 n (J4 m) d os hlt hH (by rw[XU,hsz])) i (by omega);subst hW;rw[yZ] at hS;rw[hS.1,L3];rw[<-hpq,zL,Array.getElem?_toList] at hx;rw[getElem!_pos d i (by omega)];rw[yS (by omega)] at hx;simp at hx;rw[hx]
def uY (l m:List Int)(k:Nat)(h1:k<l.length)(h2:k<m.length) :
  (l.take k=m.take k->l[k]?.getD 0=m[k]?.getD 0->l.take (k+1)=m.take (k+1))/\(l[k]?.getD 0≠m[k]?.getD 0->l≠m):=by
 refine⟨λh e=>?_,λh e=>h (by rw[e])⟩;rw[bt 0 l k h1,bt 0 m k h2,h,e]
def tt (l m:List (List Int))(k:Nat)(h1:k<l.length)(h2:k<m.length) :
  (l.take k=m.take k->l[k]?.getD []=m[k]?.getD []->l.take (k+1)=m.take (k+1))/\(l[k]?.getD []≠m[k]?.getD []->l≠m):=by
 refine⟨λh e=>?_,λh e=>h (by rw[e])⟩;rw[bt [] l k h1,bt [] m k h2,h,e]
def Da (w:bh)(B:Nat)(A:Option bw)(ls:List (List Int)):Prop :=
 ls≠[]->∃b o,A=a7 ⟨b,o,a8⟩/\b<B/\∀i l,ls[i]?=a7 l->∃A' c,w.cell? ⟨b,o+i,a8⟩=a7 (a6 A' l.length c)/\RI w B A' l
def Da.keep {w w':bh}{B:Nat}{A:Option bw}{ls:List (List Int)}(h:Da w B A ls)(hk:∀b o,b<B->w'.cell? ⟨b,o,a8⟩=w.cell? ⟨b,o,a8⟩):Da w' B A ls:=λhn=>by
 obtain⟨b,o,e,hb,hc⟩:=h hn;refine⟨b,o,e,hb,λi l hl=>?_⟩;obtain⟨A',c,h1,h2⟩:=hc i l hl;exact⟨A',c,(hk _ _ hb).trans h1,h2.keep hk⟩
def Da.gr {w w':bh}{B:Nat}{A:Option bw}{ls:List (List Int)}(h:Da w B A ls)(hB:B<=w.heap.size)(hg:Gr w w'):Da w' B A ls:=h.keep λ_ _ hb=>hg.cell (yO hb hB)
def Da.more {w:bh}{B B':Nat}{A:Option bw}{ls:List (List Int)}(h:Da w B A ls)(hB:B<=B'):Da w B' A ls:=λhn=>by
 obtain⟨b,o,e,hb,hc⟩:=h hn;refine⟨b,o,e,by omega,λi l hl=>?_⟩;obtain⟨A',c,h1,h2⟩:=hc i l hl;exact⟨A',c,h1,h2.more hB⟩
def Da.nil {w:bh}{B:Nat}{A:Option bw}:Da w B A []:=λh=>absurd rfl h
def Da.at_ {w:bh}{B:Nat}{A:Option bw}{ls:List (List Int)}(h:Da w B A ls){k:Nat}(hk:k<ls.length):∃b o A' c,A=a7 ⟨b,o,a8⟩/\b<B/\w.cell? ⟨b,o+k,a8⟩=a7 (a6 A' (ls[k]?.getD []).length c)/\RI w B A' (ls[k]?.getD []):=by
 obtain⟨b,o,e,hb,hc⟩:=h (λe=>by rw[e] at hk;simp at hk);obtain⟨A',c,h1,h2⟩:=hc k _ (yM hk);refine⟨b,o,A',c,e,hb,?_⟩;rw[yM hk];exact⟨h1,h2⟩
def gp (l:List (List Int))(k:Nat)(h:k<l.length):l[k]?.getD []∈l:=by
 rw[yM h];exact zx h
def cN {w:bh}{B b:Nat}{l:List Int}{t:cr}{f:Nat×Nat}(h:w.heap[b]?=a7 (.cells (l.map (bb bk)).toArray t f))(hB:b<B):RI w B (a7 ⟨b,0,a8⟩) l:=λ_ =>
 ⟨b,0,rfl,hB,λi x hx=>by
  unfold cK;rw[h];show(l.map (bb bk)).toArray[0+i]?=_
  rw[yZ,zA,zL,hx];rfl⟩
def heap_alloc_new (w:bh)(o:Obj):(w.alloc o).heap[w.heap.size]?=a7 o:=by
 show(w.heap.push o)[w.heap.size]?=_;simp
def heap_alloc_old (w:bh)(o:Obj){b:Nat}(h:b<w.heap.size):(w.alloc o).heap[b]?=w.heap[b]?:=by
 show(w.heap.push o)[b]?=_;simp[Al,Bg h]
def aK (w:bh)(o:Obj){b:Nat}(h:b=w.heap.size):(w.alloc o).heap[b]?=a7 o:=by subst h;exact heap_alloc_new w o
def De:List (List Int):=[[0],[1],[0,2]]
def kJ (w:bh):bs B1 25 #[] w λe w'=>∃A,e=.returned (a6 A De.length 3)/\Da w' w'.heap.size A De/\Gr w w':=by
 go_enter Sq.func25,Tryz.ntmps25;go_wp2;go_ret;refine⟨_,rfl,λ_=>⟨_,0,rfl,by simp,λi l hl=>?_⟩,((((Gr.refl w).alloc _).alloc _).alloc _).alloc _⟩
 match i,hl with
 |0,hl =>
  simp[De] at hl;subst hl;refine⟨a7 ⟨w.heap.size,0,a8⟩,1,?_,cN (l:=[0]) (t:=3) (f:=(0,0)) ?_ (by simp;omega)⟩
  .rw[yN _ _ _ _ (by simp)];rfl
  .rw[heap_alloc_old _ _ (by simp;omega),heap_alloc_old _ _ (by simp;omega),heap_alloc_old _ _ (by simp),aK _ _ rfl];rfl
 |1,hl =>
  simp[De] at hl;subst hl;refine⟨a7 ⟨w.heap.size+1,0,a8⟩,1,?_,cN (l:=[1]) (t:=3) (f:=(0,0)) ?_ (by simp)⟩
  .rw[yN _ _ _ _ (by simp)];rfl
  .rw[heap_alloc_old _ _ (by simp),heap_alloc_old _ _ (by simp),aK _ _ (by simp)];rfl
 |2,hl =>
  simp[De] at hl;subst hl;refine⟨a7 ⟨w.heap.size+2,0,a8⟩,2,?_,cN (l:=[0,2]) (t:=3) (f:=(0,0)) ?_ (by simp)⟩
  .rw[yN _ _ _ _ (by simp)];rfl
  .rw[heap_alloc_old _ _ (by simp),aK _ _ (by simp)];rfl
 |k+3,hl=>simp[De] at hl
def CY (l:List Int):Cc:=⟨l,[⟨12,3,2,[]⟩,⟨6,2,2,[0]⟩,⟨6,1,1,[]⟩]⟩
def rp (A:Option bw)(c:Nat)(l:List Int)(w:bh):bs B1 20 #[a6 A l.length c] w λe w'=>∃hA,e=.returned (Cj A hA (CY l) c 3)/\Db w' w'.heap.size hA (CY l).B2/\Gr w w'/\hA=a7 ⟨w.heap.size+2,0,a8⟩/\w'.heap[w.heap.size+1]?=a7 (bl #[bb bk 0] 3 (0,0)) /\
      w'.heap[w.heap.size+2]?=a7 (bl #[bb bk 12,bb bk 3,bb bk 2,.slice a8 0 0,bb bk 6,bb bk 2,bb bk 2,.slice (a7 ⟨w.heap.size+1,0,a8⟩) 1 1,bb bk 6,bb bk 1,bb bk 1,.slice a8 0 0] 28 (0,0)):=by
  go_enter Sq.func20,Tryz.ntmps20;go_wp2;obtain⟨W,hW⟩:∃W:bh,W=((w.alloc (bl #[a6 A l.length c,.slice (a7 ⟨w.heap.size+1+1,0,a8⟩) 3 3] 25)).alloc (bl #[bb bk 0] 3)).alloc (bl #[bb bk 12,bb bk 3,bb bk 2,.slice a8 0 0,bb bk 6,bb bk 2,bb bk 2,.slice (a7 ⟨w.heap.size+1,0,a8⟩) 1 1,bb bk 6,bb bk 1,bb bk 1,.slice a8 0 0] 28):=⟨_,rfl⟩
  rw[<-hW];have s0:W.cell? ⟨w.heap.size,0,a8⟩=a7 (a6 A l.length c):=by
    rw[hW,za _ _ _ (by simp;omega),za _ _ _ (by simp),yN _ _ _ _ rfl];rfl
  have s1:W.cell? ⟨w.heap.size,1,a8⟩=a7 (.slice (a7 ⟨w.heap.size+1+1,0,a8⟩) 3 3):=by
    rw[hW,za _ _ _ (by simp;omega),za _ _ _ (by simp),yN _ _ _ _ rfl];rfl
  refine bodyPost_ret (v:=Cj A (a7 ⟨w.heap.size+1+1,0,a8⟩) (CY l) c 3) (by simp[results,Tryz.results20,go_sem,s0,s1,Cj,CY]) rfl ⟨_,rfl,?_,?_,rfl,?_,?_⟩
  · have hz:w.heap.size+1+1<W.heap.size:=by rw[hW];simp
    have hc:∀o,W.cell? ⟨w.heap.size+1+1,o,a8⟩=(#[bb bk 12,bb bk 3,bb bk 2,.slice a8 0 0,bb bk 6,bb bk 2,bb bk 2,.slice (a7 ⟨w.heap.size+1,0,a8⟩) 1 1,bb bk 6,bb bk 1,bb bk 1,.slice a8 0 0]:Array bq)[o]?:=λo=>by
      rw[hW,yN _ _ _ _ (by simp)]
    have Em:RI W W.heap.size (a7 ⟨w.heap.size+1,0,a8⟩) [0]:=cN (l:=[0]) (t:=3) (f:=(0,0)) (by
      rw[hW,heap_alloc_old _ _ (by simp),aK _ _ (by simp)];rfl) (by omega)
    refine λ_=>⟨_,0,rfl,hz,λi h hh=>?_⟩
    match i,hh with
    |0,hh=>simp[CY] at hh;subst hh;exact⟨hc _,hc _,hc _,a8,0,hc _,.nil⟩
    |1,hh=>simp[CY] at hh;subst hh;exact⟨hc _,hc _,hc _,_,1,hc _,Em⟩
    |2,hh=>simp[CY] at hh;subst hh;exact⟨hc _,hc _,hc _,a8,0,hc _,.nil⟩
    |k+3,hh=>simp[CY] at hh
  · rw[hW];exact(((Gr.refl w).alloc _).alloc _).alloc _
  · rw[hW,heap_alloc_old _ _ (by simp),aK _ _ (by simp)]
  · rw[hW,aK _ _ (by simp)]
def mz (A:Option bw)(c:Nat)(l:List Int)(w:bh):bs B1 20 #[a6 A l.length c] w λe w'=>∃hA,e=.returned (Cj A hA (CY l) c 3)/\Db w' w'.heap.size hA (CY l).B2/\Gr w w' :=
 (rp A c l w).mono λe w' ⟨hA,h1,h2,h3,_⟩=>⟨hA,h1,h2,h3⟩
def fe (l:List Int)(d:Int):List Int:=if d∈l then l else(l++[d]).mergeSort λx y=>decide (x<=y)
def Js (c:Cc)(k:Nat)(d:Int):Cc:={ c with B2:=c.B2.set k { c.h k with off:=fe (c.h k).off d } }
def I7 (a b:CR):Nat->Nat
 |0=>0
 |n+1=>I7 a b n+(wl (a n ^^^ b n)).length
def Fq (r:CR):List CR->Option (CR×Nat)
 |[]=>a8
 |l@(_::_)=>l.foldl (λo ρ=>match o with
  |none=>a7 (ρ,I7 ρ r 5)
  |some b=>if I7 ρ r 5<b.2 then a7 (ρ,I7 ρ r 5) else a7 b) a8
def jT (r:CR)(l:List CR)(ρ:CR):Fq r (l++[ρ])=(match Fq r l with
  |none=>a7 (ρ,I7 ρ r 5)
  |some b=>if I7 ρ r 5<b.2 then a7 (ρ,I7 ρ r 5) else a7 b):=by
 cases l with
 |nil=>rfl
 |cons a l =>
  show((a::l)++[ρ]).foldl _ a8=_;rw[List.foldl_append]
  rfl
def rq {r:CR}:∀(n:Nat) (l:List CR) (p:CR×Nat),l.length=n->Fq r l=a7 p->p.1∈l:=by
 intro n
 induction n with
 |zero =>
  intro l p hl h;rw[zj hl] at h;cases h
 |succ n ih =>
  intro l p hl h;rcases List.eq_nil_or_concat l with rfl|⟨l',b,rfl⟩
  .simp at hl
  .rw[List.concat_eq_append] at h hl ⊢;rw[jT] at h;have hl':l'.length=n:=by simpa using hl
   cases ho:Fq r l' with
   |none=>rw[ho] at h;cases h;simp
   |some q =>
    rw[ho] at h;simp only at h;split at h
    .cases h;simp
    .have e:=Option.some.inj h;rw[<-e];exact List.mem_append_left _ (ih l' q hl' ho)
def fR {w:bh}{B:Nat}{A:Option bw}{l:List Int}{K:Nat->Prop}(h:RI w B A l)(hK:∀b,b<B->K b):Hb w K A l:=λhn=>by
 obtain⟨b,o,e,hb,hc⟩:=h hn;exact⟨b,o,e,hK b hb,hc⟩
def xd {w:bh}{B:Nat}{A:Option bw}{l:List CF}{K:Nat->Prop}(h:Db w B A l)(hK:∀b,b<B->K b):EZ w K A l:=λhn=>by
 obtain⟨b,o,e,hb,hc⟩:=h hn;refine⟨b,o,e,hK b hb,λi x hx=>?_⟩;obtain⟨h1,h2,h3,A',c,h4,h5⟩:=hc i x hx;exact⟨h1,h2,h3,A',c,h4,fR h5 hK⟩
def R4 (B cb g:Nat):Nat->Prop:=λb=>b<B\/b=cb\/b=g
def WV (w:bh)(cb g:Nat)(c:Cc)(sets:List Nat)(nA hA:Option bw)(nc hc cap:Nat):Prop :=
 Fb w (.slice (a7 ⟨g,0,a8⟩) sets.length cap)/\w.heap[cb]?=a7 (bl #[a6 nA c.B3.length nc,a6 hA c.B2.length hc,.slice (a7 ⟨g,0,a8⟩) sets.length cap] 139 (0,0))
def jU (nA hA:Option bw)(nc hc:Nat)(c:Cc)(w:bh)(B:Nat)(hB:B<=w.heap.size)(hn:RI w B nA c.B3)(hh:Db w B hA c.B2)(hm:c.B2.length<=4) :
  bs B1 61 #[Cj nA hA c nc hc] w λe w'=>e=.returned (.pointer (a7 ⟨w.heap.size+1,0,a8⟩))/\Gr w w'/\∃g cap,w.heap.size+2<=g /\
   Eo w' (R4 B (w.heap.size+1) g) (w.heap.size+1) c (Cy c.B2.length) nA hA nc hc g cap/\WV w' (w.heap.size+1) g c (Cy c.B2.length) nA hA nc hc cap:=by
 refine(oG nA hA nc hc c.B3.length c.B2.length w hm (rn c.B2.length hm)).mono ?_;rintro e w' ⟨rfl,g,cap,W,⟨g',cap',hv,hk,hs,hsf⟩,hg,hgr,hz,h0,h1,h2,ho,QP,P8⟩;obtain⟨rfl,rfl⟩:g=g'/\cap=cap':=by injection hv with a b c;injection a with a;injection a with a;exact⟨a,c⟩
 have hgW:=(ho.lt g rfl).2;have UD:Gr w w':=⟨⟨hk.os.trans hgr.below.os,hk.tape.trans hgr.below.tape,hk.output.trans hgr.below.output,yR hgr.size hk.size,λb hb=>(hk.block b (yO hb hgr.size) (by show b≠g;omega)).trans (hgr.below.block b hb)⟩,yR hgr.drawn hk.drawn⟩;refine⟨rfl,UD,g,cap,hg,?_,?_,?_⟩
 rotate_left
 .rw[dq _ hm];exact hsf _ _ QP
 .rw[dq _ hm];exact(hk.block _ hz (by show ¬w.heap.size+1=g;omega)).trans P8
 have hc1:∀o,w'.cell? ⟨w.heap.size+1,o,a8⟩=W.cell? ⟨w.heap.size+1,o,a8⟩:=λo=>hk.cell (p:=⟨w.heap.size+1,o,a8⟩) hz (by show w.heap.size+1≠g;omega);refine⟨?_,Or.inr (Or.inl rfl),(hc1 0).trans h0,(hc1 1).trans h1,?_,Or.inr (Or.inr rfl),hs,fR (hn.gr hB UD) λb hb=>Or.inl hb,xd (hh.keep λb o hb=>UD.cell (yO hb hB)) λb hb=>Or.inl hb⟩
 .rintro b (h|h|h)
  .have:=UD.size;omega
  .have:=hk.size;omega
  .have:=hk.size;omega
 .rw[dq _ hm];exact(hc1 2).trans h2
def ab2 (nA hA:Option bw)(nc hc:Nat)(c:Cc)(B:Nat)(w:bh)(e:Ending)(w':bh):Prop :=
 Gr w w' ∧ if Cn c = 0 then ∃ cb g cap, e = .returned (.tuple #[.pointer (a7 ⟨cb, 0, a8⟩), bb bk 0]) ∧ w.heap.size <= cb ∧ cb < g ∧ Eo w' (R4 B cb g) cb c (Cy c.B2.length) nA hA nc hc g cap ∧ WV w' cb g c (Cy c.B2.length) nA hA nc hc cap
   else e=.returned (.tuple #[.pointer a8,bb bk (Cn c)])
def kK (nA hA:Option bw)(nc hc:Nat)(c:Cc)(w:bh)(B:Nat)(hB:B<=w.heap.size)(hn:RI w B nA c.B3)(hh:Db w B hA c.B2)(F4:c.B3.length<=4611686018427387904)(hl2:c.B2.length<=4611686018427387904)
  (DN:∀h∈c.B2,h.off.length<=4611686018427387904) :
  bs B1 44 #[Cj nA hA c nc hc] w (ab2 nA hA nc hc c B w):=by
 have HN:=yJ hn;have HH:=yJ hh;have Qd:=yJ DN;unfold Cj;obtain⟨W0,hW0⟩:∃W0:bh,W0=w.alloc (bl #[a6 nA c.B3.length nc,a6 hA c.B2.length hc] 25):=⟨_,rfl⟩;have hg0:Gr w W0:=hW0▸(Gr.refl w).alloc _;have Ld:RI W0 B nA c.B3:=HN.out.gr hB hg0;have hh0:Db W0 B hA c.B2:=HH.out.keep λb o hb=>hg0.cell (yO hb hB);have hz0:W0.heap.size=w.heap.size+1:=by rw[hW0];simp
 have HW:=yJ hW0;have HC:=yJ (oD nA hA nc hc c W0 B (by omega) Ld hh0 F4 hl2 Qd.out);have Du:=yJ hg0;have HN0:=yJ Ld;have HH0:=yJ hh0;unfold Cj at HC;go_enter Sq.func44,Tryz.ntmps44;go_wp2_with fail;rw[<-HW.out];refine HC.out.mono ?_;rintro e w1 ⟨rfl,hg1⟩;have DO:=yJ hg1;by_cases hE:Cn c=0
 .rw[hE];have hm:=Cc.Ok.of hE;have RS:Gr W0 w1:=DO.out;have HS:=yJ (jU nA hA nc hc c w1 B (by have:=RS.size;omega) (HN0.out.gr (by omega) RS) (HH0.out.keep λb o hb=>RS.cell (yO hb (by omega))) hm.h4);have hc0:w1.cell? ⟨w.heap.size,0,a8⟩=a7 (a6 nA c.B3.length nc):=(RS.cell (by show w.heap.size<_;omega)).trans (by rw[HW.out];simp);have hc1:w1.cell? ⟨w.heap.size,1,a8⟩=a7 (a6 hA c.B2.length hc):=(RS.cell (by show w.heap.size<_;omega)).trans (by rw[HW.out];simp)
  have hz1:=RS.size;unfold Cj at HS;have HE:=yJ hE;go_wp2_with fail;refine HS.out.mono ?_;rintro e w2 ⟨rfl,hg2,g,cap,hg,hK,hKF⟩;have HRF:=yJ hKF;have HR:=yJ hK;have Gt:=yJ hg2;go_wp2;go_ret2;refine⟨Du.out.trans (DO.out.trans Gt.out),?_⟩;rw[if_pos HE.out];exact⟨_,g,cap,rfl,by omega,by omega,HR.out,HRF.out⟩
 .have HE:=yJ hE;obtain⟨k,hk⟩:∃k,k=Cn c:=⟨_,rfl⟩;rw[<-hk] at hE ⊢;have HK:=yJ hk;clear hk;go_wp2;go_ret2;refine⟨Du.out.trans DO.out,?_⟩;rw[if_neg HE.out];show Ending.returned (.tuple #[.pointer a8,bb bk k])=_;rw[HK.out]
end Go.Sq
