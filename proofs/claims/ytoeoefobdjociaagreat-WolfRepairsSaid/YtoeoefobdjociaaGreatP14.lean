/- Parts of the proof. -/
import Derived.Test.YtoeoefobdjociaaGreatP13
set_option linter.all false
set_option maxHeartbeats 3200000
set_option maxRecDepth 1000000
open Go.Value renaming slice->Z,int->U,pointer->O
open Option renaming some->Y,none->J
open Go renaming World->X,heap_alloc_old->M,Value->G,Calls->H,Addr->S,TypeId->bw
open Go.IntKind renaming i64->C,u8->b7
open Go.Obj renaming cells->E
open Go.Proofs renaming intOf->V,size_putRow->L,sortWorld->bA
open Go.Builtin renaming zeroCells->ak,append_->bk
open Go.Lib renaming bitLen->bb
open Go.World renaming putObj_heap_other->bh,setCell->bo,frozen?->bW,cell?->b6
open Bool renaming true->bl,false->bD
open Go.Proofs.Tryz renaming ntmps33->bq,ntmps68->bs,ntmps84->b5
namespace Go.Sq
open Go.Proofs
open Go.RowKit Go.Shelf
def vF (nb:Nat)(x y s:Int)(w:X)(hc:w.heap[nb]?=Y (E #[U C x] 108 (0,0)))(hs:IntKind.i64.wrap (x+y)=s) :
  H DU 55 #[.pointer (Y ⟨nb,0,J⟩),U C y] w λe w'=>e=.returned (U C s)/\w'=w.setCell ⟨nb,0,J⟩ (U C s):=by
 obtain⟨h1,h2,h3⟩:=one_cell hc;have a6:=run_call_add (P:=DU) Sq.func92 (by kernel_rfl) (by kernel_rfl) (by kernel_rfl) C (by kernel_rfl) (y:=y) (s:=s) h1 h2 (by simp[go_sem];exact hs);go_enter Sq.func55,Tryz.ntmps55;go_wp2;go_ret;exact⟨rfl,rfl⟩
def tA (nb:Nat)(x:Int)(w:X)(hc:w.heap[nb]?=Y (E #[U C x] 108 (0,0))) :
  H DU 56 #[.pointer (Y ⟨nb,0,J⟩)] w λe w'=>e=.returned (U C x)/\w'=w:=by
 obtain⟨h1,h2,h3⟩:=one_cell hc;have hload:=run_call_load (P:=DU) Sq.func93 (by kernel_rfl) (by kernel_rfl) (by kernel_rfl) C (by kernel_rfl) h1;go_enter Sq.func56,Tryz.ntmps56;go_wp2;go_ret;exact⟨rfl,rfl⟩
def tB (nb:Nat)(x s:Int)(ρ:EH)(w:X)(hc:w.heap[nb]?=Y (E #[U C x] 108 (0,0)))(hs:IntKind.i64.wrap (x+1)=s) :
  H DU 54 #[Fl ρ,.pointer (Y ⟨nb,0,J⟩)] w λe w'=>e=.returned (.tuple #[])/\KT (·=nb) w w'/\w'.heap[nb]?=Y (E #[U C s] 108 (0,0)):=by
 have zY:=(one_cell hc).2.2;obtain⟨W,hW⟩:∃W,W=w.alloc (E #[.int .u8 (ρ 0),.int .u8 (ρ 1),.int .u8 (ρ 2),.int .u8 (ρ 3),.int .u8 (ρ 4)] 72):=⟨_,rfl⟩;have zt:W.heap[nb]?=Y (E #[U C x] 108 (0,0)):=by rw[hW,M _ _ zY];exact hc
 have HK:=Ay (show KT (·=nb) w W by rw[hW];exact KT.E4 ((Gr.refl w).alloc _));have a6:=Ay (vF nb x 1 s W zt hs);have HW:=Ay hW;have a7:=Ay zt;unfold Fl;go_enter Sq.func54,Tryz.ntmps54;go_wp2_with fail;rw[<-HW.out];refine a6.out.mono ?_;rintro e w' ⟨rfl,hw'⟩;have HW':=Ay hw';clear hw';go_wp2;go_end0;refine⟨rfl,HK.out.trans (by rw[HW'.out];exact KT.setCell (T:=(·=nb)) W (p:=⟨nb,0,J⟩) rfl _),?_⟩
 rw[HW'.out];exact one_set a7.out
def ci {W:X}{b i:Nat}{a:Array G}{u:G}{t:bw}{f:Nat×Nat}(h:W.heap[b]?=Y (.cells a t f)):(W.setCell ⟨b,i,J⟩ u).heap[b]?=Y (.cells (a.setIfInBounds i u) t f):=by
 unfold bo;simp only[BA,if_true,h]
 rfl
def Gx {W:X}{b:Nat}{a:Array G}{t:bw}(h:W.heap[b]?=Y (.cells a t (0,0))):(∀i:Nat,W.cell? ⟨b,i,J⟩=a[i]?)/\(∀i,W.frozen? ⟨b,i,J⟩=bD)/\b<W.heap.size:=by
 refine⟨λi=>?_,λi=>?_,(Az.1 h).1⟩
 .unfold b6;simp only[h];rfl
 .unfold bW;simp[h]
def IL (m:Int)(r:EH)(b:Bool):Array Value:=#[.int .i32 m,.int .u32 0,.int .u8 (r 0),.int .u8 (r 1),.int .u8 (r 2),.int .u8 (r 3),.int .u8 (r 4),.bool b]
def tC (kb:Nat)(ρ:EH)(f:G)(w:X)(hk:w.heap[kb]?=Y (.cells (IL 0 (λ_=>0) bD) 118 (0,0))) :
  H DU 63 #[.pointer (Y ⟨kb,0,J⟩),Fl ρ,f] w λe w'=>e=.returned (.tuple #[])/\KT (·=kb) w w'/\w'.heap[kb]?=Y (.cells (IL 0 ρ bl) 118 (0,0)):=by
 obtain⟨W,hW⟩:∃W,W=w.alloc (E #[.int .u8 (ρ 0),.int .u8 (ρ 1),.int .u8 (ρ 2),.int .u8 (ρ 3),.int .u8 (ρ 4)] 72):=⟨_,rfl⟩;have zY:=(Az.1 hk).1;have zo:W.heap[kb]?=Y (.cells (IL 0 (λ_=>0) bD) 118 (0,0)):=by rw[hW,M _ _ zY];exact hk
 obtain⟨hc,hf,_⟩:=Gx zo;have h0:=hc 0;have f0:=hf 0;have zy:=ci (i:=0) (u:=.int .i32 1) zo;have HK:=Ay (show KT (·=kb) w W by rw[hW];exact KT.E4 ((Gr.refl w).alloc _));obtain⟨hc3,hf3,_⟩:=Gx zy;have g0:=hc3 0;have g2:=hc3 2;have g3:=hc3 3;have g4:=hc3 4;have g5:=hc3 5;have g6:=hc3 6;have g7:=hc3 7;have e0:=hf3 0;have e2:=hf3 2;have e3:=hf3 3;have e4:=hf3 4;have e5:=hf3 5;have e6:=hf3 6
 have e7:=hf3 7;simp[IL] at h0 g0 g2 g3 g4 g5 g6 g7;have hb:∀i,i<5->(W.setCell ⟨kb,0,J⟩ (.int .i32 1)).cell? ⟨w.heap.size,i,J⟩=Y (.int .u8 (ρ i)):=λi hi=>by
  rw[AL _ _ _ _ (λe=>by have:kb=w.heap.size:=AX Addr.block e;omega),hW,AE _ _ _ _ rfl]
  match i,hi with
  |0,_=>rfl
  |1,_=>rfl
  |2,_=>rfl
  |3,_=>rfl
  |4,_=>rfl
 have b0:=hb 0 (by omega);have b1:=hb 1 (by omega);have b2:=hb 2 (by omega);have b3:=hb 3 (by omega);have b4:=hb 4 (by omega);have HW:=Ay hW;have a7:=Ay zo;have a6:=Ay zy;clear hc hf hc3 hf3 zy zo hk hW hb;unfold Fl;go_enter_defers Sq.func63,Tryz.ntmps63;go_wp2_with (go_at_call 85;rw[<-HW.out];refine(Dw ⟨kb,0,J⟩ _ h0 f0).mono ?_;rintro e w' ⟨rfl,rfl⟩);go_quiet (fail);go_wp2;have HS:=Ay (ci (i:=7) (u:=.bool bl) (ci (i:=6) (u:=.int .u8 (ρ 4)) (ci (i:=5) (u:=.int .u8 (ρ 3)) (ci (i:=4) (u:=.int .u8 (ρ 2)) (ci (i:=3) (u:=.int .u8 (ρ 1)) (ci (i:=2) (u:=.int .u8 (ρ 0)) (show((W.setCell ⟨kb,0,J⟩ (.int .i32 1)).drewN nq).heap[kb]?=_ from a6.out)))))))
 refine leaves_cons (f:=86) (args:=#[.pointer (Y ⟨kb,0,J⟩)]) (by simp) (by simp[go_sem]) ?_;obtain⟨hc4,hf4,_⟩:=Gx HS.out;refine(Dv ⟨kb,0,J⟩ .returning _ (by rw[hc4 0];rfl) (hf4 0)).mono ?_;rintro e u' w'' ⟨rfl,rfl,rfl⟩;have k:∀(w:X) (i:Nat) (v:G),KT (·=kb) w (w.setCell ⟨kb,i,J⟩ v):=λw i v=>KT.setCell (T:=(·=kb)) w (p:=⟨kb,i,J⟩) rfl v;refine⟨.tuple #[],results_none rfl _ _ _,rfl,HK.out.trans ((k _ 0 _).trans ((KT.E4 ((Gr.refl _).drewN nq)).trans ((k _ 2 _).trans ((k _ 3 _).trans ((k _ 4 _).trans ((k _ 5 _).trans ((k _ 6 _).trans ((k _ 7 _).trans (k _ 0 _))))))))),?_⟩
 exact ci (i:=0) (u:=.int .i32 0) HS.out
def vG (kb xb:Nat)(ρ:EH)(f:G)(w:X)(hx:w.cell? ⟨xb,0,J⟩=Y f)(aA:xb<w.heap.size)(hk:w.heap[kb]?=Y (.cells (IL 0 (λ_=>0) bD) 118 (0,0))) :
  H DU 62 #[Fl ρ,.pointer (Y ⟨kb,0,J⟩),.pointer (Y ⟨xb,0,J⟩)] w λe w'=>e=.returned (.tuple #[])/\KT (·=kb) w w'/\w'.heap[kb]?=Y (.cells (IL 0 ρ bl) 118 (0,0)):=by
 obtain⟨W,hW⟩:∃W,W=w.alloc (E #[.int .u8 (ρ 0),.int .u8 (ρ 1),.int .u8 (ρ 2),.int .u8 (ρ 3),.int .u8 (ρ 4)] 72):=⟨_,rfl⟩;have zY:=(Az.1 hk).1;have HO:=Ay (tC kb ρ f W (by rw[hW,M _ _ zY];exact hk));have HK:=Ay (show KT (·=kb) w W by rw[hW];exact KT.E4 ((Gr.refl w).alloc _));have HW:=Ay hW;unfold Fl at HO ⊢;go_enter Sq.func62,Tryz.ntmps62;go_wp2_with fail;rw[<-HW.out];refine HO.out.mono ?_
 rintro e w' ⟨rfl,a6,zo⟩;have a7:=Ay (HK.out.trans a6);have a8:=Ay zo;go_wp2;go_end0;exact⟨rfl,a7.out,a8.out⟩
def ky {T0 K:Nat->Prop}{cb:Nat}{c:D9}{sets:List Nat}{nA hA:Option S}{nc hc sb sc n:Nat}{r:EH}{w:X}(hC:FZ w K cb c sets nA hA nc hc sb sc)(hT:∀b,T0 b->b<w.heap.size)(hK:∀b,K b->¬T0 b)(hr:∀i,c.has (r i)) :
  Mn T0 K cb c sets nA hA nc hc sb sc w.heap.size (w.heap.size+1) (w.heap.size+2) r n
   (((w.alloc (E #[.pointer (Y ⟨cb,0,J⟩)] 69)).alloc (E #[.int .u8 (r 0),.int .u8 (r 1),.int .u8 (r 2),.int .u8 (r 3),.int .u8 (r 4)] 72)).alloc (E #[U C n] 3)):=by
 have hg:Gr w (((w.alloc (E #[.pointer (Y ⟨cb,0,J⟩)] 69)).alloc (E #[.int .u8 (r 0),.int .u8 (r 1),.int .u8 (r 2),.int .u8 (r 3),.int .u8 (r 4)] 72)).alloc (E #[U C n] 3)):=(((Gr.refl w).alloc _).alloc _).alloc _;refine⟨hC.keep hg.size λb o hb=>hg.cell (hC.lt b hb),hK,⟨?_,λh=>by have:=hT _ h;omega,by simp;omega⟩,⟨λi hi=>?_,λh=>by have:=hT _ h;omega,by simp⟩,⟨?_,by simp⟩,⟨by omega,λb hb=>by have:=hC.lt b hb;omega⟩,hr⟩
 .rw[AW _ _ _ (by simp;omega),AW _ _ _ (by simp),AE _ _ _ _ rfl];rfl
 .rw[AW _ _ _ (by simp),AE _ _ _ _ (by simp),CA _ _ _ (by simp),By _ _ _ _ (by simp)]
  match i,hi with
  |0,_=>exact⟨rfl,rfl⟩
  |1,_=>exact⟨rfl,rfl⟩
  |2,_=>exact⟨rfl,rfl⟩
  |3,_=>exact⟨rfl,rfl⟩
  |4,_=>exact⟨rfl,rfl⟩
 .rw[AE _ _ _ _ (by simp)];rfl
attribute [local go_sem] Oper.semAt_some
def Qv:Code->Code
 |.seq _ b=>b
 |c=>c
noncomputable abbrev PD:Code:=Qv (Tryz.f89.body.getD .skip)
def Lp (b4:Nat):Deferred:={ target:=.fn (.func 90) #[],args:=#[.pointer (Y ⟨b4,0,J⟩)] }
def dD (b2 b3 b4 r:Nat):Act:=⟨#[.pointer (Y ⟨b4,0,J⟩),.pointer (Y ⟨b2,0,J⟩),.pointer (Y ⟨r,0,J⟩),.pointer (Y ⟨b3,0,J⟩),undef,undef,undef,undef,undef,undef,undef,undef],[Lp b4]⟩
def oI {T0 K:Nat->Prop}{cb:Nat}{c:D9}{sets:List Nat}{nA hA:Option S}{nc hc sb sc b2 b3 b4 rb F k:Nat}{fc:Array G}{r:EH}{w:X}
  (aP:c.Ok) (aC:∀x∈sets,c.has x) (aQ:sets.length<=16) (hC:FZ w K cb c sets nA hA nc hc sb sc) (hT:∀b,T0 b->b<w.heap.size) (hK:∀b,K b->¬T0 b) (hr:∀i,c.has (r i)) (hz:∀i,1<=i->r i=0) (hk:1+k=c.DW.length)
  (h2:w.cell? ⟨b2,0,J⟩=Y (.pointer (Y ⟨cb,0,J⟩))) (a7:∀i,i<5->w.cell? ⟨rb,i,J⟩=Y (.int .u8 (r i))) (h3:w.cell? ⟨b3,0,J⟩=Y (.func (.func F) #[] fc)) (a8:b3<w.heap.size/\¬T0 b3)
  (I:List EH->X->Prop) (hI:∀pre W W',I pre W->(∀b,T0 b->W'.heap[b]?=W.heap[b]?)->I pre W') (h0:I [] w)
  (zS:∀(x:Array G) (w:X),(callFunc F x).run DU w=.ok (.enter F x) w)
  (aL:∀(pre:List EH) (ρ:EH) (W:X),pre++[ρ] <+: Eh c sets k r 1->KT (λb=>T0 b\/w.heap.size<=b) w W->I pre W->H DU F (#[Fl ρ]++fc) W λe W'=>e=.returned (.tuple #[])/\KT T0 W W'/\I (pre++[ρ]) W') :
  PD.wp DU (λe a' w'=>(e=.normal\/e=.ret)/\(e=.normal/\I (Eh c sets k r 1) w'/\∃D,a'.defers=[{ target:=.collected D,args:=#[] },Lp b4]/\¬T0 D/\w'.heap[D]?=Y (.deferred (Y [])))) (dD b2 b3 b4 rb) w:=by
 have HC:=Ay hC;have HDO:=Ay aL;have HT:=Ay hT;have HK:=Ay hK;have HI:=Ay hI;have H0:=Ay h0;have HR:=Ay hr;have HZ:=Ay hz;have HST:=Ay aC;have r0:=a7 0 (by omega);have r1:=a7 1 (by omega);have r2:=a7 2 (by omega);have r3:=a7 3 (by omega);have r4:=a7 4 (by omega);have a6:=lY cb 1 r w;rw[<-callsIn_wide (n:=0)] at a6;unfold Fl at a6;rw[show(((1:Nat):Int))=1 from rfl] at a6;have HF:=Ay a6
 have aR:=Ay h3;clear hC aL hT hK hI h0 hr hz aC a7 a6 h3;unfold dD PD Tryz.f89;simp only[AY,Qv];rw[<-wpIn_wide (n:=0)]
 gi_wp2_with fail
 refine⟨trivial,rfl,HF.out.mono ?_⟩;rintro e w1 ⟨rfl,aD⟩;have hs:=ky (T0:=T0) (K:=K) (n:=1) (r:=r) HC.out HT.out HK.out HR.out;rw[show(((1:Nat):Int))=1 from rfl,<-aD] at hs;have HS:=Ay hs;have zJ:Gr w w1:=by rw[aD];exact(((Gr.refl w).alloc _).alloc _).alloc _
 have zE:w1.heap.size=w.heap.size+3:=by rw[aD];simp
 have aF:=Ay zJ;have aH:=Ay zE;clear hs zJ aD HF zE
 gi_wp2_with fail
 refine kR (T0:=T0) (K:=K) (cb:=cb) (c:=c) (sets:=sets) (nA:=nA) (hA:=hA) (nc:=nc) (hc:=hc) (sb:=sb) (sc:=sc) (bc:=w.heap.size) (br:=w.heap.size+1) (bn:=w.heap.size+2) (k:=k) (n:=1) (r:=r)
  aP HST.out aQ rfl hk HZ.out HS.out (λb hb=>AC (HT.out b hb) aF.out.size) rfl
  I (λ_ _ _=>False) HI.out (λc pre W W' h _=>h) (HI.out _ _ _ H0.out λb hb=>aF.out.below.block b (HT.out b hb)) ?_ ?_ (λD j q W _ _ _ h _=>h.elim)
 .intro l pre ρ W hpl aG aI aW zC;have aA:KT (λb=>T0 b\/w.heap.size<=b) w W:=KT.low (T:=λb=>T0 b\/b=w.heap.size+1) ((KT.E4 aF.out).trans aG) λb hb h=>h.elim .inl λh=>by omega
  have HKW:=Ay aA;have aS:=Ay hpl;have aO:=Ay aI;have hb3:W.cell? ⟨b3,0,J⟩=Y (.func (.func F) #[] fc):=(aA.cell (p:=⟨b3,0,J⟩) a8.1 (by rintro(h|h);exact a8.2 h;have:=a8.1;exact AI h (by show ¬w.heap.size<=b3;omega))).trans aR.out;have hzw:=aA.size;have hzl:w.heap.size+3<=W.heap.size:=by have:=aG.size;have:=aH.out;omega
  obtain⟨W2,zn⟩:∃W2,W2=W.alloc (E #[.int .u8 (ρ 0),.int .u8 (ρ 1),.int .u8 (ρ 2),.int .u8 (ρ 3),.int .u8 (ρ 4)] 72):=⟨_,rfl⟩;have aJ:Hid (KT T0 W W2):=Ay (by rw[zn];exact KT.E4 ((Gr.refl W).alloc _));have aT:Hid (W2.heap[W.heap.size]?=Y (E #[.int .u8 (ρ 0),.int .u8 (ρ 1),.int .u8 (ρ 2),.int .u8 (ρ 3),.int .u8 (ρ 4)] 72 (0,0))):=Ay (by rw[zn];exact World.alloc_heap_new W _);have HOLD:Hid (∀b,b<W.heap.size->W2.heap[b]?=W.heap[b]?):=Ay λb hb=>by rw[zn];exact M _ _ hb
  have zD:W2.heap.size=W.heap.size+1:=by rw[zn];simp
  have aX:=Ay zD;have aM:=Ay zn;clear aG aA hpl aI zn zD;unfold Fl
  gi_wp2
  rw[<-aM.out];refine⟨aJ.out,λo=>?_⟩;clear aM;have aN:∀b,b<w.heap.size->b≠l:=λb hb=>by have:=aH.out;omega
  have HB3:(W2.putObj l o).cell? ⟨b3,0,J⟩=Y (.func (.func F) #[] fc):=(cC (aN b3 a8.1)).trans ((aJ.out.cell (p:=⟨b3,0,J⟩) (by show b3<_;have:=a8.1;omega) a8.2).trans hb3);obtain⟨aB,_,_⟩:=Gx (W:=W2.putObj l o) ((bh (by omega)).trans aT.out);have c0:=aB 0;have c1:=aB 1;have c2:=aB 2;have c3:=aB 3;have c4:=aB 4;simp at c0 c1 c2 c3 c4;have HI2:=Ay (HI.out pre W (W2.putObj l o) aO.out λb hb=>(bh (aN b (HT.out b hb))).trans (HOLD.out b (by have:=HT.out b hb;omega)))
  have aK:=HDO.out pre ρ (W2.putObj l o) aS.out ((HKW.out.trans (aJ.out.mono λb h=>.inl h)).trans (KT.putObj (T:=λb=>T0 b\/w.heap.size<=b) W2 (.inr (by have:=aH.out;omega)) o)) HI2.out;rw[<-callsIn_wide (n:=0)] at aK;unfold Fl at aK;have HD2:=Ay aK
  gi_wp2_with fail
  refine⟨trivial,rfl,HD2.out.mono ?_⟩;rintro e w5 ⟨rfl,aU,hi5⟩;have aV:=Ay aU;have HI5:=Ay hi5
  gi_wp2
  exact⟨aV.out,HI5.out⟩
 .intro D W hD aG hi hd;have HND:=Ay (show ¬T0 D from λh=>by have:=HT.out D h;have:=aF.out.size;omega)
  gi_wp2
  exact⟨hi,HND.out⟩
def bS (a b c:Int)(w:X):H DU 33 #[U C a,U C b,U C c] w λe w'=>e=.returned (.bool (FC a b c))/\w=w':=by
 by_cases h1:b<=a
 .by_cases h2:a<=c
  .have HS:=Ay (show FC a b c=bl by simp[FC,h1,h2]);go_enter Sq.func33,bq;go_wp2;go_ret;exact⟨au HS.out.symm,rfl⟩
  .have HS:=Ay (show FC a b c=bD by simp[FC];omega);go_enter Sq.func33,bq;go_wp2;go_ret;exact⟨au HS.out.symm,rfl⟩
 .have HS:=Ay (show FC a b c=bD by simp[FC];omega);go_enter Sq.func33,bq;go_wp2;go_ret;exact⟨au HS.out.symm,rfl⟩
def iu (n lo hi:Int)(w:X):H DU 68 #[U C n,U C lo,U C hi] w λe w'=>e=.returned (U C (Ez n lo hi))/\w=w':=by
 by_cases h1:n<lo
 .have HS:=Ay (show Ez n lo hi=7 by simp[Ez,h1]);go_enter Sq.func68,bs;go_wp2;go_ret;exact⟨ap HS.out.symm,rfl⟩
 .by_cases h2:hi<n
  .have HS:=Ay (show Ez n lo hi=6 by simp[Ez,h1,h2]);go_enter Sq.func68,bs;go_wp2;go_ret;exact⟨ap HS.out.symm,rfl⟩
  .have HS:=Ay (show Ez n lo hi=0 by simp[Ez,h1,h2]);go_enter Sq.func68,bs;go_wp2;go_ret;exact⟨ap HS.out.symm,rfl⟩
def i7 (A:Option S)(c:Nat)(l:List Int)(n:Int)(w:X)(B:Nat)(h:RI w B A l)(hl:l.length<=4611686018427387904)(a6:0<=n)(hn:n<=4611686018427387904) :
  H DU 69 #[Z A l.length c,U C n] w λe w'=>e=.returned (U C (Fi l n))/\w=w':=by
 have HR:=Ay h;go_enter Sq.func69,Tryz.ntmps69;go_wp2;go_loop [9] (λi=>∃k:Nat,k<=l.length/\i=U C k/\∀j,j<k->FY l n j=0) (λi=>l.length-(V i).toNat)
 case atStart=>exact⟨0,by omega,rfl,λj hj=>AI hj (BJ _)⟩
 case round =>
  obtain⟨k,hk,rfl,hz⟩:=hrel;have HZ:=Ay hz;by_cases zY:k<l.length
  .obtain⟨b,o,rfl,hb,hc⟩:=HR.out.at_ zY;have HA:Hid (FY l n k=if 0<=l[k]?.getD 0/\l[k]?.getD 0<=n-1 then(if 0<k/\l[k]?.getD 0<=l[k-1]?.getD 0 then 5 else 0) else 3):=Ay rfl;by_cases hr:0<=l[k]?.getD 0/\l[k]?.getD 0<=n-1
   .have HI : Hid (H DU 33 #[U C (l[k]?.getD 0), U C 0, U C (n - 1)] w fun e w' => e = .returned (.bool bl) ∧ w = w') := Lib.hid (by
     have:=bS (l[k]?.getD 0) 0 (n-1) w
     rwa [show FC (l[k]?.getD 0) 0 (n-1)=bl by simp[FC,hr.1,hr.2]] at this)
    obtain h0|h0:=Bs k
    .subst h0;have HS:=Ay (show FY l n 0=0 by rw[HA.out,AF hr,AD (by omega)]);simp only[Nat.add_zero] at hc;generalize l[0]?.getD 0=x at hc HI;go_wp2_with (go_at_call 33;refine HI.out.mono ?_;rintro e w' ⟨rfl,rfl⟩);go_round
     case rel=>exact⟨1,by omega,by go_num,λj hj=>by
      have:j=0:=by omega
      subst this;exact HS.out⟩
     case measure=>simp[Proofs.intOf];omega
    .obtain⟨m,rfl⟩:∃m,k=m+1:=⟨k-1,by omega⟩;have hc':w.cell? ⟨b,o+m,J⟩=Y (U C (l[m]?.getD 0)):=by
      obtain⟨b',o',e,_,h⟩:=HR.out.at_ (k:=m) (by omega);simp only[Option.some.injEq,Addr.mk.injEq] at e;obtain⟨rfl,rfl,_⟩:=e;exact h
     by_cases zX:l[m+1]?.getD 0<=l[m]?.getD 0
     .have HS := Lib.hid (show Fi l n = 5 by
       have e:FY l n (m+1)=5:=by rw[HA.out,AF hr,AF ⟨h0,zX⟩]
       rw[gm zY HZ.out (by rw[e];decide),e])
      generalize l[m+1]?.getD 0=x at hc HI zX;generalize l[m]?.getD 0=y at hc' zX;go_wp2_with (go_at_call 33;refine HI.out.mono ?_;rintro e w' ⟨rfl,rfl⟩);go_ret;exact⟨ap HS.out.symm,rfl⟩
     .have HS:=Ay (show FY l n (m+1)=0 by rw[HA.out,AF hr,AD (λh=>zX h.2)]);generalize l[m+1]?.getD 0=x at hc HI zX;generalize l[m]?.getD 0=y at hc' zX;go_wp2_with (go_at_call 33;refine HI.out.mono ?_;rintro e w' ⟨rfl,rfl⟩);go_round
      case rel=>exact⟨m+1+1,by omega,by go_num,λj hj=>by
       obtain h|rfl:=Bv (BM hj)
       .exact HZ.out j h
       .exact HS.out⟩
      case measure=>simp[Proofs.intOf];omega
   .have HI : Hid (H DU 33 #[U C (l[k]?.getD 0), U C 0, U C (n - 1)] w fun e w' => e = .returned (.bool bD) ∧ w = w') := Lib.hid (by
     have:=bS (l[k]?.getD 0) 0 (n-1) w
     rwa [show FC (l[k]?.getD 0) 0 (n-1)=bD by simp[FC];omega] at this)
    have HS:=Ay (show Fi l n=3 by
     have e:FY l n k=3:=by rw[HA.out,AD hr]
     rw[gm zY HZ.out (by rw[e];decide),e])
    generalize l[k]?.getD 0=x at hc HI;go_wp2_with (go_at_call 33;refine HI.out.mono ?_;rintro e w' ⟨rfl,rfl⟩);go_ret;exact⟨ap HS.out.symm,rfl⟩
  .have HS:=Ay (show Fi l n=0 from kP λi hi=>HZ.out i (by omega));have:k=l.length:=by omega
   go_wp2;go_ret;exact⟨ap HS.out.symm,rfl⟩
def Ef (nA hA:Option S)(c:D9)(nc hc:Nat):Value:=.agg #[Z nA c.DW.length nc,Z hA c.DV.length hc]
def jT {c:D9}(h1:Ez c.DW.length 1 5=0)(h2:(c.DW.all λx=>FC x 0 12)=bl)(h3:Ez c.DV.length 1 4=0):Eg c=bF (c.DV.map (Fq c.DW.length)):=by
 simp[Eg,h1,h2,h3]
def bO (c:D9)(n:Int){i:Nat}(hi:i<c.DV.length):(c.DV.map (Fq n))[i]?.getD 0=Fq n (c.h i):=by
 unfold D9.h;simp[hi]
def wv (nA hA:Option S)(nc hc:Nat)(c:D9)(w:X)(B:Nat)(hB:B<=w.heap.size)(hn:RI w B nA c.DW)(hh:EN w B hA c.DV)(aV:c.DW.length<=4611686018427387904)(zC:c.DV.length<=4611686018427387904)
  (aK:∀h∈c.DV,h.off.length<=4611686018427387904) :
  H DU 84 #[Ef nA hA c nc hc] w λe w'=>e=.returned (U C (Eg c))/\Gr w w':=by
 have HN:=Ay hn;have HH:=Ay hh;have aM:=Ay aK;clear hn hh aK;unfold Ef;obtain⟨W0,zM⟩:∃W0:X,W0=w.alloc (E #[Z nA c.DW.length nc,Z hA c.DV.length hc] 25):=⟨_,rfl⟩;have aD:Hid (Gr w W0):=Ay (by rw[zM];exact(Gr.refl w).alloc _);have HC:Hid (∀W,Gr W0 W->W.cell? ⟨w.heap.size,0,J⟩=Y (Z nA c.DW.length nc)/\W.cell? ⟨w.heap.size,1,J⟩=Y (Z hA c.DV.length hc)):=Ay λW hg=>by
  rw[hg.cell (by show w.heap.size<_;rw[zM];simp),hg.cell (by show w.heap.size<_;rw[zM];simp),zM,AE _ _ _ _ rfl,AE _ _ _ _ rfl];exact⟨rfl,rfl⟩
 have zF:W0.heap.size=w.heap.size+1:=by rw[zM];simp
 by_cases aA:Ez c.DW.length 1 5=0
 .have HM:Hid (H DU 68 #[U C c.DW.length,U C 1,U C 5] (w.alloc (E #[Z nA c.DW.length nc,Z hA c.DV.length hc] 25)) λe w'=>e=.returned (U C 0)/\(w.alloc (E #[Z nA c.DW.length nc,Z hA c.DV.length hc] 25))=w'):=Ay (by rw[<-aA];exact iu _ _ _ _);have aH:=Ay aA;have HW:=Ay zM;clear aA zM;go_enter Sq.func84,b5
  go_wp2_with (first|(go_at_call 68;refine HM.out.mono ?_;rintro e w' ⟨rfl,rfl⟩));rw[<-HW.out];clear HW HM;obtain⟨zp,zw⟩:=HC.out W0 (Gr.refl _);have aN:=Ay ((HN.out.gr hB aD.out).more (B':=W0.heap.size) (by omega));go_loop [20] (λi=>∃k:Nat,k<=c.DW.length/\i=U C k/\∀j,j<k->FC (c.DW[j]?.getD 0) 0 12=bl) (λi=>c.DW.length-(V i).toNat)
  case atStart=>exact⟨0,by omega,rfl,λj hj=>AI hj (BJ _)⟩
  case round =>
   obtain⟨k,hk,rfl,hz⟩:=hrel;have HZ:=Ay hz;clear hz;by_cases zY:k<c.DW.length
   .obtain⟨b,o,rfl,hb,hcell⟩:=aN.out.at_ zY;have hI:=bS (c.DW[k]?.getD 0) 0 12 W0;cases a7:FC (c.DW[k]?.getD 0) 0 12 with
    |true =>
     rw[a7] at hI;have HI:=Ay hI;have aO:=Ay a7;clear hI a7;generalize c.DW[k]?.getD 0=x at hcell HI;go_wp2_with (go_at_call 33;refine HI.out.mono ?_;rintro e w' ⟨rfl,rfl⟩);go_round
     case rel=>exact⟨k+1,by omega,by go_num,λj hj=>by
      obtain h|rfl:=Bv (BM hj)
      .exact HZ.out j h
      .exact aO.out⟩
     case measure=>simp[Proofs.intOf];omega
    |false =>
     rw[a7] at hI;have HI:=Ay hI
     have HS:=Ay (show Eg c=1 by
      have:(c.DW.all λx=>FC x 0 12)=false:=by
       rw[List.all_eq_false];exact⟨_,Ge _ _ zY,by simp[a7]⟩
      simp[Eg,aH.out,this])
     clear hI a7;generalize c.DW[k]?.getD 0=x at hcell HI;go_wp2_with (go_at_call 33;refine HI.out.mono ?_;rintro e w' ⟨rfl,rfl⟩);go_ret;exact⟨ap HS.out.symm,aD.out⟩
   .have HA := Lib.hid (show (c.DW.all fun x => FC x 0 12) = bl by
     rw[Bz];intro x hx;obtain⟨j,hj,rfl⟩:=Cc.1 hx;have:=HZ.out j (by omega)
     rwa [AB hj] at this)
    have aI:k=c.DW.length:=by omega
    clear HZ;subst aI;have aF:=iu c.DV.length 1 4 W0;by_cases aB:Ez c.DV.length 1 4=0
    .rw[aB] at aF;have HM:=Ay aF;have HD:=Ay (jT aH.out HA.out aB);clear aF aB;go_wp2_with (first|(go_at_call 68;refine HM.out.mono ?_;rintro e w' ⟨rfl,rfl⟩));go_loopw [38] (λi wr=>∃k:Nat,k<=c.DV.length/\i=U C k/\(∀j,j<k->Fq c.DW.length (c.h j)=0)/\Gr W0 wr) (λi _=>c.DV.length-(V i).toNat)
     case atStart=>exact⟨0,by omega,rfl,λj hj=>AI hj (BJ _),Gr.refl _⟩
     case round =>
      obtain⟨k,hk,rfl,hz,zV⟩:=hrel;have HZ:=Ay hz;have aL:=Ay zV;have a8:=Ay (aD.out.trans zV);obtain⟨KC,aW⟩:=HC.out wr zV;have zx:w.heap.size<wr.heap.size:=by have:=aL.out.size;omega
      clear hz zV;by_cases zY:k<c.DV.length
      .have aP:=Ay (HH.out.keep λb o hb=>a8.out.cell (p:=⟨b,o,J⟩) (AC hb hB));obtain⟨b,o,rfl,hb,hat⟩:=aP.out.at_ (c:=c) zY;obtain⟨g0,g1,g2,A,ac,g3,aQ⟩:=hat;have aR:=Ay (aQ.more (B':=wr.heap.size) (by omega));have aS:=aM.out _ (c.Gs zY);have HF:=Ay (bO c c.DW.length zY);have aT:∀x lo hi v,FC x lo hi=v->∀W:X,H DU 33 #[U C x,U C lo,U C hi] W λe w'=>e=.returned (.bool v)/\W=w':=λx lo hi v h W=>by rw[<-h];exact bS _ _ _ _
       have a6:=Ay aT;cases t1:FC (c.h k).heads 1 40 with
       |false =>
        have HS:=Ay (show Eg c=1 by
         have e:Fq c.DW.length (c.h k)=1:=by simp[Fq,t1]
         rw[HD.out,be (k:=k) (by simpa using zY) (λi hi=>by rw[bO c _ (by omega)];exact HZ.out i hi) (by rw[HF.out,e];decide),HF.out,e])
        have HA:=Ay (a6.out _ _ _ _ t1);go_wp2_with (first|(go_at_call 33;refine(HA.out _).mono ?_;rintro e w' ⟨rfl,rfl⟩));go_ret;exact⟨ap HS.out.symm,a8.out.alloc _⟩
       |true =>
        have HA:=Ay (a6.out _ _ _ _ t1);cases t2:FC (c.h k).E3 1 5 with
        |false =>
         have HS:=Ay (show Eg c=1 by
          have e:Fq c.DW.length (c.h k)=1:=by simp[Fq,t2]
          rw[HD.out,be (k:=k) (by simpa using zY) (λi hi=>by rw[bO c _ (by omega)];exact HZ.out i hi) (by rw[HF.out,e];decide),HF.out,e])
         have aC:=Ay (a6.out _ _ _ _ t2);go_wp2_with fail;refine(HA.out _).mono ?_;rintro e w' ⟨rfl,rfl⟩;go_wp2_with fail;refine(aC.out _).mono ?_;rintro e w' ⟨rfl,rfl⟩;go_wp2;go_ret;exact⟨ap HS.out.symm,a8.out.alloc _⟩
        |true =>
         have aC:=Ay (a6.out _ _ _ _ t2);cases t3:FC (c.h k).most 0 5 with
         |false =>
          have HS:=Ay (show Eg c=1 by
           have e:Fq c.DW.length (c.h k)=1:=by simp[Fq,t3]
           rw[HD.out,be (k:=k) (by simpa using zY) (λi hi=>by rw[bO c _ (by omega)];exact HZ.out i hi) (by rw[HF.out,e];decide),HF.out,e])
          have aG:=Ay (a6.out _ _ _ _ t3);go_wp2_with fail;refine(HA.out _).mono ?_;rintro e w' ⟨rfl,rfl⟩;go_wp2_with fail;refine(aC.out _).mono ?_;rintro e w' ⟨rfl,rfl⟩;go_wp2_with fail;refine(aG.out _).mono ?_;rintro e w' ⟨rfl,rfl⟩;go_wp2;go_ret;exact⟨ap HS.out.symm,a8.out.alloc _⟩
         |true =>
          have aG:=Ay (a6.out _ _ _ _ t3);have HE:=Ay (show Fq c.DW.length (c.h k)=Fi (c.h k).off c.DW.length by simp[Fq,t1,t2,t3]);have HAS:=Ay (λW (hg:Gr wr W)=>i7 A ac (c.h k).off c.DW.length W wr.heap.size (aR.out.gr (AA _) hg) aS (by omega) (by omega));have aJ:Hid (∀v,Gr wr (wr.alloc v)):=Ay λv=>(Gr.refl wr).alloc v;by_cases he:Fi (c.h k).off c.DW.length=0
          .rw[he] at HAS;have aU:=Ay (HE.out.trans he);go_wp2_with fail;refine(HA.out _).mono ?_;rintro e w' ⟨rfl,rfl⟩;go_wp2_with fail;refine(aC.out _).mono ?_;rintro e w' ⟨rfl,rfl⟩;go_wp2_with fail;refine(aG.out _).mono ?_;rintro e w' ⟨rfl,rfl⟩;go_wp2_with fail;refine(HAS.out _ (aJ.out _)).mono ?_;rintro e w' ⟨rfl,rfl⟩;go_wp2;go_roundw
           case rel=>exact⟨k+1,by omega,by go_num,λj hj=>by
            obtain h|rfl:=Bv (BM hj)
            .exact HZ.out j h
            .exact aU.out,aL.out.alloc _⟩
           case measure=>simp[Proofs.intOf];omega
          .have HS := Lib.hid (show Eg c = Fi (c.h k).off c.DW.length by
            rw[HD.out,be (k:=k) (by simpa using zY) (λi hi=>by rw[bO c _ (by omega)];exact HZ.out i hi) (by rw[HF.out,HE.out];exact he),HF.out,HE.out])
           have zU:((Fi (c.h k).off c.DW.length) != 0)=true:=by simpa using he
           generalize Fi (c.h k).off c.DW.length=e0 at HAS HS zU;go_wp2_with fail;refine(HA.out _).mono ?_;rintro e w' ⟨rfl,rfl⟩;go_wp2_with fail;refine(aC.out _).mono ?_;rintro e w' ⟨rfl,rfl⟩;go_wp2_with fail;refine(aG.out _).mono ?_;rintro e w' ⟨rfl,rfl⟩;go_wp2_with fail;refine(HAS.out _ (aJ.out _)).mono ?_;rintro e w' ⟨rfl,rfl⟩;go_wp2;go_ret;exact⟨ap HS.out.symm,a8.out.alloc _⟩
      .have HS := Lib.hid (show Eg c = 0 by
        rw[HD.out];exact dc λi hi=>by
         rw[Bq] at hi
         rw[bO c _ hi];exact HZ.out i (by omega))
       have aI:k=c.DV.length:=by omega
       subst aI;go_wp2;go_ret;exact⟨ap HS.out.symm,a8.out⟩
    .have HS:=Ay (show Eg c=Ez c.DV.length 1 4 by simp[Eg,aH.out,HA.out,aB]);have HM:=Ay aF;have hb:((Ez c.DV.length 1 4) != 0)=true:=by simpa using aB
     generalize Ez c.DV.length 1 4=e0 at HM hb HS;go_wp2_with (first|(go_at_call 68;refine HM.out.mono ?_;rintro e w' ⟨rfl,rfl⟩));go_ret;exact⟨ap HS.out.symm,aD.out⟩
 .have HS:=Ay (show Eg c=Ez c.DW.length 1 5 by simp[Eg,aA]);have HM:=Ay (iu c.DW.length 1 5 W0);have hb:((Ez c.DW.length 1 5) != 0)=true:=by simpa using aA
  rw[zM] at HM;generalize Ez c.DW.length 1 5=e0 at HM hb HS;go_enter Sq.func84,b5;go_wp2_with (first|(go_at_call 68;refine HM.out.mono ?_;rintro e w' ⟨rfl,rfl⟩));go_ret;exact⟨ap HS.out.symm,(Gr.refl w).alloc _⟩
def iw (u:G):Prop:=∃x,u=.int .u8 x
def GK (w:X)(v:G):Prop:=∀a n c,v=.slice (Y a) n c->∃(cur:Array G) (t:bw),w.heap[a.block]?=Y (.cells cur t (0,0))/\∀u∈cur.toList,iw u
def GK.nil (w:X):GK w (.slice J 0 0):=λa n c h=>by cases h
def GK.keep {w w':X}{v:G}(h:GK w v)(hk:∀a n c,v=.slice (Y a) n c->w'.heap[a.block]?=w.heap[a.block]?):GK w' v:=λa n c e=>by
 obtain⟨cur,t,h1,h2⟩:=h a n c e;exact⟨cur,t,(hk a n c e).trans h1,h2⟩
variable {P:Program}
def wy (n:Nat):∀u∈(ak (U .u8 0).cells n).toList,iw u:=by
 intro u hu;simp only[ak,Array.toList_map,Bf] at hu;obtain⟨i,_,rfl⟩:=hu;refine⟨0,?_⟩;show(#[U .u8 0]:Array G)[i % 1]! = _;rw[Nat.mod_one];rfl
def nN (w:X)(base:Nat)(t ty e:bw)(i:TypeInfo)(ht:P.underlying t=Y (.slice e))(hi:P.info? e=Y i)(hz:i.zero=Y (.int .u8 0))
  (hsize:i.size=1) (hby:i.bytes=1) (v:G) (n:Nat) (xs:List G) (zm:w.ownsRow base e 1 v n xs) (hf:GK w v)
  (a:S) (m c:Nat) (news:List G) (hl:news.length=m*1) (hnews:∀j u,news[j]?=Y u->w.cell? (a.add j)=Y u) (h1:∀u∈news,iw u) (h63:n+m<=maxLen) (hbytes:(n+m)*1<=140737488355328)
  {v':G} {w':X} (zA:(bk #[t,t] ty #[v,.slice (Y a) m c]).run P w=.ok v' w'):GK w' v':=by
 have a7:∀u∈news,u.oneCell'=true:=λu hu=>by obtain⟨x,rfl⟩:=h1 u hu;rfl
 have grown:∀(ys:List G) k,(∀u∈ys,iw u)->∀l1 l2 n1 c1,l1++l2=ys->GK (w.drew.alloc (.cells (l1.toArray++l2.toArray++ak (U .u8 0).cells k) e)) (.slice (Y ⟨w.heap.size,0,J⟩) n1 c1):=by
  intro ys k hys l1 l2 n1 c1 a8 a n c he;injection he with h _ _
  injection h with h
  subst h;refine⟨_,e,heap_alloc_new w.drew _,λu hu=>?_⟩;simp only[Array.toList_append,Bp] at hu;obtain hu|hu:=hu
  .refine hys u ?_;rw[<-a8];simpa using hu
  .exact wy _ u hu
 obtain⟨rfl,rfl⟩|⟨g,cap,cur,rfl,hbg,hg,aC,hcm,zW,a6⟩:=zm.2
 .by_cases hm:m=0
  .subst hm;have hn:news=[]:=Bc (by simpa using hl);subst hn;simp[bk,run_underlying ht,sizeOf,typeInfo,hi,Builtin.lenOf,Builtin.firstCells,loadCells,loadCellsFrom] at zA;obtain⟨rfl,rfl⟩:=zA;exact GK.nil _
  .have hr:=run_append_nil (P:=P) w t ty e i (.int .u8 0) ht hi hz a m c news (by rw[hsize];exact hl) hnews (by omega) (by omega) (by rw[hby];omega);rw[hr] at zA;cases zA;have:=grown news (grownCap w m 0 e-m) h1 [] news m (grownCap w m 0 e) rfl;simpa using this
 .obtain⟨cur',t',z1,z2⟩:=hf _ _ _ rfl;have z1':w.heap[g]?=Y (.cells cur' t' (0,0)):=z1;rw[hg] at z1';cases z1';have aB:∀u∈xs,iw u:=λu hu=>z2 u (by rw[<-a6] at hu;exact Cz hu);by_cases hroom:n+m<=cap
  .have aA:n*i.size+news.length<=cur.size:=by rw[hsize,hl,zW];omega
   have hr:=run_append_room (P:=P) w t ty e i ht hi g n cap cur hg a m c news (by rw[hsize];exact hl) hnews a7 hroom aA;rw[hr] at zA;cases zA;intro a2 n2 c2 he;injection he with h _ _
   injection h with h
   subst h;refine⟨_,e,setRow_heap w g cur _ e _ hg,λu hu=>?_⟩;simp only[Bp] at hu;obtain(hu|hu)|hu:=hu
   .exact z2 u (Cz hu)
   .exact h1 u hu
   .exact z2 u (List.mem_of_mem_drop hu)
  .have holds:∀j u,xs[j]?=Y u->w.cell? ((⟨g,0,J⟩:S).add j)=Y u:=zm.cells (g:=g) rfl;have hr:=run_append_grow (P:=P) w t ty e i (.int .u8 0) ht hi hz ⟨g,0,J⟩ n cap xs (by rw[hsize];exact zm.1) holds a m c news (by rw[hsize];exact hl) hnews (by omega) (by omega) (by rw[hby];exact growslice_fits (by omega) hbytes);rw[hr] at zA;cases zA;exact grown (xs++news) _ (λu hu=>(Bp.1 hu).elim (aB u) (h1 u)) xs news _ _ rfl
def ix {w:X}{ops:Array Oper}{rest:List Oper}{o:Oper}{a:Act}{Q:Exit->Act->X->Prop}(hgd:o.guard=J)(s x:Operand)(t:bw)
  (ho:o.op=.call { callee:=.builtin .append,args:=#[s,x],argTypes:=#[t,t] })
  (base:Nat) (e:bw) (i:TypeInfo) (ht:P.underlying t=Y (.slice e)) (hi:P.info? e=Y i) (hz:i.zero=Y (.int .u8 0))
  (hsize:i.size=1) (hby:i.bytes=1)
  (v:G) (n:Nat) (xs:List G) (hs:a.eval s=v) (zm:w.ownsRow base e 1 v n xs) (hf:GK w v)
  (ad:S) (m c:Nat) (news:List G) (hx:a.eval x=.slice (Y ad) m c) (hl:news.length=m*1) (hnews:∀j u,news[j]?=Y u->w.cell? (ad.add j)=Y u) (h1:∀u∈news,iw u)
  (h63:n+m<=maxLen) (hbytes:(n+m)*1<=140737488355328) (hbase:base<=w.heap.size)
  (h:∀v' w',w'.ownsRow base e 1 v' (n+m) (xs++news)->w.grownBy w' v.ownBlock->w.drawn<=w'.drawn->GK w' v'->wpList P ops Q rest (a.put o.dst v') w'):wpList P ops Q (o::rest) a w:=by
 refine wpList_plain hgd λK hK=>?_;have a6:∀u∈news,u.oneCell'=true:=λu hu=>by obtain⟨x,rfl⟩:=h1 u hu;rfl
 obtain⟨v',w',hr,h2,h3,h4⟩:=run_append_own (P:=P) w base t o.type e i (.int .u8 0) 1 1 ht hi hz hsize hby rfl (by decide) v n xs zm ad m c news hl hnews a6 h63 hbytes hbase;have a7:=nN (P:=P) w base t o.type e i ht hi hz hsize hby v n xs zm hf ad m c news hl hnews h1 h63 hbytes hr;have hd:=Go.Eu.Gf P (bk #[t,t] o.type #[v,.slice (Y ad) m c]) w #[];rw[Sem.runT_fst,hr] at hd
 unfold Oper.wp execOp;simp only[ho,resolve,invoke,builtin,Sem.run_bind,Sem.run_pure,Result.andThen_ok,Cr,Cd,CG,hs,hx,hr];exact hK _ _ (h v' w' h2 h3 hd a7)
def wA:∀x:Fin 16,∀n:Fin 4,bits BinOp.or b7 (x.val:Int) (2 ^ n.val % 256)=((x.val ||| 2 ^ n.val:Nat):Int):=by decide
def Rv (A:Option S)(c:Nat)(l:List Int)(w:X)(B:Nat)(h:RI w B A l)(hl:l.length<=4611686018427387904)(hx:∀x∈l,0<=x/\x<4) :
  H DU 70 #[Z A l.length c] w λe w'=>e=.returned (.int .u8 (GF l))/\w=w':=by
 have HR:=Ay h;have HX:=Ay hx;go_enter Sq.func70,Tryz.ntmps70;go_wp2;go_loop [3,8] (λs i=>∃k:Nat,k<=l.length/\i=U C k/\s=.int .u8 (GF (l.take k))) (λ_ i=>l.length-(V i).toNat)
 case atStart=>exact⟨0,by omega,rfl,rfl⟩
 case round =>
  obtain⟨k,hk,rfl,rfl⟩:=hrel;by_cases zY:k<l.length
  .obtain⟨b,o,rfl,hb,hc⟩:=HR.out.at_ zY;have HS:=Ay (tx l k zY);obtain⟨n,hn,a8⟩:∃n:Nat,l[k]?.getD 0=n/\n<4:=by
    obtain⟨h1,h2⟩:=HX.out _ (Ge l k zY);exact⟨(l[k]?.getD 0).toNat,by omega,by omega⟩
   rw[hn] at hc;have HN:=Ay hn;have a6:GF (l.take k)<16:=q9 _ λy hy=>HX.out y (Cz hy);have HO:=Ay (show bits BinOp.or b7 ((GF (l.take k):Nat):Int) (2 ^ n % 256)=((GF (l.take k) ||| 2 ^ n:Nat):Int) from wA ⟨_,a6⟩ ⟨n,a8⟩);have a7:=Ay (show GF (l.take (k+1))=GF (l.take k) ||| 2 ^ n by rw[HS.out,HN.out];rfl);generalize GF (l.take k)=x at HO a7 a6;go_wp2;go_round
   case rel=>exact⟨k+1,by omega,by go_num,by rw[a7.out];exact AX (Value.int .u8) HO.out⟩
   case measure=>simp[Proofs.intOf];omega
  .have aA:k=l.length:=by omega
   have HS:=Ay (show GF (l.take k)=GF l by rw[Bb (by omega)]);clear aA;go_wp2;go_ret;exact⟨ap (by rw[HS.out]),rfl⟩
def DP:(DU.info? 70).map (λi=>(i.zero,i.size,i.bytes))=Y (Y (.int .u8 0),1,1):=by
 rw[Do];kernel_rfl
def LP (k:Nat):List Value:=(List.range k).map λi:Nat=>.int .u8 (i:Int)
def rQ (k:Nat):LP (k+1)=LP k++[.int .u8 k]:=by simp[LP,CN]
def rR (N:Nat)(R:G->X->X->Prop):Prop:=∀(W:X) (g cap B:Nat),W.ownsRow B 70 1 (.slice (Y ⟨g,0,J⟩) N cap) N (LP N) ->
 H DU 74 #[.slice (Y ⟨g,0,J⟩) N cap,.func (.func 75) #[] #[]] W λe W'=>e=.returned (.tuple #[])/\R (.slice (Y ⟨g,0,J⟩) N cap) W W'
def oT (nA hA:Option S)(nc hc nn m:Nat)(w:X)(hm:m<=4){R:G->X->X->Prop}(hs:rR (2 ^ m) R) :
  H DU 38 #[.agg #[Z nA nn nc,Z hA m hc]] w λe w'=>e=.returned (.pointer (Y ⟨w.heap.size+1,0,J⟩))/\∃(g cap:Nat) (W:X),R (.slice (Y ⟨g,0,J⟩) (2 ^ m) cap) W w'/\w.heap.size+2<=g/\Gr w W/\w.heap.size+1<W.heap.size /\
   W.cell? ⟨w.heap.size+1,0,J⟩=Y (Z nA nn nc)/\W.cell? ⟨w.heap.size+1,1,J⟩=Y (Z hA m hc)/\W.cell? ⟨w.heap.size+1,2,J⟩=Y (.slice (Y ⟨g,0,J⟩) (2 ^ m) cap) /\
   W.ownsRow (w.heap.size+2) 70 1 (.slice (Y ⟨g,0,J⟩) (2 ^ m) cap) (2 ^ m) (LP (2 ^ m)) /\
   GK W (.slice (Y ⟨g,0,J⟩) (2 ^ m) cap)/\W.heap[w.heap.size+1]?=Y (E #[Z nA nn nc,Z hA m hc,.slice (Y ⟨g,0,J⟩) (2 ^ m) cap] 137 (0,0)):=by
 obtain⟨i0,hi,zF,zE,zD⟩:=info_parts DP;have a6:=Ay hs;have a8:((2:Int) ^ m % 256)=((2 ^ m:Nat):Int)/\2 ^ m<=16/\1<=2 ^ m:=by
  have:m=0\/m=1\/m=2\/m=3\/m=4:=by omega
  rcases this with rfl|rfl|rfl|rfl|rfl<;>decide
 obtain⟨Iq,aF,aG⟩:=a8;generalize 2 ^ m=N at Iq aF aG a6 ⊢;have HP:=Ay Iq;go_enter Sq.func38,Tryz.ntmps38;go_wp2;rw[HP.out]
 go_loopw [13] (λi wr=>∃k:Nat,k<=N/\i=.int .u8 k/\∃v,wr.cell? ⟨w.heap.size+1,0,J⟩=Y (Z nA nn nc)/\wr.cell? ⟨w.heap.size+1,1,J⟩=Y (Z hA m hc)/\wr.cell? ⟨w.heap.size+1,2,J⟩=Y v/\wr.frozen? ⟨w.heap.size+1,2,J⟩=bD /\
  wr.ownsRow (w.heap.size+2) 70 1 v k (LP k)/\Gr w wr/\w.heap.size+2<=wr.heap.size/\GK wr v/\wr.heap[w.heap.size+1]?=Y (E #[Z nA nn nc,Z hA m hc,v] 137 (0,0))) (λi _=>N-(V i).toNat)
 case atStart =>
  refine⟨0,by omega,rfl,.slice J 0 0,?_,?_,?_,?_,Bw _ _ _ _,((Gr.refl w).alloc _).alloc _,by simp,GK.nil _,?_⟩
  .rw[AE _ _ _ _ (by simp)];rfl
  .rw[AE _ _ _ _ (by simp)];rfl
  .rw[AE _ _ _ _ (by simp)];rfl
  .rw[By _ _ _ _ (by simp)]
  .have e1:∀A:Obj,w.heap.size+1=(w.alloc A).heap.size:=λA=>by simp
   rw[e1 (E #[Z nA nn nc,Z hA m hc] 25)];exact heap_alloc_new _ _
 case round =>
  obtain⟨k,hk,rfl,v,h0,h1,h2,aH,zm,zV,zx,aI,aJ⟩:=hrel;have a7:=Ay aI;have HOB:=Ay aJ;have HG:=Ay zV;by_cases zY:k<N
  .have h0':=h0;have hfa:GK (wr.alloc (E #[.int .u8 k] 70)) v:=a7.out.keep λa n c e=>M wr _ (zm.lt a.block (by rw[e];rfl)).2;go_wp2_with (at_builtin;refine ix rfl _ _ 135 rfl (w.heap.size+2) 70 i0 Sq.underlying135 hi zF zE zD _ _ _ rfl (zm.alloc _) hfa ⟨wr.heap.size,0,J⟩ 1 1 [.int .u8 k] rfl rfl ?c1 ?c2 ?c3 ?c4 ?c5 ?_)
   case c1 =>
    intro j u hj
    match j,hj with
    |0,hj=>simp at hj;subst hj;simp[Addr.add]
   case c2=>intro u hu;simp at hu;subst hu;exact⟨_,rfl⟩
   case c3=>unfold maxLen;omega
   case c4=>omega
   case c5=>simp;omega
   intro v' w1 hown' hgrow hd aA;have aB:=Ay aA;obtain⟨g',cap',rfl⟩:=ownsRow_succ hown';have zU:Y (w.heap.size+1)≠v.ownBlock:=λh=>by have:=(zm.lt _ h.symm).1;omega
   have k0:w1.cell? ⟨w.heap.size+1,0,J⟩=Y (Z nA nn nc):=hgrow.cell ((AW _ _ _ (by show w.heap.size+1<_;omega)).trans h0) zU;have k1:w1.cell? ⟨w.heap.size+1,1,J⟩=Y (Z hA m hc):=hgrow.cell ((AW _ _ _ (by show w.heap.size+1<_;omega)).trans h1) zU;have k2:w1.cell? ⟨w.heap.size+1,2,J⟩=Y v:=hgrow.cell ((AW _ _ _ (by show w.heap.size+1<_;omega)).trans h2) zU;have kf:w1.frozen? ⟨w.heap.size+1,2,J⟩=false:=by
    rw[CE (w:=wr.alloc (E #[.int .u8 k] 70)) (hgrow.block (w.heap.size+1) (by simp;omega) zU)];exact(CA _ _ _ (by show w.heap.size+1<_;omega)).trans aH
   have aC:=Ay ((hgrow.block (w.heap.size+1) (by simp;omega) zU).trans ((M wr _ (by omega)).trans HOB.out));have aK:=Ay ((HG.out.alloc (E #[.int .u8 k] 70)).grown hgrow hd λj hj=>by have:=(zm.lt j hj).1;omega);have aD:w.heap.size+2<=w1.heap.size:=by have:=hgrow.size;simp at this;omega
   have HO:Hid (w1.ownsRow (w.heap.size+2) 70 1 (.slice (Y ⟨g',0,J⟩) (k+1) cap') (k+1) (LP (k+1))):=Ay (by rw[rQ];exact hown');go_wp2;go_roundw
   case rel =>
    refine⟨k+1,by omega,by go_num,_,(AL _ _ _ _ (by simp)).trans k0,(AL _ _ _ _ (by simp)).trans k1,AQ _ _ _ k2,(BI _ _ _ _).trans kf,ownsRow_setCell_below HO.out (by show w.heap.size+1<_;omega) _,aK.out.setCell (by show _<=w.heap.size+1;omega) _,by simpa using aD,aB.out.keep λa n c e=>?_,?_⟩
    .have hb:a.block=g':=by injection e with e1 _ _;injection e1 with e1;rw[<-e1]
     have zY:=(HO.out.lt g' rfl).1;unfold bo;simp only[BA];rw[AD (by omega)]
    .unfold bo;simp only[BA,if_true,aC.out]
     rfl
   case measure=>simp[Proofs.intOf];omega
  .have aL:k=N:=by omega
   subst aL;obtain⟨m',rfl⟩:∃m',k=m'+1:=⟨k-1,by omega⟩;obtain⟨g,cap,rfl⟩:=ownsRow_succ zm;have HC:=Ay (a6.out wr g cap _ zm);have hg:=(zm.lt g rfl).1;have HO:=Ay zm;go_wp2_with fail;refine HC.out.mono ?_;rintro e w2 ⟨rfl,hR⟩;have HR:=Ay hR;go_wp2;go_ret;exact⟨rfl,g,cap,wr,HR.out,hg,HG.out,by omega,h0,h1,h2,HO.out,a7.out,HOB.out⟩
open Go.Sort Go.Lib
abbrev yf:=Fin 16
def Lb (x:yf):Value:=.int .u8 (x.val:Int)
def PS (a b:yf):Int:=IK (wl a.val) (wl b.val)
def Rw:OneCell Lb:=λ_=>rfl
def Rx:SWO (ltOf PS):=by
 constructor
 all_goals decide +kernel
def J3 (m:Nat):Array yf:=((List.range (2 ^ m)).map (Fin.ofNat 16)).toArray
def En:Nat->List Nat
 |0=>[0]
 |1=>[0,1]
 |2=>[0,1,3,2]
 |3=>[0,1,3,7,5,2,6,4]
 |_=>[0,1,3,7,15,11,5,13,9,2,6,14,10,4,12,8]
def five {p:Nat->Prop}(h:p 0/\p 1/\p 2/\p 3/\p 4):∀m,m<=4->p m:=λm hm=>by
 have:m=0\/m=1\/m=2\/m=3\/m=4:=by omega
 obtain⟨h0,h1,h2,h3,h4⟩:=h;rcases this with rfl|rfl|rfl|rfl|rfl<;>assumption
def Ry:∀m,m<=4->(pdq (ltOf PS) (J3 m) 0 (J3 m).size (bb (J3 m).size) bl bl).toList.map Fin.val=En m :=
 five ⟨by decide +kernel,by decide +kernel,by decide +kernel,by decide +kernel,by decide +kernel⟩
def Rz:∀m,m<=4->(J3 m).size=2 ^ m/\∀j,j<2 ^ m->((J3 m)[j]!).val=j :=
 five ⟨by decide +kernel,by decide +kernel,by decide +kernel,by decide +kernel,by decide +kernel⟩
def dx:∀m,m<=4->(En m).length=2 ^ m:=five ⟨rfl,rfl,rfl,rfl,rfl⟩
def mv:∀m,m<=4->∀x∈En m,x<2 ^ m:=five ⟨by decide,by decide,by decide,by decide,by decide⟩
def Gr.grow {w w':X}(h:Gr w w'):∃q os',w'=grow (w.drewN q) os':=by
 refine⟨w'.drawn-w.drawn,w'.heap.extract w.heap.size w'.heap.size,?_⟩;have hd:=h.drawn;have e:w'.heap=w.heap++w'.heap.extract w.heap.size w'.heap.size:=by
  apply Array.ext_getElem?;intro k;by_cases hk:k<w.heap.size
  .rw[C5 hk];exact h.below.block k hk
  .rw[Array.getElem?_append_right (by omega),Array.getElem?_extract];by_cases zo:k<w'.heap.size
   .rw[AF (by omega)];congr 1;omega
   .rw[AD (by omega),Cp (by omega)]
 cases w with
 |mk wh wt wd wo wu =>
  cases w' with
  |mk vh vt vd vo vu =>
   have e1:=h.below.os;have e2:=h.below.tape;have e3:=h.below.output;simp only at e1 e2 e3 e hd;subst e1 e2 e3;unfold Sort.grow World.drewN;simp only[World.mk.injEq,and_true,true_and];exact⟨e,by omega⟩
def SortedIn (sets:List Nat)(g:Nat)(W W':X):Prop :=
 KT (·=g) W W'/\(∀(i x:Nat),sets[i]?=Y x->W'.cell? ⟨g,i,J⟩=Y (.int .u8 (x:Int)))/\∀n c,GK W (.slice (Y ⟨g,0,J⟩) n c)->GK W' (.slice (Y ⟨g,0,J⟩) n c)
def uf (a b:Nat)(w:X)(ha:a<16)(hb:b<16) :
  H DU 75 #[.int .u8 a,.int .u8 b] w λe w'=>e=.returned (U C (IK (wl a) (wl b)))/\Gr w w':=by
 have hla:=aY a;have a7:=aY b;have HL:=Ay hla;have HL':=Ay a7;go_enter Sq.func75,Tryz.ntmps75;go_wp2_with fail;refine(gQ a w ha).mono ?_;rintro e w1 ⟨v,rfl,ho,hg⟩;have hO:=Ay ho;have hG:=Ay hg;go_wp2_with fail;refine(gQ b w1 hb).mono ?_;rintro e w2 ⟨v',rfl,a8,a6⟩;obtain⟨A,c,rfl,hr⟩:=Dn hO.out;obtain⟨A',c',rfl,aA⟩:=Dn a8;have hG2:=Ay (hG.out.trans a6);have HC:=Ay (kQ A A' c c' (wl a) (wl b) w2 w2.heap.size ((hr.gr (AA _) a6).more a6.size) aA (by have:=HL.out;omega) (by have:=HL'.out;omega))
 go_wp2_with fail;refine HC.out.mono ?_;rintro e w3 ⟨rfl,rfl⟩;go_wp2;go_ret;exact⟨rfl,hG2.out⟩
def rS (m:Nat)(hm:m<=4):rR (2 ^ m) (λv W W'=>∃g cap,v=.slice (Y ⟨g,0,J⟩) (2 ^ m) cap/\SortedIn (En m) g W W'):=by
 intro W g cap B ho;obtain⟨zx,a7⟩:=Rz m hm;have a6:=Ry m hm;have zl:=dx m hm;have aC:1<=2 ^ m:=Nat.one_le_two_pow;have aD:2 ^ m<=16:=(five (p:=λm=>2 ^ m<=16) ⟨by decide,by decide,by decide,by decide,by decide⟩) m hm;have zY:g<W.heap.size:=(ho.lt g rfl).2;have hH:Holds Lb W g 0 (J3 m):=by
  intro j hj;rw[zx] at hj;refine⟨?_,?_⟩
  .have:=ho.cells (g:=g) rfl j (.int .u8 j) (by unfold LP;simp[hj]);rw[show(⟨g,0,J⟩:S).add j=⟨g,0+j,J⟩ by unfold Addr.add;split<;>simp_all] at this;rw[this,Lb,a7 j hj]
  .obtain⟨h,_⟩|⟨g',c',cur,h,_,hb,_⟩:=ho.2
   .cases h
   .obtain⟨rfl⟩:g=g':=by injection h with h1;injection h1 with h2;injection h2
    simp[bW,hb]
 have hC:CmpLays1 DU 75 #[] Lb PS g 0 (J3 m).size W:=by
  intro k os dk _ x y;refine(uf x.val y.val _ x.isLt y.isLt).mono ?_;rintro e w' ⟨he,hg⟩;exact⟨he,hg.grow⟩
 have h:=Any.slices_SortFunc_eq DH Lb Rw PS Rx 75 #[] g 0 cap (J3 m) W DO hC hH zY (by rw[zx];omega);rw[zx] at h;refine h.mono ?_;rintro e W' ⟨he,n,os,hW⟩;refine⟨he,g,cap,rfl,?_,?_,?_⟩
 rotate_left 2
 .intro n1 c1 a8 a n2 c2 e2;obtain⟨cur,t,q1,q2⟩:=a8 a n2 c2 e2;have ea:a.block=g:=by injection e2 with z _ _;injection z with z;rw[<-z]
  rw[ea] at q1 ⊢;subst hW;refine⟨putCells Lb 0 (pdq (ltOf PS) (J3 m) 0 (2 ^ m) (bb (2 ^ m)) bl bl) cur,t,?_,λu hu=>?_⟩
  .unfold bA;rw[heap_grow_old _ _ (by rw[L];exact zY)];unfold putRow mapBlock;have aA:(Sort.ahead W n).heap[g]?=Y (.cells cur t (0,0)):=q1;simp only[BA,if_true,aA]
   rfl
  .unfold putCells at hu;rw[Array.toList_mapIdx,List.mem_mapIdx] at hu;obtain⟨i,hi,rfl⟩:=hu;split
   .exact⟨_,rfl⟩
   .exact q2 _ (Bh hi)
 .subst hW;refine⟨rfl,rfl,rfl,?_,?_,?_⟩
  .show W.drawn<=W.drawn+n;omega
  .have : W.heap.size <= (bA Lb W g 0 n (pdq (ltOf PS) (J3 m) 0 (2 ^ m) (bb (2 ^ m)) bl bl) os).heap.size := by
    unfold bA;rw[size_grow,L];exact Nat.le_add_right _ _
   exact this
  .intro b hb zU;unfold bA;rw[heap_grow_old _ _ (by rw[L];exact hb)];unfold putRow mapBlock;rw[BA,AD (λh=>zU h.symm)]
   rfl
 .intro i x hx;rw[zx] at a6;have hi:i<2 ^ m:=by rw[<-zl];exact(AV.1 hx).1
  generalize hd:pdq (ltOf PS) (J3 m) 0 (2 ^ m) (bb (2 ^ m)) bl bl=d at hW a6;have aB:d.size=2 ^ m:=by have:=AX List.length a6;simpa [zl] using this
  have hS:=(holds_sortWorld Lb W g 0 n (J3 m) d os zY hH (by rw[aB,zx])) i (by omega);subst hW;rw[AO] at hS;rw[hS.1,Lb];rw[<-a6,BK,Array.getElem?_toList] at hx;rw[getElem!_pos d i (by omega)];rw[AK (by omega)] at hx;simp at hx;rw[hx]
def wC (l m:List Int)(k:Nat)(h1:k<l.length)(h2:k<m.length) :
  (l.take k=m.take k->l[k]?.getD 0=m[k]?.getD 0->l.take (k+1)=m.take (k+1))/\(l[k]?.getD 0≠m[k]?.getD 0->l≠m):=by
 refine⟨λh e=>?_,λh e=>h (by rw[e])⟩;rw[bz 0 l k h1,bz 0 m k h2,h,e]
def ug (l m:List (List Int))(k:Nat)(h1:k<l.length)(h2:k<m.length) :
  (l.take k=m.take k->l[k]?.getD []=m[k]?.getD []->l.take (k+1)=m.take (k+1))/\(l[k]?.getD []≠m[k]?.getD []->l≠m):=by
 refine⟨λh e=>?_,λh e=>h (by rw[e])⟩;rw[bz [] l k h1,bz [] m k h2,h,e]
def ER (w:X)(B:Nat)(A:Option S)(ls:List (List Int)):Prop :=
 ls≠[]->∃b o,A=Y ⟨b,o,J⟩/\b<B/\∀i l,ls[i]?=Y l->∃A' c,w.cell? ⟨b,o+i,J⟩=Y (Z A' l.length c)/\RI w B A' l
def ER.keep {w w':X}{B:Nat}{A:Option S}{ls:List (List Int)}(h:ER w B A ls)(hk:∀b o,b<B->w'.cell? ⟨b,o,J⟩=w.cell? ⟨b,o,J⟩):ER w' B A ls:=λhn=>by
 obtain⟨b,o,e,hb,hc⟩:=h hn;refine⟨b,o,e,hb,λi l hl=>?_⟩;obtain⟨A',c,h1,h2⟩:=hc i l hl;exact⟨A',c,(hk _ _ hb).trans h1,h2.keep hk⟩
def ER.gr {w w':X}{B:Nat}{A:Option S}{ls:List (List Int)}(h:ER w B A ls)(hB:B<=w.heap.size)(hg:Gr w w'):ER w' B A ls:=h.keep λ_ _ hb=>hg.cell (AC hb hB)
def ER.more {w:X}{B B':Nat}{A:Option S}{ls:List (List Int)}(h:ER w B A ls)(hB:B<=B'):ER w B' A ls:=λhn=>by
 obtain⟨b,o,e,hb,hc⟩:=h hn;refine⟨b,o,e,by omega,λi l hl=>?_⟩;obtain⟨A',c,h1,h2⟩:=hc i l hl;exact⟨A',c,h1,h2.more hB⟩
def ER.nil {w:X}{B:Nat}{A:Option S}:ER w B A []:=λh=>AI rfl h
def ER.at_ {w:X}{B:Nat}{A:Option S}{ls:List (List Int)}(h:ER w B A ls){k:Nat}(hk:k<ls.length):∃b o A' c,A=Y ⟨b,o,J⟩/\b<B/\w.cell? ⟨b,o+k,J⟩=Y (Z A' (ls[k]?.getD []).length c)/\RI w B A' (ls[k]?.getD []):=by
 obtain⟨b,o,e,hb,hc⟩:=h (λe=>by rw[e] at hk;simp at hk);obtain⟨A',c,h1,h2⟩:=hc k _ (AB hk);refine⟨b,o,A',c,e,hb,?_⟩;rw[AB hk];exact⟨h1,h2⟩
def gw (l:List (List Int))(k:Nat)(h:k<l.length):l[k]?.getD []∈l:=by
 rw[AB h];exact Bh h
def cR {w:X}{B b:Nat}{l:List Int}{t:bw}{f:Nat×Nat}(h:w.heap[b]?=Y (.cells (l.map (U C)).toArray t f))(hB:b<B):RI w B (Y ⟨b,0,J⟩) l:=λ_ =>
 ⟨b,0,rfl,hB,λi x hx=>by
  unfold b6;rw[h];show(l.map (U C)).toArray[0+i]?=_
  rw[AO,Bg,BK,hx];rfl⟩
def heap_alloc_new (w:X)(o:Obj):(w.alloc o).heap[w.heap.size]?=Y o:=by
 show(w.heap.push o)[w.heap.size]?=_;simp
def ae (w:X)(o:Obj){b:Nat}(h:b<w.heap.size):(w.alloc o).heap[b]?=w.heap[b]?:=by
 show(w.heap.push o)[b]?=_;simp[Cm,Dg h]
def aM (w:X)(o:Obj){b:Nat}(h:b=w.heap.size):(w.alloc o).heap[b]?=Y o:=by subst h;exact heap_alloc_new w o
def E2:List (List Int):=[[0],[1],[0,2]]
def kJ (w:X):H DU 24 #[] w λe w'=>∃A,e=.returned (Z A E2.length 3)/\ER w' w'.heap.size A E2/\Gr w w':=by
 go_enter Sq.func24,Tryz.ntmps24;go_wp2;go_ret;refine⟨_,rfl,λ_=>⟨_,0,rfl,by simp,λi l hl=>?_⟩,((((Gr.refl w).alloc _).alloc _).alloc _).alloc _⟩
 match i,hl with
 |0,hl =>
  simp[E2] at hl;subst hl;refine⟨Y ⟨w.heap.size,0,J⟩,1,?_,cR (l:=[0]) (t:=3) (f:=(0,0)) ?_ (by simp;omega)⟩
  .rw[AE _ _ _ _ (by simp)];rfl
  .rw[ae _ _ (by simp;omega),ae _ _ (by simp;omega),ae _ _ (by simp),aM _ _ rfl];rfl
 |1,hl =>
  simp[E2] at hl;subst hl;refine⟨Y ⟨w.heap.size+1,0,J⟩,1,?_,cR (l:=[1]) (t:=3) (f:=(0,0)) ?_ (by simp)⟩
  .rw[AE _ _ _ _ (by simp)];rfl
  .rw[ae _ _ (by simp),ae _ _ (by simp),aM _ _ (by simp)];rfl
 |2,hl =>
  simp[E2] at hl;subst hl;refine⟨Y ⟨w.heap.size+2,0,J⟩,2,?_,cR (l:=[0,2]) (t:=3) (f:=(0,0)) ?_ (by simp)⟩
  .rw[AE _ _ _ _ (by simp)];rfl
  .rw[ae _ _ (by simp),aM _ _ (by simp)];rfl
 |k+3,hl=>simp[E2] at hl
def EL (l:List Int):D9:=⟨l,[⟨12,3,2,[]⟩,⟨6,2,2,[0]⟩,⟨6,1,1,[]⟩]⟩
def rT (A:Option S)(c:Nat)(l:List Int)(w:X):H DU 21 #[Z A l.length c] w λe w'=>∃hA,e=.returned (Ef A hA (EL l) c 3)/\EN w' w'.heap.size hA (EL l).DV/\Gr w w'/\hA=Y ⟨w.heap.size+2,0,J⟩/\w'.heap[w.heap.size+1]?=Y (E #[U C 0] 3 (0,0)) /\
      w'.heap[w.heap.size+2]?=Y (E #[U C 12,U C 3,U C 2,.slice J 0 0,U C 6,U C 2,U C 2,.slice (Y ⟨w.heap.size+1,0,J⟩) 1 1,U C 6,U C 1,U C 1,.slice J 0 0] 49 (0,0)):=by
  go_enter Sq.func21,Tryz.ntmps21;go_wp2;obtain⟨W,hW⟩:∃W:X,W=((w.alloc (E #[Z A l.length c,.slice (Y ⟨w.heap.size+1+1,0,J⟩) 3 3] 25)).alloc (E #[U C 0] 3)).alloc (E #[U C 12,U C 3,U C 2,.slice J 0 0,U C 6,U C 2,U C 2,.slice (Y ⟨w.heap.size+1,0,J⟩) 1 1,U C 6,U C 1,U C 1,.slice J 0 0] 49):=⟨_,rfl⟩
  rw[<-hW];have s0:W.cell? ⟨w.heap.size,0,J⟩=Y (Z A l.length c):=by
    rw[hW,AW _ _ _ (by simp;omega),AW _ _ _ (by simp),AE _ _ _ _ rfl];rfl
  have s1:W.cell? ⟨w.heap.size,1,J⟩=Y (.slice (Y ⟨w.heap.size+1+1,0,J⟩) 3 3):=by
    rw[hW,AW _ _ _ (by simp;omega),AW _ _ _ (by simp),AE _ _ _ _ rfl];rfl
  refine bodyPost_ret (v:=Ef A (Y ⟨w.heap.size+1+1,0,J⟩) (EL l) c 3) (by simp[results,Tryz.results21,go_sem,s0,s1,Ef,EL]) rfl ⟨_,rfl,?_,?_,rfl,?_,?_⟩
  · have hz:w.heap.size+1+1<W.heap.size:=by rw[hW];simp
    have hc:∀o,W.cell? ⟨w.heap.size+1+1,o,J⟩=(#[U C 12,U C 3,U C 2,.slice J 0 0,U C 6,U C 2,U C 2,.slice (Y ⟨w.heap.size+1,0,J⟩) 1 1,U C 6,U C 1,U C 1,.slice J 0 0]:Array G)[o]?:=λo=>by
      rw[hW,AE _ _ _ _ (by simp)]
    have a6:RI W W.heap.size (Y ⟨w.heap.size+1,0,J⟩) [0]:=cR (l:=[0]) (t:=3) (f:=(0,0)) (by
      rw[hW,ae _ _ (by simp),aM _ _ (by simp)];rfl) (by omega)
    refine λ_=>⟨_,0,rfl,hz,λi h hh=>?_⟩
    match i,hh with
    |0,hh=>simp[EL] at hh;subst hh;exact⟨hc _,hc _,hc _,J,0,hc _,.nil⟩
    |1,hh=>simp[EL] at hh;subst hh;exact⟨hc _,hc _,hc _,_,1,hc _,a6⟩
    |2,hh=>simp[EL] at hh;subst hh;exact⟨hc _,hc _,hc _,J,0,hc _,.nil⟩
    |k+3,hh=>simp[EL] at hh
  · rw[hW];exact(((Gr.refl w).alloc _).alloc _).alloc _
  · rw[hW,ae _ _ (by simp),aM _ _ (by simp)]
  · rw[hW,aM _ _ (by simp)]
def my (A:Option S)(c:Nat)(l:List Int)(w:X):H DU 21 #[Z A l.length c] w λe w'=>∃hA,e=.returned (Ef A hA (EL l) c 3)/\EN w' w'.heap.size hA (EL l).DV/\Gr w w' :=
 (rT A c l w).mono λe w' ⟨hA,h1,h2,h3,_⟩=>⟨hA,h1,h2,h3⟩
def cA (l:List Int)(d:Int):List Int:=if d∈l then l else(l++[d]).mergeSort λx y=>decide (x<=y)
def G8 (c:D9)(k:Nat)(d:Int):D9:={ c with DV:=c.DV.set k { c.h k with off:=cA (c.h k).off d } }
def FM (a b:EH):Nat->Nat
 |0=>0
 |n+1=>FM a b n+(wl (a n ^^^ b n)).length
def F6 (r:EH):List EH->Option (EH×Nat)
 |[]=>J
 |l@(_::_)=>l.foldl (λo ρ=>match o with
  |none=>Y (ρ,FM ρ r 5)
  |some b=>if FM ρ r 5<b.2 then Y (ρ,FM ρ r 5) else Y b) J
def gy (r:EH)(l:List EH)(ρ:EH):F6 r (l++[ρ])=(match F6 r l with
  |none=>Y (ρ,FM ρ r 5)
  |some b=>if FM ρ r 5<b.2 then Y (ρ,FM ρ r 5) else Y b):=by
 cases l with
 |nil=>rfl
 |cons a l =>
  show((a::l)++[ρ]).foldl _ J=_;rw[List.foldl_append]
  rfl
def rU {r:EH}:∀(n:Nat) (l:List EH) (p:EH×Nat),l.length=n->F6 r l=Y p->p.1∈l:=by
 intro n
 induction n with
 |zero =>
  intro l p hl h;rw[Bc hl] at h;cases h
 |succ n ih =>
  intro l p hl h;obtain rfl|⟨l',b,rfl⟩:=List.eq_nil_or_concat l
  .simp at hl
  .rw[List.concat_eq_append] at h hl ⊢;rw[gy] at h;have hl':l'.length=n:=by simpa using hl
   cases ho:F6 r l' with
   |none=>rw[ho] at h;cases h;simp
   |some q =>
    rw[ho] at h;simp only at h;split at h
    .cases h;simp
    .have e:=Option.some.inj h;rw[<-e];exact List.mem_append_left _ (ih l' q hl' ho)
def fX {w:X}{B:Nat}{A:Option S}{l:List Int}{K:Nat->Prop}(h:RI w B A l)(hK:∀b,b<B->K b):IH w K A l:=λhn=>by
 obtain⟨b,o,e,hb,hc⟩:=h hn;exact⟨b,o,e,hK b hb,hc⟩
def yg {w:X}{B:Nat}{A:Option S}{l:List EG}{K:Nat->Prop}(h:EN w B A l)(hK:∀b,b<B->K b):Gl w K A l:=λhn=>by
 obtain⟨b,o,e,hb,hc⟩:=h hn;refine⟨b,o,e,hK b hb,λi x hx=>?_⟩;obtain⟨h1,h2,h3,A',c,h4,h5⟩:=hc i x hx;exact⟨h1,h2,h3,A',c,h4,fX h5 hK⟩
def Oe (B cb g:Nat):Nat->Prop:=λb=>b<B\/b=cb\/b=g
def Pt (w:X)(cb g:Nat)(c:D9)(sets:List Nat)(nA hA:Option S)(nc hc cap:Nat):Prop :=
 GK w (.slice (Y ⟨g,0,J⟩) sets.length cap)/\w.heap[cb]?=Y (E #[Z nA c.DW.length nc,Z hA c.DV.length hc,.slice (Y ⟨g,0,J⟩) sets.length cap] 137 (0,0))
def jU (nA hA:Option S)(nc hc:Nat)(c:D9)(w:X)(B:Nat)(hB:B<=w.heap.size)(hn:RI w B nA c.DW)(hh:EN w B hA c.DV)(hm:c.DV.length<=4) :
  H DU 38 #[Ef nA hA c nc hc] w λe w'=>e=.returned (.pointer (Y ⟨w.heap.size+1,0,J⟩))/\Gr w w'/\∃g cap,w.heap.size+2<=g /\
   FZ w' (Oe B (w.heap.size+1) g) (w.heap.size+1) c (En c.DV.length) nA hA nc hc g cap/\Pt w' (w.heap.size+1) g c (En c.DV.length) nA hA nc hc cap:=by
 refine(oT nA hA nc hc c.DW.length c.DV.length w hm (rS c.DV.length hm)).mono ?_;rintro e w' ⟨rfl,g,cap,W,⟨g',cap',hv,hk,hs,hsf⟩,hg,zV,hz,h0,h1,h2,ho,a7,a8⟩;obtain⟨rfl,rfl⟩:g=g'/\cap=cap':=by injection hv with a b c;injection a with a;injection a with a;exact⟨a,c⟩
 have aA:=(ho.lt g rfl).2;have a6:Gr w w':=⟨⟨hk.os.trans zV.below.os,hk.tape.trans zV.below.tape,hk.output.trans zV.below.output,AH zV.size hk.size,λb hb=>(hk.block b (AC hb zV.size) (by show b≠g;omega)).trans (zV.below.block b hb)⟩,AH zV.drawn hk.drawn⟩;refine⟨rfl,a6,g,cap,hg,?_,?_,?_⟩
 rotate_left
 .rw[dx _ hm];exact hsf _ _ a7
 .rw[dx _ hm];exact(hk.block _ hz (by show ¬w.heap.size+1=g;omega)).trans a8
 have zw:∀o,w'.cell? ⟨w.heap.size+1,o,J⟩=W.cell? ⟨w.heap.size+1,o,J⟩:=λo=>hk.cell (p:=⟨w.heap.size+1,o,J⟩) hz (by show w.heap.size+1≠g;omega);refine⟨?_,Or.inr (Or.inl rfl),(zw 0).trans h0,(zw 1).trans h1,?_,Or.inr (Or.inr rfl),hs,fX (hn.gr hB a6) λb hb=>Or.inl hb,yg (hh.keep λb o hb=>a6.cell (AC hb hB)) λb hb=>Or.inl hb⟩
 .rintro b (h|h|h)
  .have:=a6.size;omega
  .have:=hk.size;omega
  .have:=hk.size;omega
 .rw[dx _ hm];exact(zw 2).trans h2
def QS (nA hA:Option S)(nc hc:Nat)(c:D9)(B:Nat)(w:X)(e:Ending)(w':X):Prop :=
 Gr w w' ∧ if Eg c = 0 then ∃ cb g cap, e = .returned (.tuple #[.pointer (Y ⟨cb, 0, J⟩), U C 0]) ∧ w.heap.size <= cb ∧ cb < g ∧ FZ w' (Oe B cb g) cb c (En c.DV.length) nA hA nc hc g cap ∧ Pt w' cb g c (En c.DV.length) nA hA nc hc cap
   else e=.returned (.tuple #[.pointer J,U C (Eg c)])
def kK (nA hA:Option S)(nc hc:Nat)(c:D9)(w:X)(B:Nat)(hB:B<=w.heap.size)(hn:RI w B nA c.DW)(hh:EN w B hA c.DV)(aC:c.DW.length<=4611686018427387904)(zC:c.DV.length<=4611686018427387904)
  (aD:∀h∈c.DV,h.off.length<=4611686018427387904) :
  H DU 46 #[Ef nA hA c nc hc] w (QS nA hA nc hc c B w):=by
 have HN:=Ay hn;have HH:=Ay hh;have aF:=Ay aD;unfold Ef;obtain⟨W0,zM⟩:∃W0:X,W0=w.alloc (E #[Z nA c.DW.length nc,Z hA c.DV.length hc] 25):=⟨_,rfl⟩;have zL:Gr w W0:=zM▸(Gr.refl w).alloc _;have a8:RI W0 B nA c.DW:=HN.out.gr hB zL;have aA:EN W0 B hA c.DV:=HH.out.keep λb o hb=>zL.cell (AC hb hB);have zF:W0.heap.size=w.heap.size+1:=by rw[zM];simp
 have HW:=Ay zM;have HC:=Ay (wv nA hA nc hc c W0 B (by omega) a8 aA aC zC aF.out);have aB:=Ay zL;have aG:=Ay a8;have aH:=Ay aA;unfold Ef at HC;go_enter Sq.func46,Tryz.ntmps46;go_wp2_with fail;rw[<-HW.out];refine HC.out.mono ?_;rintro e w1 ⟨rfl,zJ⟩;have a7:=Ay zJ;by_cases hE:Eg c=0
 .rw[hE];have hm:=D9.Ok.of hE;have a6:Gr W0 w1:=a7.out;have HS:=Ay (jU nA hA nc hc c w1 B (by have:=a6.size;omega) (aG.out.gr (by omega) a6) (aH.out.keep λb o hb=>a6.cell (AC hb (by omega))) hm.h4);have zp:w1.cell? ⟨w.heap.size,0,J⟩=Y (Z nA c.DW.length nc):=(a6.cell (by show w.heap.size<_;omega)).trans (by rw[HW.out];simp);have zw:w1.cell? ⟨w.heap.size,1,J⟩=Y (Z hA c.DV.length hc):=(a6.cell (by show w.heap.size<_;omega)).trans (by rw[HW.out];simp)
  have zE:=a6.size;unfold Ef at HS;have HE:=Ay hE;go_wp2_with fail;refine HS.out.mono ?_;rintro e w2 ⟨rfl,zI,g,cap,hg,hK,hKF⟩;have aI:=Ay hKF;have HR:=Ay hK;have aJ:=Ay zI;go_wp2;go_ret2;refine⟨aB.out.trans (a7.out.trans aJ.out),?_⟩;rw[AF HE.out];exact⟨_,g,cap,rfl,by omega,by omega,HR.out,aI.out⟩
 .have HE:=Ay hE;obtain⟨k,hk⟩:∃k,k=Eg c:=⟨_,rfl⟩;rw[<-hk] at hE ⊢;have HK:=Ay hk;clear hk;go_wp2;go_ret2;refine⟨aB.out.trans a7.out,?_⟩;rw[AD HE.out];show Ending.returned (.tuple #[.pointer J,U C k])=_;rw[HK.out]
end Go.Sq
