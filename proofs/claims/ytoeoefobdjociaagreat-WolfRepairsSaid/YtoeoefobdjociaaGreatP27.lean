/- Parts of the proof. -/
import Derived.Test.YtoeoefobdjociaaGreatP26
set_option linter.all false
set_option maxHeartbeats 16000000
set_option maxRecDepth 100000
open Option renaming some->Z,none->X
open Go.Value renaming pointer->Y,slice->I,int->q
open Go.Proofs.Tryz renaming prog->J,func53->bk,func20->br,func22->bs,func154->bw,func156->bW,func46->ck,func21->cq,func54->cr,func57->cu,func62->cw,f6->cF
open List.range renaming loop->N
open Go renaming Value->C,World->D,FuncId->L,Goroutine->y,TypeId->ak,Frame->bc
open List renaming range->E
open Go.Frame renaming finish_at->M,enter->bq
open Bool renaming true->j,false->bb
open Go.IntKind renaming i64->m
open Go.Obj renaming cells->r
open Go.Conc renaming G->bl,enter_at->cf
namespace Go.Sq
open Go.Proofs
open Go.RowKit Go.Eu Go.Co Go.Conc
attribute [local go_sem] Oper.semAt_some
noncomputable def cB:Code:=Tryz.f20.body.getD .skip
noncomputable def c5:Array Oper:=Gh (aF (ag (ag (ag (ag cB)))))
noncomputable def x5:Code:=ag (ag (ag (ag (ag cB))))
def vy {bn bo bh:Nat}{w:D}{SB:L->Bool}(hn:w.heap[bn]?=Z (.cells G5.toArray 3 (0,0)))(ho:w.heap[bo]?=Z (r #[q m 0] 3 (0,0)))(hh:w.heap[bh]?=Z (.cells (Hx bo).toArray 49 (0,0))) :
  ∀b,(b=bn\/b=bo\/b=bh)->∃o,w.heap[b]?=Z o/\EW (SP SB Dj) (CK DU SB bb) (EK λb=>b=bn\/b=bo\/b=bh) o o:=by
 rintro b (rfl|rfl|rfl)
 .refine⟨_,hn,.cells (Fc λv hv=>?_) λi h1 h2=>⟨h1,h2⟩⟩;simp only[G5,AJ,AG,or_false] at hv;rcases hv with rfl|rfl|rfl<;>exact DZ.int _ _
 .refine⟨_,ho,.cells (Fc (l:=[q m 0]) λv hv=>?_) λi h1 h2=>⟨h1,h2⟩⟩;simp only[AJ,AG,or_false] at hv;subst hv;exact DZ.int _ _
 .refine⟨_,hh,.cells (Fc λv hv=>?_) λi h1 h2=>⟨h1,h2⟩⟩;simp only[Hx,AJ,AG,or_false] at hv;rcases hv with rfl|rfl|rfl|rfl|rfl|rfl|rfl|rfl|rfl|rfl|rfl|rfl<;>first|exact DZ.int _ _|exact DZ.GL _ _|exact E7.slice (.inr (.inl rfl)) _ _ _ _
def mF (bn bo bh:Nat)(w1:D)(v:C)(w':D):Prop:=∃(cb sb cap:Nat) (cur:List C) (t:ak),v=.tuple #[.pointer (Z ⟨cb,0,X⟩),q m 0]/\w1.heap.size<=cb/\cb<sb/\F2 w' bn bo bh cb sb cap cur t/\w1.heap.size<=w'.heap.size/\∀b,b<w1.heap.size->w'.heap[b]?=w1.heap[b]?
def rY (bn bo bh:Nat){SB:L->Bool}:D8 (SP SB Dj) (EK λb=>b=bn\/b=bo\/b=bh) #[.agg #[.slice (Z ⟨bn,0,X⟩) 3 3,.slice (Z ⟨bh,0,X⟩) 3 3]] #[.agg #[.slice (Z ⟨bn,0,X⟩) 3 3,.slice (Z ⟨bh,0,X⟩) 3 3]] :=
 Fc (l:=[.agg #[.slice (Z ⟨bn,0,X⟩) 3 3,.slice (Z ⟨bh,0,X⟩) 3 3]]) λv hv=>by
  simp only[AJ,AG,or_false] at hv;subst hv;refine E7.agg (l:=[.slice (Z ⟨bn,0,X⟩) 3 3,.slice (Z ⟨bh,0,X⟩) 3 3]) λv hv=>?_;simp only[AJ,AG,or_false] at hv;obtain rfl|rfl:=hv
  .exact E7.slice (.inl rfl) _ _ _ _
  .exact E7.slice (.inr (.inr rfl)) _ _ _ _
def pd {bn bo bh:Nat}{w:D}(hn:w.heap[bn]?=Z (.cells G5.toArray 3 (0,0)))(ho:w.heap[bo]?=Z (r #[q m 0] 3 (0,0)))(hh:w.heap[bh]?=Z (.cells (Hx bo).toArray 49 (0,0)))(τ:Tape)(d:Nat) :
  Calls DU 46 #[.agg #[.slice (Z ⟨bn,0,X⟩) 3 3,.slice (Z ⟨bh,0,X⟩) 3 3]] (on w τ d) (λe w'=>∃v,e=.returned v/\mF bn bo bh w v w'):=by
 have ln:=(Az.1 hn).1;have lo:=(Az.1 ho).1;have lh:=(Az.1 hh).1;have hb:∀i:Nat,(on w τ d).cell? ⟨bh,i,X⟩=(Hx bo)[i]?:=λi=>(cell_of (W:=on w τ d) hh i).trans (by simp);have a8:RI (on w τ d) w.heap.size (Z ⟨bn,0,X⟩) Ei.DW:=λ_=>by
  refine⟨bn,0,rfl,ln,λi x hx=>?_⟩;rw[cell_of (W:=on w τ d) hn]
  match i,hx with
  |0,hx=>simp[Ei,EL] at hx;subst hx;rfl
  |1,hx=>simp[Ei,EL] at hx;subst hx;rfl
  |2,hx=>simp[Ei,EL] at hx;subst hx;rfl
  |k+3,hx=>simp[Ei,EL] at hx
 have hro:RI (on w τ d) w.heap.size (Z ⟨bo,0,X⟩) [0]:=λ_=>by
  refine⟨bo,0,rfl,lo,λi x hx=>?_⟩;rw[cell_of (W:=on w τ d) ho]
  match i,hx with
  |0,hx=>simp at hx;subst hx;rfl
  |k+1,hx=>simp at hx
 have aA:EN (on w τ d) w.heap.size (Z ⟨bh,0,X⟩) Ei.DV:=λ_=>⟨bh,0,rfl,lh,λi x hx=>by
  match i,hx with
  |0,hx=>simp[Ei,EL] at hx;subst hx;exact⟨hb _,hb _,hb _,X,0,hb _,.nil⟩
  |1,hx=>simp[Ei,EL] at hx;subst hx;exact⟨hb _,hb _,hb _,_,1,hb _,hro⟩
  |2,hx=>simp[Ei,EL] at hx;subst hx;exact⟨hb _,hb _,hb _,X,0,hb _,.nil⟩
  |k+3,hx=>simp[Ei,EL] at hx⟩
 refine(kK (Z ⟨bn,0,X⟩) (Z ⟨bh,0,X⟩) 3 3 Ei (on w τ d) w.heap.size (AA _) a8 aA (by decide) (by decide) (by decide)).mono ?_;rintro e w' ⟨hg,a7⟩;rw[AF iR] at a7;obtain⟨cb,g,cap,rfl,hcb,aB,hK,hF1,hF2⟩:=a7;obtain⟨cur,t,q1,q2⟩:=hF1 _ _ _ rfl;have a6:∀b,b<w.heap.size->w'.heap[b]?=w.heap[b]?:=λb hb=>hg.below.block b hb;refine⟨_,rfl,cb,g,cap,cur.toList,t,rfl,hcb,aB,⟨λp hp=>?_,λi x hx=>?_,q2⟩,hg.size,a6⟩
 .simp only[EF,AJ,AG,or_false] at hp;obtain rfl|rfl|rfl|rfl|rfl:=hp
  .exact(a6 bn ln).trans hn
  .exact(a6 bo lo).trans ho
  .exact(a6 bh lh).trans hh
  .exact hF2
  .simpa using q1
 .have h1:=hK.sets i x hx;rw[cell_of q1] at h1;simpa using h1
def rZ {BB:L->Bool}(hB:BB 20=j)(aN:H7 BB){Q:y->D->Prop}(hQ:∀g w W,Et w W->Q g w->Q g W){cs:List bc}(zW:cs≠[]){bn bo bh:Nat}{w:D}
  (hn:w.heap[bn]?=Z (.cells G5.toArray 3 (0,0))) (ho:w.heap[bo]?=Z (r #[q m 0] 3 (0,0))) (hh:w.heap[bh]?=Z (.cells (Hx bo).toArray 49 (0,0)))
  (h:∀(cb sb cap nb:Nat) (cur:List C) (t:ak) (w':D) (T:Array C),F2 w' bn bo bh cb sb cap cur t->w'.heap[nb]?=Z (Ji 0)->zB (EF bn bo bh cb sb cap cur t) nb=bb->T.size=19->T.getD 6 undef=.pointer (Z ⟨nb,0,X⟩)->w.heap.size<=w'.heap.size->(∀b,b<w.heap.size->w'.heap[b]?=w.heap[b]?) ->
   EO J BB Q 0 (ca PP 53 (Ig cb (.func 54) #[] [Y (Z ⟨nb,0,X⟩)].toArray) ((base 20).at ⟨T,[]⟩ [.inRegion c5 [2],.code x5]) cs) w') :
  EO J BB Q 0 (bl (bq J 20 #[Ef (Z ⟨bn,0,X⟩) (Z ⟨bh,0,X⟩) Ei 3 3] .normal) cs) w:=by
 rw[cf _ br rfl];simp only[Tryz.ntmps20,AP,AM,AS,Nat.reduceAdd,Nat.reduceSub,BO,BP,B1,BT,Cb,BX];unfold Ef;change EO J BB Q 0 (G _ cs) w;have ln:Ei.DW.length=3:=rfl;have lh:Ei.DV.length=3:=rfl;rw[ln,lh];refine aw hQ hB zW ?_;refine aD hQ hB zW ?_;simp only[AP,AM,AS,Nat.reduceAdd,AO,E,N];refine ah hQ hB zW rfl rfl λK hK q1 q2 q3=>?_
 go_simp;refine hK _ (w.alloc _) ?_ _ ⟨rfl,rfl,rfl⟩
 try walk_nrm
 try simp only[aa]
 obtain⟨w1,a7⟩:∃w1,w1=w.alloc (r #[.slice (Z ⟨bn,0,X⟩) 3 3,.slice (Z ⟨bh,0,X⟩) 3 3] 25):=⟨_,rfl⟩;rw[<-a7];have zE:w1.heap.size=w.heap.size+1:=by rw[a7,aL]
 have aH:w1.heap[w.heap.size]?=Z (r #[.slice (Z ⟨bn,0,X⟩) 3 3,.slice (Z ⟨bh,0,X⟩) 3 3] 25 (0,0)):=by rw[a7,aG,AF rfl]
 have a6:∀b,b<w.heap.size->w1.heap[b]?=w.heap[b]?:=λb hb=>by rw[a7,aG,AD (by omega)]
 have zp:w1.cell? ⟨w.heap.size,0,X⟩=Z (.slice (Z ⟨bn,0,X⟩) 3 3):=cell_of aH 0;have zw:w1.cell? ⟨w.heap.size,1,X⟩=Z (.slice (Z ⟨bh,0,X⟩) 3 3):=cell_of aH 1;have aA:bn<w.heap.size/\bo<w.heap.size/\bh<w.heap.size:=⟨(Az.1 hn).1,(Az.1 ho).1,(Az.1 hh).1⟩;have aI:=(a6 bn aA.1).trans hn;have aK:=(a6 bo aA.2.1).trans ho;have aM:=(a6 bh aA.2.2).trans hh;clear a7;refine ah hQ hB zW rfl rfl λK hK q1 q2 q3=>?_
 go_simp;refine hK _ w1 ?_ _ ⟨rfl,rfl,rfl⟩
 try walk_nrm
 try simp only[aa]
 refine ah hQ hB zW rfl rfl λK hK q1 q2 q3=>?_;go_simp;refine hK _ w1 ?_ _ ⟨rfl,rfl,rfl⟩
 try walk_nrm
 try simp only[aa]
 refine aC hQ hB zW ?_;refine aw hQ hB zW ?_;refine aD hQ hB zW ?_;simp only[AP,AM,AS,Nat.reduceAdd,AO,E,N];refine ah hQ hB zW rfl rfl λK hK q1 q2 q3=>?_;go_simp;refine hK _ w1 ?_ _ ⟨rfl,rfl,rfl⟩
 try walk_nrm
 try simp only[aa]
 refine aB hQ hB (by kernel_rfl) λτ d=>?_;refine aJ rfl rfl (by decide) rfl ck (by kernel_rfl) (by kernel_rfl) ⟨Ep _ _,w1,Di,?_⟩
 try walk_nrm
 refine(en (H:=Dj) aN).fn (f:=46) (by decide) (by decide) (K0:=λb=>b=bn\/b=bo\/b=bh) zW (λ_ _=>AU _) (AU _) (rY bn bo bh) (λb _ hb=>by cases hb) (λb hb=>by cases hb)
  (λb hb _=>vy aI aK aM b hb) hQ (R:=mF bn bo bh w1) (pd aI aK aM) ?_
 rintro v w2 ⟨cb,sb,cap,cur,t,rfl,hcb,aP,zP,zD,aF⟩;change EO J BB Q 0 _ w2;rw[M];simp only[Bg,Be,Bd,BF]
 try walk_nrm
 refine ah hQ hB zW rfl rfl λK hK q1 q2 q3=>?_;go_simp;refine hK _ w2 ?_ _ ⟨rfl,rfl,rfl⟩
 try walk_nrm
 try simp only[aa]
 refine ah hQ hB zW rfl rfl λK hK q1 q2 q3=>?_;go_simp;refine hK _ w2 ?_ _ ⟨rfl,rfl,rfl⟩
 try walk_nrm
 try simp only[aa]
 refine ah hQ hB zW rfl rfl λK hK q1 q2 q3=>?_;go_simp;refine hK _ w2 ?_ _ ⟨rfl,rfl,rfl⟩
 try walk_nrm
 try simp only[aa]
 refine ah hQ hB zW rfl rfl λK hK q1 q2 q3=>?_;go_simp;refine hK _ w2 ?_ _ ⟨rfl,rfl,rfl⟩
 try walk_nrm
 try simp only[aa]
 refine ah hQ hB zW rfl rfl λK hK q1 q2 q3=>?_;go_simp;refine hK _ w2 ?_ _ ⟨rfl,rfl,rfl⟩
 try walk_nrm
 try simp only[aa]
 refine aC hQ hB zW ?_
 iterate 2 refine aw hQ hB zW ?_
 refine aD hQ hB zW ?_;simp only[AP,AM,AS,Nat.reduceAdd,AO,E,N];refine ah hQ hB zW rfl rfl λK hK q1 q2 q3=>?_;go_simp;refine hK _ w2 ?_ _ ⟨rfl,rfl,rfl⟩
 try walk_nrm
 try simp only[aa]
 refine ah hQ hB zW rfl rfl λK hK q1 q2 q3=>?_;go_simp;refine hK _ w2 ?_ _ ⟨rfl,rfl,rfl⟩
 try walk_nrm
 try simp only[aa]
 refine aC hQ hB zW ?_;refine jO hQ hB zW ?_;refine gq hQ hB zW ?_;refine aw hQ hB zW ?_;refine aD hQ hB zW ?_;simp only[AP,AM,AS,Nat.reduceAdd,AO,E,N];refine ah hQ hB zW rfl rfl λK hK q1 q2 q3=>?_;go_simp;refine hK _ (w2.alloc _) ?_ _ ⟨rfl,rfl,rfl⟩;clear hK K q1 q2 q3
 try walk_nrm
 try simp only[aa]
 obtain⟨w3,hw3⟩:∃w3,w3=w2.alloc (Ji 0):=⟨_,rfl⟩;change EO J BB Q 0 _ (w2.alloc (Ji 0));rw[<-hw3];have hz3:w3.heap.size=w2.heap.size+1:=by rw[hw3,aL]
 have a8:∀b,b<w2.heap.size->w3.heap[b]?=w2.heap[b]?:=λb hb=>by rw[hw3,aG,AD (by omega)]
 have aO:w3.heap[w2.heap.size]?=Z (Ji 0):=by rw[hw3,aG,AF rfl]
 clear hw3;refine aC hQ hB zW ?_;refine aw hQ hB zW ?_;refine aD hQ hB zW ?_;simp only[AP,AM,AS,Nat.reduceAdd,AO,E,N];refine ah hQ hB zW rfl rfl λK hK q1 q2 q3=>?_;go_simp;refine hK _ w3 ?_ _ ⟨rfl,rfl,rfl⟩;refine ah hQ hB zW rfl rfl λK hK q1 q2 q3=>?_;go_simp;refine hK _ w3 ?_ _ ⟨rfl,rfl,rfl⟩
 try walk_nrm
 try simp only[aa]
 refine aB hQ hB (by kernel_rfl) λτ d=>?_;refine aJ rfl rfl (by decide) rfl bk (by kernel_rfl) (by kernel_rfl) ⟨Ep _ _,w3,Di,?_⟩
 try walk_nrm
 refine h cb sb cap w2.heap.size cur t w3 _ (zP.keep λb hb=>a8 b (zP.lt hb)) aO (by
  cases hq:zB (EF bn bo bh cb sb cap cur t) w2.heap.size with
  |false=>rfl
  |true=>exact AI (zP.lt hq) (C7 _)) rfl rfl (by omega) λb hb=>(a8 b (by omega)).trans ((aF b (by omega)).trans (a6 b hb))
def QW {T:Array C}(h:T.size=19):∃y0 y1 y2 y3 y4 y5 y6 y7 y8 y9 a6 a7 a8 aA aB aC aD aF aG:C,T=#[y0,y1,y2,y3,y4,y5,y6,y7,y8,y9,a6,a7,a8,aA,aB,aC,aD,aF,aG]:=by
 obtain⟨l⟩:=T;have h:l.length=19:=h
 match l,h with
 |[y0,y1,y2,y3,y4,y5,y6,y7,y8,y9,a6,a7,a8,aA,aB,aC,aD,aF,aG],_=>exact⟨y0,y1,y2,y3,y4,y5,y6,y7,y8,y9,a6,a7,a8,aA,aB,aC,aD,aF,aG,rfl⟩
def qg {BB:L->Bool}(hB:BB 20=j)(a6:H7 BB){Q:y->D->Prop}(hQ:∀g w W,Et w W->Q g w->Q g W){b0:bc}{a0:Act}{ops:Array Oper}{i:Nat}{rest:List Nat}{k:List Item}{cs:List bc}(zW:cs≠[]){nb:Nat}{n:Int}{w:D}
  (hn:w.heap[nb]?=Z (Ji n)) {T:Array C} (hT:T.size=19) (h6:T.getD 6 undef=.pointer (Z ⟨nb,0,X⟩))
  (h:EO J BB Q 0 (bl (b0.at (a0.put ((ops[i]?).bind (·.dst)) (.tuple #[q m n,q m 0])) (.inRegion ops rest::k)) cs) w) :
  EO J BB Q 0 (back ((base 20).at ⟨T,[]⟩ [.inRegion c5 [2],.code x5]) (b0.at a0 (.inRegion ops (i::rest)::k)::cs)) w:=by
 obtain⟨y0,y1,y2,y3,y4,y5,y6,y7,y8,y9,a7,a8,aA,aF,aG,aH,aI,aK,aL,rfl⟩:=QW hT;have h6:y6=.pointer (Z ⟨nb,0,X⟩):=h6;subst h6;unfold back;rw[M];change EO J BB Q 0 (G _ _) w;have e17:(c5[2]?.bind (·.dst))=Z 17:=rfl;rw[e17]
 try walk_nrm
 refine aC hQ hB (Ep _ _) ?_;have ex5:x5=ag (ag (ag (ag (ag cB)))):=rfl;simp only[cB,Tryz.f20,AY,ag] at ex5;rw[ex5];refine aw hQ hB (Ep _ _) ?_;refine aD hQ hB (Ep _ _) ?_;simp only[AP,AM,AS,Nat.reduceAdd,AO,E,N];refine aB hQ hB (by kernel_rfl) λτ d=>?_;refine aJ rfl rfl (by decide) rfl Tryz.func56 (by kernel_rfl) (by kernel_rfl) ⟨Ep _ _,w,Di,?_⟩
 try walk_nrm
 refine(en (H:=Dj) a6).fn (f:=56) (by decide) (by decide) (K0:=λb=>b=nb) (Ep _ _) (λ_ _=>AU _) (AU _) (Fc (l:=[.pointer (Z ⟨nb,0,X⟩)]) λv hv=>?_) (λb _ hb=>by cases hb) (λb hb=>by cases hb)
  (λb hb _=>⟨_,(by rw[hb];exact hn),kM (PU n)⟩) hQ (R:=λv w'=>v=q m n/\Et w w') (λτ d=>(tA nb n (on w τ d) hn).mono ?_) ?_
 .simp only[AJ,AG,or_false] at hv;subst hv;exact E7.ptr (K:=λb=>b=nb) rfl _ _
 .rintro e w9 ⟨rfl,rfl⟩;exact⟨_,rfl,rfl,Di⟩
 rintro v w2 ⟨rfl,hs2⟩;refine EO.same hQ (W:=w2) ?_ hs2;change EO J BB Q 0 _ w;rw[M];simp only[Bg,Be,Bd,BF]
 try walk_nrm
 refine ah hQ hB (Ep _ _) rfl rfl λK hK q1 q2 q3=>?_;go_simp;refine hK _ w ?_ _ ⟨rfl,rfl,rfl⟩
 try walk_nrm
 try simp only[aa]
 refine ah hQ hB (Ep _ _) rfl rfl λK hK q1 q2 q3=>?_;go_simp;refine hK _ w ?_ _ ⟨rfl,rfl,rfl⟩
 try walk_nrm
 try simp only[aa]
 refine aC hQ hB (Ep _ _) ?_;refine aB hQ hB (by kernel_rfl) λτ d=>?_;rw[stepG_ret'];simp only[goes_go];refine⟨(Ep _ _),w,Di,?_⟩;refine dT hQ hB (by kernel_rfl) λτ d=>?_;refine goes_leave2 rfl rfl br rfl ⟨zW,w,Di,?_⟩;exact h
attribute [local go_sem] Oper.semAt_some
noncomputable def dB:Code:=Tryz.f22.body.getD .skip
noncomputable def d6:Array Oper:=Gh (aF (ag (ag (ag (ag (ag dB))))))
noncomputable def z6:Code:=ag (ag (ag (ag (ag (ag dB)))))
def r6 {W:D}{b i:Nat}{a:Array C}{u:C}{t:ak}{f:Nat×Nat}(h:W.heap[b]?=Z (.cells a t f)):(W.setCell ⟨b,i,X⟩ u).heap[b]?=Z (.cells (a.setIfInBounds i u) t f):=by
 unfold World.setCell;simp only[BA,if_true,h]
 rfl
def EC {W:D}{b i c:Nat}{u:C}(h:c≠b):(W.setCell ⟨b,i,X⟩ u).heap[c]?=W.heap[c]?:=by
 unfold World.setCell;simp only[BA];rw[AD (λe=>h e.symm)]
def r7 {W:D}{b i:Nat}{u:C}:(W.setCell ⟨b,i,X⟩ u).heap.size=W.heap.size:=by
 unfold World.setCell;simp
def r8 {W:D}{b:Nat}{l:Array C}{t:ak}(h:W.heap[b]?=Z (.cells l t (0,0)))(i:Nat):W.frozen? ⟨b,i,X⟩=false:=by
 unfold World.frozen?;simp[h]
def um {BB:L->Bool}(hB:BB 22=j)(bF:H7 BB){Q:y->D->Prop}(hQ:∀g w W,Et w W->Q g w->Q g W){cs:List bc}(zW:cs≠[]){bn bo bh:Nat}{w:D}
  (hn:w.heap[bn]?=Z (.cells G5.toArray 3 (0,0))) (ho:w.heap[bo]?=Z (r #[q m 0] 3 (0,0))) (hh:w.heap[bh]?=Z (.cells (Hx bo).toArray 49 (0,0)))
  (h:∀(cb sb cap qb xb kb:Nat) (cur:List C) (t:ak) (w':D) (T:Array C),F2 w' bn bo bh cb sb cap cur t->w'.heap[kb]?=Z (GA bb λ_=>0)->(∀p∈FT xb qb cb,w'.heap[p.1]?=Z (.cells p.2.1.toArray p.2.2 (0,0)))->zB (EF bn bo bh cb sb cap cur t++FT xb qb cb) kb=bb ->
   T.size=27->T.getD 4 undef=.pointer (Z ⟨qb,0,X⟩)->T.getD 7 undef=.pointer (Z ⟨kb,0,X⟩)->w.heap.size<=w'.heap.size->(∀b,b<w.heap.size->w'.heap[b]?=w.heap[b]?) ->
   EO J BB Q 0 (ca PP 53 (Ig cb (.func 62) #[] [Y (Z ⟨kb,0,X⟩),.pointer (Z ⟨xb,0,X⟩)].toArray) ((base 22).at ⟨T,[]⟩ [.inRegion d6 [2],.code z6]) cs) w') :
  EO J BB Q 0 (bl (bq J 22 #[Ef (Z ⟨bn,0,X⟩) (Z ⟨bh,0,X⟩) Ei 3 3] .normal) cs) w:=by
 rw[cf _ bs rfl];simp only[Tryz.ntmps22,AP,AM,AS,Nat.reduceAdd,Nat.reduceSub,BO,BP,B1,BT,Cb,BX];unfold Ef;change EO J BB Q 0 (G _ cs) w;have ln:Ei.DW.length=3:=rfl;have lh:Ei.DV.length=3:=rfl;rw[ln,lh];refine aw hQ hB zW ?_;refine aD hQ hB zW ?_;simp only[AP,AM,AS,Nat.reduceAdd,AO,E,N];refine ah hQ hB zW rfl rfl λK hK q1 q2 q3=>?_
 go_simp;refine hK _ (w.alloc _) ?_ _ ⟨rfl,rfl,rfl⟩;clear hK K q1 q2 q3
 try walk_nrm
 try simp only[aa]
 obtain⟨w1,aF⟩:∃w1,w1=w.alloc (r #[.slice (Z ⟨bn,0,X⟩) 3 3,.slice (Z ⟨bh,0,X⟩) 3 3] 25):=⟨_,rfl⟩;rw[<-aF];have zE:w1.heap.size=w.heap.size+1:=by rw[aF,aL]
 have bB:w1.heap[w.heap.size]?=Z (r #[.slice (Z ⟨bn,0,X⟩) 3 3,.slice (Z ⟨bh,0,X⟩) 3 3] 25 (0,0)):=by rw[aF,aG,AF rfl]
 have a6:∀b,b<w.heap.size->w1.heap[b]?=w.heap[b]?:=λb hb=>by rw[aF,aG,AD (by omega)]
 have zp:w1.cell? ⟨w.heap.size,0,X⟩=Z (.slice (Z ⟨bn,0,X⟩) 3 3):=cell_of bB 0;have zw:w1.cell? ⟨w.heap.size,1,X⟩=Z (.slice (Z ⟨bh,0,X⟩) 3 3):=cell_of bB 1;have aQ:bn<w.heap.size/\bo<w.heap.size/\bh<w.heap.size:=⟨(Az.1 hn).1,(Az.1 ho).1,(Az.1 hh).1⟩;have bC:=(a6 bn aQ.1).trans hn;have bD:=(a6 bo aQ.2.1).trans ho;have bE:=(a6 bh aQ.2.2).trans hh;clear aF;refine ah hQ hB zW rfl rfl λK hK q1 q2 q3=>?_
 go_simp;refine hK _ w1 ?_ _ ⟨rfl,rfl,rfl⟩;clear hK K q1 q2 q3
 try walk_nrm
 try simp only[aa]
 refine ah hQ hB zW rfl rfl λK hK q1 q2 q3=>?_;go_simp;refine hK _ w1 ?_ _ ⟨rfl,rfl,rfl⟩;clear hK K q1 q2 q3
 try walk_nrm
 try simp only[aa]
 refine aC hQ hB zW ?_;refine aw hQ hB zW ?_;refine aD hQ hB zW ?_;simp only[AP,AM,AS,Nat.reduceAdd,AO,E,N];refine ah hQ hB zW rfl rfl λK hK q1 q2 q3=>?_;go_simp;refine hK _ w1 ?_ _ ⟨rfl,rfl,rfl⟩;clear hK K q1 q2 q3
 try walk_nrm
 try simp only[aa]
 refine aB hQ hB (by kernel_rfl) λτ d=>?_;refine aJ rfl rfl (by decide) rfl ck (by kernel_rfl) (by kernel_rfl) ⟨Ep _ _,w1,Di,?_⟩
 try walk_nrm
 refine(en (H:=Dj) bF).fn (f:=46) (by decide) (by decide) (K0:=λb=>b=bn\/b=bo\/b=bh) zW (λ_ _=>AU _) (AU _) (rY bn bo bh) (λb _ hb=>by cases hb) (λb hb=>by cases hb)
  (λb hb _=>vy bC bD bE b hb) hQ (R:=mF bn bo bh w1) (pd bC bD bE) ?_
 rintro v w2 ⟨cb,sb,cap,cur,t,rfl,hcb,bG,zP,zD,b7⟩;change EO J BB Q 0 _ w2;rw[M];simp only[Bg,Be,Bd,BF]
 try walk_nrm
 refine ah hQ hB zW rfl rfl λK hK q1 q2 q3=>?_;go_simp;refine hK _ w2 ?_ _ ⟨rfl,rfl,rfl⟩;clear hK K q1 q2 q3
 try walk_nrm
 try simp only[aa]
 refine ah hQ hB zW rfl rfl λK hK q1 q2 q3=>?_;go_simp;refine hK _ w2 ?_ _ ⟨rfl,rfl,rfl⟩;clear hK K q1 q2 q3
 try walk_nrm
 try simp only[aa]
 refine ah hQ hB zW rfl rfl λK hK q1 q2 q3=>?_;go_simp;refine hK _ w2 ?_ _ ⟨rfl,rfl,rfl⟩;clear hK K q1 q2 q3
 try walk_nrm
 try simp only[aa]
 refine ah hQ hB zW rfl rfl λK hK q1 q2 q3=>?_;go_simp;refine hK _ (w2.alloc _) ?_ _ ⟨rfl,rfl,rfl⟩;clear hK K q1 q2 q3
 try walk_nrm
 try simp only[aa]
 obtain⟨w3,hw3⟩:∃w3,w3=w2.alloc (r #[.pointer X] 69):=⟨_,rfl⟩;change EO J BB Q 0 _ (w2.alloc (r #[.pointer X] 69));rw[<-hw3];have aR:=Ay (show w3.heap.size=w2.heap.size+1 by rw[hw3,aL]);have b8:∀b,b<w2.heap.size->w3.heap[b]?=w2.heap[b]?:=λb hb=>by rw[hw3,aG,AD (by omega)]
 have a7:w3.heap[w2.heap.size]?=Z (r #[.pointer X] 69):=by rw[hw3,aG,AF rfl]
 clear hw3;refine ah hQ hB zW rfl rfl λK hK q1 q2 q3=>?_;have z1:=cell_of a7 0;have z2:=r8 a7 0;go_simp;refine hK _ (w3.setCell _ _) ?_ _ ⟨rfl,rfl,rfl⟩;clear hK K q1 q2 q3
 try walk_nrm
 try simp only[aa]
 obtain⟨w4,hw4⟩:∃w4,w4=w3.setCell ⟨w2.heap.size,0,X⟩ (.pointer (Z ⟨cb,0,X⟩)):=⟨_,rfl⟩;change EO J BB Q 0 _ (w3.setCell ⟨w2.heap.size,0,X⟩ (.pointer (Z ⟨cb,0,X⟩)));rw[<-hw4];have aS:=Ay (show w4.heap.size=w3.heap.size by rw[hw4,r7]);have b9:∀b,b≠w2.heap.size->w4.heap[b]?=w3.heap[b]?:=λb hb=>by rw[hw4,EC hb]
 have aM:=r6 (i:=0) (u:=.pointer (Z ⟨cb,0,X⟩)) a7;rw[<-hw4] at aM;clear hw4;refine ah hQ hB zW rfl rfl λK hK q1 q2 q3=>?_;go_simp;refine hK _ w4 ?_ _ ⟨rfl,rfl,rfl⟩;clear hK K q1 q2 q3
 try walk_nrm
 try simp only[aa]
 refine aC hQ hB zW ?_
 iterate 2 refine aw hQ hB zW ?_
 refine aD hQ hB zW ?_;simp only[AP,AM,AS,Nat.reduceAdd,AO,E,N];refine ah hQ hB zW rfl rfl λK hK q1 q2 q3=>?_;go_simp;refine hK _ w4 ?_ _ ⟨rfl,rfl,rfl⟩;clear hK K q1 q2 q3
 try walk_nrm
 try simp only[aa]
 refine ah hQ hB zW rfl rfl λK hK q1 q2 q3=>?_;go_simp;refine hK _ w4 ?_ _ ⟨rfl,rfl,rfl⟩;clear hK K q1 q2 q3
 try walk_nrm
 try simp only[aa]
 refine aC hQ hB zW ?_;refine jO hQ hB zW ?_;refine gq hQ hB zW ?_;refine aw hQ hB zW ?_;refine aD hQ hB zW ?_;simp only[AP,AM,AS,Nat.reduceAdd,AO,E,N];refine ah hQ hB zW rfl rfl λK hK q1 q2 q3=>?_;go_simp;refine hK _ w4 ?_ _ ⟨rfl,rfl,rfl⟩;clear hK K q1 q2 q3
 try walk_nrm
 try simp only[aa]
 refine ah hQ hB zW rfl rfl λK hK q1 q2 q3=>?_;go_simp;refine hK _ (w4.alloc _) ?_ _ ⟨rfl,rfl,rfl⟩;clear hK K q1 q2 q3
 try walk_nrm
 try simp only[aa]
 obtain⟨w5,aH⟩:∃w5,w5=w4.alloc (r #[.nilFunc] 116):=⟨_,rfl⟩;change EO J BB Q 0 _ (w4.alloc (r #[.nilFunc] 116));rw[<-aH];have aT:=Ay (show w5.heap.size=w4.heap.size+1 by rw[aH,aL]);have aN:∀b,b<w4.heap.size->w5.heap[b]?=w4.heap[b]?:=λb hb=>by rw[aH,aG,AD (by omega)]
 have a8:w5.heap[w4.heap.size]?=Z (r #[.nilFunc] 116):=by rw[aH,aG,AF rfl]
 clear aH;refine ah hQ hB zW rfl rfl λK hK q1 q2 q3=>?_;have z1:=cell_of a8 0;have z2:=r8 a8 0;go_simp;refine hK _ (w5.setCell _ _) ?_ _ ⟨rfl,rfl,rfl⟩;clear hK K q1 q2 q3
 try walk_nrm
 try simp only[aa]
 obtain⟨w6,aI⟩:∃w6,w6=w5.setCell ⟨w4.heap.size,0,X⟩ (.func (.func 57) #[] #[.pointer (Z ⟨w2.heap.size,0,X⟩)]):=⟨_,rfl⟩;change EO J BB Q 0 _ (w5.setCell ⟨w4.heap.size,0,X⟩ (.func (.func 57) #[] #[.pointer (Z ⟨w2.heap.size,0,X⟩)]));rw[<-aI];have aU:=Ay (show w6.heap.size=w5.heap.size by rw[aI,r7]);have aO:∀b,b≠w4.heap.size->w6.heap[b]?=w5.heap[b]?:=λb hb=>by rw[aI,EC hb]
 have aP:=r6 (i:=0) (u:=.func (.func 57) #[] #[.pointer (Z ⟨w2.heap.size,0,X⟩)]) a8;rw[<-aI] at aP;clear aI;refine aC hQ hB zW ?_;refine aw hQ hB zW ?_;refine aD hQ hB zW ?_;simp only[AP,AM,AS,Nat.reduceAdd,AO,E,N];refine ah hQ hB zW rfl rfl λK hK q1 q2 q3=>?_;go_simp;refine hK _ (w6.alloc _) ?_ _ ⟨rfl,rfl,rfl⟩;clear hK K q1 q2 q3
 try walk_nrm
 try simp only[aa]
 obtain⟨w7,aK⟩:∃w7,w7=w6.alloc (GA bb λ_=>0):=⟨_,rfl⟩;change EO J BB Q 0 _ (w6.alloc (GA bb λ_=>0));rw[<-aK];have aV:=Ay (show w7.heap.size=w6.heap.size+1 by rw[aK,aL]);have aA:∀b,b<w6.heap.size->w7.heap[b]?=w6.heap[b]?:=λb hb=>by rw[aK,aG,AD (by omega)]
 have bA:w7.heap[w6.heap.size]?=Z (GA bb λ_=>0):=by rw[aK,aG,AF rfl]
 clear aK;refine aC hQ hB zW ?_;refine aw hQ hB zW ?_;refine aD hQ hB zW ?_;simp only[AP,AM,AS,Nat.reduceAdd,AO,E,N];have aW:=aR.out;have aX:=aS.out;have aY:=aT.out;have aZ:=aU.out;have b5:=aV.out;have hq7:w7.heap[w2.heap.size]?=Z (r #[.pointer (Z ⟨cb,0,X⟩)] 69 (0,0)):=(aA _ (by omega)).trans ((aO _ (by omega)).trans ((aN _ (by omega)).trans aM))
 have hx7:w7.heap[w4.heap.size]?=Z (r #[.func (.func 57) #[] #[.pointer (Z ⟨w2.heap.size,0,X⟩)]] 116 (0,0)):=(aA _ (by omega)).trans aP;have b6:∀b,b<w2.heap.size->w7.heap[b]?=w2.heap[b]?:=λb hb=>(aA _ (by omega)).trans ((aO _ (by omega)).trans ((aN _ (by omega)).trans ((b9 _ (by omega)).trans (b8 _ hb))));clear aW aX aY aZ b5;refine ah hQ hB zW rfl rfl λK hK q1 q2 q3=>?_
 have z1:=cell_of hq7 0;go_simp;refine hK _ w7 ?_ _ ⟨rfl,rfl,rfl⟩
 try walk_nrm
 try simp only[aa]
 refine ah hQ hB zW rfl rfl λK hK q1 q2 q3=>?_;go_simp;refine hK _ w7 ?_ _ ⟨rfl,rfl,rfl⟩
 try walk_nrm
 try simp only[aa]
 refine aB hQ hB (by kernel_rfl) λτ d=>?_;refine aJ rfl rfl (by decide) rfl bk (by kernel_rfl) (by kernel_rfl) ⟨Ep _ _,w7,Di,?_⟩
 try walk_nrm
 have aW:=aR.out;have aX:=aS.out;have aY:=aT.out;have aZ:=aU.out;have b5:=aV.out;refine h cb sb cap w2.heap.size w4.heap.size w6.heap.size cur t w7 _ (zP.keep λb hb=>b6 b (zP.lt hb)) bA (λp hp=>?_) ?_ rfl rfl rfl (by omega) λb hb=>(b6 b (by omega)).trans ((b7 b (by omega)).trans (a6 b hb))
 .simp only[FT,AJ,AG,or_false] at hp;obtain rfl|rfl:=hp
  .exact hx7
  .exact hq7
 .cases hq:zB (EF bn bo bh cb sb cap cur t++FT w4.heap.size w2.heap.size cb) w6.heap.size with
  |false=>rfl
  |true =>
   exfalso;rw[bj,Bm] at hq;obtain hq|hq:=hq
   .have:=zP.lt hq;omega
   .simp[zB,FT] at hq;omega
def QX {T:Array C}(h:T.size=27):∃y0 y1 y2 y3 y4 y5 y6 y7 y8 y9 a6 a7 a8 aA aB aC aD aF aG aH aI aJ aK aL aM aN aO:C,T=#[y0,y1,y2,y3,y4,y5,y6,y7,y8,y9,a6,a7,a8,aA,aB,aC,aD,aF,aG,aH,aI,aJ,aK,aL,aM,aN,aO]:=by
 obtain⟨l⟩:=T;have h:l.length=27:=h
 match l,h with
 |[y0,y1,y2,y3,y4,y5,y6,y7,y8,y9,a6,a7,a8,aA,aB,aC,aD,aF,aG,aH,aI,aJ,aK,aL,aM,aN,aO],_=>exact⟨y0,y1,y2,y3,y4,y5,y6,y7,y8,y9,a6,a7,a8,aA,aB,aC,aD,aF,aG,aH,aI,aJ,aK,aL,aM,aN,aO,rfl⟩
def r9 {BB:L->Bool}(hB:BB 22=j)(a8:H7 BB){Q:y->D->Prop}(hQ:∀g w W,Et w W->Q g w->Q g W){b0:bc}{a0:Act}{ops:Array Oper}{i:Nat}{rest:List Nat}{k:List Item}{cs:List bc}(zW:cs≠[])
  {bn bo bh cb sb cap qb kb:Nat} {cur:List C} {t:ak} {ρ:EH} (aA:∀i,i<5->ρ i<16) {w:D} (hC:F2 w bn bo bh cb sb cap cur t) (hk:w.heap[kb]?=Z (GA j ρ)) (hq:w.heap[qb]?=Z (r #[.pointer (Z ⟨cb,0,X⟩)] 69 (0,0)))
  {T:Array C} (hT:T.size=27) (h4:T.getD 4 undef=.pointer (Z ⟨qb,0,X⟩)) (h7:T.getD 7 undef=.pointer (Z ⟨kb,0,X⟩))
  (h:∀(A:Option Addr) (c:Nat) (xs:List C) (w':D) (K':Nat->Prop),Ec w' (w.heap.size+1) (I A 3 c) (Ew ρ 3) xs->w.heap.size<=w'.heap.size->(∀b,b<w.heap.size->w'.heap[b]?=w.heap[b]?)->DZ (SP Ie Dj) (EK K') (I A 3 c) (I A 3 c) ->
   (∀b,K' b->∃o,w'.heap[b]?=Z o/\EW (SP Ie Dj) (CK DU Ie bb) (EK K') o o)->EO J BB Q 0 (bl (b0.at (a0.put ((ops[i]?).bind (·.dst)) (.tuple #[I A 3 c,q m 0])) (.inRegion ops rest::k)) cs) w') :
  EO J BB Q 0 (back ((base 22).at ⟨T,[]⟩ [.inRegion d6 [2],.code z6]) (b0.at a0 (.inRegion ops (i::rest)::k)::cs)) w:=by
 obtain⟨y0,y1,y2,y3,y4,y5,y6,y7,y8,y9,aF,aG,aH,aI,aK,aL,aM,aN,aO,aP,aQ,aR,aS,aT,aU,aV,aW,rfl⟩:=QX hT;have h4:y4=.pointer (Z ⟨qb,0,X⟩):=h4;have h7:y7=.pointer (Z ⟨kb,0,X⟩):=h7;subst h4 h7;unfold back;rw[M];change EO J BB Q 0 (G _ _) w;have e19:(d6[2]?.bind (·.dst))=Z 19:=rfl;rw[e19]
 try walk_nrm
 have k2:=cell_of hk 2;have k3:=cell_of hk 3;have k4:=cell_of hk 4;have k5:=cell_of hk 5;have k6:=cell_of hk 6;have k7:=cell_of hk 7;have kq:=cell_of hq 0;simp only[IL,Bg,Be,Bd] at k2 k3 k4 k5 k6 k7 kq;refine aC hQ hB (Ep _ _) ?_;have a6:z6=ag (ag (ag (ag (ag (ag dB))))):=rfl;simp only[dB,Tryz.f22,AY,ag] at a6;rw[a6];clear a6
 iterate 2 refine aw hQ hB (Ep _ _) ?_
 refine aD hQ hB (Ep _ _) ?_;simp only[AP,AM,AS,Nat.reduceAdd,AO,E,N];refine ah hQ hB (Ep _ _) rfl rfl λK hK q1 q2 q3=>?_;go_simp;refine hK _ w ?_ _ ⟨rfl,rfl,rfl⟩;clear hK K q1 q2 q3
 try walk_nrm
 try simp only[aa]
 refine ah hQ hB (Ep _ _) rfl rfl λK hK q1 q2 q3=>?_;go_simp;refine hK _ w ?_ _ ⟨rfl,rfl,rfl⟩;clear hK K q1 q2 q3
 try walk_nrm
 try simp only[aa]
 refine ah hQ hB (Ep _ _) rfl rfl λK hK q1 q2 q3=>?_;go_simp;refine hK _ w ?_ _ ⟨rfl,rfl,rfl⟩;clear hK K q1 q2 q3
 try walk_nrm
 try simp only[aa]
 refine aC hQ hB (Ep _ _) ?_;refine jO hQ hB (Ep _ _) ?_;refine gq hQ hB (Ep _ _) ?_;refine aw hQ hB (Ep _ _) ?_;refine aD hQ hB (Ep _ _) ?_;simp only[AP,AM,AS,Nat.reduceAdd,AO,E,N];refine ah hQ hB (Ep _ _) rfl rfl λK hK q1 q2 q3=>?_;go_simp;refine hK _ w ?_ _ ⟨rfl,rfl,rfl⟩;clear hK K q1 q2 q3
 try walk_nrm
 try simp only[aa]
 refine ah hQ hB (Ep _ _) rfl rfl λK hK q1 q2 q3=>?_;go_simp;refine hK _ w ?_ _ ⟨rfl,rfl,rfl⟩;clear hK K q1 q2 q3
 try walk_nrm
 try simp only[aa]
 refine ah hQ hB (Ep _ _) rfl rfl λK hK q1 q2 q3=>?_;go_simp;refine hK _ w ?_ _ ⟨rfl,rfl,rfl⟩;clear hK K q1 q2 q3
 try walk_nrm
 try simp only[aa]
 refine aB hQ hB (by kernel_rfl) λτ d=>?_;refine aJ rfl rfl (by decide) rfl Tryz.func41 (by kernel_rfl) (by kernel_rfl) ⟨Ep _ _,w,Di,?_⟩
 try walk_nrm
 have zp:w.cell? ⟨cb,0,X⟩=Z (.slice (Z ⟨bn,0,X⟩) 3 3):=cell_of (hC.obj (cb,LS bn bh sb cap,137) (by simp[EF])) 0;have lcb:cb<w.heap.size:=hC.lt ((EY _).2 (by simp));refine(en (H:=Dj) a8).fnK (f:=41) (by decide) (by decide) (K0:=λb=>zB (EF bn bo bh cb sb cap cur t) b=j) (Ep _ _) (λ_ _=>AU _) (AU _) (Fc (l:=[.pointer (Z ⟨cb,0,X⟩),Fl ρ]) λv hv=>?_) (λb _ hb=>by cases hb) (λb hb=>by cases hb)
  (λb hb _=>?_) hQ (R:=λv w'=>∃A c xs,v=I A 3 c/\Ec w' (w.heap.size+1) (I A 3 c) (Ew ρ 3) xs/\w.heap.size<=w'.heap.size/\∀b,b<w.heap.size->w'.heap[b]?=w.heap[b]?) (λτ d=>(oU cb (Z ⟨bn,0,X⟩) 3 3 ρ (on w τ d) lcb zp (by decide) aA).mono ?_) ?_
 .simp only[AJ,AG,or_false] at hv;obtain rfl|rfl:=hv
  .exact E7.ptr (K:=λb=>zB (EF bn bo bh cb sb cap cur t) b=j) ((EY cb).2 (by simp)) _ _
  .refine E7.agg (l:=[.int .u8 (ρ 0),.int .u8 (ρ 1),.int .u8 (ρ 2),.int .u8 (ρ 3),.int .u8 (ρ 4)]) λv hv=>?_;simp only[AJ,AG,or_false] at hv;rcases hv with rfl|rfl|rfl|rfl|rfl<;>exact DZ.int _ _
 .obtain⟨p,hp,rfl⟩:=Hw hb;exact⟨_,hC.obj p hp,.cells (Fc λv hv=>gD hC.flat p hp v hv Ie Dj) λi z1 z2=>⟨z1,z2⟩⟩
 .rintro e w9 ⟨A,c,xs,rfl,ho,hg⟩;exact⟨_,rfl,A,c,xs,rfl,ho,hg.size,λb hb=>hg.below.block b hb⟩
 rintro v w2 K' ⟨A,c,xs,rfl,ho,hz,hold⟩ hv _ a7;change EO J BB Q 0 _ w2;rw[M];simp only[Bg,Be,Bd,BF]
 try walk_nrm
 refine ah hQ hB (Ep _ _) rfl rfl λK hK q1 q2 q3=>?_;go_simp;refine hK _ w2 ?_ _ ⟨rfl,rfl,rfl⟩;clear hK K q1 q2 q3
 try walk_nrm
 try simp only[aa]
 refine ah hQ hB (Ep _ _) rfl rfl λK hK q1 q2 q3=>?_;go_simp;refine hK _ w2 ?_ _ ⟨rfl,rfl,rfl⟩;clear hK K q1 q2 q3
 try walk_nrm
 try simp only[aa]
 refine aC hQ hB (Ep _ _) ?_;refine aB hQ hB (by kernel_rfl) λτ d=>?_;rw[stepG_ret'];simp only[goes_go];refine⟨(Ep _ _),w2,Di,?_⟩;refine dT hQ hB (by kernel_rfl) λτ d=>?_;refine goes_leave2 rfl rfl bs rfl ⟨zW,w2,Di,?_⟩;exact h A c xs w2 K' ho hz hold hv λb hb=>a7 b hb rfl
attribute [local go_sem] Oper.semAt_some
noncomputable def wB:Code:=Tryz.f6.body.getD .skip
noncomputable def e1:Array Oper:=Gh (aF (ag wB))
noncomputable def e2:Array Oper:=Gh (aF (ag (ag wB)))
noncomputable def sa:Code:=ag (ag wB)
noncomputable def Oo:Code:=ag (ag (ag wB))
def Le (bn:Nat)(w1:D)(v:C)(w':D):Prop:=∃bo bh:Nat,v=Ef (Z ⟨bn,0,X⟩) (Z ⟨bh,0,X⟩) Ei 3 3/\w'.heap[bo]?=Z (r #[q m 0] 3 (0,0))/\w'.heap[bh]?=Z (.cells (Hx bo).toArray 49 (0,0))/\w1.heap.size<=w'.heap.size/\∀b,b<w1.heap.size->w'.heap[b]?=w1.heap[b]?
def LU {bn:Nat}{w:D}(τ:Tape)(d:Nat):Calls DU 21 #[.slice (Z ⟨bn,0,X⟩) 3 3] (on w τ d) (λe w'=>∃v,e=.returned v/\Le bn w v w'):=by
 refine(rT (Z ⟨bn,0,X⟩) 3 [3,2,4] (on w τ d)).mono ?_;rintro e w' ⟨hA,rfl,_,hg,rfl,h1,h2⟩;exact⟨_,rfl,_,_,rfl,h1,by simpa [Hx] using h2,hg.size,λb hb=>hg.below.block b hb⟩
def M7 {bn:Nat}{w:D}{SB:L->Bool}(hn:w.heap[bn]?=Z (.cells G5.toArray 3 (0,0))):∀b,b=bn->∃o,w.heap[b]?=Z o/\EW (SP SB Dj) (CK DU SB bb) (EK λb=>b=bn) o o:=by
 rintro b rfl;refine⟨_,hn,.cells (Fc λv hv=>?_) λi h1 h2=>⟨h1,h2⟩⟩;simp only[G5,AJ,AG,or_false] at hv;rcases hv with rfl|rfl|rfl<;>exact DZ.int _ _
def wG {BB:L->Bool}(hB:BB 6=j)(aI:BB 20=j)(aH:H7 BB){Q:y->D->Prop}(hQ:∀g w W,Et w W->Q g w->Q g W){cs:List bc}(zW:cs≠[]){w:D}
  (h:∀(bn bo bh cb sb cap nb:Nat) (cur:List C) (t:ak) (w':D) (T U:Array C),F2 w' bn bo bh cb sb cap cur t->w'.heap[nb]?=Z (Ji 0)->zB (EF bn bo bh cb sb cap cur t) nb=bb->T.size=19->T.getD 6 undef=.pointer (Z ⟨nb,0,X⟩) ->
   U.size=95->(∀v∈U.toList,∀(SB:L->Bool) (H:Hid),E7 SB H (λb=>zB (EF bn bo bh cb sb cap cur t) b=j) v)->w.heap.size<=w'.heap.size->(∀b,b<w.heap.size->w'.heap[b]?=w.heap[b]?) ->
   EO J BB Q 0 (ca PP 53 (Ig cb (.func 54) #[] [Y (Z ⟨nb,0,X⟩)].toArray) ((base 20).at ⟨T,[]⟩ [.inRegion c5 [2],.code x5]) ((base 6).at ⟨U,[]⟩ [.inRegion e1 [2,3,4,5,6,7],.code sa]::cs)) w') :
  EO J BB Q 0 (bl (bq J 6 #[] .normal) cs) w:=by
 rw[cf _ Tryz.func6 rfl];simp only[Tryz.ntmps6,AP,AM,AS,Nat.reduceAdd,Nat.reduceSub,BO,BP,B1,BT,Cb,BX];change EO J BB Q 0 (G _ cs) w;refine aw hQ hB zW ?_;refine aD hQ hB zW ?_;simp only[AP,AM,AS,Nat.reduceAdd,AO,E,N];refine ah hQ hB zW rfl rfl λK hK q1 q2 q3=>?_;go_simp;refine hK _ w ?_ _ ⟨rfl,rfl,rfl⟩;refine aC hQ hB zW ?_;refine aw hQ hB zW ?_;refine aD hQ hB zW ?_
 simp only[AP,AM,AS,Nat.reduceAdd,AO,E,N];refine ah hQ hB zW rfl rfl λK hK q1 q2 q3=>?_;go_simp;refine hK _ (w.alloc _) ?_ _ ⟨rfl,rfl,rfl⟩
 try simp only[aa]
 obtain⟨w1,a8⟩:∃w1,w1=w.alloc (.cells G5.toArray 3):=⟨_,rfl⟩;change EO J BB Q 0 _ (w.alloc (.cells G5.toArray 3));rw[<-a8];have a6:=Ay (show w1.heap.size=w.heap.size+1 by rw[a8,aL]);have aF:=Ay (show ∀b,b<w.heap.size->w1.heap[b]?=w.heap[b]? from λb hb=>by rw[a8,aG,AD (by omega)]);have aA:w1.heap[w.heap.size]?=Z (.cells G5.toArray 3 (0,0)):=by rw[a8,aG,AF rfl]
 refine aB hQ hB (by kernel_rfl) λτ d=>?_;refine aJ rfl rfl (by decide) rfl cq (by kernel_rfl) (by kernel_rfl) ⟨Ep _ _,w1,Di,?_⟩
 try walk_nrm
 refine(en (H:=Dj) aH).fn (f:=21) (by decide) (by decide) (K0:=λb=>b=w.heap.size) zW (λ_ _=>AU _) (AU _) (Fc (l:=[.slice (Z ⟨w.heap.size,0,X⟩) 3 3]) λv hv=>?_) (λb _ hb=>by cases hb) (λb hb=>by cases hb) (λb hb _=>M7 aA b hb) hQ (R:=Le w.heap.size w1) LU ?_
 .simp only[AJ,AG,or_false] at hv;subst hv;exact E7.slice (K:=λb=>b=w.heap.size) rfl _ _ _ _
 rintro v w2 ⟨bo,bh,rfl,aK,aM,aP,a7⟩;change EO J BB Q 0 _ w2;rw[M];simp only[Bg,Be,Bd,BF]
 try walk_nrm
 refine aB hQ hB (by kernel_rfl) λτ d=>?_;refine aJ rfl rfl (by decide) rfl br (by kernel_rfl) (by kernel_rfl) ⟨Ep _ _,w2,Di,?_⟩
 try walk_nrm
 refine rZ aI aH hQ (Ep _ _) (bn:=w.heap.size) (bo:=bo) (bh:=bh) ((a7 _ (by have:=a6.out;omega)).trans aA) aK aM λcb sb cap nb cur t w' T hC aN aO hT h6 hz hold=>?_;refine h w.heap.size bo bh cb sb cap nb cur t w' T _ hC aN aO hT h6 rfl (λv hv SB H=>?_) (by have:=a6.out;omega) λb hb=>(hold b (by have:=a6.out;omega)).trans ((a7 b (by have:=a6.out;omega)).trans (aF.out b hb))
 have k0:E7 SB H (λb=>zB (EF w.heap.size bo bh cb sb cap cur t) b=j) (.slice (Z ⟨w.heap.size,0,X⟩) 3 3):=E7.slice ((EY _).2 (by simp)) _ _ _ _;have k1:E7 SB H (λb=>zB (EF w.heap.size bo bh cb sb cap cur t) b=j) (Ef (Z ⟨w.heap.size,0,X⟩) (Z ⟨bh,0,X⟩) Ei 3 3):=E7.agg (l:=[.slice (Z ⟨w.heap.size,0,X⟩) 3 3,.slice (Z ⟨bh,0,X⟩) 3 3]) λv hv=>by
  simp only[AJ,AG,or_false] at hv;obtain rfl|rfl:=hv
  .exact k0
  .exact E7.slice ((EY _).2 (by simp)) _ _ _ _
 simp only[AJ,AG,or_false,or_self] at hv
 repeat (obtain hv|hv:=hv;· subst hv;first|exact DZ.bool _|exact k0|exact k1|exact E7.undef)
 subst hv;first|exact DZ.bool _|exact k0|exact k1|exact E7.undef
def Pw {T:Array C}(h:T.size=95):∃(y0 y1 y2 y3 y4 y5 y6 y7 y8 y9 a6 a7 a8 aA aB aC aD aF aG aH aI aJ aK aL aM:C) (tl:List C),T=(y0::y1::y2::y3::y4::y5::y6::y7::y8::y9::a6::a7::a8::aA::aB::aC::aD::aF::aG::aH::aI::aJ::aK::aL::aM::tl).toArray/\tl.length=70:=by
 obtain⟨l⟩:=T;have h:l.length=95:=h
 match l,h with
 |y0::y1::y2::y3::y4::y5::y6::y7::y8::y9::a6::a7::a8::aA::aB::aC::aD::aF::aG::aH::aI::aJ::aK::aL::aM::tl,h=>exact⟨y0,y1,y2,y3,y4,y5,y6,y7,y8,y9,a6,a7,a8,aA,aB,aC,aD,aF,aG,aH,aI,aJ,aK,aL,aM,tl,rfl,by simpa using h⟩
def wH {BB:L->Bool}(hB:BB 6=j)(b5:BB 20=j)(b6:BB 22=j)(aH:H7 BB){Q:y->D->Prop}(hQ:∀g w W,Et w W->Q g w->Q g W){cs:List bc}(zW:cs≠[]){K1:Nat->Prop}{nb:Nat}{w:D}
  (hn:w.heap[nb]?=Z (Ji 1)) {T U:Array C} (hT:T.size=19) (h6:T.getD 6 undef=.pointer (Z ⟨nb,0,X⟩)) (hU:U.size=95) (b9:∀v∈U.toList,∀(SB:L->Bool) (H:Hid),E7 SB H K1 v)
  (h:∀(bn bo bh cb sb cap qb xb kb:Nat) (cur:List C) (t:ak) (w':D) (T U:Array C),F2 w' bn bo bh cb sb cap cur t->w'.heap[kb]?=Z (GA bb λ_=>0)->(∀p∈FT xb qb cb,w'.heap[p.1]?=Z (.cells p.2.1.toArray p.2.2 (0,0)))->zB (EF bn bo bh cb sb cap cur t++FT xb qb cb) kb=bb ->
   T.size=27->T.getD 4 undef=.pointer (Z ⟨qb,0,X⟩)->T.getD 7 undef=.pointer (Z ⟨kb,0,X⟩) ->
   U.size=95->U.getD 1 undef=q m 1->U.getD 2 undef=q m 0->(∀v∈U.toList,∀(SB:L->Bool) (H:Hid),E7 SB H (λb=>K1 b\/zB (EF bn bo bh cb sb cap cur t) b=j) v)->w.heap.size<=w'.heap.size->(∀b,b<w.heap.size->w'.heap[b]?=w.heap[b]?) ->
   EO J BB Q 0 (ca PP 53 (Ig cb (.func 62) #[] [Y (Z ⟨kb,0,X⟩),.pointer (Z ⟨xb,0,X⟩)].toArray) ((base 22).at ⟨T,[]⟩ [.inRegion d6 [2],.code z6]) ((base 6).at ⟨U,[]⟩ [.inRegion e2 [2,3,4,5,6,7],.code Oo]::cs)) w') :
  EO J BB Q 0 (back ((base 20).at ⟨T,[]⟩ [.inRegion c5 [2],.code x5]) ((base 6).at ⟨U,[]⟩ [.inRegion e1 [2,3,4,5,6,7],.code sa]::cs)) w:=by
 refine qg b5 aH hQ zW hn hT h6 ?_;obtain⟨y0,y1,y2,y3,y4,y5,y6,y7,y8,y9,aK,aM,aN,aO,aP,aQ,aR,aS,aT,aU,aV,aW,aX,aY,aZ,tl,rfl,bA⟩:=Pw hU;have bB:(e1[2]?.bind (·.dst))=Z 15:=rfl;rw[bB]
 try walk_nrm
 have ee1:e1=Gh (aF (ag wB)):=rfl;simp only[wB,cF,AY,ag,aF,Gh] at ee1;rw[ee1];refine ah hQ hB zW rfl rfl λK hK q1 q2 q3=>?_;go_simp;refine hK _ w ?_ _ ⟨rfl,rfl,rfl⟩
 try walk_nrm
 try simp only[aa]
 refine ah hQ hB zW rfl rfl λK hK q1 q2 q3=>?_;go_simp;refine hK _ w ?_ _ ⟨rfl,rfl,rfl⟩
 try walk_nrm
 try simp only[aa]
 refine ah hQ hB zW rfl rfl λK hK q1 q2 q3=>?_;go_simp;refine hK _ w ?_ _ ⟨rfl,rfl,rfl⟩
 try walk_nrm
 try simp only[aa]
 refine ah hQ hB zW rfl rfl λK hK q1 q2 q3=>?_;go_simp;refine hK _ w ?_ _ ⟨rfl,rfl,rfl⟩
 try walk_nrm
 try simp only[aa]
 refine ah hQ hB zW rfl rfl λK hK q1 q2 q3=>?_;go_simp;refine hK _ w ?_ _ ⟨rfl,rfl,rfl⟩
 try walk_nrm
 try simp only[aa]
 refine aC hQ hB zW ?_;have ez2:sa=ag (ag wB):=rfl;simp only[wB,cF,AY,ag] at ez2;rw[ez2];refine aw hQ hB zW ?_;refine aD hQ hB zW ?_;simp only[AP,AM,AS,Nat.reduceAdd,AO,E,N];refine ah hQ hB zW rfl rfl λK hK q1 q2 q3=>?_;go_simp;refine hK _ (w.alloc _) ?_ _ ⟨rfl,rfl,rfl⟩
 try walk_nrm
 try simp only[aa]
 obtain⟨w1,a8⟩:∃w1,w1=w.alloc (.cells G5.toArray 3):=⟨_,rfl⟩;change EO J BB Q 0 _ (w.alloc (.cells G5.toArray 3));rw[<-a8];have a6:=Ay (show w1.heap.size=w.heap.size+1 by rw[a8,aL]);have aI:=Ay (show ∀b,b<w.heap.size->w1.heap[b]?=w.heap[b]? from λb hb=>by rw[a8,aG,AD (by omega)]);have aA:w1.heap[w.heap.size]?=Z (.cells G5.toArray 3 (0,0)):=by rw[a8,aG,AF rfl]
 refine aB hQ hB (by kernel_rfl) λτ d=>?_;refine aJ rfl rfl (by decide) rfl cq (by kernel_rfl) (by kernel_rfl) ⟨Ep _ _,w1,Di,?_⟩
 try walk_nrm
 refine(en (H:=Dj) aH).fn (f:=21) (by decide) (by decide) (K0:=λb=>b=w.heap.size) zW (λ_ _=>AU _) (AU _) (Fc (l:=[.slice (Z ⟨w.heap.size,0,X⟩) 3 3]) λv hv=>?_) (λb _ hb=>by cases hb) (λb hb=>by cases hb) (λb hb _=>M7 aA b hb) hQ (R:=Le w.heap.size w1) LU ?_
 .simp only[AJ,AG,or_false] at hv;subst hv;exact E7.slice (K:=λb=>b=w.heap.size) rfl _ _ _ _
 rintro v w2 ⟨bo,bh,rfl,b7,b8,bE,a7⟩;change EO J BB Q 0 _ w2;rw[M];simp only[Bg,Be,Bd,BF]
 try walk_nrm
 refine aB hQ hB (by kernel_rfl) λτ d=>?_;refine aJ rfl rfl (by decide) rfl bs (by kernel_rfl) (by kernel_rfl) ⟨Ep _ _,w2,Di,?_⟩
 try walk_nrm
 refine um b6 aH hQ (Ep _ _) (bn:=w.heap.size) (bo:=bo) (bh:=bh) ((a7 _ (by have:=a6.out;omega)).trans aA) b7 b8 λcb sb cap qb xb kb cur t w' T hC bC hX bD hT h4 h7 hz hold=>?_;refine h w.heap.size bo bh cb sb cap qb xb kb cur t w' T _ hC bC hX bD hT h4 h7 (by simp[bA]) rfl rfl (λv hv SB H=>?_) (by have:=a6.out;omega) λb hb=>(hold b (by have:=a6.out;omega)).trans ((a7 b (by have:=a6.out;omega)).trans (aI.out b hb))
 have k0:E7 SB H (λb=>K1 b\/zB (EF w.heap.size bo bh cb sb cap cur t) b=j) (.slice (Z ⟨w.heap.size,0,X⟩) 3 3):=E7.slice (.inr ((EY _).2 (by simp))) _ _ _ _;have k1:E7 SB H (λb=>K1 b\/zB (EF w.heap.size bo bh cb sb cap cur t) b=j) (Ef (Z ⟨w.heap.size,0,X⟩) (Z ⟨bh,0,X⟩) Ei 3 3):=E7.agg (l:=[.slice (Z ⟨w.heap.size,0,X⟩) 3 3,.slice (Z ⟨bh,0,X⟩) 3 3]) λv hv=>by
  simp only[AJ,AG,or_false] at hv;obtain rfl|rfl:=hv
  .exact k0
  .exact E7.slice (.inr ((EY _).2 (by simp))) _ _ _ _
 have k2:E7 SB H (λb=>K1 b\/zB (EF w.heap.size bo bh cb sb cap cur t) b=j) (.tuple #[q m 1,q m 0]):=by
  refine(Fc (l:=[q m 1,q m 0]) λv hv=>?_).tuple;simp only[AJ,AG,or_false] at hv;rcases hv with rfl|rfl<;>exact DZ.int _ _
 have k3:∀u∈(y0::y1::y2::y3::y4::y5::y6::y7::y8::y9::aK::aM::aN::aO::aP::aQ::aR::aS::aT::aU::aV::aW::aX::aY::aZ::tl:List C),E7 SB H (λb=>K1 b\/zB (EF w.heap.size bo bh cb sb cap cur t) b=j) u:=λu hu=>(b9 u (by simpa using hu) SB H).mono λb hb=>.inl hb;have hv2:v=q m 1\/v=q m 0\/v=.tuple #[q m 1,q m 0]\/v=.slice (Z ⟨w.heap.size,0,X⟩) 3 3\/v=Ef (Z ⟨w.heap.size,0,X⟩) (Z ⟨bh,0,X⟩) Ei 3 3\/v∈(y0::y1::y2::y3::y4::y5::y6::y7::y8::y9::aK::aM::aN::aO::aP::aQ::aR::aS::aT::aU::aV::aW::aX::aY::aZ::tl:List C):=by
  simp only[AJ,AG,or_false] at hv ⊢
  grind
 obtain rfl|rfl|rfl|rfl|rfl|hv2:=hv2
 .exact DZ.int _ _
 .exact DZ.int _ _
 .exact k2
 .exact k0
 .exact k1
 .exact k3 v hv2
def wI {BB:L->Bool}(hB:BB 6=j)(aR:BB 22=j)(aT:H7 BB){Q:y->D->Prop}(hQ:∀g w W,Et w W->Q g w->Q g W){cs:List bc}(zW:cs≠[]){K1:Nat->Prop}{bn bo bh cb sb cap qb kb:Nat}{cur:List C}{t:ak}{ρ:EH}(aU:∀i,i<5->ρ i<16){w:D}
  (hC:F2 w bn bo bh cb sb cap cur t) (hk:w.heap[kb]?=Z (GA j ρ)) (hq:w.heap[qb]?=Z (r #[.pointer (Z ⟨cb,0,X⟩)] 69 (0,0))) {T U:Array C} (hT:T.size=27) (h4:T.getD 4 undef=.pointer (Z ⟨qb,0,X⟩)) (h7:T.getD 7 undef=.pointer (Z ⟨kb,0,X⟩))
  (hU:U.size=95) (a6:U.getD 1 undef=q m 1) (a7:U.getD 2 undef=q m 0) (aV:∀v∈U.toList,∀(SB:L->Bool) (H:Hid),E7 SB H K1 v)
  (h:∀(A:Option Addr) (c:Nat) (xs:List C) (w':D) (K':Nat->Prop) (U:Array C),Ec w' (w.heap.size+1) (I A 3 c) (Ew ρ 3) xs->w.heap.size<=w'.heap.size->(∀b,b<w.heap.size->w'.heap[b]?=w.heap[b]?)->(∀b,K' b->∃o,w'.heap[b]?=Z o/\EW (SP Ie Dj) (CK DU Ie bb) (EK K') o o) ->
   U.size=95->U.getD 1 undef=q m 1->U.getD 2 undef=q m 0->U.getD 3 undef=I A 3 c->U.getD 4 undef=q m 0->(∀v∈U.toList,E7 Ie Dj (λb=>K1 b\/K' b) v)->EO J BB Q 0 (bl ((base 6).at ⟨U,[]⟩ [.code Oo]) cs) w') :
  EO J BB Q 0 (back ((base 22).at ⟨T,[]⟩ [.inRegion d6 [2],.code z6]) ((base 6).at ⟨U,[]⟩ [.inRegion e2 [2,3,4,5,6,7],.code Oo]::cs)) w:=by
 refine r9 aR aT hQ zW aU hC hk hq hT h4 h7 λA c xs w2 K' ho hz hold hv aS=>?_;obtain⟨y0,y1,y2,y3,y4,y5,y6,y7,y8,y9,a8,aA,aB,aD,aG,aH,aI,aJ,aK,aL,aM,aN,aO,aP,aQ,tl,rfl,aW⟩:=Pw hU;have a6:y1=q m 1:=a6;have a7:y2=q m 0:=a7;subst a6 a7;have aX:(e2[2]?.bind (·.dst))=Z 21:=rfl;rw[aX]
 try walk_nrm
 have ee2:e2=Gh (aF (ag (ag wB))):=rfl;simp only[wB,cF,AY,ag,aF,Gh] at ee2;rw[ee2];refine ah hQ hB zW rfl rfl λK hK q1 q2 q3=>?_;go_simp;refine hK _ w2 ?_ _ ⟨rfl,rfl,rfl⟩
 try walk_nrm
 try simp only[aa]
 refine ah hQ hB zW rfl rfl λK hK q1 q2 q3=>?_;go_simp;refine hK _ w2 ?_ _ ⟨rfl,rfl,rfl⟩
 try walk_nrm
 try simp only[aa]
 refine ah hQ hB zW rfl rfl λK hK q1 q2 q3=>?_;go_simp;refine hK _ w2 ?_ _ ⟨rfl,rfl,rfl⟩
 try walk_nrm
 try simp only[aa]
 refine ah hQ hB zW rfl rfl λK hK q1 q2 q3=>?_;go_simp;refine hK _ w2 ?_ _ ⟨rfl,rfl,rfl⟩
 try walk_nrm
 try simp only[aa]
 refine ah hQ hB zW rfl rfl λK hK q1 q2 q3=>?_;go_simp;refine hK _ w2 ?_ _ ⟨rfl,rfl,rfl⟩
 try walk_nrm
 try simp only[aa]
 refine aC hQ hB zW ?_;refine h A c xs w2 K' _ ho hz hold aS (by simp[aW]) rfl rfl rfl rfl λv hv3=>?_;have k0:E7 Ie Dj (λb=>K1 b\/K' b) (I A 3 c):=hv.mono λb B hb=>⟨.inr hb.1,hb.2⟩;have k2:E7 Ie Dj (λb=>K1 b\/K' b) (.tuple #[I A 3 c,q m 0]):=by
  refine(Fc (l:=[I A 3 c,q m 0]) λv hv=>?_).tuple;simp only[AJ,AG,or_false] at hv;obtain rfl|rfl:=hv
  .exact k0
  .exact DZ.int _ _
 have k3:∀u∈(y0::q m 1::q m 0::y3::y4::y5::y6::y7::y8::y9::a8::aA::aB::aD::aG::aH::aI::aJ::aK::aL::aM::aN::aO::aP::aQ::tl:List C),E7 Ie Dj (λb=>K1 b\/K' b) u:=λu hu=>(aV u (by simpa using hu) Ie Dj).mono λb hb=>.inl hb;have hv2:v=I A 3 c\/v=q m 0\/v=.tuple #[I A 3 c,q m 0]\/v∈(y0::q m 1::q m 0::y3::y4::y5::y6::y7::y8::y9::a8::aA::aB::aD::aG::aH::aI::aJ::aK::aL::aM::aN::aO::aP::aQ::tl:List C):=by
  simp only[AJ,AG,or_false] at hv3 ⊢
  grind
 obtain rfl|rfl|rfl|hv2:=hv2
 .exact k0
 .exact DZ.int _ _
 .exact k2
 .exact k3 v hv2
def RB:List FuncId:=Qq++[20,22,53,54,57,62,115,116,154,155,156]
def Ku (f:L):Bool:=RB.contains f
def PV (f:L):Bool:=f==53||f==54||f==57||f==62||f==154||f==156
def Ib (f:L):Bool:=Ku f&&!PV f
def wJ {p:Nat->Bool}(h:RB.all p=j):∀f,Ku f=j->p f=true:=λf hf=>(Bz.1 h) f (by simpa [Ku] using hf)
def fZ:H7 Ib:=by
 refine⟨λf hf=>?_,by decide,by decide⟩;have:Qq.all Ib=true:=by kernel_rfl
 exact kH this f hf
def yk:RB.all (λf=>Jo J Ku j f||O8 f||PV f)=true:=by kernel_rfl
def zf {P:ED}(f:L)(hf:aP Ku f=j):IE P f:=by
 unfold aP at hf;have h:Ku 89=false:=by decide
 rw[h,B9,Cj] at hf;cases hf
def M8 (H:Hid):Lib PP Ku H j Ib 0:=by
 refine iN (λf hf=>?_) (λf hf hb=>?_) (λf hf=>?_) zf ⟨BR Tryz.globals_size,Tryz.K7⟩
 .simp only[Ib,AN,B2] at hf;have:=wJ yk f hf.1;simp only[hf.2,C6,Bm] at this;obtain h|h:=this
  .exact .inl ⟨h,rfl⟩
  .exact .inr (vw h)
 .simp only[Ib,hf,Cg,Cv,PV,Bm,beq_iff_eq] at hb;obtain((((rfl|rfl)|rfl)|rfl)|rfl)|rfl:=hb
  .exact⟨_,_,bk,bk,rfl,by decide,by decide,rfl,rfl⟩
  .exact⟨_,_,cr,cr,rfl,by decide,by decide,rfl,rfl⟩
  .exact⟨_,_,cu,cu,rfl,by decide,by decide,rfl,rfl⟩
  .exact⟨_,_,cw,cw,rfl,by decide,by decide,rfl,rfl⟩
  .exact⟨_,_,bw,bw,rfl,by decide,by decide,rfl,rfl⟩
  .exact⟨_,_,bW,bW,rfl,by decide,by decide,rfl,rfl⟩
 .simp only[Ib,AN] at hf;exact hf.1
def Oq:∃cE,Tryz.f53.body=Z cE/\codeOk J Ku j j cE=false:=⟨_,rfl,by kernel_rfl⟩
open Go.ConcN
def Ot:∀(f:L) (fn:Func),PP.a.funcs[f]?=Z fn->fn.body.isNone=j->PP.fs[f]?=Z fn:=λ_ _ h _=>h
def LV (cs:List bc)(g:y)(w:D):Prop:=∃(bn bo bh cb sb cap nb:Nat) (cur:List C) (t:ak) (T U:Array C),F2 w bn bo bh cb sb cap cur t/\w.heap[nb]?=Z (Ji 0)/\zB (EF bn bo bh cb sb cap cur t) nb=bb/\T.size=19/\T.getD 6 undef=.pointer (Z ⟨nb,0,X⟩) /\
 U.size=95/\(∀v∈U.toList,∀(SB:L->Bool) (H:Hid),E7 SB H (λb=>zB (EF bn bo bh cb sb cap cur t) b=j) v) /\
 g=ca PP 53 (Ig cb (.func 54) #[] [Y (Z ⟨nb,0,X⟩)].toArray) ((base 20).at ⟨T,[]⟩ [.inRegion c5 [2],.code x5]) ((base 6).at ⟨U,[]⟩ [.inRegion e1 [2,3,4,5,6,7],.code sa]::cs)
def F2.same {w w':D}{bn bo bh cb sb cap:Nat}{cur:List C}{t:ak}(h:F2 w bn bo bh cb sb cap cur t)(s:Et w w'):F2 w' bn bo bh cb sb cap cur t:=h.keep λb _=>by rw[s.1]
def LV.same {cs:List bc}(g:y)(w W:D)(s:Et w W)(h:LV cs g w):LV cs g W:=by
 obtain⟨bn,bo,bh,cb,sb,cap,nb,cur,t,T,U,h1,h2,h3,h4,h5,h6,h7,h8⟩:=h;exact⟨bn,bo,bh,cb,sb,cap,nb,cur,t,T,U,h1.same s,by rw[s.1];exact h2,h3,h4,h5,h6,h7,h8⟩
def LV.fn {cs:List bc}(g:y)(w:D)(h:LV cs g w):Ib g.frame.fn=false:=by
 obtain⟨bn,bo,bh,cb,sb,cap,nb,cur,t,T,U,h1,h2,h3,h4,h5,h6,h7,rfl⟩:=h;show Ib 53=bb;decide
def wK {cs:List bc}(zW:cs≠[])(w:D):EO J Ib (LV cs) 0 (bl (bq J 6 #[] .normal) cs) w :=
 wG (by decide) (by decide) fZ LV.same zW λbn bo bh cb sb cap nb cur t w' T U h1 h2 h3 h4 h5 h6 h7 _ _=>.fin ⟨bn,bo,bh,cb,sb,cap,nb,cur,t,T,U,h1,h2,h3,h4,h5,h6,h7,rfl⟩
def Ou (cs:List bc)(g:y)(w:D):Prop:=∃(K1:Nat->Prop) (bn bo bh cb sb cap qb xb kb:Nat) (cur:List C) (t:ak) (T U:Array C),(∀b,K1 b->∃(l:List C) (t:ak),w.heap[b]?=Z (.cells l.toArray t (0,0))/\∀v∈l,∀(SB:L->Bool) (H:Hid),E7 SB H K1 v)/\F2 w bn bo bh cb sb cap cur t/\w.heap[kb]?=Z (GA bb λ_=>0)/\(∀p∈FT xb qb cb,w.heap[p.1]?=Z (.cells p.2.1.toArray p.2.2 (0,0)))/\zB (EF bn bo bh cb sb cap cur t++FT xb qb cb) kb=bb /\
 T.size=27/\T.getD 4 undef=.pointer (Z ⟨qb,0,X⟩)/\T.getD 7 undef=.pointer (Z ⟨kb,0,X⟩)/\U.size=95/\U.getD 1 undef=q m 1/\U.getD 2 undef=q m 0/\(∀v∈U.toList,∀(SB:L->Bool) (H:Hid),E7 SB H (λb=>K1 b\/zB (EF bn bo bh cb sb cap cur t) b=j) v) /\
 g=ca PP 53 (Ig cb (.func 62) #[] [Y (Z ⟨kb,0,X⟩),.pointer (Z ⟨xb,0,X⟩)].toArray) ((base 22).at ⟨T,[]⟩ [.inRegion d6 [2],.code z6]) ((base 6).at ⟨U,[]⟩ [.inRegion e2 [2,3,4,5,6,7],.code Oo]::cs)
def Ou.same {cs:List bc}(g:y)(w W:D)(s:Et w W)(h:Ou cs g w):Ou cs g W:=by
 obtain⟨K1,bn,bo,bh,cb,sb,cap,qb,xb,kb,cur,t,T,U,h0,h1,h2,h3,h4⟩:=h;exact⟨K1,bn,bo,bh,cb,sb,cap,qb,xb,kb,cur,t,T,U,by rw[s.1];exact h0,h1.same s,by rw[s.1];exact h2,by rw[s.1];exact h3,h4⟩
def Ou.fn {cs:List bc}(g:y)(w:D)(h:Ou cs g w):Ib g.frame.fn=false:=by
 obtain⟨K1,bn,bo,bh,cb,sb,cap,qb,xb,kb,cur,t,T,U,h0,h1,h2,h3,h4,h5,h6,h7,h8,h9,h10,h11,rfl⟩:=h;show Ib 53=bb;decide
def KM {w:D}{bn bo bh cb sb cap:Nat}{cur:List C}{t:ak}(h:F2 w bn bo bh cb sb cap cur t):∀b,zB (EF bn bo bh cb sb cap cur t) b=j->∃(l:List C) (t':ak),w.heap[b]?=Z (.cells l.toArray t' (0,0))/\∀v∈l,∀(SB:L->Bool) (H:Hid),E7 SB H (λb=>zB (EF bn bo bh cb sb cap cur t) b=j) v:=λb hb=>by
 obtain⟨p,hp,rfl⟩:=Hw hb;exact⟨_,_,h.obj p hp,λv hv SB H=>gD h.flat p hp v hv SB H⟩
def wL {cs:List bc}(zW:cs≠[]){w:D}{bn bo bh cb sb cap nb:Nat}{cur:List C}{t:ak}{T U:Array C}(hC:F2 w bn bo bh cb sb cap cur t)(hn:w.heap[nb]?=Z (Ji 1))(hT:T.size=19)(h6:T.getD 6 undef=.pointer (Z ⟨nb,0,X⟩))
  (hU:U.size=95) (a6:∀v∈U.toList,∀(SB:L->Bool) (H:Hid),E7 SB H (λb=>zB (EF bn bo bh cb sb cap cur t) b=j) v) :
  EO J Ib (Ou cs) 0 (back ((base 20).at ⟨T,[]⟩ [.inRegion c5 [2],.code x5]) ((base 6).at ⟨U,[]⟩ [.inRegion e1 [2,3,4,5,6,7],.code sa]::cs)) w :=
 wH (by decide) (by decide) (by decide) fZ Ou.same zW hn hT h6 hU a6 λbn' bo' bh' cb' sb' cap' qb xb kb cur' t' w' T' U' h1 h2 h3 h4 h5 h6 h7 h8 h9 h10 h11 hz hold =>
  .fin ⟨_,bn',bo',bh',cb',sb',cap',qb,xb,kb,cur',t',T',U',λb hb=>by
   obtain⟨l,t2,e1,e2⟩:=KM hC b hb
   exact⟨l,t2,(hold b (hC.lt hb)).trans e1,e2⟩,h1,h2,h3,h4,h5,h6,h7,h8,h9,h10,h11,rfl⟩
section
variable {SB BB:L->Bool} {zZ:Bool} {zO:Nat->Prop} {Kp:H6} {x:Lone} {A:y} {W:D}
def Jt (ht:Tw PP SB BB zZ 0 zO Kp x A W)(hH:∀b,x.H b=bb){b:Nat}(hb:∃B,x.β b B){l:List C}{t:ak}{f:Nat×Nat}(h:x.w.heap[b]?=Z (.cells l.toArray t f)){v:C}(hv:v∈l):∃V,DZ (SP SB x.H) x.β v V:=by
 obtain⟨B,hb⟩:=hb;obtain⟨o,O,q1,q2,q3⟩:=ht.wl.FJ b B hb (hH b);rw[h] at q1;cases q1;cases q3 with
 |cells a z =>
  obtain⟨i,hi,rfl⟩:=Cc.1 hv;obtain⟨V,_,h2⟩:=a.get? (i:=i) (v:=l[i]) (by simp);exact⟨V,h2⟩
def Hi {S:Fy}{β:Em}{b o:Nat}{s:Option Nat}{l c:Nat}{V:C}(h:DZ S β (.slice (Z ⟨b,o,s⟩) l c) V)(hl:l≠0:=by decide):∃B,β b B:=by
 cases h with
 |slice o s l c hb=>exact⟨_,hb⟩
 |Fb _=>exact AI rfl hl
def Ij {S:Fy}{β:Em}{b o:Nat}{s:Option Nat}{V:C}(h:DZ S β (.pointer (Z ⟨b,o,s⟩)) V):∃B,β b B:=by
 cases h with
 |ptr o s hb=>exact⟨_,hb⟩
def M9 {S:Fy}{β:Em}{f:Fn}{fx:Array C}{l:List C}{V v:C}(h:DZ S β (.func f fx l.toArray) V)(hv:v∈l):∃V,DZ S β v V:=by
 cases h with
 |ET _=>cases hv
 |func hf h1 i1 h2 i2 =>
  obtain⟨i,hi,rfl⟩:=Cc.1 hv;have hl:i<l.toArray.size:=by simpa using hi
  exact⟨_,i2 i _ _ (AK hl) (AK (by rw[<-h2];exact hl))⟩
def li (ht:Tw PP SB BB zZ 0 zO Kp x A W)(hH:∀b,x.H b=bb){bn bo bh cb sb cap:Nat}{cur:List C}{t:ak}(h:F2 x.w bn bo bh cb sb cap cur t)(hcb:∃B,x.β cb B):∀b,zB (EF bn bo bh cb sb cap cur t) b=j->∃B,x.β b B:=by
 have h4:=h.obj (cb,LS bn bh sb cap,137) (by simp[EF]);have h3:=h.obj (bh,Hx bo,49) (by simp[EF]);obtain⟨V1,v1⟩:=Jt ht hH hcb h4 (v:=.slice (Z ⟨bn,0,X⟩) 3 3) (by simp[LS]);obtain⟨V2,v2⟩:=Jt ht hH hcb h4 (v:=.slice (Z ⟨bh,0,X⟩) 3 3) (by simp[LS]);obtain⟨V3,v3⟩:=Jt ht hH hcb h4 (v:=.slice (Z ⟨sb,0,X⟩) 8 cap) (by simp[LS]);obtain⟨V4,v4⟩:=Jt ht hH (Hi v2) h3 (v:=.slice (Z ⟨bo,0,X⟩) 1 1) (by simp[Hx])
 intro b hb;obtain rfl|rfl|rfl|rfl|rfl:=(EY b).1 hb
 .exact Hi v1
 .exact Hi v4
 .exact Hi v2
 .exact hcb
 .exact Hi v3
def KN (ht:Tw PP Ku Ib j 0 zO Kp x A W){cb F:Nat}{fc:List C}{fr:bc}{cs:List bc}(hg:x.g=ca PP 53 (Ig cb (.func F) #[] fc.toArray) fr cs):(∃B,x.β cb B)/\∀v∈fc,∃V,DZ (SP Ku x.H) x.β v V:=by
 obtain⟨cE,aA,a8⟩:=Oq;have a7:=ht.gl.top;rw[hg] at a7;obtain⟨ARGS,eA,a6⟩:=LM (P:=PP) (fa:=Tryz.f53) (fb:=Tryz.f53) bk bk aA a8 rfl (by rw[Tryz.ntmps53];simp) a7;obtain⟨V0,_,r0⟩:=a6.get? (i:=0) (v:=.pointer (Z ⟨cb,0,X⟩)) rfl;obtain⟨V1,_,r1⟩:=a6.get? (i:=1) (v:=.func (.func F) #[] fc.toArray) rfl;exact⟨Ij r0,λv hv=>M9 r1 hv⟩
end
end Go.Sq
