/- Parts of the proof. -/
import Derived.Test.YtghipmneleifpaaGreatP00
import Derived.Laws.Sem
set_option linter.all false
open Go.Instr renaming sliceBound->a6,sliceBounds->bq,fill->bs,extract->cU,buildSlice->dn,makeSlice->dS,fieldAt->eb,indexAt->ed,sliceAt->ek,storeAt->eo,loadAt->ez,slice->eA,field->eC,index->eF,build->eG,alloc->eH,box->eT
open Go.Builtin renaming firstCells->a7,zeroCells->bh,unsafeAdd_->bk,mayShare->bD,nextslicecap->b7,holdsCells->b9,lenOf->cq,append_->cF,len_->c0,cap_->df
open Go renaming Value->a8,TypeId->bc,runtimePanic->bn,unsupported->bA,byteOfCell->b5,cellOfByte->b6,numberAt->cf,Addr->cu,behindNumber->cw,getObj->dr,movedNumber->dy,asNumber->ea,IntKind->er
open Option renaming some->bb,none->bw
open Go.Value renaming pointer->bl,slice->b8
open Bool renaming false->bo,true->cK
open Array renaming range->br
open Go.World renaming shape?->bW
open Go.Result renaming ok->cr
open Go.Op renaming twoPlaces->cE
namespace Go.Ct
def kz (P:Program)(s:bc)(i:Nat):Bool:=match P.underlying s with
 |some (.struct fs)=>match fs[i]? with
  |some f=>match P.info? f.type with
   |some x=>x.size != 0
   |none=>cK
  |none=>cK
 |_=>cK
section
variable {P:CL} {S:DT} {Ck:Code->Prop} {G:Nat} {β:Cm}
def pd (t:bc):Cf P S Ck G β (sizeOf t) (sizeOf t) (λ_ a A=>a=A/\∃x,P.a.info? t=bb x/\x.size=a):=by
 refine B4 (bi t) ?_;rintro B8 a A _ ⟨rfl,h⟩;exact B5 ⟨rfl,_,h,rfl⟩
def lI {a A:cu}(h:C9 β a A)(f:Field)(hf:∀x,P.a.info? f.type=bb x->x.size≠0):Cf P S Ck G β (fieldPlace a f) (fieldPlace A f) (λB8 x X=>C9 B8 x X):=by
 refine B4 (pd _) ?_;rintro B8 n _ hle ⟨rfl,x,h1,h2⟩;split
 .rename_i h0;exact absurd (h2.trans h0) (hf x h1)
 .exact B5 ((h.mono hle).add _)
def pf (s:bc){v V:a8}(h:B6 S β v V)(i:Nat)(hf:kz P.a s i=cK):Cf P S Ck G β (eb s v i) (eb s V i) (λB8 x X=>B6 S B8 x X):=by
 refine B4 (ak _) ?_;rintro B8 d _ hle ⟨rfl,hd⟩;split
 .rename_i fs;split
  .rename_i f he;refine B4 (cY (h.mono hle)) ?_;intro Dq a A _ ha;refine B4 (lI ha _ ?_) ?_
   .intro x hx;simp only[kz,hd,he,hx] at hf;simpa using hf
   .intro Eu x X _ hx;exact B5 hx.ptr
  .exact B9
 .exact B9
def iH (t:bc)(k:er)(i:Int)(base:Option cu)(len:Nat)(elem:bc):Sem Value:=do
 let afL:=len<=1&&(match<-underlying t with|.array ..=>cK|_=>bo)
 match base with
 |some a =>
  if 0<=i/\i<len then pure (.pointer (bb (a.add (i.toNat*(<-sizeOf elem)))))
  else if afL then bA (.noEntry "op/indexAddr.an index out of range at an array of length 0 or 1 (ledger 616)")
  else boundsPanic k i len .index
 |none=>boundsPanic k i 0 .index
inductive Hg (β:Cm):Option cu->Option cu->Prop
 |none:Hg β bw bw
 |some {a A:cu}:C9 β a A->Hg β (bb a) (bb A)
def ge (t:bc)(k:er)(i:Int){b B:Option cu}(hb:Hg β b B)(len:Nat)(elem:bc):Cf P S Ck G β (iH t k i b len elem) (iH t k i B len elem) (λB8 y Y=>B6 S B8 y Y):=by
 refine B4 (ak _) ?_;rintro B8 d _ hle ⟨rfl,_⟩;dsimp only;cases hb with
 |none=>exact Dy _ _ _ _
 |some ha =>
  dsimp only;split
  .refine B4 (aH _) ?_;rintro Dq n _ C0 rfl;exact B5 (((ha.mono hle).mono C0).add _).ptr
  .cases d<;>dsimp only<;>split<;>first|exact Dy _ _ _ _|exact Cb (λg e=>by cases e)
def nl (t:bc)(k:er)(i:Int){b B:cu}(elem:bc):Cf P S Ck G β (iH t k i (bb b) 0 elem) (iH t k i (bb B) 0 elem) (λB8 y Y=>B6 S B8 y Y):=by
 refine B4 (ak _) ?_;rintro B8 d _ hle ⟨rfl,_⟩;dsimp only;split
 .exfalso;omega
 .cases d<;>dsimp only<;>split<;>first|exact Dy _ _ _ _|exact Cb (λg e=>by cases e)
def pg (t:bc){v V x X:a8}(h:B6 S β v V)(hx:B6 S β x X):Cf P S Ck G β (ed t v x) (ed t V X) (λB8 y Y=>B6 S B8 y Y):=by
 refine B4 (dz hx) ?_;rintro DJ ⟨k,i⟩ _ E1 rfl;refine B4 (ak _) ?_;rintro Dq d _ C0 ⟨rfl,_⟩;have h2:=(h.mono E1).mono C0;cases d with
 |array len elem =>
  refine B4 (cY h2) ?_;intro Eu a A _ ha;exact ge t k i (.some ha) len elem
 |slice elem =>
  cases h2 with
  |Fc l c=>exact ge t k i .none l elem
  |slice o s l c hb=>exact ge t k i (.some (C9.mk (a:=⟨_,o,s⟩) (A:=⟨_,o,s⟩) hb rfl rfl)) l elem
  |Dl _=>exact nl t k i elem
  |_=>exact λ_ _ _ _ _ _ _ _=>trivial
 |_=>exact λ_ _ _ _ _ _ _ _=>trivial
def da {x X:a8}(hx:B6 S β x X)(y:Nat)(c:BoundsCode):Cf P S Ck G β (a6 x y c) (a6 X y c) (λ_ a A=>a=A):=by
 refine B4 (dz hx) ?_;rintro DJ ⟨k,i⟩ _ E1 rfl;dsimp only;split
 .exact B5 rfl
 .exact Dy _ _ _ _
inductive E9 (S:DT)(β:Cm):Option a8->Option a8->Prop
 |none:E9 S β bw bw
 |some {a A:a8}:B6 S β a A->E9 S β (bb a) (bb A)
def E9.mono {B8:Cm}(h:β.le B8){a A:Option a8}(r:E9 S β a A):E9 S B8 a A:=by
 cases r with
 |none=>exact .none
 |some r=>exact .some (r.mono h)
def bY (sl:Bool)(len cap:Nat){l L h H m M:Option a8}(hl:E9 S β l L)(hh:E9 S β h H)(hm:E9 S β m M) :
  Cf P S Ck G β (bq sl len cap l h m) (bq sl len cap L H M) (λ_ a A=>a=A):=by
 unfold bq;have e1:m.isSome=M.isSome:=by cases hm<;>rfl
 have low : ∀ (B8 : Cm) (m' h' : Nat), β.le B8 -> Cf P S Ck G B8 (do
   let l<-match l with
    |some v=>a6 v h' (if m.isSome then .slice3C else .sliceB)
    |none=>pure 0
   pure (l,h',m')) (do
   let l<-match L with
    |some v=>a6 v h' (if M.isSome then .slice3C else .sliceB)
    |none=>pure 0
   pure (l,h',m')) (λ_ a A=>a=A):=by
  intro B8 m' h' hle;rw[e1];cases hl with
  |none=>exact B4 (B5 (R:=λ_ a A=>a=A) rfl) (by rintro Dq a _ _ rfl;exact B5 rfl)
  |some hv=>exact B4 (da (hv.mono hle) _ _) (by rintro Dq a _ _ rfl;exact B5 rfl)
 have Mx : ∀ (B8 : Cm) (m' : Nat), β.le B8 -> Cf P S Ck G B8 (do
   let h'<-match h,m with
    |some v,bb _=>a6 v m' .slice3B
    |some v,bw=>a6 v m' (if sl then .sliceAcap else .sliceAlen)
    |none,bw=>pure len
    |none,bb _=>stuck "Slice: max without high"
   let l<-match l with
    |some v=>a6 v h' (if m.isSome then .slice3C else .sliceB)
    |none=>pure 0
   pure (l,h',m')) (do
   let h'<-match H,M with
    |some v,bb _=>a6 v m' .slice3B
    |some v,bw=>a6 v m' (if sl then .sliceAcap else .sliceAlen)
    |none,bw=>pure len
    |none,bb _=>stuck "Slice: max without high"
   let l<-match L with
    |some v=>a6 v h' (if M.isSome then .slice3C else .sliceB)
    |none=>pure 0
   pure (l,h',m')) (λ_ a A=>a=A):=by
  intro B8 m' hle;cases hm with
  |none =>
   cases hh with
   |none=>exact B4 (B5 (R:=λ_ a A=>a=A) rfl) (by rintro Dq a _ h2 rfl;exact low Dq _ _ (Cm.le_trans hle h2))
   |some hv=>exact B4 (da (hv.mono hle) _ _) (by rintro Dq a _ h2 rfl;exact low Dq _ _ (Cm.le_trans hle h2))
  |some hw =>
   cases hh with
   |none=>exact λ_ _ _ _ _ _ _ _=>trivial
   |some hv=>exact B4 (da (hv.mono hle) _ _) (by rintro Dq a _ h2 rfl;exact low Dq _ _ (Cm.le_trans hle h2))
 cases hm with
 |none=>exact B4 (B5 (R:=λ_ a A=>a=A) rfl) (by rintro Dq a _ h2 rfl;exact Mx Dq _ h2)
 |some hv=>exact B4 (da hv _ _) (by rintro Dq a _ h2 rfl;exact Mx Dq _ h2)
def cQ {x X:a8}(hx:B6 S β x X)(c:BoundsCode):Cf P S Ck G β (a6 x 0 c) (a6 X 0 c) (λ_ a A=>a=0/\A=0):=by
 refine B4 (dz hx) ?_;rintro DJ ⟨k,i⟩ _ E1 rfl;dsimp only;split
 .exact B5 ⟨by omega,by omega⟩
 .exact Dy _ _ _ _
def jF (sl:Bool){l L h H m M:Option a8}(hl:E9 S β l L)(hh:E9 S β h H)(hm:E9 S β m M) :
  Cf P S Ck G β (bq sl 0 0 l h m) (bq sl 0 0 L H M) (λ_ a A=>a=(0,0,0)/\A=(0,0,0)):=by
 unfold bq;have e1:m.isSome=M.isSome:=by cases hm<;>rfl
 have low : ∀ (B8 : Cm), β.le B8 -> Cf P S Ck G B8 (do
   let l<-match l with
    |some v=>a6 v 0 (if m.isSome then .slice3C else .sliceB)
    |none=>pure 0
   pure (l,0,0)) (do
   let l<-match L with
    |some v=>a6 v 0 (if M.isSome then .slice3C else .sliceB)
    |none=>pure 0
   pure (l,0,0)) (λ_ a A=>a=(0,0,0)/\A=(0,0,0)):=by
  intro B8 hle;rw[e1];cases hl with
  |none=>exact B4 (B5 (R:=λ_ a A=>a=0/\A=0) ⟨rfl,rfl⟩) (by rintro Dq _ _ _ ⟨rfl,rfl⟩;exact B5 ⟨rfl,rfl⟩)
  |some hv=>exact B4 (cQ (hv.mono hle) _) (by rintro Dq _ _ _ ⟨rfl,rfl⟩;exact B5 ⟨rfl,rfl⟩)
 have Mx : ∀ (B8 : Cm), β.le B8 -> Cf P S Ck G B8 (do
   let h'<-match h,m with
    |some v,bb _=>a6 v 0 .slice3B
    |some v,bw=>a6 v 0 (if sl then .sliceAcap else .sliceAlen)
    |none,bw=>pure 0
    |none,bb _=>stuck "Slice: max without high"
   let l<-match l with
    |some v=>a6 v h' (if m.isSome then .slice3C else .sliceB)
    |none=>pure 0
   pure (l,h',0)) (do
   let h'<-match H,M with
    |some v,bb _=>a6 v 0 .slice3B
    |some v,bw=>a6 v 0 (if sl then .sliceAcap else .sliceAlen)
    |none,bw=>pure 0
    |none,bb _=>stuck "Slice: max without high"
   let l<-match L with
    |some v=>a6 v h' (if M.isSome then .slice3C else .sliceB)
    |none=>pure 0
   pure (l,h',0)) (λ_ a A=>a=(0,0,0)/\A=(0,0,0)):=by
  intro B8 hle;cases hm with
  |none =>
   cases hh with
   |none=>exact B4 (B5 (R:=λ_ a A=>a=0/\A=0) ⟨rfl,rfl⟩) (by rintro Dq _ _ h2 ⟨rfl,rfl⟩;exact low Dq (Cm.le_trans hle h2))
   |some hv=>exact B4 (cQ (hv.mono hle) _) (by rintro Dq _ _ h2 ⟨rfl,rfl⟩;exact low Dq (Cm.le_trans hle h2))
  |some hw =>
   cases hh with
   |none=>exact λ_ _ _ _ _ _ _ _=>trivial
   |some hv=>exact B4 (cQ (hv.mono hle) _) (by rintro Dq _ _ h2 ⟨rfl,rfl⟩;exact low Dq (Cm.le_trans hle h2))
 cases hm with
 |none=>exact B4 (B5 (R:=λ_ a A=>a=0/\A=0) ⟨rfl,rfl⟩) (by rintro Dq _ _ h2 ⟨rfl,rfl⟩;exact Mx Dq h2)
 |some hv=>exact B4 (cQ hv _) (by rintro Dq _ _ h2 ⟨rfl,rfl⟩;exact Mx Dq h2)
def dX {v V:a8}(h:B6 S β v V):Cf P S Ck G β (asAddr v) (asAddr V) (λB8 a A=>C9 B8 a A):=by
 cases h with
 |ptr o s hb=>exact B5 ⟨hb,rfl,rfl⟩
 |FJ=>exact ax .nilDeref trivial
 |_=>exact B9
def sI (t:bc){x X:a8}(hx:B6 S β x X){l L h H m M:Option a8}(hl:E9 S β l L)(hh:E9 S β h H)(hm:E9 S β m M) :
  Cf P S Ck G β (eA t x l h m) (eA t X L H M) (λB8 a A=>B6 S B8 a A):=by
 refine B4 (ak _) ?_;rintro DJ d _ hle ⟨rfl,_⟩;have e1:m.isSome=M.isSome:=by cases hm<;>rfl
 replace hx:=hx.mono hle;cases d with
 |string =>
  cases hx with
  |string s =>
   dsimp only;rw[e1];split
   .exact λ_ _ _ _ _ _ _ _=>trivial
   .refine B4 (bY _ _ _ (hl.mono hle) (hh.mono hle) .none) ?_;rintro Dq ⟨a,b,c⟩ _ _ rfl;exact B5 (.string _)
  |_=>exact B9
 |slice e =>
  cases hx with
  |Fc len cap =>
   refine B4 (bY _ _ _ (hl.mono hle) (hh.mono hle) (hm.mono hle)) ?_;rintro Dq ⟨a,b,c⟩ _ _ rfl;refine B4 (aH _) ?_;rintro Eu n _ _ rfl;refine B5 ?_;split
   .exact .Fc _ _
   .exact .Fc _ _
  |slice o s len cap hb =>
   refine B4 (bY _ _ _ (hl.mono hle) (hh.mono hle) (hm.mono hle)) ?_;rintro Dq ⟨a,b,c⟩ _ C0 rfl;refine B4 (aH _) ?_;rintro Eu n _ C4 rfl;refine B5 ?_;split
   .exact .slice _ _ _ _ (C4 _ _ (C0 _ _ hb))
   .exact C9.sl (C9.add (C9.mk (a:=⟨_,o,s⟩) (A:=⟨_,o,s⟩) (C4 _ _ (C0 _ _ hb)) rfl rfl) _) _ _
  |Dl h0 =>
   refine B4 (jF _ (hl.mono hle) (hh.mono hle) (hm.mono hle)) ?_;rintro Dq _ _ C0 ⟨rfl,rfl⟩;refine B4 (aH _) ?_;rintro Eu n _ C4 rfl;exact B5 (.Dl h0)
  |_=>exact B9
 |pointer arr =>
  refine B4 (dX hx) ?_;intro Dq a A C0 ha;refine B4 (ak _) ?_;rintro Eu d _ C4 ⟨rfl,_⟩;cases d with
  |array n elem =>
   refine B4 (bY _ _ _ ((((hl.mono hle).mono C0)).mono C4) ((((hh.mono hle).mono C0)).mono C4) ((((hm.mono hle).mono C0)).mono C4)) ?_;rintro Ka ⟨a,b,c⟩ _ Gi rfl;refine B4 (aH _) ?_;rintro La n _ Gj rfl;have ha':=((ha.mono C4).mono Gi).mono Gj;refine B5 ?_;split
   .exact ha'.sl _ _
   .exact(ha'.add _).sl _ _
  |_=>exact λ_ _ _ _ _ _ _ _=>trivial
 |_=>exact λ_ _ _ _ _ _ _ _=>trivial
def ph (t:bc){x X:a8}(hx:B6 S β x X){l L h H m M:Option a8}(hl:E9 S β l L)(hh:E9 S β h H)(hm:E9 S β m M) :
  Cf P S Ck G β (ek t x l h m) (ek t X L H M) (λB8 a A=>B6 S B8 a A):=by
 refine B4 (ak _) ?_;rintro DJ d _ hle ⟨rfl,_⟩;cases d with
 |array n elem =>
  refine B4 (cY (hx.mono hle)) ?_;intro Eu a A C4 ha;refine B4 (bY _ _ _ ((hl.mono hle).mono C4) ((hh.mono hle).mono C4) ((hm.mono hle).mono C4)) ?_;rintro Ka ⟨a,b,c⟩ _ Gi rfl;refine B4 (aH _) ?_;rintro La n _ Gj rfl;have ha':=(ha.mono Gi).mono Gj;refine B5 ?_;split
  .exact ha'.sl _ _
  .exact(ha'.add _).sl _ _
 |_=>exact sI t (hx.mono hle) (hl.mono hle) (hh.mono hle) (hm.mono hle)
def sJ (t:bc){x X:a8}(hx:B6 S β x X)(i:Nat):Cf P S Ck G β (eC t x i) (eC t X i) (λB8 a A=>B6 S B8 a A):=by
 refine B4 (ak _) ?_;rintro DJ d _ hle ⟨rfl,_⟩;cases d with
 |struct fs =>
  dsimp only;split
  .refine B4 (sH (hx.mono hle)) ?_;intro Dq c C _ hc;exact cz _ hc _
  .exact B9
 |_=>exact λ_ _ _ _ _ _ _ _=>trivial
def sK (t:bc){v V x X:a8}(h:B6 S β v V)(hx:B6 S β x X):Cf P S Ck G β (eF t v x) (eF t V X) (λB8 y Y=>B6 S B8 y Y):=by
 refine B4 (dz hx) ?_;rintro DJ ⟨k,i⟩ _ E1 rfl;refine B4 (ak _) ?_;rintro Dq d _ C0 ⟨rfl,_⟩;have h2:=(h.mono E1).mono C0;cases d with
 |array len elem =>
  cases h2 with
  |agg h1 h2 =>
   dsimp only;split
   .refine B4 (aH _) ?_;rintro Eu n _ C4 rfl;exact cz _ (Ca.mono C4 ⟨h1,h2⟩) _
   .exact Dy _ _ _ _
  |_=>exact B9
 |string =>
  cases h2 with
  |string s =>
   dsimp only;split
   .exact B5 (.int _ _)
   .exact Dy _ _ _ _
  |_=>exact B9
 |_=>exact λ_ _ _ _ _ _ _ _=>trivial
def gP {α γ:Type}{f:α->Sem γ}(h:∀x β,Cf P S Ck G β (f x) (f x) (λ_ a A=>a=A)):∀(l:List α) (β:Cm),Cf P S Ck G β (l.mapM f) (l.mapM f) (λ_ a A=>a=A)
 |[],β=>by simp only[List.mapM_nil];exact B5 rfl
 |x::l,β=>by
  simp only[List.mapM_cons];refine B4 (h x β) ?_;rintro DJ a _ _ rfl;refine B4 (gP h l DJ) ?_;rintro Dq b _ _ rfl;exact B5 rfl
end
section
variable {P:CL} {S:DT} {Ck:Code->Prop} {G:Nat} {β:Cm}
inductive Ep (S:DT)(β:Cm):List (Nat×a8)->List (Nat×a8)->Prop
 |nil:Ep S β [] []
 |cons {i:Nat} {v V:a8} {l L:List (Nat×a8)}:B6 S β v V->Ep S β l L->Ep S β ((i,v)::l) ((i,V)::L)
def Ep.mono {B8:Cm}(h:β.le B8){l L:List (Nat×a8)}(r:Ep S β l L):Ep S B8 l L:=by
 induction r with
 |nil=>exact .nil
 |cons v _ ih=>exact .cons (v.mono h) ih
def uF {c C:Array a8}{l L:List a8}(off k:Nat)(hc:Ca S β c C)(hl:Df (B6 S β) l L) :
  Ca S β ((l.zipIdx k).foldl (λcs (x:a8×Nat)=>cs.setIfInBounds (off+x.2) x.1) c) ((L.zipIdx k).foldl (λcs (x:a8×Nat)=>cs.setIfInBounds (off+x.2) x.1) C):=by
 induction hl generalizing c C k with
 |nil=>exact hc
 |cons ha _ ih =>
  simp only[List.zipIdx_cons,Af];exact ih _ (hc.set _ ha)
inductive N7 (S:DT)(β:Cm):Option (Array a8)->Option (Array a8)->Prop
 |none:N7 S β bw bw
 |some {a A:Array a8}:Ca S β a A->N7 S β (bb a) (bb A)
def jl (place:Nat->Option (Nat×Nat)){l L:List (Nat×a8)}(hl:Ep S β l L){c C:Array a8}(hc:Ca S β c C) :
  N7 S β (bs place c l) (bs place C L):=by
 induction hl generalizing c C with
 |nil=>exact .some hc
 |@cons i v V l L hv _ ih =>
  simp only[bs];cases place i with
  |none=>exact .none
  |some os =>
   obtain⟨off,size⟩:=os;dsimp only;rw[hv.cells.size,hc.size];split
   .exact .none
   .refine ih ?_;have h1:=uF (S:=S) (β:=β) off 0 hc hv.cells.toList;have e:∀(w:a8) (c:Array a8),w.cells.zipIdx.foldl (λcs x=>match x with|(c,j)=>cs.setIfInBounds (off+j) c) c=(w.cells.toList.zipIdx 0).foldl (λcs (x:a8×Nat)=>cs.setIfInBounds (off+x.2) x.1) c:=by
     intro w c;rw[<-Be];simp
    rw[e,e];exact h1
def sL (t:bc)(hz:bX P.a t=cK){l L:Array (Nat×a8)}(hl:Ep S β l.toList L.toList):Cf P S Ck G β (eG t l) (eG t L) (λB8 a A=>B6 S B8 a A):=by
 refine B4 (cH hz) ?_;rintro DJ z _ E1 ⟨rfl,hz⟩;refine B4 (ak _) ?_;rintro Dq d _ C0 ⟨rfl,_⟩;cases d with
 |struct fs =>
  refine B4 (R:=λ_ a A=>a=A) ?_ ?_
  .rw[A7];have:=gP (P:=P) (S:=S) (Ck:=Ck) (G:=G) (f:=λ(f:Field)=>do pure (f.offset,<-sizeOf f.type)) (λx β=>B4 (aH _) (by rintro Eu n _ _ rfl;exact B5 rfl)) fs.toList Dq;exact B4 this (by rintro Eu n _ _ rfl;exact B5 rfl)
  .rintro Eu places _ C4 rfl;have h:=jl (λi=>places[i]?) ((hl.mono E1).mono C0 |>.mono C4) ((hz.mono C0).mono C4).cells;revert h;generalize bs (λi=>places[i]?) z.cells l.toList=x;generalize bs (λi=>places[i]?) z.cells L.toList=X;intro h;cases h with
   |none=>exact λ_ _ _ _ _ _ _ _=>trivial
   |some h=>exact B5 h.agg
 |array n elem =>
  refine B4 (aH _) ?_;rintro Eu size _ C4 rfl;have h:=jl (λi=>bb (i*size,size)) ((hl.mono E1).mono C0 |>.mono C4) ((hz.mono C0).mono C4).cells;revert h;generalize bs (λi=>bb (i*size,size)) z.cells l.toList=x;generalize bs (λi=>bb (i*size,size)) z.cells L.toList=X;intro h;cases h with
  |none=>exact λ_ _ _ _ _ _ _ _=>trivial
  |some h=>exact B5 h.agg
 |_=>exact λ_ _ _ _ _ _ _ _=>trivial
def gQ {z:Array a8}(h:Ca S β z z)(n:Nat):Ca S β ((br n).map (z[· % z.size]!)) ((br n).map (z[· % z.size]!)):=by
 refine Ca.map _ λi _=>?_;by_cases hz:i % z.size<z.size
 .rw[getElem!_pos z _ hz];exact h.at_ _ _ _ (yS hz) (yS hz)
 .rw[getElem!_neg z _ hz];exact B6.bool bo
def lJ (t:bc)(n:Nat)(hz:∀e,P.a.underlying t=bb (.slice e)->bX P.a e=cK){l L:Array (Nat×a8)}(hl:Ep S β l.toList L.toList) :
  Cf P S Ck G β (dn t n l) (dn t n L) (λB8 a A=>B6 S B8 a A):=by
 refine B4 (ak _) ?_;rintro DJ d _ E1 ⟨rfl,hd⟩;cases d with
 |slice e =>
  refine B4 (aH _) ?_;rintro Dq size _ C0 rfl
  have key : ∀ (B8 : Cm) (z : Array a8), Dq.le B8 -> Ca S B8 z z -> Cf P S Ck G B8 (do
    let bb cells:=bs (λi=>bb (i*size,size)) ((br (n*size)).map (z[· % z.size]!)) l.toList
     |stuck "buildSlice: a part of the wrong size"
    pure (.slice (bb (<-newRow e cells)) n n):Sem a8) (do
    let bb cells:=bs (λi=>bb (i*size,size)) ((br (n*size)).map (z[· % z.size]!)) L.toList
     |stuck "buildSlice: a part of the wrong size"
    pure (.slice (bb (<-newRow e cells)) n n):Sem a8) (λB8 a A=>B6 S B8 a A):=by
   intro B8 z hle hz;have h:=jl (λi=>bb (i*size,size)) ((hl.mono E1).mono C0 |>.mono hle) (gQ hz (n*size));revert h;generalize bs (λi=>bb (i*size,size)) ((br (n*size)).map (z[· % z.size]!)) l.toList=x;generalize bs (λi=>bb (i*size,size)) ((br (n*size)).map (z[· % z.size]!)) L.toList=X;intro h;cases h with
   |none=>exact λ_ _ _ _ _ _ _ _=>trivial
   |some h =>
    refine B4 (fw e h) ?_;intro Eu a A _ ha;exact B5 (ha.sl _ _)
  dsimp only;by_cases h1:n*size > 2 ^ 24
  .simp only[if_pos h1];refine B4 (R:=λ_ (_ _:Unit)=>False) ?_ (λ_ _ _ _ h=>h.elim);refine Cb ?_;intro g e;cases e
  .simp only[if_neg h1];by_cases h2:n*size=0
   .simp only[if_pos h2];exact B4 (B5 (R:=λB8 (a A:Array a8)=>a=A/\Ca S B8 a a) ⟨rfl,Bt⟩) (by rintro Eu z _ hle ⟨rfl,h⟩;exact key _ _ hle h)
   .simp only[if_neg h2];refine B4 (cH (hz e hd)) ?_;rintro Eu z _ C4 ⟨rfl,h⟩;exact B4 (B5 (R:=λB8 (a A:Array a8)=>a=A/\Ca S B8 a a) ⟨rfl,h.cells⟩) (by rintro Ka z _ hle ⟨rfl,h⟩;exact key _ _ (Cm.le_trans C4 hle) h)
 |_=>exact λ_ _ _ _ _ _ _ _=>trivial
def jG (n:Nat):Cf P S Ck G β (askRoom n) (askRoom n) (λ_ _ _=>True):=by
 unfold askRoom;split
 .exact qH
 .exact B5 trivial
def l7 (t:bc)(hz:∀e,P.a.underlying t=bb (.slice e)->bX P.a e=cK){l L c C:a8}(hl:B6 S β l L)(hc:B6 S β c C) :
  Cf P S Ck G β (dS t l c) (dS t L C) (λB8 a A=>B6 S B8 a A):=by
 refine B4 (ak _) ?_;rintro DJ d _ E1 ⟨rfl,hd⟩;cases d with
 |slice e =>
  refine B4 (eO (hl.mono E1)) ?_;rintro Dq len _ C0 rfl;refine B4 (eO ((hc.mono E1).mono C0)) ?_;rintro Eu cap _ C4 rfl;refine B4 (bi _) ?_;rintro Ka info _ Gi ⟨rfl,_⟩;dsimp only
  have key : ∀ B8 : Cm, Cf P S Ck G B8 (do
    askRoom ((IntKind.i64.wrap cap).toNat*info.bytes)
    let n:=(IntKind.i64.wrap cap).toNat*(<-sizeOf e)
    let zero<-if n=0 then pure #[] else do pure (<-zeroValue e).cells
    let a<-newRow e ((br n).map (zero[· % zero.size]!))
    pure (.slice (bb a) (IntKind.i64.wrap len).toNat (IntKind.i64.wrap cap).toNat):Sem a8) (do
    askRoom ((IntKind.i64.wrap cap).toNat*info.bytes)
    let n:=(IntKind.i64.wrap cap).toNat*(<-sizeOf e)
    let zero<-if n=0 then pure #[] else do pure (<-zeroValue e).cells
    let a<-newRow e ((br n).map (zero[· % zero.size]!))
    pure (.slice (bb a) (IntKind.i64.wrap len).toNat (IntKind.i64.wrap cap).toNat):Sem a8) (λB8 a A=>B6 S B8 a A):=by
   intro B8;refine B4 (jG _) ?_;rintro UT _ _ PN _;refine B4 (aH _) ?_;rintro β7 size _ aaY rfl;dsimp only
   have fin : ∀ (B8 : Cm) (z : Array a8), Ca S B8 z z -> Cf P S Ck G B8 (do
     let a<-newRow e ((br ((IntKind.i64.wrap cap).toNat*size)).map (z[· % z.size]!))
     pure (.slice (bb a) (IntKind.i64.wrap len).toNat (IntKind.i64.wrap cap).toNat):Sem a8) (do
     let a<-newRow e ((br ((IntKind.i64.wrap cap).toNat*size)).map (z[· % z.size]!))
     pure (.slice (bb a) (IntKind.i64.wrap len).toNat (IntKind.i64.wrap cap).toNat):Sem a8) (λB8 a A=>B6 S B8 a A):=by
    intro B8 z h;refine B4 (fw e (gQ h _)) ?_;intro Eu a A _ ha;exact B5 (ha.sl _ _)
   split
   .exact B4 (B5 (R:=λB8 (a A:Array a8)=>a=A/\Ca S B8 a a) ⟨rfl,Bt⟩) (by rintro Eu z _ hle ⟨rfl,h⟩;exact fin _ _ h)
   .refine B4 (cH (hz e hd)) ?_;rintro Eu z _ C4 ⟨rfl,h⟩;exact B4 (B5 (R:=λB8 (a A:Array a8)=>a=A/\Ca S B8 a a) ⟨rfl,h.cells⟩) (by rintro Ka z _ hle ⟨rfl,h⟩;exact fin _ _ h)
  have pan:∀(B8:Cm) (m:String) (k K:Unit->Sem a8),Cf P S Ck G B8 (bn (.error m) >>= k) (bn (.error m) >>= K) (λB8 a A=>B6 S B8 a A):=λB8 m k K=>by
   refine B4 (R:=λ_ _ _=>False) (ax _ trivial) ?_;intro _ _ _ _ h;exact h.elim
  split
  .split
   .exact pan _ _ _ _
   .split
    .exact pan _ _ _ _
    .refine B4 (fp _) ?_;rintro La q _ _ rfl;exact pan _ _ _ _
  .exact key _
 |_=>exact λ_ _ _ _ _ _ _ _=>trivial
def sM {v V:a8}(h:B6 S β v V):Cf P S Ck G β (cq v) (cq V) (λ_ a A=>a=A/\∀x,v=.slice (bb x) 0 0->a=0):=by
 cases h with
 |string s=>exact B5 ⟨rfl,λx e=>by cases e⟩
 |Fc l c=>exact B5 ⟨rfl,λx e=>by cases e⟩
 |slice o s l c hb=>exact B5 ⟨rfl,λx e=>by cases e;rfl⟩
 |Dl _=>exact B5 ⟨rfl,λ_ _=>rfl⟩
 |_=>exact B9
def ei (size n:Nat){v V:a8}(h:B6 S β v V)(h0:∀x,v=.slice (bb x) 0 0->n=0):Cf P S Ck G β (a7 size n v) (a7 size n V) (λB8 a A=>Ca S B8 a A):=by
 cases h with
 | string s => exact B5 ⟨rfl, fun i v V h1 h2 => by
   rw[h1] at h2;cases h2;rw[zI] at h1;cases hb:(s.extract 0 n).data[i]? with
   |none=>rw[hb] at h1;cases h1
   |some b=>rw[hb] at h1;cases h1;exact .int _ _⟩
 |Fc l c=>exact B5 Bt
 |slice o s l c hb=>exact gN (C9.mk (a:=⟨_,o,s⟩) (A:=⟨_,o,s⟩) hb rfl rfl) _
 |Dl _ =>
  obtain rfl:=h0 _ rfl;unfold a7;dsimp only;rw[Nat.zero_mul];exact B5 Bt
 |_=>exact B9
def kB (size:Nat){v V:a8}(h:B6 S β v V):Cf P S Ck G β (a7 size 0 v) (a7 size 0 V) (λ_ a A=>a=#[]/\A=#[]):=by
 cases h with
 |string s =>
  have e:((s.extract 0 0).data.map λb=>Value.int .u8 b.toNat)=#[]:=Array.eq_empty_of_size_eq_zero (by rw[Array.size_map];simp[ByteArray.extract,ByteArray.copySlice]);exact B5 ⟨e,e⟩
 |Fc l c=>exact B5 ⟨rfl,rfl⟩
 |slice o s l c hb =>
  unfold a7;dsimp only;rw[Nat.zero_mul];exact B5 ⟨rfl,rfl⟩
 |Dl _ =>
  unfold a7;dsimp only;rw[Nat.zero_mul];exact B5 ⟨rfl,rfl⟩
 |_=>exact B9
def Hg.mono {β B8:Cm}(h:β.le B8){b B:Option cu}(r:Hg β b B):Hg B8 b B:=by
 cases r with
 |none=>exact .none
 |some r=>exact .some (r.mono h)
def F5 {α FK:Type}{m:Sem α}{M:Sem FK}{R:Cm->α->FK->Prop}(h:∀w es,∃u w' es',m.runT P.a w es=(.halt (.unsupported u) w',es')/\∀g,u≠.initOrder g):Cf P S Ck G β m M R:=by
 intro w W n hw ht Dt DD hb;obtain⟨u,w',es',h1,h2⟩:=h w Dt;rw[h1];exact h2
def Lb (a:cu)(n:Nat)(w:World)(es:Array Event):∃b,(b9 a n).runT P.a w es=(.ok b w,es):=by
 unfold b9;rw[aj];have e:(shape a.block).runT P.a w es=(.ok (w.shape? a.block) w,es):=rfl;rw[e];dsimp only;cases w.shape? a.block with
 |none=>exact⟨_,rfl⟩
 |some x=>exact⟨_,rfl⟩
def LO (size l n:Nat)(b:Option cu)(x:a8)(w:World)(es:Array Event):∃r,(bD size l n b x).runT P.a w es=(.ok r w,es):=by
 have k : ∀ r : Bool, ∃ r', (if !r then pure cK else match x with
   |.slice (bb c) _ _=>do pure (!(<-b9 c (n*size))||b.any (·.block==c.block))
   |_=>pure bo:Sem Bool).runT P.a w es=(.ok r' w,es):=by
  intro r;cases r with
  |false=>exact⟨cK,rfl⟩
  |true =>
   simp only[Bool.not_true,zg,if_false];split
   .rw[aj];obtain⟨h,e⟩:=Lb (P:=P) ‹cu› (n*size) w es;rw[e];exact⟨_,rfl⟩
   .exact⟨_,rfl⟩
 unfold bD;cases b with
 |none=>exact k cK
 |some a =>
  dsimp only;rw[aj];obtain⟨h,e⟩:=Lb (P:=P) a (l*size) w es;rw[e];dsimp only;rw[aj];have e:(frozen (a.add (l / 2*size))).runT P.a w es=(.ok (w.frozen? (a.add (l / 2*size))) w,es):=rfl;rw[e];exact k _
def nu {α:Type}(size l n:Nat)(b:Option cu)(x:a8)(why:Unsupported)(hw:∀g,why≠.initOrder g)(k:Unit->Sem α)(w:World)(es:Array Event) :
    ∃ u w' es', ((do if !(<- bD size l n b x) then mark .noRoom
                     bA why) >>= k:Sem α).runT P.a w es=(.halt (.unsupported u) w',es')/\∀g,u≠.initOrder g:=by
  rw[aj,aj];obtain⟨r,e⟩:=LO (P:=P) size l n b x w es;rw[e];cases r with
  |true=>exact⟨why,w,es,rfl,hw⟩
  |false=>exact⟨why,w,es.push ⟨.mark .noRoom,bo,cK⟩,rfl,hw⟩
def qI (ts:Array bc)(t:bc)(hz:∀e s,ts[0]?=bb s->P.a.underlying s=bb (.slice e)->bX P.a e=cK)(hni:∀x k,ts[1]?=bb x->P.a.underlying x≠bb (.int k)){a A:Array a8}(h:Ca S β a A) :
    Cf P S Ck G β (cF ts t a) (cF ts t A) (λB8 v V=>B6 S B8 v V):=by
  unfold cF;cases ht:ts[0]? with
  |none=>exact B9
  |some t0 =>
    cases ha:a[0]? with
    |none=>exact B9
    |some s =>
      obtain⟨Sv,hS,hs⟩:=h.get? ha;rw[hS];cases hb:a[1]? with
      |none=>exact B9
      |some x =>
        obtain⟨X,hX,hx⟩:=h.get? hb;rw[hX];dsimp only;refine B4 (ak _) ?_;rintro DJ d _ E1 ⟨rfl,hd⟩;replace hs:=hs.mono E1;replace hx:=hx.mono E1;cases d with
        |slice e =>
          have hze:=hz e t0 ht hd
          have tail : ∀ (B8 : Cm) (b B : Option cu) (l c : Nat), DJ.le B8 -> (Hg B8 b B ∨ l = 0 ∧ c = 0) -> B6 S B8 (.slice b l c) (.slice B l c) -> Cf P S Ck G B8 (do
              let size<-sizeOf e
              let zeros<-match ts[1]? with
                |some Re=>do pure ((<-underlying Re) matches .int _)
                |none=>pure bo
              let n <- if zeros then do
                  let l:=IntKind.i64.wrap (<-asInt x)
                  if l<0 then bn (.error "makeslice: len out of range")
                  if l*(<-typeInfo e).bytes > 2 ^ 48 then
                    let made<-choose (.extern "append.ofMake.carriedOut" 2)
                    bn (.error (if made==1 then "makeslice: len out of range" else "growslice: len out of range"))
                  pure l.toNat
                else cq x
              let appended:Sem (Array a8) :=
                if !zeros then a7 size n x
                else if n*size=0 then pure #[]
                else do pure (bh (<-zeroValue e).cells n)
              let need:=l+n
              if need<=c then
                let new<-appended
                if let bb a:=b then storeCells (a.add (l*size)) new.toList
                pure (.slice b need c)
              else
                if(need:Int) > IntKind.i64.max/\(zeros\/(<-typeInfo e).bytes=0) then bn (.error "growslice: len out of range")
                if b7 need c*(<-typeInfo e).bytes > 2 ^ 48 then(if zeros then bn (.error "growslice: len out of range") else do
                  if !(<-bD size l n b x) then mark .noRoom
                  bA (.resourceLimit "append: a slice or a string whose bytes no memory bears"))
                let EN<-choose (.appendCap need c e)
                askRoom (EN*(<-typeInfo e).bytes)
                let old<-a7 size l (.slice b l c)
                let new<-appended
                let rest:=bh (<-zeroValue e).cells (EN-need)
                pure (.slice (bb (<-newRow e (old++new++rest))) need EN):Sem a8) (do
              let size<-sizeOf e
              let zeros<-match ts[1]? with
                |some Re=>do pure ((<-underlying Re) matches .int _)
                |none=>pure bo
              let n <- if zeros then do
                  let l:=IntKind.i64.wrap (<-asInt X)
                  if l<0 then bn (.error "makeslice: len out of range")
                  if l*(<-typeInfo e).bytes > 2 ^ 48 then
                    let made<-choose (.extern "append.ofMake.carriedOut" 2)
                    bn (.error (if made==1 then "makeslice: len out of range" else "growslice: len out of range"))
                  pure l.toNat
                else cq X
              let appended:Sem (Array a8) :=
                if !zeros then a7 size n X
                else if n*size=0 then pure #[]
                else do pure (bh (<-zeroValue e).cells n)
              let need:=l+n
              if need<=c then
                let new<-appended
                if let bb a:=B then storeCells (a.add (l*size)) new.toList
                pure (.slice B need c)
              else
                if(need:Int) > IntKind.i64.max/\(zeros\/(<-typeInfo e).bytes=0) then bn (.error "growslice: len out of range")
                if b7 need c*(<-typeInfo e).bytes > 2 ^ 48 then(if zeros then bn (.error "growslice: len out of range") else do
                  if !(<-bD size l n B X) then mark .noRoom
                  bA (.resourceLimit "append: a slice or a string whose bytes no memory bears"))
                let EN<-choose (.appendCap need c e)
                askRoom (EN*(<-typeInfo e).bytes)
                let old<-a7 size l (.slice B l c)
                let new<-appended
                let rest:=bh (<-zeroValue e).cells (EN-need)
                pure (.slice (bb (<-newRow e (old++new++rest))) need EN):Sem a8) (λB8 v V=>B6 S B8 v V):=by
            intro B8 b B l c hle ob hs;refine B4 (aH _) ?_;rintro Dq size _ C0 rfl;have hx2:=(hx.mono hle).mono C0;have hs2:=hs.mono C0;have ob2:Hg Dq b B\/l=0/\c=0:=ob.imp (·.mono C0) λh=>h;dsimp only;rcases h1:ts[1]? with _|xt
            all_goals first
              |refine B4 (R:=λ_ (a A:Bool)=>a=bo/\A=bo) (B5 ⟨rfl,rfl⟩) ?_
              | (refine B4 (ak _) ?_
                 rintro afO d _ Rf ⟨rfl, hd⟩;replace hx2 := hx2.mono Rf;replace hs2 := hs2.mono Rf;replace ob2 : Hg afO b B ∨ l = 0 ∧ c = 0 := ob2.imp (·.mono Rf) fun h => h
                 refine B4 (R := fun _ (a A : Bool) => a = bo ∧ A = bo) (B5 (by cases d with
                   | int k => exact absurd hd (hni xt k h1)
                   |_=>exact⟨rfl,rfl⟩)) ?_)
            all_goals
              rintro Eu z Z C4 ⟨rfl,rfl⟩;simp only[zg,if_false,Bool.not_false,if_true,false_or];have hx3:=hx2.mono C4;have hs3:=hs2.mono C4;refine B4 (sM hx3) ?_;rintro Ka n _ Gi ⟨rfl,Ld⟩;replace hx3:=hx3.mono Gi;replace hs3:=hs3.mono Gi;have ob4:Hg Ka b B\/l=0/\c=0:=ob2.imp (λh=>(h.mono C4).mono Gi) λh=>h;by_cases hn:l+n<=c
              · simp only[if_pos hn]
                rcases ob4 with ob4|⟨rfl,rfl⟩
                · refine B4 (ei _ _ hx3 Ld) ?_
                  intro La y Y Gj hy;cases ob4 with
                  |none=>exact B5 (.Fc _ _)
                  |some ha4 =>
                    refine B4 (gH ((ha4.mono Gj).add _) hy.toList 0) ?_;intro UT _ _ PN _;exact B5 (((ha4.mono Gj).mono PN).sl _ _)
                · obtain rfl:n=0:=by omega
                  refine B4 (kB size hx3) ?_
                  · rintro La _ _ Gj ⟨rfl,rfl⟩
                    have hs5:=hs3.mono Gj;cases b with
                    |none=>cases B with
                      |none=>exact B5 hs5
                      |some B=>cases hs5
                    |some b=>cases B with
                      |none=>cases hs5
                      |some B=>exact B5 hs5
              · simp only[if_neg hn]
                have fin : ∀ La : Cm, Ka.le La -> Cf P S Ck G La (do
                    let EN<-choose (.appendCap (l+n) c e)
                    askRoom (EN*(<-typeInfo e).bytes)
                    let old<-a7 size l (.slice b l c)
                    let new<-a7 size n x
                    let rest:=bh (<-zeroValue e).cells (EN-(l+n))
                    pure (.slice (bb (<-newRow e (old++new++rest))) (l+n) EN):Sem a8) (do
                    let EN<-choose (.appendCap (l+n) c e)
                    askRoom (EN*(<-typeInfo e).bytes)
                    let old<-a7 size l (.slice B l c)
                    let new<-a7 size n X
                    let rest:=bh (<-zeroValue e).cells (EN-(l+n))
                    pure (.slice (bb (<-newRow e (old++new++rest))) (l+n) EN):Sem a8) (λB8 v V=>B6 S B8 v V):=by
                  intro La Gj;refine B4 (fp _) ?_;rintro UT nc _ PN rfl;refine B4 (bi _) ?_;rintro β7 info _ aaY ⟨rfl,_⟩;refine B4 (jG _) ?_;intro β8 _ _ afQ _;have l8:=Cm.le_trans (Cm.le_trans (Cm.le_trans Gj PN) aaY) afQ;refine B4 (ei _ _ (hs3.mono l8) λx e=>by injection e) ?_;intro β9 y Y afR hy;refine B4 (ei _ _ ((hx3.mono l8).mono afR) Ld) ?_;intro βa y' Y' afS hy'
                  refine B4 (cH hze) ?_;rintro βb z _ aaZ ⟨rfl,hzv⟩;have Rg:Ca S βb (bh z.cells (nc-(l+n))) (bh z.cells (nc-(l+n))):=gQ hzv.cells _;refine B4 (fw e ((((hy.mono afS).mono aaZ).append (hy'.mono aaZ)).append Rg)) ?_;intro βc r R' _ hr;exact B5 (hr.sl _ _)
                refine B4 (bi _) ?_;rintro La info _ Gj ⟨rfl,_⟩;by_cases hc1:((l+n:Nat):Int) > IntKind.i64.max/\info.bytes=0
                · simp only[if_pos hc1]
                  exact B4 (R:=λ_ _ _=>False) (ax _ trivial) (λ_ _ _ _ h=>h.elim)
                · simp only[if_neg hc1]
                  refine B4 (bi _) ?_;rintro UT aa0 _ PN ⟨rfl,_⟩;by_cases hc2:b7 (l+n) c*aa0.bytes > 2 ^ 48
                  · simp only[if_pos hc2]
                    refine F5 λw es=>?_;exact nu size l n b x _ (by intro g e;cases e) _ w es
                  · simp only[if_neg hc2]
                    exact fin UT (Cm.le_trans Gj PN)
          cases hs with
          |Fc l c=>exact tail DJ bw bw l c DJ.le_refl (.inl .none) (.Fc _ _)
          |slice o s l c hb=>exact tail DJ (bb _) (bb _) l c DJ.le_refl (.inl (.some (C9.mk (a:=⟨_,o,s⟩) (A:=⟨_,o,s⟩) hb rfl rfl))) (.slice _ _ _ _ hb)
          |Dl h0=>exact tail DJ (bb _) (bb _) 0 0 DJ.le_refl (.inr ⟨rfl,rfl⟩) (.Dl h0)
          |_=>exact B9
        |_=>exact λ_ _ _ _ _ _ _ _=>trivial
def wH (ts:Array bc)(t:bc)(hc:∀t e d,ts[0]?=bb t->P.a.underlying t≠bb (.chan e d)){a A:Array a8}(h:Ca S β a A):Cf P S Ck G β (c0 ts t a) (c0 ts t A) (λB8 v V=>B6 S B8 v V):=by
 unfold c0;cases ht:ts[0]? with
 |none=>exact B9
 |some t0 =>
  cases ha:a[0]? with
  |none=>exact B9
  |some x =>
   obtain⟨X,hX,hr⟩:=h.get? ha;rw[hX];refine B4 (ak _) ?_;rintro DJ d _ hle ⟨rfl,hd⟩;replace hr:=hr.mono hle;cases d with
   |string=>cases hr with
    |string s=>exact B5 (.int _ _)
    |_=>exact B9
   |array n e=>exact B5 (.int _ _)
   |pointer e =>
    refine B4 (ak _) ?_;rintro Dq d _ hle ⟨rfl,_⟩;cases d with
    |array n e=>exact B5 (.int _ _)
    |_=>exact λ_ _ _ _ _ _ _ _=>trivial
   |slice e=>cases hr with
    |Fc l c=>exact B5 (.int _ _)
    |slice o s l c hb=>exact B5 (.int _ _)
    |Dl _=>exact B5 (.int _ _)
    |_=>exact B9
   |map k e=>cases hr with
    |Fu=>exact B5 (.int _ _)
    |_=>exact B9
   |chan e dir=>exact absurd hd (hc _ _ _ ht)
   |_=>exact λ_ _ _ _ _ _ _ _=>trivial
def wI (ts:Array bc)(t:bc)(hc:∀t e d,ts[0]?=bb t->P.a.underlying t≠bb (.chan e d)){a A:Array a8}(h:Ca S β a A):Cf P S Ck G β (df ts t a) (df ts t A) (λB8 v V=>B6 S B8 v V):=by
 unfold df;cases ht:ts[0]? with
 |none=>exact B9
 |some t0 =>
  cases ha:a[0]? with
  |none=>exact B9
  |some x =>
   obtain⟨X,hX,hr⟩:=h.get? ha;rw[hX];refine B4 (ak _) ?_;rintro DJ d _ hle ⟨rfl,hd⟩;replace hr:=hr.mono hle;cases d with
   |array n e=>exact B5 (.int _ _)
   |pointer e =>
    refine B4 (ak _) ?_;rintro Dq d _ hle ⟨rfl,_⟩;cases d with
    |array n e=>exact B5 (.int _ _)
    |_=>exact λ_ _ _ _ _ _ _ _=>trivial
   |slice e=>cases hr with
    |Fc l c=>exact B5 (.int _ _)
    |slice o s l c hb=>exact B5 (.int _ _)
    |Dl _=>exact B5 (.int _ _)
    |_=>exact B9
   |chan e dir=>exact absurd hd (hc _ _ _ ht)
   |_=>exact λ_ _ _ _ _ _ _ _=>trivial
def pi {v V:a8}(h:B6 S β v V)(i:Nat):Cf P S Ck G β (cU v i) (cU V i) (λB8 v V=>B6 S B8 v V):=by
 cases h with
 |tuple h1 h2 =>
  rename_i x X;unfold cU;dsimp only;cases hx:x[i]? with
  |none=>exact B9
  |some v=>obtain⟨V,hV,hr⟩:=(Ca.mk h1 h2).get? hx;rw[hV];exact B5 hr
 |_=>exact B9
def sN (t:bc)(hz:bX P.a t=cK):Cf P S Ck G β (eH t cK (.tuple #[])) (eH t cK (.tuple #[])) (λB8 v V=>B6 S B8 v V):=by
 refine B4 (cH hz) ?_;rintro DJ z _ E1 ⟨rfl,hz⟩;refine B4 (gO t hz) ?_;intro Dq a A _ ha;exact B5 ha.ptr
def wJ (t:bc){v V:a8}(h:B6 S β v V):Cf P S Ck G β (eT t v) (eT t V) (λB8 v V=>B6 S B8 v V):=by
 refine B4 (gO t h) ?_;intro Dq a A _ ha;exact B5 ha.ptr
def qJ (t:bc){v V:a8}(h:B6 S β v V):Cf P S Ck G β (ez t v) (ez t V) (λB8 v V=>B6 S B8 v V):=by
 refine B4 (cY h) ?_;intro Dq a A _ ha;exact jE t ha
def pj (t:bc){v V x X:a8}(h:B6 S β v V)(hx:B6 S β x X):Cf P S Ck G β (eo t v x) (eo t V X) (λ_ _ _=>True):=by
 refine B4 (cY h) ?_;intro Dq a A hle ha;exact nk t ha (hx.mono hle)
end
def FL (P:Program)(t:bc):Bool:=match P.underlying t with
 |some (.int _)|some .bool|some .string=>cK
 |_=>bo
def CL.cellsOf (P:CL)(t:bc):P.b.cellsOf t=P.a.cellsOf t:=rfl
def CL.bytesOf (P:CL)(t:bc):P.b.bytesOf t=P.a.bytesOf t:=rfl
def CL.depth (P:CL):P.b.depth=P.a.depth:=rfl
def CL.byteOfCell (P:CL)(d:Nat):∀t off,byteOfCell P.b d t off=byteOfCell P.a d t off:=by
 induction d with
 |zero=>exact λ_ _=>rfl
 |succ d ih =>
  have e:b5 P.b d=b5 P.a d:=funext λt=>funext λo=>ih t o;intro t off;unfold b5;rw[e]
  rfl
def CL.cellOfByte (P:CL)(d:Nat):∀t off,cellOfByte P.b d t off=cellOfByte P.a d t off:=by
 induction d with
 |zero=>exact λ_ _=>rfl
 |succ d ih =>
  have e:b6 P.b d=b6 P.a d:=funext λt=>funext λo=>ih t o;intro t off;unfold b6;rw[e]
  rfl
def CL.cellAtBytes (P:CL)(d:Nat)(e:bc)(c o:Nat)(n:Int):cellAtBytes P.b d e c o n=cellAtBytes P.a d e c o n:=by
 have e1:b5 P.b d=b5 P.a d:=funext λt=>funext λo=>P.byteOfCell d t o;have e2:b6 P.b d=b6 P.a d:=funext λt=>funext λo=>P.cellOfByte d t o;unfold Go.cellAtBytes;rw[e1,e2]
 rfl
section
variable {P:CL} {S:DT} {Ck:Code->Prop} {G:Nat} {β:Cm}
def ny {b B:Nat}(h:β b B):Cf P S Ck G β (cf b) (cf B) (λB8 x X=>match x,X with|none,bw=>True|some (a,l),bb (A,L)=>C9 B8 a A/\l=L|_,_=>False):=by
 cases hh:S.hid b with
 |false =>
  refine B4 (kV h hh) ?_;rintro DJ s _ hle rfl;cases s with
  |some x=>exact B5 trivial
  |none =>
   refine B4 (ft (hle _ _ h) hh) ?_;intro Dq o O _ ho;cases ho with
   |number o s l hb=>exact B5 ⟨⟨hb,rfl,rfl⟩,rfl⟩
   |_=>exact B5 trivial
 |true =>
  intro w W n hw ht Dt DD _;obtain⟨h1,O7,QK⟩:=hw.Ej b B h hh;have e1:(cf b).runT P.a w Dt=(.ok bw w,Dt.push ⟨.obj b,bo,bo⟩):=by
   unfold cf;rw[aj];have e:(shape b).runT P.a w Dt=(.ok bw w,Dt):=by
    show(cr (w.shape? b) w,Dt)=_;unfold bW;rw[h1]
   rw[e];dsimp only;simp only[AB,zg,if_false];rw[aj];have e:(getObj b).runT P.a w Dt=(.ok (.coro bw) w,Dt.push ⟨.obj b,bo,bo⟩):=by simp only[dr,Sem.runT,h1];rfl
   rw[e]
   rfl
  cases H2:S.hid.C8 with
  |true =>
   have h2:=QK H2;have e2:(cf B).runT P.b W DD=(.ok bw W,DD.push ⟨.obj B,bo,bo⟩):=by
    unfold cf;rw[aj];have e:(shape B).runT P.b W DD=(.ok bw W,DD):=by
     show(cr (W.shape? B) W,DD)=_;unfold bW;rw[h2]
    rw[e];dsimp only;simp only[AB,zg,if_false];rw[aj];have e:(getObj B).runT P.b W DD=(.ok (.coro bw) W,DD.push ⟨.obj B,bo,bo⟩):=by simp only[dr,Sem.runT,h2];rfl
    rw[e]
    rfl
   rw[e1,e2];exact⟨β,bw,W,[⟨.obj B,bo,bo⟩],by simp,trivial,{ Fin.refl hw with evs:=λh=>by rw[H2] at h;cases h }⟩
  |false =>
  obtain⟨c,t,f,h2⟩:=O7 H2;have e2:(cf B).runT P.b W DD=(.ok bw W,DD):=by
   unfold cf;rw[aj];have e:(shape B).runT P.b W DD=(.ok (bb (t,c.size)) W,DD):=by
    show(cr (W.shape? B) W,DD)=_;unfold bW;rw[h2]
   rw[e]
   rfl
  rw[e1,e2];exact⟨β,bw,W,[],by simp,trivial,Fin.refl hw⟩
def gS {b B:Nat}(h:β b B):Cf P S Ck G β (viewAt b) (viewAt B) (λ_ x X=>x=bw/\X=bw):=by
 cases hh:S.hid b with
 |false =>
  refine B4 (kV h hh) ?_;rintro DJ s _ hle rfl;cases s with
  |some x=>exact B5 ⟨rfl,rfl⟩
  |none =>
   refine B4 (ft (hle _ _ h) hh) ?_;intro Dq o O _ ho;cases ho<;>exact B5 ⟨rfl,rfl⟩
 |true =>
  intro w W n hw ht Dt DD _;obtain⟨h1,O7,QK⟩:=hw.Ej b B h hh;have e1:(viewAt b).runT P.a w Dt=(.ok bw w,Dt.push ⟨.obj b,bo,bo⟩):=by
   unfold viewAt;rw[aj];have e:(shape b).runT P.a w Dt=(.ok bw w,Dt):=by
    show(cr (w.shape? b) w,Dt)=_;unfold bW;rw[h1]
   rw[e];dsimp only;simp only[AB,zg,if_false];rw[aj];have e:(getObj b).runT P.a w Dt=(.ok (.coro bw) w,Dt.push ⟨.obj b,bo,bo⟩):=by simp only[dr,Sem.runT,h1];rfl
   rw[e]
   rfl
  cases H2:S.hid.C8 with
  |true =>
   have h2:=QK H2;have e2:(viewAt B).runT P.b W DD=(.ok bw W,DD.push ⟨.obj B,bo,bo⟩):=by
    unfold viewAt;rw[aj];have e:(shape B).runT P.b W DD=(.ok bw W,DD):=by
     show(cr (W.shape? B) W,DD)=_;unfold bW;rw[h2]
    rw[e];dsimp only;simp only[AB,zg,if_false];rw[aj];have e:(getObj B).runT P.b W DD=(.ok (.coro bw) W,DD.push ⟨.obj B,bo,bo⟩):=by simp only[dr,Sem.runT,h2];rfl
    rw[e]
    rfl
   rw[e1,e2];exact⟨β,bw,W,[⟨.obj B,bo,bo⟩],by simp,⟨rfl,rfl⟩,{ Fin.refl hw with evs:=λh=>by rw[H2] at h;cases h }⟩
  |false =>
  obtain⟨c,t,f,h2⟩:=O7 H2;have e2:(viewAt B).runT P.b W DD=(.ok bw W,DD):=by
   unfold viewAt;rw[aj];have e:(shape B).runT P.b W DD=(.ok (bb (t,c.size)) W,DD):=by
    show(cr (W.shape? B) W,DD)=_;unfold bW;rw[h2]
   rw[e]
   rfl
  rw[e1,e2];exact⟨β,bw,W,[],by simp,⟨rfl,rfl⟩,Fin.refl hw⟩
def dm {a A:cu}(h:C9 β a A):Cf P S Ck G β (cw a) (cw A) (λB8 x X=>C9 B8 x.1 X.1/\x.2=X.2):=by
 refine B4 (ny h.block) ?_;intro DJ x X hle hx;cases x with
 |none=>cases X with
  |none=>exact B5 ⟨h.mono hle,rfl⟩
  |some _=>exact hx.elim
 |some x=>cases X with
  |none=>exact hx.elim
  |some X=>exact B5 hx
def qK {a A:cu}(h:C9 β a A):Cf P S Ck G β (noView a) (noView A) (λ_ _ _=>True):=by
 refine B4 (gS h.block) ?_;rintro DJ _ _ hle ⟨rfl,rfl⟩;exact B5 trivial
def qL {a A:cu}(h:C9 β a A):Cf P S Ck G β (byteOf a) (byteOf A) (λ_ x X=>x=X):=by
 unfold byteOf;rw[<-h.spot,<-h.off];cases a.spot with
 |some s=>exact B5 rfl
 |none =>
  refine B4 aR ?_;rintro DJ p p' hle ⟨hp,hp'⟩;subst p p';simp only[CL.cellsOf,CL.bytesOf,CL.depth,CL.byteOfCell];refine B4 (qK (h.mono hle)) ?_;rintro Dq _ _ C0 _;refine B4 (jh (C0 _ _ (hle _ _ h.block))) ?_;rintro Eu s _ C4 (rfl|rfl)
  rotate_left
  .exact λ_ _ _ _ _ _ _ _=>trivial
  cases s with
  |none=>exact λ_ _ _ _ _ _ _ _=>trivial
  |some x =>
   obtain⟨e,n⟩:=x;dsimp only;by_cases h0:P.a.cellsOf e=0
   .simp only[if_pos h0];exact B5 rfl
   .simp only[if_neg h0];split
    .exact B5 rfl
    .exact B9
def gT (ts:Array bc)(t:bc){v V x X:a8}(hv:B6 S β v V)(hx:B6 S β x X):Cf P S Ck G β (bk ts t #[v,x]) (bk ts t #[V,X]) (λB8 y Y=>∃a A,y=.pointer (bb a)/\Y=.pointer (bb A)/\C9 B8 a A):=by
 unfold bk;have tail:∀(p Q:Option cu),Hg β p Q->B6 S β (.pointer p) (.pointer Q)->Cf P S Ck G β (bk ts t #[.pointer p,x]) (bk ts t #[.pointer Q,X]) (λB8 y Y=>∃a A,y=.pointer (bb a)/\Y=.pointer (bb A)/\C9 B8 a A):=by
  intro p Q hp hpv;refine B4 (eO hx) ?_;rintro DJ n _ E1 rfl;dsimp only
  have rest : Cf P S Ck G DJ (do
    if n<0 then bA (.unsafePointer "Add: a move by a count below zero")
    let bb a:=p|unsupported (.unsafePointer "Add")
    let bb (e,cells)<-shape a.block|unsupported (.unsafePointer "Add")
    let P<-program
    match cellAtBytes P P.depth e (cells / P.cellsOf e) a.off n with
    |some off=>pure (.pointer (bb { a with off }))
    |none=>bA (.unsafePointer "Add"):Sem a8) (do
    if n<0 then bA (.unsafePointer "Add: a move by a count below zero")
    let bb a:=Q|unsupported (.unsafePointer "Add")
    let bb (e,cells)<-shape a.block|unsupported (.unsafePointer "Add")
    let P<-program
    match cellAtBytes P P.depth e (cells / P.cellsOf e) a.off n with
    |some off=>pure (.pointer (bb { a with off }))
    |none=>bA (.unsafePointer "Add"):Sem a8) (λB8 y Y=>∃a A,y=.pointer (bb a)/\Y=.pointer (bb A)/\C9 B8 a A):=by
   dsimp only;by_cases h0:n<0
   .simp only[if_pos h0];exact λ_ _ _ _ _ _ _ _=>by intro g e;cases e
   .simp only[if_neg h0];cases hp with
    |none=>exact λ_ _ _ _ _ _ _ _=>by intro g e;cases e
    |some ha =>
     rename_i a A;dsimp only;refine B4 (jh (E1 _ _ ha.block)) ?_;rintro Eu s _ C4 (rfl|rfl)
     rotate_left
     .exact λ_ _ _ _ _ _ _ _=>by intro g e;cases e
     cases s with
     |none=>exact λ_ _ _ _ _ _ _ _=>by intro g e;cases e
     |some x =>
      obtain⟨e,c⟩:=x;refine B4 aR ?_;rintro Ka p _ Gi ⟨rfl,rfl⟩;rw[<-ha.off,CL.cellAtBytes,CL.depth,CL.cellsOf];split
      .exact B5 ⟨_,_,rfl,rfl,⟨Gi _ _ (C4 _ _ (E1 _ _ ha.block)),rfl,ha.spot⟩⟩
      .exact λ_ _ _ _ _ _ _ _=>by intro g e;cases e
  by_cases h0:n=0
  .simp only[if_pos h0];cases hp with
   |none=>exact λ_ _ _ _ _ _ _ _=>by intro g e;cases e
   |some ha =>
    dsimp only;refine B4 (gS (E1 _ _ ha.block)) ?_;rintro Eu _ _ C4 ⟨rfl,rfl⟩;exact B5 ⟨_,_,rfl,rfl,(ha.mono E1).mono C4⟩
  .simp only[if_neg h0];exact rest
 cases hv with
 |FJ=>exact tail bw bw .none .FJ
 |ptr o s hb=>exact tail (bb _) (bb _) (.some (C9.mk (a:=⟨_,o,s⟩) (A:=⟨_,o,s⟩) hb rfl rfl)) (.ptr o s hb)
 |_=>exact B9
def _root_.Go.Ct.Cf.ptr {m M:Sem a8}(h:Cf P S Ck G β m M (λB8 y Y=>∃a A,y=.pointer (bb a)/\Y=.pointer (bb A)/\C9 B8 a A)):Cf P S Ck G β m M (λB8 a A=>B6 S B8 a A) :=
 uD h (by rintro B8 _ _ _ ⟨a,A,rfl,rfl,h⟩;exact h.ptr)
def nz {a A:cu}(h:C9 β a A)(l:Bool):Cf P S Ck G β (ea a l) (ea A l) (λB8 x X=>B6 S B8 x X):=by
 have ho:C5 S Ck β (.number a l) (.number A l):=by
  obtain⟨b,o,s⟩:=a;obtain⟨B,O,s'⟩:=A;obtain⟨h1,h2,h3⟩:=h;cases h2;cases h3;exact .number _ _ _ h1
 refine B4 (jD ho (λi=>ho.id i (by simp))) ?_;rintro Dq b B _ ⟨hb,_⟩;exact B5 (.ptr _ _ hb)
def bZ (t:bc){v V x X:a8}(hv:B6 S β v V)(hx:B6 S β x X):Cf P S Ck G β (dy t v x) (dy t V X) (λB8 a A=>B6 S B8 a A):=by
 unfold dy;refine B4 (ak _) ?_;rintro DJ d _ E1 ⟨rfl,_⟩;dsimp only
 have main : Cf P S Ck G DJ (do
   let .pointer (bb n):=v|Builtin.unsafeAdd_ #[] t #[v,x]
   let (a,lost)<-cw n
   match<-bk #[] t #[.pointer (bb a),x] with
   |.pointer (bb b)=>ea b lost
   |v=>pure v:Sem a8) (do
   let .pointer (bb n):=V|Builtin.unsafeAdd_ #[] t #[V,X]
   let (a,lost)<-cw n
   match<-bk #[] t #[.pointer (bb a),X] with
   |.pointer (bb b)=>ea b lost
   |v=>pure v:Sem a8) (λB8 a A=>B6 S B8 a A):=by
  replace hx:=hx.mono E1;replace hv:=hv.mono E1;have h0:=(gT (P:=P) (Ck:=Ck) (G:=G) #[] t hv hx).ptr;cases hv with
  |ptr o s hb =>
   refine B4 (dm (C9.mk (a:=⟨_,o,s⟩) (A:=⟨_,o,s⟩) hb rfl rfl)) ?_;rintro Dq ⟨a,l⟩ ⟨A,L⟩ C0 ⟨ha,hl⟩;cases hl;refine B4 (gT #[] t ha.ptr (hx.mono C0)) ?_;rintro Eu _ _ C4 ⟨a',A',rfl,rfl,ha'⟩;exact nz ha' l
  |_=>exact h0
 cases d with
 |unsafePointer=>exact λ_ _ _ _ _ _ _ _=>by intro g e;cases e
 |_=>exact main
def pk (k:er){a A:cu}(h:C9 β a A)(n:Int):Cf P S Ck G β (Op.addrMod k a n) (Op.addrMod k A n) (λB8 a A=>B6 S B8 a A):=by
 refine B4 (jh h.block) ?_;rintro DJ s _ E1 (rfl|rfl)
 rotate_left
 .exact λ_ _ _ _ _ _ _ _=>by intro g e;cases e
 cases s with
 |none=>exact λ_ _ _ _ _ _ _ _=>by intro g e;cases e
 |some x =>
  obtain⟨e,c⟩:=x;refine B4 (bi _) ?_;rintro Dq i _ C0 ⟨rfl,_⟩;dsimp only;split
  .exact λ_ _ _ _ _ _ _ _=>by intro g e;cases e
  .refine B4 (qL ((h.mono E1).mono C0)) ?_;rintro Eu b _ _ rfl;exact B5 (.int _ _)
def ma (hG:P.a.globals.size<=G){a A b B:cu}(ha:C9 β a A):Cf P S Ck G β (cE a b) (cE A B) (λ_ _ _=>False):=by
 intro w W n hw ht Dt DD hb;have h1:=(hw.DG.lo ha.block).1;have e:(cE a b).runT P.a w Dt=(.halt (.unsupported .addressObserved) w,Dt):=by
  unfold cE;rw[aj];have e:program.runT P.a w Dt=(.ok P.a w,Dt):=rfl;rw[e];dsimp only;rw[if_pos (by simp;right;omega)]
  rfl
 rw[e];intro g e;cases e
end
end Go.Ct
