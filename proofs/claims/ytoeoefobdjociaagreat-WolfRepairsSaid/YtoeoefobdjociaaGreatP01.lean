/- Parts of the proof. -/
import Derived.Test.YtoeoefobdjociaaGreatP00
set_option linter.all false
open Go.Instr renaming sliceBound->J,sliceBounds->bh,fill->bl,extract->cr,buildSlice->cE,makeSlice->cL,fieldAt->c0,indexAt->df,sliceAt->dn,storeAt->dr,loadAt->dS,slice->ea,field->eb,index->ed,build->ek,alloc->eo,box->er
open Go.Builtin renaming firstCells->U,zeroCells->E,unsafeAdd_->D,mayShare->bq,nextslicecap->bA,holdsCells->bW,lenOf->b6,append_->ck,len_->cu,cap_->cw
open Go renaming Value->I,TypeId->N,runtimePanic->bb,unsupported->bo,byteOfCell->bs,cellOfByte->bw,numberAt->b5,Addr->b8,behindNumber->b9,getObj->cF,movedNumber->cK,asNumber->cU,IntKind->dy
open Option renaming some->F,none->bn
open Go.Value renaming pointer->ak,slice->bD
open Bool renaming false->bc,true->cq
open Array renaming range->bk
open Go.World renaming shape?->br
open Go.Result renaming ok->b7
open Go.Op renaming twoPlaces->cf
namespace Go.Eu
def kz (P:Program)(s:N)(i:Nat):Bool:=match P.underlying s with
 |some (.struct fs)=>match fs[i]? with
  |some f=>match P.info? f.type with
   |some x=>x.size != 0
   |none=>cq
  |none=>cq
 |_=>cq
section
variable {P:ED} {S:Fy} {Ck:Code->Prop} {G:Nat} {β:Em}
def pB (t:N):Ed P S Ck G β (sizeOf t) (sizeOf t) (λ_ a A=>a=A/\∃x,P.a.info? t=F x/\x.size=a):=by
 refine DX (bm t) ?_;rintro D6 a A _ ⟨rfl,h⟩;exact DY ⟨rfl,_,h,rfl⟩
def lG {a A:b8}(h:E0 β a A)(f:Field)(hf:∀x,P.a.info? f.type=F x->x.size≠0):Ed P S Ck G β (fieldPlace a f) (fieldPlace A f) (λD6 x X=>E0 D6 x X):=by
 refine DX (pB _) ?_;rintro D6 n _ zX ⟨rfl,x,h1,h2⟩;split
 .rename_i h0;exact AI (h2.trans h0) (hf x h1)
 .exact DY ((h.mono zX).add _)
def pC (s:N){v V:I}(h:DZ S β v V)(i:Nat)(hf:kz P.a s i=cq):Ed P S Ck G β (c0 s v i) (c0 s V i) (λD6 x X=>DZ S D6 x X):=by
 refine DX (am _) ?_;rintro D6 d _ zX ⟨rfl,hd⟩;split
 .rename_i fs;split
  .rename_i f he;refine DX (de (h.mono zX)) ?_;intro a6 a A _ ha;refine DX (lG ha _ ?_) ?_
   .intro x hx;simp only[kz,hd,he,hx] at hf;simpa using hf
   .intro a7 x X _ hx;exact DY hx.ptr
  .exact D7
 .exact D7
def iM (t:N)(k:dy)(i:Int)(base:Option b8)(len:Nat)(elem:N):Sem Value:=do
 let a6:=len<=1&&(match<-underlying t with|.array ..=>cq|_=>bc)
 match base with
 |some a =>
  if 0<=i/\i<len then pure (.pointer (F (a.add (i.toNat*(<-sizeOf elem)))))
  else if a6 then bo (.noEntry "op/indexAddr.an index out of range at an array of length 0 or 1 (ledger 616)")
  else boundsPanic k i len .index
 |none=>boundsPanic k i 0 .index
inductive IM (β:Em):Option b8->Option b8->Prop
 |none:IM β bn bn
 |some {a A:b8}:E0 β a A->IM β (F a) (F A)
def gn (t:N)(k:dy)(i:Int){b B:Option b8}(hb:IM β b B)(len:Nat)(elem:N):Ed P S Ck G β (iM t k i b len elem) (iM t k i B len elem) (λD6 y Y=>DZ S D6 y Y):=by
 refine DX (am _) ?_;rintro D6 d _ zX ⟨rfl,_⟩;dsimp only;cases hb with
 |none=>exact Fs _ _ _ _
 |some ha =>
  dsimp only;split
  .refine DX (aK _) ?_;rintro a7 n _ a6 rfl;exact DY (((ha.mono zX).mono a6).add _).ptr
  .cases d<;>dsimp only<;>split<;>first|exact Fs _ _ _ _|exact Eb (λg e=>by cases e)
def nz (t:N)(k:dy)(i:Int){b B:b8}(elem:N):Ed P S Ck G β (iM t k i (F b) 0 elem) (iM t k i (F B) 0 elem) (λD6 y Y=>DZ S D6 y Y):=by
 refine DX (am _) ?_;rintro D6 d _ zX ⟨rfl,_⟩;dsimp only;split
 .exfalso;omega
 .cases d<;>dsimp only<;>split<;>first|exact Fs _ _ _ _|exact Eb (λg e=>by cases e)
def pD (t:N){v V x X:I}(h:DZ S β v V)(hx:DZ S β x X):Ed P S Ck G β (df t v x) (df t V X) (λD6 y Y=>DZ S D6 y Y):=by
 refine DX (dE hx) ?_;rintro a8 ⟨k,i⟩ _ a6 rfl;refine DX (am _) ?_;rintro aA d _ a7 ⟨rfl,_⟩;have h2:=(h.mono a6).mono a7;cases d with
 |array len elem =>
  refine DX (de h2) ?_;intro aB a A _ ha;exact gn t k i (.some ha) len elem
 |slice elem =>
  cases h2 with
  |GL l c=>exact gn t k i .none l elem
  |slice o s l c hb=>exact gn t k i (.some (E0.mk (a:=⟨_,o,s⟩) (A:=⟨_,o,s⟩) hb rfl rfl)) l elem
  |Fb _=>exact nz t k i elem
  |_=>exact λ_ _ _ _ _ _ _ _=>trivial
 |_=>exact λ_ _ _ _ _ _ _ _=>trivial
def dh {x X:I}(hx:DZ S β x X)(y:Nat)(c:BoundsCode):Ed P S Ck G β (J x y c) (J X y c) (λ_ a A=>a=A):=by
 refine DX (dE hx) ?_;rintro a7 ⟨k,i⟩ _ a6 rfl;dsimp only;split
 .exact DY rfl
 .exact Fs _ _ _ _
inductive GI (S:Fy)(β:Em):Option I->Option I->Prop
 |none:GI S β bn bn
 |some {a A:I}:DZ S β a A->GI S β (F a) (F A)
def GI.mono {D6:Em}(h:β.le D6){a A:Option I}(r:GI S β a A):GI S D6 a A:=by
 cases r with
 |none=>exact .none
 |some r=>exact .some (r.mono h)
def bY (sl:Bool)(len cap:Nat){l L h H m M:Option I}(hl:GI S β l L)(hh:GI S β h H)(hm:GI S β m M) :
  Ed P S Ck G β (bh sl len cap l h m) (bh sl len cap L H M) (λ_ a A=>a=A):=by
 unfold bh;have e1:m.isSome=M.isSome:=by cases hm<;>rfl
 have low : ∀ (D6 : Em) (m' h' : Nat), β.le D6 -> Ed P S Ck G D6 (do
   let l<-match l with
    |some v=>J v h' (if m.isSome then .slice3C else .sliceB)
    |none=>pure 0
   pure (l,h',m')) (do
   let l<-match L with
    |some v=>J v h' (if M.isSome then .slice3C else .sliceB)
    |none=>pure 0
   pure (l,h',m')) (λ_ a A=>a=A):=by
  intro D6 m' h' zX;rw[e1];cases hl with
  |none=>exact DX (DY (R:=λ_ a A=>a=A) rfl) (by rintro a6 a _ _ rfl;exact DY rfl)
  |some hv=>exact DX (dh (hv.mono zX) _ _) (by rintro a6 a _ _ rfl;exact DY rfl)
 have a7 : ∀ (D6 : Em) (m' : Nat), β.le D6 -> Ed P S Ck G D6 (do
   let h'<-match h,m with
    |some v,F _=>J v m' .slice3B
    |some v,bn=>J v m' (if sl then .sliceAcap else .sliceAlen)
    |none,bn=>pure len
    |none,F _=>stuck "Slice: max without high"
   let l<-match l with
    |some v=>J v h' (if m.isSome then .slice3C else .sliceB)
    |none=>pure 0
   pure (l,h',m')) (do
   let h'<-match H,M with
    |some v,F _=>J v m' .slice3B
    |some v,bn=>J v m' (if sl then .sliceAcap else .sliceAlen)
    |none,bn=>pure len
    |none,F _=>stuck "Slice: max without high"
   let l<-match L with
    |some v=>J v h' (if M.isSome then .slice3C else .sliceB)
    |none=>pure 0
   pure (l,h',m')) (λ_ a A=>a=A):=by
  intro D6 m' zX;cases hm with
  |none =>
   cases hh with
   |none=>exact DX (DY (R:=λ_ a A=>a=A) rfl) (by rintro a6 a _ h2 rfl;exact low a6 _ _ (Em.le_trans zX h2))
   |some hv=>exact DX (dh (hv.mono zX) _ _) (by rintro a6 a _ h2 rfl;exact low a6 _ _ (Em.le_trans zX h2))
  |some hw =>
   cases hh with
   |none=>exact λ_ _ _ _ _ _ _ _=>trivial
   |some hv=>exact DX (dh (hv.mono zX) _ _) (by rintro a6 a _ h2 rfl;exact low a6 _ _ (Em.le_trans zX h2))
 cases hm with
 |none=>exact DX (DY (R:=λ_ a A=>a=A) rfl) (by rintro a6 a _ h2 rfl;exact a7 a6 _ h2)
 |some hv=>exact DX (dh hv _ _) (by rintro a6 a _ h2 rfl;exact a7 a6 _ h2)
def cW {x X:I}(hx:DZ S β x X)(c:BoundsCode):Ed P S Ck G β (J x 0 c) (J X 0 c) (λ_ a A=>a=0/\A=0):=by
 refine DX (dE hx) ?_;rintro a7 ⟨k,i⟩ _ a6 rfl;dsimp only;split
 .exact DY ⟨by omega,by omega⟩
 .exact Fs _ _ _ _
def jG (sl:Bool){l L h H m M:Option I}(hl:GI S β l L)(hh:GI S β h H)(hm:GI S β m M) :
  Ed P S Ck G β (bh sl 0 0 l h m) (bh sl 0 0 L H M) (λ_ a A=>a=(0,0,0)/\A=(0,0,0)):=by
 unfold bh;have e1:m.isSome=M.isSome:=by cases hm<;>rfl
 have low : ∀ (D6 : Em), β.le D6 -> Ed P S Ck G D6 (do
   let l<-match l with
    |some v=>J v 0 (if m.isSome then .slice3C else .sliceB)
    |none=>pure 0
   pure (l,0,0)) (do
   let l<-match L with
    |some v=>J v 0 (if M.isSome then .slice3C else .sliceB)
    |none=>pure 0
   pure (l,0,0)) (λ_ a A=>a=(0,0,0)/\A=(0,0,0)):=by
  intro D6 zX;rw[e1];cases hl with
  |none=>exact DX (DY (R:=λ_ a A=>a=0/\A=0) ⟨rfl,rfl⟩) (by rintro a6 _ _ _ ⟨rfl,rfl⟩;exact DY ⟨rfl,rfl⟩)
  |some hv=>exact DX (cW (hv.mono zX) _) (by rintro a6 _ _ _ ⟨rfl,rfl⟩;exact DY ⟨rfl,rfl⟩)
 have a7 : ∀ (D6 : Em), β.le D6 -> Ed P S Ck G D6 (do
   let h'<-match h,m with
    |some v,F _=>J v 0 .slice3B
    |some v,bn=>J v 0 (if sl then .sliceAcap else .sliceAlen)
    |none,bn=>pure 0
    |none,F _=>stuck "Slice: max without high"
   let l<-match l with
    |some v=>J v h' (if m.isSome then .slice3C else .sliceB)
    |none=>pure 0
   pure (l,h',0)) (do
   let h'<-match H,M with
    |some v,F _=>J v 0 .slice3B
    |some v,bn=>J v 0 (if sl then .sliceAcap else .sliceAlen)
    |none,bn=>pure 0
    |none,F _=>stuck "Slice: max without high"
   let l<-match L with
    |some v=>J v h' (if M.isSome then .slice3C else .sliceB)
    |none=>pure 0
   pure (l,h',0)) (λ_ a A=>a=(0,0,0)/\A=(0,0,0)):=by
  intro D6 zX;cases hm with
  |none =>
   cases hh with
   |none=>exact DX (DY (R:=λ_ a A=>a=0/\A=0) ⟨rfl,rfl⟩) (by rintro a6 _ _ h2 ⟨rfl,rfl⟩;exact low a6 (Em.le_trans zX h2))
   |some hv=>exact DX (cW (hv.mono zX) _) (by rintro a6 _ _ h2 ⟨rfl,rfl⟩;exact low a6 (Em.le_trans zX h2))
  |some hw =>
   cases hh with
   |none=>exact λ_ _ _ _ _ _ _ _=>trivial
   |some hv=>exact DX (cW (hv.mono zX) _) (by rintro a6 _ _ h2 ⟨rfl,rfl⟩;exact low a6 (Em.le_trans zX h2))
 cases hm with
 |none=>exact DX (DY (R:=λ_ a A=>a=0/\A=0) ⟨rfl,rfl⟩) (by rintro a6 _ _ h2 ⟨rfl,rfl⟩;exact a7 a6 h2)
 |some hv=>exact DX (cW hv _) (by rintro a6 _ _ h2 ⟨rfl,rfl⟩;exact a7 a6 h2)
def eh {v V:I}(h:DZ S β v V):Ed P S Ck G β (asAddr v) (asAddr V) (λD6 a A=>E0 D6 a A):=by
 cases h with
 |ptr o s hb=>exact DY ⟨hb,rfl,rfl⟩
 |Hc=>exact az .nilDeref trivial
 |_=>exact D7
def tE (t:N){x X:I}(hx:DZ S β x X){l L h H m M:Option I}(hl:GI S β l L)(hh:GI S β h H)(hm:GI S β m M) :
  Ed P S Ck G β (ea t x l h m) (ea t X L H M) (λD6 a A=>DZ S D6 a A):=by
 refine DX (am _) ?_;rintro aD d _ zX ⟨rfl,_⟩;have e1:m.isSome=M.isSome:=by cases hm<;>rfl
 replace hx:=hx.mono zX;cases d with
 |string =>
  cases hx with
  |string s =>
   dsimp only;rw[e1];split
   .exact λ_ _ _ _ _ _ _ _=>trivial
   .refine DX (bY _ _ _ (hl.mono zX) (hh.mono zX) .none) ?_;rintro a8 ⟨a,b,c⟩ _ _ rfl;exact DY (.string _)
  |_=>exact D7
 |slice e =>
  cases hx with
  |GL len cap =>
   refine DX (bY _ _ _ (hl.mono zX) (hh.mono zX) (hm.mono zX)) ?_;rintro a8 ⟨a,b,c⟩ _ _ rfl;refine DX (aK _) ?_;rintro aA n _ _ rfl;refine DY ?_;split
   .exact .GL _ _
   .exact .GL _ _
  |slice o s len cap hb =>
   refine DX (bY _ _ _ (hl.mono zX) (hh.mono zX) (hm.mono zX)) ?_;rintro a8 ⟨a,b,c⟩ _ a7 rfl;refine DX (aK _) ?_;rintro aA n _ a6 rfl;refine DY ?_;split
   .exact .slice _ _ _ _ (a6 _ _ (a7 _ _ hb))
   .exact E0.sl (E0.add (E0.mk (a:=⟨_,o,s⟩) (A:=⟨_,o,s⟩) (a6 _ _ (a7 _ _ hb)) rfl rfl) _) _ _
  |Fb h0 =>
   refine DX (jG _ (hl.mono zX) (hh.mono zX) (hm.mono zX)) ?_;rintro a8 _ _ a7 ⟨rfl,rfl⟩;refine DX (aK _) ?_;rintro aA n _ a6 rfl;exact DY (.Fb h0)
  |_=>exact D7
 |pointer arr =>
  refine DX (eh hx) ?_;intro a8 a A a7 ha;refine DX (am _) ?_;rintro aA d _ a6 ⟨rfl,_⟩;cases d with
  |array n elem =>
   refine DX (bY _ _ _ ((((hl.mono zX).mono a7)).mono a6) ((((hh.mono zX).mono a7)).mono a6) ((((hm.mono zX).mono a7)).mono a6)) ?_;rintro aF ⟨a,b,c⟩ _ aB rfl;refine DX (aK _) ?_;rintro aG n _ aC rfl;have ha':=((ha.mono a6).mono aB).mono aC;refine DY ?_;split
   .exact ha'.sl _ _
   .exact(ha'.add _).sl _ _
  |_=>exact λ_ _ _ _ _ _ _ _=>trivial
 |_=>exact λ_ _ _ _ _ _ _ _=>trivial
def pE (t:N){x X:I}(hx:DZ S β x X){l L h H m M:Option I}(hl:GI S β l L)(hh:GI S β h H)(hm:GI S β m M) :
  Ed P S Ck G β (dn t x l h m) (dn t X L H M) (λD6 a A=>DZ S D6 a A):=by
 refine DX (am _) ?_;rintro aA d _ zX ⟨rfl,_⟩;cases d with
 |array n elem =>
  refine DX (de (hx.mono zX)) ?_;intro aB a A a6 ha;refine DX (bY _ _ _ ((hl.mono zX).mono a6) ((hh.mono zX).mono a6) ((hm.mono zX).mono a6)) ?_;rintro aC ⟨a,b,c⟩ _ a7 rfl;refine DX (aK _) ?_;rintro aD n _ a8 rfl;have ha':=(ha.mono a7).mono a8;refine DY ?_;split
  .exact ha'.sl _ _
  .exact(ha'.add _).sl _ _
 |_=>exact tE t (hx.mono zX) (hl.mono zX) (hh.mono zX) (hm.mono zX)
def tF (t:N){x X:I}(hx:DZ S β x X)(i:Nat):Ed P S Ck G β (eb t x i) (eb t X i) (λD6 a A=>DZ S D6 a A):=by
 refine DX (am _) ?_;rintro a6 d _ zX ⟨rfl,_⟩;cases d with
 |struct fs =>
  dsimp only;split
  .refine DX (tD (hx.mono zX)) ?_;intro a7 c C _ hc;exact cD _ hc _
  .exact D7
 |_=>exact λ_ _ _ _ _ _ _ _=>trivial
def tG (t:N){v V x X:I}(h:DZ S β v V)(hx:DZ S β x X):Ed P S Ck G β (ed t v x) (ed t V X) (λD6 y Y=>DZ S D6 y Y):=by
 refine DX (dE hx) ?_;rintro aA ⟨k,i⟩ _ a6 rfl;refine DX (am _) ?_;rintro aB d _ a7 ⟨rfl,_⟩;have h2:=(h.mono a6).mono a7;cases d with
 |array len elem =>
  cases h2 with
  |agg h1 h2 =>
   dsimp only;split
   .refine DX (aK _) ?_;rintro aC n _ a8 rfl;exact cD _ (D8.mono a8 ⟨h1,h2⟩) _
   .exact Fs _ _ _ _
  |_=>exact D7
 |string =>
  cases h2 with
  |string s =>
   dsimp only;split
   .exact DY (.int _ _)
   .exact Fs _ _ _ _
  |_=>exact D7
 |_=>exact λ_ _ _ _ _ _ _ _=>trivial
def gX {α γ:Type}{f:α->Sem γ}(h:∀x β,Ed P S Ck G β (f x) (f x) (λ_ a A=>a=A)):∀(l:List α) (β:Em),Ed P S Ck G β (l.mapM f) (l.mapM f) (λ_ a A=>a=A)
 |[],β=>by simp only[List.mapM_nil];exact DY rfl
 |x::l,β=>by
  simp only[List.mapM_cons];refine DX (h x β) ?_;rintro a6 a _ _ rfl;refine DX (gX h l a6) ?_;rintro a7 b _ _ rfl;exact DY rfl
end
section
variable {P:ED} {S:Fy} {Ck:Code->Prop} {G:Nat} {β:Em}
inductive F0 (S:Fy)(β:Em):List (Nat×I)->List (Nat×I)->Prop
 |nil:F0 S β [] []
 |cons {i:Nat} {v V:I} {l L:List (Nat×I)}:DZ S β v V->F0 S β l L->F0 S β ((i,v)::l) ((i,V)::L)
def F0.mono {D6:Em}(h:β.le D6){l L:List (Nat×I)}(r:F0 S β l L):F0 S D6 l L:=by
 induction r with
 |nil=>exact .nil
 |cons v _ ih=>exact .cons (v.mono h) ih
def vK {c C:Array I}{l L:List I}(off k:Nat)(hc:D8 S β c C)(hl:E5 (DZ S β) l L) :
  D8 S β ((l.zipIdx k).foldl (λcs (x:I×Nat)=>cs.setIfInBounds (off+x.2) x.1) c) ((L.zipIdx k).foldl (λcs (x:I×Nat)=>cs.setIfInBounds (off+x.2) x.1) C):=by
 induction hl generalizing c C k with
 |nil=>exact hc
 |cons ha _ ih =>
  simp only[List.zipIdx_cons,B7];exact ih _ (hc.set _ ha)
inductive Mo (S:Fy)(β:Em):Option (Array I)->Option (Array I)->Prop
 |none:Mo S β bn bn
 |some {a A:Array I}:D8 S β a A->Mo S β (F a) (F A)
def jm (place:Nat->Option (Nat×Nat)){l L:List (Nat×I)}(hl:F0 S β l L){c C:Array I}(hc:D8 S β c C) :
  Mo S β (bl place c l) (bl place C L):=by
 induction hl generalizing c C with
 |nil=>exact .some hc
 |@cons i v V l L hv _ ih =>
  simp only[bl];cases place i with
  |none=>exact .none
  |some os =>
   obtain⟨off,size⟩:=os;dsimp only;rw[hv.cells.size,hc.size];split
   .exact .none
   .refine ih ?_;have h1:=vK (S:=S) (β:=β) off 0 hc hv.cells.toList;have e:∀(w:I) (c:Array I),w.cells.zipIdx.foldl (λcs x=>match x with|(c,j)=>cs.setIfInBounds (off+j) c) c=(w.cells.toList.zipIdx 0).foldl (λcs (x:I×Nat)=>cs.setIfInBounds (off+x.2) x.1) c:=by
     intro w c;rw[<-De];simp
    rw[e,e];exact h1
def tH (t:N)(hz:bX P.a t=cq){l L:Array (Nat×I)}(hl:F0 S β l.toList L.toList):Ed P S Ck G β (ek t l) (ek t L) (λD6 a A=>DZ S D6 a A):=by
 refine DX (cM hz) ?_;rintro aC z _ a8 ⟨rfl,hz⟩;refine DX (am _) ?_;rintro aB d _ a7 ⟨rfl,_⟩;cases d with
 |struct fs =>
  refine DX (R:=λ_ a A=>a=A) ?_ ?_
  .rw[Da];have:=gX (P:=P) (S:=S) (Ck:=Ck) (G:=G) (f:=λ(f:Field)=>do pure (f.offset,<-sizeOf f.type)) (λx β=>DX (aK _) (by rintro aA n _ _ rfl;exact DY rfl)) fs.toList aB;exact DX this (by rintro aA n _ _ rfl;exact DY rfl)
  .rintro aA places _ a6 rfl;have h:=jm (λi=>places[i]?) ((hl.mono a8).mono a7 |>.mono a6) ((hz.mono a7).mono a6).cells;revert h;generalize bl (λi=>places[i]?) z.cells l.toList=x;generalize bl (λi=>places[i]?) z.cells L.toList=X;intro h;cases h with
   |none=>exact λ_ _ _ _ _ _ _ _=>trivial
   |some h=>exact DY h.agg
 |array n elem =>
  refine DX (aK _) ?_;rintro aA size _ a6 rfl;have h:=jm (λi=>F (i*size,size)) ((hl.mono a8).mono a7 |>.mono a6) ((hz.mono a7).mono a6).cells;revert h;generalize bl (λi=>F (i*size,size)) z.cells l.toList=x;generalize bl (λi=>F (i*size,size)) z.cells L.toList=X;intro h;cases h with
  |none=>exact λ_ _ _ _ _ _ _ _=>trivial
  |some h=>exact DY h.agg
 |_=>exact λ_ _ _ _ _ _ _ _=>trivial
def gY {z:Array I}(h:D8 S β z z)(n:Nat):D8 S β ((bk n).map (z[· % z.size]!)) ((bk n).map (z[· % z.size]!)):=by
 refine D8.map _ λi _=>?_;by_cases hz:i % z.size<z.size
 .rw[getElem!_pos z _ hz];exact h.at_ _ _ _ (AK hz) (AK hz)
 .rw[getElem!_neg z _ hz];exact DZ.bool bc
def lH (t:N)(n:Nat)(hz:∀e,P.a.underlying t=F (.slice e)->bX P.a e=cq){l L:Array (Nat×I)}(hl:F0 S β l.toList L.toList) :
  Ed P S Ck G β (cE t n l) (cE t n L) (λD6 a A=>DZ S D6 a A):=by
 refine DX (am _) ?_;rintro aC d _ a7 ⟨rfl,hd⟩;cases d with
 |slice e =>
  refine DX (aK _) ?_;rintro aB size _ a8 rfl
  have key : ∀ (D6 : Em) (z : Array I), aB.le D6 -> D8 S D6 z z -> Ed P S Ck G D6 (do
    let F cells:=bl (λi=>F (i*size,size)) ((bk (n*size)).map (z[· % z.size]!)) l.toList
     |stuck "buildSlice: a part of the wrong size"
    pure (.slice (F (<-newRow e cells)) n n):Sem I) (do
    let F cells:=bl (λi=>F (i*size,size)) ((bk (n*size)).map (z[· % z.size]!)) L.toList
     |stuck "buildSlice: a part of the wrong size"
    pure (.slice (F (<-newRow e cells)) n n):Sem I) (λD6 a A=>DZ S D6 a A):=by
   intro D6 z zX hz;have h:=jm (λi=>F (i*size,size)) ((hl.mono a7).mono a8 |>.mono zX) (gY hz (n*size));revert h;generalize bl (λi=>F (i*size,size)) ((bk (n*size)).map (z[· % z.size]!)) l.toList=x;generalize bl (λi=>F (i*size,size)) ((bk (n*size)).map (z[· % z.size]!)) L.toList=X;intro h;cases h with
   |none=>exact λ_ _ _ _ _ _ _ _=>trivial
   |some h =>
    refine DX (fD e h) ?_;intro a6 a A _ ha;exact DY (ha.sl _ _)
  dsimp only;by_cases h1:n*size > 2 ^ 24
  .simp only[AF h1];refine DX (R:=λ_ (_ _:Unit)=>False) ?_ (λ_ _ _ _ h=>h.elim);refine Eb ?_;intro g e;cases e
  .simp only[AD h1];by_cases h2:n*size=0
   .simp only[AF h2];exact DX (DY (R:=λD6 (a A:Array I)=>a=A/\D8 S D6 a a) ⟨rfl,Dq⟩) (by rintro a6 z _ zX ⟨rfl,h⟩;exact key _ _ zX h)
   .simp only[AD h2];refine DX (cM (hz e hd)) ?_;rintro a6 z _ aA ⟨rfl,h⟩;exact DX (DY (R:=λD6 (a A:Array I)=>a=A/\D8 S D6 a a) ⟨rfl,h.cells⟩) (by rintro aD z _ zX ⟨rfl,h⟩;exact key _ _ (Em.le_trans aA zX) h)
 |_=>exact λ_ _ _ _ _ _ _ _=>trivial
def jH (n:Nat):Ed P S Ck G β (askRoom n) (askRoom n) (λ_ _ _=>True):=by
 unfold askRoom;split
 .exact rh
 .exact DY trivial
def l6 (t:N)(hz:∀e,P.a.underlying t=F (.slice e)->bX P.a e=cq){l L c C:I}(hl:DZ S β l L)(hc:DZ S β c C) :
  Ed P S Ck G β (cL t l c) (cL t L C) (λD6 a A=>DZ S D6 a A):=by
 refine DX (am _) ?_;rintro aH d _ a6 ⟨rfl,hd⟩;cases d with
 |slice e =>
  refine DX (eU (hl.mono a6)) ?_;rintro aI len _ aA rfl;refine DX (eU ((hc.mono a6).mono aA)) ?_;rintro a7 cap _ aB rfl;refine DX (bm _) ?_;rintro aC info _ aD ⟨rfl,_⟩;dsimp only
  have key : ∀ D6 : Em, Ed P S Ck G D6 (do
    askRoom ((IntKind.i64.wrap cap).toNat*info.bytes)
    let n:=(IntKind.i64.wrap cap).toNat*(<-sizeOf e)
    let zero<-if n=0 then pure #[] else do pure (<-zeroValue e).cells
    let a<-newRow e ((bk n).map (zero[· % zero.size]!))
    pure (.slice (F a) (IntKind.i64.wrap len).toNat (IntKind.i64.wrap cap).toNat):Sem I) (do
    askRoom ((IntKind.i64.wrap cap).toNat*info.bytes)
    let n:=(IntKind.i64.wrap cap).toNat*(<-sizeOf e)
    let zero<-if n=0 then pure #[] else do pure (<-zeroValue e).cells
    let a<-newRow e ((bk n).map (zero[· % zero.size]!))
    pure (.slice (F a) (IntKind.i64.wrap len).toNat (IntKind.i64.wrap cap).toNat):Sem I) (λD6 a A=>DZ S D6 a A):=by
   intro D6;refine DX (jH _) ?_;rintro aJ _ _ aF _;refine DX (aK _) ?_;rintro β7 size _ aG rfl;dsimp only
   have fin : ∀ (D6 : Em) (z : Array I), D8 S D6 z z -> Ed P S Ck G D6 (do
     let a<-newRow e ((bk ((IntKind.i64.wrap cap).toNat*size)).map (z[· % z.size]!))
     pure (.slice (F a) (IntKind.i64.wrap len).toNat (IntKind.i64.wrap cap).toNat):Sem I) (do
     let a<-newRow e ((bk ((IntKind.i64.wrap cap).toNat*size)).map (z[· % z.size]!))
     pure (.slice (F a) (IntKind.i64.wrap len).toNat (IntKind.i64.wrap cap).toNat):Sem I) (λD6 a A=>DZ S D6 a A):=by
    intro D6 z h;refine DX (fD e (gY h _)) ?_;intro a7 a A _ ha;exact DY (ha.sl _ _)
   split
   .exact DX (DY (R:=λD6 (a A:Array I)=>a=A/\D8 S D6 a a) ⟨rfl,Dq⟩) (by rintro a7 z _ zX ⟨rfl,h⟩;exact fin _ _ h)
   .refine DX (cM (hz e hd)) ?_;rintro a7 z _ aB ⟨rfl,h⟩;exact DX (DY (R:=λD6 (a A:Array I)=>a=A/\D8 S D6 a a) ⟨rfl,h.cells⟩) (by rintro aC z _ zX ⟨rfl,h⟩;exact fin _ _ h)
  have a8:∀(D6:Em) (m:String) (k K:Unit->Sem I),Ed P S Ck G D6 (bb (.error m) >>= k) (bb (.error m) >>= K) (λD6 a A=>DZ S D6 a A):=λD6 m k K=>by
   refine DX (R:=λ_ _ _=>False) (az _ trivial) ?_;intro _ _ _ _ h;exact h.elim
  split
  .split
   .exact a8 _ _ _ _
   .split
    .exact a8 _ _ _ _
    .refine DX (fz _) ?_;rintro aL q _ _ rfl;exact a8 _ _ _ _
  .exact key _
 |_=>exact λ_ _ _ _ _ _ _ _=>trivial
def tI {v V:I}(h:DZ S β v V):Ed P S Ck G β (b6 v) (b6 V) (λ_ a A=>a=A/\∀x,v=.slice (F x) 0 0->a=0):=by
 cases h with
 |string s=>exact DY ⟨rfl,λx e=>by cases e⟩
 |GL l c=>exact DY ⟨rfl,λx e=>by cases e⟩
 |slice o s l c hb=>exact DY ⟨rfl,λx e=>by cases e;rfl⟩
 |Fb _=>exact DY ⟨rfl,λ_ _=>rfl⟩
 |_=>exact D7
def ew (size n:Nat){v V:I}(h:DZ S β v V)(h0:∀x,v=.slice (F x) 0 0->n=0):Ed P S Ck G β (U size n v) (U size n V) (λD6 a A=>D8 S D6 a A):=by
 cases h with
 | string s => exact DY ⟨rfl, fun i v V h1 h2 => by
   rw[h1] at h2;cases h2;rw[BG] at h1;cases hb:(s.extract 0 n).data[i]? with
   |none=>rw[hb] at h1;cases h1
   |some b=>rw[hb] at h1;cases h1;exact .int _ _⟩
 |GL l c=>exact DY Dq
 |slice o s l c hb=>exact gV (E0.mk (a:=⟨_,o,s⟩) (A:=⟨_,o,s⟩) hb rfl rfl) _
 |Fb _ =>
  obtain rfl:=h0 _ rfl;unfold U;dsimp only;rw[Nat.zero_mul];exact DY Dq
 |_=>exact D7
def kB (size:Nat){v V:I}(h:DZ S β v V):Ed P S Ck G β (U size 0 v) (U size 0 V) (λ_ a A=>a=#[]/\A=#[]):=by
 cases h with
 |string s =>
  have e:((s.extract 0 0).data.map λb=>Value.int .u8 b.toNat)=#[]:=Array.eq_empty_of_size_eq_zero (by rw[Array.size_map];simp[ByteArray.extract,ByteArray.copySlice]);exact DY ⟨e,e⟩
 |GL l c=>exact DY ⟨rfl,rfl⟩
 |slice o s l c hb =>
  unfold U;dsimp only;rw[Nat.zero_mul];exact DY ⟨rfl,rfl⟩
 |Fb _ =>
  unfold U;dsimp only;rw[Nat.zero_mul];exact DY ⟨rfl,rfl⟩
 |_=>exact D7
def IM.mono {β D6:Em}(h:β.le D6){b B:Option b8}(r:IM β b B):IM D6 b B:=by
 cases r with
 |none=>exact .none
 |some r=>exact .some (r.mono h)
def Hq {α Hd:Type}{m:Sem α}{M:Sem Hd}{R:Em->α->Hd->Prop}(h:∀w es,∃u w' es',m.runT P.a w es=(.halt (.unsupported u) w',es')/\∀g,u≠.initOrder g):Ed P S Ck G β m M R:=by
 intro w W n hw ht a6 a7 hb;obtain⟨u,w',es',h1,h2⟩:=h w a6;rw[h1];exact h2
def KG (a:b8)(n:Nat)(w:World)(es:Array Event):∃b,(bW a n).runT P.a w es=(.ok b w,es):=by
 unfold bW;rw[aj];have e:(shape a.block).runT P.a w es=(.ok (w.shape? a.block) w,es):=rfl;rw[e];dsimp only;cases w.shape? a.block with
 |none=>exact⟨_,rfl⟩
 |some x=>exact⟨_,rfl⟩
def K5 (size l n:Nat)(b:Option b8)(x:I)(w:World)(es:Array Event):∃r,(bq size l n b x).runT P.a w es=(.ok r w,es):=by
 have k : ∀ r : Bool, ∃ r', (if !r then pure cq else match x with
   |.slice (F c) _ _=>do pure (!(<-bW c (n*size))||b.any (·.block==c.block))
   |_=>pure bc:Sem Bool).runT P.a w es=(.ok r' w,es):=by
  intro r;cases r with
  |false=>exact⟨cq,rfl⟩
  |true =>
   simp only[Bool.not_true,AZ,if_false];split
   .rw[aj];obtain⟨h,e⟩:=KG (P:=P) ‹b8› (n*size) w es;rw[e];exact⟨_,rfl⟩
   .exact⟨_,rfl⟩
 unfold bq;cases b with
 |none=>exact k cq
 |some a =>
  dsimp only;rw[aj];obtain⟨h,e⟩:=KG (P:=P) a (l*size) w es;rw[e];dsimp only;rw[aj];have e:(frozen (a.add (l / 2*size))).runT P.a w es=(.ok (w.frozen? (a.add (l / 2*size))) w,es):=rfl;rw[e];exact k _
def nB {α:Type}(size l n:Nat)(b:Option b8)(x:I)(why:Unsupported)(hw:∀g,why≠.initOrder g)(k:Unit->Sem α)(w:World)(es:Array Event) :
    ∃ u w' es', ((do if !(<- bq size l n b x) then mark .noRoom
                     bo why) >>= k:Sem α).runT P.a w es=(.halt (.unsupported u) w',es')/\∀g,u≠.initOrder g:=by
  rw[aj,aj];obtain⟨r,e⟩:=K5 (P:=P) size l n b x w es;rw[e];cases r with
  |true=>exact⟨why,w,es,rfl,hw⟩
  |false=>exact⟨why,w,es.push ⟨.mark .noRoom,bc,cq⟩,rfl,hw⟩
def rj (ts:Array N)(t:N)(hz:∀e s,ts[0]?=F s->P.a.underlying s=F (.slice e)->bX P.a e=cq)(hni:∀x k,ts[1]?=F x->P.a.underlying x≠F (.int k)){a A:Array I}(h:D8 S β a A) :
    Ed P S Ck G β (ck ts t a) (ck ts t A) (λD6 v V=>DZ S D6 v V):=by
  unfold ck;cases ht:ts[0]? with
  |none=>exact D7
  |some t0 =>
    cases ha:a[0]? with
    |none=>exact D7
    |some s =>
      obtain⟨Sv,hS,hs⟩:=h.get? ha;rw[hS];cases hb:a[1]? with
      |none=>exact D7
      |some x =>
        obtain⟨X,hX,hx⟩:=h.get? hb;rw[hX];dsimp only;refine DX (am _) ?_;rintro a8 d _ aI ⟨rfl,hd⟩;replace hs:=hs.mono aI;replace hx:=hx.mono aI;cases d with
        |slice e =>
          have hze:=hz e t0 ht hd
          have tail : ∀ (D6 : Em) (b B : Option b8) (l c : Nat), a8.le D6 -> (IM D6 b B ∨ l = 0 ∧ c = 0) -> DZ S D6 (.slice b l c) (.slice B l c) -> Ed P S Ck G D6 (do
              let size<-sizeOf e
              let zeros<-match ts[1]? with
                |some aC=>do pure ((<-underlying aC) matches .int _)
                |none=>pure bc
              let n <- if zeros then do
                  let l:=IntKind.i64.wrap (<-asInt x)
                  if l<0 then bb (.error "makeslice: len out of range")
                  if l*(<-typeInfo e).bytes > 2 ^ 48 then
                    let made<-choose (.extern "append.ofMake.carriedOut" 2)
                    bb (.error (if made==1 then "makeslice: len out of range" else "growslice: len out of range"))
                  pure l.toNat
                else b6 x
              let appended:Sem (Array I) :=
                if !zeros then U size n x
                else if n*size=0 then pure #[]
                else do pure (E (<-zeroValue e).cells n)
              let need:=l+n
              if need<=c then
                let new<-appended
                if let F a:=b then storeCells (a.add (l*size)) new.toList
                pure (.slice b need c)
              else
                if(need:Int) > IntKind.i64.max/\(zeros\/(<-typeInfo e).bytes=0) then bb (.error "growslice: len out of range")
                if bA need c*(<-typeInfo e).bytes > 2 ^ 48 then(if zeros then bb (.error "growslice: len out of range") else do
                  if !(<-bq size l n b x) then mark .noRoom
                  bo (.resourceLimit "append: a slice or a string whose bytes no memory bears"))
                let a6<-choose (.appendCap need c e)
                askRoom (a6*(<-typeInfo e).bytes)
                let old<-U size l (.slice b l c)
                let new<-appended
                let rest:=E (<-zeroValue e).cells (a6-need)
                pure (.slice (F (<-newRow e (old++new++rest))) need a6):Sem I) (do
              let size<-sizeOf e
              let zeros<-match ts[1]? with
                |some aC=>do pure ((<-underlying aC) matches .int _)
                |none=>pure bc
              let n <- if zeros then do
                  let l:=IntKind.i64.wrap (<-asInt X)
                  if l<0 then bb (.error "makeslice: len out of range")
                  if l*(<-typeInfo e).bytes > 2 ^ 48 then
                    let made<-choose (.extern "append.ofMake.carriedOut" 2)
                    bb (.error (if made==1 then "makeslice: len out of range" else "growslice: len out of range"))
                  pure l.toNat
                else b6 X
              let appended:Sem (Array I) :=
                if !zeros then U size n X
                else if n*size=0 then pure #[]
                else do pure (E (<-zeroValue e).cells n)
              let need:=l+n
              if need<=c then
                let new<-appended
                if let F a:=B then storeCells (a.add (l*size)) new.toList
                pure (.slice B need c)
              else
                if(need:Int) > IntKind.i64.max/\(zeros\/(<-typeInfo e).bytes=0) then bb (.error "growslice: len out of range")
                if bA need c*(<-typeInfo e).bytes > 2 ^ 48 then(if zeros then bb (.error "growslice: len out of range") else do
                  if !(<-bq size l n B X) then mark .noRoom
                  bo (.resourceLimit "append: a slice or a string whose bytes no memory bears"))
                let a6<-choose (.appendCap need c e)
                askRoom (a6*(<-typeInfo e).bytes)
                let old<-U size l (.slice B l c)
                let new<-appended
                let rest:=E (<-zeroValue e).cells (a6-need)
                pure (.slice (F (<-newRow e (old++new++rest))) need a6):Sem I) (λD6 v V=>DZ S D6 v V):=by
            intro D6 b B l c zX ob hs;refine DX (aK _) ?_;rintro aY size _ aD rfl;have hx2:=(hx.mono zX).mono aD;have hs2:=hs.mono aD;have aJ:IM aY b B\/l=0/\c=0:=ob.imp (·.mono aD) λh=>h;dsimp only;rcases h1:ts[1]? with _|xt
            all_goals first
              |refine DX (R:=λ_ (a A:Bool)=>a=bc/\A=bc) (DY ⟨rfl,rfl⟩) ?_
              | (refine DX (am _) ?_
                 rintro aT d _ aF ⟨rfl, hd⟩;replace hx2 := hx2.mono aF;replace hs2 := hs2.mono aF;replace aJ : IM aT b B ∨ l = 0 ∧ c = 0 := aJ.imp (·.mono aF) fun h => h
                 refine DX (R := fun _ (a A : Bool) => a = bc ∧ A = bc) (DY (by cases d with
                   | int k => exact AI hd (hni xt k h1)
                   |_=>exact⟨rfl,rfl⟩)) ?_)
            all_goals
              rintro aZ z Z aG ⟨rfl,rfl⟩;simp only[AZ,if_false,Bool.not_false,if_true,false_or];have hx3:=hx2.mono aG;have hs3:=hs2.mono aG;refine DX (tI hx3) ?_;rintro aQ n _ aH ⟨rfl,aR⟩;replace hx3:=hx3.mono aH;replace hs3:=hs3.mono aH;have aL:IM aQ b B\/l=0/\c=0:=aJ.imp (λh=>(h.mono aG).mono aH) λh=>h;by_cases hn:l+n<=c
              · simp only[AF hn]
                obtain aL|⟨rfl,rfl⟩:=aL
                · refine DX (ew _ _ hx3 aR) ?_
                  intro aB y Y a7 hy;cases aL with
                  |none=>exact DY (.GL _ _)
                  |some aS =>
                    refine DX (gN ((aS.mono a7).add _) hy.toList 0) ?_;intro aM _ _ aA _;exact DY (((aS.mono a7).mono aA).sl _ _)
                · obtain rfl:n=0:=by omega
                  refine DX (kB size hx3) ?_
                  · rintro aB _ _ a7 ⟨rfl,rfl⟩
                    have hs5:=hs3.mono a7;cases b with
                    |none=>cases B with
                      |none=>exact DY hs5
                      |some B=>cases hs5
                    |some b=>cases B with
                      |none=>cases hs5
                      |some B=>exact DY hs5
              · simp only[AD hn]
                have fin : ∀ aB : Em, aQ.le aB -> Ed P S Ck G aB (do
                    let a6<-choose (.appendCap (l+n) c e)
                    askRoom (a6*(<-typeInfo e).bytes)
                    let old<-U size l (.slice b l c)
                    let new<-U size n x
                    let rest:=E (<-zeroValue e).cells (a6-(l+n))
                    pure (.slice (F (<-newRow e (old++new++rest))) (l+n) a6):Sem I) (do
                    let a6<-choose (.appendCap (l+n) c e)
                    askRoom (a6*(<-typeInfo e).bytes)
                    let old<-U size l (.slice B l c)
                    let new<-U size n X
                    let rest:=E (<-zeroValue e).cells (a6-(l+n))
                    pure (.slice (F (<-newRow e (old++new++rest))) (l+n) a6):Sem I) (λD6 v V=>DZ S D6 v V):=by
                  intro aB a7;refine DX (fz _) ?_;rintro aM nc _ aA rfl;refine DX (bm _) ?_;rintro β7 info _ aU ⟨rfl,_⟩;refine DX (jH _) ?_;intro β8 _ _ aV _;have l8:=Em.le_trans (Em.le_trans (Em.le_trans a7 aA) aU) aV;refine DX (ew _ _ (hs3.mono l8) λx e=>by injection e) ?_;intro β9 y Y aW hy;refine DX (ew _ _ ((hx3.mono l8).mono aW) aR) ?_;intro βa y' Y' aX hy'
                  refine DX (cM hze) ?_;rintro βb z _ aN ⟨rfl,hzv⟩;have aO:D8 S βb (E z.cells (nc-(l+n))) (E z.cells (nc-(l+n))):=gY hzv.cells _;refine DX (fD e ((((hy.mono aX).mono aN).append (hy'.mono aN)).append aO)) ?_;intro βc r R' _ hr;exact DY (hr.sl _ _)
                refine DX (bm _) ?_;rintro aB info _ a7 ⟨rfl,_⟩;by_cases zw:((l+n:Nat):Int) > IntKind.i64.max/\info.bytes=0
                · simp only[AF zw]
                  exact DX (R:=λ_ _ _=>False) (az _ trivial) (λ_ _ _ _ h=>h.elim)
                · simp only[AD zw]
                  refine DX (bm _) ?_;rintro aM aP _ aA ⟨rfl,_⟩;by_cases zt:bA (l+n) c*aP.bytes > 2 ^ 48
                  · simp only[AF zt]
                    refine Hq λw es=>?_;exact nB size l n b x _ (by intro g e;cases e) _ w es
                  · simp only[AD zt]
                    exact fin aM (Em.le_trans a7 aA)
          cases hs with
          |GL l c=>exact tail a8 bn bn l c a8.le_refl (.inl .none) (.GL _ _)
          |slice o s l c hb=>exact tail a8 (F _) (F _) l c a8.le_refl (.inl (.some (E0.mk (a:=⟨_,o,s⟩) (A:=⟨_,o,s⟩) hb rfl rfl))) (.slice _ _ _ _ hb)
          |Fb h0=>exact tail a8 (F _) (F _) 0 0 a8.le_refl (.inr ⟨rfl,rfl⟩) (.Fb h0)
          |_=>exact D7
        |_=>exact λ_ _ _ _ _ _ _ _=>trivial
def xM (ts:Array N)(t:N)(hc:∀t e d,ts[0]?=F t->P.a.underlying t≠F (.chan e d)){a A:Array I}(h:D8 S β a A):Ed P S Ck G β (cu ts t a) (cu ts t A) (λD6 v V=>DZ S D6 v V):=by
 unfold cu;cases ht:ts[0]? with
 |none=>exact D7
 |some t0 =>
  cases ha:a[0]? with
  |none=>exact D7
  |some x =>
   obtain⟨X,hX,hr⟩:=h.get? ha;rw[hX];refine DX (am _) ?_;rintro a6 d _ zX ⟨rfl,hd⟩;replace hr:=hr.mono zX;cases d with
   |string=>cases hr with
    |string s=>exact DY (.int _ _)
    |_=>exact D7
   |array n e=>exact DY (.int _ _)
   |pointer e =>
    refine DX (am _) ?_;rintro a7 d _ zX ⟨rfl,_⟩;cases d with
    |array n e=>exact DY (.int _ _)
    |_=>exact λ_ _ _ _ _ _ _ _=>trivial
   |slice e=>cases hr with
    |GL l c=>exact DY (.int _ _)
    |slice o s l c hb=>exact DY (.int _ _)
    |Fb _=>exact DY (.int _ _)
    |_=>exact D7
   |map k e=>cases hr with
    |GX=>exact DY (.int _ _)
    |_=>exact D7
   |chan e dir=>exact AI hd (hc _ _ _ ht)
   |_=>exact λ_ _ _ _ _ _ _ _=>trivial
def xN (ts:Array N)(t:N)(hc:∀t e d,ts[0]?=F t->P.a.underlying t≠F (.chan e d)){a A:Array I}(h:D8 S β a A):Ed P S Ck G β (cw ts t a) (cw ts t A) (λD6 v V=>DZ S D6 v V):=by
 unfold cw;cases ht:ts[0]? with
 |none=>exact D7
 |some t0 =>
  cases ha:a[0]? with
  |none=>exact D7
  |some x =>
   obtain⟨X,hX,hr⟩:=h.get? ha;rw[hX];refine DX (am _) ?_;rintro a6 d _ zX ⟨rfl,hd⟩;replace hr:=hr.mono zX;cases d with
   |array n e=>exact DY (.int _ _)
   |pointer e =>
    refine DX (am _) ?_;rintro a7 d _ zX ⟨rfl,_⟩;cases d with
    |array n e=>exact DY (.int _ _)
    |_=>exact λ_ _ _ _ _ _ _ _=>trivial
   |slice e=>cases hr with
    |GL l c=>exact DY (.int _ _)
    |slice o s l c hb=>exact DY (.int _ _)
    |Fb _=>exact DY (.int _ _)
    |_=>exact D7
   |chan e dir=>exact AI hd (hc _ _ _ ht)
   |_=>exact λ_ _ _ _ _ _ _ _=>trivial
def pF {v V:I}(h:DZ S β v V)(i:Nat):Ed P S Ck G β (cr v i) (cr V i) (λD6 v V=>DZ S D6 v V):=by
 cases h with
 |tuple h1 h2 =>
  rename_i x X;unfold cr;dsimp only;cases hx:x[i]? with
  |none=>exact D7
  |some v=>obtain⟨V,hV,hr⟩:=(D8.mk h1 h2).get? hx;rw[hV];exact DY hr
 |_=>exact D7
def tJ (t:N)(hz:bX P.a t=cq):Ed P S Ck G β (eo t cq (.tuple #[])) (eo t cq (.tuple #[])) (λD6 v V=>DZ S D6 v V):=by
 refine DX (cM hz) ?_;rintro a7 z _ a6 ⟨rfl,hz⟩;refine DX (gW t hz) ?_;intro a8 a A _ ha;exact DY ha.ptr
def xO (t:N){v V:I}(h:DZ S β v V):Ed P S Ck G β (er t v) (er t V) (λD6 v V=>DZ S D6 v V):=by
 refine DX (gW t h) ?_;intro a6 a A _ ha;exact DY ha.ptr
def rm (t:N){v V:I}(h:DZ S β v V):Ed P S Ck G β (dS t v) (dS t V) (λD6 v V=>DZ S D6 v V):=by
 refine DX (de h) ?_;intro a6 a A _ ha;exact jF t ha
def pG (t:N){v V x X:I}(h:DZ S β v V)(hx:DZ S β x X):Ed P S Ck G β (dr t v x) (dr t V X) (λ_ _ _=>True):=by
 refine DX (de h) ?_;intro a6 a A zX ha;exact ny t ha (hx.mono zX)
end
def He (P:Program)(t:N):Bool:=match P.underlying t with
 |some (.int _)|some .bool|some .string=>cq
 |_=>bc
def ED.cellsOf (P:ED)(t:N):P.b.cellsOf t=P.a.cellsOf t:=rfl
def ED.bytesOf (P:ED)(t:N):P.b.bytesOf t=P.a.bytesOf t:=rfl
def ED.depth (P:ED):P.b.depth=P.a.depth:=rfl
def ED.byteOfCell (P:ED)(d:Nat):∀t off,byteOfCell P.b d t off=byteOfCell P.a d t off:=by
 induction d with
 |zero=>exact λ_ _=>rfl
 |succ d ih =>
  have e:bs P.b d=bs P.a d:=funext λt=>funext λo=>ih t o;intro t off;unfold bs;rw[e]
  rfl
def ED.cellOfByte (P:ED)(d:Nat):∀t off,cellOfByte P.b d t off=cellOfByte P.a d t off:=by
 induction d with
 |zero=>exact λ_ _=>rfl
 |succ d ih =>
  have e:bw P.b d=bw P.a d:=funext λt=>funext λo=>ih t o;intro t off;unfold bw;rw[e]
  rfl
def ED.cellAtBytes (P:ED)(d:Nat)(e:N)(c o:Nat)(n:Int):cellAtBytes P.b d e c o n=cellAtBytes P.a d e c o n:=by
 have e1:bs P.b d=bs P.a d:=funext λt=>funext λo=>P.byteOfCell d t o;have e2:bw P.b d=bw P.a d:=funext λt=>funext λo=>P.cellOfByte d t o;unfold Go.cellAtBytes;rw[e1,e2]
 rfl
section
variable {P:ED} {S:Fy} {Ck:Code->Prop} {G:Nat} {β:Em}
def nC {b B:Nat}(h:β b B):Ed P S Ck G β (b5 b) (b5 B) (λD6 x X=>match x,X with|none,bn=>True|some (a,l),F (A,L)=>E0 D6 a A/\l=L|_,_=>False):=by
 cases hh:S.hid b with
 |false =>
  refine DX (kS h hh) ?_;rintro aC s _ zX rfl;cases s with
  |some x=>exact DY trivial
  |none =>
   refine DX (fB (zX _ _ h) hh) ?_;intro aD o O _ ho;cases ho with
   |number o s l hb=>exact DY ⟨⟨hb,rfl,rfl⟩,rfl⟩
   |_=>exact DY trivial
 |true =>
  intro w W n hw ht a7 a6 _;obtain⟨h1,aA,aB⟩:=hw.FV b B h hh;have e1:(b5 b).runT P.a w a7=(.ok bn w,a7.push ⟨.obj b,bc,bc⟩):=by
   unfold b5;rw[aj];have e:(shape b).runT P.a w a7=(.ok bn w,a7):=by
    show(b7 (w.shape? b) w,a7)=_;unfold br;rw[h1]
   rw[e];dsimp only;simp only[CJ,AZ,if_false];rw[aj];have e:(getObj b).runT P.a w a7=(.ok (.coro bn) w,a7.push ⟨.obj b,bc,bc⟩):=by simp only[cF,Sem.runT,h1];rfl
   rw[e]
   rfl
  cases a8:S.hid.EZ with
  |true =>
   have h2:=aB a8;have e2:(b5 B).runT P.b W a6=(.ok bn W,a6.push ⟨.obj B,bc,bc⟩):=by
    unfold b5;rw[aj];have e:(shape B).runT P.b W a6=(.ok bn W,a6):=by
     show(b7 (W.shape? B) W,a6)=_;unfold br;rw[h2]
    rw[e];dsimp only;simp only[CJ,AZ,if_false];rw[aj];have e:(getObj B).runT P.b W a6=(.ok (.coro bn) W,a6.push ⟨.obj B,bc,bc⟩):=by simp only[cF,Sem.runT,h2];rfl
    rw[e]
    rfl
   rw[e1,e2];exact⟨β,bn,W,[⟨.obj B,bc,bc⟩],by simp,trivial,{ Fin.refl hw with evs:=λh=>by rw[a8] at h;cases h }⟩
  |false =>
  obtain⟨c,t,f,h2⟩:=aA a8;have e2:(b5 B).runT P.b W a6=(.ok bn W,a6):=by
   unfold b5;rw[aj];have e:(shape B).runT P.b W a6=(.ok (F (t,c.size)) W,a6):=by
    show(b7 (W.shape? B) W,a6)=_;unfold br;rw[h2]
   rw[e]
   rfl
  rw[e1,e2];exact⟨β,bn,W,[],by simp,trivial,Fin.refl hw⟩
def gZ {b B:Nat}(h:β b B):Ed P S Ck G β (viewAt b) (viewAt B) (λ_ x X=>x=bn/\X=bn):=by
 cases hh:S.hid b with
 |false =>
  refine DX (kS h hh) ?_;rintro aC s _ zX rfl;cases s with
  |some x=>exact DY ⟨rfl,rfl⟩
  |none =>
   refine DX (fB (zX _ _ h) hh) ?_;intro aD o O _ ho;cases ho<;>exact DY ⟨rfl,rfl⟩
 |true =>
  intro w W n hw ht a7 a6 _;obtain⟨h1,aA,aB⟩:=hw.FV b B h hh;have e1:(viewAt b).runT P.a w a7=(.ok bn w,a7.push ⟨.obj b,bc,bc⟩):=by
   unfold viewAt;rw[aj];have e:(shape b).runT P.a w a7=(.ok bn w,a7):=by
    show(b7 (w.shape? b) w,a7)=_;unfold br;rw[h1]
   rw[e];dsimp only;simp only[CJ,AZ,if_false];rw[aj];have e:(getObj b).runT P.a w a7=(.ok (.coro bn) w,a7.push ⟨.obj b,bc,bc⟩):=by simp only[cF,Sem.runT,h1];rfl
   rw[e]
   rfl
  cases a8:S.hid.EZ with
  |true =>
   have h2:=aB a8;have e2:(viewAt B).runT P.b W a6=(.ok bn W,a6.push ⟨.obj B,bc,bc⟩):=by
    unfold viewAt;rw[aj];have e:(shape B).runT P.b W a6=(.ok bn W,a6):=by
     show(b7 (W.shape? B) W,a6)=_;unfold br;rw[h2]
    rw[e];dsimp only;simp only[CJ,AZ,if_false];rw[aj];have e:(getObj B).runT P.b W a6=(.ok (.coro bn) W,a6.push ⟨.obj B,bc,bc⟩):=by simp only[cF,Sem.runT,h2];rfl
    rw[e]
    rfl
   rw[e1,e2];exact⟨β,bn,W,[⟨.obj B,bc,bc⟩],by simp,⟨rfl,rfl⟩,{ Fin.refl hw with evs:=λh=>by rw[a8] at h;cases h }⟩
  |false =>
  obtain⟨c,t,f,h2⟩:=aA a8;have e2:(viewAt B).runT P.b W a6=(.ok bn W,a6):=by
   unfold viewAt;rw[aj];have e:(shape B).runT P.b W a6=(.ok (F (t,c.size)) W,a6):=by
    show(b7 (W.shape? B) W,a6)=_;unfold br;rw[h2]
   rw[e]
   rfl
  rw[e1,e2];exact⟨β,bn,W,[],by simp,⟨rfl,rfl⟩,Fin.refl hw⟩
def dv {a A:b8}(h:E0 β a A):Ed P S Ck G β (b9 a) (b9 A) (λD6 x X=>E0 D6 x.1 X.1/\x.2=X.2):=by
 refine DX (nC h.block) ?_;intro a6 x X zX hx;cases x with
 |none=>cases X with
  |none=>exact DY ⟨h.mono zX,rfl⟩
  |some _=>exact hx.elim
 |some x=>cases X with
  |none=>exact hx.elim
  |some X=>exact DY hx
def rn {a A:b8}(h:E0 β a A):Ed P S Ck G β (noView a) (noView A) (λ_ _ _=>True):=by
 refine DX (gZ h.block) ?_;rintro a6 _ _ zX ⟨rfl,rfl⟩;exact DY trivial
def rp {a A:b8}(h:E0 β a A):Ed P S Ck G β (byteOf a) (byteOf A) (λ_ x X=>x=X):=by
 unfold byteOf;rw[<-h.spot,<-h.off];cases a.spot with
 |some s=>exact DY rfl
 |none =>
  refine DX aT ?_;rintro a8 p p' zX ⟨hp,aA⟩;subst p p';simp only[ED.cellsOf,ED.bytesOf,ED.depth,ED.byteOfCell];refine DX (rn (h.mono zX)) ?_;rintro aB _ _ a6 _;refine DX (ji (a6 _ _ (zX _ _ h.block))) ?_;rintro aC s _ a7 (rfl|rfl)
  rotate_left
  .exact λ_ _ _ _ _ _ _ _=>trivial
  cases s with
  |none=>exact λ_ _ _ _ _ _ _ _=>trivial
  |some x =>
   obtain⟨e,n⟩:=x;dsimp only;by_cases h0:P.a.cellsOf e=0
   .simp only[AF h0];exact DY rfl
   .simp only[AD h0];split
    .exact DY rfl
    .exact D7
def ia (ts:Array N)(t:N){v V x X:I}(hv:DZ S β v V)(hx:DZ S β x X):Ed P S Ck G β (D ts t #[v,x]) (D ts t #[V,X]) (λD6 y Y=>∃a A,y=.pointer (F a)/\Y=.pointer (F A)/\E0 D6 a A):=by
 unfold D;have tail:∀(p Q:Option b8),IM β p Q->DZ S β (.pointer p) (.pointer Q)->Ed P S Ck G β (D ts t #[.pointer p,x]) (D ts t #[.pointer Q,X]) (λD6 y Y=>∃a A,y=.pointer (F a)/\Y=.pointer (F A)/\E0 D6 a A):=by
  intro p Q hp hpv;refine DX (eU hx) ?_;rintro aA n _ a6 rfl;dsimp only
  have rest : Ed P S Ck G aA (do
    if n<0 then bo (.unsafePointer "Add: a move by a count below zero")
    let F a:=p|unsupported (.unsafePointer "Add")
    let F (e,cells)<-shape a.block|unsupported (.unsafePointer "Add")
    let P<-program
    match cellAtBytes P P.depth e (cells / P.cellsOf e) a.off n with
    |some off=>pure (.pointer (F { a with off }))
    |none=>bo (.unsafePointer "Add"):Sem I) (do
    if n<0 then bo (.unsafePointer "Add: a move by a count below zero")
    let F a:=Q|unsupported (.unsafePointer "Add")
    let F (e,cells)<-shape a.block|unsupported (.unsafePointer "Add")
    let P<-program
    match cellAtBytes P P.depth e (cells / P.cellsOf e) a.off n with
    |some off=>pure (.pointer (F { a with off }))
    |none=>bo (.unsafePointer "Add"):Sem I) (λD6 y Y=>∃a A,y=.pointer (F a)/\Y=.pointer (F A)/\E0 D6 a A):=by
   dsimp only;by_cases h0:n<0
   .simp only[AF h0];exact λ_ _ _ _ _ _ _ _=>by intro g e;cases e
   .simp only[AD h0];cases hp with
    |none=>exact λ_ _ _ _ _ _ _ _=>by intro g e;cases e
    |some ha =>
     rename_i a A;dsimp only;refine DX (ji (a6 _ _ ha.block)) ?_;rintro aB s _ a7 (rfl|rfl)
     rotate_left
     .exact λ_ _ _ _ _ _ _ _=>by intro g e;cases e
     cases s with
     |none=>exact λ_ _ _ _ _ _ _ _=>by intro g e;cases e
     |some x =>
      obtain⟨e,c⟩:=x;refine DX aT ?_;rintro aC p _ a8 ⟨rfl,rfl⟩;rw[<-ha.off,ED.cellAtBytes,ED.depth,ED.cellsOf];split
      .exact DY ⟨_,_,rfl,rfl,⟨a8 _ _ (a7 _ _ (a6 _ _ ha.block)),rfl,ha.spot⟩⟩
      .exact λ_ _ _ _ _ _ _ _=>by intro g e;cases e
  by_cases h0:n=0
  .simp only[AF h0];cases hp with
   |none=>exact λ_ _ _ _ _ _ _ _=>by intro g e;cases e
   |some ha =>
    dsimp only;refine DX (gZ (a6 _ _ ha.block)) ?_;rintro aB _ _ a7 ⟨rfl,rfl⟩;exact DY ⟨_,_,rfl,rfl,(ha.mono a6).mono a7⟩
  .simp only[AD h0];exact rest
 cases hv with
 |Hc=>exact tail bn bn .none .Hc
 |ptr o s hb=>exact tail (F _) (F _) (.some (E0.mk (a:=⟨_,o,s⟩) (A:=⟨_,o,s⟩) hb rfl rfl)) (.ptr o s hb)
 |_=>exact D7
def _root_.Go.Eu.Ed.ptr {m M:Sem I}(h:Ed P S Ck G β m M (λD6 y Y=>∃a A,y=.pointer (F a)/\Y=.pointer (F A)/\E0 D6 a A)):Ed P S Ck G β m M (λD6 a A=>DZ S D6 a A) :=
 vI h (by rintro D6 _ _ _ ⟨a,A,rfl,rfl,h⟩;exact h.ptr)
def nD {a A:b8}(h:E0 β a A)(l:Bool):Ed P S Ck G β (cU a l) (cU A l) (λD6 x X=>DZ S D6 x X):=by
 have ho:EW S Ck β (.number a l) (.number A l):=by
  obtain⟨b,o,s⟩:=a;obtain⟨B,O,s'⟩:=A;obtain⟨h1,h2,h3⟩:=h;cases h2;cases h3;exact .number _ _ _ h1
 refine DX (jE ho (λi=>ho.id i (by simp))) ?_;rintro a6 b B _ ⟨hb,_⟩;exact DY (.ptr _ _ hb)
def bZ (t:N){v V x X:I}(hv:DZ S β v V)(hx:DZ S β x X):Ed P S Ck G β (cK t v x) (cK t V X) (λD6 a A=>DZ S D6 a A):=by
 unfold cK;refine DX (am _) ?_;rintro a8 d _ a6 ⟨rfl,_⟩;dsimp only
 have main : Ed P S Ck G a8 (do
   let .pointer (F n):=v|Builtin.unsafeAdd_ #[] t #[v,x]
   let (a,lost)<-b9 n
   match<-D #[] t #[.pointer (F a),x] with
   |.pointer (F b)=>cU b lost
   |v=>pure v:Sem I) (do
   let .pointer (F n):=V|Builtin.unsafeAdd_ #[] t #[V,X]
   let (a,lost)<-b9 n
   match<-D #[] t #[.pointer (F a),X] with
   |.pointer (F b)=>cU b lost
   |v=>pure v:Sem I) (λD6 a A=>DZ S D6 a A):=by
  replace hx:=hx.mono a6;replace hv:=hv.mono a6;have h0:=(ia (P:=P) (Ck:=Ck) (G:=G) #[] t hv hx).ptr;cases hv with
  |ptr o s hb =>
   refine DX (dv (E0.mk (a:=⟨_,o,s⟩) (A:=⟨_,o,s⟩) hb rfl rfl)) ?_;rintro aB ⟨a,l⟩ ⟨A,L⟩ a7 ⟨ha,hl⟩;cases hl;refine DX (ia #[] t ha.ptr (hx.mono a7)) ?_;rintro aC _ _ aA ⟨a',A',rfl,rfl,ha'⟩;exact nD ha' l
  |_=>exact h0
 cases d with
 |unsafePointer=>exact λ_ _ _ _ _ _ _ _=>by intro g e;cases e
 |_=>exact main
def pH (k:dy){a A:b8}(h:E0 β a A)(n:Int):Ed P S Ck G β (Op.addrMod k a n) (Op.addrMod k A n) (λD6 a A=>DZ S D6 a A):=by
 refine DX (ji h.block) ?_;rintro a8 s _ a6 (rfl|rfl)
 rotate_left
 .exact λ_ _ _ _ _ _ _ _=>by intro g e;cases e
 cases s with
 |none=>exact λ_ _ _ _ _ _ _ _=>by intro g e;cases e
 |some x =>
  obtain⟨e,c⟩:=x;refine DX (bm _) ?_;rintro aA i _ a7 ⟨rfl,_⟩;dsimp only;split
  .exact λ_ _ _ _ _ _ _ _=>by intro g e;cases e
  .refine DX (rp ((h.mono a6).mono a7)) ?_;rintro aB b _ _ rfl;exact DY (.int _ _)
def l7 (hG:P.a.globals.size<=G){a A b B:b8}(ha:E0 β a A):Ed P S Ck G β (cf a b) (cf A B) (λ_ _ _=>False):=by
 intro w W n hw ht a6 a7 hb;have h1:=(hw.Fv.lo ha.block).1;have e:(cf a b).runT P.a w a6=(.halt (.unsupported .addressObserved) w,a6):=by
  unfold cf;rw[aj];have e:program.runT P.a w a6=(.ok P.a w,a6):=rfl;rw[e];dsimp only;rw[AF (by simp;right;omega)]
  rfl
 rw[e];intro g e;cases e
end
end Go.Eu
