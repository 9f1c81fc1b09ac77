/- Parts of the proof. -/
import Derived.Test.YtjcgijifamcggaaGreatP02
import Derived.Test.YtjcgijifamcggaaGreatP00
import Derived.Laws.Sem
set_option linter.all false
namespace Go.Bl
def plain:Nat->Value->Bool
 |0,_=>false
 |_+1,.bool _|_+1,.int _ _|_+1,.string _|_+1,.pointer none|_+1,.slice none _ _|_+1,.nilFunc|_+1,.nilIface|_+1,.map none|_+1,.chan none=>true
 |n+1,.agg cs=>cs.all (plain n)
 |n+1,.tuple cs=>cs.all (plain n)
 |_,_=>false
def gj {S:CF}{β:Bc}:∀ {n:Nat} {v:Value},plain n v=true->AO S β v v:=by
 intro n
 induction n with
 |zero=>intro v h;simp[plain] at h
 |succ n ih =>
  intro v h;cases v with
  |bool b=>exact .bool b
  |int k n=>exact .int k n
  |string s=>exact .string s
  |pointer a=>cases a with
   |none=>exact .EI
   |some a=>simp[plain] at h
  |slice a l c=>cases a with
   |none=>exact .Ei l c
   |some a=>simp[plain] at h
  |nilFunc=>exact .nilFunc
  |nilIface=>exact .nilIface
  |map r=>cases r with
   |none=>exact .Et
   |some a=>simp[plain] at h
  |chan r=>cases r with
   |none=>exact .DY
   |some a=>simp[plain] at h
  |agg cs =>
   simp only[plain,xR] at h;exact .agg rfl λi v V h1 h2=>by rw[h1] at h2;cases h2;exact ih (h v (xY h1))
  |tuple cs =>
   simp only[plain,xR] at h;exact .tuple rfl λi v V h1 h2=>by rw[h1] at h2;cases h2;exact ih (h v (xY h1))
  |_=>simp[plain] at h
def bN (P:Program)(t:TypeId):Bool:=match P.info? t with
 |some i=>match i.zero with
  |some z=>plain 8 z
  |none=>true
 |none=>true
section
variable {P:Bw} {S:CF} {Ck:Code->Prop} {G:Nat} {β:Bc}
def cj {t:TypeId}(h:bN P.a t=true):AX P S Ck G β (zeroValue t) (zeroValue t) (λAQ v V=>v=V/\AO S AQ v V):=by
 refine AJ (aZ t) ?_;rintro AQ a A _ ⟨rfl,hi⟩;unfold bN at h;rw[hi] at h;simp only at h;cases hz:a.zero with
 |none=>exact AV (by simp)
 |some z=>rw[hz] at h;exact AL ⟨rfl,gj h⟩
def iI {a A:Addr}(h:BZ β a A)(i n:Nat){acc ACC:Array Value}(NH:AU S β acc ACC) :
  AX P S Ck G β (loadCellsFrom a i n acc) (loadCellsFrom A i n ACC) (λAQ x X=>AU S AQ x X):=by
 induction n generalizing β i acc ACC with
 |zero=>exact AL NH
 |succ n ih =>
  refine AJ (ij (h.add i) .plain) ?_;intro AQ v V hle hv;exact ih (h.mono hle) _ ((NH.mono hle).push hv)
def gn {a A:Addr}(h:BZ β a A)(n:Nat):AX P S Ck G β (loadCells a n) (loadCells A n) (λAQ x X=>AU S AQ x X):=iI h 0 n Aa
def fZ {a A:Addr}(h:BZ β a A){l L:List Value}(hl:B4 (AO S β) l L)(i:Nat):AX P S Ck G β (storeCells a l i) (storeCells A L i) (λ_ _ _=>True):=by
 induction l generalizing β i L with
 |nil=>cases hl;exact AL trivial
 |cons v l ih =>
  cases hl with
  |cons hv hr =>
   refine AJ (iG (h.add i) .plain hv) ?_;intro AQ _ _ hle _;exact ih (h.mono hle) (hr.mono λ_ _=>AO.mono hle) _
def Ak {α:Type}{R:α->α->Prop}:∀ {l L:List α},l.length=L.length->(∀(i:Nat) (v V:α),l[i]?=some v->L[i]?=some V->R v V)->B4 R l L
 |[],[],_,_=>.nil
 |a::l,A::L,h,k=>.cons (k 0 a A rfl rfl) (Ak (by simpa using h) λi v V h1 h2=>k (i+1) v V (by simpa using h1) (by simpa using h2))
 |[],_::_,h,_=>by simp at h
 |_::_,[],h,_=>by simp at h
def AU.toList {x X:Array Value}(r:AU S β x X):B4 (AO S β) x.toList X.toList :=
 Ak (by simpa using r.size) λi v V h1 h2=>r.at_ i v V (by simpa using h1) (by simpa using h2)
def B4.get {α:Type}{R:α->α->Prop}{l L:List α}(h:B4 R l L):l.length=L.length/\∀(i:Nat) (v V:α),l[i]?=some v->L[i]?=some V->R v V:=by
 induction h with
 |nil=>exact⟨rfl,by simp⟩
 |cons ha _ ih =>
  refine⟨by simp[ih.1],λi v V h1 h2=>?_⟩;cases i with
  |zero=>simp at h1 h2;subst h1;subst h2;exact ha
  |succ i=>exact ih.2 i v V (by simpa using h1) (by simpa using h2)
def B4.toArray {l L:List Value}(h:B4 (AO S β) l L):AU S β l.toArray L.toArray :=
 ⟨by simpa using h.get.1,λi v V h1 h2=>h.get.2 i v V (by simpa using h1) (by simpa using h2)⟩
def i6 (t:TypeId){a A:Addr}(h:BZ β a A):AX P S Ck G β (loadVar t a) (loadVar t A) (λAQ v V=>AO S AQ v V):=by
 refine AJ (lg t) ?_;rintro AQ b _ hle rfl;split
 .refine AJ (aD t) ?_;rintro Cb n _ BM rfl;refine AJ (gn ((h.mono hle).mono BM) n) ?_;intro Dh x X _ hx;exact AL hx.agg
 .exact ij (h.mono hle) _
def mp (t:TypeId){a A:Addr}(h:BZ β a A){v V:Value}(hv:AO S β v V):AX P S Ck G β (storeVar t a v) (storeVar t A V) (λ_ _ _=>True):=by
 refine AJ (aD t) ?_;rintro AQ n _ hle rfl;rw[hv.cells.size];split
 .exact λ_ _ _ _ _ _ _ _=>trivial
 .exact fZ (h.mono hle) (hv.mono hle).cells.toList 0
def eX (t:TypeId){c C:Array Value}(h:AU S β c C):AX P S Ck G β (newRow t c) (newRow t C) (λAQ a A=>BZ AQ a A):=by
 refine AJ (i5 (.cells h (λi h1 h2=>absurd h2 (by simp))) (λi=>by rw[h.id i])) ?_;rintro AQ b B _ ⟨hb,_⟩;exact AL ⟨hb,rfl,rfl⟩
def gp (t:TypeId){v V:Value}(h:AO S β v V):AX P S Ck G β (newVar t v) (newVar t V) (λAQ a A=>BZ AQ a A):=eX t h.cells
def ce (t:TypeId){c C:Array Value}(h:AU S β c C)(o:Nat):AX P S Ck G β (part t c o) (part t C o) (λAQ v V=>AO S AQ v V):=by
 refine AJ (lg t) ?_;rintro AQ b _ hle rfl;split
 .refine AJ (aD t) ?_;rintro Cb n _ BM rfl;exact AL (((h.mono hle).mono BM).extract _ _).agg
 .cases hc:c[o]? with
  |none=>exact AR
  |some v=>obtain⟨V,hV,hr⟩:=(h.mono hle).get? hc;rw[hV];exact AL hr
def cI {v V:Value}(h:AO S β v V):AX P S Ck G β (Instr.sureAddr v) (Instr.sureAddr V) (λAQ a A=>BZ AQ a A):=by
 cases h with
 |ptr o s hb=>exact AL ⟨hb,rfl,rfl⟩
 |_=>exact AR
def au {α EJ:Type}{R:Bc->α->EJ->Prop}(e:RuntimeError)(h:match e with|.bounds ..|.error _|.plain _|.nilDeref=>True|_=>False) :
  AX P S Ck G β (runtimePanic e:Sem α) (runtimePanic e:Sem EJ) R:=by
 refine AJ aL ?_;rintro AQ a A _ ⟨rfl,rfl⟩;cases e with
 |bounds x y s c =>
  refine cQ (.iface _ (gj (n:=2) ?_));simp[plain]
 |error m=>exact cQ (.iface _ (.string _))
 |plain m=>exact cQ (.iface _ (.string _))
 |nilDeref=>exact cQ (.iface _ (.string _))
 |typeAssertion i c a m=>exact h.elim
 |panicNil=>exact h.elim
 |unhashable t=>exact h.elim
def Cj {α EJ:Type}{R:Bc->α->EJ->Prop}(k:IntKind)(x y:Int)(c:BoundsCode):AX P S Ck G β (boundsPanic k x y c:Sem α) (boundsPanic k x y c:Sem EJ) R:=by
 unfold Go.boundsPanic;split
 .refine AJ (R:=λ_ a A=>a=A) ?_ ?_
  .refine AJ (eR _) ?_;rintro AQ a A _ rfl;exact AL rfl
  .rintro AQ a A _ rfl;exact au (.bounds _ _ _ _) trivial
 .refine AJ (AL (R:=λ_ a A=>a=A) rfl) ?_;rintro AQ a A _ rfl;exact au (.bounds _ _ _ _) trivial
end
def jI (P:Program)(s:TypeId)(i:Nat):Bool:=match P.underlying s with
 |some (.struct fs)=>match fs[i]? with
  |some f=>match P.info? f.type with
   |some x=>x.size != 0
   |none=>true
  |none=>true
 |_=>true
section
variable {P:Bw} {S:CF} {Ck:Code->Prop} {G:Nat} {β:Bc}
def nN (t:TypeId):AX P S Ck G β (sizeOf t) (sizeOf t) (λ_ a A=>a=A/\∃x,P.a.info? t=some x/\x.size=a):=by
 refine AJ (aZ t) ?_;rintro AQ a A _ ⟨rfl,h⟩;exact AL ⟨rfl,_,h,rfl⟩
def kL {a A:Addr}(h:BZ β a A)(f:Field)(hf:∀x,P.a.info? f.type=some x->x.size≠0):AX P S Ck G β (fieldPlace a f) (fieldPlace A f) (λAQ x X=>BZ AQ x X):=by
 refine AJ (nN _) ?_;rintro AQ n _ hle ⟨rfl,x,h1,h2⟩;split
 .rename_i h0;exact absurd (h2.trans h0) (hf x h1)
 .exact AL ((h.mono hle).add _)
def nO (s:TypeId){v V:Value}(h:AO S β v V)(i:Nat)(hf:jI P.a s i=true):AX P S Ck G β (Instr.fieldAt s v i) (Instr.fieldAt s V i) (λAQ x X=>AO S AQ x X):=by
 refine AJ (aj _) ?_;rintro AQ d _ hle ⟨rfl,hd⟩;split
 .rename_i fs;split
  .rename_i f he;refine AJ (cI (h.mono hle)) ?_;intro Cb a A _ ha;refine AJ (kL ha _ ?_) ?_
   .intro x hx;simp only[jI,hd,he,hx] at hf;simpa using hf
   .intro Dh x X _ hx;exact AL hx.ptr
  .exact AR
 .exact AR
def il (t:TypeId)(k:IntKind)(i:Int)(base:Option Addr)(len:Nat)(elem:TypeId):Sem Value:=do
 let ad7:=len<=1&&(match<-underlying t with|.array ..=>true|_=>false)
 match base with
 |some a =>
  if 0<=i/\i<len then pure (.pointer (some (a.add (i.toNat*(<-sizeOf elem)))))
  else if ad7 then unsupported (.noEntry "op/indexAddr.an index out of range at an array of length 0 or 1 (ledger 616)")
  else boundsPanic k i len .index
 |none=>boundsPanic k i 0 .index
inductive Ga (β:Bc):Option Addr->Option Addr->Prop
 |none:Ga β none none
 |some {a A:Addr}:BZ β a A->Ga β (some a) (some A)
def fH (t:TypeId)(k:IntKind)(i:Int){b B:Option Addr}(hb:Ga β b B)(len:Nat)(elem:TypeId):AX P S Ck G β (il t k i b len elem) (il t k i B len elem) (λAQ y Y=>AO S AQ y Y):=by
 refine AJ (aj _) ?_;rintro AQ d _ hle ⟨rfl,_⟩;dsimp only;cases hb with
 |none=>exact Cj _ _ _ _
 |some ha =>
  dsimp only;split
  .refine AJ (aD _) ?_;rintro Cb n _ BM rfl;exact AL (((ha.mono hle).mono BM).add _).ptr
  .cases d<;>dsimp only<;>split<;>first|exact Cj _ _ _ _|exact AV (λg e=>by cases e)
def mq (t:TypeId)(k:IntKind)(i:Int){b B:Addr}(elem:TypeId):AX P S Ck G β (il t k i (some b) 0 elem) (il t k i (some B) 0 elem) (λAQ y Y=>AO S AQ y Y):=by
 refine AJ (aj _) ?_;rintro AQ d _ hle ⟨rfl,_⟩;dsimp only;split
 .exfalso;omega
 .cases d<;>dsimp only<;>split<;>first|exact Cj _ _ _ _|exact AV (λg e=>by cases e)
def nP (t:TypeId){v V x X:Value}(h:AO S β v V)(hx:AO S β x X):AX P S Ck G β (Instr.indexAt t v x) (Instr.indexAt t V X) (λAQ y Y=>AO S AQ y Y):=by
 refine AJ (db hx) ?_;rintro Cp ⟨k,i⟩ _ D5 rfl;refine AJ (aj _) ?_;rintro Cb d _ BM ⟨rfl,_⟩;have h2:=(h.mono D5).mono BM;clear h;cases d with
 |array len elem =>
  refine AJ (cI h2) ?_;intro Dh a A _ ha;exact fH t k i (.some ha) len elem
 |slice elem =>
  cases h2 with
  |Ei l c=>exact fH t k i .none l elem
  |slice o s l c hb=>exact fH t k i (.some (BZ.mk (a:=⟨_,o,s⟩) (A:=⟨_,o,s⟩) hb rfl rfl)) l elem
  |Cf _=>exact mq t k i elem
  |_=>exact λ_ _ _ _ _ _ _ _=>trivial
 |_=>exact λ_ _ _ _ _ _ _ _=>trivial
def cM {x X:Value}(hx:AO S β x X)(y:Nat)(c:BoundsCode):AX P S Ck G β (Instr.sliceBound x y c) (Instr.sliceBound X y c) (λ_ a A=>a=A):=by
 refine AJ (db hx) ?_;rintro Cp ⟨k,i⟩ _ D5 rfl;dsimp only;split
 .exact AL rfl
 .exact Cj _ _ _ _
inductive Ee (S:CF)(β:Bc):Option Value->Option Value->Prop
 |none:Ee S β none none
 |some {a A:Value}:AO S β a A->Ee S β (some a) (some A)
def Ee.mono {AQ:Bc}(h:β.le AQ){a A:Option Value}(r:Ee S β a A):Ee S AQ a A:=by
 cases r with
 |none=>exact .none
 |some r=>exact .some (r.mono h)
def bO (sl:Bool)(len cap:Nat){l L h H m M:Option Value}(hl:Ee S β l L)(hh:Ee S β h H)(hm:Ee S β m M) :
  AX P S Ck G β (Instr.sliceBounds sl len cap l h m) (Instr.sliceBounds sl len cap L H M) (λ_ a A=>a=A):=by
 unfold Instr.sliceBounds;have e1:m.isSome=M.isSome:=by cases hm<;>rfl
 have low : ∀ (AQ : Bc) (m' h' : Nat), β.le AQ -> AX P S Ck G AQ (do
   let l<-match l with
    |some v=>Instr.sliceBound v h' (if m.isSome then .slice3C else .sliceB)
    |none=>pure 0
   pure (l,h',m')) (do
   let l<-match L with
    |some v=>Instr.sliceBound v h' (if M.isSome then .slice3C else .sliceB)
    |none=>pure 0
   pure (l,h',m')) (λ_ a A=>a=A):=by
  intro AQ m' h' hle;rw[e1];cases hl with
  |none=>exact AJ (AL (R:=λ_ a A=>a=A) rfl) (by rintro Cb a _ _ rfl;exact AL rfl)
  |some hv=>exact AJ (cM (hv.mono hle) _ _) (by rintro Cb a _ _ rfl;exact AL rfl)
 have KY : ∀ (AQ : Bc) (m' : Nat), β.le AQ -> AX P S Ck G AQ (do
   let h'<-match h,m with
    |some v,some _=>Instr.sliceBound v m' .slice3B
    |some v,none=>Instr.sliceBound v m' (if sl then .sliceAcap else .sliceAlen)
    |none,none=>pure len
    |none,some _=>stuck "Slice: max without high"
   let l<-match l with
    |some v=>Instr.sliceBound v h' (if m.isSome then .slice3C else .sliceB)
    |none=>pure 0
   pure (l,h',m')) (do
   let h'<-match H,M with
    |some v,some _=>Instr.sliceBound v m' .slice3B
    |some v,none=>Instr.sliceBound v m' (if sl then .sliceAcap else .sliceAlen)
    |none,none=>pure len
    |none,some _=>stuck "Slice: max without high"
   let l<-match L with
    |some v=>Instr.sliceBound v h' (if M.isSome then .slice3C else .sliceB)
    |none=>pure 0
   pure (l,h',m')) (λ_ a A=>a=A):=by
  intro AQ m' hle;cases hm with
  |none =>
   cases hh with
   |none=>exact AJ (AL (R:=λ_ a A=>a=A) rfl) (by rintro Cb a _ h2 rfl;exact low Cb _ _ (Bc.le_trans hle h2))
   |some hv=>exact AJ (cM (hv.mono hle) _ _) (by rintro Cb a _ h2 rfl;exact low Cb _ _ (Bc.le_trans hle h2))
  |some hw =>
   cases hh with
   |none=>exact λ_ _ _ _ _ _ _ _=>trivial
   |some hv=>exact AJ (cM (hv.mono hle) _ _) (by rintro Cb a _ h2 rfl;exact low Cb _ _ (Bc.le_trans hle h2))
 cases hm with
 |none=>exact AJ (AL (R:=λ_ a A=>a=A) rfl) (by rintro Cb a _ h2 rfl;exact KY Cb _ h2)
 |some hv=>exact AJ (cM hv _ _) (by rintro Cb a _ h2 rfl;exact KY Cb _ h2)
def cz {x X:Value}(hx:AO S β x X)(c:BoundsCode):AX P S Ck G β (Instr.sliceBound x 0 c) (Instr.sliceBound X 0 c) (λ_ a A=>a=0/\A=0):=by
 refine AJ (db hx) ?_;rintro Cp ⟨k,i⟩ _ D5 rfl;dsimp only;split
 .exact AL ⟨by omega,by omega⟩
 .exact Cj _ _ _ _
def i7 (sl:Bool){l L h H m M:Option Value}(hl:Ee S β l L)(hh:Ee S β h H)(hm:Ee S β m M) :
  AX P S Ck G β (Instr.sliceBounds sl 0 0 l h m) (Instr.sliceBounds sl 0 0 L H M) (λ_ a A=>a=(0,0,0)/\A=(0,0,0)):=by
 unfold Instr.sliceBounds;have e1:m.isSome=M.isSome:=by cases hm<;>rfl
 have low : ∀ (AQ : Bc), β.le AQ -> AX P S Ck G AQ (do
   let l<-match l with
    |some v=>Instr.sliceBound v 0 (if m.isSome then .slice3C else .sliceB)
    |none=>pure 0
   pure (l,0,0)) (do
   let l<-match L with
    |some v=>Instr.sliceBound v 0 (if M.isSome then .slice3C else .sliceB)
    |none=>pure 0
   pure (l,0,0)) (λ_ a A=>a=(0,0,0)/\A=(0,0,0)):=by
  intro AQ hle;rw[e1];cases hl with
  |none=>exact AJ (AL (R:=λ_ a A=>a=0/\A=0) ⟨rfl,rfl⟩) (by rintro Cb _ _ _ ⟨rfl,rfl⟩;exact AL ⟨rfl,rfl⟩)
  |some hv=>exact AJ (cz (hv.mono hle) _) (by rintro Cb _ _ _ ⟨rfl,rfl⟩;exact AL ⟨rfl,rfl⟩)
 have KY : ∀ (AQ : Bc), β.le AQ -> AX P S Ck G AQ (do
   let h'<-match h,m with
    |some v,some _=>Instr.sliceBound v 0 .slice3B
    |some v,none=>Instr.sliceBound v 0 (if sl then .sliceAcap else .sliceAlen)
    |none,none=>pure 0
    |none,some _=>stuck "Slice: max without high"
   let l<-match l with
    |some v=>Instr.sliceBound v h' (if m.isSome then .slice3C else .sliceB)
    |none=>pure 0
   pure (l,h',0)) (do
   let h'<-match H,M with
    |some v,some _=>Instr.sliceBound v 0 .slice3B
    |some v,none=>Instr.sliceBound v 0 (if sl then .sliceAcap else .sliceAlen)
    |none,none=>pure 0
    |none,some _=>stuck "Slice: max without high"
   let l<-match L with
    |some v=>Instr.sliceBound v h' (if M.isSome then .slice3C else .sliceB)
    |none=>pure 0
   pure (l,h',0)) (λ_ a A=>a=(0,0,0)/\A=(0,0,0)):=by
  intro AQ hle;cases hm with
  |none =>
   cases hh with
   |none=>exact AJ (AL (R:=λ_ a A=>a=0/\A=0) ⟨rfl,rfl⟩) (by rintro Cb _ _ h2 ⟨rfl,rfl⟩;exact low Cb (Bc.le_trans hle h2))
   |some hv=>exact AJ (cz (hv.mono hle) _) (by rintro Cb _ _ h2 ⟨rfl,rfl⟩;exact low Cb (Bc.le_trans hle h2))
  |some hw =>
   cases hh with
   |none=>exact λ_ _ _ _ _ _ _ _=>trivial
   |some hv=>exact AJ (cz (hv.mono hle) _) (by rintro Cb _ _ h2 ⟨rfl,rfl⟩;exact low Cb (Bc.le_trans hle h2))
 cases hm with
 |none=>exact AJ (AL (R:=λ_ a A=>a=0/\A=0) ⟨rfl,rfl⟩) (by rintro Cb _ _ h2 ⟨rfl,rfl⟩;exact KY Cb h2)
 |some hv=>exact AJ (cz hv _) (by rintro Cb _ _ h2 ⟨rfl,rfl⟩;exact KY Cb h2)
def dE {v V:Value}(h:AO S β v V):AX P S Ck G β (asAddr v) (asAddr V) (λAQ a A=>BZ AQ a A):=by
 cases h with
 |ptr o s hb=>exact AL ⟨hb,rfl,rfl⟩
 |EI=>exact au .nilDeref trivial
 |_=>exact AR
def rB (t:TypeId){x X:Value}(hx:AO S β x X){l L h H m M:Option Value}(hl:Ee S β l L)(hh:Ee S β h H)(hm:Ee S β m M) :
  AX P S Ck G β (Instr.slice t x l h m) (Instr.slice t X L H M) (λAQ a A=>AO S AQ a A):=by
 refine AJ (aj _) ?_;rintro Cp d _ hle ⟨rfl,_⟩;have e1:m.isSome=M.isSome:=by cases hm<;>rfl
 replace hx:=hx.mono hle;cases d with
 |string =>
  cases hx with
  |string s =>
   dsimp only;rw[e1];split
   .exact λ_ _ _ _ _ _ _ _=>trivial
   .refine AJ (bO _ _ _ (hl.mono hle) (hh.mono hle) .none) ?_;rintro Cb ⟨a,b,c⟩ _ _ rfl;exact AL (.string _)
  |_=>exact AR
 |slice e =>
  cases hx with
  |Ei len cap =>
   refine AJ (bO _ _ _ (hl.mono hle) (hh.mono hle) (hm.mono hle)) ?_;rintro Cb ⟨a,b,c⟩ _ _ rfl;refine AJ (aD _) ?_;rintro Dh n _ _ rfl;refine AL ?_;split
   .exact .Ei _ _
   .exact .Ei _ _
  |slice o s len cap hb =>
   refine AJ (bO _ _ _ (hl.mono hle) (hh.mono hle) (hm.mono hle)) ?_;rintro Cb ⟨a,b,c⟩ _ BM rfl;refine AJ (aD _) ?_;rintro Dh n _ BR rfl;refine AL ?_;split
   .exact .slice _ _ _ _ (BR _ _ (BM _ _ hb))
   .exact BZ.sl (BZ.add (BZ.mk (a:=⟨_,o,s⟩) (A:=⟨_,o,s⟩) (BR _ _ (BM _ _ hb)) rfl rfl) _) _ _
  |Cf h0 =>
   refine AJ (i7 _ (hl.mono hle) (hh.mono hle) (hm.mono hle)) ?_;rintro Cb _ _ BM ⟨rfl,rfl⟩;refine AJ (aD _) ?_;rintro Dh n _ BR rfl;exact AL (.Cf h0)
  |_=>exact AR
 |pointer arr =>
  refine AJ (dE hx) ?_;intro Cb a A BM ha;refine AJ (aj _) ?_;rintro Dh d _ BR ⟨rfl,_⟩;cases d with
  |array n elem =>
   refine AJ (bO _ _ _ ((((hl.mono hle).mono BM)).mono BR) ((((hh.mono hle).mono BM)).mono BR) ((((hm.mono hle).mono BM)).mono BR)) ?_;rintro I0 ⟨a,b,c⟩ _ Fb rfl;refine AJ (aD _) ?_;rintro JQ n _ Fc rfl;have ha':=((ha.mono BR).mono Fb).mono Fc;refine AL ?_;split
   .exact ha'.sl _ _
   .exact(ha'.add _).sl _ _
  |_=>exact λ_ _ _ _ _ _ _ _=>trivial
 |_=>exact λ_ _ _ _ _ _ _ _=>trivial
def nQ (t:TypeId){x X:Value}(hx:AO S β x X){l L h H m M:Option Value}(hl:Ee S β l L)(hh:Ee S β h H)(hm:Ee S β m M) :
  AX P S Ck G β (Instr.sliceAt t x l h m) (Instr.sliceAt t X L H M) (λAQ a A=>AO S AQ a A):=by
 refine AJ (aj _) ?_;rintro Cp d _ hle ⟨rfl,_⟩;cases d with
 |array n elem =>
  refine AJ (cI (hx.mono hle)) ?_;intro Dh a A BR ha;refine AJ (bO _ _ _ ((hl.mono hle).mono BR) ((hh.mono hle).mono BR) ((hm.mono hle).mono BR)) ?_;rintro I0 ⟨a,b,c⟩ _ Fb rfl;refine AJ (aD _) ?_;rintro JQ n _ Fc rfl;have ha':=(ha.mono Fb).mono Fc;refine AL ?_;split
  .exact ha'.sl _ _
  .exact(ha'.add _).sl _ _
 |_=>exact rB t (hx.mono hle) (hl.mono hle) (hh.mono hle) (hm.mono hle)
def rC (t:TypeId){x X:Value}(hx:AO S β x X)(i:Nat):AX P S Ck G β (Instr.field t x i) (Instr.field t X i) (λAQ a A=>AO S AQ a A):=by
 refine AJ (aj _) ?_;rintro Cp d _ hle ⟨rfl,_⟩;cases d with
 |struct fs =>
  dsimp only;split
  .refine AJ (rz (hx.mono hle)) ?_;intro Cb c C _ hc;exact ce _ hc _
  .exact AR
 |_=>exact λ_ _ _ _ _ _ _ _=>trivial
def rD (t:TypeId){v V x X:Value}(h:AO S β v V)(hx:AO S β x X):AX P S Ck G β (Instr.index t v x) (Instr.index t V X) (λAQ y Y=>AO S AQ y Y):=by
 refine AJ (db hx) ?_;rintro Cp ⟨k,i⟩ _ D5 rfl;refine AJ (aj _) ?_;rintro Cb d _ BM ⟨rfl,_⟩;have h2:=(h.mono D5).mono BM;clear h;cases d with
 |array len elem =>
  cases h2 with
  |agg h1 h2 =>
   dsimp only;split
   .refine AJ (aD _) ?_;rintro Dh n _ BR rfl;exact ce _ (AU.mono BR ⟨h1,h2⟩) _
   .exact Cj _ _ _ _
  |_=>exact AR
 |string =>
  cases h2 with
  |string s =>
   dsimp only;split
   .exact AL (.int _ _)
   .exact Cj _ _ _ _
  |_=>exact AR
 |_=>exact λ_ _ _ _ _ _ _ _=>trivial
def gq {α γ:Type}{f:α->Sem γ}(h:∀x β,AX P S Ck G β (f x) (f x) (λ_ a A=>a=A)):∀(l:List α) (β:Bc),AX P S Ck G β (l.mapM f) (l.mapM f) (λ_ a A=>a=A)
 |[],β=>by simp only[List.mapM_nil];exact AL rfl
 |x::l,β=>by
  simp only[List.mapM_cons];refine AJ (h x β) ?_;rintro Cp a _ _ rfl;refine AJ (gq h l Cp) ?_;rintro Cb b _ _ rfl;exact AL rfl
end
section
variable {P:Bw} {S:CF} {Ck:Code->Prop} {G:Nat} {β:Bc}
inductive Di (S:CF)(β:Bc):List (Nat×Value)->List (Nat×Value)->Prop
 |nil:Di S β [] []
 |cons {i:Nat} {v V:Value} {l L:List (Nat×Value)}:AO S β v V->Di S β l L->Di S β ((i,v)::l) ((i,V)::L)
def Di.mono {AQ:Bc}(h:β.le AQ){l L:List (Nat×Value)}(r:Di S β l L):Di S AQ l L:=by
 induction r with
 |nil=>exact .nil
 |cons v _ ih=>exact .cons (v.mono h) ih
def tE {c C:Array Value}{l L:List Value}(off k:Nat)(hc:AU S β c C)(hl:B4 (AO S β) l L) :
  AU S β ((l.zipIdx k).foldl (λcs (x:Value×Nat)=>cs.setIfInBounds (off+x.2) x.1) c) ((L.zipIdx k).foldl (λcs (x:Value×Nat)=>cs.setIfInBounds (off+x.2) x.1) C):=by
 induction hl generalizing c C k with
 |nil=>exact hc
 |cons ha _ ih =>
  simp only[List.zipIdx_cons,zw];exact ih _ (hc.set _ ha)
inductive Mq (S:CF)(β:Bc):Option (Array Value)->Option (Array Value)->Prop
 |none:Mq S β none none
 |some {a A:Array Value}:AU S β a A->Mq S β (some a) (some A)
def iJ (place:Nat->Option (Nat×Nat)){l L:List (Nat×Value)}(hl:Di S β l L){c C:Array Value}(hc:AU S β c C) :
  Mq S β (Instr.fill place c l) (Instr.fill place C L):=by
 induction hl generalizing c C with
 |nil=>exact .some hc
 |@cons i v V l L hv _ ih =>
  simp only[Instr.fill];cases place i with
  |none=>exact .none
  |some os =>
   obtain⟨off,size⟩:=os;dsimp only;rw[hv.cells.size,hc.size];split
   .exact .none
   .refine ih ?_;have h1:=tE (S:=S) (β:=β) off 0 hc hv.cells.toList;have e:∀(w:Value) (c:Array Value),w.cells.zipIdx.foldl (λcs x=>match x with|(c,j)=>cs.setIfInBounds (off+j) c) c=(w.cells.toList.zipIdx 0).foldl (λcs (x:Value×Nat)=>cs.setIfInBounds (off+x.2) x.1) c:=by
     intro w c;rw[<-zM];simp
    rw[e,e];exact h1
def rE (t:TypeId)(hz:bN P.a t=true){l L:Array (Nat×Value)}(hl:Di S β l.toList L.toList):AX P S Ck G β (Instr.build t l) (Instr.build t L) (λAQ a A=>AO S AQ a A):=by
 refine AJ (cj hz) ?_;rintro Cp z _ D5 ⟨rfl,hz⟩;refine AJ (aj _) ?_;rintro Cb d _ BM ⟨rfl,_⟩;cases d with
 |struct fs =>
  refine AJ (R:=λ_ a A=>a=A) ?_ ?_
  .rw[zJ];have:=gq (P:=P) (S:=S) (Ck:=Ck) (G:=G) (f:=λ(f:Field)=>do pure (f.offset,<-sizeOf f.type)) (λx β=>AJ (aD _) (by rintro Dh n _ _ rfl;exact AL rfl)) fs.toList Cb;exact AJ this (by rintro Dh n _ _ rfl;exact AL rfl)
  .rintro Dh places _ BR rfl;have h:=iJ (λi=>places[i]?) ((hl.mono D5).mono BM |>.mono BR) ((hz.mono BM).mono BR).cells;revert h;generalize Instr.fill (λi=>places[i]?) z.cells l.toList=x;generalize Instr.fill (λi=>places[i]?) z.cells L.toList=X;intro h;cases h with
   |none=>exact λ_ _ _ _ _ _ _ _=>trivial
   |some h=>exact AL h.agg
 |array n elem =>
  refine AJ (aD _) ?_;rintro Dh size _ BR rfl;have h:=iJ (λi=>some (i*size,size)) ((hl.mono D5).mono BM |>.mono BR) ((hz.mono BM).mono BR).cells;revert h;generalize Instr.fill (λi=>some (i*size,size)) z.cells l.toList=x;generalize Instr.fill (λi=>some (i*size,size)) z.cells L.toList=X;intro h;cases h with
  |none=>exact λ_ _ _ _ _ _ _ _=>trivial
  |some h=>exact AL h.agg
 |_=>exact λ_ _ _ _ _ _ _ _=>trivial
def gt {z:Array Value}(h:AU S β z z)(n:Nat):AU S β ((Array.range n).map (z[· % z.size]!)) ((Array.range n).map (z[· % z.size]!)):=by
 refine AU.map _ λi _=>?_;by_cases hz:i % z.size<z.size
 .rw[getElem!_pos z _ hz];exact h.at_ _ _ _ (xD hz) (xD hz)
 .rw[getElem!_neg z _ hz];exact AO.bool false
def kM (t:TypeId)(n:Nat)(hz:∀e,P.a.underlying t=some (.slice e)->bN P.a e=true){l L:Array (Nat×Value)}(hl:Di S β l.toList L.toList) :
  AX P S Ck G β (Instr.buildSlice t n l) (Instr.buildSlice t n L) (λAQ a A=>AO S AQ a A):=by
 refine AJ (aj _) ?_;rintro Cp d _ D5 ⟨rfl,hd⟩;cases d with
 |slice e =>
  refine AJ (aD _) ?_;rintro Cb size _ BM rfl
  have key : ∀ (AQ : Bc) (z : Array Value), Cb.le AQ -> AU S AQ z z -> AX P S Ck G AQ (do
    let some cells:=Instr.fill (λi=>some (i*size,size)) ((Array.range (n*size)).map (z[· % z.size]!)) l.toList
     |stuck "buildSlice: a part of the wrong size"
    pure (.slice (some (<-newRow e cells)) n n):Sem Value) (do
    let some cells:=Instr.fill (λi=>some (i*size,size)) ((Array.range (n*size)).map (z[· % z.size]!)) L.toList
     |stuck "buildSlice: a part of the wrong size"
    pure (.slice (some (<-newRow e cells)) n n):Sem Value) (λAQ a A=>AO S AQ a A):=by
   intro AQ z hle hz;have h:=iJ (λi=>some (i*size,size)) ((hl.mono D5).mono BM |>.mono hle) (gt hz (n*size));revert h;generalize Instr.fill (λi=>some (i*size,size)) ((Array.range (n*size)).map (z[· % z.size]!)) l.toList=x;generalize Instr.fill (λi=>some (i*size,size)) ((Array.range (n*size)).map (z[· % z.size]!)) L.toList=X;intro h;cases h with
   |none=>exact λ_ _ _ _ _ _ _ _=>trivial
   |some h =>
    refine AJ (eX e h) ?_;intro Dh a A _ ha;exact AL (ha.sl _ _)
  dsimp only;by_cases h1:n*size > 2 ^ 24
  .simp only[if_pos h1];refine AJ (R:=λ_ (_ _:Unit)=>False) ?_ (λ_ _ _ _ h=>h.elim);refine AV ?_;intro g e;cases e
  .simp only[if_neg h1];by_cases h2:n*size=0
   .simp only[if_pos h2];exact AJ (AL (R:=λAQ (a A:Array Value)=>a=A/\AU S AQ a a) ⟨rfl,Aa⟩) (by rintro Dh z _ hle ⟨rfl,h⟩;exact key _ _ hle h)
   .simp only[if_neg h2];refine AJ (cj (hz e hd)) ?_;rintro Dh z _ BR ⟨rfl,h⟩;exact AJ (AL (R:=λAQ (a A:Array Value)=>a=A/\AU S AQ a a) ⟨rfl,h.cells⟩) (by rintro I0 z _ hle ⟨rfl,h⟩;exact key _ _ (Bc.le_trans BR hle) h)
 |_=>exact λ_ _ _ _ _ _ _ _=>trivial
def i8 (n:Nat):AX P S Ck G β (askRoom n) (askRoom n) (λ_ _ _=>True):=by
 unfold askRoom;split
 .exact pF
 .exact AL trivial
def li (t:TypeId)(hz:∀e,P.a.underlying t=some (.slice e)->bN P.a e=true){l L c C:Value}(hl:AO S β l L)(hc:AO S β c C) :
  AX P S Ck G β (Instr.makeSlice t l c) (Instr.makeSlice t L C) (λAQ a A=>AO S AQ a A):=by
 refine AJ (aj _) ?_;rintro Cp d _ D5 ⟨rfl,hd⟩;cases d with
 |slice e =>
  refine AJ (ef (hl.mono D5)) ?_;rintro Cb len _ BM rfl;refine AJ (ef ((hc.mono D5).mono BM)) ?_;rintro Dh cap _ BR rfl;refine AJ (aZ _) ?_;rintro I0 info _ Fb ⟨rfl,_⟩;dsimp only
  have key : ∀ AQ : Bc, AX P S Ck G AQ (do
    askRoom ((IntKind.i64.wrap cap).toNat*info.bytes)
    let n:=(IntKind.i64.wrap cap).toNat*(<-sizeOf e)
    let zero<-if n=0 then pure #[] else do pure (<-zeroValue e).cells
    let a<-newRow e ((Array.range n).map (zero[· % zero.size]!))
    pure (.slice (some a) (IntKind.i64.wrap len).toNat (IntKind.i64.wrap cap).toNat):Sem Value) (do
    askRoom ((IntKind.i64.wrap cap).toNat*info.bytes)
    let n:=(IntKind.i64.wrap cap).toNat*(<-sizeOf e)
    let zero<-if n=0 then pure #[] else do pure (<-zeroValue e).cells
    let a<-newRow e ((Array.range n).map (zero[· % zero.size]!))
    pure (.slice (some a) (IntKind.i64.wrap len).toNat (IntKind.i64.wrap cap).toNat):Sem Value) (λAQ a A=>AO S AQ a A):=by
   intro AQ;refine AJ (i8 _) ?_;rintro Ta _ _ NI _;refine AJ (aD _) ?_;rintro β7 size _ Zh rfl;dsimp only
   have fin : ∀ (AQ : Bc) (z : Array Value), AU S AQ z z -> AX P S Ck G AQ (do
     let a<-newRow e ((Array.range ((IntKind.i64.wrap cap).toNat*size)).map (z[· % z.size]!))
     pure (.slice (some a) (IntKind.i64.wrap len).toNat (IntKind.i64.wrap cap).toNat):Sem Value) (do
     let a<-newRow e ((Array.range ((IntKind.i64.wrap cap).toNat*size)).map (z[· % z.size]!))
     pure (.slice (some a) (IntKind.i64.wrap len).toNat (IntKind.i64.wrap cap).toNat):Sem Value) (λAQ a A=>AO S AQ a A):=by
    intro AQ z h;refine AJ (eX e (gt h _)) ?_;intro Dh a A _ ha;exact AL (ha.sl _ _)
   split
   .exact AJ (AL (R:=λAQ (a A:Array Value)=>a=A/\AU S AQ a a) ⟨rfl,Aa⟩) (by rintro Dh z _ hle ⟨rfl,h⟩;exact fin _ _ h)
   .refine AJ (cj (hz e hd)) ?_;rintro Dh z _ BR ⟨rfl,h⟩;exact AJ (AL (R:=λAQ (a A:Array Value)=>a=A/\AU S AQ a a) ⟨rfl,h.cells⟩) (by rintro I0 z _ hle ⟨rfl,h⟩;exact fin _ _ h)
  have pan:∀(AQ:Bc) (m:String) (k K:Unit->Sem Value),AX P S Ck G AQ (runtimePanic (.error m) >>= k) (runtimePanic (.error m) >>= K) (λAQ a A=>AO S AQ a A):=λAQ m k K=>by
   refine AJ (R:=λ_ _ _=>False) (au _ trivial) ?_;intro _ _ _ _ h;exact h.elim
  split
  .split
   .exact pan _ _ _ _
   .split
    .exact pan _ _ _ _
    .refine AJ (eR _) ?_;rintro JQ q _ _ rfl;exact pan _ _ _ _
  .exact key _
 |_=>exact λ_ _ _ _ _ _ _ _=>trivial
def rF {v V:Value}(h:AO S β v V):AX P S Ck G β (Builtin.lenOf v) (Builtin.lenOf V) (λ_ a A=>a=A/\∀x,v=.slice (some x) 0 0->a=0):=by
 cases h with
 |string s=>exact AL ⟨rfl,λx e=>by cases e⟩
 |Ei l c=>exact AL ⟨rfl,λx e=>by cases e⟩
 |slice o s l c hb=>exact AL ⟨rfl,λx e=>by cases e;rfl⟩
 |Cf _=>exact AL ⟨rfl,λ_ _=>rfl⟩
 |_=>exact AR
def dM (size n:Nat){v V:Value}(h:AO S β v V)(h0:∀x,v=.slice (some x) 0 0->n=0):AX P S Ck G β (Builtin.firstCells size n v) (Builtin.firstCells size n V) (λAQ a A=>AU S AQ a A):=by
 cases h with
 | string s => exact AL ⟨rfl, fun i v V h1 h2 => by
   rw[h1] at h2;cases h2;rw[yl] at h1;cases hb:(s.extract 0 n).data[i]? with
   |none=>rw[hb] at h1;cases h1
   |some b=>rw[hb] at h1;cases h1;exact .int _ _⟩
 |Ei l c=>exact AL Aa
 |slice o s l c hb=>exact gn (BZ.mk (a:=⟨_,o,s⟩) (A:=⟨_,o,s⟩) hb rfl rfl) _
 |Cf _ =>
  obtain rfl:=h0 _ rfl;unfold Builtin.firstCells;dsimp only;rw[Nat.zero_mul];exact AL Aa
 |_=>exact AR
def jJ (size:Nat){v V:Value}(h:AO S β v V):AX P S Ck G β (Builtin.firstCells size 0 v) (Builtin.firstCells size 0 V) (λ_ a A=>a=#[]/\A=#[]):=by
 cases h with
 |string s =>
  have e:((s.extract 0 0).data.map λb=>Value.int .u8 b.toNat)=#[]:=Array.eq_empty_of_size_eq_zero (by rw[Array.size_map];simp[ByteArray.extract,ByteArray.copySlice]);exact AL ⟨e,e⟩
 |Ei l c=>exact AL ⟨rfl,rfl⟩
 |slice o s l c hb =>
  unfold Builtin.firstCells;dsimp only;rw[Nat.zero_mul];exact AL ⟨rfl,rfl⟩
 |Cf _ =>
  unfold Builtin.firstCells;dsimp only;rw[Nat.zero_mul];exact AL ⟨rfl,rfl⟩
 |_=>exact AR
def Ga.mono {β AQ:Bc}(h:β.le AQ){b B:Option Addr}(r:Ga β b B):Ga AQ b B:=by
 cases r with
 |none=>exact .none
 |some r=>exact .some (r.mono h)
def E1 {α EJ:Type}{m:Sem α}{M:Sem EJ}{R:Bc->α->EJ->Prop}(h:∀w es,∃u w' es',m.runT P.a w es=(.halt (.unsupported u) w',es')/\∀g,u≠.initOrder g):AX P S Ck G β m M R:=by
 intro w W n hw ht Ce Cm hb;obtain⟨u,w',es',h1,h2⟩:=h w Ce;rw[h1];exact h2
def JR (a:Addr)(n:Nat)(w:World)(es:Array Event):∃b,(Builtin.holdsCells a n).runT P.a w es=(.ok b w,es):=by
 unfold Builtin.holdsCells;rw[ah];have e:(shape a.block).runT P.a w es=(.ok (w.shape? a.block) w,es):=rfl;rw[e];dsimp only;cases w.shape? a.block with
 |none=>exact⟨_,rfl⟩
 |some x=>exact⟨_,rfl⟩
def Kk (size l n:Nat)(b:Option Addr)(x:Value)(w:World)(es:Array Event):∃r,(Builtin.mayShare size l n b x).runT P.a w es=(.ok r w,es):=by
 have k : ∀ r : Bool, ∃ r', (if !r then pure true else match x with
   |.slice (some c) _ _=>do pure (!(<-Builtin.holdsCells c (n*size))||b.any (·.block==c.block))
   |_=>pure false:Sem Bool).runT P.a w es=(.ok r' w,es):=by
  intro r;cases r with
  |false=>exact⟨true,rfl⟩
  |true =>
   simp only[Bool.not_true,xP,if_false];split
   .rw[ah];obtain⟨h,e⟩:=JR (P:=P) ‹Addr› (n*size) w es;rw[e];exact⟨_,rfl⟩
   .exact⟨_,rfl⟩
 unfold Builtin.mayShare;cases b with
 |none=>exact k true
 |some a =>
  dsimp only;rw[ah];obtain⟨h,e⟩:=JR (P:=P) a (l*size) w es;rw[e];dsimp only;rw[ah];have e:(frozen (a.add (l / 2*size))).runT P.a w es=(.ok (w.frozen? (a.add (l / 2*size))) w,es):=rfl;rw[e];exact k _
def mr {α:Type}(size l n:Nat)(b:Option Addr)(x:Value)(why:Unsupported)(hw:∀g,why≠.initOrder g)(k:Unit->Sem α)(w:World)(es:Array Event) :
    ∃ u w' es', ((do if !(<- Builtin.mayShare size l n b x) then mark .noRoom
                     unsupported why) >>= k:Sem α).runT P.a w es=(.halt (.unsupported u) w',es')/\∀g,u≠.initOrder g:=by
  rw[ah,ah];obtain⟨r,e⟩:=Kk (P:=P) size l n b x w es;rw[e];cases r with
  |true=>exact⟨why,w,es,rfl,hw⟩
  |false=>exact⟨why,w,es.push ⟨.mark .noRoom,false,true⟩,rfl,hw⟩
def pG (ts:Array TypeId)(t:TypeId)(hz:∀e s,ts[0]?=some s->P.a.underlying s=some (.slice e)->bN P.a e=true)(hni:∀x k,ts[1]?=some x->P.a.underlying x≠some (.int k)){a A:Array Value}(h:AU S β a A) :
    AX P S Ck G β (Builtin.append_ ts t a) (Builtin.append_ ts t A) (λAQ v V=>AO S AQ v V):=by
  unfold Builtin.append_;cases ht:ts[0]? with
  |none=>exact AR
  |some t0 =>
    cases ha:a[0]? with
    |none=>exact AR
    |some s =>
      obtain⟨Sv,hS,hs⟩:=h.get? ha;rw[hS];cases hb:a[1]? with
      |none=>exact AR
      |some x =>
        obtain⟨X,hX,hx⟩:=h.get? hb;rw[hX];dsimp only;refine AJ (aj _) ?_;rintro Cp d _ D5 ⟨rfl,hd⟩;replace hs:=hs.mono D5;replace hx:=hx.mono D5;cases d with
        |slice e =>
          have hze:=hz e t0 ht hd
          have tail : ∀ (AQ : Bc) (b B : Option Addr) (l c : Nat), Cp.le AQ -> (Ga AQ b B ∨ l = 0 ∧ c = 0) -> AO S AQ (.slice b l c) (.slice B l c) -> AX P S Ck G AQ (do
              let size<-sizeOf e
              let zeros<-match ts[1]? with
                |some Pg=>do pure ((<-underlying Pg) matches .int _)
                |none=>pure false
              let n <- if zeros then do
                  let l:=IntKind.i64.wrap (<-asInt x)
                  if l<0 then runtimePanic (.error "makeslice: len out of range")
                  if l*(<-typeInfo e).bytes > 2 ^ 48 then
                    let made<-choose (.extern "append.ofMake.carriedOut" 2)
                    runtimePanic (.error (if made==1 then "makeslice: len out of range" else "growslice: len out of range"))
                  pure l.toNat
                else Builtin.lenOf x
              let appended:Sem (Array Value) :=
                if !zeros then Builtin.firstCells size n x
                else if n*size=0 then pure #[]
                else do pure (Builtin.zeroCells (<-zeroValue e).cells n)
              let need:=l+n
              if need<=c then
                let new<-appended
                if let some a:=b then storeCells (a.add (l*size)) new.toList
                pure (.slice b need c)
              else
                if(need:Int) > IntKind.i64.max/\(zeros\/(<-typeInfo e).bytes=0) then runtimePanic (.error "growslice: len out of range")
                if Builtin.nextslicecap need c*(<-typeInfo e).bytes > 2 ^ 48 then(if zeros then runtimePanic (.error "growslice: len out of range") else do
                  if !(<-Builtin.mayShare size l n b x) then mark .noRoom
                  unsupported (.resourceLimit "append: a slice or a string whose bytes no memory bears"))
                let DK<-choose (.appendCap need c e)
                askRoom (DK*(<-typeInfo e).bytes)
                let old<-Builtin.firstCells size l (.slice b l c)
                let new<-appended
                let rest:=Builtin.zeroCells (<-zeroValue e).cells (DK-need)
                pure (.slice (some (<-newRow e (old++new++rest))) need DK):Sem Value) (do
              let size<-sizeOf e
              let zeros<-match ts[1]? with
                |some Pg=>do pure ((<-underlying Pg) matches .int _)
                |none=>pure false
              let n <- if zeros then do
                  let l:=IntKind.i64.wrap (<-asInt X)
                  if l<0 then runtimePanic (.error "makeslice: len out of range")
                  if l*(<-typeInfo e).bytes > 2 ^ 48 then
                    let made<-choose (.extern "append.ofMake.carriedOut" 2)
                    runtimePanic (.error (if made==1 then "makeslice: len out of range" else "growslice: len out of range"))
                  pure l.toNat
                else Builtin.lenOf X
              let appended:Sem (Array Value) :=
                if !zeros then Builtin.firstCells size n X
                else if n*size=0 then pure #[]
                else do pure (Builtin.zeroCells (<-zeroValue e).cells n)
              let need:=l+n
              if need<=c then
                let new<-appended
                if let some a:=B then storeCells (a.add (l*size)) new.toList
                pure (.slice B need c)
              else
                if(need:Int) > IntKind.i64.max/\(zeros\/(<-typeInfo e).bytes=0) then runtimePanic (.error "growslice: len out of range")
                if Builtin.nextslicecap need c*(<-typeInfo e).bytes > 2 ^ 48 then(if zeros then runtimePanic (.error "growslice: len out of range") else do
                  if !(<-Builtin.mayShare size l n B X) then mark .noRoom
                  unsupported (.resourceLimit "append: a slice or a string whose bytes no memory bears"))
                let DK<-choose (.appendCap need c e)
                askRoom (DK*(<-typeInfo e).bytes)
                let old<-Builtin.firstCells size l (.slice B l c)
                let new<-appended
                let rest:=Builtin.zeroCells (<-zeroValue e).cells (DK-need)
                pure (.slice (some (<-newRow e (old++new++rest))) need DK):Sem Value) (λAQ v V=>AO S AQ v V):=by
            intro AQ b B l c hle ob hs;refine AJ (aD _) ?_;rintro Cb size _ BM rfl;have hx2:=(hx.mono hle).mono BM;have hs2:=hs.mono BM;have ob2:Ga Cb b B\/l=0/\c=0:=ob.imp (·.mono BM) λh=>h;clear hx hs ob;dsimp only;rcases h1:ts[1]? with _|xt
            all_goals first
              |refine AJ (R:=λ_ (a A:Bool)=>a=false/\A=false) (AL ⟨rfl,rfl⟩) ?_
              | (refine AJ (aj _) ?_
                 rintro aea d _ Ph ⟨rfl, hd⟩;replace hx2 := hx2.mono Ph;replace hs2 := hs2.mono Ph;replace ob2 : Ga aea b B ∨ l = 0 ∧ c = 0 := ob2.imp (·.mono Ph) fun h => h
                 refine AJ (R := fun _ (a A : Bool) => a = false ∧ A = false) (AL (by cases d with
                   | int k => exact absurd hd (hni xt k h1)
                   |_=>exact⟨rfl,rfl⟩)) ?_)
            all_goals
              rintro Dh z Z BR ⟨rfl,rfl⟩;simp only[xP,if_false,Bool.not_false,if_true,false_or];have hx3:=hx2.mono BR;have hs3:=hs2.mono BR;refine AJ (rF hx3) ?_;rintro I0 n _ Fb ⟨rfl,JS⟩;replace hx3:=hx3.mono Fb;replace hs3:=hs3.mono Fb;have ob4:Ga I0 b B\/l=0/\c=0:=ob2.imp (λh=>(h.mono BR).mono Fb) λh=>h;by_cases hn:l+n<=c
              · simp only[if_pos hn]
                rcases ob4 with ob4|⟨rfl,rfl⟩
                · refine AJ (dM _ _ hx3 JS) ?_
                  intro JQ y Y Fc hy;cases ob4 with
                  |none=>exact AL (.Ei _ _)
                  |some ha4 =>
                    refine AJ (fZ ((ha4.mono Fc).add _) hy.toList 0) ?_;intro Ta _ _ NI _;exact AL (((ha4.mono Fc).mono NI).sl _ _)
                · obtain rfl:n=0:=by omega
                  refine AJ (jJ size hx3) ?_
                  · rintro JQ _ _ Fc ⟨rfl,rfl⟩
                    have hs5:=hs3.mono Fc;cases b with
                    |none=>cases B with
                      |none=>exact AL hs5
                      |some B=>cases hs5
                    |some b=>cases B with
                      |none=>cases hs5
                      |some B=>exact AL hs5
              · simp only[if_neg hn]
                have fin : ∀ JQ : Bc, I0.le JQ -> AX P S Ck G JQ (do
                    let DK<-choose (.appendCap (l+n) c e)
                    askRoom (DK*(<-typeInfo e).bytes)
                    let old<-Builtin.firstCells size l (.slice b l c)
                    let new<-Builtin.firstCells size n x
                    let rest:=Builtin.zeroCells (<-zeroValue e).cells (DK-(l+n))
                    pure (.slice (some (<-newRow e (old++new++rest))) (l+n) DK):Sem Value) (do
                    let DK<-choose (.appendCap (l+n) c e)
                    askRoom (DK*(<-typeInfo e).bytes)
                    let old<-Builtin.firstCells size l (.slice B l c)
                    let new<-Builtin.firstCells size n X
                    let rest:=Builtin.zeroCells (<-zeroValue e).cells (DK-(l+n))
                    pure (.slice (some (<-newRow e (old++new++rest))) (l+n) DK):Sem Value) (λAQ v V=>AO S AQ v V):=by
                  intro JQ Fc;refine AJ (eR _) ?_;rintro Ta nc _ NI rfl;refine AJ (aZ _) ?_;rintro β7 info _ Zh ⟨rfl,_⟩;refine AJ (i8 _) ?_;intro β8 _ _ aec _;have l8:=Bc.le_trans (Bc.le_trans (Bc.le_trans Fc NI) Zh) aec;refine AJ (dM _ _ (hs3.mono l8) λx e=>by injection e) ?_;intro β9 y Y aed hy;refine AJ (dM _ _ ((hx3.mono l8).mono aed) JS) ?_;intro βa y' Y' aee hy'
                  refine AJ (cj hze) ?_;rintro βb z _ Zi ⟨rfl,hzv⟩;have Pj:AU S βb (Builtin.zeroCells z.cells (nc-(l+n))) (Builtin.zeroCells z.cells (nc-(l+n))):=gt hzv.cells _;refine AJ (eX e ((((hy.mono aee).mono Zi).append (hy'.mono Zi)).append Pj)) ?_;intro βc r R' _ hr;exact AL (hr.sl _ _)
                refine AJ (aZ _) ?_;rintro JQ info _ Fc ⟨rfl,_⟩;by_cases hc1:((l+n:Nat):Int) > IntKind.i64.max/\info.bytes=0
                · simp only[if_pos hc1]
                  exact AJ (R:=λ_ _ _=>False) (au _ trivial) (λ_ _ _ _ h=>h.elim)
                · simp only[if_neg hc1]
                  refine AJ (aZ _) ?_;rintro Ta Zj _ NI ⟨rfl,_⟩;by_cases hc2:Builtin.nextslicecap (l+n) c*Zj.bytes > 2 ^ 48
                  · simp only[if_pos hc2]
                    refine E1 λw es=>?_;exact mr size l n b x _ (by intro g e;cases e) _ w es
                  · simp only[if_neg hc2]
                    exact fin Ta (Bc.le_trans Fc NI)
          cases hs with
          |Ei l c=>exact tail Cp none none l c Cp.le_refl (.inl .none) (.Ei _ _)
          |slice o s l c hb=>exact tail Cp (some _) (some _) l c Cp.le_refl (.inl (.some (BZ.mk (a:=⟨_,o,s⟩) (A:=⟨_,o,s⟩) hb rfl rfl))) (.slice _ _ _ _ hb)
          |Cf h0=>exact tail Cp (some _) (some _) 0 0 Cp.le_refl (.inr ⟨rfl,rfl⟩) (.Cf h0)
          |_=>exact AR
        |_=>exact λ_ _ _ _ _ _ _ _=>trivial
def uV (ts:Array TypeId)(t:TypeId)(hc:∀t e d,ts[0]?=some t->P.a.underlying t≠some (.chan e d)){a A:Array Value}(h:AU S β a A):AX P S Ck G β (Builtin.len_ ts t a) (Builtin.len_ ts t A) (λAQ v V=>AO S AQ v V):=by
 unfold Builtin.len_;cases ht:ts[0]? with
 |none=>exact AR
 |some t0 =>
  cases ha:a[0]? with
  |none=>exact AR
  |some x =>
   obtain⟨X,hX,hr⟩:=h.get? ha;rw[hX];refine AJ (aj _) ?_;rintro Cp d _ hle ⟨rfl,hd⟩;replace hr:=hr.mono hle;cases d with
   |string=>cases hr with
    |string s=>exact AL (.int _ _)
    |_=>exact AR
   |array n e=>exact AL (.int _ _)
   |pointer e =>
    refine AJ (aj _) ?_;rintro Cb d _ hle ⟨rfl,_⟩;cases d with
    |array n e=>exact AL (.int _ _)
    |_=>exact λ_ _ _ _ _ _ _ _=>trivial
   |slice e=>cases hr with
    |Ei l c=>exact AL (.int _ _)
    |slice o s l c hb=>exact AL (.int _ _)
    |Cf _=>exact AL (.int _ _)
    |_=>exact AR
   |map k e=>cases hr with
    |Et=>exact AL (.int _ _)
    |_=>exact AR
   |chan e dir=>exact absurd hd (hc _ _ _ ht)
   |_=>exact λ_ _ _ _ _ _ _ _=>trivial
def uW (ts:Array TypeId)(t:TypeId)(hc:∀t e d,ts[0]?=some t->P.a.underlying t≠some (.chan e d)){a A:Array Value}(h:AU S β a A):AX P S Ck G β (Builtin.cap_ ts t a) (Builtin.cap_ ts t A) (λAQ v V=>AO S AQ v V):=by
 unfold Builtin.cap_;cases ht:ts[0]? with
 |none=>exact AR
 |some t0 =>
  cases ha:a[0]? with
  |none=>exact AR
  |some x =>
   obtain⟨X,hX,hr⟩:=h.get? ha;rw[hX];refine AJ (aj _) ?_;rintro Cp d _ hle ⟨rfl,hd⟩;replace hr:=hr.mono hle;cases d with
   |array n e=>exact AL (.int _ _)
   |pointer e =>
    refine AJ (aj _) ?_;rintro Cb d _ hle ⟨rfl,_⟩;cases d with
    |array n e=>exact AL (.int _ _)
    |_=>exact λ_ _ _ _ _ _ _ _=>trivial
   |slice e=>cases hr with
    |Ei l c=>exact AL (.int _ _)
    |slice o s l c hb=>exact AL (.int _ _)
    |Cf _=>exact AL (.int _ _)
    |_=>exact AR
   |chan e dir=>exact absurd hd (hc _ _ _ ht)
   |_=>exact λ_ _ _ _ _ _ _ _=>trivial
def nR {v V:Value}(h:AO S β v V)(i:Nat):AX P S Ck G β (Instr.extract v i) (Instr.extract V i) (λAQ v V=>AO S AQ v V):=by
 cases h with
 |tuple h1 h2 =>
  rename_i x X;unfold Instr.extract;dsimp only;cases hx:x[i]? with
  |none=>exact AR
  |some v=>obtain⟨V,hV,hr⟩:=(AU.mk h1 h2).get? hx;rw[hV];exact AL hr
 |_=>exact AR
def rG (t:TypeId)(hz:bN P.a t=true):AX P S Ck G β (Instr.alloc t true (.tuple #[])) (Instr.alloc t true (.tuple #[])) (λAQ v V=>AO S AQ v V):=by
 refine AJ (cj hz) ?_;rintro Cp z _ D5 ⟨rfl,hz⟩;refine AJ (gp t hz) ?_;intro Cb a A _ ha;exact AL ha.ptr
def uX (t:TypeId){v V:Value}(h:AO S β v V):AX P S Ck G β (Instr.box t v) (Instr.box t V) (λAQ v V=>AO S AQ v V):=by
 refine AJ (gp t h) ?_;intro Cb a A _ ha;exact AL ha.ptr
def pH (t:TypeId){v V:Value}(h:AO S β v V):AX P S Ck G β (Instr.loadAt t v) (Instr.loadAt t V) (λAQ v V=>AO S AQ v V):=by
 refine AJ (cI h) ?_;intro Cb a A _ ha;exact i6 t ha
def nS (t:TypeId){v V x X:Value}(h:AO S β v V)(hx:AO S β x X):AX P S Ck G β (Instr.storeAt t v x) (Instr.storeAt t V X) (λ_ _ _=>True):=by
 refine AJ (cI h) ?_;intro Cb a A hle ha;exact mp t ha (hx.mono hle)
end
def EK (P:Program)(t:TypeId):Bool:=match P.underlying t with
 |some (.int _)|some .bool|some .string=>true
 |_=>false
def Bw.cellsOf (P:Bw)(t:TypeId):P.b.cellsOf t=P.a.cellsOf t:=rfl
def Bw.bytesOf (P:Bw)(t:TypeId):P.b.bytesOf t=P.a.bytesOf t:=rfl
def Bw.depth (P:Bw):P.b.depth=P.a.depth:=rfl
def Bw.byteOfCell (P:Bw)(d:Nat):∀t off,byteOfCell P.b d t off=byteOfCell P.a d t off:=by
 induction d with
 |zero=>exact λ_ _=>rfl
 |succ d ih =>
  have e:Go.byteOfCell P.b d=Go.byteOfCell P.a d:=funext λt=>funext λo=>ih t o;intro t off;unfold Go.byteOfCell;rw[e]
  rfl
def Bw.cellOfByte (P:Bw)(d:Nat):∀t off,cellOfByte P.b d t off=cellOfByte P.a d t off:=by
 induction d with
 |zero=>exact λ_ _=>rfl
 |succ d ih =>
  have e:Go.cellOfByte P.b d=Go.cellOfByte P.a d:=funext λt=>funext λo=>ih t o;intro t off;unfold Go.cellOfByte;rw[e]
  rfl
def Bw.cellAtBytes (P:Bw)(d:Nat)(e:TypeId)(c o:Nat)(n:Int):cellAtBytes P.b d e c o n=cellAtBytes P.a d e c o n:=by
 have e1:Go.byteOfCell P.b d=Go.byteOfCell P.a d:=funext λt=>funext λo=>P.byteOfCell d t o;have e2:Go.cellOfByte P.b d=Go.cellOfByte P.a d:=funext λt=>funext λo=>P.cellOfByte d t o;unfold Go.cellAtBytes;rw[e1,e2]
 rfl
section
variable {P:Bw} {S:CF} {Ck:Code->Prop} {G:Nat} {β:Bc}
def ms {b B:Nat}(h:β b B):AX P S Ck G β (numberAt b) (numberAt B) (λAQ x X=>match x,X with|none,none=>True|some (a,l),some (A,L)=>BZ AQ a A/\l=L|_,_=>False):=by
 cases hh:S.hid b with
 |false =>
  refine AJ (j9 h hh) ?_;rintro Cp s _ hle rfl;cases s with
  |some x=>exact AL trivial
  |none =>
   refine AJ (eU (hle _ _ h) hh) ?_;intro Cb o O _ ho;cases ho with
   |number o s l hb=>exact AL ⟨⟨hb,rfl,rfl⟩,rfl⟩
   |_=>exact AL trivial
 |true =>
  intro w W n hw ht Ce Cm _;obtain⟨h1,Pf,OJ⟩:=hw.Db b B h hh;have e1:(numberAt b).runT P.a w Ce=(.ok none w,Ce.push ⟨.obj b,false,false⟩):=by
   unfold numberAt;rw[ah];have e:(shape b).runT P.a w Ce=(.ok none w,Ce):=by
    show(Result.ok (w.shape? b) w,Ce)=_;unfold World.shape?;rw[h1]
   rw[e];dsimp only;simp only[zm,xP,if_false];rw[ah];have e:(getObj b).runT P.a w Ce=(.ok (.coro none) w,Ce.push ⟨.obj b,false,false⟩):=by simp only[Go.getObj,Sem.runT,h1];rfl
   rw[e]
   rfl
  cases Gu:S.hid.BX with
  |true =>
   have h2:=OJ Gu;have e2:(numberAt B).runT P.b W Cm=(.ok none W,Cm.push ⟨.obj B,false,false⟩):=by
    unfold numberAt;rw[ah];have e:(shape B).runT P.b W Cm=(.ok none W,Cm):=by
     show(Result.ok (W.shape? B) W,Cm)=_;unfold World.shape?;rw[h2]
    rw[e];dsimp only;simp only[zm,xP,if_false];rw[ah];have e:(getObj B).runT P.b W Cm=(.ok (.coro none) W,Cm.push ⟨.obj B,false,false⟩):=by simp only[Go.getObj,Sem.runT,h2];rfl
    rw[e]
    rfl
   rw[e1,e2];exact⟨β,none,W,[⟨.obj B,false,false⟩],by simp,trivial,{ Fin.refl hw with evs:=λh=>by rw[Gu] at h;cases h }⟩
  |false =>
  obtain⟨c,t,f,h2⟩:=Pf Gu;have e2:(numberAt B).runT P.b W Cm=(.ok none W,Cm):=by
   unfold numberAt;rw[ah];have e:(shape B).runT P.b W Cm=(.ok (some (t,c.size)) W,Cm):=by
    show(Result.ok (W.shape? B) W,Cm)=_;unfold World.shape?;rw[h2]
   rw[e]
   rfl
  rw[e1,e2];exact⟨β,none,W,[],by simp,trivial,Fin.refl hw⟩
def gu {b B:Nat}(h:β b B):AX P S Ck G β (viewAt b) (viewAt B) (λ_ x X=>x=none/\X=none):=by
 cases hh:S.hid b with
 |false =>
  refine AJ (j9 h hh) ?_;rintro Cp s _ hle rfl;cases s with
  |some x=>exact AL ⟨rfl,rfl⟩
  |none =>
   refine AJ (eU (hle _ _ h) hh) ?_;intro Cb o O _ ho;cases ho<;>exact AL ⟨rfl,rfl⟩
 |true =>
  intro w W n hw ht Ce Cm _;obtain⟨h1,Pf,OJ⟩:=hw.Db b B h hh;have e1:(viewAt b).runT P.a w Ce=(.ok none w,Ce.push ⟨.obj b,false,false⟩):=by
   unfold viewAt;rw[ah];have e:(shape b).runT P.a w Ce=(.ok none w,Ce):=by
    show(Result.ok (w.shape? b) w,Ce)=_;unfold World.shape?;rw[h1]
   rw[e];dsimp only;simp only[zm,xP,if_false];rw[ah];have e:(getObj b).runT P.a w Ce=(.ok (.coro none) w,Ce.push ⟨.obj b,false,false⟩):=by simp only[Go.getObj,Sem.runT,h1];rfl
   rw[e]
   rfl
  cases Gu:S.hid.BX with
  |true =>
   have h2:=OJ Gu;have e2:(viewAt B).runT P.b W Cm=(.ok none W,Cm.push ⟨.obj B,false,false⟩):=by
    unfold viewAt;rw[ah];have e:(shape B).runT P.b W Cm=(.ok none W,Cm):=by
     show(Result.ok (W.shape? B) W,Cm)=_;unfold World.shape?;rw[h2]
    rw[e];dsimp only;simp only[zm,xP,if_false];rw[ah];have e:(getObj B).runT P.b W Cm=(.ok (.coro none) W,Cm.push ⟨.obj B,false,false⟩):=by simp only[Go.getObj,Sem.runT,h2];rfl
    rw[e]
    rfl
   rw[e1,e2];exact⟨β,none,W,[⟨.obj B,false,false⟩],by simp,⟨rfl,rfl⟩,{ Fin.refl hw with evs:=λh=>by rw[Gu] at h;cases h }⟩
  |false =>
  obtain⟨c,t,f,h2⟩:=Pf Gu;have e2:(viewAt B).runT P.b W Cm=(.ok none W,Cm):=by
   unfold viewAt;rw[ah];have e:(shape B).runT P.b W Cm=(.ok (some (t,c.size)) W,Cm):=by
    show(Result.ok (W.shape? B) W,Cm)=_;unfold World.shape?;rw[h2]
   rw[e]
   rfl
  rw[e1,e2];exact⟨β,none,W,[],by simp,⟨rfl,rfl⟩,Fin.refl hw⟩
def cT {a A:Addr}(h:BZ β a A):AX P S Ck G β (behindNumber a) (behindNumber A) (λAQ x X=>BZ AQ x.1 X.1/\x.2=X.2):=by
 refine AJ (ms h.block) ?_;intro Cp x X hle hx;cases x with
 |none=>cases X with
  |none=>exact AL ⟨h.mono hle,rfl⟩
  |some _=>exact hx.elim
 |some x=>cases X with
  |none=>exact hx.elim
  |some X=>exact AL hx
def pI {a A:Addr}(h:BZ β a A):AX P S Ck G β (noView a) (noView A) (λ_ _ _=>True):=by
 refine AJ (gu h.block) ?_;rintro Cp _ _ hle ⟨rfl,rfl⟩;exact AL trivial
def pJ {a A:Addr}(h:BZ β a A):AX P S Ck G β (byteOf a) (byteOf A) (λ_ x X=>x=X):=by
 unfold byteOf;rw[<-h.spot,<-h.off];cases a.spot with
 |some s=>exact AL rfl
 |none =>
  refine AJ aL ?_;rintro Cp p p' hle ⟨hp,Zk⟩;subst p p';simp only[Bw.cellsOf,Bw.bytesOf,Bw.depth,Bw.byteOfCell];refine AJ (pI (h.mono hle)) ?_;rintro Cb _ _ BM _;refine AJ (iH (BM _ _ (hle _ _ h.block))) ?_;rintro Dh s _ BR (rfl|rfl)
  rotate_left
  .exact λ_ _ _ _ _ _ _ _=>trivial
  cases s with
  |none=>exact λ_ _ _ _ _ _ _ _=>trivial
  |some x =>
   obtain⟨e,n⟩:=x;dsimp only;by_cases h0:P.a.cellsOf e=0
   .simp only[if_pos h0];exact AL rfl
   .simp only[if_neg h0];split
    .exact AL rfl
    .exact AR
def gv (ts:Array TypeId)(t:TypeId){v V x X:Value}(hv:AO S β v V)(hx:AO S β x X):AX P S Ck G β (Builtin.unsafeAdd_ ts t #[v,x]) (Builtin.unsafeAdd_ ts t #[V,X]) (λAQ y Y=>∃a A,y=.pointer (some a)/\Y=.pointer (some A)/\BZ AQ a A):=by
 unfold Builtin.unsafeAdd_;have tail:∀(p Q:Option Addr),Ga β p Q->AO S β (.pointer p) (.pointer Q)->AX P S Ck G β (Builtin.unsafeAdd_ ts t #[.pointer p,x]) (Builtin.unsafeAdd_ ts t #[.pointer Q,X]) (λAQ y Y=>∃a A,y=.pointer (some a)/\Y=.pointer (some A)/\BZ AQ a A):=by
  intro p Q hp hpv;refine AJ (ef hx) ?_;rintro Cp n _ D5 rfl;dsimp only
  have rest : AX P S Ck G Cp (do
    if n<0 then unsupported (.unsafePointer "Add: a move by a count below zero")
    let some a:=p|unsupported (.unsafePointer "Add")
    let some (e,cells)<-shape a.block|unsupported (.unsafePointer "Add")
    let P<-program
    match cellAtBytes P P.depth e (cells / P.cellsOf e) a.off n with
    |some off=>pure (.pointer (some { a with off }))
    |none=>unsupported (.unsafePointer "Add"):Sem Value) (do
    if n<0 then unsupported (.unsafePointer "Add: a move by a count below zero")
    let some a:=Q|unsupported (.unsafePointer "Add")
    let some (e,cells)<-shape a.block|unsupported (.unsafePointer "Add")
    let P<-program
    match cellAtBytes P P.depth e (cells / P.cellsOf e) a.off n with
    |some off=>pure (.pointer (some { a with off }))
    |none=>unsupported (.unsafePointer "Add"):Sem Value) (λAQ y Y=>∃a A,y=.pointer (some a)/\Y=.pointer (some A)/\BZ AQ a A):=by
   dsimp only;by_cases h0:n<0
   .simp only[if_pos h0];exact λ_ _ _ _ _ _ _ _=>by intro g e;cases e
   .simp only[if_neg h0];cases hp with
    |none=>exact λ_ _ _ _ _ _ _ _=>by intro g e;cases e
    |some ha =>
     rename_i a A;dsimp only;refine AJ (iH (D5 _ _ ha.block)) ?_;rintro Dh s _ BR (rfl|rfl)
     rotate_left
     .exact λ_ _ _ _ _ _ _ _=>by intro g e;cases e
     cases s with
     |none=>exact λ_ _ _ _ _ _ _ _=>by intro g e;cases e
     |some x =>
      obtain⟨e,c⟩:=x;refine AJ aL ?_;rintro I0 p _ Fb ⟨rfl,rfl⟩;rw[<-ha.off,Bw.cellAtBytes,Bw.depth,Bw.cellsOf];split
      .exact AL ⟨_,_,rfl,rfl,⟨Fb _ _ (BR _ _ (D5 _ _ ha.block)),rfl,ha.spot⟩⟩
      .exact λ_ _ _ _ _ _ _ _=>by intro g e;cases e
  by_cases h0:n=0
  .simp only[if_pos h0];cases hp with
   |none=>exact λ_ _ _ _ _ _ _ _=>by intro g e;cases e
   |some ha =>
    dsimp only;refine AJ (gu (D5 _ _ ha.block)) ?_;rintro Dh _ _ BR ⟨rfl,rfl⟩;exact AL ⟨_,_,rfl,rfl,(ha.mono D5).mono BR⟩
  .simp only[if_neg h0];exact rest
 cases hv with
 |EI=>exact tail none none .none .EI
 |ptr o s hb=>exact tail (some _) (some _) (.some (BZ.mk (a:=⟨_,o,s⟩) (A:=⟨_,o,s⟩) hb rfl rfl)) (.ptr o s hb)
 |_=>exact AR
def _root_.Go.Bl.AX.ptr {m M:Sem Value}(h:AX P S Ck G β m M (λAQ y Y=>∃a A,y=.pointer (some a)/\Y=.pointer (some A)/\BZ AQ a A)):AX P S Ck G β m M (λAQ a A=>AO S AQ a A) :=
 tC h (by rintro AQ _ _ _ ⟨a,A,rfl,rfl,h⟩;exact h.ptr)
def mt {a A:Addr}(h:BZ β a A)(l:Bool):AX P S Ck G β (asNumber a l) (asNumber A l) (λAQ x X=>AO S AQ x X):=by
 have ho:BS S Ck β (.number a l) (.number A l):=by
  obtain⟨b,o,s⟩:=a;obtain⟨B,O,s'⟩:=A;obtain⟨h1,h2,h3⟩:=h;cases h2;cases h3;exact .number _ _ _ h1
 refine AJ (i5 ho (λi=>ho.id i (by simp))) ?_;rintro Cb b B _ ⟨hb,_⟩;exact AL (.ptr _ _ hb)
def bP (t:TypeId){v V x X:Value}(hv:AO S β v V)(hx:AO S β x X):AX P S Ck G β (movedNumber t v x) (movedNumber t V X) (λAQ a A=>AO S AQ a A):=by
 unfold movedNumber;refine AJ (aj _) ?_;rintro Cp d _ D5 ⟨rfl,_⟩;dsimp only
 have main : AX P S Ck G Cp (do
   let .pointer (some n):=v|Builtin.unsafeAdd_ #[] t #[v,x]
   let (a,lost)<-behindNumber n
   match<-Builtin.unsafeAdd_ #[] t #[.pointer (some a),x] with
   |.pointer (some b)=>asNumber b lost
   |v=>pure v:Sem Value) (do
   let .pointer (some n):=V|Builtin.unsafeAdd_ #[] t #[V,X]
   let (a,lost)<-behindNumber n
   match<-Builtin.unsafeAdd_ #[] t #[.pointer (some a),X] with
   |.pointer (some b)=>asNumber b lost
   |v=>pure v:Sem Value) (λAQ a A=>AO S AQ a A):=by
  replace hx:=hx.mono D5;replace hv:=hv.mono D5;have h0:=(gv (P:=P) (Ck:=Ck) (G:=G) #[] t hv hx).ptr;cases hv with
  |ptr o s hb =>
   refine AJ (cT (BZ.mk (a:=⟨_,o,s⟩) (A:=⟨_,o,s⟩) hb rfl rfl)) ?_;rintro Cb ⟨a,l⟩ ⟨A,L⟩ BM ⟨ha,hl⟩;cases hl;refine AJ (gv #[] t ha.ptr (hx.mono BM)) ?_;rintro Dh _ _ BR ⟨a',A',rfl,rfl,ha'⟩;exact mt ha' l
  |_=>exact h0
 cases d with
 |unsafePointer=>exact λ_ _ _ _ _ _ _ _=>by intro g e;cases e
 |_=>exact main
def nT (k:IntKind){a A:Addr}(h:BZ β a A)(n:Int):AX P S Ck G β (Op.addrMod k a n) (Op.addrMod k A n) (λAQ a A=>AO S AQ a A):=by
 refine AJ (iH h.block) ?_;rintro Cp s _ D5 (rfl|rfl)
 rotate_left
 .exact λ_ _ _ _ _ _ _ _=>by intro g e;cases e
 cases s with
 |none=>exact λ_ _ _ _ _ _ _ _=>by intro g e;cases e
 |some x =>
  obtain⟨e,c⟩:=x;refine AJ (aZ _) ?_;rintro Cb i _ BM ⟨rfl,_⟩;dsimp only;split
  .exact λ_ _ _ _ _ _ _ _=>by intro g e;cases e
  .refine AJ (pJ ((h.mono D5).mono BM)) ?_;rintro Dh b _ _ rfl;exact AL (.int _ _)
def lj (hG:P.a.globals.size<=G){a A b B:Addr}(ha:BZ β a A):AX P S Ck G β (Op.twoPlaces a b) (Op.twoPlaces A B) (λ_ _ _=>False):=by
 intro w W n hw ht Ce Cm hb;have h1:=(hw.Cn.lo ha.block).1;have e:(Op.twoPlaces a b).runT P.a w Ce=(.halt (.unsupported .addressObserved) w,Ce):=by
  unfold Op.twoPlaces;rw[ah];have e:program.runT P.a w Ce=(.ok P.a w,Ce):=rfl;rw[e];dsimp only;rw[if_pos (by simp;right;omega)]
  rfl
 rw[e];intro g e;cases e
end
end Go.Bl
