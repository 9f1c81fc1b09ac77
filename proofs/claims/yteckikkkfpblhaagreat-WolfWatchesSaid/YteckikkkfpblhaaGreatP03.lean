/- Parts of the proof. -/
import Derived.Test.YteckikkkfpblhaaGreatP02
import Derived.Test.YteckikkkfpblhaaGreatP00
import Derived.Laws.Sem
set_option linter.all false
namespace Go.AW
def plain:Nat->Value->Bool
 |0,_=>false
 |_+1,.bool _|_+1,.int _ _|_+1,.string _|_+1,.pointer none|_+1,.slice none _ _|_+1,.nilFunc|_+1,.nilIface|_+1,.map none|_+1,.chan none=>true
 |n+1,.agg cs=>cs.all (plain n)
 |n+1,.tuple cs=>cs.all (plain n)
 |_,_=>false
def gy {S:Cb}{β:AO}:∀ {n:Nat} {v:Value},plain n v=true->Aw S β v v:=by
 intro n
 induction n with
 |zero=>intro v h;simp[plain] at h
 |succ n ih =>
  intro v h;cases v with
  |bool b=>exact .bool b
  |int k n=>exact .int k n
  |string s=>exact .string s
  |pointer a=>cases a with
   |none=>exact .Eh
   |some a=>simp[plain] at h
  |slice a l c=>cases a with
   |none=>exact .DF l c
   |some a=>simp[plain] at h
  |nilFunc=>exact .nilFunc
  |nilIface=>exact .nilIface
  |map r=>cases r with
   |none=>exact .DY
   |some a=>simp[plain] at h
  |chan r=>cases r with
   |none=>exact .Dl
   |some a=>simp[plain] at h
  |agg cs =>
   simp only[plain,xM] at h;exact .agg rfl λi v V h1 h2=>by rw[h1] at h2;cases h2;exact ih (h v (xP h1))
  |tuple cs =>
   simp only[plain,xM] at h;exact .tuple rfl λi v V h1 h2=>by rw[h1] at h2;cases h2;exact ih (h v (xP h1))
  |_=>simp[plain] at h
def bV (P:Program)(t:TypeId):Bool:=match P.info? t with
 |some i=>match i.zero with
  |some z=>plain 8 z
  |none=>true
 |none=>true
section
variable {P:Ba} {S:Cb} {Ck:Code->Prop} {G:Nat} {β:AO}
def cH {t:TypeId}(h:bV P.a t=true):AE P S Ck G β (zeroValue t) (zeroValue t) (λAx v V=>v=V/\Aw S Ax v V):=by
 refine Ar (bf t) ?_;rintro Ax a A _ ⟨rfl,hi⟩;unfold bV at h;rw[hi] at h;simp only at h;cases hz:a.zero with
 |none=>exact AB (by simp)
 |some z=>rw[hz] at h;exact Au ⟨rfl,gy h⟩
def i4 {a A:Addr}(h:BF β a A)(i n:Nat){acc ACC:Array Value}(Nz:AA S β acc ACC) :
  AE P S Ck G β (loadCellsFrom a i n acc) (loadCellsFrom A i n ACC) (λAx x X=>AA S Ax x X):=by
 induction n generalizing β i acc ACC with
 |zero=>exact Au Nz
 |succ n ih =>
  refine Ar (ix (h.add i) .plain) ?_;intro Ax v V hle hv;exact ih (h.mono hle) _ ((Nz.mono hle).push hv)
def gz {a A:Addr}(h:BF β a A)(n:Nat):AE P S Ck G β (loadCells a n) (loadCells A n) (λAx x X=>AA S Ax x X):=i4 h 0 n zK
def gt {a A:Addr}(h:BF β a A){l L:List Value}(hl:BJ (Aw S β) l L)(i:Nat):AE P S Ck G β (storeCells a l i) (storeCells A L i) (λ_ _ _=>True):=by
 induction l generalizing β i L with
 |nil=>cases hl;exact Au trivial
 |cons v l ih =>
  cases hl with
  |cons hv hr =>
   refine Ar (iZ (h.add i) .plain hv) ?_;intro Ax _ _ hle _;exact ih (h.mono hle) (hr.mono λ_ _=>Aw.mono hle) _
def zT {α:Type}{R:α->α->Prop}:∀ {l L:List α},l.length=L.length->(∀(i:Nat) (v V:α),l[i]?=some v->L[i]?=some V->R v V)->BJ R l L
 |[],[],_,_=>.nil
 |a::l,A::L,h,k=>.cons (k 0 a A rfl rfl) (zT (by simpa using h) λi v V h1 h2=>k (i+1) v V (by simpa using h1) (by simpa using h2))
 |[],_::_,h,_=>by simp at h
 |_::_,[],h,_=>by simp at h
def AA.toList {x X:Array Value}(r:AA S β x X):BJ (Aw S β) x.toList X.toList :=
 zT (by simpa using r.size) λi v V h1 h2=>r.at_ i v V (by simpa using h1) (by simpa using h2)
def BJ.get {α:Type}{R:α->α->Prop}{l L:List α}(h:BJ R l L):l.length=L.length/\∀(i:Nat) (v V:α),l[i]?=some v->L[i]?=some V->R v V:=by
 induction h with
 |nil=>exact⟨rfl,by simp⟩
 |cons ha _ ih =>
  refine⟨by simp[ih.1],λi v V h1 h2=>?_⟩;cases i with
  |zero=>simp at h1 h2;subst h1;subst h2;exact ha
  |succ i=>exact ih.2 i v V (by simpa using h1) (by simpa using h2)
def BJ.toArray {l L:List Value}(h:BJ (Aw S β) l L):AA S β l.toArray L.toArray :=
 ⟨by simpa using h.get.1,λi v V h1 h2=>h.get.2 i v V (by simpa using h1) (by simpa using h2)⟩
def jo (t:TypeId){a A:Addr}(h:BF β a A):AE P S Ck G β (loadVar t a) (loadVar t A) (λAx v V=>Aw S Ax v V):=by
 refine Ar (lE t) ?_;rintro Ax b _ hle rfl;split
 .refine Ar (aH t) ?_;rintro BS n _ Bp rfl;refine Ar (gz ((h.mono hle).mono Bp) n) ?_;intro CQ x X _ hx;exact Au hx.agg
 .exact ix (h.mono hle) _
def mK (t:TypeId){a A:Addr}(h:BF β a A){v V:Value}(hv:Aw S β v V):AE P S Ck G β (storeVar t a v) (storeVar t A V) (λ_ _ _=>True):=by
 refine Ar (aH t) ?_;rintro Ax n _ hle rfl;rw[hv.cells.size];split
 .exact λ_ _ _ _ _ _ _ _=>trivial
 .exact gt (h.mono hle) (hv.mono hle).cells.toList 0
def ff (t:TypeId){c C:Array Value}(h:AA S β c C):AE P S Ck G β (newRow t c) (newRow t C) (λAx a A=>BF Ax a A):=by
 refine Ar (jn (.cells h (λi h1 h2=>absurd h2 (by simp))) (λi=>by rw[h.id i])) ?_;rintro Ax b B _ ⟨hb,_⟩;exact Au ⟨hb,rfl,rfl⟩
def gC (t:TypeId){v V:Value}(h:Aw S β v V):AE P S Ck G β (newVar t v) (newVar t V) (λAx a A=>BF Ax a A):=ff t h.cells
def cy (t:TypeId){c C:Array Value}(h:AA S β c C)(o:Nat):AE P S Ck G β (part t c o) (part t C o) (λAx v V=>Aw S Ax v V):=by
 refine Ar (lE t) ?_;rintro Ax b _ hle rfl;split
 .refine Ar (aH t) ?_;rintro BS n _ Bp rfl;exact Au (((h.mono hle).mono Bp).extract _ _).agg
 .cases hc:c[o]? with
  |none=>exact Az
  |some v=>obtain⟨V,hV,hr⟩:=(h.mono hle).get? hc;rw[hV];exact Au hr
def cW {v V:Value}(h:Aw S β v V):AE P S Ck G β (Instr.sureAddr v) (Instr.sureAddr V) (λAx a A=>BF Ax a A):=by
 cases h with
 |ptr o s hb=>exact Au ⟨hb,rfl,rfl⟩
 |_=>exact Az
def az {α Ej:Type}{R:AO->α->Ej->Prop}(e:RuntimeError)(h:match e with|.bounds ..|.error _|.plain _|.nilDeref=>True|_=>False) :
  AE P S Ck G β (runtimePanic e:Sem α) (runtimePanic e:Sem Ej) R:=by
 refine Ar aQ ?_;rintro Ax a A _ ⟨rfl,rfl⟩;cases e with
 |bounds x y s c =>
  refine db (.iface _ (gy (n:=2) ?_));simp[plain]
 |error m=>exact db (.iface _ (.string _))
 |plain m=>exact db (.iface _ (.string _))
 |nilDeref=>exact db (.iface _ (.string _))
 |typeAssertion i c a m=>exact h.elim
 |panicNil=>exact h.elim
 |unhashable t=>exact h.elim
def B2 {α Ej:Type}{R:AO->α->Ej->Prop}(k:IntKind)(x y:Int)(c:BoundsCode):AE P S Ck G β (boundsPanic k x y c:Sem α) (boundsPanic k x y c:Sem Ej) R:=by
 unfold Go.boundsPanic;split
 .refine Ar (R:=λ_ a A=>a=A) ?_ ?_
  .refine Ar (eZ _) ?_;rintro Ax a A _ rfl;exact Au rfl
  .rintro Ax a A _ rfl;exact az (.bounds _ _ _ _) trivial
 .refine Ar (Au (R:=λ_ a A=>a=A) rfl) ?_;rintro Ax a A _ rfl;exact az (.bounds _ _ _ _) trivial
end
def jX (P:Program)(s:TypeId)(i:Nat):Bool:=match P.underlying s with
 |some (.struct fs)=>match fs[i]? with
  |some f=>match P.info? f.type with
   |some x=>x.size != 0
   |none=>true
  |none=>true
 |_=>true
section
variable {P:Ba} {S:Cb} {Ck:Code->Prop} {G:Nat} {β:AO}
def ov (t:TypeId):AE P S Ck G β (sizeOf t) (sizeOf t) (λ_ a A=>a=A/\∃x,P.a.info? t=some x/\x.size=a):=by
 refine Ar (bf t) ?_;rintro Ax a A _ ⟨rfl,h⟩;exact Au ⟨rfl,_,h,rfl⟩
def lb {a A:Addr}(h:BF β a A)(f:Field)(hf:∀x,P.a.info? f.type=some x->x.size≠0):AE P S Ck G β (fieldPlace a f) (fieldPlace A f) (λAx x X=>BF Ax x X):=by
 refine Ar (ov _) ?_;rintro Ax n _ hle ⟨rfl,x,h1,h2⟩;split
 .rename_i h0;exact absurd (h2.trans h0) (hf x h1)
 .exact Au ((h.mono hle).add _)
def ow (s:TypeId){v V:Value}(h:Aw S β v V)(i:Nat)(hf:jX P.a s i=true):AE P S Ck G β (Instr.fieldAt s v i) (Instr.fieldAt s V i) (λAx x X=>Aw S Ax x X):=by
 refine Ar (al _) ?_;rintro Ax d _ hle ⟨rfl,hd⟩;split
 .rename_i fs;split
  .rename_i f he;refine Ar (cW (h.mono hle)) ?_;intro BS a A _ ha;refine Ar (lb ha _ ?_) ?_
   .intro x hx;simp only[jX,hd,he,hx] at hf;simpa using hf
   .intro CQ x X _ hx;exact Au hx.ptr
  .exact Az
 .exact Az
def iy (t:TypeId)(k:IntKind)(i:Int)(base:Option Addr)(len:Nat)(elem:TypeId):Sem Value:=do
 let adf:=len<=1&&(match<-underlying t with|.array ..=>true|_=>false)
 match base with
 |some a =>
  if 0<=i/\i<len then pure (.pointer (some (a.add (i.toNat*(<-sizeOf elem)))))
  else if adf then unsupported (.noEntry "op/indexAddr.an index out of range at an array of length 0 or 1 (ledger 616)")
  else boundsPanic k i len .index
 |none=>boundsPanic k i 0 .index
inductive FK (β:AO):Option Addr->Option Addr->Prop
 |none:FK β none none
 |some {a A:Addr}:BF β a A->FK β (some a) (some A)
def fO (t:TypeId)(k:IntKind)(i:Int){b B:Option Addr}(hb:FK β b B)(len:Nat)(elem:TypeId):AE P S Ck G β (iy t k i b len elem) (iy t k i B len elem) (λAx y Y=>Aw S Ax y Y):=by
 refine Ar (al _) ?_;rintro Ax d _ hle ⟨rfl,_⟩;dsimp only;cases hb with
 |none=>exact B2 _ _ _ _
 |some ha =>
  dsimp only;split
  .refine Ar (aH _) ?_;rintro BS n _ Bp rfl;exact Au (((ha.mono hle).mono Bp).add _).ptr
  .cases d<;>dsimp only<;>split<;>first|exact B2 _ _ _ _|exact AB (λg e=>by cases e)
def mL (t:TypeId)(k:IntKind)(i:Int){b B:Addr}(elem:TypeId):AE P S Ck G β (iy t k i (some b) 0 elem) (iy t k i (some B) 0 elem) (λAx y Y=>Aw S Ax y Y):=by
 refine Ar (al _) ?_;rintro Ax d _ hle ⟨rfl,_⟩;dsimp only;split
 .exfalso;omega
 .cases d<;>dsimp only<;>split<;>first|exact B2 _ _ _ _|exact AB (λg e=>by cases e)
def ox (t:TypeId){v V x X:Value}(h:Aw S β v V)(hx:Aw S β x X):AE P S Ck G β (Instr.indexAt t v x) (Instr.indexAt t V X) (λAx y Y=>Aw S Ax y Y):=by
 refine Ar (dp hx) ?_;rintro B7 ⟨k,i⟩ _ Dp rfl;refine Ar (al _) ?_;rintro BS d _ Bp ⟨rfl,_⟩;have h2:=(h.mono Dp).mono Bp;clear h;cases d with
 |array len elem =>
  refine Ar (cW h2) ?_;intro CQ a A _ ha;exact fO t k i (.some ha) len elem
 |slice elem =>
  cases h2 with
  |DF l c=>exact fO t k i .none l elem
  |slice o s l c hb=>exact fO t k i (.some (BF.mk (a:=⟨_,o,s⟩) (A:=⟨_,o,s⟩) hb rfl rfl)) l elem
  |BP _=>exact mL t k i elem
  |_=>exact λ_ _ _ _ _ _ _ _=>trivial
 |_=>exact λ_ _ _ _ _ _ _ _=>trivial
def cX {x X:Value}(hx:Aw S β x X)(y:Nat)(c:BoundsCode):AE P S Ck G β (Instr.sliceBound x y c) (Instr.sliceBound X y c) (λ_ a A=>a=A):=by
 refine Ar (dp hx) ?_;rintro B7 ⟨k,i⟩ _ Dp rfl;dsimp only;split
 .exact Au rfl
 .exact B2 _ _ _ _
inductive Dx (S:Cb)(β:AO):Option Value->Option Value->Prop
 |none:Dx S β none none
 |some {a A:Value}:Aw S β a A->Dx S β (some a) (some A)
def Dx.mono {Ax:AO}(h:β.le Ax){a A:Option Value}(r:Dx S β a A):Dx S Ax a A:=by
 cases r with
 |none=>exact .none
 |some r=>exact .some (r.mono h)
def bX (sl:Bool)(len cap:Nat){l L h H m M:Option Value}(hl:Dx S β l L)(hh:Dx S β h H)(hm:Dx S β m M) :
  AE P S Ck G β (Instr.sliceBounds sl len cap l h m) (Instr.sliceBounds sl len cap L H M) (λ_ a A=>a=A):=by
 unfold Instr.sliceBounds;have e1:m.isSome=M.isSome:=by cases hm<;>rfl
 have low : ∀ (Ax : AO) (m' h' : Nat), β.le Ax -> AE P S Ck G Ax (do
   let l<-match l with
    |some v=>Instr.sliceBound v h' (if m.isSome then .slice3C else .sliceB)
    |none=>pure 0
   pure (l,h',m')) (do
   let l<-match L with
    |some v=>Instr.sliceBound v h' (if M.isSome then .slice3C else .sliceB)
    |none=>pure 0
   pure (l,h',m')) (λ_ a A=>a=A):=by
  intro Ax m' h' hle;rw[e1];cases hl with
  |none=>exact Ar (Au (R:=λ_ a A=>a=A) rfl) (by rintro BS a _ _ rfl;exact Au rfl)
  |some hv=>exact Ar (cX (hv.mono hle) _ _) (by rintro BS a _ _ rfl;exact Au rfl)
 have KJ : ∀ (Ax : AO) (m' : Nat), β.le Ax -> AE P S Ck G Ax (do
   let h'<-match h,m with
    |some v,some _=>Instr.sliceBound v m' .slice3B
    |some v,none=>Instr.sliceBound v m' (if sl then .sliceAcap else .sliceAlen)
    |none,none=>pure len
    |none,some _=>stuck "Slice: max without high"
   let l<-match l with
    |some v=>Instr.sliceBound v h' (if m.isSome then .slice3C else .sliceB)
    |none=>pure 0
   pure (l,h',m')) (do
   let h'<-match H,M with
    |some v,some _=>Instr.sliceBound v m' .slice3B
    |some v,none=>Instr.sliceBound v m' (if sl then .sliceAcap else .sliceAlen)
    |none,none=>pure len
    |none,some _=>stuck "Slice: max without high"
   let l<-match L with
    |some v=>Instr.sliceBound v h' (if M.isSome then .slice3C else .sliceB)
    |none=>pure 0
   pure (l,h',m')) (λ_ a A=>a=A):=by
  intro Ax m' hle;cases hm with
  |none =>
   cases hh with
   |none=>exact Ar (Au (R:=λ_ a A=>a=A) rfl) (by rintro BS a _ h2 rfl;exact low BS _ _ (AO.le_trans hle h2))
   |some hv=>exact Ar (cX (hv.mono hle) _ _) (by rintro BS a _ h2 rfl;exact low BS _ _ (AO.le_trans hle h2))
  |some hw =>
   cases hh with
   |none=>exact λ_ _ _ _ _ _ _ _=>trivial
   |some hv=>exact Ar (cX (hv.mono hle) _ _) (by rintro BS a _ h2 rfl;exact low BS _ _ (AO.le_trans hle h2))
 cases hm with
 |none=>exact Ar (Au (R:=λ_ a A=>a=A) rfl) (by rintro BS a _ h2 rfl;exact KJ BS _ h2)
 |some hv=>exact Ar (cX hv _ _) (by rintro BS a _ h2 rfl;exact KJ BS _ h2)
def cP {x X:Value}(hx:Aw S β x X)(c:BoundsCode):AE P S Ck G β (Instr.sliceBound x 0 c) (Instr.sliceBound X 0 c) (λ_ a A=>a=0/\A=0):=by
 refine Ar (dp hx) ?_;rintro B7 ⟨k,i⟩ _ Dp rfl;dsimp only;split
 .exact Au ⟨by omega,by omega⟩
 .exact B2 _ _ _ _
def jp (sl:Bool){l L h H m M:Option Value}(hl:Dx S β l L)(hh:Dx S β h H)(hm:Dx S β m M) :
  AE P S Ck G β (Instr.sliceBounds sl 0 0 l h m) (Instr.sliceBounds sl 0 0 L H M) (λ_ a A=>a=(0,0,0)/\A=(0,0,0)):=by
 unfold Instr.sliceBounds;have e1:m.isSome=M.isSome:=by cases hm<;>rfl
 have low : ∀ (Ax : AO), β.le Ax -> AE P S Ck G Ax (do
   let l<-match l with
    |some v=>Instr.sliceBound v 0 (if m.isSome then .slice3C else .sliceB)
    |none=>pure 0
   pure (l,0,0)) (do
   let l<-match L with
    |some v=>Instr.sliceBound v 0 (if M.isSome then .slice3C else .sliceB)
    |none=>pure 0
   pure (l,0,0)) (λ_ a A=>a=(0,0,0)/\A=(0,0,0)):=by
  intro Ax hle;rw[e1];cases hl with
  |none=>exact Ar (Au (R:=λ_ a A=>a=0/\A=0) ⟨rfl,rfl⟩) (by rintro BS _ _ _ ⟨rfl,rfl⟩;exact Au ⟨rfl,rfl⟩)
  |some hv=>exact Ar (cP (hv.mono hle) _) (by rintro BS _ _ _ ⟨rfl,rfl⟩;exact Au ⟨rfl,rfl⟩)
 have KJ : ∀ (Ax : AO), β.le Ax -> AE P S Ck G Ax (do
   let h'<-match h,m with
    |some v,some _=>Instr.sliceBound v 0 .slice3B
    |some v,none=>Instr.sliceBound v 0 (if sl then .sliceAcap else .sliceAlen)
    |none,none=>pure 0
    |none,some _=>stuck "Slice: max without high"
   let l<-match l with
    |some v=>Instr.sliceBound v h' (if m.isSome then .slice3C else .sliceB)
    |none=>pure 0
   pure (l,h',0)) (do
   let h'<-match H,M with
    |some v,some _=>Instr.sliceBound v 0 .slice3B
    |some v,none=>Instr.sliceBound v 0 (if sl then .sliceAcap else .sliceAlen)
    |none,none=>pure 0
    |none,some _=>stuck "Slice: max without high"
   let l<-match L with
    |some v=>Instr.sliceBound v h' (if M.isSome then .slice3C else .sliceB)
    |none=>pure 0
   pure (l,h',0)) (λ_ a A=>a=(0,0,0)/\A=(0,0,0)):=by
  intro Ax hle;cases hm with
  |none =>
   cases hh with
   |none=>exact Ar (Au (R:=λ_ a A=>a=0/\A=0) ⟨rfl,rfl⟩) (by rintro BS _ _ h2 ⟨rfl,rfl⟩;exact low BS (AO.le_trans hle h2))
   |some hv=>exact Ar (cP (hv.mono hle) _) (by rintro BS _ _ h2 ⟨rfl,rfl⟩;exact low BS (AO.le_trans hle h2))
  |some hw =>
   cases hh with
   |none=>exact λ_ _ _ _ _ _ _ _=>trivial
   |some hv=>exact Ar (cP (hv.mono hle) _) (by rintro BS _ _ h2 ⟨rfl,rfl⟩;exact low BS (AO.le_trans hle h2))
 cases hm with
 |none=>exact Ar (Au (R:=λ_ a A=>a=0/\A=0) ⟨rfl,rfl⟩) (by rintro BS _ _ h2 ⟨rfl,rfl⟩;exact KJ BS h2)
 |some hv=>exact Ar (cP hv _) (by rintro BS _ _ h2 ⟨rfl,rfl⟩;exact KJ BS h2)
def dM {v V:Value}(h:Aw S β v V):AE P S Ck G β (asAddr v) (asAddr V) (λAx a A=>BF Ax a A):=by
 cases h with
 |ptr o s hb=>exact Au ⟨hb,rfl,rfl⟩
 |Eh=>exact az .nilDeref trivial
 |_=>exact Az
def rI (t:TypeId){x X:Value}(hx:Aw S β x X){l L h H m M:Option Value}(hl:Dx S β l L)(hh:Dx S β h H)(hm:Dx S β m M) :
  AE P S Ck G β (Instr.slice t x l h m) (Instr.slice t X L H M) (λAx a A=>Aw S Ax a A):=by
 refine Ar (al _) ?_;rintro B7 d _ hle ⟨rfl,_⟩;have e1:m.isSome=M.isSome:=by cases hm<;>rfl
 replace hx:=hx.mono hle;cases d with
 |string =>
  cases hx with
  |string s =>
   dsimp only;rw[e1];split
   .exact λ_ _ _ _ _ _ _ _=>trivial
   .refine Ar (bX _ _ _ (hl.mono hle) (hh.mono hle) .none) ?_;rintro BS ⟨a,b,c⟩ _ _ rfl;exact Au (.string _)
  |_=>exact Az
 |slice e =>
  cases hx with
  |DF len cap =>
   refine Ar (bX _ _ _ (hl.mono hle) (hh.mono hle) (hm.mono hle)) ?_;rintro BS ⟨a,b,c⟩ _ _ rfl;refine Ar (aH _) ?_;rintro CQ n _ _ rfl;refine Au ?_;split
   .exact .DF _ _
   .exact .DF _ _
  |slice o s len cap hb =>
   refine Ar (bX _ _ _ (hl.mono hle) (hh.mono hle) (hm.mono hle)) ?_;rintro BS ⟨a,b,c⟩ _ Bp rfl;refine Ar (aH _) ?_;rintro CQ n _ Bv rfl;refine Au ?_;split
   .exact .slice _ _ _ _ (Bv _ _ (Bp _ _ hb))
   .exact BF.sl (BF.add (BF.mk (a:=⟨_,o,s⟩) (A:=⟨_,o,s⟩) (Bv _ _ (Bp _ _ hb)) rfl rfl) _) _ _
  |BP h0 =>
   refine Ar (jp _ (hl.mono hle) (hh.mono hle) (hm.mono hle)) ?_;rintro BS _ _ Bp ⟨rfl,rfl⟩;refine Ar (aH _) ?_;rintro CQ n _ Bv rfl;exact Au (.BP h0)
  |_=>exact Az
 |pointer arr =>
  refine Ar (dM hx) ?_;intro BS a A Bp ha;refine Ar (al _) ?_;rintro CQ d _ Bv ⟨rfl,_⟩;cases d with
  |array n elem =>
   refine Ar (bX _ _ _ ((((hl.mono hle).mono Bp)).mono Bv) ((((hh.mono hle).mono Bp)).mono Bv) ((((hm.mono hle).mono Bp)).mono Bv)) ?_;rintro ID ⟨a,b,c⟩ _ EL rfl;refine Ar (aH _) ?_;rintro JA n _ EM rfl;have ha':=((ha.mono Bv).mono EL).mono EM;refine Au ?_;split
   .exact ha'.sl _ _
   .exact(ha'.add _).sl _ _
  |_=>exact λ_ _ _ _ _ _ _ _=>trivial
 |_=>exact λ_ _ _ _ _ _ _ _=>trivial
def oy (t:TypeId){x X:Value}(hx:Aw S β x X){l L h H m M:Option Value}(hl:Dx S β l L)(hh:Dx S β h H)(hm:Dx S β m M) :
  AE P S Ck G β (Instr.sliceAt t x l h m) (Instr.sliceAt t X L H M) (λAx a A=>Aw S Ax a A):=by
 refine Ar (al _) ?_;rintro B7 d _ hle ⟨rfl,_⟩;cases d with
 |array n elem =>
  refine Ar (cW (hx.mono hle)) ?_;intro CQ a A Bv ha;refine Ar (bX _ _ _ ((hl.mono hle).mono Bv) ((hh.mono hle).mono Bv) ((hm.mono hle).mono Bv)) ?_;rintro ID ⟨a,b,c⟩ _ EL rfl;refine Ar (aH _) ?_;rintro JA n _ EM rfl;have ha':=(ha.mono EL).mono EM;refine Au ?_;split
  .exact ha'.sl _ _
  .exact(ha'.add _).sl _ _
 |_=>exact rI t (hx.mono hle) (hl.mono hle) (hh.mono hle) (hm.mono hle)
def rJ (t:TypeId){x X:Value}(hx:Aw S β x X)(i:Nat):AE P S Ck G β (Instr.field t x i) (Instr.field t X i) (λAx a A=>Aw S Ax a A):=by
 refine Ar (al _) ?_;rintro B7 d _ hle ⟨rfl,_⟩;cases d with
 |struct fs =>
  dsimp only;split
  .refine Ar (rH (hx.mono hle)) ?_;intro BS c C _ hc;exact cy _ hc _
  .exact Az
 |_=>exact λ_ _ _ _ _ _ _ _=>trivial
def rL (t:TypeId){v V x X:Value}(h:Aw S β v V)(hx:Aw S β x X):AE P S Ck G β (Instr.index t v x) (Instr.index t V X) (λAx y Y=>Aw S Ax y Y):=by
 refine Ar (dp hx) ?_;rintro B7 ⟨k,i⟩ _ Dp rfl;refine Ar (al _) ?_;rintro BS d _ Bp ⟨rfl,_⟩;have h2:=(h.mono Dp).mono Bp;clear h;cases d with
 |array len elem =>
  cases h2 with
  |agg h1 h2 =>
   dsimp only;split
   .refine Ar (aH _) ?_;rintro CQ n _ Bv rfl;exact cy _ (AA.mono Bv ⟨h1,h2⟩) _
   .exact B2 _ _ _ _
  |_=>exact Az
 |string =>
  cases h2 with
  |string s =>
   dsimp only;split
   .exact Au (.int _ _)
   .exact B2 _ _ _ _
  |_=>exact Az
 |_=>exact λ_ _ _ _ _ _ _ _=>trivial
def gD {α γ:Type}{f:α->Sem γ}(h:∀x β,AE P S Ck G β (f x) (f x) (λ_ a A=>a=A)):∀(l:List α) (β:AO),AE P S Ck G β (l.mapM f) (l.mapM f) (λ_ a A=>a=A)
 |[],β=>by simp only[List.mapM_nil];exact Au rfl
 |x::l,β=>by
  simp only[List.mapM_cons];refine Ar (h x β) ?_;rintro B7 a _ _ rfl;refine Ar (gD h l B7) ?_;rintro BS b _ _ rfl;exact Au rfl
end
section
variable {P:Ba} {S:Cb} {Ck:Code->Prop} {G:Nat} {β:AO}
inductive CR (S:Cb)(β:AO):List (Nat×Value)->List (Nat×Value)->Prop
 |nil:CR S β [] []
 |cons {i:Nat} {v V:Value} {l L:List (Nat×Value)}:Aw S β v V->CR S β l L->CR S β ((i,v)::l) ((i,V)::L)
def CR.mono {Ax:AO}(h:β.le Ax){l L:List (Nat×Value)}(r:CR S β l L):CR S Ax l L:=by
 induction r with
 |nil=>exact .nil
 |cons v _ ih=>exact .cons (v.mono h) ih
def tG {c C:Array Value}{l L:List Value}(off k:Nat)(hc:AA S β c C)(hl:BJ (Aw S β) l L) :
  AA S β ((l.zipIdx k).foldl (λcs (x:Value×Nat)=>cs.setIfInBounds (off+x.2) x.1) c) ((L.zipIdx k).foldl (λcs (x:Value×Nat)=>cs.setIfInBounds (off+x.2) x.1) C):=by
 induction hl generalizing c C k with
 |nil=>exact hc
 |cons ha _ ih =>
  simp only[List.zipIdx_cons,List.foldl_cons];exact ih _ (hc.set _ ha)
inductive L9 (S:Cb)(β:AO):Option (Array Value)->Option (Array Value)->Prop
 |none:L9 S β none none
 |some {a A:Array Value}:AA S β a A->L9 S β (some a) (some A)
def i5 (place:Nat->Option (Nat×Nat)){l L:List (Nat×Value)}(hl:CR S β l L){c C:Array Value}(hc:AA S β c C) :
  L9 S β (Instr.fill place c l) (Instr.fill place C L):=by
 induction hl generalizing c C with
 |nil=>exact .some hc
 |@cons i v V l L hv _ ih =>
  simp only[Instr.fill];cases place i with
  |none=>exact .none
  |some os =>
   obtain⟨off,size⟩:=os;dsimp only;rw[hv.cells.size,hc.size];split
   .exact .none
   .refine ih ?_;have h1:=tG (S:=S) (β:=β) off 0 hc hv.cells.toList;have e:∀(w:Value) (c:Array Value),w.cells.zipIdx.foldl (λcs x=>match x with|(c,j)=>cs.setIfInBounds (off+j) c) c=(w.cells.toList.zipIdx 0).foldl (λcs (x:Value×Nat)=>cs.setIfInBounds (off+x.2) x.1) c:=by
     intro w c;rw[<-zx];simp
    rw[e,e];exact h1
def rM (t:TypeId)(hz:bV P.a t=true){l L:Array (Nat×Value)}(hl:CR S β l.toList L.toList):AE P S Ck G β (Instr.build t l) (Instr.build t L) (λAx a A=>Aw S Ax a A):=by
 refine Ar (cH hz) ?_;rintro B7 z _ Dp ⟨rfl,hz⟩;refine Ar (al _) ?_;rintro BS d _ Bp ⟨rfl,_⟩;cases d with
 |struct fs =>
  refine Ar (R:=λ_ a A=>a=A) ?_ ?_
  .rw[zt];have:=gD (P:=P) (S:=S) (Ck:=Ck) (G:=G) (f:=λ(f:Field)=>do pure (f.offset,<-sizeOf f.type)) (λx β=>Ar (aH _) (by rintro CQ n _ _ rfl;exact Au rfl)) fs.toList BS;exact Ar this (by rintro CQ n _ _ rfl;exact Au rfl)
  .rintro CQ places _ Bv rfl;have h:=i5 (λi=>places[i]?) ((hl.mono Dp).mono Bp |>.mono Bv) ((hz.mono Bp).mono Bv).cells;revert h;generalize Instr.fill (λi=>places[i]?) z.cells l.toList=x;generalize Instr.fill (λi=>places[i]?) z.cells L.toList=X;intro h;cases h with
   |none=>exact λ_ _ _ _ _ _ _ _=>trivial
   |some h=>exact Au h.agg
 |array n elem =>
  refine Ar (aH _) ?_;rintro CQ size _ Bv rfl;have h:=i5 (λi=>some (i*size,size)) ((hl.mono Dp).mono Bp |>.mono Bv) ((hz.mono Bp).mono Bv).cells;revert h;generalize Instr.fill (λi=>some (i*size,size)) z.cells l.toList=x;generalize Instr.fill (λi=>some (i*size,size)) z.cells L.toList=X;intro h;cases h with
  |none=>exact λ_ _ _ _ _ _ _ _=>trivial
  |some h=>exact Au h.agg
 |_=>exact λ_ _ _ _ _ _ _ _=>trivial
def gE {z:Array Value}(h:AA S β z z)(n:Nat):AA S β ((Array.range n).map (z[· % z.size]!)) ((Array.range n).map (z[· % z.size]!)):=by
 refine AA.map _ λi _=>?_;by_cases hz:i % z.size<z.size
 .rw[getElem!_pos z _ hz];exact h.at_ _ _ _ (xp hz) (xp hz)
 .rw[getElem!_neg z _ hz];exact Aw.bool false
def ld (t:TypeId)(n:Nat)(hz:∀e,P.a.underlying t=some (.slice e)->bV P.a e=true){l L:Array (Nat×Value)}(hl:CR S β l.toList L.toList) :
  AE P S Ck G β (Instr.buildSlice t n l) (Instr.buildSlice t n L) (λAx a A=>Aw S Ax a A):=by
 refine Ar (al _) ?_;rintro B7 d _ Dp ⟨rfl,hd⟩;cases d with
 |slice e =>
  refine Ar (aH _) ?_;rintro BS size _ Bp rfl
  have key : ∀ (Ax : AO) (z : Array Value), BS.le Ax -> AA S Ax z z -> AE P S Ck G Ax (do
    let some cells:=Instr.fill (λi=>some (i*size,size)) ((Array.range (n*size)).map (z[· % z.size]!)) l.toList
     |stuck "buildSlice: a part of the wrong size"
    pure (.slice (some (<-newRow e cells)) n n):Sem Value) (do
    let some cells:=Instr.fill (λi=>some (i*size,size)) ((Array.range (n*size)).map (z[· % z.size]!)) L.toList
     |stuck "buildSlice: a part of the wrong size"
    pure (.slice (some (<-newRow e cells)) n n):Sem Value) (λAx a A=>Aw S Ax a A):=by
   intro Ax z hle hz;have h:=i5 (λi=>some (i*size,size)) ((hl.mono Dp).mono Bp |>.mono hle) (gE hz (n*size));revert h;generalize Instr.fill (λi=>some (i*size,size)) ((Array.range (n*size)).map (z[· % z.size]!)) l.toList=x;generalize Instr.fill (λi=>some (i*size,size)) ((Array.range (n*size)).map (z[· % z.size]!)) L.toList=X;intro h;cases h with
   |none=>exact λ_ _ _ _ _ _ _ _=>trivial
   |some h =>
    refine Ar (ff e h) ?_;intro CQ a A _ ha;exact Au (ha.sl _ _)
  dsimp only;by_cases h1:n*size > 2 ^ 24
  .simp only[if_pos h1];refine Ar (R:=λ_ (_ _:Unit)=>False) ?_ (λ_ _ _ _ h=>h.elim);refine AB ?_;intro g e;cases e
  .simp only[if_neg h1];by_cases h2:n*size=0
   .simp only[if_pos h2];exact Ar (Au (R:=λAx (a A:Array Value)=>a=A/\AA S Ax a a) ⟨rfl,zK⟩) (by rintro CQ z _ hle ⟨rfl,h⟩;exact key _ _ hle h)
   .simp only[if_neg h2];refine Ar (cH (hz e hd)) ?_;rintro CQ z _ Bv ⟨rfl,h⟩;exact Ar (Au (R:=λAx (a A:Array Value)=>a=A/\AA S Ax a a) ⟨rfl,h.cells⟩) (by rintro ID z _ hle ⟨rfl,h⟩;exact key _ _ (AO.le_trans Bv hle) h)
 |_=>exact λ_ _ _ _ _ _ _ _=>trivial
def jq (n:Nat):AE P S Ck G β (askRoom n) (askRoom n) (λ_ _ _=>True):=by
 unfold askRoom;split
 .exact p5
 .exact Au trivial
def lF (t:TypeId)(hz:∀e,P.a.underlying t=some (.slice e)->bV P.a e=true){l L c C:Value}(hl:Aw S β l L)(hc:Aw S β c C) :
  AE P S Ck G β (Instr.makeSlice t l c) (Instr.makeSlice t L C) (λAx a A=>Aw S Ax a A):=by
 refine Ar (al _) ?_;rintro B7 d _ Dp ⟨rfl,hd⟩;cases d with
 |slice e =>
  refine Ar (et (hl.mono Dp)) ?_;rintro BS len _ Bp rfl;refine Ar (et ((hc.mono Dp).mono Bp)) ?_;rintro CQ cap _ Bv rfl;refine Ar (bf _) ?_;rintro ID info _ EL ⟨rfl,_⟩;dsimp only
  have key : ∀ Ax : AO, AE P S Ck G Ax (do
    askRoom ((IntKind.i64.wrap cap).toNat*info.bytes)
    let n:=(IntKind.i64.wrap cap).toNat*(<-sizeOf e)
    let zero<-if n=0 then pure #[] else do pure (<-zeroValue e).cells
    let a<-newRow e ((Array.range n).map (zero[· % zero.size]!))
    pure (.slice (some a) (IntKind.i64.wrap len).toNat (IntKind.i64.wrap cap).toNat):Sem Value) (do
    askRoom ((IntKind.i64.wrap cap).toNat*info.bytes)
    let n:=(IntKind.i64.wrap cap).toNat*(<-sizeOf e)
    let zero<-if n=0 then pure #[] else do pure (<-zeroValue e).cells
    let a<-newRow e ((Array.range n).map (zero[· % zero.size]!))
    pure (.slice (some a) (IntKind.i64.wrap len).toNat (IntKind.i64.wrap cap).toNat):Sem Value) (λAx a A=>Aw S Ax a A):=by
   intro Ax;refine Ar (jq _) ?_;rintro SL _ _ NA _;refine Ar (aH _) ?_;rintro β7 size _ YD rfl;dsimp only
   have fin : ∀ (Ax : AO) (z : Array Value), AA S Ax z z -> AE P S Ck G Ax (do
     let a<-newRow e ((Array.range ((IntKind.i64.wrap cap).toNat*size)).map (z[· % z.size]!))
     pure (.slice (some a) (IntKind.i64.wrap len).toNat (IntKind.i64.wrap cap).toNat):Sem Value) (do
     let a<-newRow e ((Array.range ((IntKind.i64.wrap cap).toNat*size)).map (z[· % z.size]!))
     pure (.slice (some a) (IntKind.i64.wrap len).toNat (IntKind.i64.wrap cap).toNat):Sem Value) (λAx a A=>Aw S Ax a A):=by
    intro Ax z h;refine Ar (ff e (gE h _)) ?_;intro CQ a A _ ha;exact Au (ha.sl _ _)
   split
   .exact Ar (Au (R:=λAx (a A:Array Value)=>a=A/\AA S Ax a a) ⟨rfl,zK⟩) (by rintro CQ z _ hle ⟨rfl,h⟩;exact fin _ _ h)
   .refine Ar (cH (hz e hd)) ?_;rintro CQ z _ Bv ⟨rfl,h⟩;exact Ar (Au (R:=λAx (a A:Array Value)=>a=A/\AA S Ax a a) ⟨rfl,h.cells⟩) (by rintro ID z _ hle ⟨rfl,h⟩;exact fin _ _ h)
  have pan:∀(Ax:AO) (m:String) (k K:Unit->Sem Value),AE P S Ck G Ax (runtimePanic (.error m) >>= k) (runtimePanic (.error m) >>= K) (λAx a A=>Aw S Ax a A):=λAx m k K=>by
   refine Ar (R:=λ_ _ _=>False) (az _ trivial) ?_;intro _ _ _ _ h;exact h.elim
  split
  .split
   .exact pan _ _ _ _
   .split
    .exact pan _ _ _ _
    .refine Ar (eZ _) ?_;rintro JA q _ _ rfl;exact pan _ _ _ _
  .exact key _
 |_=>exact λ_ _ _ _ _ _ _ _=>trivial
def rN {v V:Value}(h:Aw S β v V):AE P S Ck G β (Builtin.lenOf v) (Builtin.lenOf V) (λ_ a A=>a=A/\∀x,v=.slice (some x) 0 0->a=0):=by
 cases h with
 |string s=>exact Au ⟨rfl,λx e=>by cases e⟩
 |DF l c=>exact Au ⟨rfl,λx e=>by cases e⟩
 |slice o s l c hb=>exact Au ⟨rfl,λx e=>by cases e;rfl⟩
 |BP _=>exact Au ⟨rfl,λ_ _=>rfl⟩
 |_=>exact Az
def dW (size n:Nat){v V:Value}(h:Aw S β v V)(h0:∀x,v=.slice (some x) 0 0->n=0):AE P S Ck G β (Builtin.firstCells size n v) (Builtin.firstCells size n V) (λAx a A=>AA S Ax a A):=by
 cases h with
 | string s => exact Au ⟨rfl, fun i v V h1 h2 => by
   rw[h1] at h2;cases h2;rw[ye] at h1;cases hb:(s.extract 0 n).data[i]? with
   |none=>rw[hb] at h1;cases h1
   |some b=>rw[hb] at h1;cases h1;exact .int _ _⟩
 |DF l c=>exact Au zK
 |slice o s l c hb=>exact gz (BF.mk (a:=⟨_,o,s⟩) (A:=⟨_,o,s⟩) hb rfl rfl) _
 |BP _ =>
  obtain rfl:=h0 _ rfl;unfold Builtin.firstCells;dsimp only;rw[Nat.zero_mul];exact Au zK
 |_=>exact Az
def jY (size:Nat){v V:Value}(h:Aw S β v V):AE P S Ck G β (Builtin.firstCells size 0 v) (Builtin.firstCells size 0 V) (λ_ a A=>a=#[]/\A=#[]):=by
 cases h with
 |string s =>
  have e:((s.extract 0 0).data.map λb=>Value.int .u8 b.toNat)=#[]:=Array.eq_empty_of_size_eq_zero (by rw[Array.size_map];simp[ByteArray.extract,ByteArray.copySlice]);exact Au ⟨e,e⟩
 |DF l c=>exact Au ⟨rfl,rfl⟩
 |slice o s l c hb =>
  unfold Builtin.firstCells;dsimp only;rw[Nat.zero_mul];exact Au ⟨rfl,rfl⟩
 |BP _ =>
  unfold Builtin.firstCells;dsimp only;rw[Nat.zero_mul];exact Au ⟨rfl,rfl⟩
 |_=>exact Az
def FK.mono {β Ax:AO}(h:β.le Ax){b B:Option Addr}(r:FK β b B):FK Ax b B:=by
 cases r with
 |none=>exact .none
 |some r=>exact .some (r.mono h)
def EB {α Ej:Type}{m:Sem α}{M:Sem Ej}{R:AO->α->Ej->Prop}(h:∀w es,∃u w' es',m.runT P.a w es=(.halt (.unsupported u) w',es')/\∀g,u≠.initOrder g):AE P S Ck G β m M R:=by
 intro w W n hw ht BV B5 hb;obtain⟨u,w',es',h1,h2⟩:=h w BV;rw[h1];exact h2
def JB (a:Addr)(n:Nat)(w:World)(es:Array Event):∃b,(Builtin.holdsCells a n).runT P.a w es=(.ok b w,es):=by
 unfold Builtin.holdsCells;rw[aj];have e:(shape a.block).runT P.a w es=(.ok (w.shape? a.block) w,es):=rfl;rw[e];dsimp only;cases w.shape? a.block with
 |none=>exact⟨_,rfl⟩
 |some x=>exact⟨_,rfl⟩
def J0 (size l n:Nat)(b:Option Addr)(x:Value)(w:World)(es:Array Event):∃r,(Builtin.mayShare size l n b x).runT P.a w es=(.ok r w,es):=by
 have k : ∀ r : Bool, ∃ r', (if !r then pure true else match x with
   |.slice (some c) _ _=>do pure (!(<-Builtin.holdsCells c (n*size))||b.any (·.block==c.block))
   |_=>pure false:Sem Bool).runT P.a w es=(.ok r' w,es):=by
  intro r;cases r with
  |false=>exact⟨true,rfl⟩
  |true =>
   simp only[Bool.not_true,xJ,if_false];split
   .rw[aj];obtain⟨h,e⟩:=JB (P:=P) ‹Addr› (n*size) w es;rw[e];exact⟨_,rfl⟩
   .exact⟨_,rfl⟩
 unfold Builtin.mayShare;cases b with
 |none=>exact k true
 |some a =>
  dsimp only;rw[aj];obtain⟨h,e⟩:=JB (P:=P) a (l*size) w es;rw[e];dsimp only;rw[aj];have e:(frozen (a.add (l / 2*size))).runT P.a w es=(.ok (w.frozen? (a.add (l / 2*size))) w,es):=rfl;rw[e];exact k _
def mM {α:Type}(size l n:Nat)(b:Option Addr)(x:Value)(why:Unsupported)(hw:∀g,why≠.initOrder g)(k:Unit->Sem α)(w:World)(es:Array Event) :
    ∃ u w' es', ((do if !(<- Builtin.mayShare size l n b x) then mark .noRoom
                     unsupported why) >>= k:Sem α).runT P.a w es=(.halt (.unsupported u) w',es')/\∀g,u≠.initOrder g:=by
  rw[aj,aj];obtain⟨r,e⟩:=J0 (P:=P) size l n b x w es;rw[e];cases r with
  |true=>exact⟨why,w,es,rfl,hw⟩
  |false=>exact⟨why,w,es.push ⟨.mark .noRoom,false,true⟩,rfl,hw⟩
def p6 (ts:Array TypeId)(t:TypeId)(hz:∀e s,ts[0]?=some s->P.a.underlying s=some (.slice e)->bV P.a e=true)(T3:∀x k,ts[1]?=some x->P.a.underlying x≠some (.int k)){a A:Array Value}(h:AA S β a A) :
    AE P S Ck G β (Builtin.append_ ts t a) (Builtin.append_ ts t A) (λAx v V=>Aw S Ax v V):=by
  unfold Builtin.append_;cases ht:ts[0]? with
  |none=>exact Az
  |some t0 =>
    cases ha:a[0]? with
    |none=>exact Az
    |some s =>
      obtain⟨Sv,hS,hs⟩:=h.get? ha;rw[hS];cases hb:a[1]? with
      |none=>exact Az
      |some x =>
        obtain⟨X,hX,hx⟩:=h.get? hb;rw[hX];dsimp only;refine Ar (al _) ?_;rintro B7 d _ Dp ⟨rfl,hd⟩;replace hs:=hs.mono Dp;replace hx:=hx.mono Dp;cases d with
        |slice e =>
          have hze:=hz e t0 ht hd
          have tail : ∀ (Ax : AO) (b B : Option Addr) (l c : Nat), B7.le Ax -> (FK Ax b B ∨ l = 0 ∧ c = 0) -> Aw S Ax (.slice b l c) (.slice B l c) -> AE P S Ck G Ax (do
              let size<-sizeOf e
              let zeros<-match ts[1]? with
                |some O8=>do pure ((<-underlying O8) matches .int _)
                |none=>pure false
              let n <- if zeros then do
                  let l:=IntKind.i64.wrap (<-asInt x)
                  if l<0 then runtimePanic (.error "makeslice: len out of range")
                  if l*(<-typeInfo e).bytes > 2 ^ 48 then
                    let made<-choose (.extern "append.ofMake.carriedOut" 2)
                    runtimePanic (.error (if made==1 then "makeslice: len out of range" else "growslice: len out of range"))
                  pure l.toNat
                else Builtin.lenOf x
              let appended:Sem (Array Value) :=
                if !zeros then Builtin.firstCells size n x
                else if n*size=0 then pure #[]
                else do pure (Builtin.zeroCells (<-zeroValue e).cells n)
              let need:=l+n
              if need<=c then
                let new<-appended
                if let some a:=b then storeCells (a.add (l*size)) new.toList
                pure (.slice b need c)
              else
                if(need:Int) > IntKind.i64.max/\(zeros\/(<-typeInfo e).bytes=0) then runtimePanic (.error "growslice: len out of range")
                if Builtin.nextslicecap need c*(<-typeInfo e).bytes > 2 ^ 48 then(if zeros then runtimePanic (.error "growslice: len out of range") else do
                  if !(<-Builtin.mayShare size l n b x) then mark .noRoom
                  unsupported (.resourceLimit "append: a slice or a string whose bytes no memory bears"))
                let De<-choose (.appendCap need c e)
                askRoom (De*(<-typeInfo e).bytes)
                let old<-Builtin.firstCells size l (.slice b l c)
                let new<-appended
                let rest:=Builtin.zeroCells (<-zeroValue e).cells (De-need)
                pure (.slice (some (<-newRow e (old++new++rest))) need De):Sem Value) (do
              let size<-sizeOf e
              let zeros<-match ts[1]? with
                |some O8=>do pure ((<-underlying O8) matches .int _)
                |none=>pure false
              let n <- if zeros then do
                  let l:=IntKind.i64.wrap (<-asInt X)
                  if l<0 then runtimePanic (.error "makeslice: len out of range")
                  if l*(<-typeInfo e).bytes > 2 ^ 48 then
                    let made<-choose (.extern "append.ofMake.carriedOut" 2)
                    runtimePanic (.error (if made==1 then "makeslice: len out of range" else "growslice: len out of range"))
                  pure l.toNat
                else Builtin.lenOf X
              let appended:Sem (Array Value) :=
                if !zeros then Builtin.firstCells size n X
                else if n*size=0 then pure #[]
                else do pure (Builtin.zeroCells (<-zeroValue e).cells n)
              let need:=l+n
              if need<=c then
                let new<-appended
                if let some a:=B then storeCells (a.add (l*size)) new.toList
                pure (.slice B need c)
              else
                if(need:Int) > IntKind.i64.max/\(zeros\/(<-typeInfo e).bytes=0) then runtimePanic (.error "growslice: len out of range")
                if Builtin.nextslicecap need c*(<-typeInfo e).bytes > 2 ^ 48 then(if zeros then runtimePanic (.error "growslice: len out of range") else do
                  if !(<-Builtin.mayShare size l n B X) then mark .noRoom
                  unsupported (.resourceLimit "append: a slice or a string whose bytes no memory bears"))
                let De<-choose (.appendCap need c e)
                askRoom (De*(<-typeInfo e).bytes)
                let old<-Builtin.firstCells size l (.slice B l c)
                let new<-appended
                let rest:=Builtin.zeroCells (<-zeroValue e).cells (De-need)
                pure (.slice (some (<-newRow e (old++new++rest))) need De):Sem Value) (λAx v V=>Aw S Ax v V):=by
            intro Ax b B l c hle ob hs;refine Ar (aH _) ?_;rintro BS size _ Bp rfl;have hx2:=(hx.mono hle).mono Bp;have hs2:=hs.mono Bp;have ob2:FK BS b B\/l=0/\c=0:=ob.imp (·.mono Bp) λh=>h;clear hx hs ob;dsimp only;rcases h1:ts[1]? with _|xt
            all_goals first
              |refine Ar (R:=λ_ (a A:Bool)=>a=false/\A=false) (Au ⟨rfl,rfl⟩) ?_
              | (refine Ar (al _) ?_
                 rintro adi d _ O9 ⟨rfl, hd⟩;replace hx2 := hx2.mono O9;replace hs2 := hs2.mono O9;replace ob2 : FK adi b B ∨ l = 0 ∧ c = 0 := ob2.imp (·.mono O9) fun h => h
                 refine Ar (R := fun _ (a A : Bool) => a = false ∧ A = false) (Au (by cases d with
                   | int k => exact absurd hd (T3 xt k h1)
                   |_=>exact⟨rfl,rfl⟩)) ?_)
            all_goals
              rintro CQ z Z Bv ⟨rfl,rfl⟩;simp only[xJ,if_false,Bool.not_false,if_true,false_or];have hx3:=hx2.mono Bv;have hs3:=hs2.mono Bv;refine Ar (rN hx3) ?_;rintro ID n _ EL ⟨rfl,Ku⟩;replace hx3:=hx3.mono EL;replace hs3:=hs3.mono EL;have ob4:FK ID b B\/l=0/\c=0:=ob2.imp (λh=>(h.mono Bv).mono EL) λh=>h;by_cases hn:l+n<=c
              · simp only[if_pos hn]
                rcases ob4 with ob4|⟨rfl,rfl⟩
                · refine Ar (dW _ _ hx3 Ku) ?_
                  intro JA y Y EM hy;cases ob4 with
                  |none=>exact Au (.DF _ _)
                  |some YE =>
                    refine Ar (gt ((YE.mono EM).add _) hy.toList 0) ?_;intro SL _ _ NA _;exact Au (((YE.mono EM).mono NA).sl _ _)
                · obtain rfl:n=0:=by omega
                  refine Ar (jY size hx3) ?_
                  · rintro JA _ _ EM ⟨rfl,rfl⟩
                    have hs5:=hs3.mono EM;cases b with
                    |none=>cases B with
                      |none=>exact Au hs5
                      |some B=>cases hs5
                    |some b=>cases B with
                      |none=>cases hs5
                      |some B=>exact Au hs5
              · simp only[if_neg hn]
                have fin : ∀ JA : AO, ID.le JA -> AE P S Ck G JA (do
                    let De<-choose (.appendCap (l+n) c e)
                    askRoom (De*(<-typeInfo e).bytes)
                    let old<-Builtin.firstCells size l (.slice b l c)
                    let new<-Builtin.firstCells size n x
                    let rest:=Builtin.zeroCells (<-zeroValue e).cells (De-(l+n))
                    pure (.slice (some (<-newRow e (old++new++rest))) (l+n) De):Sem Value) (do
                    let De<-choose (.appendCap (l+n) c e)
                    askRoom (De*(<-typeInfo e).bytes)
                    let old<-Builtin.firstCells size l (.slice B l c)
                    let new<-Builtin.firstCells size n X
                    let rest:=Builtin.zeroCells (<-zeroValue e).cells (De-(l+n))
                    pure (.slice (some (<-newRow e (old++new++rest))) (l+n) De):Sem Value) (λAx v V=>Aw S Ax v V):=by
                  intro JA EM;refine Ar (eZ _) ?_;rintro SL nc _ NA rfl;refine Ar (bf _) ?_;rintro β7 info _ YD ⟨rfl,_⟩;refine Ar (jq _) ?_;intro β8 _ _ adk _;have l8:=AO.le_trans (AO.le_trans (AO.le_trans EM NA) YD) adk;refine Ar (dW _ _ (hs3.mono l8) λx e=>by injection e) ?_;intro β9 y Y adl hy;refine Ar (dW _ _ ((hx3.mono l8).mono adl) Ku) ?_;intro βa y' Y' adm hy'
                  refine Ar (cH hze) ?_;rintro βb z _ YF ⟨rfl,hzv⟩;have Pa:AA S βb (Builtin.zeroCells z.cells (nc-(l+n))) (Builtin.zeroCells z.cells (nc-(l+n))):=gE hzv.cells _;refine Ar (ff e ((((hy.mono adm).mono YF).append (hy'.mono YF)).append Pa)) ?_;intro βc r R' _ hr;exact Au (hr.sl _ _)
                refine Ar (bf _) ?_;rintro JA info _ EM ⟨rfl,_⟩;by_cases hc1:((l+n:Nat):Int) > IntKind.i64.max/\info.bytes=0
                · simp only[if_pos hc1]
                  exact Ar (R:=λ_ _ _=>False) (az _ trivial) (λ_ _ _ _ h=>h.elim)
                · simp only[if_neg hc1]
                  refine Ar (bf _) ?_;rintro SL YG _ NA ⟨rfl,_⟩;by_cases hc2:Builtin.nextslicecap (l+n) c*YG.bytes > 2 ^ 48
                  · simp only[if_pos hc2]
                    refine EB λw es=>?_;exact mM size l n b x _ (by intro g e;cases e) _ w es
                  · simp only[if_neg hc2]
                    exact fin SL (AO.le_trans EM NA)
          cases hs with
          |DF l c=>exact tail B7 none none l c B7.le_refl (.inl .none) (.DF _ _)
          |slice o s l c hb=>exact tail B7 (some _) (some _) l c B7.le_refl (.inl (.some (BF.mk (a:=⟨_,o,s⟩) (A:=⟨_,o,s⟩) hb rfl rfl))) (.slice _ _ _ _ hb)
          |BP h0=>exact tail B7 (some _) (some _) 0 0 B7.le_refl (.inr ⟨rfl,rfl⟩) (.BP h0)
          |_=>exact Az
        |_=>exact λ_ _ _ _ _ _ _ _=>trivial
def uW (ts:Array TypeId)(t:TypeId)(hc:∀t e d,ts[0]?=some t->P.a.underlying t≠some (.chan e d)){a A:Array Value}(h:AA S β a A):AE P S Ck G β (Builtin.len_ ts t a) (Builtin.len_ ts t A) (λAx v V=>Aw S Ax v V):=by
 unfold Builtin.len_;cases ht:ts[0]? with
 |none=>exact Az
 |some t0 =>
  cases ha:a[0]? with
  |none=>exact Az
  |some x =>
   obtain⟨X,hX,hr⟩:=h.get? ha;rw[hX];refine Ar (al _) ?_;rintro B7 d _ hle ⟨rfl,hd⟩;replace hr:=hr.mono hle;cases d with
   |string=>cases hr with
    |string s=>exact Au (.int _ _)
    |_=>exact Az
   |array n e=>exact Au (.int _ _)
   |pointer e =>
    refine Ar (al _) ?_;rintro BS d _ hle ⟨rfl,_⟩;cases d with
    |array n e=>exact Au (.int _ _)
    |_=>exact λ_ _ _ _ _ _ _ _=>trivial
   |slice e=>cases hr with
    |DF l c=>exact Au (.int _ _)
    |slice o s l c hb=>exact Au (.int _ _)
    |BP _=>exact Au (.int _ _)
    |_=>exact Az
   |map k e=>cases hr with
    |DY=>exact Au (.int _ _)
    |_=>exact Az
   |chan e dir=>exact absurd hd (hc _ _ _ ht)
   |_=>exact λ_ _ _ _ _ _ _ _=>trivial
def uX (ts:Array TypeId)(t:TypeId)(hc:∀t e d,ts[0]?=some t->P.a.underlying t≠some (.chan e d)){a A:Array Value}(h:AA S β a A):AE P S Ck G β (Builtin.cap_ ts t a) (Builtin.cap_ ts t A) (λAx v V=>Aw S Ax v V):=by
 unfold Builtin.cap_;cases ht:ts[0]? with
 |none=>exact Az
 |some t0 =>
  cases ha:a[0]? with
  |none=>exact Az
  |some x =>
   obtain⟨X,hX,hr⟩:=h.get? ha;rw[hX];refine Ar (al _) ?_;rintro B7 d _ hle ⟨rfl,hd⟩;replace hr:=hr.mono hle;cases d with
   |array n e=>exact Au (.int _ _)
   |pointer e =>
    refine Ar (al _) ?_;rintro BS d _ hle ⟨rfl,_⟩;cases d with
    |array n e=>exact Au (.int _ _)
    |_=>exact λ_ _ _ _ _ _ _ _=>trivial
   |slice e=>cases hr with
    |DF l c=>exact Au (.int _ _)
    |slice o s l c hb=>exact Au (.int _ _)
    |BP _=>exact Au (.int _ _)
    |_=>exact Az
   |chan e dir=>exact absurd hd (hc _ _ _ ht)
   |_=>exact λ_ _ _ _ _ _ _ _=>trivial
def oz {v V:Value}(h:Aw S β v V)(i:Nat):AE P S Ck G β (Instr.extract v i) (Instr.extract V i) (λAx v V=>Aw S Ax v V):=by
 cases h with
 |tuple h1 h2 =>
  rename_i x X;unfold Instr.extract;dsimp only;cases hx:x[i]? with
  |none=>exact Az
  |some v=>obtain⟨V,hV,hr⟩:=(AA.mk h1 h2).get? hx;rw[hV];exact Au hr
 |_=>exact Az
def rO (t:TypeId)(hz:bV P.a t=true):AE P S Ck G β (Instr.alloc t true (.tuple #[])) (Instr.alloc t true (.tuple #[])) (λAx v V=>Aw S Ax v V):=by
 refine Ar (cH hz) ?_;rintro B7 z _ Dp ⟨rfl,hz⟩;refine Ar (gC t hz) ?_;intro BS a A _ ha;exact Au ha.ptr
def uY (t:TypeId){v V:Value}(h:Aw S β v V):AE P S Ck G β (Instr.box t v) (Instr.box t V) (λAx v V=>Aw S Ax v V):=by
 refine Ar (gC t h) ?_;intro BS a A _ ha;exact Au ha.ptr
def p7 (t:TypeId){v V:Value}(h:Aw S β v V):AE P S Ck G β (Instr.loadAt t v) (Instr.loadAt t V) (λAx v V=>Aw S Ax v V):=by
 refine Ar (cW h) ?_;intro BS a A _ ha;exact jo t ha
def oA (t:TypeId){v V x X:Value}(h:Aw S β v V)(hx:Aw S β x X):AE P S Ck G β (Instr.storeAt t v x) (Instr.storeAt t V X) (λ_ _ _=>True):=by
 refine Ar (cW h) ?_;intro BS a A hle ha;exact mK t ha (hx.mono hle)
end
def Ek (P:Program)(t:TypeId):Bool:=match P.underlying t with
 |some (.int _)|some .bool|some .string=>true
 |_=>false
def Ba.cellsOf (P:Ba)(t:TypeId):P.b.cellsOf t=P.a.cellsOf t:=rfl
def Ba.bytesOf (P:Ba)(t:TypeId):P.b.bytesOf t=P.a.bytesOf t:=rfl
def Ba.depth (P:Ba):P.b.depth=P.a.depth:=rfl
def Ba.byteOfCell (P:Ba)(d:Nat):∀t off,byteOfCell P.b d t off=byteOfCell P.a d t off:=by
 induction d with
 |zero=>exact λ_ _=>rfl
 |succ d ih =>
  have e:Go.byteOfCell P.b d=Go.byteOfCell P.a d:=funext λt=>funext λo=>ih t o;intro t off;unfold Go.byteOfCell;rw[e]
  rfl
def Ba.cellOfByte (P:Ba)(d:Nat):∀t off,cellOfByte P.b d t off=cellOfByte P.a d t off:=by
 induction d with
 |zero=>exact λ_ _=>rfl
 |succ d ih =>
  have e:Go.cellOfByte P.b d=Go.cellOfByte P.a d:=funext λt=>funext λo=>ih t o;intro t off;unfold Go.cellOfByte;rw[e]
  rfl
def Ba.cellAtBytes (P:Ba)(d:Nat)(e:TypeId)(c o:Nat)(n:Int):cellAtBytes P.b d e c o n=cellAtBytes P.a d e c o n:=by
 have e1:Go.byteOfCell P.b d=Go.byteOfCell P.a d:=funext λt=>funext λo=>P.byteOfCell d t o;have e2:Go.cellOfByte P.b d=Go.cellOfByte P.a d:=funext λt=>funext λo=>P.cellOfByte d t o;unfold Go.cellAtBytes;rw[e1,e2]
 rfl
section
variable {P:Ba} {S:Cb} {Ck:Code->Prop} {G:Nat} {β:AO}
def mN {b B:Nat}(h:β b B):AE P S Ck G β (numberAt b) (numberAt B) (λAx x X=>match x,X with|none,none=>True|some (a,l),some (A,L)=>BF Ax a A/\l=L|_,_=>False):=by
 cases hh:S.hid b with
 |false =>
  refine Ar (ky h hh) ?_;rintro B7 s _ hle rfl;cases s with
  |some x=>exact Au trivial
  |none =>
   refine Ar (fd (hle _ _ h) hh) ?_;intro BS o O _ ho;cases ho with
   |number o s l hb=>exact Au ⟨⟨hb,rfl,rfl⟩,rfl⟩
   |_=>exact Au trivial
 |true =>
  intro w W n hw ht BV B5 _;obtain⟨h1,MQ,MR⟩:=hw.CG b B h hh;have e1:(numberAt b).runT P.a w BV=(.ok none w,BV.push ⟨.obj b,false,false⟩):=by
   unfold numberAt;rw[aj];have e:(shape b).runT P.a w BV=(.ok none w,BV):=by
    show(Result.ok (w.shape? b) w,BV)=_;unfold World.shape?;rw[h1]
   rw[e];dsimp only;simp only[yW,xJ,if_false];rw[aj];have e:(getObj b).runT P.a w BV=(.ok (.coro none) w,BV.push ⟨.obj b,false,false⟩):=by simp only[Go.getObj,Sem.runT,h1];rfl
   rw[e]
   rfl
  cases F9:S.hid.BA with
  |true =>
   have h2:=MR F9;have e2:(numberAt B).runT P.b W B5=(.ok none W,B5.push ⟨.obj B,false,false⟩):=by
    unfold numberAt;rw[aj];have e:(shape B).runT P.b W B5=(.ok none W,B5):=by
     show(Result.ok (W.shape? B) W,B5)=_;unfold World.shape?;rw[h2]
    rw[e];dsimp only;simp only[yW,xJ,if_false];rw[aj];have e:(getObj B).runT P.b W B5=(.ok (.coro none) W,B5.push ⟨.obj B,false,false⟩):=by simp only[Go.getObj,Sem.runT,h2];rfl
    rw[e]
    rfl
   rw[e1,e2];exact⟨β,none,W,[⟨.obj B,false,false⟩],by simp,trivial,{ Fin.refl hw with evs:=λh=>by rw[F9] at h;cases h }⟩
  |false =>
  obtain⟨c,t,f,h2⟩:=MQ F9;have e2:(numberAt B).runT P.b W B5=(.ok none W,B5):=by
   unfold numberAt;rw[aj];have e:(shape B).runT P.b W B5=(.ok (some (t,c.size)) W,B5):=by
    show(Result.ok (W.shape? B) W,B5)=_;unfold World.shape?;rw[h2]
   rw[e]
   rfl
  rw[e1,e2];exact⟨β,none,W,[],by simp,trivial,Fin.refl hw⟩
def gF {b B:Nat}(h:β b B):AE P S Ck G β (viewAt b) (viewAt B) (λ_ x X=>x=none/\X=none):=by
 cases hh:S.hid b with
 |false =>
  refine Ar (ky h hh) ?_;rintro B7 s _ hle rfl;cases s with
  |some x=>exact Au ⟨rfl,rfl⟩
  |none =>
   refine Ar (fd (hle _ _ h) hh) ?_;intro BS o O _ ho;cases ho<;>exact Au ⟨rfl,rfl⟩
 |true =>
  intro w W n hw ht BV B5 _;obtain⟨h1,MQ,MR⟩:=hw.CG b B h hh;have e1:(viewAt b).runT P.a w BV=(.ok none w,BV.push ⟨.obj b,false,false⟩):=by
   unfold viewAt;rw[aj];have e:(shape b).runT P.a w BV=(.ok none w,BV):=by
    show(Result.ok (w.shape? b) w,BV)=_;unfold World.shape?;rw[h1]
   rw[e];dsimp only;simp only[yW,xJ,if_false];rw[aj];have e:(getObj b).runT P.a w BV=(.ok (.coro none) w,BV.push ⟨.obj b,false,false⟩):=by simp only[Go.getObj,Sem.runT,h1];rfl
   rw[e]
   rfl
  cases F9:S.hid.BA with
  |true =>
   have h2:=MR F9;have e2:(viewAt B).runT P.b W B5=(.ok none W,B5.push ⟨.obj B,false,false⟩):=by
    unfold viewAt;rw[aj];have e:(shape B).runT P.b W B5=(.ok none W,B5):=by
     show(Result.ok (W.shape? B) W,B5)=_;unfold World.shape?;rw[h2]
    rw[e];dsimp only;simp only[yW,xJ,if_false];rw[aj];have e:(getObj B).runT P.b W B5=(.ok (.coro none) W,B5.push ⟨.obj B,false,false⟩):=by simp only[Go.getObj,Sem.runT,h2];rfl
    rw[e]
    rfl
   rw[e1,e2];exact⟨β,none,W,[⟨.obj B,false,false⟩],by simp,⟨rfl,rfl⟩,{ Fin.refl hw with evs:=λh=>by rw[F9] at h;cases h }⟩
  |false =>
  obtain⟨c,t,f,h2⟩:=MQ F9;have e2:(viewAt B).runT P.b W B5=(.ok none W,B5):=by
   unfold viewAt;rw[aj];have e:(shape B).runT P.b W B5=(.ok (some (t,c.size)) W,B5):=by
    show(Result.ok (W.shape? B) W,B5)=_;unfold World.shape?;rw[h2]
   rw[e]
   rfl
  rw[e1,e2];exact⟨β,none,W,[],by simp,⟨rfl,rfl⟩,Fin.refl hw⟩
def dg {a A:Addr}(h:BF β a A):AE P S Ck G β (behindNumber a) (behindNumber A) (λAx x X=>BF Ax x.1 X.1/\x.2=X.2):=by
 refine Ar (mN h.block) ?_;intro B7 x X hle hx;cases x with
 |none=>cases X with
  |none=>exact Au ⟨h.mono hle,rfl⟩
  |some _=>exact hx.elim
 |some x=>cases X with
  |none=>exact hx.elim
  |some X=>exact Au hx
def p8 {a A:Addr}(h:BF β a A):AE P S Ck G β (noView a) (noView A) (λ_ _ _=>True):=by
 refine Ar (gF h.block) ?_;rintro B7 _ _ hle ⟨rfl,rfl⟩;exact Au trivial
def p9 {a A:Addr}(h:BF β a A):AE P S Ck G β (byteOf a) (byteOf A) (λ_ x X=>x=X):=by
 unfold byteOf;rw[<-h.spot,<-h.off];cases a.spot with
 |some s=>exact Au rfl
 |none =>
  refine Ar aQ ?_;rintro B7 p p' hle ⟨hp,YH⟩;subst p p';simp only[Ba.cellsOf,Ba.bytesOf,Ba.depth,Ba.byteOfCell];refine Ar (p8 (h.mono hle)) ?_;rintro BS _ _ Bp _;refine Ar (i3 (Bp _ _ (hle _ _ h.block))) ?_;rintro CQ s _ Bv (rfl|rfl)
  rotate_left
  .exact λ_ _ _ _ _ _ _ _=>trivial
  cases s with
  |none=>exact λ_ _ _ _ _ _ _ _=>trivial
  |some x =>
   obtain⟨e,n⟩:=x;dsimp only;by_cases h0:P.a.cellsOf e=0
   .simp only[if_pos h0];exact Au rfl
   .simp only[if_neg h0];split
    .exact Au rfl
    .exact Az
def gG (ts:Array TypeId)(t:TypeId){v V x X:Value}(hv:Aw S β v V)(hx:Aw S β x X):AE P S Ck G β (Builtin.unsafeAdd_ ts t #[v,x]) (Builtin.unsafeAdd_ ts t #[V,X]) (λAx y Y=>∃a A,y=.pointer (some a)/\Y=.pointer (some A)/\BF Ax a A):=by
 unfold Builtin.unsafeAdd_;have tail:∀(p Q:Option Addr),FK β p Q->Aw S β (.pointer p) (.pointer Q)->AE P S Ck G β (Builtin.unsafeAdd_ ts t #[.pointer p,x]) (Builtin.unsafeAdd_ ts t #[.pointer Q,X]) (λAx y Y=>∃a A,y=.pointer (some a)/\Y=.pointer (some A)/\BF Ax a A):=by
  intro p Q hp hpv;refine Ar (et hx) ?_;rintro B7 n _ Dp rfl;dsimp only
  have rest : AE P S Ck G B7 (do
    if n<0 then unsupported (.unsafePointer "Add: a move by a count below zero")
    let some a:=p|unsupported (.unsafePointer "Add")
    let some (e,cells)<-shape a.block|unsupported (.unsafePointer "Add")
    let P<-program
    match cellAtBytes P P.depth e (cells / P.cellsOf e) a.off n with
    |some off=>pure (.pointer (some { a with off }))
    |none=>unsupported (.unsafePointer "Add"):Sem Value) (do
    if n<0 then unsupported (.unsafePointer "Add: a move by a count below zero")
    let some a:=Q|unsupported (.unsafePointer "Add")
    let some (e,cells)<-shape a.block|unsupported (.unsafePointer "Add")
    let P<-program
    match cellAtBytes P P.depth e (cells / P.cellsOf e) a.off n with
    |some off=>pure (.pointer (some { a with off }))
    |none=>unsupported (.unsafePointer "Add"):Sem Value) (λAx y Y=>∃a A,y=.pointer (some a)/\Y=.pointer (some A)/\BF Ax a A):=by
   dsimp only;by_cases h0:n<0
   .simp only[if_pos h0];exact λ_ _ _ _ _ _ _ _=>by intro g e;cases e
   .simp only[if_neg h0];cases hp with
    |none=>exact λ_ _ _ _ _ _ _ _=>by intro g e;cases e
    |some ha =>
     rename_i a A;dsimp only;refine Ar (i3 (Dp _ _ ha.block)) ?_;rintro CQ s _ Bv (rfl|rfl)
     rotate_left
     .exact λ_ _ _ _ _ _ _ _=>by intro g e;cases e
     cases s with
     |none=>exact λ_ _ _ _ _ _ _ _=>by intro g e;cases e
     |some x =>
      obtain⟨e,c⟩:=x;refine Ar aQ ?_;rintro ID p _ EL ⟨rfl,rfl⟩;rw[<-ha.off,Ba.cellAtBytes,Ba.depth,Ba.cellsOf];split
      .exact Au ⟨_,_,rfl,rfl,⟨EL _ _ (Bv _ _ (Dp _ _ ha.block)),rfl,ha.spot⟩⟩
      .exact λ_ _ _ _ _ _ _ _=>by intro g e;cases e
  by_cases h0:n=0
  .simp only[if_pos h0];cases hp with
   |none=>exact λ_ _ _ _ _ _ _ _=>by intro g e;cases e
   |some ha =>
    dsimp only;refine Ar (gF (Dp _ _ ha.block)) ?_;rintro CQ _ _ Bv ⟨rfl,rfl⟩;exact Au ⟨_,_,rfl,rfl,(ha.mono Dp).mono Bv⟩
  .simp only[if_neg h0];exact rest
 cases hv with
 |Eh=>exact tail none none .none .Eh
 |ptr o s hb=>exact tail (some _) (some _) (.some (BF.mk (a:=⟨_,o,s⟩) (A:=⟨_,o,s⟩) hb rfl rfl)) (.ptr o s hb)
 |_=>exact Az
def _root_.Go.AW.AE.ptr {m M:Sem Value}(h:AE P S Ck G β m M (λAx y Y=>∃a A,y=.pointer (some a)/\Y=.pointer (some A)/\BF Ax a A)):AE P S Ck G β m M (λAx a A=>Aw S Ax a A) :=
 tE h (by rintro Ax _ _ _ ⟨a,A,rfl,rfl,h⟩;exact h.ptr)
def mO {a A:Addr}(h:BF β a A)(l:Bool):AE P S Ck G β (asNumber a l) (asNumber A l) (λAx x X=>Aw S Ax x X):=by
 have ho:Bw S Ck β (.number a l) (.number A l):=by
  obtain⟨b,o,s⟩:=a;obtain⟨B,O,s'⟩:=A;obtain⟨h1,h2,h3⟩:=h;cases h2;cases h3;exact .number _ _ _ h1
 refine Ar (jn ho (λi=>ho.id i (by simp))) ?_;rintro BS b B _ ⟨hb,_⟩;exact Au (.ptr _ _ hb)
def bY (t:TypeId){v V x X:Value}(hv:Aw S β v V)(hx:Aw S β x X):AE P S Ck G β (movedNumber t v x) (movedNumber t V X) (λAx a A=>Aw S Ax a A):=by
 unfold movedNumber;refine Ar (al _) ?_;rintro B7 d _ Dp ⟨rfl,_⟩;dsimp only
 have main : AE P S Ck G B7 (do
   let .pointer (some n):=v|Builtin.unsafeAdd_ #[] t #[v,x]
   let (a,lost)<-behindNumber n
   match<-Builtin.unsafeAdd_ #[] t #[.pointer (some a),x] with
   |.pointer (some b)=>asNumber b lost
   |v=>pure v:Sem Value) (do
   let .pointer (some n):=V|Builtin.unsafeAdd_ #[] t #[V,X]
   let (a,lost)<-behindNumber n
   match<-Builtin.unsafeAdd_ #[] t #[.pointer (some a),X] with
   |.pointer (some b)=>asNumber b lost
   |v=>pure v:Sem Value) (λAx a A=>Aw S Ax a A):=by
  replace hx:=hx.mono Dp;replace hv:=hv.mono Dp;have h0:=(gG (P:=P) (Ck:=Ck) (G:=G) #[] t hv hx).ptr;cases hv with
  |ptr o s hb =>
   refine Ar (dg (BF.mk (a:=⟨_,o,s⟩) (A:=⟨_,o,s⟩) hb rfl rfl)) ?_;rintro BS ⟨a,l⟩ ⟨A,L⟩ Bp ⟨ha,hl⟩;cases hl;refine Ar (gG #[] t ha.ptr (hx.mono Bp)) ?_;rintro CQ _ _ Bv ⟨a',A',rfl,rfl,ha'⟩;exact mO ha' l
  |_=>exact h0
 cases d with
 |unsafePointer=>exact λ_ _ _ _ _ _ _ _=>by intro g e;cases e
 |_=>exact main
def oB (k:IntKind){a A:Addr}(h:BF β a A)(n:Int):AE P S Ck G β (Op.addrMod k a n) (Op.addrMod k A n) (λAx a A=>Aw S Ax a A):=by
 refine Ar (i3 h.block) ?_;rintro B7 s _ Dp (rfl|rfl)
 rotate_left
 .exact λ_ _ _ _ _ _ _ _=>by intro g e;cases e
 cases s with
 |none=>exact λ_ _ _ _ _ _ _ _=>by intro g e;cases e
 |some x =>
  obtain⟨e,c⟩:=x;refine Ar (bf _) ?_;rintro BS i _ Bp ⟨rfl,_⟩;dsimp only;split
  .exact λ_ _ _ _ _ _ _ _=>by intro g e;cases e
  .refine Ar (p9 ((h.mono Dp).mono Bp)) ?_;rintro CQ b _ _ rfl;exact Au (.int _ _)
def lG (hG:P.a.globals.size<=G){a A b B:Addr}(ha:BF β a A):AE P S Ck G β (Op.twoPlaces a b) (Op.twoPlaces A B) (λ_ _ _=>False):=by
 intro w W n hw ht BV B5 hb;have h1:=(hw.B6.lo ha.block).1;have e:(Op.twoPlaces a b).runT P.a w BV=(.halt (.unsupported .addressObserved) w,BV):=by
  unfold Op.twoPlaces;rw[aj];have e:program.runT P.a w BV=(.ok P.a w,BV):=rfl;rw[e];dsimp only;rw[if_pos (by simp;right;omega)]
  rfl
 rw[e];intro g e;cases e
end
end Go.AW
