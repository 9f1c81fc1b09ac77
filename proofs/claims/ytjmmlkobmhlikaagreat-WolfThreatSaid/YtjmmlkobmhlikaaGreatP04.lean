/- Parts of the proof. -/
import Derived.Test.YtjmmlkobmhlikaaGreatP03
set_option linter.all false
set_option maxHeartbeats 4000000
namespace Go.Iso
section
variable {P:Two} {S:Par} {Ck:Code->Prop} {G:Nat} {β:Bij}
inductive PartsRel (S:Par)(β:Bij):List (Nat×Value)->List (Nat×Value)->Prop
 |nil:PartsRel S β [] []
 |cons {i:Nat} {v V:Value} {l L:List (Nat×Value)}:VRel S β v V->PartsRel S β l L->PartsRel S β ((i,v)::l) ((i,V)::L)
def PartsRel.mono {β':Bij}(h:β.le β'){l L:List (Nat×Value)}(r:PartsRel S β l L):PartsRel S β' l L:=by
 induction r with
 |nil=>exact .nil
 |cons v _ ih=>exact .cons (v.mono h) ih
def rm {c C:Array Value}{l L:List Value}(off k:Nat)(hc:AsRel S β c C)(hl:LRel (VRel S β) l L) :
  AsRel S β ((l.zipIdx k).foldl (λcs (x:Value×Nat)=>cs.setIfInBounds (off+x.2) x.1) c) ((L.zipIdx k).foldl (λcs (x:Value×Nat)=>cs.setIfInBounds (off+x.2) x.1) C):=by
 induction hl generalizing c C k with
 |nil=>exact hc
 |cons ha _ ih =>
  simp only[List.zipIdx_cons,List.foldl_cons]
  exact ih _ (hc.set _ ha)
inductive OAsRel (S:Par)(β:Bij):Option (Array Value)->Option (Array Value)->Prop
 |none:OAsRel S β none none
 |some {a A:Array Value}:AsRel S β a A->OAsRel S β (some a) (some A)
def ib (place:Nat->Option (Nat×Nat)){l L:List (Nat×Value)}(hl:PartsRel S β l L){c C:Array Value}(hc:AsRel S β c C) :
  OAsRel S β (Instr.fill place c l) (Instr.fill place C L):=by
 induction hl generalizing c C with
 |nil=>exact .some hc
 |@cons i v V l L hv _ ih =>
  simp only[Instr.fill]
  cases place i with
  |none=>exact .none
  |some os =>
   obtain⟨off,size⟩:=os
   dsimp only
   rw[hv.cells.size,hc.size]
   split
   ·exact .none
   ·refine ih ?_
    have h1:=rm (S:=S) (β:=β) off 0 hc hv.cells.toList
    have e:∀(w:Value) (c:Array Value),w.cells.zipIdx.foldl (λcs x=>match x with|(c,j)=>cs.setIfInBounds (off+j) c) c=(w.cells.toList.zipIdx 0).foldl (λcs (x:Value×Nat)=>cs.setIfInBounds (off+x.2) x.1) c:=by
     intro w c
     rw[<-Array.foldl_toList]
     simp
    rw[e,e]
    exact h1
def pS (t:TypeId)(hz:bF P.a t=true){l L:Array (Nat×Value)}(hl:PartsRel S β l.toList L.toList):SRel P S Ck G β (Instr.build t l) (Instr.build t L) (λβ' a A=>VRel S β' a A):=by
 refine sr_bind (bV hz) ?_
 rintro β1 z _ hle1 ⟨rfl,hz⟩
 refine sr_bind (al _) ?_
 rintro β2 d _ hle2 ⟨rfl,_⟩
 cases d with
 |struct fs =>
  refine sr_bind (R:=λ_ a A=>a=A) ?_ ?_
  ·rw[Array.mapM_eq_mapM_toList]
   have:=fJ (P:=P) (S:=S) (Ck:=Ck) (G:=G) (f:=λ(f:Field)=>do pure (f.offset,<-sizeOf f.type)) (λx β=>sr_bind (aC _) (by rintro β3 n _ _ rfl;exact sr_pure rfl)) fs.toList β2
   exact sr_bind this (by rintro β3 n _ _ rfl;exact sr_pure rfl)
  ·rintro β3 places _ hle3 rfl
   have h:=ib (λi=>places[i]?) ((hl.mono hle1).mono hle2 |>.mono hle3) ((hz.mono hle2).mono hle3).cells
   revert h
   generalize Instr.fill (λi=>places[i]?) z.cells l.toList=x
   generalize Instr.fill (λi=>places[i]?) z.cells L.toList=X
   intro h
   cases h with
   |none=>exact λ_ _ _ _ _ _ _ _=>trivial
   |some h=>exact sr_pure h.agg
 |array n elem =>
  refine sr_bind (aC _) ?_
  rintro β3 size _ hle3 rfl
  have h:=ib (λi=>some (i*size,size)) ((hl.mono hle1).mono hle2 |>.mono hle3) ((hz.mono hle2).mono hle3).cells
  revert h
  generalize Instr.fill (λi=>some (i*size,size)) z.cells l.toList=x
  generalize Instr.fill (λi=>some (i*size,size)) z.cells L.toList=X
  intro h
  cases h with
  |none=>exact λ_ _ _ _ _ _ _ _=>trivial
  |some h=>exact sr_pure h.agg
 |_=>exact λ_ _ _ _ _ _ _ _=>trivial
def fK {z:Array Value}(h:AsRel S β z z)(n:Nat):AsRel S β ((Array.range n).map (z[· % z.size]!)) ((Array.range n).map (z[· % z.size]!)):=by
 refine AsRel.map _ λi _=>?_
 by_cases hz:i % z.size<z.size
 ·rw[getElem!_pos z _ hz]
  exact h.at_ _ _ _ (Array.getElem?_eq_getElem hz) (Array.getElem?_eq_getElem hz)
 ·rw[getElem!_neg z _ hz]
  exact VRel.bool false
def jP (t:TypeId)(n:Nat)(hz:∀e,P.a.underlying t=some (.slice e)->bF P.a e=true){l L:Array (Nat×Value)}(hl:PartsRel S β l.toList L.toList) :
  SRel P S Ck G β (Instr.buildSlice t n l) (Instr.buildSlice t n L) (λβ' a A=>VRel S β' a A):=by
 refine sr_bind (al _) ?_
 rintro β1 d _ hle1 ⟨rfl,hd⟩
 cases d with
 |slice e =>
  refine sr_bind (aC _) ?_
  rintro β2 size _ hle2 rfl
  have key : ∀ (β' : Bij) (z : Array Value), β2.le β' -> AsRel S β' z z -> SRel P S Ck G β' (do
    let some cells:=Instr.fill (λi=>some (i*size,size)) ((Array.range (n*size)).map (z[· % z.size]!)) l.toList
     |stuck "buildSlice: a part of the wrong size"
    pure (.slice (some (<-newRow e cells)) n n):Sem Value) (do
    let some cells:=Instr.fill (λi=>some (i*size,size)) ((Array.range (n*size)).map (z[· % z.size]!)) L.toList
     |stuck "buildSlice: a part of the wrong size"
    pure (.slice (some (<-newRow e cells)) n n):Sem Value) (λβ' a A=>VRel S β' a A):=by
   intro β' z hle hz
   have h:=ib (λi=>some (i*size,size)) ((hl.mono hle1).mono hle2 |>.mono hle) (fK hz (n*size))
   revert h
   generalize Instr.fill (λi=>some (i*size,size)) ((Array.range (n*size)).map (z[· % z.size]!)) l.toList=x
   generalize Instr.fill (λi=>some (i*size,size)) ((Array.range (n*size)).map (z[· % z.size]!)) L.toList=X
   intro h
   cases h with
   |none=>exact λ_ _ _ _ _ _ _ _=>trivial
   |some h =>
    refine sr_bind (en e h) ?_
    intro β3 a A _ ha
    exact sr_pure (ha.sl _ _)
  dsimp only
  by_cases h1:n*size > 2 ^ 24
  ·simp only[if_pos h1]
   refine sr_bind (R:=λ_ (_ _:Unit)=>False) ?_ (λ_ _ _ _ h=>h.elim)
   refine sr_unsupported ?_
   intro g e;cases e
  ·simp only[if_neg h1]
   by_cases h2:n*size=0
   ·simp only[if_pos h2]
    exact sr_bind (sr_pure (R:=λβ' (a A:Array Value)=>a=A/\AsRel S β' a a) ⟨rfl,uw⟩) (by rintro β3 z _ hle ⟨rfl,h⟩;exact key _ _ hle h)
   ·simp only[if_neg h2]
    refine sr_bind (bV (hz e hd)) ?_
    rintro β3 z _ hle3 ⟨rfl,h⟩
    exact sr_bind (sr_pure (R:=λβ' (a A:Array Value)=>a=A/\AsRel S β' a a) ⟨rfl,h.cells⟩) (by rintro β4 z _ hle ⟨rfl,h⟩;exact key _ _ (Bij.le_trans hle3 hle) h)
 |_=>exact λ_ _ _ _ _ _ _ _=>trivial
def iD (n:Nat):SRel P S Ck G β (askRoom n) (askRoom n) (λ_ _ _=>True):=by
 unfold askRoom
 split
 ·exact og
 ·exact sr_pure trivial
def kj (t:TypeId)(hz:∀e,P.a.underlying t=some (.slice e)->bF P.a e=true){l L c C:Value}(hl:VRel S β l L)(hc:VRel S β c C) :
  SRel P S Ck G β (Instr.makeSlice t l c) (Instr.makeSlice t L C) (λβ' a A=>VRel S β' a A):=by
 refine sr_bind (al _) ?_
 rintro β1 d _ hle1 ⟨rfl,hd⟩
 cases d with
 |slice e =>
  refine sr_bind (dN (hl.mono hle1)) ?_
  rintro β2 len _ hle2 rfl
  refine sr_bind (dN ((hc.mono hle1).mono hle2)) ?_
  rintro β3 cap _ hle3 rfl
  refine sr_bind (aU _) ?_
  rintro β4 info _ hle4 ⟨rfl,_⟩
  dsimp only
  have key : ∀ β' : Bij, SRel P S Ck G β' (do
    askRoom ((IntKind.i64.wrap cap).toNat*info.bytes)
    let n:=(IntKind.i64.wrap cap).toNat*(<-sizeOf e)
    let zero<-if n=0 then pure #[] else do pure (<-zeroValue e).cells
    let a<-newRow e ((Array.range n).map (zero[· % zero.size]!))
    pure (.slice (some a) (IntKind.i64.wrap len).toNat (IntKind.i64.wrap cap).toNat):Sem Value) (do
    askRoom ((IntKind.i64.wrap cap).toNat*info.bytes)
    let n:=(IntKind.i64.wrap cap).toNat*(<-sizeOf e)
    let zero<-if n=0 then pure #[] else do pure (<-zeroValue e).cells
    let a<-newRow e ((Array.range n).map (zero[· % zero.size]!))
    pure (.slice (some a) (IntKind.i64.wrap len).toNat (IntKind.i64.wrap cap).toNat):Sem Value) (λβ' a A=>VRel S β' a A):=by
   intro β'
   refine sr_bind (iD _) ?_
   rintro β6 _ _ hle6 _
   refine sr_bind (aC _) ?_
   rintro β7 size _ hle7 rfl
   dsimp only
   have fin : ∀ (β' : Bij) (z : Array Value), AsRel S β' z z -> SRel P S Ck G β' (do
     let a<-newRow e ((Array.range ((IntKind.i64.wrap cap).toNat*size)).map (z[· % z.size]!))
     pure (.slice (some a) (IntKind.i64.wrap len).toNat (IntKind.i64.wrap cap).toNat):Sem Value) (do
     let a<-newRow e ((Array.range ((IntKind.i64.wrap cap).toNat*size)).map (z[· % z.size]!))
     pure (.slice (some a) (IntKind.i64.wrap len).toNat (IntKind.i64.wrap cap).toNat):Sem Value) (λβ' a A=>VRel S β' a A):=by
    intro β' z h
    refine sr_bind (en e (fK h _)) ?_
    intro β3 a A _ ha
    exact sr_pure (ha.sl _ _)
   split
   ·exact sr_bind (sr_pure (R:=λβ' (a A:Array Value)=>a=A/\AsRel S β' a a) ⟨rfl,uw⟩) (by rintro β3 z _ hle ⟨rfl,h⟩;exact fin _ _ h)
   ·refine sr_bind (bV (hz e hd)) ?_
    rintro β3 z _ hle3 ⟨rfl,h⟩
    exact sr_bind (sr_pure (R:=λβ' (a A:Array Value)=>a=A/\AsRel S β' a a) ⟨rfl,h.cells⟩) (by rintro β4 z _ hle ⟨rfl,h⟩;exact fin _ _ h)
  have pan:∀(β':Bij) (m:String) (k K:Unit->Sem Value),SRel P S Ck G β' (runtimePanic (.error m) >>= k) (runtimePanic (.error m) >>= K) (λβ' a A=>VRel S β' a A):=λβ' m k K=>by
   refine sr_bind (R:=λ_ _ _=>False) (au _ trivial) ?_
   intro _ _ _ _ h;exact h.elim
  split
  ·split
   ·exact pan _ _ _ _
   ·split
    ·exact pan _ _ _ _
    ·refine sr_bind (ei _) ?_
     rintro β5 q _ _ rfl
     exact pan _ _ _ _
  ·exact key _
 |_=>exact λ_ _ _ _ _ _ _ _=>trivial
def pT {v V:Value}(h:VRel S β v V):SRel P S Ck G β (Builtin.lenOf v) (Builtin.lenOf V) (λ_ a A=>a=A):=by
 cases h with
 |string s=>exact sr_pure rfl
 |nils l c=>exact sr_pure rfl
 |slice o s l c hb=>exact sr_pure rfl
 |_=>exact sr_stuck
def dz (size n:Nat){v V:Value}(h:VRel S β v V):SRel P S Ck G β (Builtin.firstCells size n v) (Builtin.firstCells size n V) (λβ' a A=>AsRel S β' a A):=by
 cases h with
 | string s => exact sr_pure ⟨rfl, fun i v V h1 h2 => by
   rw[h1] at h2;cases h2
   rw[Array.getElem?_map] at h1
   cases hb:(s.extract 0 n).data[i]? with
   |none=>rw[hb] at h1;cases h1
   |some b=>rw[hb] at h1;cases h1;exact .int _ _⟩
 |nils l c=>exact sr_pure uw
 |slice o s l c hb=>exact fH (ARel.mk (a:=⟨_,o,s⟩) (A:=⟨_,o,s⟩) hb rfl rfl) _
 |_=>exact sr_stuck
def sr_dead {α α':Type}{m:Sem α}{M:Sem α'}{R:Bij->α->α'->Prop}(h:∀w es,∃u w' es',m.runT P.a w es=(.halt (.unsupported u) w',es')/\∀g,u≠.initOrder g):SRel P S Ck G β m M R:=by
 intro w W n hw ht es0 ES0 hb
 obtain⟨u,w',es',h1,h2⟩:=h w es0
 rw[h1]
 exact h2
def holds_run (a:Addr)(n:Nat)(w:World)(es:Array Event):∃b,(Builtin.holdsCells a n).runT P.a w es=(.ok b w,es):=by
 unfold Builtin.holdsCells
 rw[aj]
 have e:(shape a.block).runT P.a w es=(.ok (w.shape? a.block) w,es):=rfl
 rw[e]
 dsimp only
 cases w.shape? a.block with
 |none=>exact⟨_,rfl⟩
 |some x=>exact⟨_,rfl⟩
def mayShare_run (size l n:Nat)(b:Option Addr)(x:Value)(w:World)(es:Array Event):∃r,(Builtin.mayShare size l n b x).runT P.a w es=(.ok r w,es):=by
 have k : ∀ r : Bool, ∃ r', (if !r then pure true else match x with
   |.slice (some c) _ _=>do pure (!(<-Builtin.holdsCells c (n*size))||b.any (·.block==c.block))
   |_=>pure false:Sem Bool).runT P.a w es=(.ok r' w,es):=by
  intro r
  cases r with
  |false=>exact⟨true,rfl⟩
  |true =>
   simp only[Bool.not_true,Bool.false_eq_true,if_false]
   split
   ·rw[aj]
    obtain⟨h,e⟩:=holds_run (P:=P) ‹Addr› (n*size) w es
    rw[e]
    exact⟨_,rfl⟩
   ·exact⟨_,rfl⟩
 unfold Builtin.mayShare
 cases b with
 |none=>exact k true
 |some a =>
  dsimp only
  rw[aj]
  obtain⟨h,e⟩:=holds_run (P:=P) a (l*size) w es
  rw[e]
  dsimp only
  rw[aj]
  have e:(frozen (a.add (l / 2*size))).runT P.a w es=(.ok (w.frozen? (a.add (l / 2*size))) w,es):=rfl
  rw[e]
  exact k _
def lk {α:Type}(size l n:Nat)(b:Option Addr)(x:Value)(why:Unsupported)(hw:∀g,why≠.initOrder g)(k:Unit->Sem α)(w:World)(es:Array Event) :
    ∃ u w' es', ((do if !(<- Builtin.mayShare size l n b x) then mark .noRoom
                     unsupported why) >>= k:Sem α).runT P.a w es=(.halt (.unsupported u) w',es')/\∀g,u≠.initOrder g:=by
  rw[aj,aj]
  obtain⟨r,e⟩:=mayShare_run (P:=P) size l n b x w es
  rw[e]
  cases r with
  |true=>exact⟨why,w,es,rfl,hw⟩
  |false=>exact⟨why,w,es.push ⟨.mark .noRoom,false,true⟩,rfl,hw⟩
def oh (ts:Array TypeId)(t:TypeId)(hz:∀e s,ts[0]?=some s->P.a.underlying s=some (.slice e)->bF P.a e=true)(hni:∀x k,ts[1]?=some x->P.a.underlying x≠some (.int k)){a A:Array Value}(h:AsRel S β a A) :
    SRel P S Ck G β (Builtin.append_ ts t a) (Builtin.append_ ts t A) (λβ' v V=>VRel S β' v V):=by
  unfold Builtin.append_
  cases ht:ts[0]? with
  |none=>exact sr_stuck
  |some t0 =>
    cases ha:a[0]? with
    |none=>exact sr_stuck
    |some s =>
      obtain⟨Sv,hS,hs⟩:=h.get? ha
      rw[hS]
      cases hb:a[1]? with
      |none=>exact sr_stuck
      |some x =>
        obtain⟨X,hX,hx⟩:=h.get? hb
        rw[hX]
        dsimp only
        refine sr_bind (al _) ?_
        rintro β1 d _ hle1 ⟨rfl,hd⟩
        replace hs:=hs.mono hle1
        replace hx:=hx.mono hle1
        cases d with
        |slice e =>
          have hze:=hz e t0 ht hd
          have tail : ∀ (β' : Bij) (b B : Option Addr) (l c : Nat), β1.le β' -> OARel β' b B -> VRel S β' (.slice b l c) (.slice B l c) -> SRel P S Ck G β' (do
              let size<-sizeOf e
              let zeros<-match ts[1]? with
                |some xType=>do pure ((<-underlying xType) matches .int _)
                |none=>pure false
              let n <- if zeros then do
                  let l:=IntKind.i64.wrap (<-asInt x)
                  if l<0 then runtimePanic (.error "makeslice: len out of range")
                  if l*(<-typeInfo e).bytes > 2 ^ 48 then
                    let made<-choose (.extern "append.ofMake.carriedOut" 2)
                    runtimePanic (.error (if made==1 then "makeslice: len out of range" else "growslice: len out of range"))
                  pure l.toNat
                else Builtin.lenOf x
              let appended:Sem (Array Value) :=
                if !zeros then Builtin.firstCells size n x
                else if n*size=0 then pure #[]
                else do pure (Builtin.zeroCells (<-zeroValue e).cells n)
              let need:=l+n
              if need<=c then
                let new<-appended
                if let some a:=b then storeCells (a.add (l*size)) new.toList
                pure (.slice b need c)
              else
                if(need:Int) > IntKind.i64.max/\(zeros\/(<-typeInfo e).bytes=0) then runtimePanic (.error "growslice: len out of range")
                if Builtin.nextslicecap need c*(<-typeInfo e).bytes > 2 ^ 48 then(if zeros then runtimePanic (.error "growslice: len out of range") else do
                  if !(<-Builtin.mayShare size l n b x) then mark .noRoom
                  unsupported (.resourceLimit "append: a slice or a string whose bytes no memory bears"))
                let newCap<-choose (.appendCap need c e)
                askRoom (newCap*(<-typeInfo e).bytes)
                let old<-Builtin.firstCells size l (.slice b l c)
                let new<-appended
                let rest:=Builtin.zeroCells (<-zeroValue e).cells (newCap-need)
                pure (.slice (some (<-newRow e (old++new++rest))) need newCap):Sem Value) (do
              let size<-sizeOf e
              let zeros<-match ts[1]? with
                |some xType=>do pure ((<-underlying xType) matches .int _)
                |none=>pure false
              let n <- if zeros then do
                  let l:=IntKind.i64.wrap (<-asInt X)
                  if l<0 then runtimePanic (.error "makeslice: len out of range")
                  if l*(<-typeInfo e).bytes > 2 ^ 48 then
                    let made<-choose (.extern "append.ofMake.carriedOut" 2)
                    runtimePanic (.error (if made==1 then "makeslice: len out of range" else "growslice: len out of range"))
                  pure l.toNat
                else Builtin.lenOf X
              let appended:Sem (Array Value) :=
                if !zeros then Builtin.firstCells size n X
                else if n*size=0 then pure #[]
                else do pure (Builtin.zeroCells (<-zeroValue e).cells n)
              let need:=l+n
              if need<=c then
                let new<-appended
                if let some a:=B then storeCells (a.add (l*size)) new.toList
                pure (.slice B need c)
              else
                if(need:Int) > IntKind.i64.max/\(zeros\/(<-typeInfo e).bytes=0) then runtimePanic (.error "growslice: len out of range")
                if Builtin.nextslicecap need c*(<-typeInfo e).bytes > 2 ^ 48 then(if zeros then runtimePanic (.error "growslice: len out of range") else do
                  if !(<-Builtin.mayShare size l n B X) then mark .noRoom
                  unsupported (.resourceLimit "append: a slice or a string whose bytes no memory bears"))
                let newCap<-choose (.appendCap need c e)
                askRoom (newCap*(<-typeInfo e).bytes)
                let old<-Builtin.firstCells size l (.slice B l c)
                let new<-appended
                let rest:=Builtin.zeroCells (<-zeroValue e).cells (newCap-need)
                pure (.slice (some (<-newRow e (old++new++rest))) need newCap):Sem Value) (λβ' v V=>VRel S β' v V):=by
            intro β' b B l c hle ob hs
            refine sr_bind (aC _) ?_
            rintro β2 size _ hle2 rfl
            have hx2:=(hx.mono hle).mono hle2
            have hs2:=hs.mono hle2
            have ob2:OARel β2 b B:=by
              cases ob with
              |none=>exact .none
              |some h=>exact .some (h.mono hle2)
            clear hx hs ob
            dsimp only
            rcases h1:ts[1]? with _|xt
            all_goals first
              |refine sr_bind (R:=λ_ (a A:Bool)=>a=false/\A=false) (sr_pure ⟨rfl,rfl⟩) ?_
              | (refine sr_bind (al _) ?_
                 rintro β2' d _ hle' ⟨rfl, hd⟩
                 replace hx2 := hx2.mono hle'
                 replace hs2 := hs2.mono hle'
                 replace ob2 : OARel β2' b B := by
                   cases ob2 with
                   | none => exact .none
                   | some h => exact .some (h.mono hle')
                 refine sr_bind (R := fun _ (a A : Bool) => a = false ∧ A = false) (sr_pure (by cases d with
                   | int k => exact absurd hd (hni xt k h1)
                   |_=>exact⟨rfl,rfl⟩)) ?_)
            all_goals
              rintro β3 z Z hle3 ⟨rfl,rfl⟩
              simp only[Bool.false_eq_true,if_false,Bool.not_false,if_true,false_or]
              have hx3:=hx2.mono hle3
              have hs3:=hs2.mono hle3
              refine sr_bind (pT hx3) ?_
              rintro β4 n _ hle4 rfl
              replace hx3:=hx3.mono hle4
              replace hs3:=hs3.mono hle4
              have ob4:OARel β4 b B:=by
                cases ob2 with
                |none=>exact .none
                |some h=>exact .some ((h.mono hle3).mono hle4)
              by_cases hn:l+n<=c
              · simp only[if_pos hn]
                refine sr_bind (dz _ _ hx3) ?_
                intro β5 y Y hle5 hy
                cases ob4 with
                |none=>exact sr_pure (.nils _ _)
                |some ha4 =>
                  refine sr_bind (fw ((ha4.mono hle5).add _) hy.toList 0) ?_
                  intro β6 _ _ hle6 _
                  exact sr_pure (((ha4.mono hle5).mono hle6).sl _ _)
              · simp only[if_neg hn]
                have fin : ∀ β5 : Bij, β4.le β5 -> SRel P S Ck G β5 (do
                    let newCap<-choose (.appendCap (l+n) c e)
                    askRoom (newCap*(<-typeInfo e).bytes)
                    let old<-Builtin.firstCells size l (.slice b l c)
                    let new<-Builtin.firstCells size n x
                    let rest:=Builtin.zeroCells (<-zeroValue e).cells (newCap-(l+n))
                    pure (.slice (some (<-newRow e (old++new++rest))) (l+n) newCap):Sem Value) (do
                    let newCap<-choose (.appendCap (l+n) c e)
                    askRoom (newCap*(<-typeInfo e).bytes)
                    let old<-Builtin.firstCells size l (.slice B l c)
                    let new<-Builtin.firstCells size n X
                    let rest:=Builtin.zeroCells (<-zeroValue e).cells (newCap-(l+n))
                    pure (.slice (some (<-newRow e (old++new++rest))) (l+n) newCap):Sem Value) (λβ' v V=>VRel S β' v V):=by
                  intro β5 hle5
                  refine sr_bind (ei _) ?_
                  rintro β6 nc _ hle6 rfl
                  refine sr_bind (aU _) ?_
                  rintro β7 info _ hle7 ⟨rfl,_⟩
                  refine sr_bind (iD _) ?_
                  intro β8 _ _ hle8 _
                  have l8:=Bij.le_trans (Bij.le_trans (Bij.le_trans hle5 hle6) hle7) hle8
                  refine sr_bind (dz _ _ (hs3.mono l8)) ?_
                  intro β9 y Y hle9 hy
                  refine sr_bind (dz _ _ ((hx3.mono l8).mono hle9)) ?_
                  intro βa y' Y' hlea hy'
                  refine sr_bind (bV hze) ?_
                  rintro βb z _ hleb ⟨rfl,hzv⟩
                  have hrest:AsRel S βb (Builtin.zeroCells z.cells (nc-(l+n))) (Builtin.zeroCells z.cells (nc-(l+n))):=fK hzv.cells _
                  refine sr_bind (en e ((((hy.mono hlea).mono hleb).append (hy'.mono hleb)).append hrest)) ?_
                  intro βc r R' _ hr
                  exact sr_pure (hr.sl _ _)
                refine sr_bind (aU _) ?_
                rintro β5 info _ hle5 ⟨rfl,_⟩
                by_cases hc1:((l+n:Nat):Int) > IntKind.i64.max/\info.bytes=0
                · simp only[if_pos hc1]
                  exact sr_bind (R:=λ_ _ _=>False) (au _ trivial) (λ_ _ _ _ h=>h.elim)
                · simp only[if_neg hc1]
                  refine sr_bind (aU _) ?_
                  rintro β6 info2 _ hle6 ⟨rfl,_⟩
                  by_cases hc2:Builtin.nextslicecap (l+n) c*info2.bytes > 2 ^ 48
                  · simp only[if_pos hc2]
                    refine sr_dead λw es=>?_
                    exact lk size l n b x _ (by intro g e;cases e) _ w es
                  · simp only[if_neg hc2]
                    exact fin β6 (Bij.le_trans hle5 hle6)
          cases hs with
          |nils l c=>exact tail β1 none none l c β1.le_refl .none (.nils _ _)
          |slice o s l c hb=>exact tail β1 (some _) (some _) l c β1.le_refl (.some (ARel.mk (a:=⟨_,o,s⟩) (A:=⟨_,o,s⟩) hb rfl rfl)) (.slice _ _ _ _ hb)
          |_=>exact sr_stuck
        |_=>exact λ_ _ _ _ _ _ _ _=>trivial
def sE (ts:Array TypeId)(t:TypeId)(hc:∀t e d,ts[0]?=some t->P.a.underlying t≠some (.chan e d)){a A:Array Value}(h:AsRel S β a A):SRel P S Ck G β (Builtin.len_ ts t a) (Builtin.len_ ts t A) (λβ' v V=>VRel S β' v V):=by
 unfold Builtin.len_
 cases ht:ts[0]? with
 |none=>exact sr_stuck
 |some t0 =>
  cases ha:a[0]? with
  |none=>exact sr_stuck
  |some x =>
   obtain⟨X,hX,hr⟩:=h.get? ha
   rw[hX]
   refine sr_bind (al _) ?_
   rintro β1 d _ hle ⟨rfl,hd⟩
   replace hr:=hr.mono hle
   cases d with
   |string=>cases hr with
    |string s=>exact sr_pure (.int _ _)
    |_=>exact sr_stuck
   |array n e=>exact sr_pure (.int _ _)
   |pointer e =>
    refine sr_bind (al _) ?_
    rintro β2 d _ hle ⟨rfl,_⟩
    cases d with
    |array n e=>exact sr_pure (.int _ _)
    |_=>exact λ_ _ _ _ _ _ _ _=>trivial
   |slice e=>cases hr with
    |nils l c=>exact sr_pure (.int _ _)
    |slice o s l c hb=>exact sr_pure (.int _ _)
    |_=>exact sr_stuck
   |map k e=>cases hr with
    |nilMap=>exact sr_pure (.int _ _)
    |_=>exact sr_stuck
   |chan e dir=>exact absurd hd (hc _ _ _ ht)
   |_=>exact λ_ _ _ _ _ _ _ _=>trivial
def sG (ts:Array TypeId)(t:TypeId)(hc:∀t e d,ts[0]?=some t->P.a.underlying t≠some (.chan e d)){a A:Array Value}(h:AsRel S β a A):SRel P S Ck G β (Builtin.cap_ ts t a) (Builtin.cap_ ts t A) (λβ' v V=>VRel S β' v V):=by
 unfold Builtin.cap_
 cases ht:ts[0]? with
 |none=>exact sr_stuck
 |some t0 =>
  cases ha:a[0]? with
  |none=>exact sr_stuck
  |some x =>
   obtain⟨X,hX,hr⟩:=h.get? ha
   rw[hX]
   refine sr_bind (al _) ?_
   rintro β1 d _ hle ⟨rfl,hd⟩
   replace hr:=hr.mono hle
   cases d with
   |array n e=>exact sr_pure (.int _ _)
   |pointer e =>
    refine sr_bind (al _) ?_
    rintro β2 d _ hle ⟨rfl,_⟩
    cases d with
    |array n e=>exact sr_pure (.int _ _)
    |_=>exact λ_ _ _ _ _ _ _ _=>trivial
   |slice e=>cases hr with
    |nils l c=>exact sr_pure (.int _ _)
    |slice o s l c hb=>exact sr_pure (.int _ _)
    |_=>exact sr_stuck
   |chan e dir=>exact absurd hd (hc _ _ _ ht)
   |_=>exact λ_ _ _ _ _ _ _ _=>trivial
def mF {v V:Value}(h:VRel S β v V)(i:Nat):SRel P S Ck G β (Instr.extract v i) (Instr.extract V i) (λβ' v V=>VRel S β' v V):=by
 cases h with
 |tuple h1 h2 =>
  rename_i x X
  unfold Instr.extract
  dsimp only
  cases hx:x[i]? with
  |none=>exact sr_stuck
  |some v=>obtain⟨V,hV,hr⟩:=(AsRel.mk h1 h2).get? hx;rw[hV];exact sr_pure hr
 |_=>exact sr_stuck
def pU (t:TypeId)(hz:bF P.a t=true):SRel P S Ck G β (Instr.alloc t true (.tuple #[])) (Instr.alloc t true (.tuple #[])) (λβ' v V=>VRel S β' v V):=by
 refine sr_bind (bV hz) ?_
 rintro β1 z _ hle1 ⟨rfl,hz⟩
 refine sr_bind (fI t hz) ?_
 intro β2 a A _ ha
 exact sr_pure ha.ptr
def sH (t:TypeId){v V:Value}(h:VRel S β v V):SRel P S Ck G β (Instr.box t v) (Instr.box t V) (λβ' v V=>VRel S β' v V):=by
 refine sr_bind (fI t h) ?_
 intro β2 a A _ ha
 exact sr_pure ha.ptr
def oi (t:TypeId){v V:Value}(h:VRel S β v V):SRel P S Ck G β (Instr.loadAt t v) (Instr.loadAt t V) (λβ' v V=>VRel S β' v V):=by
 refine sr_bind (cn h) ?_
 intro β2 a A _ ha
 exact iC t ha
def mG (t:TypeId){v V x X:Value}(h:VRel S β v V)(hx:VRel S β x X):SRel P S Ck G β (Instr.storeAt t v x) (Instr.storeAt t V X) (λ_ _ _=>True):=by
 refine sr_bind (cn h) ?_
 intro β2 a A hle ha
 exact lj t ha (hx.mono hle)
end
def cmpOk (P:Program)(t:TypeId):Bool:=match P.underlying t with
 |some (.int _)|some .bool|some .string=>true
 |_=>false
def Two.cellsOf (P:Two)(t:TypeId):P.b.cellsOf t=P.a.cellsOf t:=rfl
def Two.bytesOf (P:Two)(t:TypeId):P.b.bytesOf t=P.a.bytesOf t:=rfl
def Two.depth (P:Two):P.b.depth=P.a.depth:=rfl
def Two.byteOfCell (P:Two)(d:Nat):∀t off,byteOfCell P.b d t off=byteOfCell P.a d t off:=by
 induction d with
 |zero=>exact λ_ _=>rfl
 |succ d ih =>
  have e:Go.byteOfCell P.b d=Go.byteOfCell P.a d:=funext λt=>funext λo=>ih t o
  intro t off
  unfold Go.byteOfCell
  rw[e]
  rfl
def Two.cellOfByte (P:Two)(d:Nat):∀t off,cellOfByte P.b d t off=cellOfByte P.a d t off:=by
 induction d with
 |zero=>exact λ_ _=>rfl
 |succ d ih =>
  have e:Go.cellOfByte P.b d=Go.cellOfByte P.a d:=funext λt=>funext λo=>ih t o
  intro t off
  unfold Go.cellOfByte
  rw[e]
  rfl
def Two.cellAtBytes (P:Two)(d:Nat)(e:TypeId)(c o:Nat)(n:Int):cellAtBytes P.b d e c o n=cellAtBytes P.a d e c o n:=by
 have e1:Go.byteOfCell P.b d=Go.byteOfCell P.a d:=funext λt=>funext λo=>P.byteOfCell d t o
 have e2:Go.cellOfByte P.b d=Go.cellOfByte P.a d:=funext λt=>funext λo=>P.cellOfByte d t o
 unfold Go.cellAtBytes
 rw[e1,e2]
 rfl
section
variable {P:Two} {S:Par} {Ck:Code->Prop} {G:Nat} {β:Bij}
def ll {b B:Nat}(h:β b B):SRel P S Ck G β (numberAt b) (numberAt B) (λβ' x X=>match x,X with|none,none=>True|some (a,l),some (A,L)=>ARel β' a A/\l=L|_,_=>False):=by
 cases hh:S.hid b with
 |false =>
  refine sr_bind (jr h hh) ?_
  rintro β1 s _ hle rfl
  cases s with
  |some x=>exact sr_pure trivial
  |none =>
   refine sr_bind (ej (hle _ _ h) hh) ?_
   intro β2 o O _ ho
   cases ho with
   |number o s l hb=>exact sr_pure ⟨⟨hb,rfl,rfl⟩,rfl⟩
   |_=>exact sr_pure trivial
 |true =>
  intro w W n hw ht es0 ES0 _
  obtain⟨h1,h2',h3'⟩:=hw.hids b B h hh
  have e1:(numberAt b).runT P.a w es0=(.ok none w,es0.push ⟨.obj b,false,false⟩):=by
   unfold numberAt
   rw[aj]
   have e:(shape b).runT P.a w es0=(.ok none w,es0):=by
    show(Result.ok (w.shape? b) w,es0)=_
    unfold World.shape?;rw[h1]
   rw[e]
   dsimp only
   simp only[Option.isSome_none,Bool.false_eq_true,if_false]
   rw[aj]
   have e:(getObj b).runT P.a w es0=(.ok (.coro none) w,es0.push ⟨.obj b,false,false⟩):=by simp only[Go.getObj,Sem.runT,h1];rfl
   rw[e]
   rfl
  cases htw:S.hid.twin with
  |true =>
   have h2:=h3' htw
   have e2:(numberAt B).runT P.b W ES0=(.ok none W,ES0.push ⟨.obj B,false,false⟩):=by
    unfold numberAt
    rw[aj]
    have e:(shape B).runT P.b W ES0=(.ok none W,ES0):=by
     show(Result.ok (W.shape? B) W,ES0)=_
     unfold World.shape?;rw[h2]
    rw[e]
    dsimp only
    simp only[Option.isSome_none,Bool.false_eq_true,if_false]
    rw[aj]
    have e:(getObj B).runT P.b W ES0=(.ok (.coro none) W,ES0.push ⟨.obj B,false,false⟩):=by simp only[Go.getObj,Sem.runT,h2];rfl
    rw[e]
    rfl
   rw[e1,e2]
   exact⟨β,none,W,[⟨.obj B,false,false⟩],by simp,trivial,{ Fin.refl hw with evs:=λh=>by rw[htw] at h;cases h }⟩
  |false =>
  obtain⟨c,t,f,h2⟩:=h2' htw
  have e2:(numberAt B).runT P.b W ES0=(.ok none W,ES0):=by
   unfold numberAt
   rw[aj]
   have e:(shape B).runT P.b W ES0=(.ok (some (t,c.size)) W,ES0):=by
    show(Result.ok (W.shape? B) W,ES0)=_
    unfold World.shape?;rw[h2]
   rw[e]
   rfl
  rw[e1,e2]
  exact⟨β,none,W,[],by simp,trivial,Fin.refl hw⟩
def fL {b B:Nat}(h:β b B):SRel P S Ck G β (viewAt b) (viewAt B) (λ_ x X=>x=none/\X=none):=by
 cases hh:S.hid b with
 |false =>
  refine sr_bind (jr h hh) ?_
  rintro β1 s _ hle rfl
  cases s with
  |some x=>exact sr_pure ⟨rfl,rfl⟩
  |none =>
   refine sr_bind (ej (hle _ _ h) hh) ?_
   intro β2 o O _ ho
   cases ho<;>exact sr_pure ⟨rfl,rfl⟩
 |true =>
  intro w W n hw ht es0 ES0 _
  obtain⟨h1,h2',h3'⟩:=hw.hids b B h hh
  have e1:(viewAt b).runT P.a w es0=(.ok none w,es0.push ⟨.obj b,false,false⟩):=by
   unfold viewAt
   rw[aj]
   have e:(shape b).runT P.a w es0=(.ok none w,es0):=by
    show(Result.ok (w.shape? b) w,es0)=_
    unfold World.shape?;rw[h1]
   rw[e]
   dsimp only
   simp only[Option.isSome_none,Bool.false_eq_true,if_false]
   rw[aj]
   have e:(getObj b).runT P.a w es0=(.ok (.coro none) w,es0.push ⟨.obj b,false,false⟩):=by simp only[Go.getObj,Sem.runT,h1];rfl
   rw[e]
   rfl
  cases htw:S.hid.twin with
  |true =>
   have h2:=h3' htw
   have e2:(viewAt B).runT P.b W ES0=(.ok none W,ES0.push ⟨.obj B,false,false⟩):=by
    unfold viewAt
    rw[aj]
    have e:(shape B).runT P.b W ES0=(.ok none W,ES0):=by
     show(Result.ok (W.shape? B) W,ES0)=_
     unfold World.shape?;rw[h2]
    rw[e]
    dsimp only
    simp only[Option.isSome_none,Bool.false_eq_true,if_false]
    rw[aj]
    have e:(getObj B).runT P.b W ES0=(.ok (.coro none) W,ES0.push ⟨.obj B,false,false⟩):=by simp only[Go.getObj,Sem.runT,h2];rfl
    rw[e]
    rfl
   rw[e1,e2]
   exact⟨β,none,W,[⟨.obj B,false,false⟩],by simp,⟨rfl,rfl⟩,{ Fin.refl hw with evs:=λh=>by rw[htw] at h;cases h }⟩
  |false =>
  obtain⟨c,t,f,h2⟩:=h2' htw
  have e2:(viewAt B).runT P.b W ES0=(.ok none W,ES0):=by
   unfold viewAt
   rw[aj]
   have e:(shape B).runT P.b W ES0=(.ok (some (t,c.size)) W,ES0):=by
    show(Result.ok (W.shape? B) W,ES0)=_
    unfold World.shape?;rw[h2]
   rw[e]
   rfl
  rw[e1,e2]
  exact⟨β,none,W,[],by simp,⟨rfl,rfl⟩,Fin.refl hw⟩
def cG {a A:Addr}(h:ARel β a A):SRel P S Ck G β (behindNumber a) (behindNumber A) (λβ' x X=>ARel β' x.1 X.1/\x.2=X.2):=by
 refine sr_bind (ll h.block) ?_
 intro β1 x X hle hx
 cases x with
 |none=>cases X with
  |none=>exact sr_pure ⟨h.mono hle,rfl⟩
  |some _=>exact hx.elim
 |some x=>cases X with
  |none=>exact hx.elim
  |some X=>exact sr_pure hx
def oj {a A:Addr}(h:ARel β a A):SRel P S Ck G β (noView a) (noView A) (λ_ _ _=>True):=by
 refine sr_bind (fL h.block) ?_
 rintro β1 _ _ hle ⟨rfl,rfl⟩
 exact sr_pure trivial
def ol {a A:Addr}(h:ARel β a A):SRel P S Ck G β (byteOf a) (byteOf A) (λ_ x X=>x=X):=by
 unfold byteOf
 rw[<-h.spot,<-h.off]
 cases a.spot with
 |some s=>exact sr_pure rfl
 |none =>
  refine sr_bind aJ ?_
  rintro β1 p p' hle ⟨hp,hp'⟩
  subst p p'
  simp only[Two.cellsOf,Two.bytesOf,Two.depth,Two.byteOfCell]
  refine sr_bind (oj (h.mono hle)) ?_
  rintro β2 _ _ hle2 _
  refine sr_bind (hP (hle2 _ _ (hle _ _ h.block))) ?_
  rintro β3 s _ hle3 (rfl|rfl)
  rotate_left
  ·exact λ_ _ _ _ _ _ _ _=>trivial
  cases s with
  |none=>exact λ_ _ _ _ _ _ _ _=>trivial
  |some x =>
   obtain⟨e,n⟩:=x
   dsimp only
   by_cases h0:P.a.cellsOf e=0
   ·simp only[if_pos h0];exact sr_pure rfl
   ·simp only[if_neg h0]
    split
    ·exact sr_pure rfl
    ·exact sr_stuck
def fM (ts:Array TypeId)(t:TypeId){v V x X:Value}(hv:VRel S β v V)(hx:VRel S β x X):SRel P S Ck G β (Builtin.unsafeAdd_ ts t #[v,x]) (Builtin.unsafeAdd_ ts t #[V,X]) (λβ' y Y=>∃a A,y=.pointer (some a)/\Y=.pointer (some A)/\ARel β' a A):=by
 unfold Builtin.unsafeAdd_
 have tail:∀(p Q:Option Addr),OARel β p Q->VRel S β (.pointer p) (.pointer Q)->SRel P S Ck G β (Builtin.unsafeAdd_ ts t #[.pointer p,x]) (Builtin.unsafeAdd_ ts t #[.pointer Q,X]) (λβ' y Y=>∃a A,y=.pointer (some a)/\Y=.pointer (some A)/\ARel β' a A):=by
  intro p Q hp hpv
  refine sr_bind (dN hx) ?_
  rintro β1 n _ hle1 rfl
  dsimp only
  have rest : SRel P S Ck G β1 (do
    if n<0 then unsupported (.unsafePointer "Add: a move by a count below zero")
    let some a:=p|unsupported (.unsafePointer "Add")
    let some (e,cells)<-shape a.block|unsupported (.unsafePointer "Add")
    let P<-program
    match cellAtBytes P P.depth e (cells / P.cellsOf e) a.off n with
    |some off=>pure (.pointer (some { a with off }))
    |none=>unsupported (.unsafePointer "Add"):Sem Value) (do
    if n<0 then unsupported (.unsafePointer "Add: a move by a count below zero")
    let some a:=Q|unsupported (.unsafePointer "Add")
    let some (e,cells)<-shape a.block|unsupported (.unsafePointer "Add")
    let P<-program
    match cellAtBytes P P.depth e (cells / P.cellsOf e) a.off n with
    |some off=>pure (.pointer (some { a with off }))
    |none=>unsupported (.unsafePointer "Add"):Sem Value) (λβ' y Y=>∃a A,y=.pointer (some a)/\Y=.pointer (some A)/\ARel β' a A):=by
   dsimp only
   by_cases h0:n<0
   ·simp only[if_pos h0]
    exact λ_ _ _ _ _ _ _ _=>by intro g e;cases e
   ·simp only[if_neg h0]
    cases hp with
    |none=>exact λ_ _ _ _ _ _ _ _=>by intro g e;cases e
    |some ha =>
     rename_i a A
     dsimp only
     refine sr_bind (hP (hle1 _ _ ha.block)) ?_
     rintro β3 s _ hle3 (rfl|rfl)
     rotate_left
     ·exact λ_ _ _ _ _ _ _ _=>by intro g e;cases e
     cases s with
     |none=>exact λ_ _ _ _ _ _ _ _=>by intro g e;cases e
     |some x =>
      obtain⟨e,c⟩:=x
      refine sr_bind aJ ?_
      rintro β4 p _ hle4 ⟨rfl,rfl⟩
      rw[<-ha.off,Two.cellAtBytes,Two.depth,Two.cellsOf]
      split
      ·exact sr_pure ⟨_,_,rfl,rfl,⟨hle4 _ _ (hle3 _ _ (hle1 _ _ ha.block)),rfl,ha.spot⟩⟩
      ·exact λ_ _ _ _ _ _ _ _=>by intro g e;cases e
  by_cases h0:n=0
  ·simp only[if_pos h0]
   cases hp with
   |none=>exact λ_ _ _ _ _ _ _ _=>by intro g e;cases e
   |some ha =>
    dsimp only
    refine sr_bind (fL (hle1 _ _ ha.block)) ?_
    rintro β3 _ _ hle3 ⟨rfl,rfl⟩
    exact sr_pure ⟨_,_,rfl,rfl,(ha.mono hle1).mono hle3⟩
  ·simp only[if_neg h0]
   exact rest
 cases hv with
 |nilp=>exact tail none none .none .nilp
 |ptr o s hb=>exact tail (some _) (some _) (.some (ARel.mk (a:=⟨_,o,s⟩) (A:=⟨_,o,s⟩) hb rfl rfl)) (.ptr o s hb)
 |_=>exact sr_stuck
def _root_.Go.Iso.SRel.ptr {m M:Sem Value}(h:SRel P S Ck G β m M (λβ' y Y=>∃a A,y=.pointer (some a)/\Y=.pointer (some A)/\ARel β' a A)):SRel P S Ck G β m M (λβ' a A=>VRel S β' a A) :=
 rh h (by rintro β' _ _ _ ⟨a,A,rfl,rfl,h⟩;exact h.ptr)
def lm {a A:Addr}(h:ARel β a A)(l:Bool):SRel P S Ck G β (asNumber a l) (asNumber A l) (λβ' x X=>VRel S β' x X):=by
 have ho:ORel S Ck β (.number a l) (.number A l):=by
  obtain⟨b,o,s⟩:=a
  obtain⟨B,O,s'⟩:=A
  obtain⟨h1,h2,h3⟩:=h
  cases h2;cases h3
  exact .number _ _ _ h1
 refine sr_bind (iB ho (λi=>ho.id i (by simp))) ?_
 rintro β2 b B _ ⟨hb,_⟩
 exact sr_pure (.ptr _ _ hb)
def bH (t:TypeId){v V x X:Value}(hv:VRel S β v V)(hx:VRel S β x X):SRel P S Ck G β (movedNumber t v x) (movedNumber t V X) (λβ' a A=>VRel S β' a A):=by
 unfold movedNumber
 refine sr_bind (al _) ?_
 rintro β1 d _ hle1 ⟨rfl,_⟩
 dsimp only
 have main : SRel P S Ck G β1 (do
   let .pointer (some n):=v|Builtin.unsafeAdd_ #[] t #[v,x]
   let (a,lost)<-behindNumber n
   match<-Builtin.unsafeAdd_ #[] t #[.pointer (some a),x] with
   |.pointer (some b)=>asNumber b lost
   |v=>pure v:Sem Value) (do
   let .pointer (some n):=V|Builtin.unsafeAdd_ #[] t #[V,X]
   let (a,lost)<-behindNumber n
   match<-Builtin.unsafeAdd_ #[] t #[.pointer (some a),X] with
   |.pointer (some b)=>asNumber b lost
   |v=>pure v:Sem Value) (λβ' a A=>VRel S β' a A):=by
  replace hx:=hx.mono hle1
  replace hv:=hv.mono hle1
  have h0:=(fM (P:=P) (Ck:=Ck) (G:=G) #[] t hv hx).ptr
  cases hv with
  |ptr o s hb =>
   refine sr_bind (cG (ARel.mk (a:=⟨_,o,s⟩) (A:=⟨_,o,s⟩) hb rfl rfl)) ?_
   rintro β2 ⟨a,l⟩ ⟨A,L⟩ hle2 ⟨ha,hl⟩
   cases hl
   refine sr_bind (fM #[] t ha.ptr (hx.mono hle2)) ?_
   rintro β3 _ _ hle3 ⟨a',A',rfl,rfl,ha'⟩
   exact lm ha' l
  |_=>exact h0
 cases d with
 |unsafePointer=>exact λ_ _ _ _ _ _ _ _=>by intro g e;cases e
 |_=>exact main
def mH (k:IntKind){a A:Addr}(h:ARel β a A)(n:Int):SRel P S Ck G β (Op.addrMod k a n) (Op.addrMod k A n) (λβ' a A=>VRel S β' a A):=by
 refine sr_bind (hP h.block) ?_
 rintro β1 s _ hle1 (rfl|rfl)
 rotate_left
 ·exact λ_ _ _ _ _ _ _ _=>by intro g e;cases e
 cases s with
 |none=>exact λ_ _ _ _ _ _ _ _=>by intro g e;cases e
 |some x =>
  obtain⟨e,c⟩:=x
  refine sr_bind (aU _) ?_
  rintro β2 i _ hle2 ⟨rfl,_⟩
  dsimp only
  split
  ·exact λ_ _ _ _ _ _ _ _=>by intro g e;cases e
  ·refine sr_bind (ol ((h.mono hle1).mono hle2)) ?_
   rintro β3 b _ _ rfl
   exact sr_pure (.int _ _)
def kk (hG:P.a.globals.size<=G){a A b B:Addr}(ha:ARel β a A):SRel P S Ck G β (Op.twoPlaces a b) (Op.twoPlaces A B) (λ_ _ _=>False):=by
 intro w W n hw ht es0 ES0 hb
 have h1:=(hw.fine.lo ha.block).1
 have e:(Op.twoPlaces a b).runT P.a w es0=(.halt (.unsupported .addressObserved) w,es0):=by
  unfold Op.twoPlaces
  rw[aj]
  have e:program.runT P.a w es0=(.ok P.a w,es0):=rfl
  rw[e]
  dsimp only
  rw[if_pos (by simp;right;omega)]
  rfl
 rw[e]
 intro g e;cases e
end
section
variable {P:Two} {S:Par} {Ck:Code->Prop} {G:Nat} {β:Bij}
def cmp_cases {t:TypeId}(h:cmpOk P.a t=true):(∃k,P.a.underlying t=some (.int k))\/P.a.underlying t=some .bool\/P.a.underlying t=some .string:=by
 unfold cmpOk at h
 cases hd:P.a.underlying t with
 |none=>rw[hd] at h;cases h
 |some d =>
  rw[hd] at h
  cases d with
  |int k=>exact .inl ⟨k,rfl⟩
  |bool=>exact .inr (.inl rfl)
  |string=>exact .inr (.inr rfl)
  |_=>cases h
def js (hG:P.a.globals.size<=G)(m:Nat){t:TypeId}(h:cmpOk P.a t=true){v V x X:Value}(hv:VRel S β v V)(hx:VRel S β x X):SRel P S Ck G β (Op.equalIn (m+1) t v x) (Op.equalIn (m+1) t V X) (λ_ a A=>a=A):=by
 unfold Op.equalIn
 refine sr_bind (al _) ?_
 rintro β1 d _ hle ⟨rfl,hd⟩
 replace hv:=hv.mono hle
 replace hx:=hx.mono hle
 rcases cmp_cases h with⟨k,e⟩|e|e
 ·rw[e] at hd;cases hd
  cases hv with
  |int k a=>cases hx with
   |int k' b =>
    dsimp only
    split
    ·exact sr_pure rfl
    ·exact sr_stuck
   |ptr o s hb =>
    by_cases h0:a=0
    ·subst h0;exact sr_pure rfl
    ·refine sr_dead λw es=>⟨.addressObserved,w,es,?_,by intro g e;cases e⟩
     cases a with
     |ofNat n=>cases n with
      |zero=>exact absurd rfl h0
      |succ n=>rfl
     |negSucc n=>rfl
   |nilp=>exact sr_dead λw es=>⟨.addressObserved,w,es,rfl,by intro g e;cases e⟩
   |_=>exact sr_stuck
  |ptr o s hb=>cases hx with
   |int k' b =>
    by_cases h0:b=0
    ·subst h0;exact sr_pure rfl
    ·refine sr_dead λw es=>⟨.addressObserved,w,es,?_,by intro g e;cases e⟩
     cases b with
     |ofNat n=>cases n with
      |zero=>exact absurd rfl h0
      |succ n=>rfl
     |negSucc n=>rfl
   |ptr o' s' hb' =>
    have h1:ARel β1 ⟨_,o,s⟩ ⟨_,o,s⟩:=ARel.mk hb rfl rfl
    have h2:ARel β1 ⟨_,o',s'⟩ ⟨_,o',s'⟩:=ARel.mk hb' rfl rfl
    refine sr_bind (cG h1) ?_
    rintro β2 ⟨p,_⟩ ⟨p',_⟩ hle2 ⟨hp,_⟩
    refine sr_bind (cG (h2.mono hle2)) ?_
    rintro β3 ⟨q,_⟩ ⟨q',_⟩ hle3 ⟨hq,_⟩
    intro w W n hw ht es0 ES0 hbd
    have hp:=hp.mono hle3
    have l1:G<=p.block/\G<=p'.block:=(hw.fine.lo hp.block)
    have l2:G<=q.block/\G<=q'.block:=(hw.fine.lo hq.block)
    clear hle3
    have e1:(p==q)=(p'==q'):=by
     obtain⟨b,o,s⟩:=p
     obtain⟨B,O,t'⟩:=p'
     obtain⟨b',o',s'⟩:=q
     obtain⟨B',O',t''⟩:=q'
     obtain⟨a1,a2,a3⟩:=hp
     obtain⟨b1,b2,b3⟩:=hq
     cases a2;cases a3;cases b2;cases b3
     rw[Bool.eq_iff_iff]
     simp only[beq_iff_eq,Addr.mk.injEq]
     constructor
     ·rintro⟨rfl,r⟩;exact⟨hw.fine.fn a1 b1,r⟩
     ·rintro⟨rfl,r⟩;exact⟨hw.fine.inj a1 b1,r⟩
    refine(?_:SRel P S Ck G β3 _ _ _) w W n hw ht es0 ES0 hbd
    clear hbd es0 ES0 ht n
    refine sr_bind aJ ?_
    rintro β4 pr pr' hle4 ⟨hpr,hpr'⟩
    subst pr pr'
    have n1:¬(p.block==q.block&&decide (p.block<P.a.globals.size))=true:=by simp only[Bool.and_eq_true,beq_iff_eq,decide_eq_true_eq];omega
    have n2:¬(p'.block==q'.block&&decide (p'.block<P.b.globals.size))=true:=by rw[show P.b.globals=P.a.globals from rfl];simp only[Bool.and_eq_true,beq_iff_eq,decide_eq_true_eq];omega
    simp only[if_neg n1,if_neg n2]
    refine sr_bind (aU _) ?_
    rintro β5 i _ hle5 ⟨rfl,_⟩
    split
    ·rw[e1]
     split
     ·exact sr_pure rfl
     ·exact sr_unsupported (by intro g e;cases e)
    ·exact sr_unsupported (by intro g e;cases e)
   |_=>exact sr_dead λw es=>⟨.addressObserved,w,es,rfl,by intro g e;cases e⟩
  |nilp=>cases hx<;>exact sr_dead λw es=>⟨.addressObserved,w,es,rfl,by intro g e;cases e⟩
  |_=>cases hx<;>first|exact sr_stuck|exact sr_dead λw es=>⟨.addressObserved,w,es,rfl,by intro g e;cases e⟩
 ·rw[e] at hd;cases hd
  cases hv with
  |bool a=>cases hx with
   |bool b=>exact sr_pure rfl
   |_=>exact sr_stuck
  |_=>exact sr_stuck
 ·rw[e] at hd;cases hd
  cases hv with
  |string a=>cases hx with
   |string b=>exact sr_pure rfl
   |_=>exact sr_stuck
  |_=>exact sr_stuck
def km (hG:P.a.globals.size<=G){t:TypeId}(h:cmpOk P.a t=true){v V x X:Value}(hv:VRel S β v V)(hx:VRel S β x X):SRel P S Ck G β (Op.equal t v x) (Op.equal t V X) (λ_ a A=>a=A) :=
 js hG 9999 h hv hx
def lZ {m:Sem Value}(h:(∃v,(∀(S:Par) (β:Bij),VRel S β v v)/\m=pure v)\/(∃s,m=stuck s)\/(∃u,m=unsupported u/\∀g,u≠.initOrder g)\/(∃s,m=runtimePanic (.error s))) :
  SRel P S Ck G β m m (λβ' a A=>VRel S β' a A):=by
 rcases h with⟨v,h,rfl⟩|⟨s,rfl⟩|⟨u,rfl,h⟩|⟨s,rfl⟩
 ·exact sr_pure (h _ _)
 ·exact sr_stuck
 ·exact sr_unsupported h
 ·exact au _ trivial
def sr_intOps (op:BinOp)(t:TypeId)(k k':IntKind)(a b:Int):SRel P S Ck G β (binOp op t (.int k a) (.int k' b)) (binOp op t (.int k a) (.int k' b)) (λβ' a A=>VRel S β' a A):=by
  refine lZ ?_
  have iv:∀(k:IntKind) (n:Int),(∀(S:Par) (β:Bij),VRel S β (.int k n) (.int k n)):=λk n _ _=>.int _ _
  have bv:∀(b:Bool),(∀(S:Par) (β:Bij),VRel S β (.bool b) (.bool b)):=λb _ _=>.bool _
  cases op with
  | shl => unfold binOp Op.shift; dsimp only; split
           · exact .inr (.inr (.inr ⟨_, rfl⟩))
           · exact .inl ⟨_,iv _ _,rfl⟩
  | shr => unfold binOp Op.shift; dsimp only; split
           · exact .inr (.inr (.inr ⟨_, rfl⟩))
           · exact .inl ⟨_,iv _ _,rfl⟩
  | quo => unfold binOp Op.intDiv; dsimp only; split
           · exact .inr (.inl ⟨_, rfl⟩)
           · split
             · exact .inr (.inr (.inr ⟨_, rfl⟩))
             · exact .inl ⟨_,iv _ _,rfl⟩
  | rem => unfold binOp Op.intDiv; dsimp only; split
           · exact .inr (.inl ⟨_, rfl⟩)
           · split
             · exact .inr (.inr (.inr ⟨_, rfl⟩))
             · exact .inl ⟨_,iv _ _,rfl⟩
  |add|sub|mul|and|or|xor|andNot =>
    unfold binOp;dsimp only;split
    · exact .inr (.inl ⟨_,rfl⟩)
    · exact .inl ⟨_,iv _ _,rfl⟩
  |eql|neq|lss|leq|gtr|geq =>
    unfold binOp;dsimp only;split
    · exact .inr (.inl ⟨_,rfl⟩)
    · exact .inl ⟨_,bv _,rfl⟩
def ep (op:BinOp)(x y:ByteArray):SRel P S Ck G β (Op.stringOp op x y) (Op.stringOp op x y) (λβ' a A=>VRel S β' a A):=by
  refine lZ ?_
  have bv:∀(b:Bool),(∀(S:Par) (β:Bij),VRel S β (.bool b) (.bool b)):=λb _ _=>.bool _
  cases op with
  | add => unfold Op.stringOp; dsimp only; split
           · exact .inr (.inr (.inl ⟨_, rfl, by intro g e; cases e⟩))
           · exact .inl ⟨_,λ_ _=>.string _,rfl⟩
  |eql|neq|lss|leq|gtr|geq=>exact .inl ⟨_,bv _,rfl⟩
  |_=>exact .inr (.inl ⟨_,rfl⟩)
def jt {t:TypeId}(h:cmpOk P.a t=true){v V x X:Value}(hv:VRel S β v V)(hx:VRel S β x X):SRel P S Ck G β (do if(<-underlying t) matches .unsafePointer then movedPointer t v x else movedNumber t v x) (do if(<-underlying t) matches .unsafePointer then movedPointer t V X else movedNumber t V X) (λβ' a A=>VRel S β' a A):=by
 refine sr_bind (al _) ?_
 rintro β1 d _ hle ⟨rfl,hd⟩
 have:=bH (P:=P) (Ck:=Ck) (G:=G) t (hv.mono hle) (hx.mono hle)
 rcases cmp_cases h with⟨k,e⟩|e|e<;>(rw[e] at hd;cases hd;exact this)
def fN (hG:P.a.globals.size<=G){a A b B:Addr}(ha:ARel β a A)(hb:ARel β b B)(f F:Nat×Nat->Sem Value):SRel P S Ck G β (do let x<-behindNumber a;let y<-behindNumber b;(Op.twoPlaces x.1 y.1) >>= f) (do let x<-behindNumber A;let y<-behindNumber B;(Op.twoPlaces x.1 y.1) >>= F) (λβ' a A=>VRel S β' a A):=by
 refine sr_bind (cG ha) ?_
 rintro β2 ⟨p,_⟩ ⟨p',_⟩ hle2 ⟨hp,_⟩
 refine sr_bind (cG (hb.mono hle2)) ?_
 rintro β3 ⟨q,_⟩ ⟨q',_⟩ hle3 ⟨hq,_⟩
 exact sr_bind (kk hG (hp.mono hle3)) (λ_ _ _ _ h=>h.elim)
def sr_mod (k:IntKind){a A:Addr}(ha:ARel β a A)(n:Int):SRel P S Ck G β (do Op.addrMod k (<-behindNumber a).1 n) (do Op.addrMod k (<-behindNumber A).1 n) (λβ' a A=>VRel S β' a A):=by
 refine sr_bind (cG ha) ?_
 rintro β2 ⟨p,_⟩ ⟨p',_⟩ hle2 ⟨hp,_⟩
 exact mH k hp n
def Dead (P:Two){α:Type}(m:Sem α):Prop:=∀w es,(∃s w' es',m.runT P.a w es=(.halt (.stuck s) w',es'))\/∃u w' es',m.runT P.a w es=(.halt (.unsupported u) w',es')/\∀g,u≠.initOrder g
def sr_of_dead {α α':Type}{m:Sem α}{M:Sem α'}{R:Bij->α->α'->Prop}(h:Dead P m):SRel P S Ck G β m M R:=by
 intro w W n hw ht es0 ES0 hb
 rcases h w es0 with⟨s,w',es',e⟩|⟨u,w',es',e,hu⟩
 ·rw[e];trivial
 ·rw[e];exact hu
def Dead.bind {α γ:Type}{m:Sem α}(h:Dead P m)(k:α->Sem γ):Dead P (m >>= k):=by
 intro w es
 rw[aj]
 rcases h w es with⟨s,w',es',e⟩|⟨u,w',es',e,hu⟩
 ·rw[e];exact .inl ⟨s,w',es',rfl⟩
 ·rw[e];exact .inr ⟨u,w',es',rfl,hu⟩
def iE {t:TypeId}(h:cmpOk P.a t=true){v V x X:Value}(hv:VRel S β v V)(hx:VRel S β x X)(hu:v=hole\/x=hole):Dead P (Op.equal t v x):=by
 intro w es
 have hr:∀d,P.a.underlying t=some d->(underlying t).runT P.a w es=(.ok d w,es):=λd e=>by
  unfold underlying
  rw[aj]
  show(match(P.a.underlying t) with|some d=>pure d|none=>stuck _:Sem TypeDesc).runT P.a w es=_
  rw[e];rfl
 show(∃s w' es',(Op.equalIn (9999+1) t v x).runT P.a w es=_)\/∃u w' es',(Op.equalIn (9999+1) t v x).runT P.a w es=_/\_
 unfold Op.equalIn
 rw[aj]
 rcases cmp_cases h with⟨k,e⟩|e|e<;>rw[hr _ e]<;>rcases hu with rfl|rfl
 ·cases hx<;>first|exact .inl ⟨_,_,_,rfl⟩|exact .inr ⟨.addressObserved,_,_,rfl,by intro g e;cases e⟩
 ·cases hv<;>first|exact .inl ⟨_,_,_,rfl⟩|exact .inr ⟨.addressObserved,_,_,rfl,by intro g e;cases e⟩
 ·cases hx<;>first|exact .inl ⟨_,_,_,rfl⟩|exact .inr ⟨.addressObserved,_,_,rfl,by intro g e;cases e⟩
 ·cases hv<;>first|exact .inl ⟨_,_,_,rfl⟩|exact .inr ⟨.addressObserved,_,_,rfl,by intro g e;cases e⟩
 ·cases hx<;>first|exact .inl ⟨_,_,_,rfl⟩|exact .inr ⟨.addressObserved,_,_,rfl,by intro g e;cases e⟩
 ·cases hv<;>first|exact .inl ⟨_,_,_,rfl⟩|exact .inr ⟨.addressObserved,_,_,rfl,by intro g e;cases e⟩
def binOp_eql {t:TypeId}{V X:Value}(h1:∀k a k' b,V=.int k a->X=.int k' b->False)(h2:∀k a k' b,V=.float k a->X=.float k' b->False)(h3:∀k a b k' c d,V=.complex k a b->X=.complex k' c d->False)(h4:∀a b,V=.string a->X=.string b->False) :
  binOp .eql t V X=(do pure (.bool (<-Op.equal t V X)))/\binOp .neq t V X=(do pure (.bool (!(<-Op.equal t V X)))):=by
 constructor
 all_goals
  rw[binOp.eq_def]
  split
  all_goals first|contradiction|rfl|(exfalso;first|exact h1 _ _ _ _ rfl rfl|exact h2 _ _ _ _ rfl rfl|exact h3 _ _ _ _ _ _ rfl rfl|exact h4 _ _ rfl rfl)
def pV (hG:P.a.globals.size<=G)(op:BinOp){t:TypeId}(h:cmpOk P.a t=true){v V x X:Value}(hv:VRel S β v V)(hx:VRel S β x X):SRel P S Ck G β (binOp op t v x) (binOp op t V X) (λβ' a A=>VRel S β' a A):=by
 have he:SRel P S Ck G β (do pure (.bool (<-Op.equal t v x)):Sem Value) (do pure (.bool (<-Op.equal t V X))) (λβ' a A=>VRel S β' a A) :=
  sr_bind (km hG h hv hx) (by rintro β1 b _ _ rfl;exact sr_pure (.bool _))
 have hn:SRel P S Ck G β (do pure (.bool (!(<-Op.equal t v x))):Sem Value) (do pure (.bool (!(<-Op.equal t V X)))) (λβ' a A=>VRel S β' a A) :=
  sr_bind (km hG h hv hx) (by rintro β1 b _ _ rfl;exact sr_pure (.bool _))
 have mk:∀ {b B:Nat} (o:Nat) (s:Option Nat),β b B->ARel β ⟨b,o,s⟩ ⟨B,o,s⟩:=λo s h=>⟨h,rfl,rfl⟩
 rw[binOp.eq_def op t v x]
 split
 ·cases hv;cases hx;exact sr_intOps .shl t _ _ _ _
 ·cases hv;cases hx;exact sr_intOps .shr t _ _ _ _
 ·rename_i k a k' b n1 n2
  cases hv;cases hx
  have:=sr_intOps (P:=P) (S:=S) (Ck:=Ck) (G:=G) (β:=β) op t k k' a b
  cases op with
  |shl=>exact(n1 rfl).elim
  |shr=>exact(n2 rfl).elim
  |_=>exact this
 ·cases hv
 ·cases hv
 ·cases hv;cases hx
  have e:∀x y,binOp op t (.string x) (.string y)=Op.stringOp op x y:=λx y=>by cases op<;>rfl
  rw[e]
  exact ep _ _ _
 ·rename_i n1 n2 n3 n4
  by_cases hu:v=hole\/x=hole
  ·exact sr_of_dead ((iE h hv hx hu).bind _)
  rw[(binOp_eql (t:=t) (V:=V) (X:=X) ?_ ?_ ?_ ?_).1]
  ·exact he
  ·rintro k a k' b rfl rfl
   cases hv with
   |int=>cases hx with
    |int=>exact n1 _ _ _ _ rfl rfl
    |blank _ _=>exact hu (.inr rfl)
   |blank _ _=>exact hu (.inl rfl)
  ·rintro k a k' b rfl rfl
   cases hv;exact hu (.inl rfl)
  ·rintro k a k' b c d rfl rfl
   cases hv;exact hu (.inl rfl)
  ·rintro a b rfl rfl
   cases hv with
   |string=>cases hx with
    |string=>exact n4 _ _ rfl rfl
    |blank _ _=>exact hu (.inr rfl)
   |blank _ _=>exact hu (.inl rfl)
 ·rename_i n1 n2 n3 n4
  by_cases hu:v=hole\/x=hole
  ·exact sr_of_dead ((iE h hv hx hu).bind _)
  rw[(binOp_eql (t:=t) (V:=V) (X:=X) ?_ ?_ ?_ ?_).2]
  ·exact hn
  ·rintro k a k' b rfl rfl
   cases hv with
   |int=>cases hx with
    |int=>exact n1 _ _ _ _ rfl rfl
    |blank _ _=>exact hu (.inr rfl)
   |blank _ _=>exact hu (.inl rfl)
  ·rintro k a k' b rfl rfl
   cases hv;exact hu (.inl rfl)
  ·rintro k a k' b c d rfl rfl
   cases hv;exact hu (.inl rfl)
  ·rintro a b rfl rfl
   cases hv with
   |string=>cases hx with
    |string=>exact n4 _ _ rfl rfl
    |blank _ _=>exact hu (.inr rfl)
   |blank _ _=>exact hu (.inl rfl)
 ·cases hx
  cases hv with
  |nilp=>exact jt h .nilp (.int _ _)
  |ptr o s hb=>exact jt h (.ptr o s hb) (.int _ _)
 ·cases hv
  cases hx with
  |nilp=>exact bH _ .nilp (.int _ _)
  |ptr o s hb=>exact bH _ (.ptr o s hb) (.int _ _)
 ·cases hx
  cases hv with
  |nilp=>exact bH _ .nilp (.int _ _)
  |ptr o s hb=>exact bH _ (.ptr o s hb) (.int _ _)
 ·cases hv with
  |ptr o s hb=>cases hx with
   |ptr o' s' hb'=>exact fN hG (mk o s hb) (mk o' s' hb') _ _
 ·cases hv with
  |ptr o s hb=>cases hx with
   |ptr o' s' hb'=>exact fN hG (mk o s hb) (mk o' s' hb') _ _
 ·cases hv with
  |ptr o s hb=>cases hx with
   |ptr o' s' hb'=>exact fN hG (mk o s hb) (mk o' s' hb') _ _
 ·cases hv with
  |ptr o s hb=>cases hx with
   |ptr o' s' hb'=>exact fN hG (mk o s hb) (mk o' s' hb') _ _
 ·cases hv with
  |ptr o s hb=>cases hx with
   |ptr o' s' hb'=>exact fN hG (mk o s hb) (mk o' s' hb') _ _
 ·cases hv with
  |ptr o s hb=>cases hx;exact sr_mod _ (mk o s hb) _
 ·cases hv with
  |ptr o s hb=>cases hx;exact sr_mod _ (mk o s hb) _
 ·cases hv
  cases hx with
  |ptr o s hb=>exact sr_mod _ (mk o s hb) _
 ·exact sr_unsupported (u:=.addressObserved) (by intro g e;cases e)
 ·exact sr_unsupported (u:=.addressObserved) (by intro g e;cases e)
 ·exact sr_stuck
end
inductive NRel (S:Par)(Ck:Code->Prop)(β:Bij):Next->Next->Prop
 |value {v V:Value}:VRel S β v V->NRel S Ck β (.value v) (.value V)
 |skip:NRel S Ck β .skip .skip
 |enter {f:FuncId} {a A:Array Value}:S.fn f->AsRel S β a A->NRel S Ck β (.enter f a) (.enter f A)
 |round {l L:Nat} {f:FuncId} {x X:Array Value} {ug bo:Code}:β l L->S.hid l=false/\S.fr f->AsRel S β x X->Ck ug->Ck bo->NRel S Ck β (.round l f x ug bo) (.round L f X ug bo)
 |defer {d D:Deferred}:DRel S β d D->NRel S Ck β (.defer d) (.defer D)
section
variable {P:Two} {S:Par} {Ck:Code->Prop} {G:Nat} {β:Bij}
def underlying_run {p:Program}{t:TypeId}{d:TypeDesc}(e:p.underlying t=some d)(w:World)(es:Array Event):(underlying t).runT p w es=(.ok d w,es):=by
 unfold underlying
 rw[aj]
 have e2:program.runT p w es=(.ok p w,es):=rfl
 rw[e2]
 dsimp only
 rw[e]
 rfl
def cv {p:Program}(hp:∀t,p.underlying t=P.a.underlying t){t:TypeId}(h:cmpOk P.a t=true)(n:Nat)(v x:Value)(w:World)(es:Array Event):(Op.eqGuardIn (n+1) t v x).runT p w es=(.ok false w,es):=by
 unfold Op.eqGuardIn
 rw[aj]
 rcases cmp_cases h with⟨k,e⟩|e|e<;>(rw[underlying_run ((hp t).trans e)];rfl)
def gI {p:Program}(hp:∀t,p.underlying t=P.a.underlying t)(op:BinOp){t:TypeId}(h:cmpOk P.a t=true)(xo yo:Operand)(v x:Value)(w:World)(es:Array Event):(eqGuard op t xo yo v x).runT p w es=(.ok () w,es):=by
  unfold eqGuard
  cases op<;>try rfl
  all_goals
    rw[if_neg (by simp)]
    split
    · cases xo <;> cases yo <;> first
        |rfl
        | (rw [if_neg (by simp), aj, show Op.maxDepth = 9999 + 1 from rfl, cv hp h]
           rfl)
    · rw[aj]
      have e2:program.runT p w es=(.ok p w,es):=rfl
      rw[e2]
      dsimp only
      rw[aj,e2]
      dsimp only
      split
      · rfl
      · rw[aj,show Op.maxDepth=9999+1 from rfl,cv hp h]
        rfl
    · rfl
def mI (op:BinOp){t:TypeId}(h:cmpOk P.a t=true)(xo yo:Operand)(v x V X:Value):SRel P S Ck G β (eqGuard op t xo yo v x) (eqGuard op t xo yo V X) (λ_ _ _=>True):=by
 intro w W n hw ht es0 ES0 hb
 rw[gI (λ_=>rfl) op h,gI P.underlying op h]
 exact⟨β,(),W,[],by simp,trivial,Fin.refl hw⟩
def pW (op:UnOp){v V:Value}(hv:VRel S β v V):SRel P S Ck G β (Op.unary op v) (Op.unary op V) (λβ' a A=>VRel S β' a A):=by
 cases hv with
 |int k n=>cases op with
  |neg=>exact sr_pure (.int _ _)
  |xor=>exact sr_pure (.int _ _)
  |_=>exact sr_stuck
 |bool b=>cases op with
  |not=>exact sr_pure (.bool _)
  |_=>exact sr_stuck
 |ptr o s hb=>cases op with
  |neg=>exact sr_unsupported (u:=.addressObserved) (by intro g e;cases e)
  |xor=>exact sr_unsupported (u:=.addressObserved) (by intro g e;cases e)
  |_=>exact sr_stuck
 |_=>cases op<;>exact sr_stuck
def fO (P:Program)(s d:TypeId):Bool:=match P.underlying s,P.underlying d with
 |some (.int _),some (.int _)=>true
 |_,_=>false
def mJ {s d:TypeId}(h:fO P.a s d=true){v V:Value}(hv:VRel S β v V):SRel P S Ck G β (convert s d v) (convert s d V) (λβ' a A=>VRel S β' a A):=by
 refine sr_bind (al _) ?_
 rintro β1 a _ hle ⟨rfl,h1⟩
 refine sr_bind (al _) ?_
 rintro β2 b _ hle2 ⟨rfl,h2⟩
 unfold fO at h
 rw[h1,h2] at h
 cases a with
 |int k=>cases b with
  |int k'=>cases hv with
   |int k n=>exact sr_pure (.int _ _)
   |ptr o s hb=>exact sr_unsupported (u:=.addressObserved) (by intro g e;cases e)
   |_=>exact sr_dead λw es=>⟨_,w,es,rfl,by intro g e;cases e⟩
  |_=>cases h
 |_=>cases b<;>cases h
def rn {v V x X:Value}(hv:VRel S β v V)(hx:VRel S β x X):SRel P S Ck G β (Builtin.min2 v x) (Builtin.min2 V X) (λβ' a A=>VRel S β' a A):=by
 cases hv with
 |int k n=>cases hx with
  |int k' m=>exact sr_pure (.int _ _)
  |ptr o s hb=>exact sr_unsupported (u:=.addressObserved) (by intro g e;cases e)
  |_=>exact sr_stuck
 |string a=>cases hx with
  |string b =>
   refine sr_bind (ep _ _ _) ?_
   intro β1 c C _ hc
   refine sr_bind (fF hc) ?_
   rintro β2 c _ _ rfl
   exact sr_pure (.string _)
  |ptr o s hb=>exact sr_unsupported (u:=.addressObserved) (by intro g e;cases e)
  |_=>exact sr_stuck
 |ptr o s hb=>exact sr_unsupported (u:=.addressObserved) (by intro g e;cases e)
 |_=>cases hx<;>first|exact sr_stuck|exact sr_unsupported (u:=.addressObserved) (by intro g e;cases e)
def rp {v V x X:Value}(hv:VRel S β v V)(hx:VRel S β x X):SRel P S Ck G β (Builtin.max2 v x) (Builtin.max2 V X) (λβ' a A=>VRel S β' a A):=by
 cases hv with
 |int k n=>cases hx with
  |int k' m=>exact sr_pure (.int _ _)
  |ptr o s hb=>exact sr_unsupported (u:=.addressObserved) (by intro g e;cases e)
  |_=>exact sr_stuck
 |string a=>cases hx with
  |string b =>
   refine sr_bind (ep _ _ _) ?_
   intro β1 c C _ hc
   refine sr_bind (fF hc) ?_
   rintro β2 c _ _ rfl
   exact sr_pure (.string _)
  |ptr o s hb=>exact sr_unsupported (u:=.addressObserved) (by intro g e;cases e)
  |_=>exact sr_stuck
 |ptr o s hb=>exact sr_unsupported (u:=.addressObserved) (by intro g e;cases e)
 |_=>cases hx<;>first|exact sr_stuck|exact sr_unsupported (u:=.addressObserved) (by intro g e;cases e)
def fP {f:Value->Value->Sem Value}(hf:∀β v V x X,VRel S β v V->VRel S β x X->SRel P S Ck G β (f v x) (f V X) (λβ' a A=>VRel S β' a A)) :
  ∀ {l L:List Value} {v V:Value} {β:Bij},LRel (VRel S β) l L->VRel S β v V->SRel P S Ck G β (l.foldlM f v) (L.foldlM f V) (λβ' a A=>VRel S β' a A)
 |[],_,_,_,_,h,hv=>by cases h;exact sr_pure hv
 |x::l,_,_,_,_,h,hv=>by
  cases h with
  |cons hx hl =>
   simp only[List.foldlM_cons]
   refine sr_bind (hf _ _ _ _ _ hv hx) ?_
   intro β1 y Y hle hy
   exact fP hf (hl.mono λ_ _=>VRel.mono hle) hy
def sI (ts:Array TypeId)(t:TypeId){a A:Array Value}(h:AsRel S β a A):SRel P S Ck G β (Builtin.min_ ts t a) (Builtin.min_ ts t A) (λβ' v V=>VRel S β' v V):=by
 unfold Builtin.min_
 have:=h.toList
 revert this
 generalize a.toList=l
 generalize A.toList=L
 intro hl
 cases hl with
 |nil=>exact sr_stuck
 |cons hx hl=>exact fP (λβ v V x X=>rn) hl hx
def sJ (ts:Array TypeId)(t:TypeId){a A:Array Value}(h:AsRel S β a A):SRel P S Ck G β (Builtin.max_ ts t a) (Builtin.max_ ts t A) (λβ' v V=>VRel S β' v V):=by
 unfold Builtin.max_
 have:=h.toList
 revert this
 generalize a.toList=l
 generalize A.toList=L
 intro hl
 cases hl with
 |nil=>exact sr_stuck
 |cons hx hl=>exact fP (λβ v V x X=>rp) hl hx
end
end Go.Iso
