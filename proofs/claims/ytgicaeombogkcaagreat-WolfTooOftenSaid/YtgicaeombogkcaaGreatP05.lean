/- Parts of the proof. -/
import Derived.Test.YtgicaeombogkcaaGreatP04
set_option linter.all false
namespace Go.Iso
inductive NRel (S:Par) (Ck:Code->Prop) (β:Bij):Next->Next->Prop
 | value {v V:Value}:VRel S β v V->NRel S Ck β (.value v) (.value V)
 | skip:NRel S Ck β .skip .skip
 | enter {f:FuncId} {a A:Array Value}:S.fn f->AsRel S β a A->NRel S Ck β (.enter f a) (.enter f A)
 | round {l L:Nat} {f:FuncId} {x X:Array Value} {s5 bo:Code}:β l L->S.hid l=false∧S.fr f->AsRel S β x X->Ck s5->Ck bo->NRel S Ck β (.round l f x s5 bo) (.round L f X s5 bo)
 | defer {d D:Deferred}:DRel S β d D->NRel S Ck β (.defer d) (.defer D)
section
variable {P:Two} {S:Par} {Ck:Code->Prop} {G:Nat} {β:Bij}
theorem underlying_run {p:Program} {t:TypeId} {d:TypeDesc} (e:p.underlying t=some d) (w:World) (es:Array Event):(underlying t).runT p w es=(.ok d w,es):=by
 unfold underlying
 rw [aj]
 have e2:program.runT p w es=(.ok p w,es):=rfl
 rw [e2]
 dsimp only
 rw [e]
 rfl
theorem ck {p:Program} (hp:∀ t,p.underlying t=P.a.underlying t) {t:TypeId} (h:cmpOk P.a t=true) (n:Nat) (v x:Value) (w:World) (es:Array Event):(Op.eqGuardIn (n+1) t v x).runT p w es=(.ok false w,es):=by
 unfold Op.eqGuardIn
 rw [aj]
 rcases cmp_cases h with ⟨k,e⟩ | e | e<;>(rw [underlying_run ((hp t).trans e)];rfl)
theorem fY {p:Program} (hp:∀ t,p.underlying t=P.a.underlying t) (op:BinOp) {t:TypeId} (h:cmpOk P.a t=true) (xo yo:Operand) (v x:Value) (w:World) (es:Array Event):(eqGuard op t xo yo v x).runT p w es=(.ok () w,es):=by
  unfold eqGuard
  cases op<;>try rfl
  all_goals
    rw [if_neg (by simp)]
    split
    · cases xo <;> cases yo <;> first
        | rfl
        | (rw [if_neg (by simp), aj, show Op.maxDepth = 9999 + 1 from rfl, ck hp h]
           rfl)
    · rw [aj]
      have e2:program.runT p w es=(.ok p w,es):=rfl
      rw [e2]
      dsimp only
      rw [aj,e2]
      dsimp only
      split
      · rfl
      · rw [aj,show Op.maxDepth=9999+1 from rfl,ck hp h]
        rfl
    · rfl
theorem mc (op:BinOp) {t:TypeId} (h:cmpOk P.a t=true) (xo yo:Operand) (v x V X:Value):SRel P S Ck G β (eqGuard op t xo yo v x) (eqGuard op t xo yo V X) (fun _ _ _=>True):=by
 intro w W n hw ht es0 ES0 hb
 rw [fY (fun _=>rfl) op h,fY P.underlying op h]
 exact ⟨β,(),W,[],by simp,trivial,Fin.refl hw⟩
theorem pj (op:UnOp) {v V:Value} (hv:VRel S β v V):SRel P S Ck G β (Op.unary op v) (Op.unary op V) (fun β' a A=>VRel S β' a A):=by
 cases hv with
 | int k n=>cases op with
  | neg=>exact sr_pure (.int _ _)
  | xor=>exact sr_pure (.int _ _)
  | _=>exact sr_stuck
 | bool b=>cases op with
  | not=>exact sr_pure (.bool _)
  | _=>exact sr_stuck
 | ptr o s hb=>cases op with
  | neg=>exact sr_unsupported (u:=.addressObserved) (by intro g e;cases e)
  | xor=>exact sr_unsupported (u:=.addressObserved) (by intro g e;cases e)
  | _=>exact sr_stuck
 | _=>cases op<;>exact sr_stuck
def fp (P:Program) (s d:TypeId):Bool:=match P.underlying s,P.underlying d with
 | some (.int _),some (.int _)=>true
 | _,_=>false
theorem me {s d:TypeId} (h:fp P.a s d=true) {v V:Value} (hv:VRel S β v V):SRel P S Ck G β (convert s d v) (convert s d V) (fun β' a A=>VRel S β' a A):=by
 refine sr_bind (al _) ?_
 rintro β1 a _ hle ⟨rfl,h1⟩
 refine sr_bind (al _) ?_
 rintro β2 b _ hle2 ⟨rfl,h2⟩
 unfold fp at h
 rw [h1,h2] at h
 cases a with
 | int k=>cases b with
  | int k'=>cases hv with
   | int k n=>exact sr_pure (.int _ _)
   | ptr o s hb=>exact sr_unsupported (u:=.addressObserved) (by intro g e;cases e)
   | _=>exact sr_dead fun w es=>⟨_,w,es,rfl,by intro g e;cases e⟩
  | _=>cases h
 | _=>cases b<;>cases h
theorem qB {v V x X:Value} (hv:VRel S β v V) (hx:VRel S β x X):SRel P S Ck G β (Builtin.min2 v x) (Builtin.min2 V X) (fun β' a A=>VRel S β' a A):=by
 cases hv with
 | int k n=>cases hx with
  | int k' m=>exact sr_pure (.int _ _)
  | ptr o s hb=>exact sr_unsupported (u:=.addressObserved) (by intro g e;cases e)
  | _=>exact sr_stuck
 | string a=>cases hx with
  | string b =>
   refine sr_bind (dT _ _ _) ?_
   intro β1 c C _ hc
   refine sr_bind (ff hc) ?_
   rintro β2 c _ _ rfl
   exact sr_pure (.string _)
  | ptr o s hb=>exact sr_unsupported (u:=.addressObserved) (by intro g e;cases e)
  | _=>exact sr_stuck
 | ptr o s hb=>exact sr_unsupported (u:=.addressObserved) (by intro g e;cases e)
 | _=>cases hx<;>first | exact sr_stuck | exact sr_unsupported (u:=.addressObserved) (by intro g e;cases e)
theorem qC {v V x X:Value} (hv:VRel S β v V) (hx:VRel S β x X):SRel P S Ck G β (Builtin.max2 v x) (Builtin.max2 V X) (fun β' a A=>VRel S β' a A):=by
 cases hv with
 | int k n=>cases hx with
  | int k' m=>exact sr_pure (.int _ _)
  | ptr o s hb=>exact sr_unsupported (u:=.addressObserved) (by intro g e;cases e)
  | _=>exact sr_stuck
 | string a=>cases hx with
  | string b =>
   refine sr_bind (dT _ _ _) ?_
   intro β1 c C _ hc
   refine sr_bind (ff hc) ?_
   rintro β2 c _ _ rfl
   exact sr_pure (.string _)
  | ptr o s hb=>exact sr_unsupported (u:=.addressObserved) (by intro g e;cases e)
  | _=>exact sr_stuck
 | ptr o s hb=>exact sr_unsupported (u:=.addressObserved) (by intro g e;cases e)
 | _=>cases hx<;>first | exact sr_stuck | exact sr_unsupported (u:=.addressObserved) (by intro g e;cases e)
theorem ft {f:Value->Value->Sem Value} (hf:∀ β v V x X,VRel S β v V->VRel S β x X->SRel P S Ck G β (f v x) (f V X) (fun β' a A=>VRel S β' a A)) :
  ∀ {l L:List Value} {v V:Value} {β:Bij},LRel (VRel S β) l L->VRel S β v V->SRel P S Ck G β (l.foldlM f v) (L.foldlM f V) (fun β' a A=>VRel S β' a A)
 | [],_,_,_,_,h,hv=>by cases h;exact sr_pure hv
 | x :: l,_,_,_,_,h,hv=>by
  cases h with
  | cons hx hl =>
   simp only [List.foldlM_cons]
   refine sr_bind (hf _ _ _ _ _ hv hx) ?_
   intro β1 y Y hle hy
   exact ft hf (hl.mono fun _ _=>VRel.mono hle) hy
theorem rN (ts:Array TypeId) (t:TypeId) {a A:Array Value} (h:AsRel S β a A):SRel P S Ck G β (Builtin.min_ ts t a) (Builtin.min_ ts t A) (fun β' v V=>VRel S β' v V):=by
 unfold Builtin.min_
 have:=h.toList
 revert this
 generalize a.toList=l
 generalize A.toList=L
 intro hl
 cases hl with
 | nil=>exact sr_stuck
 | cons hx hl=>exact ft (fun β v V x X=>qB) hl hx
theorem rO (ts:Array TypeId) (t:TypeId) {a A:Array Value} (h:AsRel S β a A):SRel P S Ck G β (Builtin.max_ ts t a) (Builtin.max_ ts t A) (fun β' v V=>VRel S β' v V):=by
 unfold Builtin.max_
 have:=h.toList
 revert this
 generalize a.toList=l
 generalize A.toList=L
 intro hl
 cases hl with
 | nil=>exact sr_stuck
 | cons hx hl=>exact ft (fun β v V x X=>qC) hl hx
end
def bJ (P:Program):Nat->TypeId->Bool
 | 0,_=>false
 | d+1,t=>cmpOk P t||match P.underlying t with
  | some (.struct fs)=>fs.all fun f=>bJ P d f.type
  | some (.array _ e)=>bJ P d e
  | some (.slice _)=>true
  | _=>false
theorem Two.alikeButTags (P:Two) (d:Nat):P.b.alikeButTags d=P.a.alikeButTags d:=by
 induction d with
 | zero=>rfl
 | succ d ih =>
  funext t u
  unfold Program.alikeButTags
  rw [ih]
  rfl
theorem Two.stoodInHeld (P:Two) (t:TypeId):P.b.stoodInHeld t=P.a.stoodInHeld t:=by
 unfold Program.stoodInHeld Program.stoodInAs
 rw [Two.alikeButTags,show P.b.depth=P.a.depth from rfl]
 rfl
theorem Two.eqGuardType (P:Two) (d:Nat):P.b.eqGuardType d=P.a.eqGuardType d:=by
 induction d with
 | zero=>rfl
 | succ d ih =>
  funext t
  unfold Program.eqGuardType
  rw [ih]
  rfl
section
variable {P:Two} {S:Par} {Ck:Code->Prop} {G:Nat} {β:Bij}
theorem dz {γ σ:Type} {f F:γ->σ->Sem (ForInStep σ)}:∀ (l:List γ) (s:σ) (β:Bij),(∀ x∈l,∀ s β',β.le β'->SRel P S Ck G β' (f x s) (F x s) (fun _ a A=>a=A)) ->
  SRel P S Ck G β (forIn l s f) (forIn l s F) (fun _ a A=>a=A)
 | [],s,β,_=>by
  simp only [List.forIn_nil]
  exact sr_pure rfl
 | x :: l,s,β,h=>by
  simp only [List.forIn_cons]
  refine sr_bind (h x (by simp) s β β.le_refl) ?_
  rintro β1 a _ hle rfl
  cases a with
  | done b=>exact sr_pure rfl
  | yield b=>exact dz l b β1 fun y hy s β' hle'=>h y (by simp [hy]) s β' (Bij.le_trans hle hle')
theorem dU (hG:P.a.globals.size<=G):∀ (n k:Nat) {t:TypeId} (β:Bij),bJ P.a k t=true->∀ {v V x X:Value},VRel S β v V->VRel S β x X->SRel P S Ck G β (Op.equalIn n t v x) (Op.equalIn n t V X) (fun _ a A=>a=A)
 | 0,_,_,_,_,_,_,_,_,_,_=>sr_unsupported (by intro g e;cases e)
 | _+1,0,_,_,h,_,_,_,_,_,_=>by cases h
 | n+1,k+1,t,β,h,v,V,x,X,hv,hx=>by
  by_cases hc:cmpOk P.a t=true
  ·exact iX hG n hc hv hx
  ·unfold bJ at h
   rw [Bool.eq_false_iff.2 hc,Bool.false_or] at h
   unfold Op.equalIn
   refine sr_bind (al _) ?_
   rintro β1 d _ hle ⟨rfl,hd⟩
   replace hv:=hv.mono hle
   replace hx:=hx.mono hle
   rw [hd] at h
   cases d with
   | struct fs =>
    simp only [Array.all_eq_true_iff_forall_mem] at h
    cases hv with
    | agg h1 h2 =>
     cases hx with
     | agg h3 h4 =>
      rename_i a A b B
      have ha:AsRel S β1 a A:=⟨h1,h2⟩
      have hb:AsRel S β1 b B:=⟨h3,h4⟩
      refine sr_bind aF ?_
      rintro β2 p p' hle2 ⟨hp,hp'⟩
      subst p p'
      rw [Two.stoodInHeld]
      split
      ·exact sr_bind (R:=fun _ _ _=>False) (sr_unsupported (by intro g e;cases e)) (fun _ _ _ _ h=>h.elim)
      ·refine sr_bind (R:=fun _ a A=>a=A) ?_ ?_
       ·rw [<- Array.forIn_toList,<- Array.forIn_toList]
        refine dz _ _ _ fun f hf s β3 hle3=>?_
        split
        ·refine sr_bind (bN _ ((ha.mono hle2).mono hle3) _) ?_
         intro β4 p1 P1 hle4 hp1
         refine sr_bind (bN _ (((hb.mono hle2).mono hle3).mono hle4) _) ?_
         intro β5 p2 P2 hle5 hp2
         refine sr_bind (dU hG n k β5 (h f (by simpa using hf)) (hp1.mono hle5) hp2) ?_
         rintro β6 r _ _ rfl
         cases r<;>exact sr_pure rfl
        ·exact sr_pure rfl
       ·rintro β3 ⟨a,_⟩ _ _ rfl
        cases a<;>exact sr_pure rfl
     | _=>exact sr_stuck
    | _=>first | exact sr_stuck | (cases hx<;>exact sr_stuck)
   | array len e =>
    cases hv with
    | agg h1 h2 =>
     cases hx with
     | agg h3 h4 =>
      rename_i a A b B
      have ha:AsRel S β1 a A:=⟨h1,h2⟩
      have hb:AsRel S β1 b B:=⟨h3,h4⟩
      refine sr_bind (ay _) ?_
      rintro β2 m _ hle2 rfl
      refine sr_bind (R:=fun _ a A=>a=A) ?_ ?_
      ·simp only [Std.Legacy.Range.forIn_eq_forIn_range']
       refine dz _ _ _ fun f hf s β3 hle3=>?_
       refine sr_bind (bN _ ((ha.mono hle2).mono hle3) _) ?_
       intro β4 p1 P1 hle4 hp1
       refine sr_bind (bN _ (((hb.mono hle2).mono hle3).mono hle4) _) ?_
       intro β5 p2 P2 hle5 hp2
       refine sr_bind (dU hG n k β5 h (hp1.mono hle5) hp2) ?_
       rintro β6 r _ _ rfl
       cases r<;>exact sr_pure rfl
      ·rintro β3 ⟨a,_⟩ _ _ rfl
       cases a<;>exact sr_pure rfl
     | _=>exact sr_stuck
    | _=>first | exact sr_stuck | (cases hx<;>exact sr_stuck)
   | slice e =>
    cases hv with
    | nils l c=>cases hx<;>first | exact sr_pure rfl | exact sr_stuck
    | slice o s l c hb=>cases hx<;>first | exact sr_pure rfl | exact sr_stuck
    | _=>first | exact sr_stuck | (cases hx<;>exact sr_stuck)
   | _=>cases h
theorem cl:∀ (n k:Nat) {t:TypeId} (β:Bij),bJ P.a k t=true->∀ {v V x X:Value},VRel S β v V->VRel S β x X->SRel P S Ck G β (Op.eqGuardIn n t v x) (Op.eqGuardIn n t V X) (fun _ a A=>a=A)
 | 0,_,_,_,_,_,_,_,_,_,_=>sr_unsupported (by intro g e;cases e)
 | _+1,0,_,_,h,_,_,_,_,_,_=>by cases h
 | n+1,k+1,t,β,h,v,V,x,X,hv,hx=>by
  by_cases hc:cmpOk P.a t=true
  ·intro w W m hw ht es0 ES0 hb
   rw [ck (P:=P) (fun _=>rfl) hc,ck P.underlying hc]
   exact ⟨β,false,W,[],by simp,rfl,Fin.refl hw⟩
  ·unfold bJ at h
   rw [Bool.eq_false_iff.2 hc,Bool.false_or] at h
   unfold Op.eqGuardIn
   refine sr_bind (al _) ?_
   rintro β1 d _ hle ⟨rfl,hd⟩
   replace hv:=hv.mono hle
   replace hx:=hx.mono hle
   rw [hd] at h
   cases d with
   | struct fs =>
    simp only [Array.all_eq_true_iff_forall_mem] at h
    cases hv with
    | agg h1 h2 =>
     cases hx with
     | agg h3 h4 =>
      rename_i a A b B
      have ha:AsRel S β1 a A:=⟨h1,h2⟩
      have hb:AsRel S β1 b B:=⟨h3,h4⟩
      refine sr_bind (R:=fun _ a A=>a=A) ?_ ?_
      ·rw [<- Array.forIn_toList,<- Array.forIn_toList]
       refine dz _ _ _ fun f hf s β3 hle3=>?_
       split
       ·refine sr_bind (bN _ (ha.mono hle3) _) ?_
        intro β4 p1 P1 hle4 hp1
        refine sr_bind (bN _ ((hb.mono hle3).mono hle4) _) ?_
        intro β5 p2 P2 hle5 hp2
        refine sr_bind (cl n k β5 (h f (by simpa using hf)) (hp1.mono hle5) hp2) ?_
        rintro β6 r _ _ rfl
        cases r<;>exact sr_pure rfl
       ·exact sr_pure rfl
      ·rintro β3 ⟨a,_⟩ _ _ rfl
       cases a<;>exact sr_pure rfl
     | blank _ hX=>cases X<;>first | exact sr_pure rfl | (cases hX;done)
     | _=>exact sr_pure rfl
    | blank _ hV=>cases V<;>first | exact sr_pure rfl | (cases hV;done) | (cases hx<;>exact sr_pure rfl)
    | _=>first | exact sr_pure rfl | (cases hx<;>exact sr_pure rfl)
   | array len e =>
    cases hv with
    | agg h1 h2 =>
     cases hx with
     | agg h3 h4 =>
      rename_i a A b B
      have ha:AsRel S β1 a A:=⟨h1,h2⟩
      have hb:AsRel S β1 b B:=⟨h3,h4⟩
      refine sr_bind (ay _) ?_
      rintro β2 m _ hle2 rfl
      refine sr_bind (R:=fun _ a A=>a=A) ?_ ?_
      ·simp only [Std.Legacy.Range.forIn_eq_forIn_range']
       refine dz _ _ _ fun f hf s β3 hle3=>?_
       refine sr_bind (bN _ ((ha.mono hle2).mono hle3) _) ?_
       intro β4 p1 P1 hle4 hp1
       refine sr_bind (bN _ (((hb.mono hle2).mono hle3).mono hle4) _) ?_
       intro β5 p2 P2 hle5 hp2
       refine sr_bind (cl n k β5 h (hp1.mono hle5) hp2) ?_
       rintro β6 r _ _ rfl
       cases r<;>exact sr_pure rfl
      ·rintro β3 ⟨a,_⟩ _ _ rfl
       cases a<;>exact sr_pure rfl
     | blank _ hX=>cases X<;>first | exact sr_pure rfl | (cases hX;done)
     | _=>exact sr_pure rfl
    | blank _ hV=>cases V<;>first | exact sr_pure rfl | (cases hV;done) | (cases hx<;>exact sr_pure rfl)
    | _=>first | exact sr_pure rfl | (cases hx<;>exact sr_pure rfl)
   | slice e=>exact sr_pure rfl
   | _=>cases h
theorem kJ (n k:Nat) {t:TypeId} (h:bJ P.a k t=true) {v V x X:Value} (hv:VRel S β v V) (hx:VRel S β x X) (hu:v=hole∨x=hole):Dead P (Op.equalIn (n+1) t v x):=by
 intro w es
 have hr:∀ d,P.a.underlying t=some d->(underlying t).runT P.a w es=(.ok d w,es):=fun d e=>by
  unfold underlying
  rw [aj]
  show (match (P.a.underlying t) with | some d=>pure d | none=>stuck _:Sem TypeDesc).runT P.a w es=_
  rw [e];rfl
 cases k with
 | zero=>cases h
 | succ k =>
  unfold Op.equalIn
  rw [aj]
  unfold bJ at h
  by_cases hc:cmpOk P.a t=true
  ·rcases cmp_cases hc with ⟨k,e⟩ | e | e<;>rw [hr _ e]<;>rcases hu with rfl | rfl
   ·cases hx<;>first | exact .inl ⟨_,_,_,rfl⟩ | exact .inr ⟨.addressObserved,_,_,rfl,by intro g e;cases e⟩
   ·cases hv<;>first | exact .inl ⟨_,_,_,rfl⟩ | exact .inr ⟨.addressObserved,_,_,rfl,by intro g e;cases e⟩
   ·cases hx<;>first | exact .inl ⟨_,_,_,rfl⟩ | exact .inr ⟨.addressObserved,_,_,rfl,by intro g e;cases e⟩
   ·cases hv<;>first | exact .inl ⟨_,_,_,rfl⟩ | exact .inr ⟨.addressObserved,_,_,rfl,by intro g e;cases e⟩
   ·cases hx<;>first | exact .inl ⟨_,_,_,rfl⟩ | exact .inr ⟨.addressObserved,_,_,rfl,by intro g e;cases e⟩
   ·cases hv<;>first | exact .inl ⟨_,_,_,rfl⟩ | exact .inr ⟨.addressObserved,_,_,rfl,by intro g e;cases e⟩
  ·rw [Bool.eq_false_iff.2 hc,Bool.false_or] at h
   cases hd:P.a.underlying t with
   | none=>rw [hd] at h;cases h
   | some d =>
    rw [hd] at h
    rw [hr _ hd]
    cases d with
    | struct fs =>
     rcases hu with rfl | rfl
     ·cases hx<;>exact .inl ⟨_,_,_,rfl⟩
     ·cases hv<;>exact .inl ⟨_,_,_,rfl⟩
    | array l e =>
     rcases hu with rfl | rfl
     ·cases hx<;>exact .inl ⟨_,_,_,rfl⟩
     ·cases hv<;>exact .inl ⟨_,_,_,rfl⟩
    | slice e =>
     rcases hu with rfl | rfl
     ·cases hx<;>exact .inl ⟨_,_,_,rfl⟩
     ·cases hv<;>exact .inl ⟨_,_,_,rfl⟩
    | _=>cases h
theorem mf {op:BinOp} (ho:op=.eql∨op=.neq) {k:Nat} {t:TypeId} (h:bJ P.a k t=true) {xo yo:Operand} {v V x X:Value} (hv:VRel S β v V) (hx:VRel S β x X) (hu:v=hole∨x=hole):Dead P (do eqGuard op t xo yo v x;binOp op t v x):=by
 have z1:eqGuard op t xo yo v x=pure ():=by
  unfold eqGuard
  rcases ho with rfl | rfl<;>(rw [if_neg (by simp)];rcases hu with rfl | rfl<;>first | (cases x<;>rfl) | (cases v<;>rfl))
 have z2:(do eqGuard op t xo yo v x;binOp op t v x)=binOp op t v x:=by rw [z1];rfl
 rw [z2]
 have h1:=binOp_eql (t:=t) (V:=v) (X:=x) (fun k a k' b e1 e2=>by subst e1 e2;rcases hu with h | h<;>cases h) (fun k a k' b e1 e2=>by subst e1 e2;rcases hu with h | h<;>cases h) (fun k a b k' c d e1 e2=>by subst e1 e2;rcases hu with h | h<;>cases h) (fun a b e1 e2=>by subst e1 e2;rcases hu with h | h<;>cases h)
 have hd:Dead P (Op.equal t v x):=kJ 9999 k h hv hx hu
 rcases ho with rfl | rfl
 ·rw [h1.1];exact hd.bind _
 ·rw [h1.2];exact hd.bind _
theorem kK (op:BinOp) {k:Nat} {t:TypeId} (h:bJ P.a k t=true) (xo yo:Operand) {v V x X:Value} (hv:VRel S β v V) (hx:VRel S β x X) (hu:¬ (v=hole∨x=hole)):SRel P S Ck G β (eqGuard op t xo yo v x) (eqGuard op t xo yo V X) (fun _ _ _=>True):=by
  have fin:∀ (β':Bij),β.le β'->SRel P S Ck G β' (do if<-Op.eqGuardIn Op.maxDepth t v x then unsupported (.noEntry "binop/eql: two nil values of an interface type with methods, in a part of a struct or an array"):Sem Unit) (do if<-Op.eqGuardIn Op.maxDepth t V X then unsupported (.noEntry "binop/eql: two nil values of an interface type with methods, in a part of a struct or an array")) (fun _ _ _=>True):=by
    intro β' hle
    refine sr_bind (cl _ k β' h (hv.mono hle) (hx.mono hle)) ?_
    rintro β2 a _ _ rfl
    cases a with
    | true=>exact sr_unsupported (by intro g e;cases e)
    | false=>exact sr_pure trivial
  have fin2:SRel P S Ck G β (do if<-Op.eqGuardIn Op.maxDepth t v x then unsupported (.noEntry "binop/eql: two nil values of an interface type with methods, neither of them the literal nil"):Sem Unit) (do if<-Op.eqGuardIn Op.maxDepth t V X then unsupported (.noEntry "binop/eql: two nil values of an interface type with methods, neither of them the literal nil")) (fun _ _ _=>True):=by
    refine sr_bind (cl _ k β h hv hx) ?_
    rintro β2 a _ _ rfl
    cases a with
    | true=>exact sr_unsupported (by intro g e;cases e)
    | false=>exact sr_pure trivial
  have key : SRel P S Ck G β (match v, x with
      | .nilIface,.nilIface=>do
        if (xo matches .const _)||(yo matches .const _) then return
        if<-Op.eqGuardIn Op.maxDepth t v x then unsupported (.noEntry "binop/eql: two nil values of an interface type with methods, neither of them the literal nil")
      | .agg _,.agg _=>do
        if !(<- program).eqGuardType (<- program).depth t then return
        if<-Op.eqGuardIn Op.maxDepth t v x then unsupported (.noEntry "binop/eql: two nil values of an interface type with methods, in a part of a struct or an array")
      | _,_=>(pure ():Sem Unit)) (match V,X with
      | .nilIface,.nilIface=>do
        if (xo matches .const _)||(yo matches .const _) then return
        if<-Op.eqGuardIn Op.maxDepth t V X then unsupported (.noEntry "binop/eql: two nil values of an interface type with methods, neither of them the literal nil")
      | .agg _,.agg _=>do
        if !(<- program).eqGuardType (<- program).depth t then return
        if<-Op.eqGuardIn Op.maxDepth t V X then unsupported (.noEntry "binop/eql: two nil values of an interface type with methods, in a part of a struct or an array")
      | _,_=>(pure ():Sem Unit)) (fun _ _ _=>True):=by
    cases hv with
    | nilIface=>cases hx with
      | nilIface=>cases xo<;>cases yo<;>first | exact sr_pure trivial | exact fin2
      | blank _ _=>exact absurd (.inr rfl) hu
      | _=>exact sr_pure trivial
    | agg h1 h2=>cases hx with
      | agg h3 h4 =>
        dsimp only
        refine sr_bind aF ?_
        rintro β2 p p' hle2 ⟨hp,hp'⟩
        subst p p'
        refine sr_bind aF ?_
        rintro β3 p p' hle3 ⟨hp,hp'⟩
        subst p p'
        rw [show P.b.depth=P.a.depth from rfl,Two.eqGuardType]
        by_cases hb:(!P.a.eqGuardType P.a.depth t)=true
        · simp only [if_pos hb]
          exact sr_pure trivial
        · simp only [if_neg hb]
          exact fin β3 (Bij.le_trans hle2 hle3)
      | blank _ _=>exact absurd (.inr rfl) hu
      | _=>exact sr_pure trivial
    | blank _ _=>exact absurd (.inl rfl) hu
    | _=>first | exact sr_pure trivial | (cases hx<;>exact sr_pure trivial)
  unfold eqGuard
  cases op<;>first
    | exact sr_pure trivial
    | (rw [if_neg (by simp)]
       exact key)
theorem nD (hG:P.a.globals.size<=G) {op:BinOp} (ho:op=.eql∨op=.neq) {k:Nat} {t:TypeId} (h:bJ P.a k t=true) {v V x X:Value} (hv:VRel S β v V) (hx:VRel S β x X) (hu:¬ (v=hole∨x=hole)):SRel P S Ck G β (binOp op t v x) (binOp op t V X) (fun β' a A=>VRel S β' a A):=by
 by_cases hi:∃ k a k' b,v=.int k a∧x=.int k' b
 ·obtain ⟨k1,a,k2,b,rfl,rfl⟩:=hi
  cases hv;cases hx
  exact sr_intOps op t _ _ _ _
 ·by_cases hs:∃ a b,v=.string a∧x=.string b
  ·obtain ⟨a,b,rfl,rfl⟩:=hs
   cases hv;cases hx
   have e:∀ x y,binOp op t (.string x) (.string y)=Op.stringOp op x y:=fun x y=>by cases op<;>rfl
   rw [e]
   exact dT _ _ _
  ·have h1:=binOp_eql (t:=t) (V:=v) (X:=x) (fun k a k' b e1 e2=>hi ⟨k,a,k',b,e1,e2⟩) (fun k a k' b e1 e2=>by subst e1;cases hv) (fun k a b k' c d e1 e2=>by subst e1;cases hv) (fun a b e1 e2=>hs ⟨a,b,e1,e2⟩)
   have h2:=binOp_eql (t:=t) (V:=V) (X:=X) (fun k a k' b e1 e2=>by subst e1 e2;cases hv<;>first | exact hu (.inl rfl) | (cases hx<;>first | exact hu (.inr rfl) | exact hi ⟨_,_,_,_,rfl,rfl⟩)) (fun k a k' b e1 e2=>by subst e1;cases hv;exact hu (.inl rfl)) (fun k a b k' c d e1 e2=>by subst e1;cases hv;exact hu (.inl rfl)) (fun a b e1 e2=>by subst e1 e2;cases hv<;>first | exact hu (.inl rfl) | (cases hx<;>first | exact hu (.inr rfl) | exact hs ⟨_,_,rfl,rfl⟩))
   rcases ho with rfl | rfl
   ·rw [h1.1,h2.1]
    exact sr_bind (dU hG _ k β h hv hx) (by rintro β1 b _ _ rfl;exact sr_pure (.bool _))
   ·rw [h1.2,h2.2]
    exact sr_bind (dU hG _ k β h hv hx) (by rintro β1 b _ _ rfl;exact sr_pure (.bool _))
end
theorem lw (w:World):w.sys .env=(.strings w.os.env,w):=by
 unfold World.sys
 have:Kernel.perform .env w.os=.done (.strings w.os.env,w.os):=by
  unfold Kernel.perform
  rfl
 rw [this]
 rfl
section
variable {P:Two} {S:Par} {Ck:Code->Prop} {G:Nat} {β:Bij}
theorem rP:SRel P S Ck G β (sys .env) (sys .env) (fun _ a A=>a=A∧∃ l,a=.strings l):=by
 intro w W n hw ht es0 ES0 _
 have e1:(sys .env).runT P.a w es0=(.ok (.strings w.os.env) w,es0.push ⟨.output,true,false⟩):=by
  show (Sem.sys .env .pure).runT P.a w es0=_
  simp only [Sem.runT,lw]
 have e2:(sys .env).runT P.b W ES0=(.ok (.strings W.os.env) W,ES0.push ⟨.output,true,false⟩):=by
  show (Sem.sys .env .pure).runT P.b W ES0=_
  simp only [Sem.runT,lw]
 rw [e1,e2]
 exact ⟨β,.strings W.os.env,W,[⟨.output,true,false⟩],by simp,⟨by rw [hw.env],_,rfl⟩,{ Fin.refl hw with evs:=fun _ E hE=>by cases List.mem_singleton.1 hE;exact .out }⟩
theorem kL {α α':Type} {R:Bij->α->α'->Prop}:SRel P S Ck G β (runtimePanic .panicNil:Sem α) (runtimePanic .panicNil:Sem α') R:=by
 refine sr_bind aF ?_
 rintro β1 p p' _ ⟨rfl,rfl⟩
 dsimp only
 refine sr_bind (R:=fun _ a A=>a=A) ?_ ?_
 ·show SRel P S Ck G β1 (elemOf P.a.rt.panicNilError) (elemOf P.a.rt.panicNilError) _
  unfold elemOf
  refine sr_bind (al _) ?_
  rintro β2 d _ _ ⟨rfl,_⟩
  cases d with
  | pointer e=>exact sr_pure rfl
  | _=>exact sr_stuck
 ·rintro β2 e _ _ rfl
  refine sr_bind (fi e (.agg rfl (by simp))) ?_
  rintro β3 ⟨b,o,s⟩ ⟨B,o',s'⟩ _ ⟨h1,h2,h3⟩
  cases h2;cases h3
  exact cn (.iface _ (.ptr _ _ h1))
theorem mg {v V:Value} (hv:VRel S β v V):SRel P S Ck G β (Instr.panic v) (Instr.panic V) (fun β' a A=>VRel S β' a A):=by
 cases hv with
 | iface t r=>exact cn (.iface t r)
 | nilIface =>
  unfold Instr.panic Instr.panicnil
  refine sr_bind (R:=fun _ a A=>a=A) ?_ ?_
  ·refine sr_bind rP ?_
   rintro β1 a _ _ ⟨rfl,l,rfl⟩
   dsimp only
   refine sr_bind aF ?_
   rintro β2 p p' _ ⟨rfl,rfl⟩
   exact sr_pure rfl
  ·rintro β1 a _ _ rfl
   split
   ·exact cn .nilIface
   ·exact kL
 | _=>exact sr_stuck
end
structure CallsOk (P:Two) (S:Par) (Ck:Code->Prop) (G:Nat):Prop where
 big:P.a.info? big=none
 call:∀ f,S.fn f->∀ (β:Bij) (a A:Array Value),AsRel S β a A->SRel P S Ck G β (callFunc f a) (callFunc f A) (NRel S Ck)
section
variable {P:Two} {S:Par} {Ck:Code->Prop} {G:Nat} {β:Bij}
theorem bu {f:FuncId} {fn:Func} (hf:P.a.funcs[f]?=some fn) {fn':Func} (hf':P.fs[f]?=some fn') (hn:fn.name ≠ "runtime.NumGoroutine") (hn':fn'.name ≠ "runtime.NumGoroutine") (hb:fn.body.isSome) (hb':fn'.body.isSome) (hS:S.fn f) {a A:Array Value} (h:AsRel S β a A) :
  SRel P S Ck G β (callFunc f a) (callFunc f A) (NRel S Ck):=by
 refine sr_bind aF ?_
 rintro β1 p p' hle ⟨hp,hp'⟩
 subst p p'
 rw [hf,show P.b.funcs[f]?=some fn' from hf']
 have h1:fn.body.isNone=false:=by cases hx:fn.body with
  | none=>rw [hx] at hb;cases hb
  | some _=>rfl
 have h2:fn'.body.isNone=false:=by cases hx:fn'.body with
  | none=>rw [hx] at hb';cases hb'
  | some _=>rfl
 simp only [beq_iff_eq,hn,hn',if_false,h1,h2,Bool.false_eq_true]
 exact sr_pure (.enter hS (h.mono hle))
theorem nE:∀ {l:List Tmp} {m M:List Value} {x X:Array Value},LRel (VRel S β) m M->AsRel S β x X ->
  AsRel S β ((l.zip m).foldl (fun tmps (p:Tmp×Value)=>tmps.setIfInBounds p.1 p.2) x) ((l.zip M).foldl (fun tmps (p:Tmp×Value)=>tmps.setIfInBounds p.1 p.2) X)
 | [],_,_,_,_,_,hx=>by simpa using hx
 | t :: l,_,_,_,_,h,hx=>by
  cases h with
  | nil=>simpa using hx
  | cons hv hr =>
   simp only [List.zip_cons_cons,List.foldl_cons]
   exact nE hr (hx.set _ hv)
theorem cC {l L:Nat} (h:β l L) (hh:S.hid l=false):SRel P S Ck G β (Instr.getLoop l) (Instr.getLoop L) (fun β' r R=>r.state=R.state∧r.pending=R.pending∧(S.fr r.fn∧∀ c,r.pending=some c->Ck c)∧r.fn=R.fn∧AsRel S β' r.tmps R.tmps∧r.params=R.params∧r.assign=R.assign∧r.body=R.body∧Ck r.assign∧Ck r.body∧β' r.defers R.defers∧S.hid r.defers=false):=by
 refine sr_bind (dQ h hh) ?_
 intro β1 o O _ ho
 cases ho with
 | loop hp ha hb hx hd hk=>exact sr_pure ⟨rfl,rfl,hp,rfl,hx,rfl,rfl,rfl,ha,hb,hd,hk⟩
 | _=>exact fun _ _ _ _ _ _ _ _=>trivial
theorem pk {l L:Nat} (h:β l L) (hh:S.hid l=false) {a A:Array Value} (ha:AsRel S β a A):SRel P S Ck G β (Instr.yield l a) (Instr.yield L A) (NRel S Ck):=by
 refine sr_bind (cC h hh) ?_
 rintro β1 ⟨st,pe,fn,x,ps,s5,bo,d⟩ ⟨st',pe',fn',X,ps',as',bo',D⟩ hle ⟨h1,h2,h3,h4,h5,h6,h7,h8,h9,h10,h11,h12⟩
 cases h1;cases h2;cases h4;cases h6;cases h7;cases h8
 dsimp only at *
 rw [ha.size]
 split
 ·exact fun _ _ _ _ _ _ _ _=>trivial
 ·refine sr_pure (.round (hle _ _ h) ⟨hh,h3.1⟩ ?_ h9 h10)
  have:=nE (l:=ps.toList) (ha.mono hle).toList h5
  rw [<- Array.foldl_toList,<- Array.foldl_toList]
  simpa using this
def iZ (P:Program) (ts:Array TypeId) (b:Builtin):Prop:=match b with
 | .append=>(∀ e s,ts[0]?=some s->P.underlying s=some (.slice e)->bB P e=true)∧(∀ x k,ts[1]?=some x->P.underlying x≠some (.int k))
 | .len | .cap=>∀ t e d,ts[0]?=some t->P.underlying t≠some (.chan e d)
 | .min | .max=>True
 | _=>False
theorem mh (b:Builtin) (ts:Array TypeId) (t:TypeId) (cs:Array Bool)
  (hb:iZ P.a ts b) {a A:Array Value} (h:AsRel S β a A):SRel P S Ck G β (builtin b ts t cs a) (builtin b ts t cs A) (NRel S Ck):=by
 have v:∀ {m M:Sem Value},SRel P S Ck G β m M (fun β' a A=>VRel S β' a A)->SRel P S Ck G β (do pure (.value (<- m)):Sem Next) (do pure (.value (<- M))) (NRel S Ck):=by
  intro m M hm
  refine sr_bind hm ?_
  intro β1 x X _ hx
  exact sr_pure (.value hx)
 cases b with
 | append=>exact v (ny ts t hb.1 hb.2 h)
 | len=>exact v (rJ ts t hb h)
 | cap=>exact v (rL ts t hb h)
 | min=>exact v (rN ts t h)
 | max=>exact v (rO ts t h)
 | _=>exact hb.elim
theorem i3 (hb:P.a.info? big=none):Dead P (typeInfo big):=fun w es=>by
 have e2:program.runT P.a w es=(.ok P.a w,es):=rfl
 refine .inl ⟨?_,w,es,?_⟩
 rotate_left
 ·unfold typeInfo
  rw [aj,e2]
  dsimp only
  rw [hb]
  rfl
theorem Dead.prog {γ:Type} {k:Program->Sem γ} (h:Dead P (k P.a)):Dead P (program >>= k):=fun w es=>by
 rw [aj]
 exact h w es
theorem kM (hb:P.a.info? big=none) (n:Nat) (v:Value) (s:String):Dead P (method n big v s):=by
 cases n with
 | zero=>exact fun w es=>.inr ⟨_,_,_,rfl,by intro g e;cases e⟩
 | succ n=>exact (i3 hb).bind _
theorem jr (hb:P.a.info? big=none) (n:Nat) (v:Value) (s:String) {γ:Type} (k:Option Bool->Sem γ) (hk:∃ u,k none=unsupported u∧∀ g,u≠.initOrder g):Dead P (nilAhead n big v s >>= k):=by
 cases n with
 | zero =>
  obtain ⟨u,h1,h2⟩:=hk
  intro w es
  rw [aj]
  have e:(nilAhead 0 big v s).runT P.a w es=(.ok none w,es):=rfl
  rw [e]
  dsimp only
  rw [h1]
  exact .inr ⟨u,w,es,rfl,h2⟩
 | succ n=>exact ((i3 hb).bind _).bind k
theorem fZ (hb:P.a.info? big=none) (a:Array Value):Dead P (invoke (hd a).target (hd a).args):=by
 unfold hd invoke
 have e:(#[Value.iface big undef]++a)[0]?=some (.iface big undef):=by rw [Array.getElem?_append_left (by decide)];rfl
 dsimp only
 rw [e]
 unfold callMethod
 dsimp only
 exact Dead.prog ((kM hb _ _ _).bind _)
theorem fv (hS:CallsOk P S Ck G) {d D:Deferred} (h:DRel S β d D):SRel P S Ck G β (invoke d.target d.args) (invoke D.target D.args) (NRel S Ck):=by
 cases h with
 | fn hf hc ha=>cases hf with
  | func hs=>exact hS.call _ hs β _ _ (ha.append hc)
  | yield hl hk=>exact pk hl hk ha
 | nil ha=>exact ar .nilDeref trivial
 | collected h _=>exact sr_stuck
 | blankM a A h1 h2 h3=>subst h2;exact sr_of_dead (fZ hS.big a)
theorem eE {f F:Value} (hf:VRel S β f F) {a A:Array Value} (ha:AsRel S β a A):SRel P S Ck G β (Deferred.ofValue f a) (Deferred.ofValue F A) (fun β' d D=>DRel S β' d D):=by
 cases hf with
 | func hf h1 a1 h2 a2=>exact sr_pure (.fn hf ⟨h2,a2⟩ (AsRel.append ⟨h1,a1⟩ ha))
 | nilFunc=>exact sr_pure (.nil ha)
 | @blankM n x c h=>exact sr_pure (.blankM a A ha rfl (h.imp (fun h=>by cases h;rfl) fun h=>⟨h,n,c,x,rfl⟩))
 | _=>exact sr_stuck
def ai (SB:FuncId->Bool):Operand->Bool
 | .tmp _=>true
 | .const v=>plain 8 v
 | .global _=>false
 | .func f=>SB f
def optOk (SB:FuncId->Bool):Option Operand->Bool
 | some x=>ai SB x
 | none=>true
def bf (P:Program) (SB:FuncId->Bool) (c:Call):Bool:=c.args.all (ai SB)&&match c.callee with
 | .value f=>ai SB f
 | .invoke ..=>false
 | .builtin .append =>
  (match c.argTypes[0]? with
   | some s=>match P.underlying s with
    | some (.slice e)=>bB P e
    | _=>true
   | none=>true) &&
  (match c.argTypes[1]? with
   | some x=>match P.underlying x with
    | some (.int _)=>false
    | _=>true
   | none=>true)
 | .builtin b=>b==.min||b==.max||((b==.len||b==.cap)&&match c.argTypes[0]? with
  | some t=>match P.underlying t with
   | some (.chan _ _)=>false
   | _=>true
  | none=>true)
def isEq:BinOp->Bool
 | .eql | .neq=>true
 | _=>false
def dV (P:Program) (t:TypeId):Bool:=match P.underlying t with
 | some (.slice e)=>bB P e
 | _=>true
def opOk (P:Program) (SB:FuncId->Bool) (o:Oper):Bool:=match o.op with
 | .move x | .assign x=>ai SB x
 | .pick c a b=>ai SB c&&ai SB a&&ai SB b
 | .alloc t=>bB P t
 | .box _ x=>ai SB x
 | .build t ps=>bB P t&&ps.all (fun p=>ai SB p.2)
 | .buildSlice t _ ps=>dV P t&&ps.all (fun p=>ai SB p.2)
 | .load _ a=>ai SB a
 | .store _ a v=>ai SB a&&ai SB v
 | .nilCheck x=>ai SB x&&(P.info? big).isNone
 | .binOp op t x y _=>(cmpOk P t||(isEq op&&bJ P 12 t))&&ai SB x&&ai SB y
 | .makeInterface _ x | .panic x=>ai SB x
 | .unOp _ _ x=>ai SB x
 | .convert s d x=>fp P s d&&ai SB x
 | .makeFunc fn fs cs=>(match fn with | .func f=>SB f | _=>false)&&fs.all (ai SB)&&cs.all (ai SB)
 | .makeSlice t l c=>dV P t&&ai SB l&&ai SB c
 | .slice _ x l h m=>ai SB x&&optOk SB l&&optOk SB h&&optOk SB m
 | .fieldAddr s x i=>iG P s i&&ai SB x
 | .field _ x _=>ai SB x
 | .indexAddr _ x i=>ai SB x&&ai SB i
 | .index _ x i=>ai SB x&&ai SB i
 | .extract x _=>ai SB x
 | .call c | .defer c=>bf P SB c
 | _=>false
end
section
variable {P:Two} {SB:FuncId->Bool} {H:Hid} {Ck:Code->Prop} {G:Nat} {β:Bij}
def aB (SB:FuncId->Bool) (f:FuncId):Bool:=f==93&&(SB 92&&!SB 93)
abbrev SP (SB:FuncId->Bool) (H:Hid):Par:=⟨fun f=>SB f=true∨aB SB f=true,H,fun f=>SB f=true⟩
theorem cD {ρ Ρ:Operand->Value} (hρ:∀ x,ai SB x=true->VRel (SP SB H) β (ρ x) (Ρ x)) {l:Array Operand} (h:l.all (ai SB)=true):AsRel (SP SB H) β (l.map ρ) (l.map Ρ):=by
 simp only [Array.all_eq_true_iff_forall_mem] at h
 exact AsRel.map l fun x hx=>hρ x (h x hx)
theorem i4 {ρ Ρ:Operand->Value} (hρ:∀ x,ai SB x=true->VRel (SP SB H) β (ρ x) (Ρ x)) {ps:Array (Nat×Operand)} (h:ps.all (fun p=>ai SB p.2)=true) :
  PartsRel (SP SB H) β (ps.map fun (i,x)=>(i,ρ x)).toList (ps.map fun (i,x)=>(i,Ρ x)).toList:=by
 simp only [Array.all_eq_true_iff_forall_mem] at h
 rw [Array.toList_map,Array.toList_map]
 have:∀ l:List (Nat×Operand),(∀ p∈l,ai SB p.2=true)->PartsRel (SP SB H) β (l.map fun (i,x)=>(i,ρ x)) (l.map fun (i,x)=>(i,Ρ x)):=by
  intro l
  induction l with
  | nil=>intro _;exact .nil
  | cons p l ih=>intro hl;exact .cons (hρ _ (hl p (by simp))) (ih fun q hq=>hl q (by simp [hq]))
 exact this _ fun p hp=>h p (by simpa using hp)
theorem iH {ρ Ρ:Operand->Value} (hρ:∀ x,ai SB x=true->VRel (SP SB H) β (ρ x) (Ρ x)) {o:Option Operand} (h:optOk SB o=true):OVRel (SP SB H) β (o.map ρ) (o.map Ρ):=by
 cases o with
 | none=>exact .none
 | some x=>exact .some (hρ x h)
theorem fw {t:TypeId} (h:dV P.a t=true):∀ e,P.a.underlying t=some (.slice e)->bB P.a e=true:=by
 intro e he
 unfold dV at h
 rw [he] at h
 exact h
theorem mi {c:Call} (h:bf P.a SB c=true) {b:Builtin} (hc:c.callee=.builtin b):iZ P.a c.argTypes b:=by
 unfold bf at h
 rw [hc] at h
 simp only [Bool.and_eq_true] at h
 obtain ⟨_,h⟩:=h
 cases b with
 | append =>
  simp only [Bool.and_eq_true] at h
  obtain ⟨h1,h2⟩:=h
  refine ⟨fun e s he hs=>?_,fun x k hx hk=>?_⟩
  ·rw [he] at h1
   simp only [hs] at h1
   exact h1
  ·rw [hx] at h2
   simp only [hk] at h2
   exact absurd h2 (by decide)
 | len | cap =>
  intro t e d ht hd
  rw [ht] at h
  simp only [hd] at h
  exact absurd h (by decide)
 | min | max=>trivial
 | _=>exfalso;revert h;cases c.argTypes[0]?<;>simp<;>intro h<;>revert h<;>decide
theorem gz (hS:CallsOk P (SP SB H) Ck G) {ρ Ρ:Operand->Value} (hρ:∀ x,ai SB x=true->VRel (SP SB H) β (ρ x) (Ρ x)) {c:Call} (t:TypeId) (h:bf P.a SB c=true) :
  SRel P (SP SB H) Ck G β (do let d<-resolve ρ c t;invoke d.target d.args) (do let d<-resolve Ρ c t;invoke d.target d.args) (NRel (SP SB H) Ck):=by
 have ha:AsRel (SP SB H) β (c.args.map ρ) (c.args.map Ρ):=cD hρ (by unfold bf at h;simp only [Bool.and_eq_true] at h;exact h.1)
 unfold resolve
 cases hc:c.callee with
 | value f =>
  have hf:ai SB f=true:=by unfold bf at h;rw [hc] at h;simp only [Bool.and_eq_true] at h;exact h.2
  dsimp only
  refine sr_bind (eE (hρ f hf) ha) ?_
  intro β1 d D _ hd
  exact fv hS hd
 | invoke r m=>unfold bf at h;rw [hc] at h;simp at h
 | builtin b =>
  have hb:=mi h hc
  dsimp only
  refine sr_bind (R:=fun β' (d D:Deferred)=>β.le β'∧d=⟨.builtin b c.argTypes t (c.args.map fun | .const _=>true | _=>false),c.args.map ρ⟩∧D=⟨.builtin b c.argTypes t (c.args.map fun | .const _=>true | _=>false),c.args.map Ρ⟩) (sr_pure ⟨β.le_refl,rfl,rfl⟩) ?_
  rintro β1 d D hle ⟨_,rfl,rfl⟩
  exact mh b _ _ _ hb (ha.mono hle)
theorem mj {ρ Ρ:Operand->Value} (hρ:∀ x,ai SB x=true->VRel (SP SB H) β (ρ x) (Ρ x)) {c:Call} (t:TypeId) (h:bf P.a SB c=true) (hb:∀ b,c.callee≠.builtin b) :
  SRel P (SP SB H) Ck G β (resolve ρ c t) (resolve Ρ c t) (fun β' d D=>DRel (SP SB H) β' d D):=by
 have ha:AsRel (SP SB H) β (c.args.map ρ) (c.args.map Ρ):=cD hρ (by unfold bf at h;simp only [Bool.and_eq_true] at h;exact h.1)
 unfold resolve
 cases hc:c.callee with
 | value f =>
  have hf:ai SB f=true:=by unfold bf at h;rw [hc] at h;simp only [Bool.and_eq_true] at h;exact h.2
  exact eE (hρ f hf) ha
 | invoke r m=>unfold bf at h;rw [hc] at h;simp at h
 | builtin b=>exact absurd hc (hb b)
def cG (P:Program) (SB:FuncId->Bool) (o:Oper):Bool:=opOk P SB o&&match o.op with
 | .defer c=>match c.callee with
  | .builtin _=>false
  | _=>true
 | _=>true
theorem nF (hG:P.a.globals.size<=G) (hS:CallsOk P (SP SB H) Ck G) {ρ Ρ:Operand->Value} (hρ:∀ x,ai SB x=true->VRel (SP SB H) β (ρ x) (Ρ x)) {o:Oper} (h:cG P.a SB o=true) :
  SRel P (SP SB H) Ck G β (execOp ρ o) (execOp Ρ o) (NRel (SP SB H) Ck):=by
 have v:∀ {m M:Sem Value},SRel P (SP SB H) Ck G β m M (fun β' a A=>VRel (SP SB H) β' a A)->SRel P (SP SB H) Ck G β (do pure (.value (<- m)):Sem Next) (do pure (.value (<- M))) (NRel (SP SB H) Ck):=by
  intro m M hm
  refine sr_bind hm ?_
  intro β1 x X _ hx
  exact sr_pure (.value hx)
 have u:∀ {m M:Sem Unit},SRel P (SP SB H) Ck G β m M (fun _ _ _=>True)->SRel P (SP SB H) Ck G β (do m;pure .skip:Sem Next) (do M;pure .skip) (NRel (SP SB H) Ck):=by
  intro m M hm
  refine sr_bind hm ?_
  intro β1 x X _ _
  exact sr_pure .skip
 unfold cG opOk at h
 unfold execOp
 cases ho:o.op with
 | move x=>rw [ho] at h;simp at h;exact sr_pure (.value (hρ x h))
 | assign x=>rw [ho] at h;simp at h;exact sr_pure (.value (hρ x h))
 | pick c a b =>
  rw [ho] at h;simp at h
  refine sr_bind (ff (hρ c h.1.1)) ?_
  rintro β1 t _ hle rfl
  refine sr_pure (.value ?_)
  split
  ·exact (hρ a h.1.2).mono hle
  ·exact (hρ b h.2).mono hle
 | alloc t=>rw [ho] at h;simp at h;exact v (ph t h)
 | box t x=>rw [ho] at h;simp at h;exact v (rM t (hρ x h))
 | build t ps=>rw [ho] at h;simp only [Bool.and_eq_true,and_true] at h;exact v (pf t h.1 (i4 hρ h.2))
 | buildSlice t n ps=>rw [ho] at h;simp only [Bool.and_eq_true,and_true] at h;exact v (jq t n (fw h.1) (i4 hρ h.2))
 | load t a=>rw [ho] at h;simp at h;exact v (nz t (hρ a h))
 | store t a x=>rw [ho] at h;simp at h;exact u (ma t (hρ a h.1) (hρ x h.2))
 | nilCheck x =>
  rw [ho] at h;simp at h
  have hx:=hρ x h.1
  dsimp only
  revert hx
  generalize ρ x=v
  generalize Ρ x=V
  intro hx
  cases hx with
  | nilp=>exact ar .nilDeref trivial
  | nilIface=>exact ar .nilDeref trivial
  | nilFunc=>exact ar .nilDeref trivial
  | func hf h1 a1 h2 a2=>cases hf with
   | func hs=>exact sr_pure (.value (.func (.func hs) h1 a1 h2 a2))
   | yield hl hk=>exact sr_pure (.value (.func (.yield hl hk) h1 a1 h2 a2))
  | bool b=>exact sr_pure (.value (.bool b))
  | int k n=>exact sr_pure (.value (.int k n))
  | string s=>exact sr_pure (.value (.string s))
  | ptr o s hb=>exact sr_pure (.value (.ptr o s hb))
  | nils l c=>exact sr_pure (.value (.nils l c))
  | slice o s l c hb=>exact sr_pure (.value (.slice o s l c hb))
  | nilMap=>exact sr_pure (.value .nilMap)
  | nilChan=>exact sr_pure (.value .nilChan)
  | iface t r=>exact sr_pure (.value (.iface t r))
  | agg h1 a1=>exact sr_pure (.value (.agg h1 a1))
  | tuple h1 a1=>exact sr_pure (.value (.tuple h1 a1))
  | blank h1 h2 =>
   cases V with
   | pointer a=>cases a with
    | none=>cases h2
    | some a=>exact sr_pure (.value (.blank h1 h2))
   | func f x c=>cases f with
    | method n=>cases h2
    | _=>exact sr_pure (.value (.blank h1 h2))
   | nilIface=>cases h2
   | nilFunc=>cases h2
   | _=>exact sr_pure (.value (.blank h1 h2))
  | blankM h1 =>
   refine sr_of_dead ?_
   show Dead P (program >>= fun p=>nilAhead (p.types.size+Made.depth) big undef "" >>= fun r=>_)
   exact Dead.prog (jr h.2 _ _ _ _ ⟨_,rfl,by intro g e;cases e⟩)
 | binOp op t x y t' =>
  rw [ho] at h;simp at h
  rcases h.1.1 with hc | ⟨he,hf⟩
  ·refine v (sr_bind (mc op hc x y _ _ _ _) ?_)
   intro β1 _ _ hle _
   exact pi hG op hc ((hρ x h.1.2).mono hle) ((hρ y h.2).mono hle)
  ·have hop:op=.eql∨op=.neq:=by cases op<;>first | exact .inl rfl | exact .inr rfl | cases he
   by_cases hu:ρ x=hole∨ρ y=hole
   ·exact v (sr_of_dead (mf hop hf (hρ x h.1.2) (hρ y h.2) hu))
   refine v (sr_bind (kK op hf x y (hρ x h.1.2) (hρ y h.2) hu) ?_)
   intro β1 _ _ hle _
   exact nD hG hop hf ((hρ x h.1.2).mono hle) ((hρ y h.2).mono hle) hu
 | panic x=>rw [ho] at h;simp at h;exact v (mg (hρ x h))
 | makeInterface t x =>
  rw [ho] at h;simp at h
  refine v (sr_bind (al _) ?_)
  rintro β1 d _ hle ⟨rfl,_⟩
  cases d with
  | interface _=>exact sr_stuck
  | _=>exact sr_pure (.iface _ ((hρ x h).mono hle))
 | unOp op t x=>rw [ho] at h;simp at h;exact v (pj op (hρ x h))
 | convert s d x=>rw [ho] at h;simp at h;exact v (me h.1 (hρ x h.2))
 | makeFunc fn fs cs =>
  rw [ho] at h
  simp only [Bool.and_eq_true,and_true] at h
  obtain ⟨⟨h1,h2⟩,h3⟩:=h
  cases fn with
  | func f =>
   have a1:=cD (β:=β) hρ h2
   have a2:=cD (β:=β) hρ h3
   exact v (sr_pure (.func (.func (.inl h1)) a1.size a1.at_ a2.size a2.at_))
  | _=>simp at h1
 | makeSlice t l c=>rw [ho] at h;simp at h;exact v (jJ t (fw h.1.1) (hρ l h.1.2) (hρ c h.2))
 | slice t x l hi mx=>rw [ho] at h;simp at h;exact v (l6 t (hρ x h.1.1.1) (iH hρ h.1.1.2) (iH hρ h.1.2) (iH hρ h.2))
 | fieldAddr s x i=>rw [ho] at h;simp at h;exact v (lY s (hρ x h.2) i h.1)
 | field t x i=>rw [ho] at h;simp at h;exact v (pc t (hρ x h) i)
 | indexAddr t x i=>rw [ho] at h;simp at h;exact v (lZ t (hρ x h.1) (hρ i h.2))
 | index t x i=>rw [ho] at h;simp at h;exact v (pd t (hρ x h.1) (hρ i h.2))
 | extract x i=>rw [ho] at h;simp at h;exact v (l7 (hρ x h) i)
 | call c=>rw [ho] at h;simp at h;exact gz hS hρ _ h
 | defer c =>
  rw [ho] at h;simp only [Bool.and_eq_true] at h
  refine sr_bind (mj hρ _ h.1 (fun b e=>by rw [e] at h;simp at h)) ?_
  intro β1 d D _ hd
  exact sr_pure (.defer hd)
 | _=>rw [ho] at h;simp at h
end
def ly:Op->Bool
 | .defer _=>true
 | _=>false
def gC (s:String):Bool:=s == "internal/race.Disable"||s == "internal/race.Enable"||s == "internal/race.Acquire"||s == "internal/race.ReleaseMerge"
def cH (p:Program) (f:FuncId):Bool:=match p.funcs[f]? with
 | some fn=>fn.body.isNone&&gC fn.name
 | none=>false
theorem aL {p:Program} {f:FuncId} {fn:Func} (h:p.funcs[f]?=some fn) (hb:fn.body.isSome=true):cH p f=false:=by
 unfold cH
 rw [h]
 cases hx:fn.body with
 | none=>rw [hx] at hb;cases hb
 | some c=>simp [hx]
theorem cS {p:Program} {f:FuncId} {fn:Func} (h:p.funcs[f]?=some fn) (hb:gC fn.name=false):cH p f=false:=by
 unfold cH
 rw [h]
 simp [hb]
def dA (p:Program) (c:Call):Bool:=match c.callee with
 | .value (.func f)=>cH p f
 | _=>false
def dC (P:Program) (s d:TypeId):Bool:=match P.underlying s,P.underlying d with
 | some (.pointer _),some .unsafePointer=>true
 | _,_=>false
def aG (p:Program):Op->Bool
 | .go _=>false
 | .call c=>!dA p c
 | .convert s d _=>!dC p s d
 | _=>true
def goOk (P:Program) (SB:FuncId->Bool):Op->Bool
 | .go c=>bf P SB c&&match c.callee with
  | .builtin _=>false
  | _=>true
 | .call c=>dA P c&&c.args.all (ai SB)&&match c.callee with
  | .value (.func f)=>!SB f
  | _=>false
 | .convert s d x=>dC P s d&&ai SB x
 | _=>false
theorem ml {P:Program} {SB:FuncId->Bool} {op:Op} (h:aG P op=true):goOk P SB op=false:=by
 cases op with
 | go c=>simp [aG] at h
 | call c=>simp only [aG,Bool.not_eq_true'] at h;simp [goOk,h]
 | convert s d x=>simp only [aG,Bool.not_eq_true'] at h;simp [goOk,h]
 | _=>rfl
theorem gb {P:Program} {s d:TypeId} (h:fp P s d=true):dC P s d=false:=by
 unfold fp at h
 unfold dC
 split at h
 ·rename_i h1 h2;rw [h1,h2]
 ·cases h
theorem pl {P p:Program} {SB:FuncId->Bool} {o:Oper} (h:cG P SB o=true) (hn:∀ f,SB f=true->cH p f=false) (hu:∀ t,p.underlying t=P.underlying t):aG p o.op=true:=by
 unfold cG opOk at h
 cases hop:o.op with
 | go c=>rw [hop] at h;simp at h
 | call c =>
  rw [hop] at h
  simp only [aG,Bool.not_eq_true']
  unfold dA
  cases hc:c.callee with
  | value f=>cases f with
   | func f =>
    simp only [bf,hc,Bool.and_eq_true] at h
    exact hn f h.1.2
   | _=>rfl
  | _=>rfl
 | convert s d x =>
  rw [hop] at h
  simp only [Bool.and_eq_true] at h
  simp only [aG,Bool.not_eq_true']
  have:=gb h.1.1
  unfold dC at this ⊢
  rw [hu,hu];exact this
 | _=>rfl
theorem qD {P:Program} {SB:FuncId->Bool} {o:Oper} (h:cG P SB o=true):goOk P SB o.op=false:=by
 unfold cG opOk at h
 cases hop:o.op with
 | go c=>rw [hop] at h;simp at h
 | call c =>
  rw [hop] at h
  unfold goOk
  cases hc:c.callee with
  | value f=>cases f with
   | func f =>
    simp only [bf,hc,Bool.and_eq_true] at h
    have h2:SB f=true:=h.1.2
    simp [hc,h2]
   | _=>simp [dA,hc]
  | _=>simp [dA,hc]
 | convert s d x =>
  rw [hop] at h
  simp only [Bool.and_eq_true] at h
  simp [goOk,gb h.1.1]
 | _=>rfl
def bK (P:Program) (SB:FuncId->Bool) (lets ad:Bool) (o:Oper):Bool:=(cG P SB o&&(ad||!ly o.op))||(lets&&goOk P SB o.op)
def rQ:Op->Bool
 | .call c=>(match c.callee with | .value (.func f)=>f==91 | _=>false)&&(match (c.args[1]?:Option Operand) with | some (Operand.const (Value.int _ n))=>decide (n<0) | _=>false)
 | _=>false
def codeOk (P:Program) (SB:FuncId->Bool) (lets:Bool):Bool->Code->Bool
 | _,.skip | _,.exit _ | _,.label _ | _,.goto _ | _,.ret=>true
 | _,.refuse _=>true
 | ad,.region _ ops _=>ops.all (bK P SB lets ad)&&!ops.any fun o=>rQ o.op
 | ad,.seq a b=>codeOk P SB lets ad a&&codeOk P SB lets ad b
 | ad,.cond c a b=>ai SB c&&codeOk P SB lets ad a&&codeOk P SB lets ad b
 | ad,.block _ b | ad,.loop b | ad,.scope b=>codeOk P SB lets ad b
 | _,.rangeFunc f _ s5 bo=>ai SB f&&codeOk P SB lets false s5&&codeOk P SB lets false bo
section
variable (P:Program) (SB:FuncId->Bool) (H:Hid) (lets:Bool)
abbrev CK:Code->Prop:=fun c=>codeOk P SB lets false c=true
inductive IRel (ad:Bool) (β:Bij):Item->Item->Prop
 | code {c:Code}:codeOk P SB lets ad c=true->IRel ad β (.code c) (.code c)
 | inBlock (id:Nat):IRel ad β (.inBlock id) (.inBlock id)
 | inLoop {c:Code}:codeOk P SB lets ad c=true->IRel ad β (.inLoop c) (.inLoop c)
 | inScope {c:Code}:codeOk P SB lets ad c=true->IRel ad β (.inScope c) (.inScope c)
 | inRegion {ops:Array Oper} {l:List Nat}:ops.all (bK P SB lets ad)=true->IRel ad β (.inRegion ops l) (.inRegion ops l)
 | inRangeFunc {l L:Nat}:β l L->H l=false->IRel ad β (.inRangeFunc l) (.inRangeFunc L)
 | endRangeFunc {l L:Nat}:β l L->H l=false->IRel ad β (.endRangeFunc l) (.endRangeFunc L)
 | beginRound:IRel ad β .beginRound .beginRound
inductive PRel (β:Bij):PanicEntry->PanicEntry->Prop
 | mk {v V:Value} (r g:Bool):VRel (SP SB H) β v V->PRel β ⟨v,r,g⟩ ⟨V,r,g⟩
inductive MRel (β:Bij):FrameMode->FrameMode->Prop
 | run:MRel β .run .run
 | returning:MRel β .returning .returning
 | panicking {l L:List PanicEntry}:LRel (PRel SB H β) l L->MRel β (.panicking l) (.panicking L)
inductive ONRel (β:Bij):Option Nat->Option Nat->Prop
 | none:ONRel β none none
 | some {l L:Nat}:β l L->H l=false->ONRel β (some l) (some L)
structure FrRel (β:Bij) (f F:Frame):Prop where
 fn:f.fn=F.fn
 tmps:AsRel (SP SB H) β f.tmps F.tmps
 todo:LRel (IRel P SB H lets f.roundOf.isNone β) f.todo F.todo
 defers:LRel (DRel (SP SB H) β) f.defers F.defers
 mode:MRel SB H β f.mode F.mode
 kind:f.kind=F.kind
 late:f.kind≠.early∧SB f.fn=true
 round:ONRel H β f.roundOf F.roundOf
def bad:Frame:={ fn:=0,tmps:=#[],todo:=[.code (.refuse "")],defers:=[⟨.nil,#[]⟩],mode:=.run,kind:=.normal }
inductive CsRel (T:List Frame) (β:Bij):List Frame->List Frame->Prop
 | base:CsRel T β [bad] T
 | cons {c C:Frame} {cs CS:List Frame}:FrRel P SB H lets β c C->CsRel T β cs CS->CsRel T β (c :: cs) (C :: CS)
end
section
variable (P:Two) (SB:FuncId->Bool) (H:Hid) (lets:Bool)
inductive TopRel (BB:FuncId->Bool) (β:Bij):Frame->Frame->Prop
 | on {f F:Frame}:FrRel P.a SB H lets β f F->TopRel BB β f F
 | stop {f:FuncId} {a A:Array Value} {k:CallKind}:(SB f=true∨aB SB f=true)->BB f=false->k≠.early->AsRel (SP SB H) β a A->TopRel BB β (Frame.enter P.a f a k) (Frame.enter P.b f A k)
structure GRel (BB:FuncId->Bool) (T:List Frame) (β:Bij) (g g':Goroutine):Prop where
 top:TopRel P SB H lets BB β g.frame g'.frame
 callers:CsRel P.a SB H lets T β g.callers g'.callers
 status:g.status=.running∧g'.status=.running
 dying:g.dying=none∧g'.dying=none
 offers:g.offers=none∧g'.offers=none
end
section
variable {P:Two} {SB:FuncId->Bool} {H:Hid} {lets:Bool} {BB:FuncId->Bool} {β β':Bij} {G:Nat}
theorem CsRel.mono {T:List Frame} (h:∀ c C,FrRel P.a SB H lets β c C->FrRel P.a SB H lets β' c C) {cs CS:List Frame} (r:CsRel P.a SB H lets T β cs CS):CsRel P.a SB H lets T β' cs CS:=by
 induction r with
 | base=>exact .base
 | cons a _ ih=>exact .cons (h _ _ a) ih
theorem CsRel.ne {T:List Frame} {cs CS:List Frame} (r:CsRel P.a SB H lets T β cs CS):cs≠[]:=by
 cases r<;>simp
theorem IRel.mono {ad:Bool} (h:β.le β') {i I:Item} (r:IRel P.a SB H lets ad β i I):IRel P.a SB H lets ad β' i I:=by
 cases r with
 | code c=>exact .code c
 | inBlock id=>exact .inBlock id
 | inLoop c=>exact .inLoop c
 | inScope c=>exact .inScope c
 | inRegion c=>exact .inRegion c
 | inRangeFunc a b=>exact .inRangeFunc (h _ _ a) b
 | endRangeFunc a b=>exact .endRangeFunc (h _ _ a) b
 | beginRound=>exact .beginRound
theorem PRel.mono (h:β.le β') {i I:PanicEntry} (r:PRel SB H β i I):PRel SB H β' i I:=by
 cases r with
 | mk a b v=>exact .mk a b (v.mono h)
theorem MRel.mono (h:β.le β') {i I:FrameMode} (r:MRel SB H β i I):MRel SB H β' i I:=by
 cases r with
 | run=>exact .run
 | returning=>exact .returning
 | panicking l=>exact .panicking (l.mono fun _ _=>PRel.mono h)
theorem ONRel.mono (h:β.le β') {i I:Option Nat} (r:ONRel H β i I):ONRel H β' i I:=by
 cases r with
 | none=>exact .none
 | some a b=>exact .some (h _ _ a) b
theorem FrRel.mono (h:β.le β') {f F:Frame} (r:FrRel P.a SB H lets β f F):FrRel P.a SB H lets β' f F :=
 ⟨r.fn,r.tmps.mono h,r.todo.mono fun _ _=>IRel.mono h,r.defers.mono fun _ _=>DRel.mono h,r.mode.mono h,r.kind,r.late,r.round.mono h⟩
theorem FrRel.eval {f F:Frame} (r:FrRel P.a SB H lets β f F) {x:Operand} (h:ai SB x=true):VRel (SP SB H) β (f.eval x) (F.eval x):=by
 cases x with
 | tmp t=>exact r.tmps.getD t (.tuple rfl (by simp))
 | const v=>exact fg h
 | global g=>cases h
 | func f=>exact .func (.func (.inl h)) rfl (by simp) rfl (by simp)
theorem exitTo_rel (id:Nat) {ad:Bool} {l L:List Item} (h:LRel (IRel P.a SB H lets ad β) l L):(exitTo id l=none∧exitTo id L=none)∨∃ k K,exitTo id l=some k∧exitTo id L=some K∧LRel (IRel P.a SB H lets ad β) k K:=by
 induction h with
 | nil=>exact .inl ⟨rfl,rfl⟩
 | @cons i I l L hi hl ih =>
  cases hi with
  | inBlock id' =>
   unfold exitTo
   split
   ·exact .inr ⟨_,_,rfl,rfl,hl⟩
   ·exact ih
  | _=>exact ih
theorem dD {ad:Bool}:∀ {c:Code} {l:Nat} {r:Code},codeOk P.a SB lets ad c=true->findLabel c l=some r->codeOk P.a SB lets ad r=true
 | .seq a b,l,r,h,hf=>by
  simp only [codeOk,Bool.and_eq_true] at h
  unfold findLabel at hf
  split at hf
  ·rename_i rest hr
   cases hf
   simp only [codeOk,Bool.and_eq_true]
   exact ⟨dD h.1 hr,h.2⟩
  ·exact dD h.2 hf
 | .label l',l,r,h,hf=>by
  unfold findLabel at hf
  split at hf
  ·cases hf;rfl
  ·cases hf
 | .skip,_,_,_,hf | .region _ _ _,_,_,_,hf | .cond _ _ _,_,_,_,hf | .block _ _,_,_,_,hf | .loop _,_,_,_,hf | .rangeFunc _ _ _ _,_,_,_,hf | .exit _,_,_,_,hf | .scope _,_,_,_,hf | .goto _,_,_,_,hf | .ret,_,_,_,hf | .refuse _,_,_,_,hf=>by cases hf
theorem gotoIn_rel {ad:Bool} (l:Nat) {k K:List Item} (h:LRel (IRel P.a SB H lets ad β) k K):(gotoIn l k=none∧gotoIn l K=none)∨∃ k' K',gotoIn l k=some k'∧gotoIn l K=some K'∧LRel (IRel P.a SB H lets ad β) k' K':=by
 induction h with
 | nil=>exact .inl ⟨rfl,rfl⟩
 | @cons i I k K hi hl ih =>
  cases hi with
  | inScope hc =>
   rename_i c
   unfold gotoIn
   cases hf:findLabel c l with
   | none=>exact ih
   | some rest=>exact .inr ⟨_,_,rfl,rfl,.cons (.code (dD hc hf)) (.cons (.inScope hc) hl)⟩
  | _=>exact ih
theorem mem_seen {p:Program} {fn:FuncId} {es:Array Event} {E:Event} (h:E∈seen p fn es):E∈es:=by
 unfold seen at h
 dsimp only at h
 rw [<- Array.foldl_toList] at h
 have key : ∀ (l : List Event) (q : Bool) (kept : Array Event), E ∈ (l.foldl (fun (x : Bool × Array Event) e => match x with
   | (q,kept)=>match e.loc with
    | .mark (.extern f)=>((p.funcs[f]?).any (·.norace),kept)
    | _=>(q,if q&&!e.sync then kept else kept.push e)) (q,kept)).2->E∈kept∨E∈l:=by
  intro l
  induction l with
  | nil=>intro q kept h;exact .inl h
  | cons e l ih =>
   intro q kept h
   simp only [List.foldl_cons] at h
   split at h
   ·rcases ih _ _ h with h | h
    ·exact .inl h
    ·exact .inr (by simp [h])
   ·rcases ih _ _ h with h | h
    ·split at h
     ·exact .inl h
     ·rcases Array.mem_push.1 h with h | h
      ·exact .inl h
      ·exact .inr (by simp [h])
    ·exact .inr (by simp [h])
 rcases key _ _ _ h with h | h
 ·simp at h
 ·simpa using h
end
end Go.Iso
