/- Parts of the proof. -/
import Derived.Test.YtjmmlkobmhlikaaGreatP04
set_option linter.all false
namespace Go.Iso
def bO (P:Program):Nat->TypeId->Bool
 |0,_=>false
 |d+1,t=>cmpOk P t||match P.underlying t with
  |some (.struct fs)=>fs.all λf=>bO P d f.type
  |some (.array _ e)=>bO P d e
  |some (.slice _)=>true
  |_=>false
def Two.alikeButTags (P:Two)(d:Nat):P.b.alikeButTags d=P.a.alikeButTags d:=by
 induction d with
 |zero=>rfl
 |succ d ih =>
  funext t u
  unfold Program.alikeButTags
  rw[ih]
  rfl
def Two.stoodInHeld (P:Two)(t:TypeId):P.b.stoodInHeld t=P.a.stoodInHeld t:=by
 unfold Program.stoodInHeld Program.stoodInAs
 rw[Two.alikeButTags,show P.b.depth=P.a.depth from rfl]
 rfl
def Two.eqGuardType (P:Two)(d:Nat):P.b.eqGuardType d=P.a.eqGuardType d:=by
 induction d with
 |zero=>rfl
 |succ d ih =>
  funext t
  unfold Program.eqGuardType
  rw[ih]
  rfl
section
variable {P:Two} {S:Par} {Ck:Code->Prop} {G:Nat} {β:Bij}
def dO {γ σ:Type}{f F:γ->σ->Sem (ForInStep σ)}:∀(l:List γ) (s:σ) (β:Bij),(∀x∈l,∀s β',β.le β'->SRel P S Ck G β' (f x s) (F x s) (λ_ a A=>a=A)) ->
  SRel P S Ck G β (forIn l s f) (forIn l s F) (λ_ a A=>a=A)
 |[],s,β,_=>by
  simp only[List.forIn_nil]
  exact sr_pure rfl
 |x::l,s,β,h=>by
  simp only[List.forIn_cons]
  refine sr_bind (h x (by simp) s β β.le_refl) ?_
  rintro β1 a _ hle rfl
  cases a with
  |done b=>exact sr_pure rfl
  |yield b=>exact dO l b β1 λy hy s β' hle'=>h y (by simp[hy]) s β' (Bij.le_trans hle hle')
def er (hG:P.a.globals.size<=G):∀(n k:Nat) {t:TypeId} (β:Bij),bO P.a k t=true->∀ {v V x X:Value},VRel S β v V->VRel S β x X->SRel P S Ck G β (Op.equalIn n t v x) (Op.equalIn n t V X) (λ_ a A=>a=A)
 |0,_,_,_,_,_,_,_,_,_,_=>sr_unsupported (by intro g e;cases e)
 |_+1,0,_,_,h,_,_,_,_,_,_=>by cases h
 |n+1,k+1,t,β,h,v,V,x,X,hv,hx=>by
  by_cases hc:cmpOk P.a t=true
  ·exact js hG n hc hv hx
  ·unfold bO at h
   rw[Bool.eq_false_iff.2 hc,Bool.false_or] at h
   unfold Op.equalIn
   refine sr_bind (al _) ?_
   rintro β1 d _ hle ⟨rfl,hd⟩
   replace hv:=hv.mono hle
   replace hx:=hx.mono hle
   rw[hd] at h
   cases d with
   |struct fs =>
    simp only[Array.all_eq_true_iff_forall_mem] at h
    cases hv with
    |agg h1 h2 =>
     cases hx with
     |agg h3 h4 =>
      rename_i a A b B
      have ha:AsRel S β1 a A:=⟨h1,h2⟩
      have hb:AsRel S β1 b B:=⟨h3,h4⟩
      refine sr_bind aJ ?_
      rintro β2 p p' hle2 ⟨hp,hp'⟩
      subst p p'
      rw[Two.stoodInHeld]
      split
      ·exact sr_bind (R:=λ_ _ _=>False) (sr_unsupported (by intro g e;cases e)) (λ_ _ _ _ h=>h.elim)
      ·refine sr_bind (R:=λ_ a A=>a=A) ?_ ?_
       ·rw[<-Array.forIn_toList,<-Array.forIn_toList]
        refine dO _ _ _ λf hf s β3 hle3=>?_
        split
        ·refine sr_bind (bS _ ((ha.mono hle2).mono hle3) _) ?_
         intro β4 p1 P1 hle4 hp1
         refine sr_bind (bS _ (((hb.mono hle2).mono hle3).mono hle4) _) ?_
         intro β5 p2 P2 hle5 hp2
         refine sr_bind (er hG n k β5 (h f (by simpa using hf)) (hp1.mono hle5) hp2) ?_
         rintro β6 r _ _ rfl
         cases r<;>exact sr_pure rfl
        ·exact sr_pure rfl
       ·rintro β3 ⟨a,_⟩ _ _ rfl
        cases a<;>exact sr_pure rfl
     |_=>exact sr_stuck
    |_=>first|exact sr_stuck|(cases hx<;>exact sr_stuck)
   |array len e =>
    cases hv with
    |agg h1 h2 =>
     cases hx with
     |agg h3 h4 =>
      rename_i a A b B
      have ha:AsRel S β1 a A:=⟨h1,h2⟩
      have hb:AsRel S β1 b B:=⟨h3,h4⟩
      refine sr_bind (aC _) ?_
      rintro β2 m _ hle2 rfl
      refine sr_bind (R:=λ_ a A=>a=A) ?_ ?_
      ·simp only[Std.Legacy.Range.forIn_eq_forIn_range']
       refine dO _ _ _ λf hf s β3 hle3=>?_
       refine sr_bind (bS _ ((ha.mono hle2).mono hle3) _) ?_
       intro β4 p1 P1 hle4 hp1
       refine sr_bind (bS _ (((hb.mono hle2).mono hle3).mono hle4) _) ?_
       intro β5 p2 P2 hle5 hp2
       refine sr_bind (er hG n k β5 h (hp1.mono hle5) hp2) ?_
       rintro β6 r _ _ rfl
       cases r<;>exact sr_pure rfl
      ·rintro β3 ⟨a,_⟩ _ _ rfl
       cases a<;>exact sr_pure rfl
     |_=>exact sr_stuck
    |_=>first|exact sr_stuck|(cases hx<;>exact sr_stuck)
   |slice e =>
    cases hv with
    |nils l c=>cases hx<;>first|exact sr_pure rfl|exact sr_stuck
    |slice o s l c hb=>cases hx<;>first|exact sr_pure rfl|exact sr_stuck
    |_=>first|exact sr_stuck|(cases hx<;>exact sr_stuck)
   |_=>cases h
def cx:∀(n k:Nat) {t:TypeId} (β:Bij),bO P.a k t=true->∀ {v V x X:Value},VRel S β v V->VRel S β x X->SRel P S Ck G β (Op.eqGuardIn n t v x) (Op.eqGuardIn n t V X) (λ_ a A=>a=A)
 |0,_,_,_,_,_,_,_,_,_,_=>sr_unsupported (by intro g e;cases e)
 |_+1,0,_,_,h,_,_,_,_,_,_=>by cases h
 |n+1,k+1,t,β,h,v,V,x,X,hv,hx=>by
  by_cases hc:cmpOk P.a t=true
  ·intro w W m hw ht es0 ES0 hb
   rw[cv (P:=P) (λ_=>rfl) hc,cv P.underlying hc]
   exact⟨β,false,W,[],by simp,rfl,Fin.refl hw⟩
  ·unfold bO at h
   rw[Bool.eq_false_iff.2 hc,Bool.false_or] at h
   unfold Op.eqGuardIn
   refine sr_bind (al _) ?_
   rintro β1 d _ hle ⟨rfl,hd⟩
   replace hv:=hv.mono hle
   replace hx:=hx.mono hle
   rw[hd] at h
   cases d with
   |struct fs =>
    simp only[Array.all_eq_true_iff_forall_mem] at h
    cases hv with
    |agg h1 h2 =>
     cases hx with
     |agg h3 h4 =>
      rename_i a A b B
      have ha:AsRel S β1 a A:=⟨h1,h2⟩
      have hb:AsRel S β1 b B:=⟨h3,h4⟩
      refine sr_bind (R:=λ_ a A=>a=A) ?_ ?_
      ·rw[<-Array.forIn_toList,<-Array.forIn_toList]
       refine dO _ _ _ λf hf s β3 hle3=>?_
       split
       ·refine sr_bind (bS _ (ha.mono hle3) _) ?_
        intro β4 p1 P1 hle4 hp1
        refine sr_bind (bS _ ((hb.mono hle3).mono hle4) _) ?_
        intro β5 p2 P2 hle5 hp2
        refine sr_bind (cx n k β5 (h f (by simpa using hf)) (hp1.mono hle5) hp2) ?_
        rintro β6 r _ _ rfl
        cases r<;>exact sr_pure rfl
       ·exact sr_pure rfl
      ·rintro β3 ⟨a,_⟩ _ _ rfl
       cases a<;>exact sr_pure rfl
     |blank _ hX=>cases X<;>first|exact sr_pure rfl|(cases hX;done)
     |_=>exact sr_pure rfl
    |blank _ hV=>cases V<;>first|exact sr_pure rfl|(cases hV;done)|(cases hx<;>exact sr_pure rfl)
    |_=>first|exact sr_pure rfl|(cases hx<;>exact sr_pure rfl)
   |array len e =>
    cases hv with
    |agg h1 h2 =>
     cases hx with
     |agg h3 h4 =>
      rename_i a A b B
      have ha:AsRel S β1 a A:=⟨h1,h2⟩
      have hb:AsRel S β1 b B:=⟨h3,h4⟩
      refine sr_bind (aC _) ?_
      rintro β2 m _ hle2 rfl
      refine sr_bind (R:=λ_ a A=>a=A) ?_ ?_
      ·simp only[Std.Legacy.Range.forIn_eq_forIn_range']
       refine dO _ _ _ λf hf s β3 hle3=>?_
       refine sr_bind (bS _ ((ha.mono hle2).mono hle3) _) ?_
       intro β4 p1 P1 hle4 hp1
       refine sr_bind (bS _ (((hb.mono hle2).mono hle3).mono hle4) _) ?_
       intro β5 p2 P2 hle5 hp2
       refine sr_bind (cx n k β5 h (hp1.mono hle5) hp2) ?_
       rintro β6 r _ _ rfl
       cases r<;>exact sr_pure rfl
      ·rintro β3 ⟨a,_⟩ _ _ rfl
       cases a<;>exact sr_pure rfl
     |blank _ hX=>cases X<;>first|exact sr_pure rfl|(cases hX;done)
     |_=>exact sr_pure rfl
    |blank _ hV=>cases V<;>first|exact sr_pure rfl|(cases hV;done)|(cases hx<;>exact sr_pure rfl)
    |_=>first|exact sr_pure rfl|(cases hx<;>exact sr_pure rfl)
   |slice e=>exact sr_pure rfl
   |_=>cases h
def lq (n k:Nat){t:TypeId}(h:bO P.a k t=true){v V x X:Value}(hv:VRel S β v V)(hx:VRel S β x X)(hu:v=hole\/x=hole):Dead P (Op.equalIn (n+1) t v x):=by
 intro w es
 have hr:∀d,P.a.underlying t=some d->(underlying t).runT P.a w es=(.ok d w,es):=λd e=>by
  unfold underlying
  rw[aj]
  show(match(P.a.underlying t) with|some d=>pure d|none=>stuck _:Sem TypeDesc).runT P.a w es=_
  rw[e];rfl
 cases k with
 |zero=>cases h
 |succ k =>
  unfold Op.equalIn
  rw[aj]
  unfold bO at h
  by_cases hc:cmpOk P.a t=true
  ·rcases cmp_cases hc with⟨k,e⟩|e|e<;>rw[hr _ e]<;>rcases hu with rfl|rfl
   ·cases hx<;>first|exact .inl ⟨_,_,_,rfl⟩|exact .inr ⟨.addressObserved,_,_,rfl,by intro g e;cases e⟩
   ·cases hv<;>first|exact .inl ⟨_,_,_,rfl⟩|exact .inr ⟨.addressObserved,_,_,rfl,by intro g e;cases e⟩
   ·cases hx<;>first|exact .inl ⟨_,_,_,rfl⟩|exact .inr ⟨.addressObserved,_,_,rfl,by intro g e;cases e⟩
   ·cases hv<;>first|exact .inl ⟨_,_,_,rfl⟩|exact .inr ⟨.addressObserved,_,_,rfl,by intro g e;cases e⟩
   ·cases hx<;>first|exact .inl ⟨_,_,_,rfl⟩|exact .inr ⟨.addressObserved,_,_,rfl,by intro g e;cases e⟩
   ·cases hv<;>first|exact .inl ⟨_,_,_,rfl⟩|exact .inr ⟨.addressObserved,_,_,rfl,by intro g e;cases e⟩
  ·rw[Bool.eq_false_iff.2 hc,Bool.false_or] at h
   cases hd:P.a.underlying t with
   |none=>rw[hd] at h;cases h
   |some d =>
    rw[hd] at h
    rw[hr _ hd]
    cases d with
    |struct fs =>
     rcases hu with rfl|rfl
     ·cases hx<;>exact .inl ⟨_,_,_,rfl⟩
     ·cases hv<;>exact .inl ⟨_,_,_,rfl⟩
    |array l e =>
     rcases hu with rfl|rfl
     ·cases hx<;>exact .inl ⟨_,_,_,rfl⟩
     ·cases hv<;>exact .inl ⟨_,_,_,rfl⟩
    |slice e =>
     rcases hu with rfl|rfl
     ·cases hx<;>exact .inl ⟨_,_,_,rfl⟩
     ·cases hv<;>exact .inl ⟨_,_,_,rfl⟩
    |_=>cases h
def mK {op:BinOp}(ho:op=.eql\/op=.neq){k:Nat}{t:TypeId}(h:bO P.a k t=true){xo yo:Operand}{v V x X:Value}(hv:VRel S β v V)(hx:VRel S β x X)(hu:v=hole\/x=hole):Dead P (do eqGuard op t xo yo v x;binOp op t v x):=by
 have z1:eqGuard op t xo yo v x=pure ():=by
  unfold eqGuard
  rcases ho with rfl|rfl<;>(rw[if_neg (by simp)];rcases hu with rfl|rfl<;>first|(cases x<;>rfl)|(cases v<;>rfl))
 have z2:(do eqGuard op t xo yo v x;binOp op t v x)=binOp op t v x:=by rw[z1];rfl
 rw[z2]
 have h1:=binOp_eql (t:=t) (V:=v) (X:=x) (λk a k' b e1 e2=>by subst e1 e2;rcases hu with h|h<;>cases h) (λk a k' b e1 e2=>by subst e1 e2;rcases hu with h|h<;>cases h) (λk a b k' c d e1 e2=>by subst e1 e2;rcases hu with h|h<;>cases h) (λa b e1 e2=>by subst e1 e2;rcases hu with h|h<;>cases h)
 have hd:Dead P (Op.equal t v x):=lq 9999 k h hv hx hu
 rcases ho with rfl|rfl
 ·rw[h1.1];exact hd.bind _
 ·rw[h1.2];exact hd.bind _
def lr (op:BinOp){k:Nat}{t:TypeId}(h:bO P.a k t=true)(xo yo:Operand){v V x X:Value}(hv:VRel S β v V)(hx:VRel S β x X)(hu:¬(v=hole\/x=hole)):SRel P S Ck G β (eqGuard op t xo yo v x) (eqGuard op t xo yo V X) (λ_ _ _=>True):=by
  have fin:∀(β':Bij),β.le β'->SRel P S Ck G β' (do if<-Op.eqGuardIn Op.maxDepth t v x then unsupported (.noEntry "binop/eql: two nil values of an interface type with methods, in a part of a struct or an array"):Sem Unit) (do if<-Op.eqGuardIn Op.maxDepth t V X then unsupported (.noEntry "binop/eql: two nil values of an interface type with methods, in a part of a struct or an array")) (λ_ _ _=>True):=by
    intro β' hle
    refine sr_bind (cx _ k β' h (hv.mono hle) (hx.mono hle)) ?_
    rintro β2 a _ _ rfl
    cases a with
    |true=>exact sr_unsupported (by intro g e;cases e)
    |false=>exact sr_pure trivial
  have fin2:SRel P S Ck G β (do if<-Op.eqGuardIn Op.maxDepth t v x then unsupported (.noEntry "binop/eql: two nil values of an interface type with methods, neither of them the literal nil"):Sem Unit) (do if<-Op.eqGuardIn Op.maxDepth t V X then unsupported (.noEntry "binop/eql: two nil values of an interface type with methods, neither of them the literal nil")) (λ_ _ _=>True):=by
    refine sr_bind (cx _ k β h hv hx) ?_
    rintro β2 a _ _ rfl
    cases a with
    |true=>exact sr_unsupported (by intro g e;cases e)
    |false=>exact sr_pure trivial
  have key : SRel P S Ck G β (match v, x with
      |.nilIface,.nilIface=>do
        if(xo matches .const _)||(yo matches .const _) then return
        if<-Op.eqGuardIn Op.maxDepth t v x then unsupported (.noEntry "binop/eql: two nil values of an interface type with methods, neither of them the literal nil")
      |.agg _,.agg _=>do
        if !(<-program).eqGuardType (<-program).depth t then return
        if<-Op.eqGuardIn Op.maxDepth t v x then unsupported (.noEntry "binop/eql: two nil values of an interface type with methods, in a part of a struct or an array")
      |_,_=>(pure ():Sem Unit)) (match V,X with
      |.nilIface,.nilIface=>do
        if(xo matches .const _)||(yo matches .const _) then return
        if<-Op.eqGuardIn Op.maxDepth t V X then unsupported (.noEntry "binop/eql: two nil values of an interface type with methods, neither of them the literal nil")
      |.agg _,.agg _=>do
        if !(<-program).eqGuardType (<-program).depth t then return
        if<-Op.eqGuardIn Op.maxDepth t V X then unsupported (.noEntry "binop/eql: two nil values of an interface type with methods, in a part of a struct or an array")
      |_,_=>(pure ():Sem Unit)) (λ_ _ _=>True):=by
    cases hv with
    |nilIface=>cases hx with
      |nilIface=>cases xo<;>cases yo<;>first|exact sr_pure trivial|exact fin2
      |blank _ _=>exact absurd (.inr rfl) hu
      |_=>exact sr_pure trivial
    |agg h1 h2=>cases hx with
      |agg h3 h4 =>
        dsimp only
        refine sr_bind aJ ?_
        rintro β2 p p' hle2 ⟨hp,hp'⟩
        subst p p'
        refine sr_bind aJ ?_
        rintro β3 p p' hle3 ⟨hp,hp'⟩
        subst p p'
        rw[show P.b.depth=P.a.depth from rfl,Two.eqGuardType]
        by_cases hb:(!P.a.eqGuardType P.a.depth t)=true
        · simp only[if_pos hb]
          exact sr_pure trivial
        · simp only[if_neg hb]
          exact fin β3 (Bij.le_trans hle2 hle3)
      |blank _ _=>exact absurd (.inr rfl) hu
      |_=>exact sr_pure trivial
    |blank _ _=>exact absurd (.inl rfl) hu
    |_=>first|exact sr_pure trivial|(cases hx<;>exact sr_pure trivial)
  unfold eqGuard
  cases op<;>first
    |exact sr_pure trivial
    | (rw [if_neg (by simp)]
       exact key)
def om (hG:P.a.globals.size<=G){op:BinOp}(ho:op=.eql\/op=.neq){k:Nat}{t:TypeId}(h:bO P.a k t=true){v V x X:Value}(hv:VRel S β v V)(hx:VRel S β x X)(hu:¬(v=hole\/x=hole)):SRel P S Ck G β (binOp op t v x) (binOp op t V X) (λβ' a A=>VRel S β' a A):=by
 by_cases hi:∃k a k' b,v=.int k a/\x=.int k' b
 ·obtain⟨k1,a,k2,b,rfl,rfl⟩:=hi
  cases hv;cases hx
  exact sr_intOps op t _ _ _ _
 ·by_cases hs:∃a b,v=.string a/\x=.string b
  ·obtain⟨a,b,rfl,rfl⟩:=hs
   cases hv;cases hx
   have e:∀x y,binOp op t (.string x) (.string y)=Op.stringOp op x y:=λx y=>by cases op<;>rfl
   rw[e]
   exact ep _ _ _
  ·have h1:=binOp_eql (t:=t) (V:=v) (X:=x) (λk a k' b e1 e2=>hi ⟨k,a,k',b,e1,e2⟩) (λk a k' b e1 e2=>by subst e1;cases hv) (λk a b k' c d e1 e2=>by subst e1;cases hv) (λa b e1 e2=>hs ⟨a,b,e1,e2⟩)
   have h2:=binOp_eql (t:=t) (V:=V) (X:=X) (λk a k' b e1 e2=>by subst e1 e2;cases hv<;>first|exact hu (.inl rfl)|(cases hx<;>first|exact hu (.inr rfl)|exact hi ⟨_,_,_,_,rfl,rfl⟩)) (λk a k' b e1 e2=>by subst e1;cases hv;exact hu (.inl rfl)) (λk a b k' c d e1 e2=>by subst e1;cases hv;exact hu (.inl rfl)) (λa b e1 e2=>by subst e1 e2;cases hv<;>first|exact hu (.inl rfl)|(cases hx<;>first|exact hu (.inr rfl)|exact hs ⟨_,_,rfl,rfl⟩))
   rcases ho with rfl|rfl
   ·rw[h1.1,h2.1]
    exact sr_bind (er hG _ k β h hv hx) (by rintro β1 b _ _ rfl;exact sr_pure (.bool _))
   ·rw[h1.2,h2.2]
    exact sr_bind (er hG _ k β h hv hx) (by rintro β1 b _ _ rfl;exact sr_pure (.bool _))
end
def l6 (w:World):w.sys .env=(.strings w.os.env,w):=by
 unfold World.sys
 have:Kernel.perform .env w.os=.done (.strings w.os.env,w.os):=by
  unfold Kernel.perform
  rfl
 rw[this]
 rfl
section
variable {P:Two} {S:Par} {Ck:Code->Prop} {G:Nat} {β:Bij}
def sK:SRel P S Ck G β (sys .env) (sys .env) (λ_ a A=>a=A/\∃l,a=.strings l):=by
 intro w W n hw ht es0 ES0 _
 have e1:(sys .env).runT P.a w es0=(.ok (.strings w.os.env) w,es0.push ⟨.output,true,false⟩):=by
  show(Sem.sys .env .pure).runT P.a w es0=_
  simp only[Sem.runT,l6]
 have e2:(sys .env).runT P.b W ES0=(.ok (.strings W.os.env) W,ES0.push ⟨.output,true,false⟩):=by
  show(Sem.sys .env .pure).runT P.b W ES0=_
  simp only[Sem.runT,l6]
 rw[e1,e2]
 exact⟨β,.strings W.os.env,W,[⟨.output,true,false⟩],by simp,⟨by rw[hw.env],_,rfl⟩,{ Fin.refl hw with evs:=λ_ E hE=>by cases List.mem_singleton.1 hE;exact .out }⟩
def lw {α α':Type}{R:Bij->α->α'->Prop}:SRel P S Ck G β (runtimePanic .panicNil:Sem α) (runtimePanic .panicNil:Sem α') R:=by
 refine sr_bind aJ ?_
 rintro β1 p p' _ ⟨rfl,rfl⟩
 dsimp only
 refine sr_bind (R:=λ_ a A=>a=A) ?_ ?_
 ·show SRel P S Ck G β1 (elemOf P.a.rt.panicNilError) (elemOf P.a.rt.panicNilError) _
  unfold elemOf
  refine sr_bind (al _) ?_
  rintro β2 d _ _ ⟨rfl,_⟩
  cases d with
  |pointer e=>exact sr_pure rfl
  |_=>exact sr_stuck
 ·rintro β2 e _ _ rfl
  refine sr_bind (fI e (.agg rfl (by simp))) ?_
  rintro β3 ⟨b,o,s⟩ ⟨B,o',s'⟩ _ ⟨h1,h2,h3⟩
  cases h2;cases h3
  exact cz (.iface _ (.ptr _ _ h1))
def mL {v V:Value}(hv:VRel S β v V):SRel P S Ck G β (Instr.panic v) (Instr.panic V) (λβ' a A=>VRel S β' a A):=by
 cases hv with
 |iface t r=>exact cz (.iface t r)
 |nilIface =>
  unfold Instr.panic Instr.panicnil
  refine sr_bind (R:=λ_ a A=>a=A) ?_ ?_
  ·refine sr_bind sK ?_
   rintro β1 a _ _ ⟨rfl,l,rfl⟩
   dsimp only
   refine sr_bind aJ ?_
   rintro β2 p p' _ ⟨rfl,rfl⟩
   exact sr_pure rfl
  ·rintro β1 a _ _ rfl
   split
   ·exact cz .nilIface
   ·exact lw
 |_=>exact sr_stuck
end
structure CallsOk (P:Two)(S:Par)(Ck:Code->Prop)(G:Nat):Prop where
 big:P.a.info? big=none
 call:∀f,S.fn f->∀(β:Bij) (a A:Array Value),AsRel S β a A->SRel P S Ck G β (callFunc f a) (callFunc f A) (NRel S Ck)
section
variable {P:Two} {S:Par} {Ck:Code->Prop} {G:Nat} {β:Bij}
def bC {f:FuncId} {fn:Func} (hf:P.a.funcs[f]?=some fn) {fn':Func} (hf':P.fs[f]?=some fn') (hn:fn.name ≠ "runtime.NumGoroutine") (hn':fn'.name ≠ "runtime.NumGoroutine") (hb:fn.body.isSome) (hb':fn'.body.isSome) (hS:S.fn f) {a A:Array Value} (h:AsRel S β a A) :
  SRel P S Ck G β (callFunc f a) (callFunc f A) (NRel S Ck):=by
 refine sr_bind aJ ?_
 rintro β1 p p' hle ⟨hp,hp'⟩
 subst p p'
 rw[hf,show P.b.funcs[f]?=some fn' from hf']
 have h1:fn.body.isNone=false:=by cases hx:fn.body with
  |none=>rw[hx] at hb;cases hb
  |some _=>rfl
 have h2:fn'.body.isNone=false:=by cases hx:fn'.body with
  |none=>rw[hx] at hb';cases hb'
  |some _=>rfl
 simp only[beq_iff_eq,hn,hn',if_false,h1,h2,Bool.false_eq_true]
 exact sr_pure (.enter hS (h.mono hle))
def ot:∀ {l:List Tmp} {m M:List Value} {x X:Array Value},LRel (VRel S β) m M->AsRel S β x X ->
  AsRel S β ((l.zip m).foldl (λtmps (p:Tmp×Value)=>tmps.setIfInBounds p.1 p.2) x) ((l.zip M).foldl (λtmps (p:Tmp×Value)=>tmps.setIfInBounds p.1 p.2) X)
 |[],_,_,_,_,_,hx=>by simpa using hx
 |t::l,_,_,_,_,h,hx=>by
  cases h with
  |nil=>simpa using hx
  |cons hv hr =>
   simp only[List.zip_cons_cons,List.foldl_cons]
   exact ot hr (hx.set _ hv)
def cQ {l L:Nat}(h:β l L)(hh:S.hid l=false):SRel P S Ck G β (Instr.getLoop l) (Instr.getLoop L) (λβ' r R=>r.state=R.state/\r.pending=R.pending/\(S.fr r.fn/\∀c,r.pending=some c->Ck c)/\r.fn=R.fn/\AsRel S β' r.tmps R.tmps/\r.params=R.params/\r.assign=R.assign/\r.body=R.body/\Ck r.assign/\Ck r.body/\β' r.defers R.defers/\S.hid r.defers=false):=by
 refine sr_bind (ej h hh) ?_
 intro β1 o O _ ho
 cases ho with
 |loop hp ha hb hx hd hk=>exact sr_pure ⟨rfl,rfl,hp,rfl,hx,rfl,rfl,rfl,ha,hb,hd,hk⟩
 |_=>exact λ_ _ _ _ _ _ _ _=>trivial
def pX {l L:Nat}(h:β l L)(hh:S.hid l=false){a A:Array Value}(ha:AsRel S β a A):SRel P S Ck G β (Instr.yield l a) (Instr.yield L A) (NRel S Ck):=by
 refine sr_bind (cQ h hh) ?_
 rintro β1 ⟨st,pe,fn,x,ps,ug,bo,d⟩ ⟨st',pe',fn',X,ps',as',bo',D⟩ hle ⟨h1,h2,h3,h4,h5,h6,h7,h8,h9,h10,h11,h12⟩
 cases h1;cases h2;cases h4;cases h6;cases h7;cases h8
 dsimp only at *
 rw[ha.size]
 split
 ·exact λ_ _ _ _ _ _ _ _=>trivial
 ·refine sr_pure (.round (hle _ _ h) ⟨hh,h3.1⟩ ?_ h9 h10)
  have:=ot (l:=ps.toList) (ha.mono hle).toList h5
  rw[<-Array.foldl_toList,<-Array.foldl_toList]
  simpa using this
def ju (P:Program)(ts:Array TypeId)(b:Builtin):Prop:=match b with
 |.append=>(∀e s,ts[0]?=some s->P.underlying s=some (.slice e)->bF P e=true)/\(∀x k,ts[1]?=some x->P.underlying x≠some (.int k))
 |.len|.cap=>∀t e d,ts[0]?=some t->P.underlying t≠some (.chan e d)
 |.min|.max=>True
 |_=>False
def mM (b:Builtin)(ts:Array TypeId)(t:TypeId)(cs:Array Bool)
  (hb:ju P.a ts b) {a A:Array Value} (h:AsRel S β a A):SRel P S Ck G β (builtin b ts t cs a) (builtin b ts t cs A) (NRel S Ck):=by
 have v:∀ {m M:Sem Value},SRel P S Ck G β m M (λβ' a A=>VRel S β' a A)->SRel P S Ck G β (do pure (.value (<-m)):Sem Next) (do pure (.value (<-M))) (NRel S Ck):=by
  intro m M hm
  refine sr_bind hm ?_
  intro β1 x X _ hx
  exact sr_pure (.value hx)
 cases b with
 |append=>exact v (oh ts t hb.1 hb.2 h)
 |len=>exact v (sE ts t hb h)
 |cap=>exact v (sG ts t hb h)
 |min=>exact v (sI ts t h)
 |max=>exact v (sJ ts t h)
 |_=>exact hb.elim
def jv (hb:P.a.info? big=none):Dead P (typeInfo big):=λw es=>by
 have e2:program.runT P.a w es=(.ok P.a w,es):=rfl
 refine .inl ⟨?_,w,es,?_⟩
 rotate_left
 ·unfold typeInfo
  rw[aj,e2]
  dsimp only
  rw[hb]
  rfl
def Dead.prog {γ:Type}{k:Program->Sem γ}(h:Dead P (k P.a)):Dead P (program >>= k):=λw es=>by
 rw[aj]
 exact h w es
def ly (hb:P.a.info? big=none)(n:Nat)(v:Value)(s:String):Dead P (method n big v s):=by
 cases n with
 |zero=>exact λw es=>.inr ⟨_,_,_,rfl,by intro g e;cases e⟩
 |succ n=>exact(jv hb).bind _
def jQ (hb:P.a.info? big=none)(n:Nat)(v:Value)(s:String){γ:Type}(k:Option Bool->Sem γ)(hk:∃u,k none=unsupported u/\∀g,u≠.initOrder g):Dead P (nilAhead n big v s >>= k):=by
 cases n with
 |zero =>
  obtain⟨u,h1,h2⟩:=hk
  intro w es
  rw[aj]
  have e:(nilAhead 0 big v s).runT P.a w es=(.ok none w,es):=rfl
  rw[e]
  dsimp only
  rw[h1]
  exact .inr ⟨u,w,es,rfl,h2⟩
 |succ n=>exact((jv hb).bind _).bind k
def gJ (hb:P.a.info? big=none)(a:Array Value):Dead P (invoke (hd a).target (hd a).args):=by
 unfold hd invoke
 have e:(#[Value.iface big undef]++a)[0]?=some (.iface big undef):=by rw[Array.getElem?_append_left (by decide)];rfl
 dsimp only
 rw[e]
 unfold callMethod
 dsimp only
 exact Dead.prog ((ly hb _ _ _).bind _)
def fQ (hS:CallsOk P S Ck G){d D:Deferred}(h:DRel S β d D):SRel P S Ck G β (invoke d.target d.args) (invoke D.target D.args) (NRel S Ck):=by
 cases h with
 |fn hf hc ha=>cases hf with
  |func hs=>exact hS.call _ hs β _ _ (ha.append hc)
  |yield hl hk=>exact pX hl hk ha
 |nil ha=>exact au .nilDeref trivial
 |collected h _=>exact sr_stuck
 |blankM a A h1 h2 h3=>subst h2;exact sr_of_dead (gJ hS.big a)
def fe {f F:Value}(hf:VRel S β f F){a A:Array Value}(ha:AsRel S β a A):SRel P S Ck G β (Deferred.ofValue f a) (Deferred.ofValue F A) (λβ' d D=>DRel S β' d D):=by
 cases hf with
 |func hf h1 a1 h2 a2=>exact sr_pure (.fn hf ⟨h2,a2⟩ (AsRel.append ⟨h1,a1⟩ ha))
 |nilFunc=>exact sr_pure (.nil ha)
 |@blankM n x c h=>exact sr_pure (.blankM a A ha rfl (h.imp (λh=>by cases h;rfl) λh=>⟨h,n,c,x,rfl⟩))
 |_=>exact sr_stuck
def ai (SB:FuncId->Bool):Operand->Bool
 |.tmp _=>true
 |.const v=>plain 8 v
 |.global _=>false
 |.func f=>SB f
def optOk (SB:FuncId->Bool):Option Operand->Bool
 |some x=>ai SB x
 |none=>true
def bm (P:Program)(SB:FuncId->Bool)(c:Call):Bool:=c.args.all (ai SB)&&match c.callee with
 |.value f=>ai SB f
 |.invoke ..=>false
 |.builtin .append =>
  (match c.argTypes[0]? with
   |some s=>match P.underlying s with
    |some (.slice e)=>bF P e
    |_=>true
   |none=>true) &&
  (match c.argTypes[1]? with
   |some x=>match P.underlying x with
    |some (.int _)=>false
    |_=>true
   |none=>true)
 |.builtin b=>b==.min||b==.max||((b==.len||b==.cap)&&match c.argTypes[0]? with
  |some t=>match P.underlying t with
   |some (.chan _ _)=>false
   |_=>true
  |none=>true)
def isEq:BinOp->Bool
 |.eql|.neq=>true
 |_=>false
def et (P:Program)(t:TypeId):Bool:=match P.underlying t with
 |some (.slice e)=>bF P e
 |_=>true
def opOk (P:Program)(SB:FuncId->Bool)(o:Oper):Bool:=match o.op with
 |.move x|.assign x=>ai SB x
 |.pick c a b=>ai SB c&&ai SB a&&ai SB b
 |.alloc t=>bF P t
 |.box _ x=>ai SB x
 |.build t ps=>bF P t&&ps.all (λp=>ai SB p.2)
 |.buildSlice t _ ps=>et P t&&ps.all (λp=>ai SB p.2)
 |.load _ a=>ai SB a
 |.store _ a v=>ai SB a&&ai SB v
 |.nilCheck x=>ai SB x&&(P.info? big).isNone
 |.binOp op t x y _=>(cmpOk P t||(isEq op&&bO P 12 t))&&ai SB x&&ai SB y
 |.makeInterface _ x|.panic x=>ai SB x
 |.unOp _ _ x=>ai SB x
 |.convert s d x=>fO P s d&&ai SB x
 |.makeFunc fn fs cs=>(match fn with|.func f=>SB f|_=>false)&&fs.all (ai SB)&&cs.all (ai SB)
 |.makeSlice t l c=>et P t&&ai SB l&&ai SB c
 |.slice _ x l h m=>ai SB x&&optOk SB l&&optOk SB h&&optOk SB m
 |.fieldAddr s x i=>i8 P s i&&ai SB x
 |.field _ x _=>ai SB x
 |.indexAddr _ x i=>ai SB x&&ai SB i
 |.index _ x i=>ai SB x&&ai SB i
 |.extract x _=>ai SB x
 |.call c|.defer c=>bm P SB c
 |_=>false
end
section
variable {P:Two} {SB:FuncId->Bool} {H:Hid} {Ck:Code->Prop} {G:Nat} {β:Bij}
def aE (SB:FuncId->Bool)(f:FuncId):Bool:=f==69&&(SB 68&&!SB 69)
abbrev SP (SB:FuncId->Bool)(H:Hid):Par:=⟨λf=>SB f=true\/aE SB f=true,H,λf=>SB f=true⟩
def cR {ρ Ρ:Operand->Value}(hρ:∀x,ai SB x=true->VRel (SP SB H) β (ρ x) (Ρ x)){l:Array Operand}(h:l.all (ai SB)=true):AsRel (SP SB H) β (l.map ρ) (l.map Ρ):=by
 simp only[Array.all_eq_true_iff_forall_mem] at h
 exact AsRel.map l λx hx=>hρ x (h x hx)
def jw {ρ Ρ:Operand->Value}(hρ:∀x,ai SB x=true->VRel (SP SB H) β (ρ x) (Ρ x)){ps:Array (Nat×Operand)}(h:ps.all (λp=>ai SB p.2)=true) :
  PartsRel (SP SB H) β (ps.map λ(i,x)=>(i,ρ x)).toList (ps.map λ(i,x)=>(i,Ρ x)).toList:=by
 simp only[Array.all_eq_true_iff_forall_mem] at h
 rw[Array.toList_map,Array.toList_map]
 have:∀l:List (Nat×Operand),(∀p∈l,ai SB p.2=true)->PartsRel (SP SB H) β (l.map λ(i,x)=>(i,ρ x)) (l.map λ(i,x)=>(i,Ρ x)):=by
  intro l
  induction l with
  |nil=>intro _;exact .nil
  |cons p l ih=>intro hl;exact .cons (hρ _ (hl p (by simp))) (ih λq hq=>hl q (by simp[hq]))
 exact this _ λp hp=>h p (by simpa using hp)
def i9 {ρ Ρ:Operand->Value}(hρ:∀x,ai SB x=true->VRel (SP SB H) β (ρ x) (Ρ x)){o:Option Operand}(h:optOk SB o=true):OVRel (SP SB H) β (o.map ρ) (o.map Ρ):=by
 cases o with
 |none=>exact .none
 |some x=>exact .some (hρ x h)
def fR {t:TypeId}(h:et P.a t=true):∀e,P.a.underlying t=some (.slice e)->bF P.a e=true:=by
 intro e he
 unfold et at h
 rw[he] at h
 exact h
def mN {c:Call}(h:bm P.a SB c=true){b:Builtin}(hc:c.callee=.builtin b):ju P.a c.argTypes b:=by
 unfold bm at h
 rw[hc] at h
 simp only[Bool.and_eq_true] at h
 obtain⟨_,h⟩:=h
 cases b with
 |append =>
  simp only[Bool.and_eq_true] at h
  obtain⟨h1,h2⟩:=h
  refine⟨λe s he hs=>?_,λx k hx hk=>?_⟩
  ·rw[he] at h1
   simp only[hs] at h1
   exact h1
  ·rw[hx] at h2
   simp only[hk] at h2
   exact absurd h2 (by decide)
 |len|cap =>
  intro t e d ht hd
  rw[ht] at h
  simp only[hd] at h
  exact absurd h (by decide)
 |min|max=>trivial
 |_=>exfalso;revert h;cases c.argTypes[0]?<;>simp<;>intro h<;>revert h<;>decide
def ic (hS:CallsOk P (SP SB H) Ck G){ρ Ρ:Operand->Value}(hρ:∀x,ai SB x=true->VRel (SP SB H) β (ρ x) (Ρ x)){c:Call}(t:TypeId)(h:bm P.a SB c=true) :
  SRel P (SP SB H) Ck G β (do let d<-resolve ρ c t;invoke d.target d.args) (do let d<-resolve Ρ c t;invoke d.target d.args) (NRel (SP SB H) Ck):=by
 have ha:AsRel (SP SB H) β (c.args.map ρ) (c.args.map Ρ):=cR hρ (by unfold bm at h;simp only[Bool.and_eq_true] at h;exact h.1)
 unfold resolve
 cases hc:c.callee with
 |value f =>
  have hf:ai SB f=true:=by unfold bm at h;rw[hc] at h;simp only[Bool.and_eq_true] at h;exact h.2
  dsimp only
  refine sr_bind (fe (hρ f hf) ha) ?_
  intro β1 d D _ hd
  exact fQ hS hd
 |invoke r m=>unfold bm at h;rw[hc] at h;simp at h
 |builtin b =>
  have hb:=mN h hc
  dsimp only
  refine sr_bind (R:=λβ' (d D:Deferred)=>β.le β'/\d=⟨.builtin b c.argTypes t (c.args.map λ|.const _=>true|_=>false),c.args.map ρ⟩/\D=⟨.builtin b c.argTypes t (c.args.map λ|.const _=>true|_=>false),c.args.map Ρ⟩) (sr_pure ⟨β.le_refl,rfl,rfl⟩) ?_
  rintro β1 d D hle ⟨_,rfl,rfl⟩
  exact mM b _ _ _ hb (ha.mono hle)
def mO {ρ Ρ:Operand->Value}(hρ:∀x,ai SB x=true->VRel (SP SB H) β (ρ x) (Ρ x)){c:Call}(t:TypeId)(h:bm P.a SB c=true)(hb:∀b,c.callee≠.builtin b) :
  SRel P (SP SB H) Ck G β (resolve ρ c t) (resolve Ρ c t) (λβ' d D=>DRel (SP SB H) β' d D):=by
 have ha:AsRel (SP SB H) β (c.args.map ρ) (c.args.map Ρ):=cR hρ (by unfold bm at h;simp only[Bool.and_eq_true] at h;exact h.1)
 unfold resolve
 cases hc:c.callee with
 |value f =>
  have hf:ai SB f=true:=by unfold bm at h;rw[hc] at h;simp only[Bool.and_eq_true] at h;exact h.2
  exact fe (hρ f hf) ha
 |invoke r m=>unfold bm at h;rw[hc] at h;simp at h
 |builtin b=>exact absurd hc (hb b)
def cS (P:Program)(SB:FuncId->Bool)(o:Oper):Bool:=opOk P SB o&&match o.op with
 |.defer c=>match c.callee with
  |.builtin _=>false
  |_=>true
 |_=>true
def ov (hG:P.a.globals.size<=G)(hS:CallsOk P (SP SB H) Ck G){ρ Ρ:Operand->Value}(hρ:∀x,ai SB x=true->VRel (SP SB H) β (ρ x) (Ρ x)){o:Oper}(h:cS P.a SB o=true) :
  SRel P (SP SB H) Ck G β (execOp ρ o) (execOp Ρ o) (NRel (SP SB H) Ck):=by
 have v:∀ {m M:Sem Value},SRel P (SP SB H) Ck G β m M (λβ' a A=>VRel (SP SB H) β' a A)->SRel P (SP SB H) Ck G β (do pure (.value (<-m)):Sem Next) (do pure (.value (<-M))) (NRel (SP SB H) Ck):=by
  intro m M hm
  refine sr_bind hm ?_
  intro β1 x X _ hx
  exact sr_pure (.value hx)
 have u:∀ {m M:Sem Unit},SRel P (SP SB H) Ck G β m M (λ_ _ _=>True)->SRel P (SP SB H) Ck G β (do m;pure .skip:Sem Next) (do M;pure .skip) (NRel (SP SB H) Ck):=by
  intro m M hm
  refine sr_bind hm ?_
  intro β1 x X _ _
  exact sr_pure .skip
 unfold cS opOk at h
 unfold execOp
 cases ho:o.op with
 |move x=>rw[ho] at h;simp at h;exact sr_pure (.value (hρ x h))
 |assign x=>rw[ho] at h;simp at h;exact sr_pure (.value (hρ x h))
 |pick c a b =>
  rw[ho] at h;simp at h
  refine sr_bind (fF (hρ c h.1.1)) ?_
  rintro β1 t _ hle rfl
  refine sr_pure (.value ?_)
  split
  ·exact(hρ a h.1.2).mono hle
  ·exact(hρ b h.2).mono hle
 |alloc t=>rw[ho] at h;simp at h;exact v (pU t h)
 |box t x=>rw[ho] at h;simp at h;exact v (sH t (hρ x h))
 |build t ps=>rw[ho] at h;simp only[Bool.and_eq_true,and_true] at h;exact v (pS t h.1 (jw hρ h.2))
 |buildSlice t n ps=>rw[ho] at h;simp only[Bool.and_eq_true,and_true] at h;exact v (jP t n (fR h.1) (jw hρ h.2))
 |load t a=>rw[ho] at h;simp at h;exact v (oi t (hρ a h))
 |store t a x=>rw[ho] at h;simp at h;exact u (mG t (hρ a h.1) (hρ x h.2))
 |nilCheck x =>
  rw[ho] at h;simp at h
  have hx:=hρ x h.1
  dsimp only
  revert hx
  generalize ρ x=v
  generalize Ρ x=V
  intro hx
  cases hx with
  |nilp=>exact au .nilDeref trivial
  |nilIface=>exact au .nilDeref trivial
  |nilFunc=>exact au .nilDeref trivial
  |func hf h1 a1 h2 a2=>cases hf with
   |func hs=>exact sr_pure (.value (.func (.func hs) h1 a1 h2 a2))
   |yield hl hk=>exact sr_pure (.value (.func (.yield hl hk) h1 a1 h2 a2))
  |bool b=>exact sr_pure (.value (.bool b))
  |int k n=>exact sr_pure (.value (.int k n))
  |string s=>exact sr_pure (.value (.string s))
  |ptr o s hb=>exact sr_pure (.value (.ptr o s hb))
  |nils l c=>exact sr_pure (.value (.nils l c))
  |slice o s l c hb=>exact sr_pure (.value (.slice o s l c hb))
  |nilMap=>exact sr_pure (.value .nilMap)
  |nilChan=>exact sr_pure (.value .nilChan)
  |iface t r=>exact sr_pure (.value (.iface t r))
  |agg h1 a1=>exact sr_pure (.value (.agg h1 a1))
  |tuple h1 a1=>exact sr_pure (.value (.tuple h1 a1))
  |blank h1 h2 =>
   cases V with
   |pointer a=>cases a with
    |none=>cases h2
    |some a=>exact sr_pure (.value (.blank h1 h2))
   |func f x c=>cases f with
    |method n=>cases h2
    |_=>exact sr_pure (.value (.blank h1 h2))
   |nilIface=>cases h2
   |nilFunc=>cases h2
   |_=>exact sr_pure (.value (.blank h1 h2))
  |blankM h1 =>
   refine sr_of_dead ?_
   show Dead P (program >>= λp=>nilAhead (p.types.size+Made.depth) big undef "" >>= λr=>_)
   exact Dead.prog (jQ h.2 _ _ _ _ ⟨_,rfl,by intro g e;cases e⟩)
 |binOp op t x y t' =>
  rw[ho] at h;simp at h
  rcases h.1.1 with hc|⟨he,hf⟩
  ·refine v (sr_bind (mI op hc x y _ _ _ _) ?_)
   intro β1 _ _ hle _
   exact pV hG op hc ((hρ x h.1.2).mono hle) ((hρ y h.2).mono hle)
  ·have hop:op=.eql\/op=.neq:=by cases op<;>first|exact .inl rfl|exact .inr rfl|cases he
   by_cases hu:ρ x=hole\/ρ y=hole
   ·exact v (sr_of_dead (mK hop hf (hρ x h.1.2) (hρ y h.2) hu))
   refine v (sr_bind (lr op hf x y (hρ x h.1.2) (hρ y h.2) hu) ?_)
   intro β1 _ _ hle _
   exact om hG hop hf ((hρ x h.1.2).mono hle) ((hρ y h.2).mono hle) hu
 |panic x=>rw[ho] at h;simp at h;exact v (mL (hρ x h))
 |makeInterface t x =>
  rw[ho] at h;simp at h
  refine v (sr_bind (al _) ?_)
  rintro β1 d _ hle ⟨rfl,_⟩
  cases d with
  |interface _=>exact sr_stuck
  |_=>exact sr_pure (.iface _ ((hρ x h).mono hle))
 |unOp op t x=>rw[ho] at h;simp at h;exact v (pW op (hρ x h))
 |convert s d x=>rw[ho] at h;simp at h;exact v (mJ h.1 (hρ x h.2))
 |makeFunc fn fs cs =>
  rw[ho] at h
  simp only[Bool.and_eq_true,and_true] at h
  obtain⟨⟨h1,h2⟩,h3⟩:=h
  cases fn with
  |func f =>
   have a1:=cR (β:=β) hρ h2
   have a2:=cR (β:=β) hρ h3
   exact v (sr_pure (.func (.func (.inl h1)) a1.size a1.at_ a2.size a2.at_))
  |_=>simp at h1
 |makeSlice t l c=>rw[ho] at h;simp at h;exact v (kj t (fR h.1.1) (hρ l h.1.2) (hρ c h.2))
 |slice t x l hi mx=>rw[ho] at h;simp at h;exact v (mE t (hρ x h.1.1.1) (i9 hρ h.1.1.2) (i9 hρ h.1.2) (i9 hρ h.2))
 |fieldAddr s x i=>rw[ho] at h;simp at h;exact v (mC s (hρ x h.2) i h.1)
 |field t x i=>rw[ho] at h;simp at h;exact v (pQ t (hρ x h) i)
 |indexAddr t x i=>rw[ho] at h;simp at h;exact v (mD t (hρ x h.1) (hρ i h.2))
 |index t x i=>rw[ho] at h;simp at h;exact v (pR t (hρ x h.1) (hρ i h.2))
 |extract x i=>rw[ho] at h;simp at h;exact v (mF (hρ x h) i)
 |call c=>rw[ho] at h;simp at h;exact ic hS hρ _ h
 |defer c =>
  rw[ho] at h;simp only[Bool.and_eq_true] at h
  refine sr_bind (mO hρ _ h.1 (λb e=>by rw[e] at h;simp at h)) ?_
  intro β1 d D _ hd
  exact sr_pure (.defer hd)
 |_=>rw[ho] at h;simp at h
end
def l7:Op->Bool
 |.defer _=>true
 |_=>false
def ie (s:String):Bool:=s == "internal/race.Disable"||s == "internal/race.Enable"||s == "internal/race.Acquire"||s == "internal/race.ReleaseMerge"
def cT (p:Program)(f:FuncId):Bool:=match p.funcs[f]? with
 |some fn=>fn.body.isNone&&ie fn.name
 |none=>false
def aN {p:Program}{f:FuncId}{fn:Func}(h:p.funcs[f]?=some fn)(hb:fn.body.isSome=true):cT p f=false:=by
 unfold cT
 rw[h]
 cases hx:fn.body with
 |none=>rw[hx] at hb;cases hb
 |some c=>simp[hx]
def di {p:Program}{f:FuncId}{fn:Func}(h:p.funcs[f]?=some fn)(hb:ie fn.name=false):cT p f=false:=by
 unfold cT
 rw[h]
 simp[hb]
def dP (p:Program)(c:Call):Bool:=match c.callee with
 |.value (.func f)=>cT p f
 |_=>false
def dQ (P:Program)(s d:TypeId):Bool:=match P.underlying s,P.underlying d with
 |some (.pointer _),some .unsafePointer=>true
 |_,_=>false
def aB (p:Program):Op->Bool
 |.go _=>false
 |.call c=>!dP p c
 |.convert s d _=>!dQ p s d
 |_=>true
def goOk (P:Program)(SB:FuncId->Bool):Op->Bool
 |.go c=>bm P SB c&&match c.callee with
  |.builtin _=>false
  |_=>true
 |.call c=>dP P c&&c.args.all (ai SB)&&match c.callee with
  |.value (.func f)=>!SB f
  |_=>false
 |.convert s d x=>dQ P s d&&ai SB x
 |_=>false
def mP {P:Program}{SB:FuncId->Bool}{op:Op}(h:aB P op=true):goOk P SB op=false:=by
 cases op with
 |go c=>simp[aB] at h
 |call c=>simp only[aB,Bool.not_eq_true'] at h;simp[goOk,h]
 |convert s d x=>simp only[aB,Bool.not_eq_true'] at h;simp[goOk,h]
 |_=>rfl
def gK {P:Program}{s d:TypeId}(h:fO P s d=true):dQ P s d=false:=by
 unfold fO at h
 unfold dQ
 split at h
 ·rename_i h1 h2;rw[h1,h2]
 ·cases h
def pY {P p:Program}{SB:FuncId->Bool}{o:Oper}(h:cS P SB o=true)(hn:∀f,SB f=true->cT p f=false)(hu:∀t,p.underlying t=P.underlying t):aB p o.op=true:=by
 unfold cS opOk at h
 cases hop:o.op with
 |go c=>rw[hop] at h;simp at h
 |call c =>
  rw[hop] at h
  simp only[aB,Bool.not_eq_true']
  unfold dP
  cases hc:c.callee with
  |value f=>cases f with
   |func f =>
    simp only[bm,hc,Bool.and_eq_true] at h
    exact hn f h.1.2
   |_=>rfl
  |_=>rfl
 |convert s d x =>
  rw[hop] at h
  simp only[Bool.and_eq_true] at h
  simp only[aB,Bool.not_eq_true']
  have:=gK h.1.1
  unfold dQ at this ⊢
  rw[hu,hu];exact this
 |_=>rfl
def rq {P:Program}{SB:FuncId->Bool}{o:Oper}(h:cS P SB o=true):goOk P SB o.op=false:=by
 unfold cS opOk at h
 cases hop:o.op with
 |go c=>rw[hop] at h;simp at h
 |call c =>
  rw[hop] at h
  unfold goOk
  cases hc:c.callee with
  |value f=>cases f with
   |func f =>
    simp only[bm,hc,Bool.and_eq_true] at h
    have h2:SB f=true:=h.1.2
    simp[hc,h2]
   |_=>simp[dP,hc]
  |_=>simp[dP,hc]
 |convert s d x =>
  rw[hop] at h
  simp only[Bool.and_eq_true] at h
  simp[goOk,gK h.1.1]
 |_=>rfl
def bP (P:Program)(SB:FuncId->Bool)(lets ad:Bool)(o:Oper):Bool:=(cS P SB o&&(ad||!l7 o.op))||(lets&&goOk P SB o.op)
def sL:Op->Bool
 |.call c=>(match c.callee with|.value (.func f)=>f==67|_=>false)&&(match(c.args[1]?:Option Operand) with|some (Operand.const (Value.int _ n))=>decide (n<0)|_=>false)
 |_=>false
def codeOk (P:Program)(SB:FuncId->Bool)(lets:Bool):Bool->Code->Bool
 |_,.skip|_,.exit _|_,.label _|_,.goto _|_,.ret=>true
 |_,.refuse _=>true
 |ad,.region _ ops _=>ops.all (bP P SB lets ad)&&!ops.any λo=>sL o.op
 |ad,.seq a b=>codeOk P SB lets ad a&&codeOk P SB lets ad b
 |ad,.cond c a b=>ai SB c&&codeOk P SB lets ad a&&codeOk P SB lets ad b
 |ad,.block _ b|ad,.loop b|ad,.scope b=>codeOk P SB lets ad b
 |_,.rangeFunc f _ ug bo=>ai SB f&&codeOk P SB lets false ug&&codeOk P SB lets false bo
section
variable (P:Program) (SB:FuncId->Bool) (H:Hid) (lets:Bool)
abbrev CK:Code->Prop:=λc=>codeOk P SB lets false c=true
inductive IRel (ad:Bool)(β:Bij):Item->Item->Prop
 |code {c:Code}:codeOk P SB lets ad c=true->IRel ad β (.code c) (.code c)
 |inBlock (id:Nat):IRel ad β (.inBlock id) (.inBlock id)
 |inLoop {c:Code}:codeOk P SB lets ad c=true->IRel ad β (.inLoop c) (.inLoop c)
 |inScope {c:Code}:codeOk P SB lets ad c=true->IRel ad β (.inScope c) (.inScope c)
 |inRegion {ops:Array Oper} {l:List Nat}:ops.all (bP P SB lets ad)=true->IRel ad β (.inRegion ops l) (.inRegion ops l)
 |inRangeFunc {l L:Nat}:β l L->H l=false->IRel ad β (.inRangeFunc l) (.inRangeFunc L)
 |endRangeFunc {l L:Nat}:β l L->H l=false->IRel ad β (.endRangeFunc l) (.endRangeFunc L)
 |beginRound:IRel ad β .beginRound .beginRound
inductive PRel (β:Bij):PanicEntry->PanicEntry->Prop
 |mk {v V:Value} (r g:Bool):VRel (SP SB H) β v V->PRel β ⟨v,r,g⟩ ⟨V,r,g⟩
inductive MRel (β:Bij):FrameMode->FrameMode->Prop
 |run:MRel β .run .run
 |returning:MRel β .returning .returning
 |panicking {l L:List PanicEntry}:LRel (PRel SB H β) l L->MRel β (.panicking l) (.panicking L)
inductive ONRel (β:Bij):Option Nat->Option Nat->Prop
 |none:ONRel β none none
 |some {l L:Nat}:β l L->H l=false->ONRel β (some l) (some L)
structure FrRel (β:Bij)(f F:Frame):Prop where
 fn:f.fn=F.fn
 tmps:AsRel (SP SB H) β f.tmps F.tmps
 todo:LRel (IRel P SB H lets f.roundOf.isNone β) f.todo F.todo
 defers:LRel (DRel (SP SB H) β) f.defers F.defers
 mode:MRel SB H β f.mode F.mode
 kind:f.kind=F.kind
 late:f.kind≠.early/\SB f.fn=true
 round:ONRel H β f.roundOf F.roundOf
def bad:Frame:={ fn:=0,tmps:=#[],todo:=[.code (.refuse "")],defers:=[⟨.nil,#[]⟩],mode:=.run,kind:=.normal }
inductive CsRel (T:List Frame)(β:Bij):List Frame->List Frame->Prop
 |base:CsRel T β [bad] T
 |cons {c C:Frame} {cs CS:List Frame}:FrRel P SB H lets β c C->CsRel T β cs CS->CsRel T β (c::cs) (C::CS)
end
section
variable (P:Two) (SB:FuncId->Bool) (H:Hid) (lets:Bool)
inductive TopRel (BB:FuncId->Bool)(β:Bij):Frame->Frame->Prop
 |on {f F:Frame}:FrRel P.a SB H lets β f F->TopRel BB β f F
 |stop {f:FuncId} {a A:Array Value} {k:CallKind}:(SB f=true\/aE SB f=true)->BB f=false->k≠.early->AsRel (SP SB H) β a A->TopRel BB β (Frame.enter P.a f a k) (Frame.enter P.b f A k)
structure GRel (BB:FuncId->Bool)(T:List Frame)(β:Bij)(g g':Goroutine):Prop where
 top:TopRel P SB H lets BB β g.frame g'.frame
 callers:CsRel P.a SB H lets T β g.callers g'.callers
 status:g.status=.running/\g'.status=.running
 dying:g.dying=none/\g'.dying=none
 offers:g.offers=none/\g'.offers=none
end
section
variable {P:Two} {SB:FuncId->Bool} {H:Hid} {lets:Bool} {BB:FuncId->Bool} {β β':Bij} {G:Nat}
def CsRel.mono {T:List Frame}(h:∀c C,FrRel P.a SB H lets β c C->FrRel P.a SB H lets β' c C){cs CS:List Frame}(r:CsRel P.a SB H lets T β cs CS):CsRel P.a SB H lets T β' cs CS:=by
 induction r with
 |base=>exact .base
 |cons a _ ih=>exact .cons (h _ _ a) ih
def CsRel.ne {T:List Frame}{cs CS:List Frame}(r:CsRel P.a SB H lets T β cs CS):cs≠[]:=by
 cases r<;>simp
def IRel.mono {ad:Bool}(h:β.le β'){i I:Item}(r:IRel P.a SB H lets ad β i I):IRel P.a SB H lets ad β' i I:=by
 cases r with
 |code c=>exact .code c
 |inBlock id=>exact .inBlock id
 |inLoop c=>exact .inLoop c
 |inScope c=>exact .inScope c
 |inRegion c=>exact .inRegion c
 |inRangeFunc a b=>exact .inRangeFunc (h _ _ a) b
 |endRangeFunc a b=>exact .endRangeFunc (h _ _ a) b
 |beginRound=>exact .beginRound
def PRel.mono (h:β.le β'){i I:PanicEntry}(r:PRel SB H β i I):PRel SB H β' i I:=by
 cases r with
 |mk a b v=>exact .mk a b (v.mono h)
def MRel.mono (h:β.le β'){i I:FrameMode}(r:MRel SB H β i I):MRel SB H β' i I:=by
 cases r with
 |run=>exact .run
 |returning=>exact .returning
 |panicking l=>exact .panicking (l.mono λ_ _=>PRel.mono h)
def ONRel.mono (h:β.le β'){i I:Option Nat}(r:ONRel H β i I):ONRel H β' i I:=by
 cases r with
 |none=>exact .none
 |some a b=>exact .some (h _ _ a) b
def FrRel.mono (h:β.le β'){f F:Frame}(r:FrRel P.a SB H lets β f F):FrRel P.a SB H lets β' f F :=
 ⟨r.fn,r.tmps.mono h,r.todo.mono λ_ _=>IRel.mono h,r.defers.mono λ_ _=>DRel.mono h,r.mode.mono h,r.kind,r.late,r.round.mono h⟩
def FrRel.eval {f F:Frame}(r:FrRel P.a SB H lets β f F){x:Operand}(h:ai SB x=true):VRel (SP SB H) β (f.eval x) (F.eval x):=by
 cases x with
 |tmp t=>exact r.tmps.getD t (.tuple rfl (by simp))
 |const v=>exact fG h
 |global g=>cases h
 |func f=>exact .func (.func (.inl h)) rfl (by simp) rfl (by simp)
def exitTo_rel (id:Nat){ad:Bool}{l L:List Item}(h:LRel (IRel P.a SB H lets ad β) l L):(exitTo id l=none/\exitTo id L=none)\/∃k K,exitTo id l=some k/\exitTo id L=some K/\LRel (IRel P.a SB H lets ad β) k K:=by
 induction h with
 |nil=>exact .inl ⟨rfl,rfl⟩
 |@cons i I l L hi hl ih =>
  cases hi with
  |inBlock id' =>
   unfold exitTo
   split
   ·exact .inr ⟨_,_,rfl,rfl,hl⟩
   ·exact ih
  |_=>exact ih
def dR {ad:Bool}:∀ {c:Code} {l:Nat} {r:Code},codeOk P.a SB lets ad c=true->findLabel c l=some r->codeOk P.a SB lets ad r=true
 |.seq a b,l,r,h,hf=>by
  simp only[codeOk,Bool.and_eq_true] at h
  unfold findLabel at hf
  split at hf
  ·rename_i rest hr
   cases hf
   simp only[codeOk,Bool.and_eq_true]
   exact⟨dR h.1 hr,h.2⟩
  ·exact dR h.2 hf
 |.label l',l,r,h,hf=>by
  unfold findLabel at hf
  split at hf
  ·cases hf;rfl
  ·cases hf
 |.skip,_,_,_,hf|.region _ _ _,_,_,_,hf|.cond _ _ _,_,_,_,hf|.block _ _,_,_,_,hf|.loop _,_,_,_,hf|.rangeFunc _ _ _ _,_,_,_,hf|.exit _,_,_,_,hf|.scope _,_,_,_,hf|.goto _,_,_,_,hf|.ret,_,_,_,hf|.refuse _,_,_,_,hf=>by cases hf
def gotoIn_rel {ad:Bool}(l:Nat){k K:List Item}(h:LRel (IRel P.a SB H lets ad β) k K):(gotoIn l k=none/\gotoIn l K=none)\/∃k' K',gotoIn l k=some k'/\gotoIn l K=some K'/\LRel (IRel P.a SB H lets ad β) k' K':=by
 induction h with
 |nil=>exact .inl ⟨rfl,rfl⟩
 |@cons i I k K hi hl ih =>
  cases hi with
  |inScope hc =>
   rename_i c
   unfold gotoIn
   cases hf:findLabel c l with
   |none=>exact ih
   |some rest=>exact .inr ⟨_,_,rfl,rfl,.cons (.code (dR hc hf)) (.cons (.inScope hc) hl)⟩
  |_=>exact ih
def mem_seen {p:Program}{fn:FuncId}{es:Array Event}{E:Event}(h:E∈seen p fn es):E∈es:=by
 unfold seen at h
 dsimp only at h
 rw[<-Array.foldl_toList] at h
 have key : ∀ (l : List Event) (q : Bool) (kept : Array Event), E ∈ (l.foldl (fun (x : Bool × Array Event) e => match x with
   |(q,kept)=>match e.loc with
    |.mark (.extern f)=>((p.funcs[f]?).any (·.norace),kept)
    |_=>(q,if q&&!e.sync then kept else kept.push e)) (q,kept)).2->E∈kept\/E∈l:=by
  intro l
  induction l with
  |nil=>intro q kept h;exact .inl h
  |cons e l ih =>
   intro q kept h
   simp only[List.foldl_cons] at h
   split at h
   ·rcases ih _ _ h with h|h
    ·exact .inl h
    ·exact .inr (by simp[h])
   ·rcases ih _ _ h with h|h
    ·split at h
     ·exact .inl h
     ·rcases Array.mem_push.1 h with h|h
      ·exact .inl h
      ·exact .inr (by simp[h])
    ·exact .inr (by simp[h])
 rcases key _ _ _ h with h|h
 ·simp at h
 ·simpa using h
end
def Mild {α:Type}:Result α×Array Event->Prop
 |(.ok _ _,_)=>True
 |(.halt (.panic _) _,_)=>True
 |(.halt (.stuck _) _,_)=>True
 |(.halt (.unsupported u) _,_)=>∀g,u≠.initOrder g
 |_=>False
section
variable {P:Two} {S:Par} {Ck:Code->Prop} {G:Nat} {β:Bij}
def SRel.mild {α α':Type}{m:Sem α}{M:Sem α'}{R:Bij->α->α'->Prop}(h:SRel P S Ck G β m M R){w W:World}(hw:WRel S Ck G β w W)(es0:Array Event):Mild (m.runT P.a w es0):=by
 have hw':WRel S Ck G β w { W with tape:=λi q=>w.tape (w.drawn+(i-W.drawn)) q }:=⟨hw.fine,hw.room,hw.objs,hw.hids,hw.old,hw.env⟩
 have hd:=drawn_mono P.a m w es0
 have:=h w { W with tape:=λi q=>w.tape (w.drawn+(i-W.drawn)) q } ((world (m.runT P.a w es0).1).drawn-w.drawn) hw' (λi _ q=>by
  show w.tape (w.drawn+i) q=w.tape (w.drawn+(W.drawn+i-W.drawn)) q
  rw[show W.drawn+i-W.drawn=i from by omega]) es0 #[] (by omega)
 revert this
 generalize m.runT P.a w es0=r
 obtain⟨r,es⟩:=r
 cases r with
 |ok a w'=>exact λ_=>trivial
 |halt x w'=>cases x with
  |panic v=>exact λ_=>trivial
  |stuck s=>exact λ_=>trivial
  |unsupported u=>exact id
  |_=>exact id
def SRel.some {α α':Type}{m:Sem α}{M:Sem α'}{R:Bij->α->α'->Prop}(h:SRel P S Ck G β m M R){w W:World}(hw:WRel S Ck G β w W){es0 es:Array Event}{a:α}{w':World}(hr:m.runT P.a w es0=(.ok a w',es)):∃β' A,R β' a A:=by
 have hw':WRel S Ck G β w { W with tape:=λi q=>w.tape (w.drawn+(i-W.drawn)) q }:=⟨hw.fine,hw.room,hw.objs,hw.hids,hw.old,hw.env⟩
 have hd:=drawn_mono P.a m w es0
 have:=h w { W with tape:=λi q=>w.tape (w.drawn+(i-W.drawn)) q } ((world (m.runT P.a w es0).1).drawn-w.drawn) hw' (λi _ q=>by
  show w.tape (w.drawn+i) q=w.tape (w.drawn+(W.drawn+i-W.drawn)) q
  rw[show W.drawn+i-W.drawn=i from by omega]) es0 #[] (by omega)
 rw[hr] at this
 obtain⟨β',A,_,_,_,h,_⟩:=this
 exact⟨β',A,h⟩
end
def aF:GStep->World
 |.go _ w _|.comm _ _ _ _ w _|.spawn _ _ w _|.count _ w _|.timer _ _ w _|.alone _ _ w _|.newcoro _ _ _ w _|.coroswitch _ _ _ w _|.collect _ w _|.watch _ w _|.ended _ w _=>w
section
variable (P:Two) (SB:FuncId->Bool) (H:Hid) (lets:Bool) (BB:FuncId->Bool) (T:List Frame) (G:Nat)
def Gone (g:Goroutine):Prop:=(∃fr,g={ frame:=fr,callers:=[],status:=.running,dying:=none })/\∀(P:Program) (w:World),∃o w' es,stepG P true g w=.ended o w' es
def dead_bad:Gone { frame:=bad,callers:=[],status:=.running,dying:=none }:=⟨⟨_,rfl⟩,λ_ _=>⟨_,_,_,rfl⟩⟩
def mQ (l:List PanicEntry):Gone { frame:=bad.raise l,callers:=[],status:=.running,dying:=none }:=⟨⟨_,rfl⟩,λ_ _=>⟨_,_,_,rfl⟩⟩
def StepRel (β:Bij)(w W:World):GStep->GStep->Prop
 |.go g w' _,s=>(g.callers=[]/\Gone g)\/∃β' g2 W' ES,s=.go g2 W' ES/\GRel P SB H lets BB T β' g g2/\Fin (SP SB H) (CK P.a SB lets) G β β' w W w' W' ES.toList
 |.ended _ _ _,_=>True
 |_,_=>False
end
section
variable {P:Two} {SB:FuncId->Bool} {H:Hid} {lets:Bool} {BB:FuncId->Bool} {T:List Frame} {β β':Bij} {Gn:Nat}
structure Lib (P:Two)(SB:FuncId->Bool)(H:Hid)(lets:Bool)(BB:FuncId->Bool)(Gn:Nat):Prop where
 calls:CallsOk P (SP SB H) (CK P.a SB lets) Gn
 body:∀f,BB f=true->∃fn c,P.a.funcs[f]?=some fn/\fn.body.getD (.refuse "unsupported: a function without a Go body is entered")=c/\codeOk P.a SB lets true c=true/\P.fs[f]?=some fn
 like:∀f,SB f=true->∃fn fn',P.a.funcs[f]?=some fn/\P.fs[f]?=some fn'/\fn.results=fn'.results
 glob:P.a.globals.size<=Gn
 nm:∀f,SB f=true->cT P.a f=false/\cT P.b f=false
 sub:∀f,BB f=true->SB f=true
 bars:∀f,aE SB f=true->∃fn s,P.a.funcs[f]?=some fn/\fn.body=some (.refuse s)
def enter_rel (L:Lib P SB H lets BB Gn){f:FuncId}(hf:SB f=true\/aE SB f=true){a A:Array Value}(h:AsRel (SP SB H) β a A)(k:CallKind)(hk:k≠.early) :
  TopRel P SB H lets BB β (Frame.enter P.a f a k) (Frame.enter P.b f A k):=by
 cases hb:BB f with
 |false=>exact .stop hf hb hk h
 |true =>
  obtain⟨fn,c,h1,h2,h3,h4⟩:=L.body f hb
  have h4':P.b.funcs[f]?=some fn:=h4
  refine .on ⟨rfl,?_,?_,.nil,.run,rfl,⟨hk,L.sub f hb⟩,.none⟩
  ·unfold Frame.enter
   dsimp only
   rw[h.size,h1,h4']
   exact h.append (AsRel.replicate (.tuple rfl (by simp)) _)
  ·unfold Frame.enter
   simp only[h1,h4',h2,Option.bind_some,Option.getD_some]
   exact .cons (.code h3) .nil
def dq {l L:Nat}(hl:β l L)(hh:H l=false)(f:FuncId)(hf:SB f=true){x X:Array Value}(hx:AsRel (SP SB H) β x X){ug bo:Code}(h1:codeOk P.a SB lets false ug=true)(h2:codeOk P.a SB lets false bo=true)(k:CallKind)(hk:k≠.early) :
  FrRel P.a SB H lets β (Frame.round l f x ug bo k) (Frame.round L f X ug bo k) :=
 ⟨rfl,hx,.cons (.code h1) (.cons .beginRound (.cons (.code h2) .nil)),.nil,.run,rfl,⟨hk,hf⟩,.some hl hh⟩
def aV {f F:Frame}(h:FrRel P.a SB H lets β f F){v V:Value}(hv:VRel (SP SB H) β v V):FrRel P.a SB H lets β (f.finish v) (F.finish V):=by
 obtain⟨fn,tmps,todo,defers,mode,kind,round⟩:=f
 obtain⟨fn',tmps',todo',defers',mode',kind',round'⟩:=F
 obtain⟨h1,h2,h3,h4,h5,h6,h7,h8⟩:=h
 dsimp only at *
 unfold Frame.finish
 cases h3 with
 |nil=>exact⟨h1,h2,.nil,h4,h5,h6,h7,h8⟩
 |@cons i I l L hi hl =>
  have h3':LRel (IRel P.a SB H lets round.isNone β) (i::l) (I::L):=.cons hi hl
  cases hi with
  |inRegion ho =>
   rename_i ops todo
   cases todo with
   |nil=>exact⟨h1,h2,h3',h4,h5,h6,h7,h8⟩
   |cons j rest =>
    refine⟨h1,?_,.cons (.inRegion ho) hl,h4,h5,h6,h7,h8⟩
    dsimp only
    cases(ops[j]?).bind (·.dst) with
    |none=>exact h2
    |some d=>exact h2.set d hv
  |inRangeFunc a b=>exact⟨h1,h2,.cons (.endRangeFunc a b) hl,h4,h5,h6,h7,h8⟩
  |beginRound=>exact⟨h1,h2,hl,h4,h5,h6,h7,h8⟩
  |code c=>exact⟨h1,h2,h3',h4,h5,h6,h7,h8⟩
  |inBlock id=>exact⟨h1,h2,h3',h4,h5,h6,h7,h8⟩
  |inLoop c=>exact⟨h1,h2,h3',h4,h5,h6,h7,h8⟩
  |inScope c=>exact⟨h1,h2,h3',h4,h5,h6,h7,h8⟩
  |endRangeFunc a b=>exact⟨h1,h2,h3',h4,h5,h6,h7,h8⟩
def bX {f F:Frame}(h:FrRel P.a SB H lets β f F){l L:List PanicEntry}(hl:LRel (PRel SB H β) l L):FrRel P.a SB H lets β (f.raise l) (F.raise L):=by
 obtain⟨fn,tmps,todo,defers,mode,kind,round⟩:=f
 obtain⟨fn',tmps',todo',defers',mode',kind',round'⟩:=F
 obtain⟨h1,h2,h3,h4,h5,h6,h7,h8⟩:=h
 dsimp only at *
 unfold Frame.raise
 cases h5 with
 |run=>exact⟨h1,h2,h3,h4,.panicking hl,h6,h7,h8⟩
 |returning=>exact⟨h1,h2,h3,h4,.panicking hl,h6,h7,h8⟩
 |panicking hc=>exact⟨h1,h2,h3,h4,.panicking (hl.append hc),h6,h7,h8⟩
def aG {f F:Frame}{cs CS:List Frame}(h:FrRel P.a SB H lets β f F)(hc:CsRel P.a SB H lets T β cs CS) :
  GRel P SB H lets BB T β { frame:=f,callers:=cs,status:=.running,dying:=none } { frame:=F,callers:=CS,status:=.running,dying:=none } :=
 ⟨.on h,hc,⟨rfl,rfl⟩,⟨rfl,rfl⟩,⟨rfl,rfl⟩⟩
def Fin.seen {w W w' W':World}{ES:List Event}(h:Fin (SP SB H) (CK P.a SB lets) Gn β β' w W w' W' ES)(fn:FuncId):Fin (SP SB H) (CK P.a SB lets) Gn β β' w W w' W' (seen P.b fn ES.toArray).toList :=
 { h with evs:=λht E hE=>h.evs ht E (by have:=mem_seen (p:=P.b) (fn:=fn) (E:=E) (es:=ES.toArray) (by simpa using hE);simpa using this) }
def fS (L:Lib P SB H lets BB Gn){fr FR:Frame}{cs CS:List Frame}(hf:FrRel P.a SB H lets β fr FR)(hc:CsRel P.a SB H lets T β cs CS){m M:Sem Next}
  (hm:SRel P (SP SB H) (CK P.a SB lets) Gn β m M (NRel (SP SB H) (CK P.a SB lets))) {w W:World} {n:Nat} (hw:WRel (SP SB H) (CK P.a SB lets) Gn β w W) (ht:TRel n w W)
  (hb:(aF (stepG.apply P.a true fr cs none m w)).drawn<=w.drawn+n) :
  StepRel P SB H lets BB T Gn β w W (stepG.apply P.a true fr cs none m w) (stepG.apply P.b true FR CS none M W):=by
 have hmild:=hm.mild hw #[]
 have hkd:fr.kind=FR.kind:=hf.kind
 have le1:(fr.kind==.early)=false:=by simpa using hf.late.1
 have le2:(FR.kind==.early)=false:=by rw[<-hkd];exact le1
 have hE:=hm w W n hw ht #[] #[]
 have hsome:=λ(a:Next) (w':World) (es:Array Event) (e:m.runT P.a w #[]=(.ok a w',es))=>hm.some hw e
 have hkc:∀ {d:Deferred} {b:Bool} {r:String} {x:Array Value} {k:List Item},fr.todo=.call d b r x::k->False:=by
  intro d b r x k h
  have:=hf.todo
  rw[h] at this
  generalize FR.todo=T at this
  cases this with
  |cons hi _=>cases hi
 have hkc':∀ {d:Deferred} {b:Bool} {r:String} {x:Array Value} {k:List Item},FR.todo=.call d b r x::k->False:=by
  intro d b r x k h
  have:=hf.todo
  rw[h] at this
  generalize fr.todo=T at this
  cases this with
  |cons hi _=>cases hi
 unfold stepG.apply at hb ⊢
 simp only[if_true,le1,le2,Bool.false_eq_true,if_false] at hb ⊢
 rcases hr:m.runT P.a w #[] with⟨r,es⟩
 rw[hr] at hE hmild hb
 cases r with
 |ok x w' =>
  obtain⟨_,_,hx⟩:=hsome x w' es hr
  have hbw:w'.drawn<=w.drawn+n:=by cases hx<;>exact hb
  obtain⟨β',X,W',ES,e1,e2,e3⟩:=hE hbw
  rw[e1]
  simp only[Array.empty_append]
  have hf':=hf.mono e3.le
  have hc':=hc.mono λ_ _ (r:FrRel P.a SB H lets β _ _)=>r.mono e3.le
  have e3':=e3.seen (P:=P) (SB:=SB) (H:=H) (lets:=lets) FR.fn
  cases e2 with
  |value hv=>exact Or.inr ⟨β',_,W',_,rfl,aG (aV hf' hv) hc',by simpa using e3'⟩
  |skip=>exact Or.inr ⟨β',_,W',_,rfl,aG (aV hf' (.tuple rfl (by simp))) hc',by simpa using e3'⟩
  |enter hs ha =>
   refine Or.inr ⟨β',_,W',_,rfl,⟨?_,.cons hf' hc',⟨rfl,rfl⟩,⟨rfl,rfl⟩,⟨rfl,rfl⟩⟩,by simpa using e3'⟩
   split
   ·exact(hkc ‹_›).elim
   ·split
    ·exact(hkc' ‹_›).elim
    ·exact enter_rel L hs ha .normal (by simp)
  |round hl hh hx h1 h2=>exact Or.inr ⟨β',_,W',_,rfl,aG (dq hl hh.1 _ hh.2 (by assumption) h1 h2 .normal (by simp)) (.cons hf' hc'),by simpa using e3'⟩
  |defer hd=>exact Or.inr ⟨β',_,W',_,rfl,aG (aV (f:={ fr with defers:=_::fr.defers }) (F:={ FR with defers:=_::FR.defers }) ⟨hf'.fn,hf'.tmps,hf'.todo,.cons hd hf'.defers,hf'.mode,hf'.kind,hf'.late,hf'.round⟩ (.tuple rfl (by simp))) hc',by simpa using e3'⟩
 |halt x w' =>
  cases x with
  |panic v =>
   obtain⟨β',X,W',ES,e1,e2,e3⟩:=hE hb
   rw[e1]
   simp only[Array.empty_append]
   have hf':=hf.mono e3.le
   have hc':=hc.mono λ_ _ (r:FrRel P.a SB H lets β _ _)=>r.mono e3.le
   have e3':=e3.seen (P:=P) (SB:=SB) (H:=H) (lets:=lets) FR.fn
   exact Or.inr ⟨β',_,W',_,rfl,aG (bX hf' (.cons (.mk _ _ e2) .nil)) hc',by simpa using e3'⟩
  |stuck s=>trivial
  |unsupported u =>
   cases u with
   |initOrder g=>exact absurd rfl (hmild g)
   |_=>trivial
  |_=>exact hmild.elim
end
end Go.Iso
