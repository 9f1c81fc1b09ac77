/- Parts of the proof. -/
import Derived.Test.YtgllajjoinefcaaGreatP00
set_option linter.all false
open Bool renaming true->Z,false->J,eq_false_iff->dS,false_or->er
open Go renaming Goroutine->U,FuncId->N,World->bb,Program->bh,Value->bk,Frame->br,stepG->bw,TypeId->bD,Operand->cf,Deferred->cq,unsupported->cu,Event->cw,doReturn->cE,Code->cU,PanicEntry->c0,callDeferred->ed,step_lone_ended->ek,FrameMode->eo,CallKind->eG,findLabel->eT,callFunc->fc,Next->fl,Item->fu,BinOp->fW,nilAhead->gl,Oper->gU,execOp->hP
open Classical renaming choose_spec->bc,choose->bn
open Go.stepG renaming exec->bl,apply->cK,oper->hZ
open Or renaming inr->bq
open Option renaming none->bs,some->bW,elim_none->di,elim_some->eV
open Go.Op renaming eqGuardIn->bA,maxDepth->ck,equalIn->eb
open Go.Instr renaming endRound->b8,beginRound->df,enterLoop->dn,takeDeferred->dr,endLoop->ez,typeAssert->eH,panic->e8,getLoop->fq,yield->gg
open Go.Frame renaming enter->b9,eval->cF,catches->ea,oper?->e9,pos->fx,round->gB
open Go.GStep renaming after->cd,ended->gR
open Std.Legacy.Range renaming forIn_eq_forIn_range'->cA
open Go.Builtin renaming copy_->ew,firstCells->eA,min_->eC,max_->eF,lenOf->fo,min2->fz,max2->fA
open Array renaming getD->Array.LE,setIfInBounds->Array.L
open Eq renaming symm->Eq.LT
open Go renaming underlying->Go.LT
open Go.Addr renaming block->Go.Addr.Lo
open Go.Call renaming callee->Go.Call.L
open Go.CallKind renaming deferred->Go.CallKind.L
open Go.Code renaming block->Go.Code.Lo,region->Go.Code.L
open Go.Ending renaming returned->Go.Ending.L
open Go.GoStatus renaming running->Go.GoStatus.L
open Go.Goroutine renaming frame->Go.Goroutine.L
open Go.Instr renaming alloc->Go.Instr.Li
open Go.Obj renaming deferred->Go.Obj.L
open Go.Op renaming alloc->Go.Op.Li
open Go.Os renaming mono->Go.Os.LT
open Go.Program renaming alikeButTags->Go.Program.Li,eqGuardType->Go.Program.LE,funcs->Go.Program.L,underlying->Go.Program.LT
open Go.Sem renaming runT->Go.Sem.L
open Go.TypeDesc renaming pointer->Go.TypeDesc.S
open Go.Unsupported renaming addressObserved->Go.Unsupported.L
open Go.Value renaming pointer->Go.Value.S
open List renaming toArray->List.Li
open Option renaming getD->Option.LE,isNone->Option.L
namespace Go.Em
inductive H9 (S:Fu)(Ck:cU->Prop)(β:Ef):fl->fl->Prop
 |value {v V:bk}:DX S β v V->H9 S Ck β (.value v) (.value V)
 |skip:H9 S Ck β .skip .skip
 |enter {f:N} {a A:Array bk}:S.fn f->D6 S β a A->H9 S Ck β (.enter f a) (.enter f A)
 |round {l L:Nat} {f:N} {x X:Array bk} {Az bo:cU}:β l L->S.LT l=J/\S.fr f->D6 S β x X->Ck Az->Ck bo->H9 S Ck β (.round l f x Az bo) (.round L f X Az bo)
 |defer {d D:cq}:Fx S β d D->H9 S Ck β (.defer d) (.defer D)
section
variable {P:Er} {S:Fu} {Ck:cU->Prop} {G:Nat} {β:Ef}
def KA {p:bh}{t:bD}{d:TypeDesc}(e:p.LT t=bW d)(w:bb)(es:Array cw):(underlying t).L p w es=(.ok d w,es):=by
 unfold underlying;rw[aj];have e2:program.L p w es=(.ok p w,es):=rfl;rw[e2];dsimp only;rw[e]
 rfl
def de {p:bh}(hp:∀t,p.LT t=P.a.LT t){t:bD}(h:Hi P.a t=Z)(n:Nat)(v x:bk)(w:bb)(es:Array cw):(bA (n+1) t v x).L p w es=(.ok J w,es):=by
 unfold bA;rw[aj];rcases Im h with⟨k,e⟩|e|e<;>(rw[KA ((hp t).trans e)];rfl)
def iV {p:bh}(hp:∀t,p.LT t=P.a.LT t)(op:fW){t:bD}(h:Hi P.a t=Z)(xo yo:cf)(v x:bk)(w:bb)(es:Array cw):(eqGuard op t xo yo v x).L p w es=(.ok () w,es):=by
  unfold eqGuard;cases op<;>try rfl
  all_goals
    rw[AE (by simp)];split
    · cases xo <;> cases yo <;> first
        |rfl
        | (rw [AE (by simp), aj, show ck = 9999 + 1 from rfl, de hp h]
           rfl)
    · rw[aj]
      have e2:program.L p w es=(.ok p w,es):=rfl;rw[e2];dsimp only;rw[aj,e2];dsimp only;split
      · rfl
      · rw[aj,show ck=9999+1 from rfl,de hp h]
        rfl
    · rfl
def pF (op:fW){t:bD}(h:Hi P.a t=Z)(xo yo:cf)(v x V X:bk):D8 P S Ck G β (eqGuard op t xo yo v x) (eqGuard op t xo yo V X) (λ_ _ _=>True):=by
 intro w W n hw ht a6 a7 hb;rw[iV (λ_=>rfl) op h,iV P.LT op h];exact⟨β,(),W,[],by simp,trivial,Fin.refl hw⟩
def tx (op:UnOp){v V:bk}(hv:DX S β v V):D8 P S Ck G β (Op.unary op v) (Op.unary op V) (λDZ a A=>DX S DZ a A):=by
 cases hv with
 |int k n=>cases op with
  |neg=>exact DV (.int _ _)
  |xor=>exact DV (.int _ _)
  |_=>exact D4
 |bool b=>cases op with
  |not=>exact DV (.bool _)
  |_=>exact D4
 |ptr o s hb=>cases op with
  |neg=>exact D7 (u:=.L) (by intro g e;cases e)
  |xor=>exact D7 (u:=.L) (by intro g e;cases e)
  |_=>exact D4
 |_=>cases op<;>exact D4
def gW (P:bh)(s d:bD):Bool:=match P.LT s,P.LT d with
 |some (.int _),bW (.int _)=>Z
 |_,_=>J
def pG {s d:bD}(h:gW P.a s d=Z){v V:bk}(hv:DX S β v V):D8 P S Ck G β (convert s d v) (convert s d V) (λDZ a A=>DX S DZ a A):=by
 refine DT (ai _) ?_;rintro a7 a _ zX ⟨rfl,h1⟩;refine DT (ai _) ?_;rintro a8 b _ a6 ⟨rfl,h2⟩;unfold gW at h;rw[h1,h2] at h;cases a with
 |int k=>cases b with
  |int k'=>cases hv with
   |int k n=>exact DV (.int _ _)
   |ptr o s hb=>exact D7 (u:=.L) (by intro g e;cases e)
   |_=>exact Hs λw es=>⟨_,w,es,rfl,by intro g e;cases e⟩
  |_=>cases h
 |_=>cases b<;>cases h
def vF {v V x X:bk}(hv:DX S β v V)(hx:DX S β x X):D8 P S Ck G β (fz v x) (fz V X) (λDZ a A=>DX S DZ a A):=by
 cases hv with
 |int k n=>cases hx with
  |int k' m=>exact DV (.int _ _)
  |ptr o s hb=>exact D7 (u:=.L) (by intro g e;cases e)
  |_=>exact D4
 |string a=>cases hx with
  |string b =>
   refine DT (fC _ _ _) ?_;intro a6 c C _ hc;refine DT (gL hc) ?_;rintro a7 c _ _ rfl;exact DV (.string _)
  |ptr o s hb=>exact D7 (u:=.L) (by intro g e;cases e)
  |_=>exact D4
 |ptr o s hb=>exact D7 (u:=.L) (by intro g e;cases e)
 |_=>cases hx<;>first|exact D4|exact D7 (u:=.L) (by intro g e;cases e)
def vG {v V x X:bk}(hv:DX S β v V)(hx:DX S β x X):D8 P S Ck G β (fA v x) (fA V X) (λDZ a A=>DX S DZ a A):=by
 cases hv with
 |int k n=>cases hx with
  |int k' m=>exact DV (.int _ _)
  |ptr o s hb=>exact D7 (u:=.L) (by intro g e;cases e)
  |_=>exact D4
 |string a=>cases hx with
  |string b =>
   refine DT (fC _ _ _) ?_;intro a6 c C _ hc;refine DT (gL hc) ?_;rintro a7 c _ _ rfl;exact DV (.string _)
  |ptr o s hb=>exact D7 (u:=.L) (by intro g e;cases e)
  |_=>exact D4
 |ptr o s hb=>exact D7 (u:=.L) (by intro g e;cases e)
 |_=>cases hx<;>first|exact D4|exact D7 (u:=.L) (by intro g e;cases e)
def gX {f:bk->bk->Sem bk}(hf:∀β v V x X,DX S β v V->DX S β x X->D8 P S Ck G β (f v x) (f V X) (λDZ a A=>DX S DZ a A)) :
  ∀ {l L:List bk} {v V:bk} {β:Ef},E3 (DX S β) l L->DX S β v V->D8 P S Ck G β (l.foldlM f v) (L.foldlM f V) (λDZ a A=>DX S DZ a A)
 |[],_,_,_,_,h,hv=>by cases h;exact DV hv
 |x::l,_,_,_,_,h,hv=>by
  cases h with
  |cons hx hl =>
   simp only[List.foldlM_cons];refine DT (hf _ _ _ _ _ hv hx) ?_;intro a6 y Y zX hy;exact gX hf (hl.LT λ_ _=>DX.LT zX) hy
def xT (ts:Array bD)(t:bD){a A:Array bk}(h:D6 S β a A):D8 P S Ck G β (eC ts t a) (eC ts t A) (λDZ v V=>DX S DZ v V):=by
 unfold eC;have:=h.toList;revert this;generalize a.toList=l;generalize A.toList=L;intro hl;cases hl with
 |nil=>exact D4
 |cons hx hl=>exact gX (λβ v V x X=>vF) hl hx
def xU (ts:Array bD)(t:bD){a A:Array bk}(h:D6 S β a A):D8 P S Ck G β (eF ts t a) (eF ts t A) (λDZ v V=>DX S DZ v V):=by
 unfold eF;have:=h.toList;revert this;generalize a.toList=l;generalize A.toList=L;intro hl;cases hl with
 |nil=>exact D4
 |cons hx hl=>exact gX (λβ v V x X=>vG) hl hx
end
def cm (P:bh):Nat->bD->Bool
 |0,_=>J
 |d+1,t=>Hi P t||match P.LT t with
  |some (.struct fs)=>fs.all λf=>cm P d f.type
  |some (.array _ e)=>cm P d e
  |some (.slice _)=>Z
  |_=>J
def Er.Li (P:Er)(d:Nat):P.b.Li d=P.a.Li d:=by
 induction d with
 |zero=>rfl
 |succ d ih =>
  funext t u;unfold Program.alikeButTags;rw[ih]
  rfl
def Er.stoodInHeld (P:Er)(t:bD):P.b.stoodInHeld t=P.a.stoodInHeld t:=by
 unfold Program.stoodInHeld Program.stoodInAs;rw[Er.Li,show P.b.depth=P.a.depth from rfl]
 rfl
def Er.LE (P:Er)(d:Nat):P.b.LE d=P.a.LE d:=by
 induction d with
 |zero=>rfl
 |succ d ih =>
  funext t;unfold Program.eqGuardType;rw[ih]
  rfl
section
variable {P:Er} {S:Fu} {Ck:cU->Prop} {G:Nat} {β:Ef}
def eW {γ σ:Type}{f F:γ->σ->Sem (ForInStep σ)}:∀(l:List γ) (s:σ) (β:Ef),(∀x∈l,∀s DZ,β.le DZ->D8 P S Ck G DZ (f x s) (F x s) (λ_ a A=>a=A)) ->
  D8 P S Ck G β (forIn l s f) (forIn l s F) (λ_ a A=>a=A)
 |[],s,β,_=>by
  simp only[List.forIn_nil];exact DV rfl
 |x::l,s,β,h=>by
  simp only[List.forIn_cons];refine DT (h x (by simp) s β β.le_refl) ?_;rintro a7 a _ zX rfl;cases a with
  |done b=>exact DV rfl
  |yield b=>exact eW l b a7 λy hy s DZ a6=>h y (by simp[hy]) s DZ (Ef.le_trans zX a6)
def fD (hG:P.a.globals.size<=G):∀(n k:Nat) {t:bD} (β:Ef),cm P.a k t=Z->∀ {v V x X:bk},DX S β v V->DX S β x X->D8 P S Ck G β (eb n t v x) (eb n t V X) (λ_ a A=>a=A)
 |0,_,_,_,_,_,_,_,_,_,_=>D7 (by intro g e;cases e)
 |_+1,0,_,_,h,_,_,_,_,_,_=>by cases h
 |n+1,k+1,t,β,h,v,V,x,X,hv,hx=>by
  by_cases hc:Hi P.a t=Z
  .exact kS hG n hc hv hx
  .unfold cm at h;rw[dS.2 hc,er] at h;unfold eb;refine DT (ai _) ?_;rintro aB d _ zX ⟨rfl,hd⟩;replace hv:=hv.LT zX;replace hx:=hx.LT zX;rw[hd] at h;cases d with
   |struct fs =>
    simp only[Bb] at h;cases hv with
    |agg h1 h2 =>
     cases hx with
     |agg h3 h4 =>
      rename_i a A b B;have ha:D6 S aB a A:=⟨h1,h2⟩;have hb:D6 S aB b B:=⟨h3,h4⟩;refine DT aN ?_;rintro aH p p' a6 ⟨hp,aK⟩;subst p p';rw[Er.stoodInHeld];split
      .exact DT (R:=λ_ _ _=>False) (D7 (by intro g e;cases e)) (λ_ _ _ _ h=>h.elim)
      .refine DT (R:=λ_ a A=>a=A) ?_ ?_
       .rw[<-C8,<-C8];refine eW _ _ _ λf hf s aD a7=>?_;split
        .refine DT (cz _ ((ha.LT a6).LT a7) _) ?_;intro aI p1 P1 a8 Ji;refine DT (cz _ (((hb.LT a6).LT a7).LT a8) _) ?_;intro aF p2 P2 aA aG;refine DT (fD hG n k aF (h f (by simpa using hf)) (Ji.LT aA) aG) ?_;rintro aJ r _ _ rfl;cases r<;>exact DV rfl
        .exact DV rfl
       .rintro aD ⟨a,_⟩ _ _ rfl;cases a<;>exact DV rfl
     |_=>exact D4
    |_=>first|exact D4|(cases hx<;>exact D4)
   |array len e =>
    cases hv with
    |agg h1 h2 =>
     cases hx with
     |agg h3 h4 =>
      rename_i a A b B;have ha:D6 S aB a A:=⟨h1,h2⟩;have hb:D6 S aB b B:=⟨h3,h4⟩;refine DT (aC _) ?_;rintro aH m _ a6 rfl;refine DT (R:=λ_ a A=>a=A) ?_ ?_
      .simp only[cA];refine eW _ _ _ λf hf s aD a7=>?_;refine DT (cz _ ((ha.LT a6).LT a7) _) ?_;intro aI p1 P1 a8 Ji;refine DT (cz _ (((hb.LT a6).LT a7).LT a8) _) ?_;intro aF p2 P2 aA aG;refine DT (fD hG n k aF h (Ji.LT aA) aG) ?_;rintro aJ r _ _ rfl;cases r<;>exact DV rfl
      .rintro aD ⟨a,_⟩ _ _ rfl;cases a<;>exact DV rfl
     |_=>exact D4
    |_=>first|exact D4|(cases hx<;>exact D4)
   |slice e =>
    cases hv with
    |GA l c=>cases hx<;>first|exact DV rfl|exact D4
    |slice o s l c hb=>cases hx<;>first|exact DV rfl|exact D4
    |E8 _=>cases hx<;>first|exact DV rfl|exact D4
    |_=>first|exact D4|(cases hx<;>exact D4)
   |_=>cases h
def dg:∀(n k:Nat) {t:bD} (β:Ef),cm P.a k t=Z->∀ {v V x X:bk},DX S β v V->DX S β x X->D8 P S Ck G β (bA n t v x) (bA n t V X) (λ_ a A=>a=A)
 |0,_,_,_,_,_,_,_,_,_,_=>D7 (by intro g e;cases e)
 |_+1,0,_,_,h,_,_,_,_,_,_=>by cases h
 |n+1,k+1,t,β,h,v,V,x,X,hv,hx=>by
  by_cases hc:Hi P.a t=Z
  .intro w W m hw ht aJ aK hb;rw[de (P:=P) (λ_=>rfl) hc,de P.LT hc];exact⟨β,J,W,[],by simp,rfl,Fin.refl hw⟩
  .unfold cm at h;rw[dS.2 hc,er] at h;unfold bA;refine DT (ai _) ?_;rintro aA d _ zX ⟨rfl,hd⟩;replace hv:=hv.LT zX;replace hx:=hx.LT zX;rw[hd] at h;cases d with
   |struct fs =>
    simp only[Bb] at h;cases hv with
    |agg h1 h2 =>
     cases hx with
     |agg h3 h4 =>
      rename_i a A b B;have ha:D6 S aA a A:=⟨h1,h2⟩;have hb:D6 S aA b B:=⟨h3,h4⟩;refine DT (R:=λ_ a A=>a=A) ?_ ?_
      .rw[<-C8,<-C8];refine eW _ _ _ λf hf s aB a6=>?_;split
       .refine DT (cz _ (ha.LT a6) _) ?_;intro aH p1 P1 a7 Ji;refine DT (cz _ ((hb.LT a6).LT a7) _) ?_;intro aD p2 P2 a8 aF;refine DT (dg n k aD (h f (by simpa using hf)) (Ji.LT a8) aF) ?_;rintro aI r _ _ rfl;cases r<;>exact DV rfl
       .exact DV rfl
      .rintro aB ⟨a,_⟩ _ _ rfl;cases a<;>exact DV rfl
     |blank _ hX=>cases X<;>first|exact DV rfl|(cases hX;done)
     |_=>exact DV rfl
    |blank _ hV=>cases V<;>first|exact DV rfl|(cases hV;done)|(cases hx<;>exact DV rfl)
    |_=>first|exact DV rfl|(cases hx<;>exact DV rfl)
   |array len e =>
    cases hv with
    |agg h1 h2 =>
     cases hx with
     |agg h3 h4 =>
      rename_i a A b B;have ha:D6 S aA a A:=⟨h1,h2⟩;have hb:D6 S aA b B:=⟨h3,h4⟩;refine DT (aC _) ?_;rintro aL m _ aG rfl;refine DT (R:=λ_ a A=>a=A) ?_ ?_
      .simp only[cA];refine eW _ _ _ λf hf s aB a6=>?_;refine DT (cz _ ((ha.LT aG).LT a6) _) ?_;intro aH p1 P1 a7 Ji;refine DT (cz _ (((hb.LT aG).LT a6).LT a7) _) ?_;intro aD p2 P2 a8 aF;refine DT (dg n k aD h (Ji.LT a8) aF) ?_;rintro aI r _ _ rfl;cases r<;>exact DV rfl
      .rintro aB ⟨a,_⟩ _ _ rfl;cases a<;>exact DV rfl
     |blank _ hX=>cases X<;>first|exact DV rfl|(cases hX;done)
     |_=>exact DV rfl
    |blank _ hV=>cases V<;>first|exact DV rfl|(cases hV;done)|(cases hx<;>exact DV rfl)
    |_=>first|exact DV rfl|(cases hx<;>exact DV rfl)
   |slice e=>exact DV rfl
   |_=>cases h
def nL (n k:Nat){t:bD}(h:cm P.a k t=Z){v V x X:bk}(hv:DX S β v V)(hx:DX S β x X)(hu:v=hole\/x=hole):zO P (eb (n+1) t v x):=by
 intro w es;have hr:∀d,P.a.LT t=bW d->(underlying t).L P.a w es=(.ok d w,es):=λd e=>by
  unfold underlying;rw[aj];show(match(P.a.LT t) with|some d=>pure d|none=>stuck _:Sem TypeDesc).L P.a w es=_;rw[e];rfl
 cases k with
 |zero=>cases h
 |succ k =>
  unfold eb;rw[aj];unfold cm at h;by_cases hc:Hi P.a t=Z
  .rcases Im hc with⟨k,e⟩|e|e<;>rw[hr _ e]<;>obtain rfl|rfl:=hu
   .cases hx<;>first|exact .inl ⟨_,_,_,rfl⟩|exact .inr ⟨.L,_,_,rfl,by intro g e;cases e⟩
   .cases hv<;>first|exact .inl ⟨_,_,_,rfl⟩|exact .inr ⟨.L,_,_,rfl,by intro g e;cases e⟩
   .cases hx<;>first|exact .inl ⟨_,_,_,rfl⟩|exact .inr ⟨.L,_,_,rfl,by intro g e;cases e⟩
   .cases hv<;>first|exact .inl ⟨_,_,_,rfl⟩|exact .inr ⟨.L,_,_,rfl,by intro g e;cases e⟩
   .cases hx<;>first|exact .inl ⟨_,_,_,rfl⟩|exact .inr ⟨.L,_,_,rfl,by intro g e;cases e⟩
   .cases hv<;>first|exact .inl ⟨_,_,_,rfl⟩|exact .inr ⟨.L,_,_,rfl,by intro g e;cases e⟩
  .rw[dS.2 hc,er] at h;cases hd:P.a.LT t with
   |none=>rw[hd] at h;cases h
   |some d =>
    rw[hd] at h;rw[hr _ hd];cases d with
    |struct fs =>
     obtain rfl|rfl:=hu
     .cases hx<;>exact .inl ⟨_,_,_,rfl⟩
     .cases hv<;>exact .inl ⟨_,_,_,rfl⟩
    |array l e =>
     obtain rfl|rfl:=hu
     .cases hx<;>exact .inl ⟨_,_,_,rfl⟩
     .cases hv<;>exact .inl ⟨_,_,_,rfl⟩
    |slice e =>
     obtain rfl|rfl:=hu
     .cases hx<;>exact .inl ⟨_,_,_,rfl⟩
     .cases hv<;>exact .inl ⟨_,_,_,rfl⟩
    |_=>cases h
def pH {op:fW}(ho:op=.eql\/op=.neq){k:Nat}{t:bD}(h:cm P.a k t=Z){xo yo:cf}{v V x X:bk}(hv:DX S β v V)(hx:DX S β x X)(hu:v=hole\/x=hole):zO P (do eqGuard op t xo yo v x;binOp op t v x):=by
 have z1:eqGuard op t xo yo v x=pure ():=by
  unfold eqGuard;rcases ho with rfl|rfl<;>(rw[AE (by simp)];rcases hu with rfl|rfl<;>first|(cases x<;>rfl)|(cases v<;>rfl))
 have z2:(do eqGuard op t xo yo v x;binOp op t v x)=binOp op t v x:=by rw[z1];rfl
 rw[z2];have h1:=binOp_eql (t:=t) (V:=v) (X:=x) (λk a k' b e1 e2=>by subst e1 e2;rcases hu with h|h<;>cases h) (λk a k' b e1 e2=>by subst e1 e2;rcases hu with h|h<;>cases h) (λk a b k' c d e1 e2=>by subst e1 e2;rcases hu with h|h<;>cases h) (λa b e1 e2=>by subst e1 e2;rcases hu with h|h<;>cases h);have hd:zO P (Op.equal t v x):=nL 9999 k h hv hx hu;obtain rfl|rfl:=ho
 .rw[h1.1];exact hd.bind _
 .rw[h1.2];exact hd.bind _
def nM (op:fW){k:Nat}{t:bD}(h:cm P.a k t=Z)(xo yo:cf){v V x X:bk}(hv:DX S β v V)(hx:DX S β x X)(hu:¬(v=hole\/x=hole)):D8 P S Ck G β (eqGuard op t xo yo v x) (eqGuard op t xo yo V X) (λ_ _ _=>True):=by
  have fin:∀(DZ:Ef),β.le DZ->D8 P S Ck G DZ (do if<-bA ck t v x then cu (.noEntry "binop/eql: two nil values of an interface type with methods, in a part of a struct or an array"):Sem Unit) (do if<-bA ck t V X then cu (.noEntry "binop/eql: two nil values of an interface type with methods, in a part of a struct or an array")) (λ_ _ _=>True):=by
    intro DZ zX;refine DT (dg _ k DZ h (hv.LT zX) (hx.LT zX)) ?_;rintro a6 a _ _ rfl;cases a with
    |true=>exact D7 (by intro g e;cases e)
    |false=>exact DV trivial
  have a7:D8 P S Ck G β (do if<-bA ck t v x then cu (.noEntry "binop/eql: two nil values of an interface type with methods, neither of them the literal nil"):Sem Unit) (do if<-bA ck t V X then cu (.noEntry "binop/eql: two nil values of an interface type with methods, neither of them the literal nil")) (λ_ _ _=>True):=by
    refine DT (dg _ k β h hv hx) ?_;rintro a6 a _ _ rfl;cases a with
    |true=>exact D7 (by intro g e;cases e)
    |false=>exact DV trivial
  have key : D8 P S Ck G β (match v, x with
      |.nilIface,.nilIface=>do
        if(xo matches .const _)||(yo matches .const _) then return
        if<-bA ck t v x then cu (.noEntry "binop/eql: two nil values of an interface type with methods, neither of them the literal nil")
      |.agg _,.agg _=>do
        if !(<-program).LE (<-program).depth t then return
        if<-bA ck t v x then cu (.noEntry "binop/eql: two nil values of an interface type with methods, in a part of a struct or an array")
      |_,_=>(pure ():Sem Unit)) (match V,X with
      |.nilIface,.nilIface=>do
        if(xo matches .const _)||(yo matches .const _) then return
        if<-bA ck t V X then cu (.noEntry "binop/eql: two nil values of an interface type with methods, neither of them the literal nil")
      |.agg _,.agg _=>do
        if !(<-program).LE (<-program).depth t then return
        if<-bA ck t V X then cu (.noEntry "binop/eql: two nil values of an interface type with methods, in a part of a struct or an array")
      |_,_=>(pure ():Sem Unit)) (λ_ _ _=>True):=by
    cases hv with
    |nilIface=>cases hx with
      |nilIface=>cases xo<;>cases yo<;>first|exact DV trivial|exact a7
      |blank _ _=>exact AH (.inr rfl) hu
      |_=>exact DV trivial
    |agg h1 h2=>cases hx with
      |agg h3 h4 =>
        dsimp only;refine DT aN ?_;rintro a6 p p' a8 ⟨hp,aB⟩;subst p p';refine DT aN ?_;rintro aC p p' aA ⟨hp,aB⟩;subst p p';rw[show P.b.depth=P.a.depth from rfl,Er.LE];by_cases hb:(!P.a.LE P.a.depth t)=Z
        · simp only[AJ hb]
          exact DV trivial
        · simp only[AE hb]
          exact fin aC (Ef.le_trans a8 aA)
      |blank _ _=>exact AH (.inr rfl) hu
      |_=>exact DV trivial
    |blank _ _=>exact AH (.inl rfl) hu
    |_=>first|exact DV trivial|(cases hx<;>exact DV trivial)
  unfold eqGuard;cases op<;>first
    |exact DV trivial
    | (rw [AE (by simp)]
       exact key)
def q8 (hG:P.a.globals.size<=G){op:fW}(ho:op=.eql\/op=.neq){k:Nat}{t:bD}(h:cm P.a k t=Z){v V x X:bk}(hv:DX S β v V)(hx:DX S β x X)(hu:¬(v=hole\/x=hole)):D8 P S Ck G β (binOp op t v x) (binOp op t V X) (λDZ a A=>DX S DZ a A):=by
 by_cases hi:∃k a k' b,v=.int k a/\x=.int k' b
 .obtain⟨k1,a,k2,b,rfl,rfl⟩:=hi;cases hv;cases hx;exact I7 op t _ _ _ _
 .by_cases hs:∃a b,v=.string a/\x=.string b
  .obtain⟨a,b,rfl,rfl⟩:=hs;cases hv;cases hx;have e:∀x y,binOp op t (.string x) (.string y)=Op.stringOp op x y:=λx y=>by cases op<;>rfl
   rw[e];exact fC _ _ _
  .have h1:=binOp_eql (t:=t) (V:=v) (X:=x) (λk a k' b e1 e2=>hi ⟨k,a,k',b,e1,e2⟩) (λk a k' b e1 e2=>by subst e1;cases hv) (λk a b k' c d e1 e2=>by subst e1;cases hv) (λa b e1 e2=>hs ⟨a,b,e1,e2⟩);have h2:=binOp_eql (t:=t) (V:=V) (X:=X) (λk a k' b e1 e2=>by subst e1 e2;cases hv<;>first|exact hu (.inl rfl)|(cases hx<;>first|exact hu (.inr rfl)|exact hi ⟨_,_,_,_,rfl,rfl⟩)) (λk a k' b e1 e2=>by subst e1;cases hv;exact hu (.inl rfl)) (λk a b k' c d e1 e2=>by subst e1;cases hv;exact hu (.inl rfl)) (λa b e1 e2=>by subst e1 e2;cases hv<;>first|exact hu (.inl rfl)|(cases hx<;>first|exact hu (.inr rfl)|exact hs ⟨_,_,rfl,rfl⟩))
   obtain rfl|rfl:=ho
   .rw[h1.1,h2.1];exact DT (fD hG _ k β h hv hx) (by rintro a6 b _ _ rfl;exact DV (.bool _))
   .rw[h1.2,h2.2];exact DT (fD hG _ k β h hv hx) (by rintro a6 b _ _ rfl;exact DV (.bool _))
end
def oD (w:bb):w.sys .env=(.strings w.os.env,w):=by
 unfold World.sys;have:Kernel.perform .env w.os=.done (.strings w.os.env,w.os):=by
  unfold Kernel.perform
  rfl
 rw[this]
 rfl
section
variable {P:Er} {S:Fu} {Ck:cU->Prop} {G:Nat} {β:Ef}
def xV:D8 P S Ck G β (sys .env) (sys .env) (λ_ a A=>a=A/\∃l,a=.strings l):=by
 intro w W n hw ht a6 a7 _;have e1:(sys .env).L P.a w a6=(.ok (.strings w.os.env) w,a6.push ⟨.output,Z,J⟩):=by
  show(Sem.sys .env .pure).L P.a w a6=_;simp only[Sem.runT,oD]
 have e2:(sys .env).L P.b W a7=(.ok (.strings W.os.env) W,a7.push ⟨.output,Z,J⟩):=by
  show(Sem.sys .env .pure).L P.b W a7=_;simp only[Sem.runT,oD]
 rw[e1,e2];exact⟨β,.strings W.os.env,W,[⟨.output,Z,J⟩],by simp,⟨by rw[hw.env],_,rfl⟩,{ Fin.refl hw with evs:=λ_ E hE=>by cases Cg.1 hE;exact .out }⟩
def nN {α Hh:Type}{R:Ef->α->Hh->Prop}:D8 P S Ck G β (runtimePanic .panicNil:Sem α) (runtimePanic .panicNil:Sem Hh) R:=by
 refine DT aN ?_;rintro a6 p p' _ ⟨rfl,rfl⟩;dsimp only;refine DT (R:=λ_ a A=>a=A) ?_ ?_
 .show D8 P S Ck G a6 (elemOf P.a.rt.panicNilError) (elemOf P.a.rt.panicNilError) _;unfold elemOf;refine DT (ai _) ?_;rintro a7 d _ _ ⟨rfl,_⟩;cases d with
  |pointer e=>exact DV rfl
  |_=>exact D4
 .rintro a7 e _ _ rfl;refine DT (gO e (.agg rfl (by simp))) ?_;rintro a8 ⟨b,o,s⟩ ⟨B,o',s'⟩ _ ⟨h1,h2,h3⟩;cases h2;cases h3;exact dj (.iface _ (.ptr _ _ h1))
def pI {v V:bk}(hv:DX S β v V):D8 P S Ck G β (e8 v) (e8 V) (λDZ a A=>DX S DZ a A):=by
 cases hv with
 |iface t r=>exact dj (.iface t r)
 |nilIface =>
  unfold e8 Instr.panicnil;refine DT (R:=λ_ a A=>a=A) ?_ ?_
  .refine DT xV ?_;rintro a6 a _ _ ⟨rfl,l,rfl⟩;dsimp only;refine DT aN ?_;rintro a7 p p' _ ⟨rfl,rfl⟩;exact DV rfl
  .rintro a6 a _ _ rfl;split
   .exact dj .nilIface
   .exact nN
 |_=>exact D4
end
section
variable {P:Er} {S:Fu} {Ck:cU->Prop} {G:Nat} {β:Ef}
def mn {β:Ef}{v V:bk}(h:DX S β v V)(b:Bool):DX S β (.tuple #[v,.bool b]) (.tuple #[V,.bool b]):=.tuple rfl λi x X h1 h2=>by
 match i,h1,h2 with
 |0,h1,h2=>cases h1;cases h2;exact h
 |1,h1,h2=>cases h1;cases h2;exact .bool b
 |n+2,h1,h2=>cases h1
def ra {v V:bk}(h:DX S β v V)(xt t:bD)(hz:bF P.a t=Z)(hi:∀x,P.a.LT t≠bW (.interface x)):D8 P S Ck G β (eH v xt t Z) (eH V xt t Z) (λDZ v V=>DX S DZ v V):=by
 refine DT (ai t) ?_;rintro a6 d _ zX ⟨rfl,hd⟩;have h:=h.LT zX;have no:D8 P S Ck G a6 (do pure (.tuple #[<-zeroValue t,.bool J])) (do pure (.tuple #[<-zeroValue t,.bool J])) (λDZ v V=>DX S DZ v V):=by
  refine DT (bV hz) ?_;rintro a7 z _ _ ⟨rfl,hz⟩;exact DV (mn hz J)
 cases d with
 |interface x=>exact AH hd (hi x)
 |_ =>
  cases h with
  |nilIface=>exact no
  |iface u r =>
   dsimp only;split
   .exact DV (mn r Z)
   .exact no
  |_=>exact D4
def vI (ts:Array bD)(t:bD){a A:Array bk}(h:D6 S β a A):D8 P S Ck G β (ew ts t a) (ew ts t A) (λDZ v V=>DX S DZ v V):=by
 unfold ew;cases ht:ts[0]? with
 |none=>exact D4
 |some dt =>
 cases h0:a[0]? with
 |none=>exact D4
 |some dst =>
 cases h1:a[1]? with
 |none=>exact D4
 |some src =>
 obtain⟨D,e0,r0⟩:=h.get? h0;obtain⟨C,e1,r1⟩:=h.get? h1;rw[e0,e1];dsimp only;refine DT (ai dt) ?_;rintro a8 d _ zX ⟨rfl,_⟩;cases d with
 |slice e =>
  have r0:=r0.LT zX;have r1:=r1.LT zX
  have key : ∀ {b B : Option Addr} (l : Nat), (IH a8 b B ∨ l = 0) -> D8 P S Ck G a8 (do
    let n:=Nat.min (<-fo src) l
    let cells<-eA (<-sizeOf e) n src
    if let bW a:=b then storeCells a cells.toList
    pure (goInt n)) (do
    let n:=Nat.min (<-fo C) l
    let cells<-eA (<-sizeOf e) n C
    if let bW a:=B then storeCells a cells.toList
    pure (goInt n)) (λDZ v V=>DX S DZ v V):=by
   intro b B l hl;refine DT (mh r1) ?_;rintro aD n _ a6 ⟨rfl,hn⟩;refine DT (aC e) ?_;rintro aF z _ a7 rfl;have r1:=(r1.LT a6).LT a7;by_cases h0:l=0
   .subst h0;rw[show Nat.min n 0=0 from Nat.min_zero n];refine DT (fM z r1) ?_;rintro aB _ _ _ ⟨rfl,rfl⟩;cases b<;>cases B<;>exact DV (.int _ _)
   .have hl:=hl.resolve_right h0;refine DT (dc z _ r1 λx hx=>by rw[hn x hx];exact Nat.zero_min l) ?_;intro aB c C aA hc;cases hl with
    |none=>exact DV (.int _ _)
    |some r =>
     refine DT (eu (((r.LT a6).LT a7).LT aA) hc.toList 0) ?_;intro aG _ _ _ _;exact DV (.int _ _)
  cases r0 with
  |GA l c=>exact key l (.inl .none)
  |slice o s l c hb=>exact key l (.inl (.some (EY.mk (a:=⟨_,o,s⟩) (A:=⟨_,o,s⟩) hb rfl rfl)))
  |@E8 a A _=>exact key (b:=bW a) (B:=bW A) 0 (.inr rfl)
  |_=>exact D4
 |_=>exact D4
end
structure Ks (P:Er)(S:Fu)(Ck:cU->Prop)(G:Nat):Prop where
 big:P.a.info? big=bs
 call:∀f,S.fn f->∀(β:Ef) (a A:Array bk),D6 S β a A->D8 P S Ck G β (fc f a) (fc f A) (H9 S Ck)
section
variable {P:Er} {S:Fu} {Ck:cU->Prop} {G:Nat} {β:Ef}
def bS {f:N} {fn:Func} (hf:P.a.L[f]?=bW fn) {G2:Func} (hf':P.fs[f]?=bW G2) (hn:fn.name ≠ "runtime.NumGoroutine") (a6:G2.name ≠ "runtime.NumGoroutine") (hb:fn.body.isSome) (hb':G2.body.isSome) (hS:S.fn f) {a A:Array bk} (h:D6 S β a A) :
  D8 P S Ck G β (fc f a) (fc f A) (H9 S Ck):=by
 refine DT aN ?_;rintro a7 p p' zX ⟨hp,a8⟩;subst p p';rw[hf,show P.b.L[f]?=bW G2 from hf'];have h1:fn.body.L=false:=by cases hx:fn.body with
  |none=>rw[hx] at hb;cases hb
  |some _=>rfl
 have h2:G2.body.L=false:=by cases hx:G2.body with
  |none=>rw[hx] at hb';cases hb'
  |some _=>rfl
 simp only[beq_iff_eq,hn,a6,if_false,h1,h2,Ba];exact DV (.enter hS (h.LT zX))
def re:∀ {l:List Tmp} {m M:List bk} {x X:Array bk},E3 (DX S β) m M->D6 S β x X ->
  D6 S β ((l.zip m).foldl (λtmps (p:Tmp×bk)=>tmps.L p.1 p.2) x) ((l.zip M).foldl (λtmps (p:Tmp×bk)=>tmps.L p.1 p.2) X)
 |[],_,_,_,_,_,hx=>by simpa using hx
 |t::l,_,_,_,_,h,hx=>by
  cases h with
  |nil=>simpa using hx
  |cons hv hr =>
   simp only[List.zip_cons_cons,Bg];exact re hr (hx.SS _ hv)
def dF {l L:Nat}(h:β l L)(hh:S.LT l=J):D8 P S Ck G β (fq l) (fq L) (λDZ r R=>r.state=R.state/\r.pending=R.pending/\(S.fr r.fn/\∀c,r.pending=bW c->Ck c)/\r.fn=R.fn/\D6 S DZ r.tmps R.tmps/\r.params=R.params/\r.assign=R.assign/\r.body=R.body/\Ck r.assign/\Ck r.body/\DZ r.defers R.defers/\S.LT r.defers=J):=by
 refine DT (fw h hh) ?_;intro a6 o O _ ho;cases ho with
 |loop hp ha hb hx hd hk=>exact DV ⟨rfl,rfl,hp,rfl,hx,rfl,rfl,rfl,ha,hb,hd,hk⟩
 |_=>exact λ_ _ _ _ _ _ _ _=>trivial
def tA {l L:Nat}(h:β l L)(hh:S.LT l=J){a A:Array bk}(ha:D6 S β a A):D8 P S Ck G β (gg l a) (gg L A) (H9 S Ck):=by
 refine DT (dF h hh) ?_;rintro a6 ⟨st,pe,fn,x,ps,Az,bo,d⟩ ⟨Jj,pe',G2,X,ps',as',bo',D⟩ zX ⟨h1,h2,h3,h4,h5,h6,h7,h8,h9,h10,h11,a7⟩;cases h1;cases h2;cases h4;cases h6;cases h7;cases h8;dsimp only at *;rw[ha.size];split
 .exact λ_ _ _ _ _ _ _ _=>trivial
 .refine DV (.round (zX _ _ h) ⟨hh,h3.1⟩ ?_ h9 h10);have:=re (l:=ps.toList) (ha.LT zX).toList h5;rw[<-C7,<-C7];simpa using this
def kU (P:bh)(ts:Array bD)(b:Builtin):Prop:=match b with
 |.append=>(∀e s,ts[0]?=bW s->P.LT s=bW (.slice e)->bF P e=Z)/\(∀x k,ts[1]?=bW x->P.LT x≠bW (.int k))
 |.len|.cap=>∀t e d,ts[0]?=bW t->P.LT t≠bW (.chan e d)
 |.min|.max|.copy=>True
 |_=>False
def pJ (b:Builtin)(ts:Array bD)(t:bD)(cs:Array Bool)
  (hb:kU P.a ts b) {a A:Array bk} (h:D6 S β a A):D8 P S Ck G β (builtin b ts t cs a) (builtin b ts t cs A) (H9 S Ck):=by
 have v:∀ {m M:Sem bk},D8 P S Ck G β m M (λDZ a A=>DX S DZ a A)->D8 P S Ck G β (do pure (.value (<-m)):Sem fl) (do pure (.value (<-M))) (H9 S Ck):=by
  intro m M hm;refine DT hm ?_;intro a6 x X _ hx;exact DV (.value hx)
 cases b with
 |append=>exact v (qW ts t hb.1 hb.2 h)
 |len=>exact v (xQ ts t hb h)
 |cap=>exact v (xR ts t hb h)
 |min=>exact v (xT ts t h)
 |max=>exact v (xU ts t h)
 |copy=>exact v (vI ts t h)
 |_=>exact hb.elim
def kW (hb:P.a.info? big=bs):zO P (typeInfo big):=λw es=>by
 have e2:program.L P.a w es=(.ok P.a w,es):=rfl;refine .inl ⟨?_,w,es,?_⟩
 rotate_left
 .unfold typeInfo;rw[aj,e2];dsimp only;rw[hb]
  rfl
def zO.prog {γ:Type}{k:bh->Sem γ}(h:zO P (k P.a)):zO P (program >>= k):=λw es=>by
 rw[aj];exact h w es
def nO (hb:P.a.info? big=bs)(n:Nat)(v:bk)(s:String):zO P (method n big v s):=by
 cases n with
 |zero=>exact λw es=>.inr ⟨_,_,_,rfl,by intro g e;cases e⟩
 |succ n=>exact(kW hb).bind _
def lM (hb:P.a.info? big=bs)(n:Nat)(v:bk)(s:String){γ:Type}(k:Option Bool->Sem γ)(hk:∃u,k bs=cu u/\∀g,u≠.initOrder g):zO P (gl n big v s >>= k):=by
 cases n with
 |zero =>
  obtain⟨u,h1,h2⟩:=hk;intro w es;rw[aj];have e:(gl 0 big v s).L P.a w es=(.ok bs w,es):=rfl;rw[e];dsimp only;rw[h1];exact .inr ⟨u,w,es,rfl,h2⟩
 |succ n=>exact((kW hb).bind _).bind k
def iW (hb:P.a.info? big=bs)(a:Array bk):zO P (invoke (hd a).target (hd a).args):=by
 unfold hd invoke;have e:(#[Value.iface big undef]++a)[0]?=bW (.iface big undef):=by rw[Array.getElem?_append_left (by decide)];rfl
 dsimp only;rw[e];unfold callMethod;dsimp only;exact zO.prog ((nO hb _ _ _).bind _)
def gY (hS:Ks P S Ck G){d D:cq}(h:Fx S β d D):D8 P S Ck G β (invoke d.target d.args) (invoke D.target D.args) (H9 S Ck):=by
 cases h with
 |fn hf hc ha=>cases hf with
  |func hs=>exact hS.call _ hs β _ _ (ha.append hc)
  |yield hl hk=>exact tA hl hk ha
 |nil ha=>exact aq .nilDeref trivial
 |collected h _=>exact D4
 |EN a A h1 h2 h3=>subst h2;exact Gi (iW hS.big a)
def gf {f F:bk}(hf:DX S β f F){a A:Array bk}(ha:D6 S β a A):D8 P S Ck G β (Deferred.ofValue f a) (Deferred.ofValue F A) (λDZ d D=>Fx S DZ d D):=by
 cases hf with
 |func hf h1 a1 h2 a2=>exact DV (.fn hf ⟨h2,a2⟩ (D6.append ⟨h1,a1⟩ ha))
 |nilFunc=>exact DV (.nil ha)
 |@EN n x c h=>exact DV (.EN a A ha rfl (h.imp (λh=>by cases h;rfl) λh=>⟨h,n,c,x,rfl⟩))
 |_=>exact D4
def ah (SB:N->Bool):cf->Bool
 |.tmp _=>Z
 |.const v=>plain 8 v
 |.global _=>J
 |.func f=>SB f
def MR (SB:N->Bool):Option cf->Bool
 |some x=>ah SB x
 |none=>Z
def bG (P:bh)(SB:N->Bool)(c:Call):Bool:=c.args.all (ah SB)&&match c.L with
 |.value f=>ah SB f
 |.invoke ..=>J
 |.builtin .append =>
  (match c.argTypes[0]? with
   |some s=>match P.LT s with
    |some (.slice e)=>bF P e
    |_=>Z
   |none=>Z) &&
  (match c.argTypes[1]? with
   |some x=>match P.LT x with
    |some (.int _)=>J
    |_=>Z
   |none=>Z)
 |.builtin b=>b==.min||b==.max||b==.copy||((b==.len||b==.cap)&&match c.argTypes[0]? with
  |some t=>match P.LT t with
   |some (.chan _ _)=>J
   |_=>Z
  |none=>Z)
def isEq:fW->Bool
 |.eql|.neq=>Z
 |_=>J
def fE (P:bh)(t:bD):Bool:=match P.LT t with
 |some (.slice e)=>bF P e
 |_=>Z
def QD (P:bh)(t:bD):Bool:=bF P t&&match P.LT t with
 |some (.interface _)=>J
 |_=>Z
def Nh (P:bh)(SB:N->Bool)(o:gU):Bool:=match o.op with
 |.move x|.assign x=>ah SB x
 |.pick c a b=>ah SB c&&ah SB a&&ah SB b
 |.Li t=>bF P t
 |.box _ x=>ah SB x
 |.build t ps=>bF P t&&ps.all (λp=>ah SB p.2)
 |.buildSlice t _ ps=>fE P t&&ps.all (λp=>ah SB p.2)
 |.load _ a=>ah SB a
 |.store _ a v=>ah SB a&&ah SB v
 |.nilCheck x=>ah SB x&&(P.info? big).L
 |.binOp op t x y _=>(Hi P t||(isEq op&&cm P 12 t))&&ah SB x&&ah SB y
 |.makeInterface _ x|.panic x=>ah SB x
 |.unOp _ _ x=>ah SB x
 |.convert s d x=>gW P s d&&ah SB x
 |.makeFunc fn fs cs=>(match fn with|.func f=>SB f|_=>J)&&fs.all (ah SB)&&cs.all (ah SB)
 |.makeSlice t l c=>fE P t&&ah SB l&&ah SB c
 |.slice _ x l h m=>ah SB x&&MR SB l&&MR SB h&&MR SB m
 |.fieldAddr s x i=>kv P s i&&ah SB x
 |.field _ x _=>ah SB x
 |.indexAddr _ x i=>ah SB x&&ah SB i
 |.index _ x i=>ah SB x&&ah SB i
 |.extract x _=>ah SB x
 |.typeAssert x _ t c=>c&&QD P t&&ah SB x
 |.call c|.defer c=>bG P SB c
 |_=>J
end
section
variable {P:Er} {SB:N->Bool} {H:Hid} {Ck:cU->Prop} {G:Nat} {β:Ef}
def aK (SB:N->Bool)(f:N):Bool:=f==124&&(SB 123&&!SB 124)
abbrev SP (SB:N->Bool)(H:Hid):Fu:=⟨λf=>SB f=Z\/aK SB f=Z,H,λf=>SB f=Z⟩
def dG {ρ Ρ:cf->bk}(a6:∀x,ah SB x=Z->DX (SP SB H) β (ρ x) (Ρ x)){l:Array cf}(h:l.all (ah SB)=Z):D6 (SP SB H) β (l.map ρ) (l.map Ρ):=by
 simp only[Bb] at h;exact D6.map l λx hx=>a6 x (h x hx)
def kX {ρ Ρ:cf->bk}(a6:∀x,ah SB x=Z->DX (SP SB H) β (ρ x) (Ρ x)){ps:Array (Nat×cf)}(h:ps.all (λp=>ah SB p.2)=Z) :
  F0 (SP SB H) β (ps.map λ(i,x)=>(i,ρ x)).toList (ps.map λ(i,x)=>(i,Ρ x)).toList:=by
 simp only[Bb] at h;rw[CV,CV];have:∀l:List (Nat×cf),(∀p∈l,ah SB p.2=Z)->F0 (SP SB H) β (l.map λ(i,x)=>(i,ρ x)) (l.map λ(i,x)=>(i,Ρ x)):=by
  intro l
  induction l with
  |nil=>intro _;exact .nil
  |cons p l ih=>intro hl;exact .cons (a6 _ (hl p (by simp))) (ih λq hq=>hl q (by simp[hq]))
 exact this _ λp hp=>h p (by simpa using hp)
def kw {ρ Ρ:cf->bk}(a6:∀x,ah SB x=Z->DX (SP SB H) β (ρ x) (Ρ x)){o:Option cf}(h:MR SB o=Z):GF (SP SB H) β (o.map ρ) (o.map Ρ):=by
 cases o with
 |none=>exact .none
 |some x=>exact .some (a6 x h)
def gZ {t:bD}(h:fE P.a t=Z):∀e,P.a.LT t=bW (.slice e)->bF P.a e=true:=by
 intro e he;unfold fE at h;rw[he] at h;exact h
def pK {c:Call}(h:bG P.a SB c=Z){b:Builtin}(hc:c.L=.builtin b):kU P.a c.argTypes b:=by
 unfold bG at h;rw[hc] at h;simp only[AO] at h;obtain⟨_,h⟩:=h;cases b with
 |append =>
  simp only[AO] at h;obtain⟨h1,h2⟩:=h;refine⟨λe s he hs=>?_,λx k hx hk=>?_⟩
  .rw[he] at h1;simp only[hs] at h1;exact h1
  .rw[hx] at h2;simp only[hk] at h2;exact AH h2 (by decide)
 |len|cap =>
  intro t e d ht hd;rw[ht] at h;simp only[hd] at h;exact AH h (by decide)
 |min|max|copy=>trivial
 |_=>exfalso;revert h;cases c.argTypes[0]?<;>simp<;>intro h<;>revert h<;>decide
def jg (hS:Ks P (SP SB H) Ck G){ρ Ρ:cf->bk}(a6:∀x,ah SB x=Z->DX (SP SB H) β (ρ x) (Ρ x)){c:Call}(t:bD)(h:bG P.a SB c=Z) :
  D8 P (SP SB H) Ck G β (do let d<-resolve ρ c t;invoke d.target d.args) (do let d<-resolve Ρ c t;invoke d.target d.args) (H9 (SP SB H) Ck):=by
 have ha:D6 (SP SB H) β (c.args.map ρ) (c.args.map Ρ):=dG a6 (by unfold bG at h;simp only[AO] at h;exact h.1);unfold resolve;cases hc:c.L with
 |value f =>
  have hf:ah SB f=true:=by unfold bG at h;rw[hc] at h;simp only[AO] at h;exact h.2
  dsimp only;refine DT (gf (a6 f hf) ha) ?_;intro a7 d D _ hd;exact gY hS hd
 |invoke r m=>unfold bG at h;rw[hc] at h;simp at h
 |builtin b =>
  have hb:=pK h hc;dsimp only;refine DT (R:=λDZ (d D:cq)=>β.le DZ/\d=⟨.builtin b c.argTypes t (c.args.map λ|.const _=>Z|_=>J),c.args.map ρ⟩/\D=⟨.builtin b c.argTypes t (c.args.map λ|.const _=>Z|_=>J),c.args.map Ρ⟩) (DV ⟨β.le_refl,rfl,rfl⟩) ?_;rintro a7 d D zX ⟨_,rfl,rfl⟩;exact pJ b _ _ _ hb (ha.LT zX)
def pL {ρ Ρ:cf->bk}(a6:∀x,ah SB x=Z->DX (SP SB H) β (ρ x) (Ρ x)){c:Call}(t:bD)(h:bG P.a SB c=Z)(hb:∀b,c.L≠.builtin b) :
  D8 P (SP SB H) Ck G β (resolve ρ c t) (resolve Ρ c t) (λDZ d D=>Fx (SP SB H) DZ d D):=by
 have ha:D6 (SP SB H) β (c.args.map ρ) (c.args.map Ρ):=dG a6 (by unfold bG at h;simp only[AO] at h;exact h.1);unfold resolve;cases hc:c.L with
 |value f =>
  have hf:ah SB f=true:=by unfold bG at h;rw[hc] at h;simp only[AO] at h;exact h.2
  exact gf (a6 f hf) ha
 |invoke r m=>unfold bG at h;rw[hc] at h;simp at h
 |builtin b=>exact AH hc (hb b)
def dH (P:bh)(SB:N->Bool)(o:gU):Bool:=Nh P SB o&&match o.op with
 |.defer c=>match c.L with
  |.builtin _=>J
  |_=>Z
 |_=>Z
def rf (hG:P.a.globals.size<=G)(hS:Ks P (SP SB H) Ck G){ρ Ρ:cf->bk}(a6:∀x,ah SB x=Z->DX (SP SB H) β (ρ x) (Ρ x)){o:gU}(h:dH P.a SB o=Z) :
  D8 P (SP SB H) Ck G β (hP ρ o) (hP Ρ o) (H9 (SP SB H) Ck):=by
 have v:∀ {m M:Sem bk},D8 P (SP SB H) Ck G β m M (λDZ a A=>DX (SP SB H) DZ a A)->D8 P (SP SB H) Ck G β (do pure (.value (<-m)):Sem fl) (do pure (.value (<-M))) (H9 (SP SB H) Ck):=by
  intro m M hm;refine DT hm ?_;intro a7 x X _ hx;exact DV (.value hx)
 have u:∀ {m M:Sem Unit},D8 P (SP SB H) Ck G β m M (λ_ _ _=>True)->D8 P (SP SB H) Ck G β (do m;pure .skip:Sem fl) (do M;pure .skip) (H9 (SP SB H) Ck):=by
  intro m M hm;refine DT hm ?_;intro a7 x X _ _;exact DV .skip
 unfold dH Nh at h;unfold hP;cases ho:o.op with
 |move x=>rw[ho] at h;simp at h;exact DV (.value (a6 x h))
 |assign x=>rw[ho] at h;simp at h;exact DV (.value (a6 x h))
 |pick c a b =>
  rw[ho] at h;simp at h;refine DT (gL (a6 c h.1.1)) ?_;rintro a7 t _ zX rfl;refine DV (.value ?_);split
  .exact(a6 a h.1.2).LT zX
  .exact(a6 b h.2).LT zX
 |alloc t=>rw[ho] at h;simp at h;exact v (tu t h)
 |box t x=>rw[ho] at h;simp at h;exact v (xS t (a6 x h))
 |build t ps=>rw[ho] at h;simp only[AO,and_true] at h;exact v (tt t h.1 (kX a6 h.2))
 |buildSlice t n ps=>rw[ho] at h;simp only[AO,and_true] at h;exact v (lL t n (gZ h.1) (kX a6 h.2))
 |load t a=>rw[ho] at h;simp at h;exact v (qX t (a6 a h))
 |store t a x=>rw[ho] at h;simp at h;exact u (pD t (a6 a h.1) (a6 x h.2))
 |nilCheck x =>
  rw[ho] at h;simp at h;have hx:=a6 x h.1;dsimp only;revert hx;generalize ρ x=v;generalize Ρ x=V;intro hx;cases hx with
  |He=>exact aq .nilDeref trivial
  |nilIface=>exact aq .nilDeref trivial
  |nilFunc=>exact aq .nilDeref trivial
  |func hf h1 a1 h2 a2=>cases hf with
   |func hs=>exact DV (.value (.func (.func hs) h1 a1 h2 a2))
   |yield hl hk=>exact DV (.value (.func (.yield hl hk) h1 a1 h2 a2))
  |bool b=>exact DV (.value (.bool b))
  |int k n=>exact DV (.value (.int k n))
  |string s=>exact DV (.value (.string s))
  |ptr o s hb=>exact DV (.value (.ptr o s hb))
  |GA l c=>exact DV (.value (.GA l c))
  |slice o s l c hb=>exact DV (.value (.slice o s l c hb))
  |E8 h1=>exact DV (.value (.E8 h1))
  |GZ=>exact DV (.value .GZ)
  |Gt=>exact DV (.value .Gt)
  |iface t r=>exact DV (.value (.iface t r))
  |agg h1 a1=>exact DV (.value (.agg h1 a1))
  |tuple h1 a1=>exact DV (.value (.tuple h1 a1))
  |blank h1 h2 =>
   cases V with
   |pointer a=>cases a with
    |none=>cases h2
    |some a=>exact DV (.value (.blank h1 h2))
   |func f x c=>cases f with
    |method n=>cases h2
    |_=>exact DV (.value (.blank h1 h2))
   |nilIface=>cases h2
   |nilFunc=>cases h2
   |_=>exact DV (.value (.blank h1 h2))
  |EN h1 =>
   refine Gi ?_;show zO P (program >>= λp=>gl (p.types.size+Made.depth) big undef "" >>= λr=>_);exact zO.prog (lM h.2 _ _ _ _ ⟨_,rfl,by intro g e;cases e⟩)
 |binOp op t x y t' =>
  rw[ho] at h;simp at h;obtain hc|⟨he,hf⟩:=h.1.1
  .refine v (DT (pF op hc x y _ _ _ _) ?_);intro a7 _ _ zX _;exact tv hG op hc ((a6 x h.1.2).LT zX) ((a6 y h.2).LT zX)
  .have hop:op=.eql\/op=.neq:=by cases op<;>first|exact .inl rfl|exact .inr rfl|cases he
   by_cases hu:ρ x=hole\/ρ y=hole
   .exact v (Gi (pH hop hf (a6 x h.1.2) (a6 y h.2) hu))
   refine v (DT (nM op hf x y (a6 x h.1.2) (a6 y h.2) hu) ?_);intro a7 _ _ zX _;exact q8 hG hop hf ((a6 x h.1.2).LT zX) ((a6 y h.2).LT zX) hu
 |panic x=>rw[ho] at h;simp at h;exact v (pI (a6 x h))
 |typeAssert x xt t c =>
  rw[ho] at h;simp only[AO,and_true] at h;obtain⟨⟨rfl,h2⟩,h3⟩:=h;unfold QD at h2;rw[AO] at h2;exact v (ra (a6 x h3) xt t h2.1 λy e=>by have:=h2.2;rw[e] at this;cases this)
 |makeInterface t x =>
  rw[ho] at h;simp at h;refine v (DT (ai _) ?_);rintro a7 d _ zX ⟨rfl,_⟩;cases d with
  |interface _=>exact D4
  |_=>exact DV (.iface _ ((a6 x h).LT zX))
 |unOp op t x=>rw[ho] at h;simp at h;exact v (tx op (a6 x h))
 |convert s d x=>rw[ho] at h;simp at h;exact v (pG h.1 (a6 x h.2))
 |makeFunc fn fs cs =>
  rw[ho] at h;simp only[AO,and_true] at h;obtain⟨⟨h1,h2⟩,h3⟩:=h;cases fn with
  |func f =>
   have a1:=dG (β:=β) a6 h2;have a2:=dG (β:=β) a6 h3;exact v (DV (.func (.func (.inl h1)) a1.size a1.at_ a2.size a2.at_))
  |_=>simp at h1
 |makeSlice t l c=>rw[ho] at h;simp at h;exact v (mg t (gZ h.1.1) (a6 l h.1.2) (a6 c h.2))
 |slice t x l hi mx=>rw[ho] at h;simp at h;exact v (pB t (a6 x h.1.1.1) (kw a6 h.1.1.2) (kw a6 h.1.2) (kw a6 h.2))
 |fieldAddr s x i=>rw[ho] at h;simp at h;exact v (pz s (a6 x h.2) i h.1)
 |field t x i=>rw[ho] at h;simp at h;exact v (tn t (a6 x h) i)
 |indexAddr t x i=>rw[ho] at h;simp at h;exact v (pA t (a6 x h.1) (a6 i h.2))
 |index t x i=>rw[ho] at h;simp at h;exact v (tq t (a6 x h.1) (a6 i h.2))
 |extract x i=>rw[ho] at h;simp at h;exact v (pC (a6 x h) i)
 |call c=>rw[ho] at h;simp at h;exact jg hS a6 _ h
 |defer c =>
  rw[ho] at h;simp only[AO] at h;refine DT (pL a6 _ h.1 (λb e=>by rw[e] at h;simp at h)) ?_;intro a7 d D _ hd;exact DV (.defer hd)
 |_=>rw[ho] at h;simp at h
end
def oG:Op->Bool
 |.defer _=>Z
 |_=>J
def jh (s:String):Bool:=s == "internal/race.Disable"||s == "internal/race.Enable"||s == "internal/race.Acquire"||s == "internal/race.ReleaseMerge"
def dI (p:bh)(f:N):Bool:=match p.L[f]? with
 |some fn=>fn.body.L&&jh fn.name
 |none=>J
def aT {p:bh}{f:N}{fn:Func}(h:p.L[f]?=bW fn)(hb:fn.body.isSome=Z):dI p f=false:=by
 unfold dI;rw[h];cases hx:fn.body with
 |none=>rw[hx] at hb;cases hb
 |some c=>simp[hx]
def dW {p:bh}{f:N}{fn:Func}(h:p.L[f]?=bW fn)(hb:jh fn.name=J):dI p f=false:=by
 unfold dI;rw[h];simp[hb]
def eX (p:bh)(c:Call):Bool:=match c.L with
 |.value (.func f)=>dI p f
 |_=>J
def eY (P:bh)(s d:bD):Bool:=match P.LT s,P.LT d with
 |some (.S _),bW .unsafePointer=>Z
 |_,_=>J
def aH (p:bh):Op->Bool
 |.go _=>J
 |.call c=>!eX p c
 |.convert s d _=>!eY p s d
 |_=>Z
def KB (P:bh)(SB:N->Bool):Op->Bool
 |.go c=>bG P SB c&&match c.L with
  |.builtin _=>J
  |_=>Z
 |.call c=>eX P c&&c.args.all (ah SB)&&match c.L with
  |.value (.func f)=>!SB f
  |_=>J
 |.convert s d x=>eY P s d&&ah SB x
 |_=>J
def pM {P:bh}{SB:N->Bool}{op:Op}(h:aH P op=Z):KB P SB op=false:=by
 cases op with
 |go c=>simp[aH] at h
 |call c=>simp only[aH,BX] at h;simp[KB,h]
 |convert s d x=>simp only[aH,BX] at h;simp[KB,h]
 |_=>rfl
def iX {P:bh}{s d:bD}(h:gW P s d=Z):eY P s d=false:=by
 unfold gW at h;unfold eY;split at h
 .rename_i h1 h2;rw[h1,h2]
 .cases h
def tB {P p:bh}{SB:N->Bool}{o:gU}(h:dH P SB o=Z)(hn:∀f,SB f=Z->dI p f=J)(hu:∀t,p.LT t=P.LT t):aH p o.op=true:=by
 unfold dH Nh at h;cases hop:o.op with
 |go c=>rw[hop] at h;simp at h
 |call c =>
  rw[hop] at h;simp only[aH,BX];unfold eX;cases hc:c.L with
  |value f=>cases f with
   |func f =>
    simp only[bG,hc,AO] at h;exact hn f h.1.2
   |_=>rfl
  |_=>rfl
 |convert s d x =>
  rw[hop] at h;simp only[AO] at h;simp only[aH,BX];have:=iX h.1.1;unfold eY at this ⊢;rw[hu,hu];exact this
 |_=>rfl
def vJ {P:bh}{SB:N->Bool}{o:gU}(h:dH P SB o=Z):KB P SB o.op=false:=by
 unfold dH Nh at h;cases hop:o.op with
 |go c=>rw[hop] at h;simp at h
 |call c =>
  rw[hop] at h;unfold KB;cases hc:c.L with
  |value f=>cases f with
   |func f =>
    simp only[bG,hc,AO] at h;have h2:SB f=true:=h.1.2;simp[hc,h2]
   |_=>simp[eX,hc]
  |_=>simp[eX,hc]
 |convert s d x =>
  rw[hop] at h;simp only[AO] at h;simp[KB,iX h.1.1]
 |_=>rfl
def cn (P:bh)(SB:N->Bool)(zZ ad:Bool)(o:gU):Bool:=(dH P SB o&&(ad||!oG o.op))||(zZ&&KB P SB o.op)
def xW:Op->Bool
 |.call c=>(match c.L with|.value (.func f)=>f==122|_=>J)&&(match(c.args[1]?:Option cf) with|some (Operand.const (Value.int _ n))=>decide (n<0)|_=>J)
 |_=>J
def codeOk (P:bh)(SB:N->Bool)(zZ:Bool):Bool->cU->Bool
 |_,.skip|_,.exit _|_,.label _|_,.goto _|_,.ret=>Z
 |_,.refuse _=>Z
 |ad,.L _ ops _=>ops.all (cn P SB zZ ad)&&!ops.any λo=>xW o.op
 |ad,.seq a b=>codeOk P SB zZ ad a&&codeOk P SB zZ ad b
 |ad,.cond c a b=>ah SB c&&codeOk P SB zZ ad a&&codeOk P SB zZ ad b
 |ad,.Lo _ b|ad,.loop b|ad,.scope b=>codeOk P SB zZ ad b
 |_,.rangeFunc f _ Az bo=>ah SB f&&codeOk P SB zZ J Az&&codeOk P SB zZ J bo
section
variable (P:bh) (SB:N->Bool) (H:Hid) (zZ:Bool)
abbrev CK:cU->Prop:=λc=>codeOk P SB zZ J c=Z
inductive F6 (ad:Bool)(β:Ef):fu->fu->Prop
 |code {c:cU}:codeOk P SB zZ ad c=Z->F6 ad β (.code c) (.code c)
 |inBlock (id:Nat):F6 ad β (.inBlock id) (.inBlock id)
 |inLoop {c:cU}:codeOk P SB zZ ad c=Z->F6 ad β (.inLoop c) (.inLoop c)
 |inScope {c:cU}:codeOk P SB zZ ad c=Z->F6 ad β (.inScope c) (.inScope c)
 |inRegion {ops:Array gU} {l:List Nat}:ops.all (cn P SB zZ ad)=Z->F6 ad β (.inRegion ops l) (.inRegion ops l)
 |inRangeFunc {l L:Nat}:β l L->H l=J->F6 ad β (.inRangeFunc l) (.inRangeFunc L)
 |endRangeFunc {l L:Nat}:β l L->H l=J->F6 ad β (.endRangeFunc l) (.endRangeFunc L)
 |beginRound:F6 ad β .beginRound .beginRound
inductive Jn (β:Ef):c0->c0->Prop
 |mk {v V:bk} (r g:Bool):DX (SP SB H) β v V->Jn β ⟨v,r,g⟩ ⟨V,r,g⟩
inductive Jw (β:Ef):eo->eo->Prop
 |run:Jw β .run .run
 |returning:Jw β .returning .returning
 |panicking {l L:List c0}:E3 (Jn SB H β) l L->Jw β (.panicking l) (.panicking L)
inductive Ht (β:Ef):Option Nat->Option Nat->Prop
 |none:Ht β bs bs
 |some {l L:Nat}:β l L->H l=J->Ht β (bW l) (bW L)
structure Ej (β:Ef)(f F:br):Prop where
 fn:f.fn=F.fn
 tmps:D6 (SP SB H) β f.tmps F.tmps
 todo:E3 (F6 P SB H zZ f.roundOf.L β) f.todo F.todo
 defers:E3 (Fx (SP SB H) β) f.defers F.defers
 mode:Jw SB H β f.mode F.mode
 kind:f.kind=F.kind
 late:f.kind≠.early/\SB f.fn=Z
 round:Ht H β f.roundOf F.roundOf
def bad:Frame:={ fn:=0,tmps:=#[],todo:=[.code (.refuse "")],defers:=[⟨.nil,#[]⟩],mode:=.run,kind:=.normal }
inductive Fi (T:List br)(β:Ef):List br->List br->Prop
 |base:Fi T β [bad] T
 |cons {c C:br} {cs CS:List br}:Ej P SB H zZ β c C->Fi T β cs CS->Fi T β (c::cs) (C::CS)
end
section
variable (P:Er) (SB:N->Bool) (H:Hid) (zZ:Bool)
inductive Ga (BB:N->Bool)(β:Ef):br->br->Prop
 |on {f F:br}:Ej P.a SB H zZ β f F->Ga BB β f F
 |stop {f:N} {a A:Array bk} {k:eG}:(SB f=Z\/aK SB f=Z)->BB f=J->k≠.early->D6 (SP SB H) β a A->Ga BB β (b9 P.a f a k) (b9 P.b f A k)
structure FV (BB:N->Bool)(T:List br)(β:Ef)(g g':U):Prop where
 top:Ga P SB H zZ BB β g.L g'.L
 callers:Fi P.a SB H zZ T β g.callers g'.callers
 status:g.status=.L/\g'.status=.L
 dying:g.dying=bs/\g'.dying=bs
 offers:g.offers=bs/\g'.offers=bs
end
section
variable {P:Er} {SB:N->Bool} {H:Hid} {zZ:Bool} {BB:N->Bool} {β DZ:Ef} {G:Nat}
def Fi.LT {T:List br}(h:∀c C,Ej P.a SB H zZ β c C->Ej P.a SB H zZ DZ c C){cs CS:List br}(r:Fi P.a SB H zZ T β cs CS):Fi P.a SB H zZ T DZ cs CS:=by
 induction r with
 |base=>exact .base
 |cons a _ ih=>exact .cons (h _ _ a) ih
def Fi.ne {T:List br}{cs CS:List br}(r:Fi P.a SB H zZ T β cs CS):cs≠[]:=by
 cases r<;>simp
def F6.LT {ad:Bool}(h:β.le DZ){i I:fu}(r:F6 P.a SB H zZ ad β i I):F6 P.a SB H zZ ad DZ i I:=by
 cases r with
 |code c=>exact .code c
 |inBlock id=>exact .inBlock id
 |inLoop c=>exact .inLoop c
 |inScope c=>exact .inScope c
 |inRegion c=>exact .inRegion c
 |inRangeFunc a b=>exact .inRangeFunc (h _ _ a) b
 |endRangeFunc a b=>exact .endRangeFunc (h _ _ a) b
 |beginRound=>exact .beginRound
def Jn.LT (h:β.le DZ){i I:c0}(r:Jn SB H β i I):Jn SB H DZ i I:=by
 cases r with
 |mk a b v=>exact .mk a b (v.LT h)
def Jw.LT (h:β.le DZ){i I:eo}(r:Jw SB H β i I):Jw SB H DZ i I:=by
 cases r with
 |run=>exact .run
 |returning=>exact .returning
 |panicking l=>exact .panicking (l.LT λ_ _=>Jn.LT h)
def Ht.LT (h:β.le DZ){i I:Option Nat}(r:Ht H β i I):Ht H DZ i I:=by
 cases r with
 |none=>exact .none
 |some a b=>exact .some (h _ _ a) b
def Ej.LT (h:β.le DZ){f F:br}(r:Ej P.a SB H zZ β f F):Ej P.a SB H zZ DZ f F :=
 ⟨r.fn,r.tmps.LT h,r.todo.LT λ_ _=>F6.LT h,r.defers.LT λ_ _=>Fx.LT h,r.mode.LT h,r.kind,r.late,r.round.LT h⟩
def Ej.eval {f F:br}(r:Ej P.a SB H zZ β f F){x:cf}(h:ah SB x=Z):DX (SP SB H) β (f.eval x) (F.eval x):=by
 cases x with
 |tmp t=>exact r.tmps.LE t (.tuple rfl (by simp))
 |const v=>exact gM h
 |global g=>cases h
 |func f=>exact .func (.func (.inl h)) rfl (by simp) rfl (by simp)
def Mt (id:Nat){ad:Bool}{l L:List fu}(h:E3 (F6 P.a SB H zZ ad β) l L):(exitTo id l=bs/\exitTo id L=bs)\/∃k K,exitTo id l=bW k/\exitTo id L=bW K/\E3 (F6 P.a SB H zZ ad β) k K:=by
 induction h with
 |nil=>exact .inl ⟨rfl,rfl⟩
 |@cons i I l L hi hl ih =>
  cases hi with
  |inBlock id' =>
   unfold exitTo;split
   .exact .inr ⟨_,_,rfl,rfl,hl⟩
   .exact ih
  |_=>exact ih
def eZ {ad:Bool}:∀ {c:cU} {l:Nat} {r:cU},codeOk P.a SB zZ ad c=Z->eT c l=bW r->codeOk P.a SB zZ ad r=Z
 |.seq a b,l,r,h,hf=>by
  simp only[codeOk,AO] at h;unfold eT at hf;split at hf
  .rename_i rest hr;cases hf;simp only[codeOk,AO];exact⟨eZ h.1 hr,h.2⟩
  .exact eZ h.2 hf
 |.label l',l,r,h,hf=>by
  unfold eT at hf;split at hf
  .cases hf;rfl
  .cases hf
 |.skip,_,_,_,hf|.L _ _ _,_,_,_,hf|.cond _ _ _,_,_,_,hf|.Lo _ _,_,_,_,hf|.loop _,_,_,_,hf|.rangeFunc _ _ _ _,_,_,_,hf|.exit _,_,_,_,hf|.scope _,_,_,_,hf|.goto _,_,_,_,hf|.ret,_,_,_,hf|.refuse _,_,_,_,hf=>by cases hf
def Mv {ad:Bool}(l:Nat){k K:List fu}(h:E3 (F6 P.a SB H zZ ad β) k K):(gotoIn l k=bs/\gotoIn l K=bs)\/∃k' K',gotoIn l k=bW k'/\gotoIn l K=bW K'/\E3 (F6 P.a SB H zZ ad β) k' K':=by
 induction h with
 |nil=>exact .inl ⟨rfl,rfl⟩
 |@cons i I k K hi hl ih =>
  cases hi with
  |inScope hc =>
   rename_i c;unfold gotoIn;cases hf:eT c l with
   |none=>exact ih
   |some rest=>exact .inr ⟨_,_,rfl,rfl,.cons (.code (eZ hc hf)) (.cons (.inScope hc) hl)⟩
  |_=>exact ih
def mem_seen {p:bh}{fn:N}{es:Array cw}{E:cw}(h:E∈seen p fn es):E∈es:=by
 unfold seen at h;dsimp only at h;rw[<-C7] at h
 have key : ∀ (l : List cw) (q : Bool) (kept : Array cw), E ∈ (l.foldl (fun (x : Bool × Array cw) e => match x with
   |(q,kept)=>match e.loc with
    |.mark (.extern f)=>((p.L[f]?).any (·.norace),kept)
    |_=>(q,if q&&!e.sync then kept else kept.push e)) (q,kept)).2->E∈kept\/E∈l:=by
  intro l
  induction l with
  |nil=>intro q kept h;exact .inl h
  |cons e l ih =>
   intro q kept h;simp only[Bg] at h;split at h
   .obtain h|h:=ih _ _ h
    .exact .inl h
    .exact .inr (by simp[h])
   .obtain h|h:=ih _ _ h
    .split at h
     .exact .inl h
     .obtain h|h:=Array.mem_push.1 h
      .exact .inl h
      .exact .inr (by simp[h])
    .exact .inr (by simp[h])
 obtain h|h:=key _ _ _ h
 .simp at h
 .simpa using h
end
def Ri {α:Type}:Result α×Array cw->Prop
 |(.ok _ _,_)=>True
 |(.halt (.panic _) _,_)=>True
 |(.halt (.stuck _) _,_)=>True
 |(.halt (.unsupported u) _,_)=>∀g,u≠.initOrder g
 |_=>False
section
variable {P:Er} {S:Fu} {Ck:cU->Prop} {G:Nat} {β:Ef}
def D8.Ni {α Hh:Type}{m:Sem α}{M:Sem Hh}{R:Ef->α->Hh->Prop}(h:D8 P S Ck G β m M R){w W:bb}(hw:EA S Ck G β w W)(a6:Array cw):Ri (m.L P.a w a6):=by
 have hw':EA S Ck G β w { W with tape:=λi q=>w.tape (w.drawn+(i-W.drawn)) q }:=⟨hw.Fl,hw.room,hw.FD,hw.FU,hw.old,hw.env⟩
 have:=h w { W with tape:=λi q=>w.tape (w.drawn+(i-W.drawn)) q } ((world (m.L P.a w a6).1).drawn-w.drawn) hw' (λi _ q=>by
  show w.tape (w.drawn+i) q=w.tape (w.drawn+(W.drawn+i-W.drawn)) q
  rw[show W.drawn+i-W.drawn=i from by omega]) a6 #[] (by omega)
 revert this;generalize m.L P.a w a6=r;obtain⟨r,es⟩:=r;cases r with
 |ok a w'=>exact λ_=>trivial
 |halt x w'=>cases x with
  |panic v=>exact λ_=>trivial
  |stuck s=>exact λ_=>trivial
  |unsupported u=>exact id
  |_=>exact id
def D8.some {α Hh:Type}{m:Sem α}{M:Sem Hh}{R:Ef->α->Hh->Prop}(h:D8 P S Ck G β m M R){w W:bb}(hw:EA S Ck G β w W){a6 es:Array cw}{a:α}{w':bb}(hr:m.L P.a w a6=(.ok a w',es)):∃DZ A,R DZ a A:=by
 have hw':EA S Ck G β w { W with tape:=λi q=>w.tape (w.drawn+(i-W.drawn)) q }:=⟨hw.Fl,hw.room,hw.FD,hw.FU,hw.old,hw.env⟩
 have:=h w { W with tape:=λi q=>w.tape (w.drawn+(i-W.drawn)) q } ((world (m.L P.a w a6).1).drawn-w.drawn) hw' (λi _ q=>by
  show w.tape (w.drawn+i) q=w.tape (w.drawn+(W.drawn+i-W.drawn)) q
  rw[show W.drawn+i-W.drawn=i from by omega]) a6 #[] (by omega)
 rw[hr] at this;obtain⟨DZ,A,_,_,_,h,_⟩:=this;exact⟨DZ,A,h⟩
end
def aL:GStep->bb
 |.go _ w _|.comm _ _ _ _ w _|.spawn _ _ w _|.count _ w _|.timer _ _ w _|.alone _ _ w _|.newcoro _ _ _ w _|.coroswitch _ _ _ w _|.collect _ w _|.watch _ w _|.ended _ w _=>w
section
variable (P:Er) (SB:N->Bool) (H:Hid) (zZ:Bool) (BB:N->Bool) (T:List br) (G:Nat)
def Gone (g:U):Prop:=(∃fr,g={ frame:=fr,callers:=[],status:=.L,dying:=bs })/\∀(P:bh) (w:bb),∃o w' es,bw P Z g w=.ended o w' es
def NR:Gone { frame:=bad,callers:=[],status:=.L,dying:=bs }:=⟨⟨_,rfl⟩,λ_ _=>⟨_,_,_,rfl⟩⟩
def pN (l:List c0):Gone { frame:=bad.raise l,callers:=[],status:=.L,dying:=bs }:=⟨⟨_,rfl⟩,λ_ _=>⟨_,_,_,rfl⟩⟩
def FN (β:Ef)(w W:bb):GStep->GStep->Prop
 |.go g w' _,s=>(g.callers=[]/\Gone g)\/∃DZ g2 W' ES,s=.go g2 W' ES/\FV P SB H zZ BB T DZ g g2/\Fin (SP SB H) (CK P.a SB zZ) G β DZ w W w' W' ES.toList
 |.ended _ _ _,_=>True
 |_,_=>False
end
section
variable {P:Er} {SB:N->Bool} {H:Hid} {zZ:Bool} {BB:N->Bool} {T:List br} {β DZ:Ef} {Gn:Nat}
structure Lib (P:Er)(SB:N->Bool)(H:Hid)(zZ:Bool)(BB:N->Bool)(Gn:Nat):Prop where
 calls:Ks P (SP SB H) (CK P.a SB zZ) Gn
 body:∀f,BB f=Z->∃fn c,P.a.L[f]?=bW fn/\fn.body.LE (.refuse "unsupported: a function without a Go body is entered")=c/\codeOk P.a SB zZ Z c=Z/\P.fs[f]?=bW fn
 like:∀f,SB f=Z->∃fn G2,P.a.L[f]?=bW fn/\P.fs[f]?=bW G2/\fn.results=G2.results
 Rj:P.a.globals.size<=Gn
 nm:∀f,SB f=Z->dI P.a f=J/\dI P.b f=J
 sub:∀f,BB f=Z->SB f=Z
 bars:∀f,aK SB f=Z->∃fn s,P.a.L[f]?=bW fn/\fn.body=bW (.refuse s)
def E4 (L:Lib P SB H zZ BB Gn){f:N}(hf:SB f=Z\/aK SB f=Z){a A:Array bk}(h:D6 (SP SB H) β a A)(k:eG)(hk:k≠.early) :
  Ga P SB H zZ BB β (b9 P.a f a k) (b9 P.b f A k):=by
 cases hb:BB f with
 |false=>exact .stop hf hb hk h
 |true =>
  obtain⟨fn,c,h1,h2,h3,h4⟩:=L.body f hb;have a6:P.b.L[f]?=bW fn:=h4;refine .on ⟨rfl,?_,?_,.nil,.run,rfl,⟨hk,L.sub f hb⟩,.none⟩
  .unfold b9;dsimp only;rw[h.size,h1,a6];exact h.append (D6.replicate (.tuple rfl (by simp)) _)
  .unfold b9;simp only[h1,a6,h2,BD,AS];exact .cons (.code h3) .nil
def eh {l L:Nat}(hl:β l L)(hh:H l=J)(f:N)(hf:SB f=Z){x X:Array bk}(hx:D6 (SP SB H) β x X){Az bo:cU}(h1:codeOk P.a SB zZ J Az=Z)(h2:codeOk P.a SB zZ J bo=Z)(k:eG)(hk:k≠.early) :
  Ej P.a SB H zZ β (gB l f x Az bo k) (gB L f X Az bo k) :=
 ⟨rfl,hx,.cons (.code h1) (.cons .beginRound (.cons (.code h2) .nil)),.nil,.run,rfl,⟨hk,hf⟩,.some hl hh⟩
def bf {f F:br}(h:Ej P.a SB H zZ β f F){v V:bk}(hv:DX (SP SB H) β v V):Ej P.a SB H zZ β (f.finish v) (F.finish V):=by
 obtain⟨fn,tmps,todo,defers,mode,kind,round⟩:=f;obtain⟨G2,Gq,Hu,FO,a7,a8,round'⟩:=F;obtain⟨h1,h2,h3,h4,h5,h6,h7,h8⟩:=h;dsimp only at *;unfold Frame.finish;cases h3 with
 |nil=>exact⟨h1,h2,.nil,h4,h5,h6,h7,h8⟩
 |@cons i I l L hi hl =>
  have a6:E3 (F6 P.a SB H zZ round.L β) (i::l) (I::L):=.cons hi hl;cases hi with
  |inRegion ho =>
   rename_i ops todo;cases todo with
   |nil=>exact⟨h1,h2,a6,h4,h5,h6,h7,h8⟩
   |cons j rest =>
    refine⟨h1,?_,.cons (.inRegion ho) hl,h4,h5,h6,h7,h8⟩;dsimp only;cases(ops[j]?).bind (·.dst) with
    |none=>exact h2
    |some d=>exact h2.SS d hv
  |inRangeFunc a b=>exact⟨h1,h2,.cons (.endRangeFunc a b) hl,h4,h5,h6,h7,h8⟩
  |beginRound=>exact⟨h1,h2,hl,h4,h5,h6,h7,h8⟩
  |code c=>exact⟨h1,h2,a6,h4,h5,h6,h7,h8⟩
  |inBlock id=>exact⟨h1,h2,a6,h4,h5,h6,h7,h8⟩
  |inLoop c=>exact⟨h1,h2,a6,h4,h5,h6,h7,h8⟩
  |inScope c=>exact⟨h1,h2,a6,h4,h5,h6,h7,h8⟩
  |endRangeFunc a b=>exact⟨h1,h2,a6,h4,h5,h6,h7,h8⟩
def cL {f F:br}(h:Ej P.a SB H zZ β f F){l L:List c0}(hl:E3 (Jn SB H β) l L):Ej P.a SB H zZ β (f.raise l) (F.raise L):=by
 obtain⟨fn,tmps,todo,defers,mode,kind,round⟩:=f;obtain⟨G2,Gq,Hu,FO,a6,a7,round'⟩:=F;obtain⟨h1,h2,h3,h4,h5,h6,h7,h8⟩:=h;dsimp only at *;unfold Frame.raise;cases h5 with
 |run=>exact⟨h1,h2,h3,h4,.panicking hl,h6,h7,h8⟩
 |returning=>exact⟨h1,h2,h3,h4,.panicking hl,h6,h7,h8⟩
 |panicking hc=>exact⟨h1,h2,h3,h4,.panicking (hl.append hc),h6,h7,h8⟩
def aM {f F:br}{cs CS:List br}(h:Ej P.a SB H zZ β f F)(hc:Fi P.a SB H zZ T β cs CS) :
  FV P SB H zZ BB T β { frame:=f,callers:=cs,status:=.L,dying:=bs } { frame:=F,callers:=CS,status:=.L,dying:=bs } :=
 ⟨.on h,hc,⟨rfl,rfl⟩,⟨rfl,rfl⟩,⟨rfl,rfl⟩⟩
def Fin.seen {w W w' W':bb}{ES:List cw}(h:Fin (SP SB H) (CK P.a SB zZ) Gn β DZ w W w' W' ES)(fn:N):Fin (SP SB H) (CK P.a SB zZ) Gn β DZ w W w' W' (seen P.b fn ES.Li).toList :=
 { h with evs:=λht E hE=>h.evs ht E (by have:=mem_seen (p:=P.b) (fn:=fn) (E:=E) (es:=ES.Li) (by simpa using hE);simpa using this) }
def ia (L:Lib P SB H zZ BB Gn){fr FR:br}{cs CS:List br}(hf:Ej P.a SB H zZ β fr FR)(hc:Fi P.a SB H zZ T β cs CS){m M:Sem fl}
  (hm:D8 P (SP SB H) (CK P.a SB zZ) Gn β m M (H9 (SP SB H) (CK P.a SB zZ))) {w W:bb} {n:Nat} (hw:EA (SP SB H) (CK P.a SB zZ) Gn β w W) (ht:Kd n w W)
  (hb:(aL (cK P.a Z fr cs bs m w)).drawn<=w.drawn+n) :
  FN P SB H zZ BB T Gn β w W (cK P.a Z fr cs bs m w) (cK P.b Z FR CS bs M W):=by
 have a7:=hm.Ni hw #[];have aB:fr.kind=FR.kind:=hf.kind;have a8:(fr.kind==.early)=false:=by simpa using hf.late.1
 have aC:(FR.kind==.early)=false:=by rw[<-aB];exact a8
 have hE:=hm w W n hw ht #[] #[];have hsome:=λ(a:fl) (w':bb) (es:Array cw) (e:m.L P.a w #[]=(.ok a w',es))=>hm.some hw e;have aD:∀ {d:cq} {b:Bool} {r:String} {x:Array bk} {k:List fu},fr.todo=.call d b r x::k->False:=by
  intro d b r x k h;have:=hf.todo;rw[h] at this;generalize FR.todo=T at this;cases this with
  |cons hi _=>cases hi
 have aA:∀ {d:cq} {b:Bool} {r:String} {x:Array bk} {k:List fu},FR.todo=.call d b r x::k->False:=by
  intro d b r x k h;have:=hf.todo;rw[h] at this;generalize fr.todo=T at this;cases this with
  |cons hi _=>cases hi
 unfold cK at hb ⊢;simp only[if_true,a8,aC,Ba,if_false] at hb ⊢;rcases hr:m.L P.a w #[] with⟨r,es⟩
 rw[hr] at hE a7 hb;cases r with
 |ok x w' =>
  obtain⟨_,_,hx⟩:=hsome x w' es hr;have aF:w'.drawn<=w.drawn+n:=by cases hx<;>exact hb
  obtain⟨DZ,X,W',ES,e1,e2,e3⟩:=hE aF;rw[e1];simp only[Bp];have hf':=hf.LT e3.le;have hc':=hc.LT λ_ _ (r:Ej P.a SB H zZ β _ _)=>r.LT e3.le;have a6:=e3.seen (P:=P) (SB:=SB) (H:=H) (zZ:=zZ) FR.fn;cases e2 with
  |value hv=>exact bq ⟨DZ,_,W',_,rfl,aM (bf hf' hv) hc',by simpa using a6⟩
  |skip=>exact bq ⟨DZ,_,W',_,rfl,aM (bf hf' (.tuple rfl (by simp))) hc',by simpa using a6⟩
  |enter hs ha =>
   refine bq ⟨DZ,_,W',_,rfl,⟨?_,.cons hf' hc',⟨rfl,rfl⟩,⟨rfl,rfl⟩,⟨rfl,rfl⟩⟩,by simpa using a6⟩;split
   .exact(aD ‹_›).elim
   .split
    .exact(aA ‹_›).elim
    .exact E4 L hs ha .normal (by simp)
  |round hl hh hx h1 h2=>exact bq ⟨DZ,_,W',_,rfl,aM (eh hl hh.1 _ hh.2 (by assumption) h1 h2 .normal (by simp)) (.cons hf' hc'),by simpa using a6⟩
  |defer hd=>exact bq ⟨DZ,_,W',_,rfl,aM (bf (f:={ fr with defers:=_::fr.defers }) (F:={ FR with defers:=_::FR.defers }) ⟨hf'.fn,hf'.tmps,hf'.todo,.cons hd hf'.defers,hf'.mode,hf'.kind,hf'.late,hf'.round⟩ (.tuple rfl (by simp))) hc',by simpa using a6⟩
 |halt x w' =>
  cases x with
  |panic v =>
   obtain⟨DZ,X,W',ES,e1,e2,e3⟩:=hE hb;rw[e1];simp only[Bp];have hf':=hf.LT e3.le;have hc':=hc.LT λ_ _ (r:Ej P.a SB H zZ β _ _)=>r.LT e3.le;have a6:=e3.seen (P:=P) (SB:=SB) (H:=H) (zZ:=zZ) FR.fn;exact bq ⟨DZ,_,W',_,rfl,aM (cL hf' (.cons (.mk _ _ e2) .nil)) hc',by simpa using a6⟩
  |stuck s=>trivial
  |unsupported u =>
   cases u with
   |initOrder g=>exact AH rfl (a7 g)
   |_=>trivial
  |_=>exact a7.elim
end
section
variable {P:Er} {S:Fu} {Ck:cU->Prop} {G:Nat} {β:Ef}
def mp (fn:N)(hfn:S.fr fn){x X:Array bk}(hx:D6 S β x X)(ps:Array Tmp){Az bo:cU}(h1:Ck Az)(h2:Ck bo){o O:Option Nat}(ho:(o=bs/\O=bs)\/∃l L,o=bW l/\O=bW L/\β l L/\S.LT l=J) :
  D8 P S Ck G β (dn fn x ps Az bo o) (dn fn X ps Az bo O) (λDZ r R=>DZ r.1 R.1/\S.LT r.1=J/\E3 (Fx S DZ) r.2 R.2):=by
 have fin : ∀ (DZ : Ef) (d D : Nat) (m M : List cq), β.le DZ -> DZ d D -> S.LT d = J -> E3 (Fx S DZ) m M -> D8 P S Ck G DZ (do
   pure (<-newObj (.loop { state:=.ready,pending:=bs,fn,tmps:=x,params:=ps,assign:=Az,body:=bo,defers:=d }),m):Sem (Nat×List cq)) (do
   pure (<-newObj (.loop { state:=.ready,pending:=bs,fn,tmps:=X,params:=ps,assign:=Az,body:=bo,defers:=D }),M):Sem (Nat×List cq)) (λDZ r R=>DZ r.1 R.1/\S.LT r.1=J/\E3 (Fx S DZ) r.2 R.2):=by
  intro DZ d D m M zX hd hk hm;refine DT (jB (.loop ⟨hfn,λc e=>by cases e⟩ h1 h2 (hx.LT zX) hd hk) (λi=>EP.id (S:=S) (Ck:=Ck) i (.loop ⟨hfn,λc e=>by cases e⟩ h1 h2 (hx.LT zX) hd hk) (by simp))) ?_;rintro a8 b B a7 ⟨hb,hb'⟩;exact DV ⟨hb,hb',hm.LT λ_ _=>Fx.LT a7⟩
 unfold dn;obtain⟨rfl,rfl⟩|⟨l,L,rfl,rfl,hl,hk⟩:=ho
 .refine DT (jB (.defs .nil) (λ_=>rfl)) ?_;rintro a8 b B a7 ⟨hb,hb'⟩;refine DT (DV (R:=λDZ (a A:Nat×List cq)=>a8.le DZ/\a=(b,[{ target:=.collected b,args:=#[] }])/\A=(B,[{ target:=.collected B,args:=#[] }])) ⟨a8.le_refl,rfl,rfl⟩) ?_;rintro aA a A a6 ⟨_,rfl,rfl⟩;exact fin aA _ _ _ _ (Ef.le_trans a7 a6) (a6 _ _ hb) hb' (.cons (.collected (a6 _ _ hb) hb') .nil)
 .refine DT (dF hl hk) ?_;rintro a8 r R a7 ⟨_,_,_,_,_,_,_,_,_,_,hd,aB⟩;refine DT (DV (R:=λDZ (a A:Nat×List cq)=>a8.le DZ/\a=(r.defers,[])/\A=(R.defers,[])) ⟨a8.le_refl,rfl,rfl⟩) ?_;rintro aA a A a6 ⟨_,rfl,rfl⟩;exact fin aA _ _ _ _ (Ef.le_trans a7 a6) (a6 _ _ hd) aB .nil
def ky {β:Ef}{r R:Loop}(h:r.state=R.state/\r.pending=R.pending/\(S.fr r.fn/\∀c,r.pending=bW c->Ck c)/\r.fn=R.fn/\D6 S β r.tmps R.tmps/\r.params=R.params/\r.assign=R.assign/\r.body=R.body/\Ck r.assign/\Ck r.body/\β r.defers R.defers/\S.LT r.defers=J)
  (st:LoopState) (pe:Option cU) (hp:S.fr r.fn/\∀c,pe=bW c->Ck c):EP S Ck β (.loop { r with state:=st,pending:=pe }) (.loop { R with state:=st,pending:=pe }):=by
 obtain⟨h1,h2,h3,h4,h5,h6,h7,h8,h9,h10,h11,a6⟩:=h;rw[<-h4,<-h6,<-h7,<-h8];exact .loop hp h9 h10 h5 h11 a6
def lN {l L:Nat}(hl:β l L)(hk:S.LT l=J):D8 P S Ck G β (df l) (df L) (λ_ _ _=>True):=by
 refine DT (dF hl hk) ?_;intro a8 r R a6 h;have zG:=h.1;have a7:=h.2.1;have ho:=ky h .busy r.pending h.2.2.1;rw[show({ R with state:=LoopState.busy,pending:=r.pending }:Loop)={ R with state:=.busy } from by rw[a7]] at ho;refine DT (fy (a6 _ _ hl) hk ho rfl) ?_;intro aA _ _ _ _;rw[zG];cases R.state with
 |ready=>exact DV trivial
 |_=>exact aq (.error _) trivial
def nP {l L:Nat}(hl:β l L)(hk:S.LT l=J)(j:Option cU)(hj:∀c,j=bW c->Ck c):D8 P S Ck G β (b8 l j) (b8 L j) (λDZ v V=>DX S DZ v V):=by
 refine DT (dF hl hk) ?_;intro a7 r R a6 h;refine DT (fy (a6 _ _ hl) hk (ky h _ j ⟨h.2.2.1.1,hj⟩) rfl) ?_;intro a8 _ _ _ _;exact DV (.bool _)
def pO {l L:Nat}(hl:β l L)(hk:S.LT l=J):D8 P S Ck G β (ez l) (ez L) (λ_ a A=>a=A/\∀c,a=bW c->Ck c):=by
 refine DT (dF hl hk) ?_;intro a6 r R aB h;have zG:=h.1;have aA:=h.2.1;have ho:=ky h .exhausted r.pending h.2.2.1;rw[show({ R with state:=LoopState.exhausted,pending:=r.pending }:Loop)={ R with state:=.exhausted } from by rw[aA]] at ho
 have main : ∀ a7, a6.le a7 -> D8 P S Ck G a7 (do
   setObj l (.loop { r with state:=.exhausted })
   pure r.pending:Sem (Option cU)) (do
   setObj L (.loop { R with state:=.exhausted })
   pure R.pending:Sem (Option cU)) (λ_ a A=>a=A/\∀c,a=bW c->Ck c):=by
  intro a7 a8;refine DT (fy (a8 _ _ (aB _ _ hl)) hk (ho.LT a8) rfl) ?_;intro aC _ _ _ _;exact DV ⟨aA,h.2.2.1.2⟩
 rw[zG];by_cases hb:(R.state==.busy)=Z
 .simp only[hb,if_true];exact DT (R:=λ_ _ _=>False) (aq (.error _) trivial) (λ_ _ _ _ h=>h.elim)
 .simp only[hb,if_false,Ba];exact main a6 a6.le_refl
def jG {b B:Nat}(hb:β b B)(hk:S.LT b=J):D8 P S Ck G β (dr b) (dr B) (λDZ l L=>E3 (Fx S DZ) l L):=by
 refine DT (fw hb hk) ?_;intro aA o O a6 ho;cases ho with
 |defs a8 =>
  refine DT (fy (a6 _ _ hb) hk .taken rfl) ?_;intro aB _ _ a7 _;exact DV (a8.LT λ_ _=>Fx.LT a7)
 |_=>exact λ_ _ _ _ _ _ _ _=>trivial
def iY {α γ:Type}{f F:α->Sem γ}{R:Ef->γ->γ->Prop}(hR:∀β DZ,β.le DZ->∀a A,R β a A->R DZ a A):∀(l:List α) (β:Ef),(∀x∈l,∀DZ,β.le DZ->D8 P S Ck G DZ (f x) (F x) R) ->
  D8 P S Ck G β (l.mapM f) (l.mapM F) (λDZ a A=>E3 (R DZ) a A)
 |[],β,_=>by simp only[List.mapM_nil];exact DV .nil
 |x::l,β,h=>by
  simp only[List.mapM_cons];refine DT (h x (by simp) β β.le_refl) ?_;intro a8 a A a6 ha;refine DT (iY hR l a8 λy hy DZ zX=>h y (by simp[hy]) DZ (Ef.le_trans a6 zX)) ?_;intro aA b B a7 hb;exact DV (.cons (hR _ _ a7 _ _ ha) hb)
def jH (fn:Func){x X:Array bk}(hx:D6 S β x X):D8 P S Ck G β (results fn x) (results fn X) (λDZ v V=>DX S DZ v V):=by
 unfold results;rw[C2,C2];have hu:∀β,DX S β undef undef:=λβ=>.tuple rfl (by simp)
 have h := iY (P := P) (S := S) (Ck := Ck) (G := G) (f := fun (r : ResultVar) => match r with
   |.tmp t=>pure (x.LE t undef)
   |.cell a t=>do loadVar t (<-asAddr (x.LE a undef))) (F:=λ(r:ResultVar)=>match r with
   |.tmp t=>pure (X.LE t undef)
   |.cell a t=>do loadVar t (<-asAddr (X.LE a undef))) (R:=λDZ v V=>DX S DZ v V) (λ_ _ h _ _ r=>r.LT h) fn.results.toList β (λr _ DZ zX=>by
    cases r with
    |tmp t=>exact DV ((hx.LT zX).LE t (hu _))
    |cell a t =>
     refine DT (ef ((hx.LT zX).LE a (hu _))) ?_;intro a6 p Q _ hp
     exact jC t hp)
 refine DT (R:=λDZ a A=>D6 S DZ a A) ?_ ?_
 .refine DT h ?_;intro a6 l L _ hl;exact DV hl.Li
 .intro a6 v V _ hv;refine DV ?_;have hs:=hv.size;by_cases h1:v.size=1
  .have h2:V.size=1:=by omega
   rw[dif_pos h1,dif_pos h2];exact hv.at_ 0 _ _ (AL _) (AL _)
  .have h2:¬V.size=1:=by omega
   rw[dif_neg h1,dif_neg h2];exact hv.tuple
end
section
variable {P:Er} {SB:N->Bool} {H:Hid} {zZ:Bool} {BB:N->Bool} {T:List br} {β DZ:Ef} {Gn:Nat} {main main2:Bool}
def iZ {x X:Array bk}(h:D6 (SP SB H) β x X)(ops:Array gU)(j:Nat):yielded ops x j=yielded ops X j:=by
 unfold yielded;cases((ops[j]?).bind (·.dst)) with
 |none=>rfl
 |some d =>
  simp only[BD];cases hx:x[d]? with
  |none=>rw[h.get_none hx]
  |some v =>
   obtain⟨V,hV,hr⟩:=h.get? hx;rw[hV];cases hr with
   |blank _ hb=>cases V<;>first|rfl|(cases hb;done)
   |_=>rfl
def pP {l L:List c0}(h:E3 (Jn SB H β) l L):E3 (Jn SB H β) (l.dropWhile (!·.goexit)) (L.dropWhile (!·.goexit)):=by
 induction h with
 |nil=>exact .nil
 |@cons a A l L ha hl ih =>
  cases ha with
  |mk r g hv =>
   cases g with
   |false=>simpa using ih
   |true=>simpa using E3.cons (.mk r Z hv) hl
def fd {fr FR:br}{cs CS:List br}(hk:fr.kind=FR.kind)(hl:fr.kind≠.early)(hc:Fi P.a SB H zZ T β cs CS)(zU:cs≠[]){v V:bk}(hv:DX (SP SB H) β v V){w W w' W':bb}{β0:Ef}{ES:List cw}
  (hf:Fin (SP SB H) (CK P.a SB zZ) Gn β0 β w W w' W' ES) (es:Array cw) :
  FN P SB H zZ BB T Gn β0 w W (cd es (cE P.a main fr cs bs v w')) (cd ES.Li (cE P.b main2 FR CS bs V W')):=by
 cases hc with
 |base =>
  unfold cE;cases fr.kind<;>exact Or.inl ⟨rfl,NR⟩
 |@cons c C cs CS h1 h2 =>
  unfold cE;rw[<-hk];cases aA:fr.kind with
  |normal=>exact bq ⟨β,_,W',_,rfl,aM (bf h1 hv) h2,by simpa using hf⟩
  |wrapped=>exact bq ⟨β,_,W',_,rfl,aM (bf h1 hv) h2,by simpa using hf⟩
  |early=>exact AH aA hl
  |_ =>
   refine bq ⟨β,_,W',_,rfl,aM ?_ h2,by simpa using hf⟩;obtain⟨fn,tmps,todo,defers,mode,kind,round⟩:=c;obtain⟨G2,Gq,Hu,FO,aB,aC,round'⟩:=C;obtain⟨a1,a2,a3,a4,a5,a6,a7,a8⟩:=h1;dsimp only at *;cases a5 with
   |run=>exact⟨a1,a2,a3,a4,.run,a6,a7,a8⟩
   |returning=>exact⟨a1,a2,a3,a4,.returning,a6,a7,a8⟩
   |panicking hch =>
    cases hch with
    |nil=>exact⟨a1,a2,a3,a4,.panicking .nil,a6,a7,a8⟩
    |@cons p Q l L hp hl =>
     cases hp with
     |mk r g hv' =>
      cases r with
      |false=>exact⟨a1,a2,a3,a4,.panicking (.cons (.mk J g hv') hl),a6,a7,a8⟩
      |true =>
       have:=pP hl;dsimp only;revert this;generalize l.dropWhile (!·.goexit)=d;generalize L.dropWhile (!·.goexit)=D;intro hd;cases hd with
       |nil=>exact⟨a1,a2,a3,a4,.returning,a6,a7,a8⟩
       |cons x y=>exact⟨a1,a2,a3,a4,.panicking (.cons x y),a6,a7,a8⟩
def cg (L:Lib P SB H zZ BB Gn){fr FR:br}{cs CS:List br}(hf:Ej P.a SB H zZ β fr FR)(hc:Fi P.a SB H zZ T β cs CS){d D:cq}(hd:Fx (SP SB H) β d D){w W:bb}{n:Nat}(hw:EA (SP SB H) (CK P.a SB zZ) Gn β w W)(ht:Kd n w W)
  (hb:(aL (ed P.a fr cs bs d w)).drawn<=w.drawn+n) :
  FN P SB H zZ BB T Gn β w W (ed P.a fr cs bs d w) (ed P.b FR CS bs D W):=by
 have hm:=gY L.calls hd;have hE:=hm w W n hw ht #[] #[];have a7:=hm.Ni hw #[];have hsome:=λ(a:fl) (w':bb) (es:Array cw) (e:(invoke d.target d.args).L P.a w #[]=(.ok a w',es))=>hm.some hw e;unfold ed at hb ⊢;cases hd with
 |@fn aD aG aC aF aB ar2 a b c =>
  simp only[B7,Ba,if_false] at hb ⊢;dsimp only at hE hsome;rcases zz:(invoke (Target.fn aD aC) aB).L P.a w #[] with⟨r,es⟩
  simp only[zz] at hb hE a7 ⊢;cases r with
  |ok x w' =>
   obtain⟨_,_,hx⟩:=hsome x w' es zz;have aA:w'.drawn<=w.drawn+n:=by cases hx<;>exact hb
   obtain⟨DZ,X,W',ES,e1,e2,e3⟩:=hE aA;simp only[e1,Bp];have hf':=hf.LT e3.le;have hc':=hc.LT λ_ _ (r:Ej P.a SB H zZ β _ _)=>r.LT e3.le;have a6:=e3.seen (P:=P) (SB:=SB) (H:=H) (zZ:=zZ) FR.fn;cases e2 with
   |value hv=>exact bq ⟨DZ,_,W',_,rfl,aM hf' hc',by simpa using a6⟩
   |skip=>exact bq ⟨DZ,_,W',_,rfl,aM hf' hc',by simpa using a6⟩
   |enter hs ha=>exact bq ⟨DZ,_,W',_,rfl,⟨E4 L hs ha .L (by simp),.cons hf' hc',⟨rfl,rfl⟩,⟨rfl,rfl⟩,⟨rfl,rfl⟩⟩,by simpa using a6⟩
   |round hl hh hx h1 h2=>exact bq ⟨DZ,_,W',_,rfl,aM (eh hl hh.1 _ hh.2 (by assumption) h1 h2 .L (by simp)) (.cons hf' hc'),by simpa using a6⟩
   |defer hd=>exact bq ⟨DZ,_,W',_,rfl,aM hf' hc',by simpa using a6⟩
  |halt x w' =>
   cases x with
   |panic v =>
    obtain⟨DZ,X,W',ES,e1,e2,e3⟩:=hE hb;simp only[e1,Bp];have hf':=hf.LT e3.le;have hc':=hc.LT λ_ _ (r:Ej P.a SB H zZ β _ _)=>r.LT e3.le;have a6:=e3.seen (P:=P) (SB:=SB) (H:=H) (zZ:=zZ) FR.fn;exact bq ⟨DZ,_,W',_,rfl,aM (cL hf' (.cons (.mk _ _ e2) .nil)) hc',by simpa using a6⟩
   |stuck s=>trivial
   |unsupported u=>trivial
   |_=>exact a7.elim
 |EN a A h1 h2 h3 =>
  subst h2;have hq:=iW L.calls.big a w #[];unfold hd at hq ⊢;simp only[B7,Ba,if_false] at hq ⊢;obtain⟨s,w',es',e⟩|⟨u,w',es',e,_⟩:=hq
  .simp only[e];trivial
  .simp only[e];trivial
 |@collected r1 r2 a b =>
  simp only[B7,Ba,if_false] at hb ⊢;dsimp only at hE hsome;rcases zz:(invoke (Target.collected r1) #[]).L P.a w #[] with⟨r,es⟩
  simp only[zz] at hb hE a7 ⊢;cases r with
  |ok x w' =>
   obtain⟨_,_,hx⟩:=hsome x w' es zz;have aA:w'.drawn<=w.drawn+n:=by cases hx<;>exact hb
   obtain⟨DZ,X,W',ES,e1,e2,e3⟩:=hE aA;simp only[e1,Bp];have hf':=hf.LT e3.le;have hc':=hc.LT λ_ _ (r:Ej P.a SB H zZ β _ _)=>r.LT e3.le;have a6:=e3.seen (P:=P) (SB:=SB) (H:=H) (zZ:=zZ) FR.fn;cases e2 with
   |value hv=>exact bq ⟨DZ,_,W',_,rfl,aM hf' hc',by simpa using a6⟩
   |skip=>exact bq ⟨DZ,_,W',_,rfl,aM hf' hc',by simpa using a6⟩
   |enter hs ha=>exact bq ⟨DZ,_,W',_,rfl,⟨E4 L hs ha .L (by simp),.cons hf' hc',⟨rfl,rfl⟩,⟨rfl,rfl⟩,⟨rfl,rfl⟩⟩,by simpa using a6⟩
   |round hl hh hx h1 h2=>exact bq ⟨DZ,_,W',_,rfl,aM (eh hl hh.1 _ hh.2 (by assumption) h1 h2 .L (by simp)) (.cons hf' hc'),by simpa using a6⟩
   |defer hd=>exact bq ⟨DZ,_,W',_,rfl,aM hf' hc',by simpa using a6⟩
  |halt x w' =>
   cases x with
   |panic v =>
    obtain⟨DZ,X,W',ES,e1,e2,e3⟩:=hE hb;simp only[e1,Bp];have hf':=hf.LT e3.le;have hc':=hc.LT λ_ _ (r:Ej P.a SB H zZ β _ _)=>r.LT e3.le;have a6:=e3.seen (P:=P) (SB:=SB) (H:=H) (zZ:=zZ) FR.fn;exact bq ⟨DZ,_,W',_,rfl,aM (cL hf' (.cons (.mk _ _ e2) .nil)) hc',by simpa using a6⟩
   |stuck s=>trivial
   |unsupported u=>trivial
   |_=>exact a7.elim
 |@nil aB ar2 a =>
  have a8:=hf.mode;cases hm:fr.mode with
  |panicking l =>
   simp only[Bool.and_self,if_true];trivial
  |run =>
   have hM:FR.mode=.run:=by
    rw[hm] at a8;generalize FR.mode=q at a8;cases a8;rfl
   simp only[hm,hM,Cd,Ba,if_false] at hb ⊢;dsimp only at hE hsome;rcases zz:(invoke Target.nil aB).L P.a w #[] with⟨r,es⟩
   simp only[zz] at hb hE a7 ⊢;cases r with
   |ok x w' =>
    obtain⟨_,_,hx⟩:=hsome x w' es zz;have aA:w'.drawn<=w.drawn+n:=by cases hx<;>exact hb
    obtain⟨DZ,X,W',ES,e1,e2,e3⟩:=hE aA;simp only[e1,Bp];have hf':=hf.LT e3.le;have hc':=hc.LT λ_ _ (r:Ej P.a SB H zZ β _ _)=>r.LT e3.le;have a6:=e3.seen (P:=P) (SB:=SB) (H:=H) (zZ:=zZ) FR.fn;cases e2 with
    |value hv=>exact bq ⟨DZ,_,W',_,rfl,aM hf' hc',by simpa using a6⟩
    |skip=>exact bq ⟨DZ,_,W',_,rfl,aM hf' hc',by simpa using a6⟩
    |enter hs ha=>exact bq ⟨DZ,_,W',_,rfl,⟨E4 L hs ha .L (by simp),.cons hf' hc',⟨rfl,rfl⟩,⟨rfl,rfl⟩,⟨rfl,rfl⟩⟩,by simpa using a6⟩
    |round hl hh hx h1 h2=>exact bq ⟨DZ,_,W',_,rfl,aM (eh hl hh.1 _ hh.2 (by assumption) h1 h2 .L (by simp)) (.cons hf' hc'),by simpa using a6⟩
    |defer hd=>exact bq ⟨DZ,_,W',_,rfl,aM hf' hc',by simpa using a6⟩
   |halt x w' =>
    cases x with
    |panic v =>
     obtain⟨DZ,X,W',ES,e1,e2,e3⟩:=hE hb;simp only[e1,Bp];have hf':=hf.LT e3.le;have hc':=hc.LT λ_ _ (r:Ej P.a SB H zZ β _ _)=>r.LT e3.le;have a6:=e3.seen (P:=P) (SB:=SB) (H:=H) (zZ:=zZ) FR.fn;exact bq ⟨DZ,_,W',_,rfl,aM (cL hf' (.cons (.mk _ _ e2) .nil)) hc',by simpa using a6⟩
    |stuck s=>trivial
     |unsupported u=>trivial
    |_=>exact a7.elim
  |returning =>
   have hM:FR.mode=.returning:=by
    rw[hm] at a8;generalize FR.mode=q at a8;cases a8;rfl
   simp only[hm,hM,Cd,Ba,if_false] at hb ⊢;dsimp only at hE hsome;rcases zz:(invoke Target.nil aB).L P.a w #[] with⟨r,es⟩
   simp only[zz] at hb hE a7 ⊢;cases r with
   |ok x w' =>
    obtain⟨_,_,hx⟩:=hsome x w' es zz;have aA:w'.drawn<=w.drawn+n:=by cases hx<;>exact hb
    obtain⟨DZ,X,W',ES,e1,e2,e3⟩:=hE aA;simp only[e1,Bp];have hf':=hf.LT e3.le;have hc':=hc.LT λ_ _ (r:Ej P.a SB H zZ β _ _)=>r.LT e3.le;have a6:=e3.seen (P:=P) (SB:=SB) (H:=H) (zZ:=zZ) FR.fn;cases e2 with
    |value hv=>exact bq ⟨DZ,_,W',_,rfl,aM hf' hc',by simpa using a6⟩
    |skip=>exact bq ⟨DZ,_,W',_,rfl,aM hf' hc',by simpa using a6⟩
    |enter hs ha=>exact bq ⟨DZ,_,W',_,rfl,⟨E4 L hs ha .L (by simp),.cons hf' hc',⟨rfl,rfl⟩,⟨rfl,rfl⟩,⟨rfl,rfl⟩⟩,by simpa using a6⟩
    |round hl hh hx h1 h2=>exact bq ⟨DZ,_,W',_,rfl,aM (eh hl hh.1 _ hh.2 (by assumption) h1 h2 .L (by simp)) (.cons hf' hc'),by simpa using a6⟩
    |defer hd=>exact bq ⟨DZ,_,W',_,rfl,aM hf' hc',by simpa using a6⟩
   |halt x w' =>
    cases x with
    |panic v =>
     obtain⟨DZ,X,W',ES,e1,e2,e3⟩:=hE hb;simp only[e1,Bp];have hf':=hf.LT e3.le;have hc':=hc.LT λ_ _ (r:Ej P.a SB H zZ β _ _)=>r.LT e3.le;have a6:=e3.seen (P:=P) (SB:=SB) (H:=H) (zZ:=zZ) FR.fn;exact bq ⟨DZ,_,W',_,rfl,aM (cL hf' (.cons (.mk _ _ e2) .nil)) hc',by simpa using a6⟩
    |stuck s=>trivial
     |unsupported u=>trivial
    |_=>exact a7.elim
def jI (L:Lib P SB H zZ BB Gn){fr FR:br}{cs CS:List br}(hf:Ej P.a SB H zZ β fr FR)(hc:Fi P.a SB H zZ T β cs CS){w W:bb}{n:Nat}(hw:EA (SP SB H) (CK P.a SB zZ) Gn β w W)(ht:Kd n w W)
  (hb:(aL (unwind P.a main fr cs bs w)).drawn<=w.drawn+n) :
  FN P SB H zZ BB T Gn β w W (unwind P.a main fr cs bs w) (unwind P.b main2 FR CS bs W):=by
 obtain⟨fn,tmps,todo,defers,mode,kind,round⟩:=fr;obtain⟨G2,Gq,Hu,FO,aD,aH,round'⟩:=FR;obtain⟨a1,a2,a3,a4,a5,a6,a7,a8⟩:=hf;dsimp only at a1 a2 a3 a4 a5 a6 a7 a8;subst a1 a6;cases a4 with
 |@cons d D ds DS hd aF =>
  have hf':Ej P.a SB H zZ β ⟨fn,tmps,todo,ds,mode,kind,round⟩ ⟨fn,Gq,Hu,DS,aD,kind,round'⟩:=⟨rfl,a2,a3,aF,a5,rfl,a7,a8⟩;cases hd with
  |fn x y z=>exact cg L hf' hc (.fn x y z) hw ht hb
  |nil x=>exact cg L hf' hc (.nil x) hw ht hb
  |EN a A h1 h2 h3 =>
   subst h2;obtain rfl|⟨h3,n,c,x,rfl⟩:=h3
   .exact cg L hf' hc (.EN a A h1 rfl (.inl rfl)) hw ht hb
   .exact cg L hf' hc (.EN a A h1 rfl (.inr ⟨h3,n,c,x,rfl⟩)) hw ht hb
  |@collected r1 r2 x y =>
   have hm:=jG (P:=P) (Ck:=CK P.a SB zZ) (G:=Gn) (S:=SP SB H) x y;have hE:=hm w W n hw ht #[] #[];have aA:=hm.Ni hw #[];unfold unwind at hb ⊢;dsimp only at hb ⊢;rcases hr:(dr r1).L P.a w #[] with⟨r,es⟩
   rw[hr] at hb hE aA;cases r with
   |ok l w' =>
    obtain⟨DZ,X,W',ES,e1,e2,e3⟩:=hE hb;simp only[e1,Bp];have hf2:=hf'.LT e3.le;have hc':=hc.LT λ_ _ (r:Ej P.a SB H zZ β _ _)=>r.LT e3.le;have aB:=e3.seen (P:=P) (SB:=SB) (H:=H) (zZ:=zZ) fn;exact bq ⟨DZ,_,W',_,rfl,aM ⟨rfl,hf2.tmps,hf2.todo,e2.append hf2.defers,hf2.mode,rfl,a7,hf2.round⟩ hc',by simpa using aB⟩
   |halt x w'=>trivial
 |nil =>
  cases a5 with
  |run=>trivial
  |@panicking ch CH hch =>
   unfold unwind;dsimp only;obtain⟨f,f',g1,g2,_⟩:=L.like fn a7.2;have aC:P.b.L[fn]?=bW f':=g2;have q1:ea P.a ⟨fn,tmps,todo,[],.panicking ch,kind,round⟩=false:=by
    unfold ea;dsimp only;rw[g1]
   have q2:ea P.b ⟨fn,Gq,Hu,[],.panicking CH,kind,round'⟩=false:=by
    unfold ea;dsimp only;rw[aC]
   simp only[q1,q2,Ba,if_false];cases hc with
   |base=>exact Or.inl ⟨rfl,pN _⟩
   |cons h1 h2=>exact bq ⟨β,_,W,_,rfl,aM (cL h1 hch) h2,by simpa using Fin.refl hw⟩
  |returning =>
   have zU:cs≠[]:=hc.ne;unfold unwind at hb ⊢;dsimp only at hb ⊢;obtain⟨f,f',g1,g2,g3⟩:=L.like fn a7.2;have aC:P.b.L[fn]?=bW f':=g2;have g4:results f' Gq=results f Gq:=by unfold results;rw[g3]
   have hm:=jH (P:=P) (Ck:=CK P.a SB zZ) (G:=Gn) (S:=SP SB H) f a2;have hE:=hm w W n hw ht #[] #[];have aA:=hm.Ni hw #[];rw[g1] at hb ⊢;rw[aC];dsimp only at hb ⊢;rw[g4];rcases hr:(results f tmps).L P.a w #[] with⟨r,es⟩
   rw[hr] at hb hE aA;cases r with
   |ok v w' =>
    have aG:w'.drawn<=w.drawn+n:=by
     have:∀cs,(aL (cd (seen P.a fn es) (cE P.a main ⟨fn,tmps,todo,[],.returning,kind,round⟩ cs bs v w')))=w'\/cs=[]:=by
      intro cs;cases cs with
      |nil=>exact .inr rfl
      |cons c cs =>
       refine .inl ?_;unfold cE;cases kind<;>rfl
     obtain h|h:=this cs
     .rw[<-h];exact hb
     .exact AH h zU
    obtain⟨DZ,X,W',ES,e1,e2,e3⟩:=hE aG;simp only[e1,Bp];have hc':=hc.LT λ_ _ (r:Ej P.a SB H zZ β _ _)=>r.LT e3.le;have aB:=e3.seen (P:=P) (SB:=SB) (H:=H) (zZ:=zZ) fn;have:=fd (P:=P) (main:=main) (main2:=main2) (BB:=BB) (fr:=⟨fn,tmps,todo,[],.returning,kind,round⟩) (FR:=⟨fn,Gq,Hu,[],.returning,kind,round'⟩) rfl a7.1 hc' zU e2 aB (seen P.a fn es);simpa using this
   |halt x w'=>cases x<;>trivial
end
section
variable {P:Er} {SB:N->Bool} {H:Hid} {zZ:Bool} {BB:N->Bool} {T:List br} {β DZ:Ef} {Gn:Nat} {main main2:Bool}
def bz {ad:Bool}:∀ {c:cU},codeOk P.a SB zZ J c=Z->codeOk P.a SB zZ ad c=Z
 |.skip,_|.exit _,_|.label _,_|.goto _,_|.ret,_|.refuse _,_=>rfl
 |.L _ ops _,h=>by
  cases ad with
  |false=>exact h
  |true =>
   simp only[codeOk,AO,Bb] at h ⊢;refine⟨?_,h.2⟩;intro o ho;have:=h.1 o ho;unfold cn at this ⊢;simp only[Bm,AO] at this ⊢;obtain h1|h1:=this
   .exact .inl ⟨h1.1,.inl trivial⟩
   .exact .inr h1
 |.seq a b,h=>by
  simp only[codeOk,AO] at h ⊢;exact⟨bz h.1,bz h.2⟩
 |.cond c a b,h=>by
  simp only[codeOk,AO] at h ⊢;exact⟨⟨h.1.1,bz h.1.2⟩,bz h.2⟩
 |.Lo _ b,h=>by simp only[codeOk] at h ⊢;exact bz h
 |.loop b,h=>by simp only[codeOk] at h ⊢;exact bz h
 |.scope b,h=>by simp only[codeOk] at h ⊢;exact bz h
 |.rangeFunc f ps Az bo,h=>by simp only[codeOk] at h ⊢;exact h
def MS (p:bh)(SB:N->Bool)(fr:br):Prop:=∀o,fr.oper?=bW o->KB p SB o.op=J
def rg {o O:Option Nat}(h:Ht H β o O):o.L=O.L:=by cases h<;>rfl
section
variable {fn:N} {tmps Gq:Array bk} {todo Hu:List fu} {defers FO:List cq} {kind:eG} {round round':Option Nat} {cs CS:List br} {w W:bb} {n:Nat}
def bm {mode a6:eo}(a2:D6 (SP SB H) β tmps Gq)(a3:E3 (F6 P.a SB H zZ round.L β) todo Hu)(a4:E3 (Fx (SP SB H) β) defers FO)(a5:Jw SB H β mode a6)(a7:kind≠.early/\SB fn=Z)(a8:Ht H β round round')
  (hc:Fi P.a SB H zZ T β cs CS) (hw:EA (SP SB H) (CK P.a SB zZ) Gn β w W) :
  FN P SB H zZ BB T Gn β w W (.go { frame:=⟨fn,tmps,todo,defers,mode,kind,round⟩,callers:=cs,status:=.L,dying:=bs } w #[]) (.go { frame:=⟨fn,Gq,Hu,FO,a6,kind,round'⟩,callers:=CS,status:=.L,dying:=bs } W #[]) :=
 bq ⟨β,_,W,_,rfl,aM ⟨rfl,a2,a3,a4,a5,rfl,a7,a8⟩ hc,by simpa using Fin.refl hw⟩
def dJ (j:Option cU)(hj:∀c,j=bW c->codeOk P.a SB zZ J c=Z)(a7:kind≠.early/\SB fn=Z){l L:Nat}(hl:β l L)(hh:H l=J)
  (hc:Fi P.a SB H zZ T β cs CS) (zU:cs≠[]) (hw:EA (SP SB H) (CK P.a SB zZ) Gn β w W) (ht:Kd n w W)
  (hb : (aL (cd (seen P.a fn ((b8 l j).L P.a w #[]).2) (match ((b8 l j).L P.a w #[]).1 with
    |.ok v w=>cE P.a main ⟨fn,tmps,todo,defers,.run,kind,round⟩ cs bs v w
    |.halt _ w=>.ended (.stuck "range over a function: no such loop" (fx P.a ⟨fn,tmps,todo,defers,.run,kind,round⟩)) w))).drawn<=w.drawn+n) :
  FN P SB H zZ BB T Gn β w W (cd (seen P.a fn ((b8 l j).L P.a w #[]).2) (match ((b8 l j).L P.a w #[]).1 with
    |.ok v w=>cE P.a main ⟨fn,tmps,todo,defers,.run,kind,round⟩ cs bs v w
    |.halt _ w=>.ended (.stuck "range over a function: no such loop" (fx P.a ⟨fn,tmps,todo,defers,.run,kind,round⟩)) w))
   (cd (seen P.b fn ((b8 L j).L P.b W #[]).2) (match((b8 L j).L P.b W #[]).1 with
    |.ok v w=>cE P.b main2 ⟨fn,Gq,Hu,FO,.run,kind,round'⟩ CS bs v w
    |.halt _ w=>.ended (.stuck "range over a function: no such loop" (fx P.b ⟨fn,Gq,Hu,FO,.run,kind,round'⟩)) w)):=by
 have hm:=nP (P:=P) (Ck:=CK P.a SB zZ) (G:=Gn) (S:=SP SB H) hl hh j hj;have hE:=hm w W n hw ht #[] #[];rcases hr:(b8 l j).L P.a w #[] with⟨r,es⟩
 rw[hr] at hb hE;cases r with
 |ok v w' =>
  have a6:w'.drawn<=w.drawn+n:=by
   have:∀cs,(aL (cd (seen P.a fn es) (cE P.a main ⟨fn,tmps,todo,defers,.run,kind,round⟩ cs bs v w')))=w'\/cs=[]:=by
    intro cs;cases cs with
    |nil=>exact .inr rfl
    |cons c cs =>
     refine .inl ?_;unfold cE;cases kind<;>rfl
   obtain h|h:=this cs
   .rw[<-h];exact hb
   .exact AH h zU
  obtain⟨DZ,X,W',ES,e1,e2,e3⟩:=hE a6;simp only[e1,Bp];have hc':=hc.LT λ_ _ (r:Ej P.a SB H zZ β _ _)=>r.LT e3.le;have a8:=e3.seen (P:=P) (SB:=SB) (H:=H) (zZ:=zZ) fn;have:=fd (P:=P) (main:=main) (main2:=main2) (BB:=BB) (fr:=⟨fn,tmps,todo,defers,.run,kind,round⟩) (FR:=⟨fn,Gq,Hu,FO,.run,kind,round'⟩) rfl a7.1 hc' zU e2 a8 (seen P.a fn es);simpa using this
 |halt x w'=>trivial
end
def _root_.Go.Em.D8.QE {S:Fu}{Ck:cU->Prop}{α Hh:Type}{m:Sem α}{M:Sem Hh}{R:Ef->α->Hh->Prop}(h:D8 P S Ck Gn β m M R){w W:bb}(hw:EA S Ck Gn β w W){a6 es:Array cw}{a:α}{w':bb}(hr:m.L P.a w a6=(.ok a w',es)):∃DZ A W',R DZ a A/\β.le DZ/\EA S Ck Gn DZ w' W':=by
 have hw':EA S Ck Gn β w { W with tape:=λi q=>w.tape (w.drawn+(i-W.drawn)) q }:=⟨hw.Fl,hw.room,hw.FD,hw.FU,hw.old,hw.env⟩
 have:=h w { W with tape:=λi q=>w.tape (w.drawn+(i-W.drawn)) q } ((world (m.L P.a w a6).1).drawn-w.drawn) hw' (λi _ q=>by
  show w.tape (w.drawn+i) q=w.tape (w.drawn+(W.drawn+i-W.drawn)) q
  rw[show W.drawn+i-W.drawn=i from by omega]) a6 #[] (by omega)
 rw[hr] at this;obtain⟨DZ,A,W',_,_,h,hf⟩:=this;exact⟨DZ,A,W',h,hf.le,hf.rel⟩
def nQ {fr:br}{cs:List br}{m M:Sem fl}(hm:D8 P (SP SB H) (CK P.a SB zZ) Gn β m M (H9 (SP SB H) (CK P.a SB zZ))){w W:bb}(hw:EA (SP SB H) (CK P.a SB zZ) Gn β w W) :
  w.drawn<=(aL (cK P.a Z fr cs bs m w)).drawn:=by
 have h0:=GK P.a m w #[];have a6:=hm.Ni hw #[];have hsome:=λ(a:fl) (w':bb) (es:Array cw) (e:m.L P.a w #[]=(.ok a w',es))=>hm.some hw e;unfold cK;simp only[if_true];rcases hr:m.L P.a w #[] with⟨r,es⟩
 rw[hr] at a6 h0;cases r with
 |ok x w' =>
  obtain⟨_,_,hx⟩:=hsome x w' es hr;cases hx<;>exact h0
 |halt x w' =>
  cases x with
  |panic v=>exact h0
  |stuck s=>exact h0
  |unsupported u =>
   cases u with
   |initOrder g=>exact AH rfl (a6 g)
   |_=>exact h0
  |_=>exact a6.elim
def FN.after {w W w' W':bb}{ES:List cw}(hf:Fin (SP SB H) (CK P.a SB zZ) Gn β DZ w W w' W' ES){s S:GStep}(h:FN P SB H zZ BB T Gn DZ w' W' s S)(es:Array cw):FN P SB H zZ BB T Gn β w W (cd es s) (cd ES.Li S):=by
 cases s with
 |go g w2 es2 =>
  obtain h|⟨a6,g2,W2,ES2,rfl,h2,h3⟩:=h
  .exact Or.inl h
  refine bq ⟨a6,g2,W2,_,rfl,h2,?_⟩;have:=hf.trans h3;simpa using this
 |ended o w es=>trivial
 |_=>exact h.elim
def tC (L:Lib P SB H zZ BB Gn){fr FR:br}{cs CS:List br}(hf:Ej P.a SB H zZ β fr FR)(hm:fr.mode=.run)(hc:Fi P.a SB H zZ T β cs CS)(zK:MS P.a SB fr){w W:bb}{n:Nat}(hw:EA (SP SB H) (CK P.a SB zZ) Gn β w W)(ht:Kd n w W)
  (hb:(aL (bl P.a main Z fr cs bs w)).drawn<=w.drawn+n) :
  FN P SB H zZ BB T Gn β w W (bl P.a main Z fr cs bs w) (bl P.b main2 Z FR CS bs W):=by
 obtain⟨fn,tmps,todo,defers,mode,kind,round⟩:=fr;obtain⟨G2,Gq,Hu,FO,aT,aU,round'⟩:=FR;have aB:=hf;obtain⟨a1,a2,a3,a4,a5,a6,a7,a8⟩:=hf;dsimp only at a1 a2 a3 a4 a5 a6 a7 a8 hm;subst a1 a6 hm;cases a5;cases a3 with
 |nil =>
  cases a8 with
  |none =>
   simp only[bl] at hb ⊢;exact bm a2 .nil a4 .returning a7 .none hc hw
  |@some l L' hl hh =>
   have zU:cs≠[]:=hc.ne;simp only[bl] at hb ⊢;exact dJ bs (λc e=>by cases e) a7 hl hh hc zU hw ht hb
 |@cons i I l L' hi hl =>
  cases hi with
  |@code c aA =>
   have leave : ∀ (j : Option cU), (∀ c, j = bW c -> codeOk P.a SB zZ J c = Z) -> (∀ c, j = bW c -> c ≠ .ret -> round ≠ bs) ->
     bl P.a main Z ⟨fn,tmps,.code c::l,defers,.run,kind,round⟩ cs bs w=bl P.a main Z ⟨fn,tmps,.code c::l,defers,.run,kind,round⟩ cs bs w->True:=λ_ _ _ _=>trivial
   cases c with
   |skip=>exact bm a2 hl a4 .run a7 a8 hc hw
   |label l0=>exact bm a2 hl a4 .run a7 a8 hc hw
   |refuse s=>trivial
   |ret =>
    cases a8 with
    |none=>exact bm a2 (.cons (.code aA) hl) a4 .returning a7 .none hc hw
    |@some l0 L0 hl0 hh =>
     have zU:cs≠[]:=hc.ne;exact dJ (bW .ret) (λc e=>by cases e;rfl) a7 hl0 hh hc zU hw ht hb
   |seq a b =>
    simp only[codeOk,AO] at aA;exact bm a2 (.cons (.code aA.1) (.cons (.code aA.2) hl)) a4 .run a7 a8 hc hw
   |cond x a b =>
    simp only[codeOk,AO] at aA;have hx:=aB.eval aA.1.1;simp only[bl] at hb ⊢;revert hx;generalize cF ⟨fn,tmps,.code (.cond x a b)::l,defers,.run,kind,round⟩ x=v;generalize cF ⟨fn,Gq,.code (.cond x a b)::L',FO,.run,kind,round'⟩ x=V;intro hx;cases hx with
    |bool t =>
     cases t with
     |true=>exact bm a2 (.cons (.code aA.1.2) hl) a4 .run a7 a8 hc hw
     |false=>exact bm a2 (.cons (.code aA.2) hl) a4 .run a7 a8 hc hw
    |_=>trivial
   |block id b=>exact bm a2 (.cons (.code aA) (.cons (.inBlock id) hl)) a4 .run a7 a8 hc hw
   |loop b=>exact bm a2 (.cons (.code aA) (.cons (.inLoop aA) hl)) a4 .run a7 a8 hc hw
   |scope b=>exact bm a2 (.cons (.code aA) (.cons (.inScope aA) hl)) a4 .run a7 a8 hc hw
   |exit id =>
    obtain⟨e1,e2⟩|⟨k,K,e1,e2,hk⟩:=Mt id hl
    .cases a8 with
     |none=>simp only[bl,e1,di];trivial
     |@some l0 L0 hl0 hh =>
      have zU:cs≠[]:=hc.ne;simp only[bl,e1,e2,di] at hb ⊢;exact dJ (bW (.exit id)) (λc e=>by cases e;rfl) a7 hl0 hh hc zU hw ht hb
    .simp only[bl,e1,e2,eV];exact bm a2 hk a4 .run a7 a8 hc hw
   |goto l1 =>
    obtain⟨e1,e2⟩|⟨k,K,e1,e2,hk⟩:=Mv l1 hl
    .cases a8 with
     |none=>simp only[bl,e1,di];trivial
     |@some l0 L0 hl0 hh =>
      have zU:cs≠[]:=hc.ne;simp only[bl,e1,e2,di] at hb ⊢;exact dJ (bW (.goto l1)) (λc e=>by cases e;rfl) a7 hl0 hh hc zU hw ht hb
    .simp only[bl,e1,e2,eV];exact bm a2 hk a4 .run a7 a8 hc hw
   |rangeFunc f ps Az bo =>
    simp only[codeOk,AO] at aA;have ho:(round=bs/\round'=bs)\/∃l L,round=bW l/\round'=bW L/\β l L/\(SP SB H).LT l=false:=by
     cases a8 with
     |none=>exact .inl ⟨rfl,rfl⟩
     |some x y=>exact .inr ⟨_,_,rfl,rfl,x,y⟩
    have hm:=mp (P:=P) (Ck:=CK P.a SB zZ) (G:=Gn) (S:=SP SB H) fn a7.2 a2 ps aA.1.2 aA.2 ho;have hE:=hm w W n hw ht #[] #[];simp only[bl] at hb ⊢;rcases hr:(dn fn tmps ps Az bo round).L P.a w #[] with⟨r,es⟩
    rw[hr] at hb hE;cases r with
    |ok x w' =>
     obtain⟨l0,mark⟩:=x;have next : ∀ (DZ : Ef) (l0 L0 : Nat), β.le DZ -> DZ l0 L0 -> H l0 = J -> ∀ (m M : List cq),
       D8 P (SP SB H) (CK P.a SB zZ) Gn DZ (do
        let d<-resolve (cF ⟨fn,tmps,.inRangeFunc l0::l,m++defers,.run,kind,round⟩) { callee:=.value f,args:=#[.const (.func (.yield l0) #[] #[])],argTypes:=#[] } 0
        invoke d.target d.args) (do
        let d<-resolve (cF ⟨fn,Gq,.inRangeFunc L0::L',M++FO,.run,kind,round'⟩) { callee:=.value f,args:=#[.const (.func (.yield L0) #[] #[])],argTypes:=#[] } 0
        invoke d.target d.args) (H9 (SP SB H) (CK P.a SB zZ)):=by
      intro DZ l0 L0 zX hl0 aN m M;unfold resolve;dsimp only;have hx:DX (SP SB H) DZ (cF ⟨fn,tmps,.inRangeFunc l0::l,m++defers,.run,kind,round⟩ f) (cF ⟨fn,Gq,.inRangeFunc L0::L',M++FO,.run,kind,round'⟩ f):=by
       have:=(aB.eval aA.1.1).LT zX;cases f with
       |tmp t=>exact this
       |const v=>exact this
       |global g=>exact this
       |func g=>exact this
      refine DT (gf hx ?_) ?_
      .simp only[CA,Ca,CB,cF];exact D6.one (.func (.yield hl0 aN) rfl (by simp) rfl (by simp))
      .intro aO d D _ hd;exact gY L.calls hd
     obtain⟨aP,⟨L1,M1⟩,W1,hx1,aQ,aR⟩:=hm.QE hw hr;have hd:=nQ (fr:=⟨fn,tmps,.inRangeFunc l0::l,mark++defers,.run,kind,round⟩) (cs:=cs) (next aP l0 L1 aQ hx1.1 hx1.2.1 mark M1) aR;have aS:w'.drawn<=w.drawn+n:=by
      have e:∀s,aL (cd (seen P.a fn es) s)=aL s:=λs=>by cases s<;>rfl
      rw[e] at hb;exact AX hd hb
     obtain⟨DZ,⟨L0,M0⟩,W',ES,e1,⟨e2,aD,aJ⟩,e3⟩:=hE aS;simp only[e1,Bp];have hc':=hc.LT λ_ _ (r:Ej P.a SB H zZ β _ _)=>r.LT e3.le;have zR:Ej P.a SB H zZ DZ ⟨fn,tmps,.inRangeFunc l0::l,mark++defers,.run,kind,round⟩ ⟨fn,Gq,.inRangeFunc L0::L',M0++FO,.run,kind,round'⟩ :=
      ⟨rfl,a2.LT e3.le,.cons (.inRangeFunc e2 aD) (hl.LT λ_ _=>F6.LT e3.le),aJ.append (a4.LT λ_ _=>Fx.LT e3.le),.run,rfl,a7,a8.LT e3.le⟩
     have h3:=e3.drawn
     have:=ia (BB:=BB) L zR hc' (next DZ l0 L0 e3.le e2 aD mark M0) e3.rel (ht.rest e3) (by
      have e:∀s,aL (cd (seen P.a fn es) s)=aL s:=λs=>by cases s<;>rfl
      rw[e] at hb;refine AX hb ?_
      omega)
     have:=FN.after (e3.seen (P:=P) (SB:=SB) (H:=H) (zZ:=zZ) fn) this (seen P.a fn es);simpa using this
    |halt x w'=>trivial
   |region id ops draw =>
    have aG:ops.all (cn P.a SB zZ round.L)=true:=by have h0:=aA;simp only[codeOk,AO] at h0;exact h0.1
    cases draw with
    |false=>exact bm a2 (.cons (.inRegion aG) hl) a4 .run a7 a8 hc hw
    |true =>
     have hm:=fv (P:=P) (Ck:=CK P.a SB zZ) (G:=Gn) (S:=SP SB H) (β:=β) (.order fn id);have hE:=hm w W n hw ht #[] #[];simp only[bl,Bool.not_true,Ba,if_false] at hb ⊢;rw[<-Sem.runT_fst P.a (choose (.order fn id)) w #[]] at hb ⊢;rw[<-Sem.runT_fst P.b (choose (.order fn id)) W #[]];rcases hr:(choose (.order fn id)).L P.a w #[] with⟨r,es⟩
     rw[hr] at hb hE;cases r with
     |ok t w' =>
      obtain⟨DZ,X,W',ES,e1,e2,e3⟩:=hE hb;simp only[e1];subst e2;have hc':=hc.LT λ_ _ (r:Ej P.a SB H zZ β _ _)=>r.LT e3.le;exact bq ⟨DZ,_,W',_,rfl,aM ⟨rfl,a2.LT e3.le,.cons (.inRegion aG) (hl.LT λ_ _=>F6.LT e3.le),a4.LT λ_ _=>Fx.LT e3.le,.run,rfl,a7,a8.LT e3.le⟩ hc',{ e3 with evs:=by simp }⟩
     |halt x w'=>trivial
  |inBlock id=>exact bm a2 hl a4 .run a7 a8 hc hw
  |@inLoop c aA=>exact bm a2 (.cons (.code aA) (.cons (.inLoop aA) hl)) a4 .run a7 a8 hc hw
  |@inScope c aA=>exact bm a2 hl a4 .run a7 a8 hc hw
  |@inRegion ops todo ho =>
   cases todo with
   |nil=>exact bm a2 hl a4 .run a7 a8 hc hw
   |cons i rest =>
    have hy:yielded ops Gq=yielded ops tmps:=(funext λj=>iZ a2 ops j).LT;simp only[bl,hy] at hb ⊢;by_cases aF:(Option.map (λx=>Region.wanted x (yielded ops tmps)) ops[i]?).LE J=Z
    .simp only[AJ aF] at hb ⊢;cases hoi:ops[i]? with
     |none=>rw[hoi] at aF;cases aF
     |some o =>
      have aK:=zK o (by unfold e9;exact hoi);have aC:cn P.a SB zZ round.L o=true:=by
       simp only[Bb] at ho;exact ho o (Bi hoi)
      unfold cn at aC;rw[aK] at aC;simp only[Cd,CW,AO,Bm,BX] at aC;have key:∀(p:bh) (t:Array bk) (k:List fu) (ds:List cq) (r:Option Nat),r.L=round.L->∀cs w,hZ p Z ⟨fn,t,.inRegion ops (i::rest)::k,ds,.run,kind,r⟩ cs bs w=cK p Z ⟨fn,t,.inRegion ops (i::rest)::k,ds,.run,kind,r⟩ cs bs (hP (cF ⟨fn,t,.inRegion ops (i::rest)::k,ds,.run,kind,r⟩) o) w:=by
       intro p t k ds r hr cs w;unfold hZ e9;simp only[hoi];cases r with
       |none=>rfl
       |some l0 =>
        rw[<-hr] at aC;cases hop:o.op with
        |defer c=>rw[hop] at aC;simp[oG] at aC
        |_=>rfl
      rw[key _ _ _ _ _ rfl] at hb ⊢;rw[key _ _ _ _ _ (rg a8).LT];exact ia L aB hc (rf L.Rj L.calls (λx hx=>aB.eval hx) aC.1) hw ht hb
    .simp only[AE aF] at hb ⊢;exact bq ⟨β,_,W,_,rfl,aM (bf aB (.tuple rfl (by simp))) hc,by simpa using Fin.refl hw⟩
  |inRangeFunc x y=>trivial
  |@endRangeFunc l0 L0 x y =>
   have hm:=pO (P:=P) (Ck:=CK P.a SB zZ) (G:=Gn) (S:=SP SB H) x y;have hE:=hm w W n hw ht #[] #[];have aI:=hm.Ni hw #[];simp only[bl] at hb ⊢;rcases hr:(ez l0).L P.a w #[] with⟨r,es⟩
   rw[hr] at hb hE aI;cases r with
   |ok j w' =>
    obtain⟨DZ,X,W',ES,e1,⟨e2,aD⟩,e3⟩:=hE hb;subst e2;simp only[e1,Bp];have hc':=hc.LT λ_ _ (r:Ej P.a SB H zZ β _ _)=>r.LT e3.le;have aH:=e3.seen (P:=P) (SB:=SB) (H:=H) (zZ:=zZ) fn;have hl':=hl.LT λ_ _ (r:F6 P.a SB H zZ round.L β _ _)=>r.LT e3.le;refine bq ⟨DZ,_,W',_,rfl,aM ⟨rfl,a2.LT e3.le,?_,a4.LT λ_ _=>Fx.LT e3.le,.run,rfl,a7,a8.LT e3.le⟩ hc',by simpa using aH⟩
    cases j with
    |none=>exact hl'
    |some c=>exact .cons (.code (bz (aD c rfl))) hl'
   |halt x w' =>
    cases x with
    |panic v =>
     obtain⟨DZ,X,W',ES,e1,e2,e3⟩:=hE hb;simp only[e1,Bp];have hc':=hc.LT λ_ _ (r:Ej P.a SB H zZ β _ _)=>r.LT e3.le;have aH:=e3.seen (P:=P) (SB:=SB) (H:=H) (zZ:=zZ) fn;exact bq ⟨DZ,_,W',_,rfl,aM (cL (aB.LT e3.le) (.cons (.mk _ _ e2) .nil)) hc',by simpa using aH⟩
    |_=>trivial
  |beginRound =>
   have hm:D8 P (SP SB H) (CK P.a SB zZ) Gn β (do round.elim (stuck "beginRound: no round") df;pure .skip:Sem fl) (do round'.elim (stuck "beginRound: no round") df;pure .skip) (H9 (SP SB H) (CK P.a SB zZ)):=by
    cases a8 with
    |none=>exact DT (R:=λ_ _ _=>False) D4 (λ_ _ _ _ h=>h.elim)
    |some x y =>
     refine DT (lN x y) ?_;intro aO _ _ _ _;exact DV .skip
   simp only[bl] at hb ⊢;exact ia L aB hc hm hw ht hb
def Ready (p:bh)(SB:N->Bool)(g:U):Prop:=g.L.mode=.run->MS p SB g.L
def dL (L:Lib P SB H zZ BB Gn){g g2:U}(hg:FV P SB H zZ BB T β g g2)(a8:Ej P.a SB H zZ β g.L g2.L)(hr:Ready P.a SB g){w W:bb}{n:Nat}(hw:EA (SP SB H) (CK P.a SB zZ) Gn β w W)(ht:Kd n w W)
  (hb:(aL (bw P.a main g w)).drawn<=w.drawn+n) :
  FN P SB H zZ BB T Gn β w W (bw P.a main g w) (bw P.b main2 g2 W):=by
 obtain⟨fr,cs,st,dy,off⟩:=g;obtain⟨FR,CS,Jj,dy',a7⟩:=g2;obtain⟨h1,h2,⟨h3,aB⟩,⟨h4,aA⟩,⟨h5,h5'⟩⟩:=hg;dsimp only at *;subst h4 aA;have hm:=a8.mode;cases a6:fr.mode with
 |run =>
  rw[a6] at hm;have e1:bw P.a main ⟨fr,cs,st,bs,off⟩ w=bl P.a main Z fr cs bs w:=by unfold bw;simp only[a6]
  have e2:bw P.b main2 ⟨FR,CS,Jj,bs,a7⟩ W=bl P.b main2 Z FR CS bs W:=by
   have:FR.mode=.run:=by generalize FR.mode=q at hm;cases hm;rfl
   unfold bw;simp only[this]
  rw[e1] at hb ⊢;rw[e2];exact tC L a8 a6 h2 (hr a6) hw ht hb
 |returning =>
  rw[a6] at hm;have e1:bw P.a main ⟨fr,cs,st,bs,off⟩ w=unwind P.a main fr cs bs w:=by unfold bw;simp only[a6]
  have e2:bw P.b main2 ⟨FR,CS,Jj,bs,a7⟩ W=unwind P.b main2 FR CS bs W:=by
   have:FR.mode=.returning:=by generalize FR.mode=q at hm;cases hm;rfl
   unfold bw;simp only[this]
  rw[e1] at hb ⊢;rw[e2];exact jI L a8 h2 hw ht hb
 |panicking l =>
  rw[a6] at hm;have e1:bw P.a main ⟨fr,cs,st,bs,off⟩ w=unwind P.a main fr cs bs w:=by unfold bw;simp only[a6]
  have e2:bw P.b main2 ⟨FR,CS,Jj,bs,a7⟩ W=unwind P.b main2 FR CS bs W:=by
   have:∃l,FR.mode=.panicking l:=by generalize FR.mode=q at hm;cases hm;exact⟨_,rfl⟩
   obtain⟨l,this⟩:=this;unfold bw;simp only[this]
  rw[e1] at hb ⊢;rw[e2];exact jI L a8 h2 hw ht hb
end
def Er.of (p:bh):Er:=⟨p,p.L⟩
abbrev Er.self (P:Er):Er:=Er.of P.a
section
variable {P:Er} {SB:N->Bool} {H:Hid} {zZ:Bool} {BB:N->Bool} {β:Ef} {G:Nat}
def F6.id {ad:Bool}(h:β.NM){i I:fu}(r:F6 P.a SB H zZ ad β i I):i=I:=by
 cases r with
 |inRangeFunc hl _=>rw[h _ _ hl]
 |endRangeFunc hl _=>rw[h _ _ hl]
 |_=>rfl
def Jw.id (h:KX H β){m M:eo}(r:Jw SB H β m M):m=M:=by
 cases r with
 |panicking l=>rw[E3.id (λa A (r:Jn SB H β a A)=>by cases r with|mk x y v=>rw[v.id h]) l]
 |_=>rfl
def Ht.id (h:β.NM){o O:Option Nat}(r:Ht H β o O):o=O:=by
 cases r with
 |none=>rfl
 |some hl _=>rw[h _ _ hl]
def Ej.id (h:KX H β){f F:br}(r:Ej P.a SB H zZ β f F):f=F:=by
 have h1:=r.fn;have h2:=r.tmps.id h;have h3:=r.todo.id λ_ _=>F6.id h.2;have h4:=r.defers.id λ_ _=>Fx.id h;have h5:=r.mode.id h;have h6:=r.kind;have h7:=r.round.id h.2;obtain⟨b1,b2,b3,b4,b5,b6,b7⟩:=F;dsimp only at *;subst h1 h2 h3 h4 h5 h6 h7
 rfl
def Ga.id (h:KX H β){f F:br}(r:Ga P.self SB H zZ BB β f F):f=F:=by
 cases r with
 |on r=>exact r.id h
 |stop _ _ _ a=>rw[a.id h];rfl
def Fi.id (h:KX H β){cs CS:List br}(r:Fi P.a SB H zZ [bad] β cs CS):cs=CS:=by
 induction r with
 |base=>rfl
 |cons a _ ih=>rw[a.id h,ih]
def FV.id (h:KX H β){g g':U}(r:FV P.self SB H zZ BB [bad] β g g'):g=g':=by
 have h1:=r.top.id h;have h2:=r.callers.id h;obtain⟨a1,a2,a3,a4,a5⟩:=g;obtain⟨b1,b2,b3,b4,b5⟩:=g';obtain⟨_,_,⟨s1,s2⟩,⟨d1,d2⟩,⟨o1,o2⟩⟩:=r;dsimp only at *;subst h1 h2 s1 s2 d1 d2 o1 o2
 rfl
end
def on (w:bb)(τ:Tape)(d:Nat):World:={ w with tape:=τ,drawn:=d }
def Ek (w W:bb):Prop:=W.heap=w.heap/\W.os=w.os/\W.output=w.output
def Dc {w:bb}{τ:Tape}{d:Nat}:Ek w (on w τ d):=⟨rfl,rfl,rfl⟩
def Ek.LT {w W:bb}(h:Ek w W):Ek W w:=⟨h.1.LT,h.2.1.LT,h.2.2.LT⟩
def Ek.trans {w W X:bb}(h:Ek w W)(k:Ek W X):Ek w X:=⟨k.1.trans h.1,k.2.1.trans h.2.1,k.2.2.trans h.2.2⟩
def Ek.eq {w W:bb}(h:Ek w W):W=on w W.tape W.drawn:=by
 obtain⟨a,b,c,d,e⟩:=W;obtain⟨h1,h2,h3⟩:=h;dsimp only at *;subst h1 h2 h3
 rfl
def EA.same {S:Fu}{Ck:cU->Prop}{G:Nat}{β:Ef}{w W w1 W1:bb}(h:EA S Ck G β w W)(e:w1.heap=w.heap)(E:W1.heap=W.heap)(o:w1.os.env=W1.os.env):EA S Ck G β w1 W1 :=
 ⟨h.Fl,by rw[e,E];exact h.room,by rw[e,E];exact h.FD,by rw[e,E];exact h.FU,by rw[e];exact h.old,o⟩
def Path (P:bh)(Q:U->bb->Prop):Nat->U->bb->Prop
 |0,g,w=>Q g w
 |n+1,g,w=>Q g w\/∃g' w' es,bw P Z g w=.go g' w' es/\g'.callers≠[]/\Path P Q n g' w'
inductive D9 (P:bh)(Ev:U->bb->Prop)(Q:U->bb->Prop):U->bb->Prop
 |fin {g:U} {w:bb}:Q g w->D9 P Ev Q g w
 |next {g:U} {w:bb} (ng:Tape->Nat->U) (nw:Tape->Nat->bb):Ev g w->(∀τ d,(∃es,bw P Z g (on w τ d)=.go (ng τ d) (nw τ d) es)/\(ng τ d).callers≠[])->(∀τ d,D9 P Ev Q (ng τ d) (nw τ d))->D9 P Ev Q g w
def D9.step {P:bh}{Ev Q:U->bb->Prop}{g:U}{w:bb}(he:Ev g w)(h:∀τ d,∃g' w' es,bw P Z g (on w τ d)=.go g' w' es/\g'.callers≠[]/\D9 P Ev Q g' w'):D9 P Ev Q g w :=
 .next (λτ d=>bn (h τ d)) (λτ d=>bn (bc (h τ d))) he
  (λτ d=>by
   obtain⟨es,h1,h2,_⟩:=bc (bc (h τ d))
   exact⟨⟨es,h1⟩,h2⟩)
  (λτ d=>by
   obtain⟨es,_,_,h3⟩:=bc (bc (h τ d))
   exact h3)
section
variable {P:bh} {SB:N->Bool} {H:Hid} {BB:N->Bool} {T:List br} {β:Ef} {G:Nat}
def NS {f F:br}(r:Ej P SB H J β f F):MS P SB f:=by
 intro o ho;have key:∀(t T:List fu),E3 (F6 P SB H J f.roundOf.L β) t T->(match t with|.inRegion ops (i::_)::_=>ops[i]?|_=>bs)=bW o->KB P SB o.op=false:=by
  intro t T h e;cases h with
  |nil=>cases e
  |cons hi _ =>
   cases hi with
   |@inRegion ops l a6 =>
    cases l with
    |nil=>cases e
    |cons i rest =>
     simp only[Bb] at a6;have:=a6 o (Bi e);unfold cn at this;simp only[B7,CW,AO] at this;exact vJ this.1
   |_=>cases e
 refine key f.todo F.todo r.todo ?_;unfold e9 at ho;exact ho
def mq {p:bh}{f:N}{fn:Func}{s:String}(h:p.L[f]?=bW fn)(hb:fn.body=bW (.refuse s))(a:Array bk)(k:eG)(cs:List br)(w:bb)(main:Bool){g':U}{w':bb}{es:Array cw} :
  bw p main ⟨b9 p f a k,cs,.L,bs,bs⟩ w≠.go g' w' es:=by
 intro e;simp[bw,b9,h,hb,bl] at e
def FV.Rk {T:List br}(L:Lib (Er.of P) SB H J SB G){g g2:U}(hg:FV (Er.of P) SB H J SB T β g g2){main:Bool}{w:bb}{g':U}{w':bb}{es:Array cw}(e:bw P main g w=.go g' w' es):Ej P SB H J β g.L g2.L:=by
 have a6:=hg.top;obtain⟨fr,cs,st,dy,off⟩:=g;obtain⟨_,_,⟨z1,_⟩,⟨z2,_⟩,⟨z3,_⟩⟩:=hg;dsimp only at a6 z1 z2 z3 ⊢;subst z1 z2 z3;generalize g2.L=FR at a6 ⊢;cases a6 with
 |on h=>exact h
 |@stop f a A k h1 h2 =>
  exfalso;obtain h1|h1:=h1
  .rw[h1] at h2;cases h2
  .obtain⟨fn,s,q1,q2⟩:=L.bars f h1;exact mq (p:=P) q1 q2 _ _ _ _ _ e
structure Self (P:bh)(SB:N->Bool)(H:Hid)(G:Nat)(g:U)(w:bb):Prop where
 bW:∃β:Ef,KX H β/\FV (Er.of P) SB H J SB [bad] β g g/\EA (SP SB H) (CK P SB J) G β w w
def Hj (L:Lib (Er.of P) SB H J SB G){g:U}{w W:bb}(hs:Self P SB H G g w)(hh:Ek w W){n:Nat}(ht:Kd n w W){g':U}{w':bb}{es:Array cw}
  (zG:bw P Z g w=.go g' w' es) (hb:w'.drawn<=w.drawn+n) (zU:g'.callers≠[]) :
  ∃W' ES,bw P Z g W=.go g' W' ES/\Ek w' W'/\W'.tape=W.tape/\W'.drawn+w.drawn=W.drawn+w'.drawn/\w.drawn<=w'.drawn/\w'.tape=w.tape/\Self P SB H G g' w':=by
 obtain⟨β,hi,hg,hw⟩:=hs;have hw2:EA (SP SB H) (CK P SB J) G β w W:=hw.same rfl hh.1 (by rw[hh.2.1]);have a6:=hg.Rk L zG;have hb':(aL (bw P Z g w)).drawn<=w.drawn+n:=by rw[zG];exact hb
 have:FN (Er.of P) SB H J SB [bad] G β w W (bw P Z g w) (bw P Z g W):=dL (main:=Z) (main2:=Z) L hg a6 (λ_=>NS a6) hw2 ht hb';rw[zG] at this;obtain⟨h0,_⟩|⟨DZ,g2,W',ES,e,h1,h2⟩:=this
 .exact AH h0 zU
 obtain⟨i1,i2⟩:=h2.same hi hh.1.LT;have eg:=FV.id (P:=Er.of P) i1 h1;subst eg;exact⟨W',ES,e,⟨i2.LT,h2.OS.trans (hh.2.1.trans h2.os.LT),h2.OUT.trans (hh.2.2.trans h2.out.LT)⟩,h2.TAPE,h2.draws,h2.drawn,h2.tape,⟨DZ,i1,h1,h2.rel.same rfl i2 rfl⟩⟩
variable {Q:U->bb->Prop}
def pQ (L:Lib (Er.of P) SB H J SB G)(hQ:∀g w W,Ek w W->Q g w->Q g W){n:Nat}{g:U}{w W:bb}(hs:Self P SB H G g w)(hh:Ek w W)(ht:∀m,Kd m w W)(h:Path P Q n g w):Path P Q n g W:=by
 induction n generalizing g w W with
 |zero=>exact hQ _ _ _ hh h
 |succ n ih =>
  obtain h|⟨g',w',es,h1,h2,h3⟩:=h
  .exact .inl (hQ _ _ _ hh h)
  .obtain⟨W',ES,e1,e2,e3,e4,e5,e6,e7⟩:=Hj L hs hh (ht (w'.drawn-w.drawn)) h1 (by omega) h2;refine .inr ⟨g',W',ES,e1,h2,ih e7 e2 ?_ h3⟩;intro m i hi q;have:=ht ((w'.drawn-w.drawn)+i+1) ((w'.drawn-w.drawn)+i) (by omega) q;rw[e3,e6];rw[show w'.drawn+i=w.drawn+(w'.drawn-w.drawn+i) from by omega,show W'.drawn+i=W.drawn+(w'.drawn-w.drawn+i) from by omega];exact this
def Path.NT {n:Nat}{g:U}{w:bb}(h:Path P Q n g w)(hq:¬Q g w):∃m g' w' es,bw P Z g w=.go g' w' es/\g'.callers≠[]/\Path P Q m g' w':=by
 cases n with
 |zero=>exact AH h hq
 |succ n =>
  obtain h|⟨g',w',es,h⟩:=h
  .exact AH h hq
  .exact⟨n,g',w',es,h⟩
structure NU (P:bh)(SB:N->Bool)(H:Hid)(G:Nat)(Q:U->bb->Prop)(g:U)(w:bb):Prop where
 self:Self P SB H G g w
 ends:∀τ d,∃n,Path P Q n g (on w τ d)
def Self.same {g:U}{w W:bb}(h:Self P SB H G g w)(e:Ek w W):Self P SB H G g W:=by
 obtain⟨β,h1,h2,h3⟩:=h;exact⟨β,h1,h2,h3.same e.1 e.1 rfl⟩
def NU.next (L:Lib (Er.of P) SB H J SB G)(hQ:∀g w W,Ek w W->Q g w->Q g W){g:U}{w:bb}(h:NU P SB H G Q g w)(hq:¬Q g w){τ:Tape}{d:Nat}{g':U}{w':bb}{es:Array cw}
  (zG:bw P Z g (on w τ d)=.go g' w' es) (zU:g'.callers≠[]):NU P SB H G Q g' w':=by
 have hs:=h.self.same (Dc (τ:=τ) (d:=d));obtain⟨_,_,_,_,_,_,hd,a8,hs'⟩:=Hj L hs (W:=on w τ d) ⟨rfl,rfl,rfl⟩ (n:=w'.drawn-(on w τ d).drawn) (λ_ _ _=>rfl) zG (by omega) zU;refine⟨hs',λa6 d'=>?_⟩
 let a7:Tape:=λi=>if i<w'.drawn then τ i else a6 (i-w'.drawn+d')
 obtain⟨n,hp⟩:=h.ends a7 d;obtain⟨m,g2,w2,es2,k1,k2,k3⟩:=hp.NT (λhq'=>hq (hQ g (on w a7 d) w ⟨rfl,rfl,rfl⟩ hq'))
 obtain⟨W',ES,e1,e2,e3,e4,e5,_,_⟩:=Hj L hs (W:=on w a7 d) ⟨rfl,rfl,rfl⟩ (n:=w'.drawn-(on w τ d).drawn) (λi hi q=>by
  show τ (d+i) q=(if d+i<w'.drawn then τ (d+i) else a6 (d+i-w'.drawn+d')) q;have:d+i<w'.drawn:=by have:(on w τ d).drawn=d:=rfl;omega
  rw[AJ this]) zG (by omega) zU
 rw[k1] at e1;cases e1;refine⟨m,pQ L hQ (hs'.same e2) (W:=on w' a6 d') ⟨e2.1.LT,e2.2.1.LT,e2.2.2.LT⟩ ?_ k3⟩;intro m i _ q;have e4':w2.drawn=w'.drawn:=by have:(on w a7 d).drawn=d:=rfl;have:(on w τ d).drawn=d:=rfl;omega
 rw[e3,e4'];show(if w'.drawn+i<w'.drawn then τ (w'.drawn+i) else a6 (w'.drawn+i-w'.drawn+d')) q=a6 (d'+i) q;rw[AE (by omega),show w'.drawn+i-w'.drawn+d'=d'+i from by omega]
structure OT (P:bh)(Q:U->bb->Prop)(C:U->bb->Prop) where
 g:U
 w:bb
 bad:C g w
def fe (L:Lib (Er.of P) SB H J SB G)(hQ:∀g w W,Ek w W->Q g w->Q g W){g:U}{w:bb}(h:NU P SB H G Q g w):D9 P (Self P SB H G) Q g w:=by
 refine Classical.byContradiction λhno=>?_
 let C:U->bb->Prop:=λg w=>NU P SB H G Q g w/\¬D9 P (Self P SB H G) Q g w
 have nq:∀g w,C g w->¬Q g w:=λg w hc hq=>hc.2 (.fin hq);have next:∀x:OT P Q C,∃(τ:Tape) (d:Nat) (y:OT P Q C),∃es,bw P Z x.g (on x.w τ d)=.go y.g y.w es/\y.g.callers≠[]:=by
  rintro⟨g,w,hc⟩;have:¬ ∀τ d,∃g' w' es,bw P Z g (on w τ d)=.go g' w' es/\g'.callers≠[]/\D9 P (Self P SB H G) Q g' w':=λhall=>hc.2 (.step hc.1.self hall);simp only[Classical.not_forall] at this;obtain⟨τ,d,hn⟩:=this;obtain⟨n,hp⟩:=hc.1.ends τ d;obtain⟨m,g',w',es,k1,k2,k3⟩:=hp.NT (λhq'=>nq g w hc (hQ g (on w τ d) w ⟨rfl,rfl,rfl⟩ hq'));refine⟨τ,d,⟨g',w',hc.1.next L hQ (nq g w hc) k1 k2,λhr=>hn ⟨g',w',es,k1,k2,hr⟩⟩,es,k1,k2⟩
 let τ:=λx=>bn (next x)
 let d:=λx=>bn (bc (next x))
 let nx:=λx=>bn (bc (bc (next x)))
 have hnx:∀x:OT P Q C,∃es,bw P Z x.g (on x.w (τ x) (d x))=.go (nx x).g (nx x).w es/\(nx x).g.callers≠[]:=λx=>bc (bc (bc (next x)))
 let s:Nat->OT P Q C:=λk=>Nat.rec ⟨g,w,h,hno⟩ (λ_ x=>nx x) k
 have sS:∀k,s (k+1)=nx (s k):=λk=>rfl
 let n:Nat->Nat:=λk=>(s (k+1)).w.drawn-d (s k)
 let D:Nat->Nat:=λk=>Nat.rec 0 (λk x=>x+n k) k
 have DS:∀k,D (k+1)=D k+n k:=λk=>rfl;have Dm:∀k j,D k<=D (k+j):=by
  intro k j
  induction j with
  |zero=>exact AD _
  |succ j ih=>rw[show k+(j+1)=(k+j)+1 from rfl,DS];omega
 have uniq:∀i k j,D k<=i->i<D (k+1)->D j<=i->i<D (j+1)->k=j:=by
  intro i k j h1 h2 h3 h4;obtain zY|rfl|zY:=Nat.lt_trichotomy k j
  .have:=Dm (k+1) (j-(k+1));rw[show k+1+(j-(k+1))=j from by omega] at this;omega
  .rfl
  .have:=Dm (j+1) (k-(j+1));rw[show j+1+(k-(j+1))=k from by omega] at this;omega
 let T:Tape:=λi q=>@dite _ (∃k,D k<=i/\i<D (k+1)) (Classical.propDecidable _) (λhx=>τ (s (bn hx)) (d (s (bn hx))+(i-D (bn hx))) q) (λ_=>0)
 have hT:∀k i q,i<n k->T (D k+i) q=τ (s k) (d (s k)+i) q:=by
  intro k i q hi;have hx:∃k',D k'<=D k+i/\D k+i<D (k'+1):=⟨k,by omega,by rw[DS];omega⟩;have hc:=bc hx;have e:bn hx=k:=uniq (D k+i) _ _ hc.1 hc.2 (by omega) (by rw[DS];omega);have e1:T (D k+i) q=τ (s (bn hx)) (d (s (bn hx))+(D k+i-D (bn hx))) q:=dif_pos hx;rw[e1,e,Nat.add_sub_cancel_left]
 have stepT:∀k,∃es,bw P Z (s k).g (on (s k).w T (D k))=.go (s (k+1)).g (on (s (k+1)).w T (D (k+1))) es:=by
  intro k;obtain⟨es,k1,k2⟩:=hnx (s k);have a6:=(s k).bad.1.self.same (Dc (τ:=τ (s k)) (d:=d (s k)))
  obtain⟨_,_,_,_,_,_,hd,_,_⟩:=Hj L a6 (W:=on (s k).w (τ (s k)) (d (s k))) ⟨rfl,rfl,rfl⟩ (n:=n k) (λ_ _ _=>rfl) k1 (by
   show(nx (s k)).w.drawn<=d (s k)+((s (k+1)).w.drawn-d (s k))
   rw[sS];omega) k2
  obtain⟨W',ES,e1,e2,e3,e4,_,_,_⟩:=Hj L a6 (W:=on (s k).w T (D k)) ⟨rfl,rfl,rfl⟩ (n:=n k) (λi hi q=>(hT k i q hi).LT) k1 (by
   show(nx (s k)).w.drawn<=d (s k)+((s (k+1)).w.drawn-d (s k))
   rw[sS];omega) k2
  refine⟨ES,e1.trans ?_⟩;have e5:W'.drawn=D (k+1):=by
   have a1:(on (s k).w (τ (s k)) (d (s k))).drawn=d (s k):=rfl;have a2:(on (s k).w T (D k)).drawn=D k:=rfl;have a3:(nx (s k)).w.drawn=(s (k+1)).w.drawn:=rfl;rw[DS];show W'.drawn=D k+((s (k+1)).w.drawn-d (s k));omega
  rw[e2.eq,e3,e5]
  rfl
 have main:∀m k,¬Path P Q m (s k).g (on (s k).w T (D k)):=by
  intro m
  induction m with
  |zero=>exact λk hq=>nq _ _ (s k).bad (hQ _ (on (s k).w T (D k)) _ ⟨rfl,rfl,rfl⟩ hq)
  |succ m ih =>
   intro k hp;obtain hq|⟨g',w',es,k1,_,k3⟩:=hp
   .exact nq _ _ (s k).bad (hQ _ (on (s k).w T (D k)) _ ⟨rfl,rfl,rfl⟩ hq)
   .obtain⟨ES,e⟩:=stepT k;rw[e] at k1;cases k1;exact ih (k+1) k3
 obtain⟨m,hp⟩:=h.ends T 0;exact main m 0 hp
end
def ER (fr:br)(cs:List br):Goroutine:={ frame:=fr,callers:=cs,status:=.L,dying:=bs }
section
variable {P:bh} {SB:N->Bool} {H:Hid} {T:List br} {β:Ef} {G:Nat} {Q:U->bb->Prop}
def FV.ER {P:Er}{zZ:Bool}{BB:N->Bool}{g g':U}(r:FV P SB H zZ BB T β g g'):g=Go.Em.ER g.L g.callers:=by
 obtain⟨a1,a2,a3,a4,a5⟩:=g;obtain⟨_,_,⟨s1,_⟩,⟨d1,_⟩,⟨o1,_⟩⟩:=r;dsimp only at *;subst s1 d1 o1
 rfl
def Nj (L:Lib (Er.of P) SB H J SB G){fr:br}{cs:List br}{w:bb}(hs:Self P SB H G (ER fr cs) w) :
  (∃a6 cs' w' es,bw P Z (ER fr cs) w=.go (ER a6 cs') w' es/\cs'≠[]/\step P (lone fr cs w)=.next (lone a6 cs' w')/\Self P SB H G (ER a6 cs') w') \/
  (∃a6 w' o w'',step P (lone fr cs w)=.next (lone a6 [] w')/\step P (lone a6 [] w')=.ended o w'') \/
  (∃o w',step P (lone fr cs w)=.ended o w'):=by
 obtain⟨β,hi,hg,hw⟩:=hs;have a8:(∃s,(∃o w',s=gR o w' #[])/\bw P Z (ER fr cs) w=s)\/Ej P SB H J β fr fr:=by
  have a7:=hg.top;change Ga (Er.of P) SB H J SB β fr fr at a7;generalize hF:fr=FR at a7;have key:∀ {f1 f2:br},f1=fr->Ga (Er.of P) SB H J SB β f1 f2->f2=fr->(∃s,(∃o w',s=gR o w' #[])/\bw P Z (ER fr cs) w=s)\/Ej P SB H J β fr fr:=by
   intro f1 f2 e1 h e2;cases h with
   |on h=>rw[e1,e2] at h;exact .inr h
   |@stop f a A k h1 h2 =>
    left
    obtain h1|h1:=h1
    .rw[h1] at h2;cases h2
    .obtain⟨fn,s,q1,q2⟩:=L.bars f h1;rw[<-e1];exact⟨_,⟨_,_,rfl⟩,by simp[bw,ER,b9,q1,q2,bl];exact⟨rfl,rfl⟩⟩
  exact hF▸key hF.LT a7 hF.LT
 obtain⟨s,⟨o,w',rfl⟩,he⟩|aA:=a8
 .exact .inr (.inr ⟨o, w', ek (by
   show(bw P Z (ER fr cs) w).bare=_
   rw[he];rfl)⟩)
 have:FN (Er.of P) SB H J SB [bad] G β w w (bw P Z (ER fr cs) w) (bw P Z (ER fr cs) w):=dL (main:=Z) (main2:=Z) L hg aA (λ_=>NS aA) hw (n:=(aL (bw P Z (ER fr cs) w)).drawn) (λ_ _ _=>rfl) (C3 _ _);generalize he:bw P Z (ER fr cs) w=s at this;cases s with
 |go g' w' es =>
  obtain⟨h0,⟨a6,h1⟩,h2⟩|⟨DZ,g2,W',ES,e,h1,h2⟩:=this
  .subst h1;obtain⟨o,w'',es',h3⟩:=h2 P w';refine .inr (.inl ⟨a6,w',o,w'',step_lone_go ?_,ek ?_⟩)
   .show(bw P Z (ER fr cs) w).bare=_;rw[he];rfl
   .rw[h3];rfl
  .refine .inl ⟨g'.L,g'.callers,w',es,by rw[<-h1.ER],h1.callers.ne,step_lone_go ?_,?_⟩
   .show(bw P Z (ER fr cs) w).bare=_;rw[he];show GStep.go g' w'=_;rw[h1.ER]
    rfl
   .rw[<-h1.ER];obtain⟨i1,i2⟩:=h2.same hi rfl;have eg:=FV.id (P:=Er.of P) i1 h1;subst eg;exact⟨DZ,i1,h1,h2.rel.same rfl i2 rfl⟩
 |ended o w' es =>
  refine .inr (.inr ⟨o,w',ek ?_⟩);show(bw P Z (ER fr cs) w).bare=_;rw[he];rfl
 |_=>exact this.elim
def dh (L:Lib (Er.of P) SB H J SB G){n:Nat}{fr a6:br}{cs cs':List br}{w w':bb}(hs:Self P SB H G (ER fr cs) w)(h:runN P n (lone fr cs w)=.next (lone a6 cs' w'))(zU:cs'≠[])(hq:Q (ER a6 cs') w') :
  ∃n,Path P Q n (ER fr cs) w:=by
 induction n generalizing fr cs w with
 |zero =>
  have h:lone fr cs w=lone a6 cs' w':=by simpa [runN] using h
  have e1:w=w':=AZ Machine.world h;have e2:#[ER fr cs]=#[ER a6 cs']:=AZ Machine.gs h;have e3:ER fr cs=ER a6 cs':=by simpa using e2
  exact⟨0,by rw[e1,e3];exact hq⟩
 |succ n ih =>
  simp only[runN] at h;obtain⟨a7,cs1,w1,es,h1,h2,h3,h4⟩|⟨a7,w1,o,w2,h1,h2⟩|⟨o,w1,h1⟩:=Nj L hs
  .rw[h3] at h;obtain⟨m,hm⟩:=ih h4 h;exact⟨m+1,.inr ⟨_,_,_,h1,h2,hm⟩⟩
  .rw[h1] at h;cases n with
   |zero =>
    have h:lone a7 [] w1=lone a6 cs' w':=by simpa [runN] using h
    have e2:#[ER a7 []]=#[ER a6 cs']:=AZ Machine.gs h;have e3:ER a7 []=ER a6 cs':=by simpa using e2
    exact AH (AZ Goroutine.callers e3).LT zU
   |succ n =>
    simp only[runN] at h;rw[h2] at h;cases h
  .rw[h1] at h;cases h
def Left (P:bh)(f:N)(R:bk->bb->Prop)(g:U)(w:bb):Prop :=
 ∃w0 v fr,Ek w0 w/\R v w0/\g=ER fr [bad]/\fr.fn=f/\fr.leaving P w0 (.L v)
def Left.same {f:N}{R:bk->bb->Prop}(g:U)(w W:bb)(h:Ek w W)(k:Left P f R g w):Left P f R g W:=by
 obtain⟨w0,v,fr,h1,h2⟩:=k;exact⟨w0,v,fr,h1.trans h,h2⟩
def Ia (L:Lib (Er.of P) SB H J SB G){f:N}{args:Array bk}{R:bk->bb->Prop}{w:bb}(hs:Self P SB H G (ER (b9 P f args .normal) [bad]) w)
  (hc:∀τ d,Calls P f args (on w τ d) (λe w'=>∃v,e=.L v/\R v w')):D9 P (Self P SB H G) (Left P f R) (ER (b9 P f args .normal) [bad]) w:=by
 refine fe L Left.same ⟨hs,λτ d=>?_⟩;obtain⟨e,w',fr,⟨v,rfl,hr⟩,⟨n,hn⟩,hf,hl⟩:=hc τ d [bad];exact dh L (hs.same Dc) hn (by simp) ⟨w',v,fr,⟨rfl,rfl,rfl⟩,hr,rfl,hf,hl⟩
end
def Ro (w:bb)(b:Nat):Prop:=∃c t f,w.heap[b]?=bW (.cells c t f)/\∀i,i<c.size->f.1<=i/\i<f.2
def Sep (S:Fu)(β:Ef)(w:bb)(S':Fu)(DZ:Ef)(w':bb):Prop :=
 ∀b b' B,β b B->DZ b' B->S.LT b=Z\/S'.LT b'=Z\/(Ro w b/\Ro w' b')
def Sep.LT {S S':Fu}{β DZ:Ef}{w w':bb}(h:Sep S β w S' DZ w'):Sep S' DZ w' S β w:=by
 intro b b' B h1 h2;obtain h|h|⟨h,k⟩:=h b' b B h2 h1
 .exact .inr (.inl h)
 .exact .inl h
 .exact .inr (.inr ⟨k,h⟩)
section
variable {S S':Fu} {Ck QF:cU->Prop} {G G':Nat} {β DZ γ:Ef} {w w' v W W':bb} {ES:List cw}
def Ro.kept (f:Fin S Ck G β DZ w W w' W' ES){b B:Nat}(hb:β b B)(r:Ro w b):Ro w' b:=by
 obtain⟨c,t,z,h1,h2⟩:=r;have:=(f.ro b B c t z hb h1 h2).1;exact⟨c,t,z,this.trans h1,h2⟩
def EA.others (k:EA S' QF G' γ v W)(tw:S'.LT.EX=J)(h:EA S Ck G β w W)(f:Fin S Ck G β DZ w W w' W' ES)(s:Sep S β w S' γ v):EA S' QF G' γ v W' where
 Fl:=k.Fl
 room:=⟨k.room.1,AX k.room.2 f.SIZE⟩
 FD:=λb B hb hh=>by
  obtain⟨o,O,h1,h2,h3⟩:=k.FD b B hb hh;refine⟨o,O,h1,?_,h3⟩;rw[<-h2];by_cases hx:∃b',β b' B
  .obtain⟨b',hb'⟩:=hx;obtain x|x|⟨x,_⟩:=s b' b B hb' hb
   .exact f.hk b' B hb' x
   .rw[hh] at x;cases x
   .obtain⟨c,t,z,q1,q2⟩:=x;exact(f.ro b' B c t z hb' q1 q2).2
  .exact f.KEPT B (k.lt hb).2 (λb' hb'=>hx ⟨b',hb'⟩)
 FU:=λb B hb hh=>by
  obtain⟨h1,h2,_⟩:=k.FU b B hb hh;refine⟨h1,λ_=>?_,λe=>by rw[tw] at e;cases e⟩;obtain⟨c,t,z,h2⟩:=h2 tw;by_cases hx:∃b',β b' B
  .obtain⟨b',hb'⟩:=hx;cases a6:S.LT b' with
   |true=>exact⟨c,t,z,(f.hk b' B hb' a6).trans h2⟩
   |false =>
    obtain⟨o,O,q1,q2,q3⟩:=h.FD b' B hb' a6;obtain⟨o',O',p1,p2,p3⟩:=f.rel.FD b' B (f.le _ _ hb') a6;have a7:=f.kind b' (h.lt hb').1;rw[q1,p1] at a7;rw[h2] at q2;cases q2;cases q3 with
    |cells a z' =>
     cases p3 with
     |cells a2 z2=>exact⟨_,_,_,p2⟩
     |_=>simp[Fo] at a7
  .exact⟨c,t,z,(f.KEPT B (k.lt hb).2 (λb' hb'=>hx ⟨b',hb'⟩)).trans h2⟩
 old:=k.old
 env:=by rw[f.OS];exact k.env
def Sep.kept (k:EA S' QF G' γ v W)(f:Fin S Ck G β DZ w W w' W' ES)(s:Sep S β w S' γ v):Sep S DZ w' S' γ v:=by
 intro b b' B h1 h2;obtain h0|⟨_,h0⟩:=f.new b B h1
 .obtain x|x|⟨x,y⟩:=s b b' B h0 h2
  .exact .inl x
  .exact .inr (.inl x)
  .exact .inr (.inr ⟨x.kept f h0,y⟩)
 .have:=(k.lt h2).2;omega
end
end Go.Em
