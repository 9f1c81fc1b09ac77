/- Parts of the proof. -/
import Derived.Test.YtbnfgnhhfmmejaaGreatP00
import Derived.Conc.MarkLaws
import Derived.Conc.SmallLaws
set_option linter.all false
open Go renaming Goroutine->Z,World->Y,FuncId->bb,Frame->bh,Program->bn,stepG->bq,Value->cf,Event->cw,doReturn->cE,Deferred->cK,unsupported->cU,Operand->df,PanicEntry->dS,Code->ez,execOp->eC,CallKind->eT,FrameMode->fq,Oper->fu,Item->fx,callDeferred->fA,step_lone_ended->gg,TypeId->gR,findLabel->j1,Func->kq,deafBehind->kv,Tape->k0,Addr->k5,Next->k8
open Bool renaming true->J,false->ak
open Classical renaming choose_spec->bc,choose->bw
open Option renaming some->bk,none->bA,elim_none->eo,elim_some->j2
open Go.stepG renaming exec->br,apply->dn,oper->k9
open Go.Extern.Atomic renaming touchesFrozen->bs,read->c0,casT->js
open Go.Value renaming pointer->bD,int->lh
open Go.Frame renaming enter->bW,eval->ed,catches->e9,oper?->gU,finish_at->ko,pos->kx,round->k6
open Or renaming inr->b8
open Go.GStep renaming after->b9,ended->k7
open Go.Result renaming andThen->cq
open Go.Instr renaming endRound->cu,beginRound->ek,enterLoop->eG,takeDeferred->e8,endLoop->jk
open Go.Region renaming wanted->cF
open Go.Sem renaming run->er,runT_fst->eH
open Array renaming append_right_inj->fW,getD->jx,toList_map->j0,replicate->kp
open Go.Extern renaming findNext->gl,find->kn
open Go.Conc renaming stepG_value->hZ,stepG_region_end->j3,G->ll
open Go.World renaming cell?->iv
open Array renaming getD->Array.LH,push->Array.LE,setIfInBounds->Array.L,toList->Array.LK
open Eq renaming symm->Eq.LH
open False renaming elim->False.S
open Go renaming underlying->Go.LH
open Go.Addr renaming block->Go.Addr.LE
open Go.Call renaming callee->Go.Call.L
open Go.CallKind renaming deferred->Go.CallKind.S,normal->Go.CallKind.L
open Go.Code renaming block->Go.Code.LE,region->Go.Code.L
open Go.Ending renaming returned->Go.Ending.L
open Go.Exit renaming normal->Go.Exit.L
open Go.GoStatus renaming running->Go.GoStatus.L
open Go.Goroutine renaming frame->Go.Goroutine.L
open Go.Obj renaming deferred->Go.Obj.S
open Go.Oper renaming dst->Go.Oper.L
open Go.Program renaming funcs->Go.Program.L,underlying->Go.Program.LH
open Go.Sem renaming runT->Go.Sem.L
open Go.TypeDesc renaming pointer->Go.TypeDesc.S
open Go.Unsupported renaming addressObserved->Go.Unsupported.L
open Go.Value renaming pointer->Go.Value.S
open Go.World renaming cell?->Go.World.S,frozen?->Go.World.O,heap->Go.World.L,setCell->Go.World.LH,shape?->Go.World.T
open List renaming dropWhile->List.K,toArray->List.LK
open Option renaming elim->Option.S,getD->Option.LH,isNone->Option.L,toList->Option.LK
open Or renaming elim->Or.S
namespace Go.EB
section
variable {P:EK} {SB:bb->Bool} {H:Hid} {Ck:ez->Prop} {G:Nat} {β:Ey}
def aP (SB:bb->Bool)(f:bb):Bool:=f==85&&(SB 84&&!SB 85)
abbrev SP (SB:bb->Bool)(H:Hid):FO:=⟨λf=>SB f=J\/aP SB f=J,H,λf=>SB f=J⟩
def dL {ρ Ρ:df->cf}(a6:∀x,ah SB x=J->Ee (SP SB H) β (ρ x) (Ρ x)){l:Array df}(h:l.all (ah SB)=J):Ei (SP SB H) β (l.map ρ) (l.map Ρ):=by
 simp only[Bl] at h;exact Ei.map l λx hx=>a6 x (h x hx)
def lw {ρ Ρ:df->cf}(a6:∀x,ah SB x=J->Ee (SP SB H) β (ρ x) (Ρ x)){ps:Array (Nat×df)}(h:ps.all (λp=>ah SB p.2)=J) :
  Gl (SP SB H) β (ps.map λ(i,x)=>(i,ρ x)).LK (ps.map λ(i,x)=>(i,Ρ x)).LK:=by
 simp only[Bl] at h;rw[j0,j0];have:∀l:List (Nat×df),(∀p∈l,ah SB p.2=J)->Gl (SP SB H) β (l.map λ(i,x)=>(i,ρ x)) (l.map λ(i,x)=>(i,Ρ x)):=by
  intro l
  induction l with
  |nil=>intro _;exact .nil
  |cons p l ih=>intro hl;exact .cons (a6 _ (hl p (by simp))) (ih λq hq=>hl q (by simp[hq]))
 exact this _ λp hp=>h p (by simpa using hp)
def kJ {ρ Ρ:df->cf}(a6:∀x,ah SB x=J->Ee (SP SB H) β (ρ x) (Ρ x)){o:Option df}(h:Nj SB o=J):G5 (SP SB H) β (o.map ρ) (o.map Ρ):=by
 cases o with
 |none=>exact .none
 |some x=>exact .some (a6 x h)
def ip {t:gR}(h:fN P.a t=J):∀e,P.a.LH t=bk (.slice e)->ci P.a e=true:=by
 intro e he;unfold fN at h;rw[he] at h;exact h
def pV {c:Call}(h:bQ P.a SB c=J){b:Builtin}(hc:c.L=.builtin b):lj P.a c.argTypes b:=by
 unfold bQ at h;rw[hc] at h;simp only[AY] at h;obtain⟨_,h⟩:=h;cases b with
 |append =>
  simp only[AY] at h;obtain⟨h1,h2⟩:=h;refine⟨λe s he hs=>?_,λx k hx hk=>?_⟩
  .rw[he] at h1;simp only[hs] at h1;exact h1
  .rw[hx] at h2;simp only[hk] at h2;exact AS h2 (by decide)
 |len|cap =>
  intro t e d ht hd;rw[ht] at h;simp only[hd] at h;exact AS h (by decide)
 |min|max=>trivial
 |_=>exfalso;revert h;cases c.argTypes[0]?<;>simp<;>intro h<;>revert h<;>decide
def jg (hS:KD P (SP SB H) Ck G){ρ Ρ:df->cf}(a6:∀x,ah SB x=J->Ee (SP SB H) β (ρ x) (Ρ x)){c:Call}(t:gR)(h:bQ P.a SB c=J) :
  Eo P (SP SB H) Ck G β (do let d<-resolve ρ c t;invoke d.target d.args) (do let d<-resolve Ρ c t;invoke d.target d.args) (Iz (SP SB H) Ck):=by
 have ha:Ei (SP SB H) β (c.args.map ρ) (c.args.map Ρ):=dL a6 (by unfold bQ at h;simp only[AY] at h;exact h.1);unfold resolve;cases hc:c.L with
 |value f =>
  have hf:ah SB f=true:=by unfold bQ at h;rw[hc] at h;simp only[AY] at h;exact h.2
  dsimp only;refine Ea (gD (a6 f hf) ha) ?_;intro a7 d D _ hd;exact io hS hd
 |invoke r m=>unfold bQ at h;rw[hc] at h;simp at h
 |builtin b =>
  have hb:=pV h hc;dsimp only;refine Ea (R:=λEf (d D:cK)=>β.le Ef/\d=⟨.builtin b c.argTypes t (c.args.map λ|.const _=>J|_=>ak),c.args.map ρ⟩/\D=⟨.builtin b c.argTypes t (c.args.map λ|.const _=>J|_=>ak),c.args.map Ρ⟩) (Eb ⟨β.le_refl,rfl,rfl⟩) ?_;rintro a7 d D zX ⟨_,rfl,rfl⟩;exact pU b _ _ _ hb (ha.LT zX)
def pW {ρ Ρ:df->cf}(a6:∀x,ah SB x=J->Ee (SP SB H) β (ρ x) (Ρ x)){c:Call}(t:gR)(h:bQ P.a SB c=J)(hb:∀b,c.L≠.builtin b) :
  Eo P (SP SB H) Ck G β (resolve ρ c t) (resolve Ρ c t) (λEf d D=>FY (SP SB H) Ef d D):=by
 have ha:Ei (SP SB H) β (c.args.map ρ) (c.args.map Ρ):=dL a6 (by unfold bQ at h;simp only[AY] at h;exact h.1);unfold resolve;cases hc:c.L with
 |value f =>
  have hf:ah SB f=true:=by unfold bQ at h;rw[hc] at h;simp only[AY] at h;exact h.2
  exact gD (a6 f hf) ha
 |invoke r m=>unfold bQ at h;rw[hc] at h;simp at h
 |builtin b=>exact AS hc (hb b)
def dM (P:bn)(SB:bb->Bool)(o:fu):Bool:=NI P SB o&&match o.op with
 |.defer c=>match c.L with
  |.builtin _=>ak
  |_=>J
 |_=>J
def rD (hG:P.a.globals.size<=G)(hS:KD P (SP SB H) Ck G){ρ Ρ:df->cf}(a6:∀x,ah SB x=J->Ee (SP SB H) β (ρ x) (Ρ x)){o:fu}(h:dM P.a SB o=J) :
  Eo P (SP SB H) Ck G β (eC ρ o) (eC Ρ o) (Iz (SP SB H) Ck):=by
 have v:∀ {m M:Sem cf},Eo P (SP SB H) Ck G β m M (λEf a A=>Ee (SP SB H) Ef a A)->Eo P (SP SB H) Ck G β (do pure (.value (<-m)):Sem k8) (do pure (.value (<-M))) (Iz (SP SB H) Ck):=by
  intro m M hm;refine Ea hm ?_;intro a7 x X _ hx;exact Eb (.value hx)
 have u:∀ {m M:Sem Unit},Eo P (SP SB H) Ck G β m M (λ_ _ _=>True)->Eo P (SP SB H) Ck G β (do m;pure .skip:Sem k8) (do M;pure .skip) (Iz (SP SB H) Ck):=by
  intro m M hm;refine Ea hm ?_;intro a7 x X _ _;exact Eb .skip
 unfold dM NI at h;unfold eC;cases ho:o.op with
 |move x=>rw[ho] at h;simp at h;exact Eb (.value (a6 x h))
 |assign x=>rw[ho] at h;simp at h;exact Eb (.value (a6 x h))
 |pick c a b =>
  rw[ho] at h;simp at h;refine Ea (gZ (a6 c h.1.1)) ?_;rintro a7 t _ zX rfl;refine Eb (.value ?_);split
  .exact(a6 a h.1.2).LT zX
  .exact(a6 b h.2).LT zX
 |alloc t=>rw[ho] at h;simp at h;exact v (tS t h)
 |box t x=>rw[ho] at h;simp at h;exact v (yi t (a6 x h))
 |build t ps=>rw[ho] at h;simp only[AY,and_true] at h;exact v (tQ t h.1 (lw a6 h.2))
 |buildSlice t n ps=>rw[ho] at h;simp only[AY,and_true] at h;exact v (ma t n (ip h.1) (lw a6 h.2))
 |load t a=>rw[ho] at h;simp at h;exact v (rx t (a6 a h))
 |store t a x=>rw[ho] at h;simp at h;exact u (pO t (a6 a h.1) (a6 x h.2))
 |nilCheck x =>
  rw[ho] at h;simp at h;have hx:=a6 x h.1;dsimp only;revert hx;generalize ρ x=v;generalize Ρ x=V;intro hx;cases hx with
  |Hy=>exact ay .nilDeref trivial
  |nilIface=>exact ay .nilDeref trivial
  |nilFunc=>exact ay .nilDeref trivial
  |func hf h1 a1 h2 a2=>cases hf with
   |func hs=>exact Eb (.value (.func (.func hs) h1 a1 h2 a2))
   |yield hl hk=>exact Eb (.value (.func (.yield hl hk) h1 a1 h2 a2))
  |bool b=>exact Eb (.value (.bool b))
  |int k n=>exact Eb (.value (.int k n))
  |string s=>exact Eb (.value (.string s))
  |ptr o s hb=>exact Eb (.value (.ptr o s hb))
  |Hb l c=>exact Eb (.value (.Hb l c))
  |slice o s l c hb=>exact Eb (.value (.slice o s l c hb))
  |Fq h1=>exact Eb (.value (.Fq h1))
  |Hp=>exact Eb (.value .Hp)
  |GN=>exact Eb (.value .GN)
  |iface t r=>exact Eb (.value (.iface t r))
  |agg h1 a1=>exact Eb (.value (.agg h1 a1))
  |tuple h1 a1=>exact Eb (.value (.tuple h1 a1))
  |blank h1 h2 =>
   cases V with
   |pointer a=>cases a with
    |none=>cases h2
    |some a=>exact Eb (.value (.blank h1 h2))
   |func f x c=>cases f with
    |method n=>cases h2
    |_=>exact Eb (.value (.blank h1 h2))
   |nilIface=>cases h2
   |nilFunc=>cases h2
   |_=>exact Eb (.value (.blank h1 h2))
  |E8 h1 =>
   refine GC ?_;show zO P (program >>= λp=>nilAhead (p.types.size+Made.depth) big undef "" >>= λr=>_);exact zO.prog (mb h.2 _ _ _ _ ⟨_,rfl,by intro g e;cases e⟩)
 |binOp op t x y t' =>
  rw[ho] at h;simp at h;obtain hc|⟨he,hf⟩:=h.1.1
  .refine v (Ea (pQ op hc x y _ _ _ _) ?_);intro a7 _ _ zX _;exact tT hG op hc ((a6 x h.1.2).LT zX) ((a6 y h.2).LT zX)
  .have hop:op=.eql\/op=.neq:=by cases op<;>first|exact .inl rfl|exact .inr rfl|cases he
   by_cases hu:ρ x=hole\/ρ y=hole
   .exact v (GC (pS hop hf (a6 x h.1.2) (a6 y h.2) hu))
   refine v (Ea (nU op hf x y (a6 x h.1.2) (a6 y h.2) hu) ?_);intro a7 _ _ zX _;exact rB hG hop hf ((a6 x h.1.2).LT zX) ((a6 y h.2).LT zX) hu
 |panic x=>rw[ho] at h;simp at h;exact v (pT (a6 x h))
 |makeInterface t x =>
  rw[ho] at h;simp at h;refine v (Ea (aj _) ?_);rintro a7 d _ zX ⟨rfl,_⟩;cases d with
  |interface _=>exact Eg
  |_=>exact Eb (.iface _ ((a6 x h).LT zX))
 |unOp op t x=>rw[ho] at h;simp at h;exact v (tU op (a6 x h))
 |convert s d x=>rw[ho] at h;simp at h;exact v (pR h.1 (a6 x h.2))
 |makeFunc fn fs cs =>
  rw[ho] at h;simp only[AY,and_true] at h;obtain⟨⟨h1,h2⟩,h3⟩:=h;cases fn with
  |func f =>
   have a1:=dL (β:=β) a6 h2;have a2:=dL (β:=β) a6 h3;exact v (Eb (.func (.func (.inl h1)) a1.size a1.at_ a2.size a2.at_))
  |_=>simp at h1
 |makeSlice t l c=>rw[ho] at h;simp at h;exact v (mz t (ip h.1.1) (a6 l h.1.2) (a6 c h.2))
 |slice t x l hi mx=>rw[ho] at h;simp at h;exact v (pM t (a6 x h.1.1.1) (kJ a6 h.1.1.2) (kJ a6 h.1.2) (kJ a6 h.2))
 |fieldAddr s x i=>rw[ho] at h;simp at h;exact v (pK s (a6 x h.2) i h.1)
 |field t x i=>rw[ho] at h;simp at h;exact v (tO t (a6 x h) i)
 |indexAddr t x i=>rw[ho] at h;simp at h;exact v (pL t (a6 x h.1) (a6 i h.2))
 |index t x i=>rw[ho] at h;simp at h;exact v (tP t (a6 x h.1) (a6 i h.2))
 |extract x i=>rw[ho] at h;simp at h;exact v (pN (a6 x h) i)
 |call c=>rw[ho] at h;simp at h;exact jg hS a6 _ h
 |defer c =>
  rw[ho] at h;simp only[AY] at h;refine Ea (pW a6 _ h.1 (λb e=>by rw[e] at h;simp at h)) ?_;intro a7 d D _ hd;exact Eb (.defer hd)
 |_=>rw[ho] at h;simp at h
end
def oV:Op->Bool
 |.defer _=>J
 |_=>ak
def jh (s:String):Bool:=s == "internal/race.Disable"||s == "internal/race.Enable"||s == "internal/race.Acquire"||s == "internal/race.ReleaseMerge"
def dN (p:bn)(f:bb):Bool:=match p.L[f]? with
 |some fn=>fn.body.L&&jh fn.name
 |none=>ak
def aZ {p:bn}{f:bb}{fn:kq}(h:p.L[f]?=bk fn)(hb:fn.body.isSome=J):dN p f=false:=by
 unfold dN;rw[h];cases hx:fn.body with
 |none=>rw[hx] at hb;cases hb
 |some c=>simp[hx]
def ep {p:bn}{f:bb}{fn:kq}(h:p.L[f]?=bk fn)(hb:jh fn.name=ak):dN p f=false:=by
 unfold dN;rw[h];simp[hb]
def fm (p:bn)(c:Call):Bool:=match c.L with
 |.value (.func f)=>dN p f
 |_=>ak
def fo (P:bn)(s d:gR):Bool:=match P.LH s,P.LH d with
 |some (.S _),bk .unsafePointer=>J
 |_,_=>ak
def aN (p:bn):Op->Bool
 |.go _=>ak
 |.call c=>!fm p c
 |.convert s d _=>!fo p s d
 |_=>J
def KJ (P:bn)(SB:bb->Bool):Op->Bool
 |.go c=>bQ P SB c&&match c.L with
  |.builtin _=>ak
  |_=>J
 |.call c=>fm P c&&c.args.all (ah SB)&&match c.L with
  |.value (.func f)=>!SB f
  |_=>ak
 |.convert s d x=>fo P s d&&ah SB x
 |_=>ak
def pX {P:bn}{SB:bb->Bool}{op:Op}(h:aN P op=J):KJ P SB op=false:=by
 cases op with
 |go c=>simp[aN] at h
 |call c=>simp only[aN,B9] at h;simp[KJ,h]
 |convert s d x=>simp only[aN,B9] at h;simp[KJ,h]
 |_=>rfl
def iW {P:bn}{s d:gR}(h:il P s d=J):fo P s d=false:=by
 unfold il at h;unfold fo;split at h
 .rename_i h1 h2;rw[h1,h2]
 .cases h
def tW {P p:bn}{SB:bb->Bool}{o:fu}(h:dM P SB o=J)(hn:∀f,SB f=J->dN p f=ak)(hu:∀t,p.LH t=P.LH t):aN p o.op=true:=by
 unfold dM NI at h;cases hop:o.op with
 |go c=>rw[hop] at h;simp at h
 |call c =>
  rw[hop] at h;simp only[aN,B9];unfold fm;cases hc:c.L with
  |value f=>cases f with
   |func f =>
    simp only[bQ,hc,AY] at h;exact hn f h.1.2
   |_=>rfl
  |_=>rfl
 |convert s d x =>
  rw[hop] at h;simp only[AY] at h;simp only[aN,B9];have:=iW h.1.1;unfold fo at this ⊢;rw[hu,hu];exact this
 |_=>rfl
def vU {P:bn}{SB:bb->Bool}{o:fu}(h:dM P SB o=J):KJ P SB o.op=false:=by
 unfold dM NI at h;cases hop:o.op with
 |go c=>rw[hop] at h;simp at h
 |call c =>
  rw[hop] at h;unfold KJ;cases hc:c.L with
  |value f=>cases f with
   |func f =>
    simp only[bQ,hc,AY] at h;have h2:SB f=true:=h.1.2;simp[hc,h2]
   |_=>simp[fm,hc]
  |_=>simp[fm,hc]
 |convert s d x =>
  rw[hop] at h;simp only[AY] at h;simp[KJ,iW h.1.1]
 |_=>rfl
def cy (P:bn)(SB:bb->Bool)(zZ ad:Bool)(o:fu):Bool:=(dM P SB o&&(ad||!oV o.op))||(zZ&&KJ P SB o.op)
def ym:Op->Bool
 |.call c=>(match c.L with|.value (.func f)=>f==83|_=>ak)&&(match(c.args[1]?:Option df) with|some (Operand.const (lh _ n))=>decide (n<0)|_=>ak)
 |_=>ak
def codeOk (P:bn)(SB:bb->Bool)(zZ:Bool):Bool->ez->Bool
 |_,.skip|_,.exit _|_,.label _|_,.goto _|_,.ret=>J
 |_,.refuse _=>J
 |ad,.L _ ops _=>ops.all (cy P SB zZ ad)&&!ops.any λo=>ym o.op
 |ad,.seq a b=>codeOk P SB zZ ad a&&codeOk P SB zZ ad b
 |ad,.cond c a b=>ah SB c&&codeOk P SB zZ ad a&&codeOk P SB zZ ad b
 |ad,.LE _ b|ad,.loop b|ad,.scope b=>codeOk P SB zZ ad b
 |_,.rangeFunc f _ AG bo=>ah SB f&&codeOk P SB zZ ak AG&&codeOk P SB zZ ak bo
section
variable (P:bn) (SB:bb->Bool) (H:Hid) (zZ:Bool)
abbrev CK:ez->Prop:=λc=>codeOk P SB zZ ak c=J
inductive Gt (ad:Bool)(β:Ey):fx->fx->Prop
 |code {c:ez}:codeOk P SB zZ ad c=J->Gt ad β (.code c) (.code c)
 |inBlock (id:Nat):Gt ad β (.inBlock id) (.inBlock id)
 |inLoop {c:ez}:codeOk P SB zZ ad c=J->Gt ad β (.inLoop c) (.inLoop c)
 |inScope {c:ez}:codeOk P SB zZ ad c=J->Gt ad β (.inScope c) (.inScope c)
 |inRegion {ops:Array fu} {l:List Nat}:ops.all (cy P SB zZ ad)=J->Gt ad β (.inRegion ops l) (.inRegion ops l)
 |inRangeFunc {l L:Nat}:β l L->H l=ak->Gt ad β (.inRangeFunc l) (.inRangeFunc L)
 |endRangeFunc {l L:Nat}:β l L->H l=ak->Gt ad β (.endRangeFunc l) (.endRangeFunc L)
 |beginRound:Gt ad β .beginRound .beginRound
inductive JL (β:Ey):dS->dS->Prop
 |mk {v V:cf} (r g:Bool):Ee (SP SB H) β v V->JL β ⟨v,r,g⟩ ⟨V,r,g⟩
inductive JS (β:Ey):fq->fq->Prop
 |run:JS β .run .run
 |returning:JS β .returning .returning
 |panicking {l L:List dS}:Fj (JL SB H β) l L->JS β (.panicking l) (.panicking L)
inductive Ih (β:Ey):Option Nat->Option Nat->Prop
 |none:Ih β bA bA
 |some {l L:Nat}:β l L->H l=ak->Ih β (bk l) (bk L)
structure EC (β:Ey)(f F:bh):Prop where
 fn:f.fn=F.fn
 tmps:Ei (SP SB H) β f.tmps F.tmps
 todo:Fj (Gt P SB H zZ f.roundOf.L β) f.todo F.todo
 defers:Fj (FY (SP SB H) β) f.defers F.defers
 mode:JS SB H β f.mode F.mode
 kind:f.kind=F.kind
 late:f.kind≠.early/\SB f.fn=J
 round:Ih H β f.roundOf F.roundOf
def bad:Frame:={ fn:=0,tmps:=#[],todo:=[.code (.refuse "")],defers:=[⟨.nil,#[]⟩],mode:=.run,kind:=.L }
inductive FC (T:List bh)(β:Ey):List bh->List bh->Prop
 |base:FC T β [bad] T
 |cons {c C:bh} {cs CS:List bh}:EC P SB H zZ β c C->FC T β cs CS->FC T β (c::cs) (C::CS)
end
section
variable (P:EK) (SB:bb->Bool) (H:Hid) (zZ:Bool)
inductive Gw (BB:bb->Bool)(β:Ey):bh->bh->Prop
 |on {f F:bh}:EC P.a SB H zZ β f F->Gw BB β f F
 |stop {f:bb} {a A:Array cf} {k:eT}:(SB f=J\/aP SB f=J)->BB f=ak->k≠.early->Ei (SP SB H) β a A->Gw BB β (bW P.a f a k) (bW P.b f A k)
structure Gf (BB:bb->Bool)(T:List bh)(β:Ey)(g g':Z):Prop where
 top:Gw P SB H zZ BB β g.L g'.L
 callers:FC P.a SB H zZ T β g.callers g'.callers
 status:g.status=.L/\g'.status=.L
 dying:g.dying=bA/\g'.dying=bA
 offers:g.offers=bA/\g'.offers=bA
end
section
variable {P:EK} {SB:bb->Bool} {H:Hid} {zZ:Bool} {BB:bb->Bool} {β Ef:Ey} {G:Nat}
def FC.LT {T:List bh}(h:∀c C,EC P.a SB H zZ β c C->EC P.a SB H zZ Ef c C){cs CS:List bh}(r:FC P.a SB H zZ T β cs CS):FC P.a SB H zZ T Ef cs CS:=by
 induction r with
 |base=>exact .base
 |cons a _ ih=>exact .cons (h _ _ a) ih
def FC.ne {T:List bh}{cs CS:List bh}(r:FC P.a SB H zZ T β cs CS):cs≠[]:=by
 cases r<;>simp
def Gt.LT {ad:Bool}(h:β.le Ef){i I:fx}(r:Gt P.a SB H zZ ad β i I):Gt P.a SB H zZ ad Ef i I:=by
 cases r with
 |code c=>exact .code c
 |inBlock id=>exact .inBlock id
 |inLoop c=>exact .inLoop c
 |inScope c=>exact .inScope c
 |inRegion c=>exact .inRegion c
 |inRangeFunc a b=>exact .inRangeFunc (h _ _ a) b
 |endRangeFunc a b=>exact .endRangeFunc (h _ _ a) b
 |beginRound=>exact .beginRound
def JL.LT (h:β.le Ef){i I:dS}(r:JL SB H β i I):JL SB H Ef i I:=by
 cases r with
 |mk a b v=>exact .mk a b (v.LT h)
def JS.LT (h:β.le Ef){i I:fq}(r:JS SB H β i I):JS SB H Ef i I:=by
 cases r with
 |run=>exact .run
 |returning=>exact .returning
 |panicking l=>exact .panicking (l.LT λ_ _=>JL.LT h)
def Ih.LT (h:β.le Ef){i I:Option Nat}(r:Ih H β i I):Ih H Ef i I:=by
 cases r with
 |none=>exact .none
 |some a b=>exact .some (h _ _ a) b
def EC.LT (h:β.le Ef){f F:bh}(r:EC P.a SB H zZ β f F):EC P.a SB H zZ Ef f F :=
 ⟨r.fn,r.tmps.LT h,r.todo.LT λ_ _=>Gt.LT h,r.defers.LT λ_ _=>FY.LT h,r.mode.LT h,r.kind,r.late,r.round.LT h⟩
def EC.eval {f F:bh}(r:EC P.a SB H zZ β f F){x:df}(h:ah SB x=J):Ee (SP SB H) β (f.eval x) (F.eval x):=by
 cases x with
 |tmp t=>exact r.tmps.LH t (.tuple rfl (by simp))
 |const v=>exact hP h
 |global g=>cases h
 |func f=>exact .func (.func (.inl h)) rfl (by simp) rfl (by simp)
def MO (id:Nat){ad:Bool}{l L:List fx}(h:Fj (Gt P.a SB H zZ ad β) l L):(exitTo id l=bA/\exitTo id L=bA)\/∃k K,exitTo id l=bk k/\exitTo id L=bk K/\Fj (Gt P.a SB H zZ ad β) k K:=by
 induction h with
 |nil=>exact .inl ⟨rfl,rfl⟩
 |@cons i I l L hi hl ih =>
  cases hi with
  |inBlock id' =>
   unfold exitTo;split
   .exact .inr ⟨_,_,rfl,rfl,hl⟩
   .exact ih
  |_=>exact ih
def fp {ad:Bool}:∀ {c:ez} {l:Nat} {r:ez},codeOk P.a SB zZ ad c=J->j1 c l=bk r->codeOk P.a SB zZ ad r=J
 |.seq a b,l,r,h,hf=>by
  simp only[codeOk,AY] at h;unfold j1 at hf;split at hf
  .rename_i rest hr;cases hf;simp only[codeOk,AY];exact⟨fp h.1 hr,h.2⟩
  .exact fp h.2 hf
 |.label l',l,r,h,hf=>by
  unfold j1 at hf;split at hf
  .cases hf;rfl
  .cases hf
 |.skip,_,_,_,hf|.L _ _ _,_,_,_,hf|.cond _ _ _,_,_,_,hf|.LE _ _,_,_,_,hf|.loop _,_,_,_,hf|.rangeFunc _ _ _ _,_,_,_,hf|.exit _,_,_,_,hf|.scope _,_,_,_,hf|.goto _,_,_,_,hf|.ret,_,_,_,hf|.refuse _,_,_,_,hf=>by cases hf
def MP {ad:Bool}(l:Nat){k K:List fx}(h:Fj (Gt P.a SB H zZ ad β) k K):(gotoIn l k=bA/\gotoIn l K=bA)\/∃k' K',gotoIn l k=bk k'/\gotoIn l K=bk K'/\Fj (Gt P.a SB H zZ ad β) k' K':=by
 induction h with
 |nil=>exact .inl ⟨rfl,rfl⟩
 |@cons i I k K hi hl ih =>
  cases hi with
  |inScope hc =>
   rename_i c;unfold gotoIn;cases hf:j1 c l with
   |none=>exact ih
   |some rest=>exact .inr ⟨_,_,rfl,rfl,.cons (.code (fp hc hf)) (.cons (.inScope hc) hl)⟩
  |_=>exact ih
def mem_seen {p:bn}{fn:bb}{es:Array cw}{E:cw}(h:E∈seen p fn es):E∈es:=by
 unfold seen at h;dsimp only at h;rw[<-Dp] at h
 have key : ∀ (l : List cw) (q : Bool) (kept : Array cw), E ∈ (l.foldl (fun (x : Bool × Array cw) e => match x with
   |(q,kept)=>match e.loc with
    |.mark (.extern f)=>((p.L[f]?).any (·.norace),kept)
    |_=>(q,if q&&!e.sync then kept else kept.LE e)) (q,kept)).2->E∈kept\/E∈l:=by
  intro l
  induction l with
  |nil=>intro q kept h;exact .inl h
  |cons e l ih =>
   intro q kept h;simp only[B1] at h;split at h
   .obtain h|h:=ih _ _ h
    .exact .inl h
    .exact .inr (by simp[h])
   .obtain h|h:=ih _ _ h
    .split at h
     .exact .inl h
     .obtain h|h:=Array.mem_push.1 h
      .exact .inl h
      .exact .inr (by simp[h])
    .exact .inr (by simp[h])
 obtain h|h:=key _ _ _ h
 .simp at h
 .simpa using h
end
def RR {α:Type}:Result α×Array cw->Prop
 |(.ok _ _,_)=>True
 |(.halt (.panic _) _,_)=>True
 |(.halt (.stuck _) _,_)=>True
 |(.halt (.unsupported u) _,_)=>∀g,u≠.initOrder g
 |_=>False
section
variable {P:EK} {S:FO} {Ck:ez->Prop} {G:Nat} {β:Ey}
def Eo.NJ {α H2:Type}{m:Sem α}{M:Sem H2}{R:Ey->α->H2->Prop}(h:Eo P S Ck G β m M R){w W:Y}(hw:EU S Ck G β w W)(a6:Array cw):RR (m.L P.a w a6):=by
 have hw':EU S Ck G β w { W with tape:=λi q=>w.tape (w.drawn+(i-W.drawn)) q }:=⟨hw.FH,hw.room,hw.F4,hw.Ge,hw.old,hw.env⟩
 have:=h w { W with tape:=λi q=>w.tape (w.drawn+(i-W.drawn)) q } ((world (m.L P.a w a6).1).drawn-w.drawn) hw' (λi _ q=>by
  show w.tape (w.drawn+i) q=w.tape (w.drawn+(W.drawn+i-W.drawn)) q
  rw[show W.drawn+i-W.drawn=i from by omega]) a6 #[] (by omega)
 revert this;generalize m.L P.a w a6=r;obtain⟨r,es⟩:=r;cases r with
 |ok a w'=>exact λ_=>trivial
 |halt x w'=>cases x with
  |panic v=>exact λ_=>trivial
  |stuck s=>exact λ_=>trivial
  |unsupported u=>exact id
  |_=>exact id
def Eo.some {α H2:Type}{m:Sem α}{M:Sem H2}{R:Ey->α->H2->Prop}(h:Eo P S Ck G β m M R){w W:Y}(hw:EU S Ck G β w W){a6 es:Array cw}{a:α}{w':Y}(hr:m.L P.a w a6=(.ok a w',es)):∃Ef A,R Ef a A:=by
 have hw':EU S Ck G β w { W with tape:=λi q=>w.tape (w.drawn+(i-W.drawn)) q }:=⟨hw.FH,hw.room,hw.F4,hw.Ge,hw.old,hw.env⟩
 have:=h w { W with tape:=λi q=>w.tape (w.drawn+(i-W.drawn)) q } ((world (m.L P.a w a6).1).drawn-w.drawn) hw' (λi _ q=>by
  show w.tape (w.drawn+i) q=w.tape (w.drawn+(W.drawn+i-W.drawn)) q
  rw[show W.drawn+i-W.drawn=i from by omega]) a6 #[] (by omega)
 rw[hr] at this;obtain⟨Ef,A,_,_,_,h,_⟩:=this;exact⟨Ef,A,h⟩
end
def aQ:GStep->Y
 |.go _ w _|.comm _ _ _ _ w _|.spawn _ _ w _|.count _ w _|.timer _ _ w _|.alone _ _ w _|.newcoro _ _ _ w _|.coroswitch _ _ _ w _|.collect _ w _|.watch _ w _|.ended _ w _=>w
section
variable (P:EK) (SB:bb->Bool) (H:Hid) (zZ:Bool) (BB:bb->Bool) (T:List bh) (G:Nat)
def Gone (g:Z):Prop:=(∃fr,g={ frame:=fr,callers:=[],status:=.L,dying:=bA })/\∀(P:bn) (w:Y),∃o w' es,bq P J g w=.ended o w' es
def Ow:Gone { frame:=bad,callers:=[],status:=.L,dying:=bA }:=⟨⟨_,rfl⟩,λ_ _=>⟨_,_,_,rfl⟩⟩
def pY (l:List dS):Gone { frame:=bad.raise l,callers:=[],status:=.L,dying:=bA }:=⟨⟨_,rfl⟩,λ_ _=>⟨_,_,_,rfl⟩⟩
def Gb (β:Ey)(w W:Y):GStep->GStep->Prop
 |.go g w' _,s=>(g.callers=[]/\Gone g)\/∃Ef g2 W' ES,s=.go g2 W' ES/\Gf P SB H zZ BB T Ef g g2/\Fin (SP SB H) (CK P.a SB zZ) G β Ef w W w' W' ES.LK
 |.ended _ _ _,_=>True
 |_,_=>False
end
section
variable {P:EK} {SB:bb->Bool} {H:Hid} {zZ:Bool} {BB:bb->Bool} {T:List bh} {β Ef:Ey} {Gn:Nat}
structure Lib (P:EK)(SB:bb->Bool)(H:Hid)(zZ:Bool)(BB:bb->Bool)(Gn:Nat):Prop where
 calls:KD P (SP SB H) (CK P.a SB zZ) Gn
 body:∀f,BB f=J->∃fn c,P.a.L[f]?=bk fn/\fn.body.LH (.refuse "unsupported: a function without a Go body is entered")=c/\codeOk P.a SB zZ J c=J/\P.fs[f]?=bk fn
 like:∀f,SB f=J->∃fn Hq,P.a.L[f]?=bk fn/\P.fs[f]?=bk Hq/\fn.results=Hq.results
 RS:P.a.globals.size<=Gn
 nm:∀f,SB f=J->dN P.a f=ak/\dN P.b f=ak
 sub:∀f,BB f=J->SB f=J
 bars:∀f,aP SB f=J->∃fn s,P.a.L[f]?=bk fn/\fn.body=bk (.refuse s)
def Fl (L:Lib P SB H zZ BB Gn){f:bb}(hf:SB f=J\/aP SB f=J){a A:Array cf}(h:Ei (SP SB H) β a A)(k:eT)(hk:k≠.early) :
  Gw P SB H zZ BB β (bW P.a f a k) (bW P.b f A k):=by
 cases hb:BB f with
 |false=>exact .stop hf hb hk h
 |true =>
  obtain⟨fn,c,h1,h2,h3,h4⟩:=L.body f hb;have a6:P.b.L[f]?=bk fn:=h4;refine .on ⟨rfl,?_,?_,.nil,.run,rfl,⟨hk,L.sub f hb⟩,.none⟩
  .unfold bW;dsimp only;rw[h.size,h1,a6];exact h.append (Ei.replicate (.tuple rfl (by simp)) _)
  .unfold bW;simp only[h1,a6,h2,BS,Bf];exact .cons (.code h3) .nil
def eE {l L:Nat}(hl:β l L)(hh:H l=ak)(f:bb)(hf:SB f=J){x X:Array cf}(hx:Ei (SP SB H) β x X){AG bo:ez}(h1:codeOk P.a SB zZ ak AG=J)(h2:codeOk P.a SB zZ ak bo=J)(k:eT)(hk:k≠.early) :
  EC P.a SB H zZ β (k6 l f x AG bo k) (k6 L f X AG bo k) :=
 ⟨rfl,hx,.cons (.code h1) (.cons .beginRound (.cons (.code h2) .nil)),.nil,.run,rfl,⟨hk,hf⟩,.some hl hh⟩
def bp {f F:bh}(h:EC P.a SB H zZ β f F){v V:cf}(hv:Ee (SP SB H) β v V):EC P.a SB H zZ β (f.finish v) (F.finish V):=by
 obtain⟨fn,tmps,todo,defers,mode,kind,round⟩:=f;obtain⟨Hq,GL,Ii,Gc,a7,a8,round'⟩:=F;obtain⟨h1,h2,h3,h4,h5,h6,h7,h8⟩:=h;dsimp only at *;unfold Frame.finish;cases h3 with
 |nil=>exact⟨h1,h2,.nil,h4,h5,h6,h7,h8⟩
 |@cons i I l L hi hl =>
  have a6:Fj (Gt P.a SB H zZ round.L β) (i::l) (I::L):=.cons hi hl;cases hi with
  |inRegion ho =>
   rename_i ops todo;cases todo with
   |nil=>exact⟨h1,h2,a6,h4,h5,h6,h7,h8⟩
   |cons j rest =>
    refine⟨h1,?_,.cons (.inRegion ho) hl,h4,h5,h6,h7,h8⟩;dsimp only;cases(ops[j]?).bind (·.L) with
    |none=>exact h2
    |some d=>exact h2.Lo d hv
  |inRangeFunc a b=>exact⟨h1,h2,.cons (.endRangeFunc a b) hl,h4,h5,h6,h7,h8⟩
  |beginRound=>exact⟨h1,h2,hl,h4,h5,h6,h7,h8⟩
  |code c=>exact⟨h1,h2,a6,h4,h5,h6,h7,h8⟩
  |inBlock id=>exact⟨h1,h2,a6,h4,h5,h6,h7,h8⟩
  |inLoop c=>exact⟨h1,h2,a6,h4,h5,h6,h7,h8⟩
  |inScope c=>exact⟨h1,h2,a6,h4,h5,h6,h7,h8⟩
  |endRangeFunc a b=>exact⟨h1,h2,a6,h4,h5,h6,h7,h8⟩
def cL {f F:bh}(h:EC P.a SB H zZ β f F){l L:List dS}(hl:Fj (JL SB H β) l L):EC P.a SB H zZ β (f.raise l) (F.raise L):=by
 obtain⟨fn,tmps,todo,defers,mode,kind,round⟩:=f;obtain⟨Hq,GL,Ii,Gc,a6,a7,round'⟩:=F;obtain⟨h1,h2,h3,h4,h5,h6,h7,h8⟩:=h;dsimp only at *;unfold Frame.raise;cases h5 with
 |run=>exact⟨h1,h2,h3,h4,.panicking hl,h6,h7,h8⟩
 |returning=>exact⟨h1,h2,h3,h4,.panicking hl,h6,h7,h8⟩
 |panicking hc=>exact⟨h1,h2,h3,h4,.panicking (hl.append hc),h6,h7,h8⟩
def aR {f F:bh}{cs CS:List bh}(h:EC P.a SB H zZ β f F)(hc:FC P.a SB H zZ T β cs CS) :
  Gf P SB H zZ BB T β { frame:=f,callers:=cs,status:=.L,dying:=bA } { frame:=F,callers:=CS,status:=.L,dying:=bA } :=
 ⟨.on h,hc,⟨rfl,rfl⟩,⟨rfl,rfl⟩,⟨rfl,rfl⟩⟩
def Fin.seen {w W w' W':Y}{ES:List cw}(h:Fin (SP SB H) (CK P.a SB zZ) Gn β Ef w W w' W' ES)(fn:bb):Fin (SP SB H) (CK P.a SB zZ) Gn β Ef w W w' W' (seen P.b fn ES.LK).LK :=
 { h with evs:=λht E hE=>h.evs ht E (by have:=mem_seen (p:=P.b) (fn:=fn) (E:=E) (es:=ES.LK) (by simpa using hE);simpa using this) }
def iq (L:Lib P SB H zZ BB Gn){fr FR:bh}{cs CS:List bh}(hf:EC P.a SB H zZ β fr FR)(hc:FC P.a SB H zZ T β cs CS){m M:Sem k8}
  (hm:Eo P (SP SB H) (CK P.a SB zZ) Gn β m M (Iz (SP SB H) (CK P.a SB zZ))) {w W:Y} {n:Nat} (hw:EU (SP SB H) (CK P.a SB zZ) Gn β w W) (ht:Kt n w W)
  (hb:(aQ (dn P.a J fr cs bA m w)).drawn<=w.drawn+n) :
  Gb P SB H zZ BB T Gn β w W (dn P.a J fr cs bA m w) (dn P.b J FR CS bA M W):=by
 have a7:=hm.NJ hw #[];have aB:fr.kind=FR.kind:=hf.kind;have a8:(fr.kind==.early)=false:=by simpa using hf.late.1
 have aC:(FR.kind==.early)=false:=by rw[<-aB];exact a8
 have hE:=hm w W n hw ht #[] #[];have hsome:=λ(a:k8) (w':Y) (es:Array cw) (e:m.L P.a w #[]=(.ok a w',es))=>hm.some hw e;have hkc:∀ {d:cK} {b:Bool} {r:String} {x:Array cf} {k:List fx},fr.todo=.call d b r x::k->False:=by
  intro d b r x k h;have:=hf.todo;rw[h] at this;generalize FR.todo=T at this;cases this with
  |cons hi _=>cases hi
 have aA:∀ {d:cK} {b:Bool} {r:String} {x:Array cf} {k:List fx},FR.todo=.call d b r x::k->False:=by
  intro d b r x k h;have:=hf.todo;rw[h] at this;generalize fr.todo=T at this;cases this with
  |cons hi _=>cases hi
 unfold dn at hb ⊢;simp only[if_true,a8,aC,Bj,if_false] at hb ⊢;rcases hr:m.L P.a w #[] with⟨r,es⟩
 rw[hr] at hE a7 hb;cases r with
 |ok x w' =>
  obtain⟨_,_,hx⟩:=hsome x w' es hr;have aD:w'.drawn<=w.drawn+n:=by cases hx<;>exact hb
  obtain⟨Ef,X,W',ES,e1,e2,e3⟩:=hE aD;rw[e1];simp only[Bx];have hf':=hf.LT e3.le;have hc':=hc.LT λ_ _ (r:EC P.a SB H zZ β _ _)=>r.LT e3.le;have a6:=e3.seen (P:=P) (SB:=SB) (H:=H) (zZ:=zZ) FR.fn;cases e2 with
  |value hv=>exact b8 ⟨Ef,_,W',_,rfl,aR (bp hf' hv) hc',by simpa using a6⟩
  |skip=>exact b8 ⟨Ef,_,W',_,rfl,aR (bp hf' (.tuple rfl (by simp))) hc',by simpa using a6⟩
  |enter hs ha =>
   refine b8 ⟨Ef,_,W',_,rfl,⟨?_,.cons hf' hc',⟨rfl,rfl⟩,⟨rfl,rfl⟩,⟨rfl,rfl⟩⟩,by simpa using a6⟩;split
   .exact(hkc ‹_›).S
   .split
    .exact(aA ‹_›).S
    .exact Fl L hs ha .L (by simp)
  |round hl hh hx h1 h2=>exact b8 ⟨Ef,_,W',_,rfl,aR (eE hl hh.1 _ hh.2 (by assumption) h1 h2 .L (by simp)) (.cons hf' hc'),by simpa using a6⟩
  |defer hd=>exact b8 ⟨Ef,_,W',_,rfl,aR (bp (f:={ fr with defers:=_::fr.defers }) (F:={ FR with defers:=_::FR.defers }) ⟨hf'.fn,hf'.tmps,hf'.todo,.cons hd hf'.defers,hf'.mode,hf'.kind,hf'.late,hf'.round⟩ (.tuple rfl (by simp))) hc',by simpa using a6⟩
 |halt x w' =>
  cases x with
  |panic v =>
   obtain⟨Ef,X,W',ES,e1,e2,e3⟩:=hE hb;rw[e1];simp only[Bx];have hf':=hf.LT e3.le;have hc':=hc.LT λ_ _ (r:EC P.a SB H zZ β _ _)=>r.LT e3.le;have a6:=e3.seen (P:=P) (SB:=SB) (H:=H) (zZ:=zZ) FR.fn;exact b8 ⟨Ef,_,W',_,rfl,aR (cL hf' (.cons (.mk _ _ e2) .nil)) hc',by simpa using a6⟩
  |stuck s=>trivial
  |unsupported u =>
   cases u with
   |initOrder g=>exact AS rfl (a7 g)
   |_=>trivial
  |_=>exact a7.S
end
section
variable {P:EK} {S:FO} {Ck:ez->Prop} {G:Nat} {β:Ey}
def mD (fn:bb)(hfn:S.fr fn){x X:Array cf}(hx:Ei S β x X)(ps:Array Tmp){AG bo:ez}(h1:Ck AG)(h2:Ck bo){o O:Option Nat}(ho:(o=bA/\O=bA)\/∃l L,o=bk l/\O=bk L/\β l L/\S.LH l=ak) :
  Eo P S Ck G β (eG fn x ps AG bo o) (eG fn X ps AG bo O) (λEf r R=>Ef r.1 R.1/\S.LH r.1=ak/\Fj (FY S Ef) r.2 R.2):=by
 have fin : ∀ (Ef : Ey) (d D : Nat) (m M : List cK), β.le Ef -> Ef d D -> S.LH d = ak -> Fj (FY S Ef) m M -> Eo P S Ck G Ef (do
   pure (<-newObj (.loop { state:=.ready,pending:=bA,fn,tmps:=x,params:=ps,assign:=AG,body:=bo,defers:=d }),m):Sem (Nat×List cK)) (do
   pure (<-newObj (.loop { state:=.ready,pending:=bA,fn,tmps:=X,params:=ps,assign:=AG,body:=bo,defers:=D }),M):Sem (Nat×List cK)) (λEf r R=>Ef r.1 R.1/\S.LH r.1=ak/\Fj (FY S Ef) r.2 R.2):=by
  intro Ef d D m M zX hd hk hm;refine Ea (jE (.loop ⟨hfn,λc e=>by cases e⟩ h1 h2 (hx.LT zX) hd hk) (λi=>Fb.id (S:=S) (Ck:=Ck) i (.loop ⟨hfn,λc e=>by cases e⟩ h1 h2 (hx.LT zX) hd hk) (by simp))) ?_;rintro a8 b B a7 ⟨hb,hb'⟩;exact Eb ⟨hb,hb',hm.LT λ_ _=>FY.LT a7⟩
 unfold eG;obtain⟨rfl,rfl⟩|⟨l,L,rfl,rfl,hl,hk⟩:=ho
 .refine Ea (jE (.defs .nil) (λ_=>rfl)) ?_;rintro a8 b B a7 ⟨hb,hb'⟩;refine Ea (Eb (R:=λEf (a A:Nat×List cK)=>a8.le Ef/\a=(b,[{ target:=.collected b,args:=#[] }])/\A=(B,[{ target:=.collected B,args:=#[] }])) ⟨a8.le_refl,rfl,rfl⟩) ?_;rintro aA a A a6 ⟨_,rfl,rfl⟩;exact fin aA _ _ _ _ (Ey.le_trans a7 a6) (a6 _ _ hb) hb' (.cons (.collected (a6 _ _ hb) hb') .nil)
 .refine Ea (dK hl hk) ?_;rintro a8 r R a7 ⟨_,_,_,_,_,_,_,_,_,_,hd,aB⟩;refine Ea (Eb (R:=λEf (a A:Nat×List cK)=>a8.le Ef/\a=(r.defers,[])/\A=(R.defers,[])) ⟨a8.le_refl,rfl,rfl⟩) ?_;rintro aA a A a6 ⟨_,rfl,rfl⟩;exact fin aA _ _ _ _ (Ey.le_trans a7 a6) (a6 _ _ hd) aB .nil
def kK {β:Ey}{r R:Loop}(h:r.state=R.state/\r.pending=R.pending/\(S.fr r.fn/\∀c,r.pending=bk c->Ck c)/\r.fn=R.fn/\Ei S β r.tmps R.tmps/\r.params=R.params/\r.assign=R.assign/\r.body=R.body/\Ck r.assign/\Ck r.body/\β r.defers R.defers/\S.LH r.defers=ak)
  (st:LoopState) (pe:Option ez) (hp:S.fr r.fn/\∀c,pe=bk c->Ck c):Fb S Ck β (.loop { r with state:=st,pending:=pe }) (.loop { R with state:=st,pending:=pe }):=by
 obtain⟨h1,h2,h3,h4,h5,h6,h7,h8,h9,h10,h11,a6⟩:=h;rw[<-h4,<-h6,<-h7,<-h8];exact .loop hp h9 h10 h5 h11 a6
def me {l L:Nat}(hl:β l L)(hk:S.LH l=ak):Eo P S Ck G β (ek l) (ek L) (λ_ _ _=>True):=by
 refine Ea (dK hl hk) ?_;intro a8 r R a6 h;have zG:=h.1;have a7:=h.2.1;have ho:=kK h .busy r.pending h.2.2.1;rw[show({ R with state:=LoopState.busy,pending:=r.pending }:Loop)={ R with state:=.busy } from by rw[a7]] at ho;refine Ea (fJ (a6 _ _ hl) hk ho rfl) ?_;intro aA _ _ _ _;rw[zG];cases R.state with
 |ready=>exact Eb trivial
 |_=>exact ay (.error _) trivial
def nX {l L:Nat}(hl:β l L)(hk:S.LH l=ak)(j:Option ez)(hj:∀c,j=bk c->Ck c):Eo P S Ck G β (cu l j) (cu L j) (λEf v V=>Ee S Ef v V):=by
 refine Ea (dK hl hk) ?_;intro a7 r R a6 h;refine Ea (fJ (a6 _ _ hl) hk (kK h _ j ⟨h.2.2.1.1,hj⟩) rfl) ?_;intro a8 _ _ _ _;exact Eb (.bool _)
def pZ {l L:Nat}(hl:β l L)(hk:S.LH l=ak):Eo P S Ck G β (jk l) (jk L) (λ_ a A=>a=A/\∀c,a=bk c->Ck c):=by
 refine Ea (dK hl hk) ?_;intro a6 r R aB h;have zG:=h.1;have aA:=h.2.1;have ho:=kK h .exhausted r.pending h.2.2.1;rw[show({ R with state:=LoopState.exhausted,pending:=r.pending }:Loop)={ R with state:=.exhausted } from by rw[aA]] at ho
 have main : ∀ a7, a6.le a7 -> Eo P S Ck G a7 (do
   setObj l (.loop { r with state:=.exhausted })
   pure r.pending:Sem (Option ez)) (do
   setObj L (.loop { R with state:=.exhausted })
   pure R.pending:Sem (Option ez)) (λ_ a A=>a=A/\∀c,a=bk c->Ck c):=by
  intro a7 a8;refine Ea (fJ (a8 _ _ (aB _ _ hl)) hk (ho.LT a8) rfl) ?_;intro aC _ _ _ _;exact Eb ⟨aA,h.2.2.1.2⟩
 rw[zG];by_cases hb:(R.state==.busy)=J
 .simp only[hb,if_true];exact Ea (R:=λ_ _ _=>False) (ay (.error _) trivial) (λ_ _ _ _ h=>h.S)
 .simp only[hb,if_false,Bj];exact main a6 a6.le_refl
def jJ {b B:Nat}(hb:β b B)(hk:S.LH b=ak):Eo P S Ck G β (e8 b) (e8 B) (λEf l L=>Fj (FY S Ef) l L):=by
 refine Ea (fI hb hk) ?_;intro aA o O a6 ho;cases ho with
 |defs a8 =>
  refine Ea (fJ (a6 _ _ hb) hk .taken rfl) ?_;intro aB _ _ a7 _;exact Eb (a8.LT λ_ _=>FY.LT a7)
 |_=>exact λ_ _ _ _ _ _ _ _=>trivial
def iX {α γ:Type}{f F:α->Sem γ}{R:Ey->γ->γ->Prop}(hR:∀β Ef,β.le Ef->∀a A,R β a A->R Ef a A):∀(l:List α) (β:Ey),(∀x∈l,∀Ef,β.le Ef->Eo P S Ck G Ef (f x) (F x) R) ->
  Eo P S Ck G β (l.mapM f) (l.mapM F) (λEf a A=>Fj (R Ef) a A)
 |[],β,_=>by simp only[List.mapM_nil];exact Eb .nil
 |x::l,β,h=>by
  simp only[List.mapM_cons];refine Ea (h x (by simp) β β.le_refl) ?_;intro a8 a A a6 ha;refine Ea (iX hR l a8 λy hy Ef zX=>h y (by simp[hy]) Ef (Ey.le_trans a6 zX)) ?_;intro aA b B a7 hb;exact Eb (.cons (hR _ _ a7 _ _ ha) hb)
def jK (fn:kq){x X:Array cf}(hx:Ei S β x X):Eo P S Ck G β (results fn x) (results fn X) (λEf v V=>Ee S Ef v V):=by
 unfold results;rw[Dk,Dk];have hu:∀β,Ee S β undef undef:=λβ=>.tuple rfl (by simp)
 have h := iX (P := P) (S := S) (Ck := Ck) (G := G) (f := fun (r : ResultVar) => match r with
   |.tmp t=>pure (x.LH t undef)
   |.cell a t=>do loadVar t (<-asAddr (x.LH a undef))) (F:=λ(r:ResultVar)=>match r with
   |.tmp t=>pure (X.LH t undef)
   |.cell a t=>do loadVar t (<-asAddr (X.LH a undef))) (R:=λEf v V=>Ee S Ef v V) (λ_ _ h _ _ r=>r.LT h) fn.results.LK β (λr _ Ef zX=>by
    cases r with
    |tmp t=>exact Eb ((hx.LT zX).LH t (hu _))
    |cell a t =>
     refine Ea (eD ((hx.LT zX).LH a (hu _))) ?_;intro a6 p Q _ hp
     exact jF t hp)
 refine Ea (R:=λEf a A=>Ei S Ef a A) ?_ ?_
 .refine Ea h ?_;intro a6 l L _ hl;exact Eb hl.LK
 .intro a6 v V _ hv;refine Eb ?_;have hs:=hv.size;by_cases h1:v.size=1
  .have h2:V.size=1:=by omega
   rw[dif_pos h1,dif_pos h2];exact hv.at_ 0 _ _ (AV _) (AV _)
  .have h2:¬V.size=1:=by omega
   rw[dif_neg h1,dif_neg h2];exact hv.tuple
end
section
variable {P:EK} {SB:bb->Bool} {H:Hid} {zZ:Bool} {BB:bb->Bool} {T:List bh} {β Ef:Ey} {Gn:Nat} {main main2:Bool}
def iY {x X:Array cf}(h:Ei (SP SB H) β x X)(ops:Array fu)(j:Nat):yielded ops x j=yielded ops X j:=by
 unfold yielded;cases((ops[j]?).bind (·.L)) with
 |none=>rfl
 |some d =>
  simp only[BS];cases hx:x[d]? with
  |none=>rw[h.get_none hx]
  |some v =>
   obtain⟨V,hV,hr⟩:=h.get? hx;rw[hV];cases hr with
   |blank _ hb=>cases V<;>first|rfl|(cases hb;done)
   |_=>rfl
def p6 {l L:List dS}(h:Fj (JL SB H β) l L):Fj (JL SB H β) (l.K (!·.goexit)) (L.K (!·.goexit)):=by
 induction h with
 |nil=>exact .nil
 |@cons a A l L ha hl ih =>
  cases ha with
  |mk r g hv =>
   cases g with
   |false=>simpa using ih
   |true=>simpa using Fj.cons (.mk r J hv) hl
def ft {fr FR:bh}{cs CS:List bh}(hk:fr.kind=FR.kind)(hl:fr.kind≠.early)(hc:FC P.a SB H zZ T β cs CS)(zU:cs≠[]){v V:cf}(hv:Ee (SP SB H) β v V){w W w' W':Y}{β0:Ey}{ES:List cw}
  (hf:Fin (SP SB H) (CK P.a SB zZ) Gn β0 β w W w' W' ES) (es:Array cw) :
  Gb P SB H zZ BB T Gn β0 w W (b9 es (cE P.a main fr cs bA v w')) (b9 ES.LK (cE P.b main2 FR CS bA V W')):=by
 cases hc with
 |base =>
  unfold cE;cases fr.kind<;>exact Or.inl ⟨rfl,Ow⟩
 |@cons c C cs CS h1 h2 =>
  unfold cE;rw[<-hk];cases aA:fr.kind with
  |normal=>exact b8 ⟨β,_,W',_,rfl,aR (bp h1 hv) h2,by simpa using hf⟩
  |wrapped=>exact b8 ⟨β,_,W',_,rfl,aR (bp h1 hv) h2,by simpa using hf⟩
  |early=>exact AS aA hl
  |_ =>
   refine b8 ⟨β,_,W',_,rfl,aR ?_ h2,by simpa using hf⟩;obtain⟨fn,tmps,todo,defers,mode,kind,round⟩:=c;obtain⟨Hq,GL,Ii,Gc,aB,aC,round'⟩:=C;obtain⟨a1,a2,a3,a4,a5,a6,a7,a8⟩:=h1;dsimp only at *;cases a5 with
   |run=>exact⟨a1,a2,a3,a4,.run,a6,a7,a8⟩
   |returning=>exact⟨a1,a2,a3,a4,.returning,a6,a7,a8⟩
   |panicking hch =>
    cases hch with
    |nil=>exact⟨a1,a2,a3,a4,.panicking .nil,a6,a7,a8⟩
    |@cons p Q l L hp hl =>
     cases hp with
     |mk r g hv' =>
      cases r with
      |false=>exact⟨a1,a2,a3,a4,.panicking (.cons (.mk ak g hv') hl),a6,a7,a8⟩
      |true =>
       have:=p6 hl;dsimp only;revert this;generalize l.K (!·.goexit)=d;generalize L.K (!·.goexit)=D;intro hd;cases hd with
       |nil=>exact⟨a1,a2,a3,a4,.returning,a6,a7,a8⟩
       |cons x y=>exact⟨a1,a2,a3,a4,.panicking (.cons x y),a6,a7,a8⟩
def ct (L:Lib P SB H zZ BB Gn){fr FR:bh}{cs CS:List bh}(hf:EC P.a SB H zZ β fr FR)(hc:FC P.a SB H zZ T β cs CS){d D:cK}(hd:FY (SP SB H) β d D){w W:Y}{n:Nat}(hw:EU (SP SB H) (CK P.a SB zZ) Gn β w W)(ht:Kt n w W)
  (hb:(aQ (fA P.a fr cs bA d w)).drawn<=w.drawn+n) :
  Gb P SB H zZ BB T Gn β w W (fA P.a fr cs bA d w) (fA P.b FR CS bA D W):=by
 have hm:=io L.calls hd;have hE:=hm w W n hw ht #[] #[];have a7:=hm.NJ hw #[];have hsome:=λ(a:k8) (w':Y) (es:Array cw) (e:(invoke d.target d.args).L P.a w #[]=(.ok a w',es))=>hm.some hw e;unfold fA at hb ⊢;cases hd with
 |@fn aD aG aC aF aB ar2 a b c =>
  simp only[Cf,Bj,if_false] at hb ⊢;dsimp only at hE hsome;rcases zy:(invoke (Target.fn aD aC) aB).L P.a w #[] with⟨r,es⟩
  simp only[zy] at hb hE a7 ⊢;cases r with
  |ok x w' =>
   obtain⟨_,_,hx⟩:=hsome x w' es zy;have aA:w'.drawn<=w.drawn+n:=by cases hx<;>exact hb
   obtain⟨Ef,X,W',ES,e1,e2,e3⟩:=hE aA;simp only[e1,Bx];have hf':=hf.LT e3.le;have hc':=hc.LT λ_ _ (r:EC P.a SB H zZ β _ _)=>r.LT e3.le;have a6:=e3.seen (P:=P) (SB:=SB) (H:=H) (zZ:=zZ) FR.fn;cases e2 with
   |value hv=>exact b8 ⟨Ef,_,W',_,rfl,aR hf' hc',by simpa using a6⟩
   |skip=>exact b8 ⟨Ef,_,W',_,rfl,aR hf' hc',by simpa using a6⟩
   |enter hs ha=>exact b8 ⟨Ef,_,W',_,rfl,⟨Fl L hs ha .S (by simp),.cons hf' hc',⟨rfl,rfl⟩,⟨rfl,rfl⟩,⟨rfl,rfl⟩⟩,by simpa using a6⟩
   |round hl hh hx h1 h2=>exact b8 ⟨Ef,_,W',_,rfl,aR (eE hl hh.1 _ hh.2 (by assumption) h1 h2 .S (by simp)) (.cons hf' hc'),by simpa using a6⟩
   |defer hd=>exact b8 ⟨Ef,_,W',_,rfl,aR hf' hc',by simpa using a6⟩
  |halt x w' =>
   cases x with
   |panic v =>
    obtain⟨Ef,X,W',ES,e1,e2,e3⟩:=hE hb;simp only[e1,Bx];have hf':=hf.LT e3.le;have hc':=hc.LT λ_ _ (r:EC P.a SB H zZ β _ _)=>r.LT e3.le;have a6:=e3.seen (P:=P) (SB:=SB) (H:=H) (zZ:=zZ) FR.fn;exact b8 ⟨Ef,_,W',_,rfl,aR (cL hf' (.cons (.mk _ _ e2) .nil)) hc',by simpa using a6⟩
   |stuck s=>trivial
   |unsupported u=>trivial
   |_=>exact a7.S
 |E8 a A h1 h2 h3 =>
  subst h2;have hq:=iV L.calls.big a w #[];unfold hd at hq ⊢;simp only[Cf,Bj,if_false] at hq ⊢;obtain⟨s,w',es',e⟩|⟨u,w',es',e,_⟩:=hq
  .simp only[e];trivial
  .simp only[e];trivial
 |@collected r1 r2 a b =>
  simp only[Cf,Bj,if_false] at hb ⊢;dsimp only at hE hsome;rcases zy:(invoke (Target.collected r1) #[]).L P.a w #[] with⟨r,es⟩
  simp only[zy] at hb hE a7 ⊢;cases r with
  |ok x w' =>
   obtain⟨_,_,hx⟩:=hsome x w' es zy;have aA:w'.drawn<=w.drawn+n:=by cases hx<;>exact hb
   obtain⟨Ef,X,W',ES,e1,e2,e3⟩:=hE aA;simp only[e1,Bx];have hf':=hf.LT e3.le;have hc':=hc.LT λ_ _ (r:EC P.a SB H zZ β _ _)=>r.LT e3.le;have a6:=e3.seen (P:=P) (SB:=SB) (H:=H) (zZ:=zZ) FR.fn;cases e2 with
   |value hv=>exact b8 ⟨Ef,_,W',_,rfl,aR hf' hc',by simpa using a6⟩
   |skip=>exact b8 ⟨Ef,_,W',_,rfl,aR hf' hc',by simpa using a6⟩
   |enter hs ha=>exact b8 ⟨Ef,_,W',_,rfl,⟨Fl L hs ha .S (by simp),.cons hf' hc',⟨rfl,rfl⟩,⟨rfl,rfl⟩,⟨rfl,rfl⟩⟩,by simpa using a6⟩
   |round hl hh hx h1 h2=>exact b8 ⟨Ef,_,W',_,rfl,aR (eE hl hh.1 _ hh.2 (by assumption) h1 h2 .S (by simp)) (.cons hf' hc'),by simpa using a6⟩
   |defer hd=>exact b8 ⟨Ef,_,W',_,rfl,aR hf' hc',by simpa using a6⟩
  |halt x w' =>
   cases x with
   |panic v =>
    obtain⟨Ef,X,W',ES,e1,e2,e3⟩:=hE hb;simp only[e1,Bx];have hf':=hf.LT e3.le;have hc':=hc.LT λ_ _ (r:EC P.a SB H zZ β _ _)=>r.LT e3.le;have a6:=e3.seen (P:=P) (SB:=SB) (H:=H) (zZ:=zZ) FR.fn;exact b8 ⟨Ef,_,W',_,rfl,aR (cL hf' (.cons (.mk _ _ e2) .nil)) hc',by simpa using a6⟩
   |stuck s=>trivial
   |unsupported u=>trivial
   |_=>exact a7.S
 |@nil aB ar2 a =>
  have a8:=hf.mode;cases hm:fr.mode with
  |panicking l =>
   simp only[Bool.and_self,if_true];trivial
  |run =>
   have hM:FR.mode=.run:=by
    rw[hm] at a8;generalize FR.mode=q at a8;cases a8;rfl
   simp only[hm,hM,Cs,Bj,if_false] at hb ⊢;dsimp only at hE hsome;rcases zy:(invoke Target.nil aB).L P.a w #[] with⟨r,es⟩
   simp only[zy] at hb hE a7 ⊢;cases r with
   |ok x w' =>
    obtain⟨_,_,hx⟩:=hsome x w' es zy;have aA:w'.drawn<=w.drawn+n:=by cases hx<;>exact hb
    obtain⟨Ef,X,W',ES,e1,e2,e3⟩:=hE aA;simp only[e1,Bx];have hf':=hf.LT e3.le;have hc':=hc.LT λ_ _ (r:EC P.a SB H zZ β _ _)=>r.LT e3.le;have a6:=e3.seen (P:=P) (SB:=SB) (H:=H) (zZ:=zZ) FR.fn;cases e2 with
    |value hv=>exact b8 ⟨Ef,_,W',_,rfl,aR hf' hc',by simpa using a6⟩
    |skip=>exact b8 ⟨Ef,_,W',_,rfl,aR hf' hc',by simpa using a6⟩
    |enter hs ha=>exact b8 ⟨Ef,_,W',_,rfl,⟨Fl L hs ha .S (by simp),.cons hf' hc',⟨rfl,rfl⟩,⟨rfl,rfl⟩,⟨rfl,rfl⟩⟩,by simpa using a6⟩
    |round hl hh hx h1 h2=>exact b8 ⟨Ef,_,W',_,rfl,aR (eE hl hh.1 _ hh.2 (by assumption) h1 h2 .S (by simp)) (.cons hf' hc'),by simpa using a6⟩
    |defer hd=>exact b8 ⟨Ef,_,W',_,rfl,aR hf' hc',by simpa using a6⟩
   |halt x w' =>
    cases x with
    |panic v =>
     obtain⟨Ef,X,W',ES,e1,e2,e3⟩:=hE hb;simp only[e1,Bx];have hf':=hf.LT e3.le;have hc':=hc.LT λ_ _ (r:EC P.a SB H zZ β _ _)=>r.LT e3.le;have a6:=e3.seen (P:=P) (SB:=SB) (H:=H) (zZ:=zZ) FR.fn;exact b8 ⟨Ef,_,W',_,rfl,aR (cL hf' (.cons (.mk _ _ e2) .nil)) hc',by simpa using a6⟩
    |stuck s=>trivial
     |unsupported u=>trivial
    |_=>exact a7.S
  |returning =>
   have hM:FR.mode=.returning:=by
    rw[hm] at a8;generalize FR.mode=q at a8;cases a8;rfl
   simp only[hm,hM,Cs,Bj,if_false] at hb ⊢;dsimp only at hE hsome;rcases zy:(invoke Target.nil aB).L P.a w #[] with⟨r,es⟩
   simp only[zy] at hb hE a7 ⊢;cases r with
   |ok x w' =>
    obtain⟨_,_,hx⟩:=hsome x w' es zy;have aA:w'.drawn<=w.drawn+n:=by cases hx<;>exact hb
    obtain⟨Ef,X,W',ES,e1,e2,e3⟩:=hE aA;simp only[e1,Bx];have hf':=hf.LT e3.le;have hc':=hc.LT λ_ _ (r:EC P.a SB H zZ β _ _)=>r.LT e3.le;have a6:=e3.seen (P:=P) (SB:=SB) (H:=H) (zZ:=zZ) FR.fn;cases e2 with
    |value hv=>exact b8 ⟨Ef,_,W',_,rfl,aR hf' hc',by simpa using a6⟩
    |skip=>exact b8 ⟨Ef,_,W',_,rfl,aR hf' hc',by simpa using a6⟩
    |enter hs ha=>exact b8 ⟨Ef,_,W',_,rfl,⟨Fl L hs ha .S (by simp),.cons hf' hc',⟨rfl,rfl⟩,⟨rfl,rfl⟩,⟨rfl,rfl⟩⟩,by simpa using a6⟩
    |round hl hh hx h1 h2=>exact b8 ⟨Ef,_,W',_,rfl,aR (eE hl hh.1 _ hh.2 (by assumption) h1 h2 .S (by simp)) (.cons hf' hc'),by simpa using a6⟩
    |defer hd=>exact b8 ⟨Ef,_,W',_,rfl,aR hf' hc',by simpa using a6⟩
   |halt x w' =>
    cases x with
    |panic v =>
     obtain⟨Ef,X,W',ES,e1,e2,e3⟩:=hE hb;simp only[e1,Bx];have hf':=hf.LT e3.le;have hc':=hc.LT λ_ _ (r:EC P.a SB H zZ β _ _)=>r.LT e3.le;have a6:=e3.seen (P:=P) (SB:=SB) (H:=H) (zZ:=zZ) FR.fn;exact b8 ⟨Ef,_,W',_,rfl,aR (cL hf' (.cons (.mk _ _ e2) .nil)) hc',by simpa using a6⟩
    |stuck s=>trivial
     |unsupported u=>trivial
    |_=>exact a7.S
def jL (L:Lib P SB H zZ BB Gn){fr FR:bh}{cs CS:List bh}(hf:EC P.a SB H zZ β fr FR)(hc:FC P.a SB H zZ T β cs CS){w W:Y}{n:Nat}(hw:EU (SP SB H) (CK P.a SB zZ) Gn β w W)(ht:Kt n w W)
  (hb:(aQ (unwind P.a main fr cs bA w)).drawn<=w.drawn+n) :
  Gb P SB H zZ BB T Gn β w W (unwind P.a main fr cs bA w) (unwind P.b main2 FR CS bA W):=by
 obtain⟨fn,tmps,todo,defers,mode,kind,round⟩:=fr;obtain⟨Hq,GL,Ii,Gc,aD,aH,round'⟩:=FR;obtain⟨a1,a2,a3,a4,a5,a6,a7,a8⟩:=hf;dsimp only at a1 a2 a3 a4 a5 a6 a7 a8;subst a1 a6;cases a4 with
 |@cons d D ds DS hd aF =>
  have hf':EC P.a SB H zZ β ⟨fn,tmps,todo,ds,mode,kind,round⟩ ⟨fn,GL,Ii,DS,aD,kind,round'⟩:=⟨rfl,a2,a3,aF,a5,rfl,a7,a8⟩;cases hd with
  |fn x y z=>exact ct L hf' hc (.fn x y z) hw ht hb
  |nil x=>exact ct L hf' hc (.nil x) hw ht hb
  |E8 a A h1 h2 h3 =>
   subst h2;obtain rfl|⟨h3,n,c,x,rfl⟩:=h3
   .exact ct L hf' hc (.E8 a A h1 rfl (.inl rfl)) hw ht hb
   .exact ct L hf' hc (.E8 a A h1 rfl (.inr ⟨h3,n,c,x,rfl⟩)) hw ht hb
  |@collected r1 r2 x y =>
   have hm:=jJ (P:=P) (Ck:=CK P.a SB zZ) (G:=Gn) (S:=SP SB H) x y;have hE:=hm w W n hw ht #[] #[];have aA:=hm.NJ hw #[];unfold unwind at hb ⊢;dsimp only at hb ⊢;rcases hr:(e8 r1).L P.a w #[] with⟨r,es⟩
   rw[hr] at hb hE aA;cases r with
   |ok l w' =>
    obtain⟨Ef,X,W',ES,e1,e2,e3⟩:=hE hb;simp only[e1,Bx];have hf2:=hf'.LT e3.le;have hc':=hc.LT λ_ _ (r:EC P.a SB H zZ β _ _)=>r.LT e3.le;have aB:=e3.seen (P:=P) (SB:=SB) (H:=H) (zZ:=zZ) fn;exact b8 ⟨Ef,_,W',_,rfl,aR ⟨rfl,hf2.tmps,hf2.todo,e2.append hf2.defers,hf2.mode,rfl,a7,hf2.round⟩ hc',by simpa using aB⟩
   |halt x w'=>trivial
 |nil =>
  cases a5 with
  |run=>trivial
  |@panicking ch CH hch =>
   unfold unwind;dsimp only;obtain⟨f,f',g1,g2,_⟩:=L.like fn a7.2;have aC:P.b.L[fn]?=bk f':=g2;have q1:e9 P.a ⟨fn,tmps,todo,[],.panicking ch,kind,round⟩=false:=by
    unfold e9;dsimp only;rw[g1]
   have q2:e9 P.b ⟨fn,GL,Ii,[],.panicking CH,kind,round'⟩=false:=by
    unfold e9;dsimp only;rw[aC]
   simp only[q1,q2,Bj,if_false];cases hc with
   |base=>exact Or.inl ⟨rfl,pY _⟩
   |cons h1 h2=>exact b8 ⟨β,_,W,_,rfl,aR (cL h1 hch) h2,by simpa using Fin.refl hw⟩
  |returning =>
   have zU:cs≠[]:=hc.ne;unfold unwind at hb ⊢;dsimp only at hb ⊢;obtain⟨f,f',g1,g2,g3⟩:=L.like fn a7.2;have aC:P.b.L[fn]?=bk f':=g2;have g4:results f' GL=results f GL:=by unfold results;rw[g3]
   have hm:=jK (P:=P) (Ck:=CK P.a SB zZ) (G:=Gn) (S:=SP SB H) f a2;have hE:=hm w W n hw ht #[] #[];have aA:=hm.NJ hw #[];rw[g1] at hb ⊢;rw[aC];dsimp only at hb ⊢;rw[g4];rcases hr:(results f tmps).L P.a w #[] with⟨r,es⟩
   rw[hr] at hb hE aA;cases r with
   |ok v w' =>
    have aG:w'.drawn<=w.drawn+n:=by
     have:∀cs,(aQ (b9 (seen P.a fn es) (cE P.a main ⟨fn,tmps,todo,[],.returning,kind,round⟩ cs bA v w')))=w'\/cs=[]:=by
      intro cs;cases cs with
      |nil=>exact .inr rfl
      |cons c cs =>
       refine .inl ?_;unfold cE;cases kind<;>rfl
     obtain h|h:=this cs
     .rw[<-h];exact hb
     .exact AS h zU
    obtain⟨Ef,X,W',ES,e1,e2,e3⟩:=hE aG;simp only[e1,Bx];have hc':=hc.LT λ_ _ (r:EC P.a SB H zZ β _ _)=>r.LT e3.le;have aB:=e3.seen (P:=P) (SB:=SB) (H:=H) (zZ:=zZ) fn;have:=ft (P:=P) (main:=main) (main2:=main2) (BB:=BB) (fr:=⟨fn,tmps,todo,[],.returning,kind,round⟩) (FR:=⟨fn,GL,Ii,[],.returning,kind,round'⟩) rfl a7.1 hc' zU e2 aB (seen P.a fn es);simpa using this
   |halt x w'=>cases x<;>trivial
end
section
variable {P:EK} {SB:bb->Bool} {H:Hid} {zZ:Bool} {BB:bb->Bool} {T:List bh} {β Ef:Ey} {Gn:Nat} {main main2:Bool}
def bO {ad:Bool}:∀ {c:ez},codeOk P.a SB zZ ak c=J->codeOk P.a SB zZ ad c=J
 |.skip,_|.exit _,_|.label _,_|.goto _,_|.ret,_|.refuse _,_=>rfl
 |.L _ ops _,h=>by
  cases ad with
  |false=>exact h
  |true =>
   simp only[codeOk,AY,Bl] at h ⊢;refine⟨?_,h.2⟩;intro o ho;have:=h.1 o ho;unfold cy at this ⊢;simp only[Bq,AY] at this ⊢;obtain h1|h1:=this
   .exact .inl ⟨h1.1,.inl trivial⟩
   .exact .inr h1
 |.seq a b,h=>by
  simp only[codeOk,AY] at h ⊢;exact⟨bO h.1,bO h.2⟩
 |.cond c a b,h=>by
  simp only[codeOk,AY] at h ⊢;exact⟨⟨h.1.1,bO h.1.2⟩,bO h.2⟩
 |.LE _ b,h=>by simp only[codeOk] at h ⊢;exact bO h
 |.loop b,h=>by simp only[codeOk] at h ⊢;exact bO h
 |.scope b,h=>by simp only[codeOk] at h ⊢;exact bO h
 |.rangeFunc f ps AG bo,h=>by simp only[codeOk] at h ⊢;exact h
def Nk (p:bn)(SB:bb->Bool)(fr:bh):Prop:=∀o,fr.oper?=bk o->KJ p SB o.op=ak
def rE {o O:Option Nat}(h:Ih H β o O):o.L=O.L:=by cases h<;>rfl
section
variable {fn:bb} {tmps GL:Array cf} {todo Ii:List fx} {defers Gc:List cK} {kind:eT} {round round':Option Nat} {cs CS:List bh} {w W:Y} {n:Nat}
def bC {mode a6:fq}(a2:Ei (SP SB H) β tmps GL)(a3:Fj (Gt P.a SB H zZ round.L β) todo Ii)(a4:Fj (FY (SP SB H) β) defers Gc)(a5:JS SB H β mode a6)(a7:kind≠.early/\SB fn=J)(a8:Ih H β round round')
  (hc:FC P.a SB H zZ T β cs CS) (hw:EU (SP SB H) (CK P.a SB zZ) Gn β w W) :
  Gb P SB H zZ BB T Gn β w W (.go { frame:=⟨fn,tmps,todo,defers,mode,kind,round⟩,callers:=cs,status:=.L,dying:=bA } w #[]) (.go { frame:=⟨fn,GL,Ii,Gc,a6,kind,round'⟩,callers:=CS,status:=.L,dying:=bA } W #[]) :=
 b8 ⟨β,_,W,_,rfl,aR ⟨rfl,a2,a3,a4,a5,rfl,a7,a8⟩ hc,by simpa using Fin.refl hw⟩
def dO (j:Option ez)(hj:∀c,j=bk c->codeOk P.a SB zZ ak c=J)(a7:kind≠.early/\SB fn=J){l L:Nat}(hl:β l L)(hh:H l=ak)
  (hc:FC P.a SB H zZ T β cs CS) (zU:cs≠[]) (hw:EU (SP SB H) (CK P.a SB zZ) Gn β w W) (ht:Kt n w W)
  (hb : (aQ (b9 (seen P.a fn ((cu l j).L P.a w #[]).2) (match ((cu l j).L P.a w #[]).1 with
    |.ok v w=>cE P.a main ⟨fn,tmps,todo,defers,.run,kind,round⟩ cs bA v w
    |.halt _ w=>.ended (.stuck "range over a function: no such loop" (kx P.a ⟨fn,tmps,todo,defers,.run,kind,round⟩)) w))).drawn<=w.drawn+n) :
  Gb P SB H zZ BB T Gn β w W (b9 (seen P.a fn ((cu l j).L P.a w #[]).2) (match ((cu l j).L P.a w #[]).1 with
    |.ok v w=>cE P.a main ⟨fn,tmps,todo,defers,.run,kind,round⟩ cs bA v w
    |.halt _ w=>.ended (.stuck "range over a function: no such loop" (kx P.a ⟨fn,tmps,todo,defers,.run,kind,round⟩)) w))
   (b9 (seen P.b fn ((cu L j).L P.b W #[]).2) (match((cu L j).L P.b W #[]).1 with
    |.ok v w=>cE P.b main2 ⟨fn,GL,Ii,Gc,.run,kind,round'⟩ CS bA v w
    |.halt _ w=>.ended (.stuck "range over a function: no such loop" (kx P.b ⟨fn,GL,Ii,Gc,.run,kind,round'⟩)) w)):=by
 have hm:=nX (P:=P) (Ck:=CK P.a SB zZ) (G:=Gn) (S:=SP SB H) hl hh j hj;have hE:=hm w W n hw ht #[] #[];rcases hr:(cu l j).L P.a w #[] with⟨r,es⟩
 rw[hr] at hb hE;cases r with
 |ok v w' =>
  have a6:w'.drawn<=w.drawn+n:=by
   have:∀cs,(aQ (b9 (seen P.a fn es) (cE P.a main ⟨fn,tmps,todo,defers,.run,kind,round⟩ cs bA v w')))=w'\/cs=[]:=by
    intro cs;cases cs with
    |nil=>exact .inr rfl
    |cons c cs =>
     refine .inl ?_;unfold cE;cases kind<;>rfl
   obtain h|h:=this cs
   .rw[<-h];exact hb
   .exact AS h zU
  obtain⟨Ef,X,W',ES,e1,e2,e3⟩:=hE a6;simp only[e1,Bx];have hc':=hc.LT λ_ _ (r:EC P.a SB H zZ β _ _)=>r.LT e3.le;have a8:=e3.seen (P:=P) (SB:=SB) (H:=H) (zZ:=zZ) fn;have:=ft (P:=P) (main:=main) (main2:=main2) (BB:=BB) (fr:=⟨fn,tmps,todo,defers,.run,kind,round⟩) (FR:=⟨fn,GL,Ii,Gc,.run,kind,round'⟩) rfl a7.1 hc' zU e2 a8 (seen P.a fn es);simpa using this
 |halt x w'=>trivial
end
def _root_.Go.EB.Eo.QX {S:FO}{Ck:ez->Prop}{α H2:Type}{m:Sem α}{M:Sem H2}{R:Ey->α->H2->Prop}(h:Eo P S Ck Gn β m M R){w W:Y}(hw:EU S Ck Gn β w W){a6 es:Array cw}{a:α}{w':Y}(hr:m.L P.a w a6=(.ok a w',es)):∃Ef A W',R Ef a A/\β.le Ef/\EU S Ck Gn Ef w' W':=by
 have hw':EU S Ck Gn β w { W with tape:=λi q=>w.tape (w.drawn+(i-W.drawn)) q }:=⟨hw.FH,hw.room,hw.F4,hw.Ge,hw.old,hw.env⟩
 have:=h w { W with tape:=λi q=>w.tape (w.drawn+(i-W.drawn)) q } ((world (m.L P.a w a6).1).drawn-w.drawn) hw' (λi _ q=>by
  show w.tape (w.drawn+i) q=w.tape (w.drawn+(W.drawn+i-W.drawn)) q
  rw[show W.drawn+i-W.drawn=i from by omega]) a6 #[] (by omega)
 rw[hr] at this;obtain⟨Ef,A,W',_,_,h,hf⟩:=this;exact⟨Ef,A,W',h,hf.le,hf.rel⟩
def nY {fr:bh}{cs:List bh}{m M:Sem k8}(hm:Eo P (SP SB H) (CK P.a SB zZ) Gn β m M (Iz (SP SB H) (CK P.a SB zZ))){w W:Y}(hw:EU (SP SB H) (CK P.a SB zZ) Gn β w W) :
  w.drawn<=(aQ (dn P.a J fr cs bA m w)).drawn:=by
 have h0:=Gh P.a m w #[];have a6:=hm.NJ hw #[];have hsome:=λ(a:k8) (w':Y) (es:Array cw) (e:m.L P.a w #[]=(.ok a w',es))=>hm.some hw e;unfold dn;simp only[if_true];rcases hr:m.L P.a w #[] with⟨r,es⟩
 rw[hr] at a6 h0;cases r with
 |ok x w' =>
  obtain⟨_,_,hx⟩:=hsome x w' es hr;cases hx<;>exact h0
 |halt x w' =>
  cases x with
  |panic v=>exact h0
  |stuck s=>exact h0
  |unsupported u =>
   cases u with
   |initOrder g=>exact AS rfl (a6 g)
   |_=>exact h0
  |_=>exact a6.S
def Gb.after {w W w' W':Y}{ES:List cw}(hf:Fin (SP SB H) (CK P.a SB zZ) Gn β Ef w W w' W' ES){s S:GStep}(h:Gb P SB H zZ BB T Gn Ef w' W' s S)(es:Array cw):Gb P SB H zZ BB T Gn β w W (b9 es s) (b9 ES.LK S):=by
 cases s with
 |go g w2 es2 =>
  obtain h|⟨a6,g2,W2,ES2,rfl,h2,h3⟩:=h
  .exact Or.inl h
  refine b8 ⟨a6,g2,W2,_,rfl,h2,?_⟩;have:=hf.trans h3;simpa using this
 |ended o w es=>trivial
 |_=>exact h.S
def tX (L:Lib P SB H zZ BB Gn){fr FR:bh}{cs CS:List bh}(hf:EC P.a SB H zZ β fr FR)(hm:fr.mode=.run)(hc:FC P.a SB H zZ T β cs CS)(zK:Nk P.a SB fr){w W:Y}{n:Nat}(hw:EU (SP SB H) (CK P.a SB zZ) Gn β w W)(ht:Kt n w W)
  (hb:(aQ (br P.a main J fr cs bA w)).drawn<=w.drawn+n) :
  Gb P SB H zZ BB T Gn β w W (br P.a main J fr cs bA w) (br P.b main2 J FR CS bA W):=by
 obtain⟨fn,tmps,todo,defers,mode,kind,round⟩:=fr;obtain⟨Hq,GL,Ii,Gc,aT,aU,round'⟩:=FR;have aB:=hf;obtain⟨a1,a2,a3,a4,a5,a6,a7,a8⟩:=hf;dsimp only at a1 a2 a3 a4 a5 a6 a7 a8 hm;subst a1 a6 hm;cases a5;cases a3 with
 |nil =>
  cases a8 with
  |none =>
   simp only[br] at hb ⊢;exact bC a2 .nil a4 .returning a7 .none hc hw
  |@some l L' hl hh =>
   have zU:cs≠[]:=hc.ne;simp only[br] at hb ⊢;exact dO bA (λc e=>by cases e) a7 hl hh hc zU hw ht hb
 |@cons i I l L' hi hl =>
  cases hi with
  |@code c aA =>
   have leave : ∀ (j : Option ez), (∀ c, j = bk c -> codeOk P.a SB zZ ak c = J) -> (∀ c, j = bk c -> c ≠ .ret -> round ≠ bA) ->
     br P.a main J ⟨fn,tmps,.code c::l,defers,.run,kind,round⟩ cs bA w=br P.a main J ⟨fn,tmps,.code c::l,defers,.run,kind,round⟩ cs bA w->True:=λ_ _ _ _=>trivial
   cases c with
   |skip=>exact bC a2 hl a4 .run a7 a8 hc hw
   |label l0=>exact bC a2 hl a4 .run a7 a8 hc hw
   |refuse s=>trivial
   |ret =>
    cases a8 with
    |none=>exact bC a2 (.cons (.code aA) hl) a4 .returning a7 .none hc hw
    |@some l0 L0 hl0 hh =>
     have zU:cs≠[]:=hc.ne;exact dO (bk .ret) (λc e=>by cases e;rfl) a7 hl0 hh hc zU hw ht hb
   |seq a b =>
    simp only[codeOk,AY] at aA;exact bC a2 (.cons (.code aA.1) (.cons (.code aA.2) hl)) a4 .run a7 a8 hc hw
   |cond x a b =>
    simp only[codeOk,AY] at aA;have hx:=aB.eval aA.1.1;simp only[br] at hb ⊢;revert hx;generalize ed ⟨fn,tmps,.code (.cond x a b)::l,defers,.run,kind,round⟩ x=v;generalize ed ⟨fn,GL,.code (.cond x a b)::L',Gc,.run,kind,round'⟩ x=V;intro hx;cases hx with
    |bool t =>
     cases t with
     |true=>exact bC a2 (.cons (.code aA.1.2) hl) a4 .run a7 a8 hc hw
     |false=>exact bC a2 (.cons (.code aA.2) hl) a4 .run a7 a8 hc hw
    |_=>trivial
   |block id b=>exact bC a2 (.cons (.code aA) (.cons (.inBlock id) hl)) a4 .run a7 a8 hc hw
   |loop b=>exact bC a2 (.cons (.code aA) (.cons (.inLoop aA) hl)) a4 .run a7 a8 hc hw
   |scope b=>exact bC a2 (.cons (.code aA) (.cons (.inScope aA) hl)) a4 .run a7 a8 hc hw
   |exit id =>
    obtain⟨e1,e2⟩|⟨k,K,e1,e2,hk⟩:=MO id hl
    .cases a8 with
     |none=>simp only[br,e1,eo];trivial
     |@some l0 L0 hl0 hh =>
      have zU:cs≠[]:=hc.ne;simp only[br,e1,e2,eo] at hb ⊢;exact dO (bk (.exit id)) (λc e=>by cases e;rfl) a7 hl0 hh hc zU hw ht hb
    .simp only[br,e1,e2,j2];exact bC a2 hk a4 .run a7 a8 hc hw
   |goto l1 =>
    obtain⟨e1,e2⟩|⟨k,K,e1,e2,hk⟩:=MP l1 hl
    .cases a8 with
     |none=>simp only[br,e1,eo];trivial
     |@some l0 L0 hl0 hh =>
      have zU:cs≠[]:=hc.ne;simp only[br,e1,e2,eo] at hb ⊢;exact dO (bk (.goto l1)) (λc e=>by cases e;rfl) a7 hl0 hh hc zU hw ht hb
    .simp only[br,e1,e2,j2];exact bC a2 hk a4 .run a7 a8 hc hw
   |rangeFunc f ps AG bo =>
    simp only[codeOk,AY] at aA;have ho:(round=bA/\round'=bA)\/∃l L,round=bk l/\round'=bk L/\β l L/\(SP SB H).LH l=false:=by
     cases a8 with
     |none=>exact .inl ⟨rfl,rfl⟩
     |some x y=>exact .inr ⟨_,_,rfl,rfl,x,y⟩
    have hm:=mD (P:=P) (Ck:=CK P.a SB zZ) (G:=Gn) (S:=SP SB H) fn a7.2 a2 ps aA.1.2 aA.2 ho;have hE:=hm w W n hw ht #[] #[];simp only[br] at hb ⊢;rcases hr:(eG fn tmps ps AG bo round).L P.a w #[] with⟨r,es⟩
    rw[hr] at hb hE;cases r with
    |ok x w' =>
     obtain⟨l0,mark⟩:=x;have next : ∀ (Ef : Ey) (l0 L0 : Nat), β.le Ef -> Ef l0 L0 -> H l0 = ak -> ∀ (m M : List cK),
       Eo P (SP SB H) (CK P.a SB zZ) Gn Ef (do
        let d<-resolve (ed ⟨fn,tmps,.inRangeFunc l0::l,m++defers,.run,kind,round⟩) { callee:=.value f,args:=#[.const (.func (.yield l0) #[] #[])],argTypes:=#[] } 0
        invoke d.target d.args) (do
        let d<-resolve (ed ⟨fn,GL,.inRangeFunc L0::L',M++Gc,.run,kind,round'⟩) { callee:=.value f,args:=#[.const (.func (.yield L0) #[] #[])],argTypes:=#[] } 0
        invoke d.target d.args) (Iz (SP SB H) (CK P.a SB zZ)):=by
      intro Ef l0 L0 zX hl0 aL m M;unfold resolve;dsimp only;have hx:Ee (SP SB H) Ef (ed ⟨fn,tmps,.inRangeFunc l0::l,m++defers,.run,kind,round⟩ f) (ed ⟨fn,GL,.inRangeFunc L0::L',M++Gc,.run,kind,round'⟩ f):=by
       have:=(aB.eval aA.1.1).LT zX;cases f with
       |tmp t=>exact this
       |const v=>exact this
       |global g=>exact this
       |func g=>exact this
      refine Ea (gD hx ?_) ?_
      .simp only[C4,Ci,CX,ed];exact Ei.one (.func (.yield hl0 aL) rfl (by simp) rfl (by simp))
      .intro aM d D _ hd;exact io L.calls hd
     obtain⟨aN,⟨L1,M1⟩,W1,hx1,aO,aP⟩:=hm.QX hw hr;have hd:=nY (fr:=⟨fn,tmps,.inRangeFunc l0::l,mark++defers,.run,kind,round⟩) (cs:=cs) (next aN l0 L1 aO hx1.1 hx1.2.1 mark M1) aP;have aS:w'.drawn<=w.drawn+n:=by
      have e:∀s,aQ (b9 (seen P.a fn es) s)=aQ s:=λs=>by cases s<;>rfl
      rw[e] at hb;exact AU hd hb
     obtain⟨Ef,⟨L0,M0⟩,W',ES,e1,⟨e2,aD,aJ⟩,e3⟩:=hE aS;simp only[e1,Bx];have hc':=hc.LT λ_ _ (r:EC P.a SB H zZ β _ _)=>r.LT e3.le;have zR:EC P.a SB H zZ Ef ⟨fn,tmps,.inRangeFunc l0::l,mark++defers,.run,kind,round⟩ ⟨fn,GL,.inRangeFunc L0::L',M0++Gc,.run,kind,round'⟩ :=
      ⟨rfl,a2.LT e3.le,.cons (.inRangeFunc e2 aD) (hl.LT λ_ _=>Gt.LT e3.le),aJ.append (a4.LT λ_ _=>FY.LT e3.le),.run,rfl,a7,a8.LT e3.le⟩
     have h3:=e3.drawn
     have:=iq (BB:=BB) L zR hc' (next Ef l0 L0 e3.le e2 aD mark M0) e3.rel (ht.rest e3) (by
      have e:∀s,aQ (b9 (seen P.a fn es) s)=aQ s:=λs=>by cases s<;>rfl
      rw[e] at hb;refine AU hb ?_
      omega)
     have:=Gb.after (e3.seen (P:=P) (SB:=SB) (H:=H) (zZ:=zZ) fn) this (seen P.a fn es);simpa using this
    |halt x w'=>trivial
   |region id ops draw =>
    have aG:ops.all (cy P.a SB zZ round.L)=true:=by have h0:=aA;simp only[codeOk,AY] at h0;exact h0.1
    cases draw with
    |false=>exact bC a2 (.cons (.inRegion aG) hl) a4 .run a7 a8 hc hw
    |true =>
     have hm:=fH (P:=P) (Ck:=CK P.a SB zZ) (G:=Gn) (S:=SP SB H) (β:=β) (.order fn id);have hE:=hm w W n hw ht #[] #[];simp only[br,Bool.not_true,Bj,if_false] at hb ⊢;rw[<-eH P.a (choose (.order fn id)) w #[]] at hb ⊢;rw[<-eH P.b (choose (.order fn id)) W #[]];rcases hr:(choose (.order fn id)).L P.a w #[] with⟨r,es⟩
     rw[hr] at hb hE;cases r with
     |ok t w' =>
      obtain⟨Ef,X,W',ES,e1,e2,e3⟩:=hE hb;simp only[e1];subst e2;have hc':=hc.LT λ_ _ (r:EC P.a SB H zZ β _ _)=>r.LT e3.le;exact b8 ⟨Ef,_,W',_,rfl,aR ⟨rfl,a2.LT e3.le,.cons (.inRegion aG) (hl.LT λ_ _=>Gt.LT e3.le),a4.LT λ_ _=>FY.LT e3.le,.run,rfl,a7,a8.LT e3.le⟩ hc',{ e3 with evs:=by simp }⟩
     |halt x w'=>trivial
  |inBlock id=>exact bC a2 hl a4 .run a7 a8 hc hw
  |@inLoop c aA=>exact bC a2 (.cons (.code aA) (.cons (.inLoop aA) hl)) a4 .run a7 a8 hc hw
  |@inScope c aA=>exact bC a2 hl a4 .run a7 a8 hc hw
  |@inRegion ops todo ho =>
   cases todo with
   |nil=>exact bC a2 hl a4 .run a7 a8 hc hw
   |cons i rest =>
    have hy:yielded ops GL=yielded ops tmps:=(funext λj=>iY a2 ops j).LH;simp only[br,hy] at hb ⊢;by_cases aF:(Option.map (λx=>cF x (yielded ops tmps)) ops[i]?).LH ak=J
    .simp only[AP aF] at hb ⊢;cases hoi:ops[i]? with
     |none=>rw[hoi] at aF;cases aF
     |some o =>
      have aK:=zK o (by unfold gU;exact hoi);have aC:cy P.a SB zZ round.L o=true:=by
       simp only[Bl] at ho;exact ho o (Bn hoi)
      unfold cy at aC;rw[aK] at aC;simp only[Cs,Di,AY,Bq,B9] at aC;have key:∀(p:bn) (t:Array cf) (k:List fx) (ds:List cK) (r:Option Nat),r.L=round.L->∀cs w,k9 p J ⟨fn,t,.inRegion ops (i::rest)::k,ds,.run,kind,r⟩ cs bA w=dn p J ⟨fn,t,.inRegion ops (i::rest)::k,ds,.run,kind,r⟩ cs bA (eC (ed ⟨fn,t,.inRegion ops (i::rest)::k,ds,.run,kind,r⟩) o) w:=by
       intro p t k ds r hr cs w;unfold k9 gU;simp only[hoi];cases r with
       |none=>rfl
       |some l0 =>
        rw[<-hr] at aC;cases hop:o.op with
        |defer c=>rw[hop] at aC;simp[oV] at aC
        |_=>rfl
      rw[key _ _ _ _ _ rfl] at hb ⊢;rw[key _ _ _ _ _ (rE a8).LH];exact iq L aB hc (rD L.RS L.calls (λx hx=>aB.eval hx) aC.1) hw ht hb
    .simp only[AN aF] at hb ⊢;exact b8 ⟨β,_,W,_,rfl,aR (bp aB (.tuple rfl (by simp))) hc,by simpa using Fin.refl hw⟩
  |inRangeFunc x y=>trivial
  |@endRangeFunc l0 L0 x y =>
   have hm:=pZ (P:=P) (Ck:=CK P.a SB zZ) (G:=Gn) (S:=SP SB H) x y;have hE:=hm w W n hw ht #[] #[];have aI:=hm.NJ hw #[];simp only[br] at hb ⊢;rcases hr:(jk l0).L P.a w #[] with⟨r,es⟩
   rw[hr] at hb hE aI;cases r with
   |ok j w' =>
    obtain⟨Ef,X,W',ES,e1,⟨e2,aD⟩,e3⟩:=hE hb;subst e2;simp only[e1,Bx];have hc':=hc.LT λ_ _ (r:EC P.a SB H zZ β _ _)=>r.LT e3.le;have aH:=e3.seen (P:=P) (SB:=SB) (H:=H) (zZ:=zZ) fn;have hl':=hl.LT λ_ _ (r:Gt P.a SB H zZ round.L β _ _)=>r.LT e3.le;refine b8 ⟨Ef,_,W',_,rfl,aR ⟨rfl,a2.LT e3.le,?_,a4.LT λ_ _=>FY.LT e3.le,.run,rfl,a7,a8.LT e3.le⟩ hc',by simpa using aH⟩
    cases j with
    |none=>exact hl'
    |some c=>exact .cons (.code (bO (aD c rfl))) hl'
   |halt x w' =>
    cases x with
    |panic v =>
     obtain⟨Ef,X,W',ES,e1,e2,e3⟩:=hE hb;simp only[e1,Bx];have hc':=hc.LT λ_ _ (r:EC P.a SB H zZ β _ _)=>r.LT e3.le;have aH:=e3.seen (P:=P) (SB:=SB) (H:=H) (zZ:=zZ) fn;exact b8 ⟨Ef,_,W',_,rfl,aR (cL (aB.LT e3.le) (.cons (.mk _ _ e2) .nil)) hc',by simpa using aH⟩
    |_=>trivial
  |beginRound =>
   have hm:Eo P (SP SB H) (CK P.a SB zZ) Gn β (do round.S (stuck "beginRound: no round") ek;pure .skip:Sem k8) (do round'.S (stuck "beginRound: no round") ek;pure .skip) (Iz (SP SB H) (CK P.a SB zZ)):=by
    cases a8 with
    |none=>exact Ea (R:=λ_ _ _=>False) Eg (λ_ _ _ _ h=>h.S)
    |some x y =>
     refine Ea (me x y) ?_;intro aM _ _ _ _;exact Eb .skip
   simp only[br] at hb ⊢;exact iq L aB hc hm hw ht hb
def Ready (p:bn)(SB:bb->Bool)(g:Z):Prop:=g.L.mode=.run->Nk p SB g.L
def dX (L:Lib P SB H zZ BB Gn){g g2:Z}(hg:Gf P SB H zZ BB T β g g2)(a8:EC P.a SB H zZ β g.L g2.L)(hr:Ready P.a SB g){w W:Y}{n:Nat}(hw:EU (SP SB H) (CK P.a SB zZ) Gn β w W)(ht:Kt n w W)
  (hb:(aQ (bq P.a main g w)).drawn<=w.drawn+n) :
  Gb P SB H zZ BB T Gn β w W (bq P.a main g w) (bq P.b main2 g2 W):=by
 obtain⟨fr,cs,st,dy,off⟩:=g;obtain⟨FR,CS,JD,dy',a7⟩:=g2;obtain⟨h1,h2,⟨h3,aB⟩,⟨h4,aA⟩,⟨h5,h5'⟩⟩:=hg;dsimp only at *;subst h4 aA;have hm:=a8.mode;cases a6:fr.mode with
 |run =>
  rw[a6] at hm;have e1:bq P.a main ⟨fr,cs,st,bA,off⟩ w=br P.a main J fr cs bA w:=by unfold bq;simp only[a6]
  have e2:bq P.b main2 ⟨FR,CS,JD,bA,a7⟩ W=br P.b main2 J FR CS bA W:=by
   have:FR.mode=.run:=by generalize FR.mode=q at hm;cases hm;rfl
   unfold bq;simp only[this]
  rw[e1] at hb ⊢;rw[e2];exact tX L a8 a6 h2 (hr a6) hw ht hb
 |returning =>
  rw[a6] at hm;have e1:bq P.a main ⟨fr,cs,st,bA,off⟩ w=unwind P.a main fr cs bA w:=by unfold bq;simp only[a6]
  have e2:bq P.b main2 ⟨FR,CS,JD,bA,a7⟩ W=unwind P.b main2 FR CS bA W:=by
   have:FR.mode=.returning:=by generalize FR.mode=q at hm;cases hm;rfl
   unfold bq;simp only[this]
  rw[e1] at hb ⊢;rw[e2];exact jL L a8 h2 hw ht hb
 |panicking l =>
  rw[a6] at hm;have e1:bq P.a main ⟨fr,cs,st,bA,off⟩ w=unwind P.a main fr cs bA w:=by unfold bq;simp only[a6]
  have e2:bq P.b main2 ⟨FR,CS,JD,bA,a7⟩ W=unwind P.b main2 FR CS bA W:=by
   have:∃l,FR.mode=.panicking l:=by generalize FR.mode=q at hm;cases hm;exact⟨_,rfl⟩
   obtain⟨l,this⟩:=this;unfold bq;simp only[this]
  rw[e1] at hb ⊢;rw[e2];exact jL L a8 h2 hw ht hb
end
def EK.of (p:bn):EK:=⟨p,p.L⟩
abbrev EK.self (P:EK):EK:=EK.of P.a
section
variable {P:EK} {SB:bb->Bool} {H:Hid} {zZ:Bool} {BB:bb->Bool} {β:Ey} {G:Nat}
def Gt.id {ad:Bool}(h:β.Oq){i I:fx}(r:Gt P.a SB H zZ ad β i I):i=I:=by
 cases r with
 |inRangeFunc hl _=>rw[h _ _ hl]
 |endRangeFunc hl _=>rw[h _ _ hl]
 |_=>rfl
def JS.id (h:La H β){m M:fq}(r:JS SB H β m M):m=M:=by
 cases r with
 |panicking l=>rw[Fj.id (λa A (r:JL SB H β a A)=>by cases r with|mk x y v=>rw[v.id h]) l]
 |_=>rfl
def Ih.id (h:β.Oq){o O:Option Nat}(r:Ih H β o O):o=O:=by
 cases r with
 |none=>rfl
 |some hl _=>rw[h _ _ hl]
def EC.id (h:La H β){f F:bh}(r:EC P.a SB H zZ β f F):f=F:=by
 have h1:=r.fn;have h2:=r.tmps.id h;have h3:=r.todo.id λ_ _=>Gt.id h.2;have h4:=r.defers.id λ_ _=>FY.id h;have h5:=r.mode.id h;have h6:=r.kind;have h7:=r.round.id h.2;obtain⟨b1,b2,b3,b4,b5,b6,b7⟩:=F;dsimp only at *;subst h1 h2 h3 h4 h5 h6 h7
 rfl
def Gw.id (h:La H β){f F:bh}(r:Gw P.self SB H zZ BB β f F):f=F:=by
 cases r with
 |on r=>exact r.id h
 |stop _ _ _ a=>rw[a.id h];rfl
def FC.id (h:La H β){cs CS:List bh}(r:FC P.a SB H zZ [bad] β cs CS):cs=CS:=by
 induction r with
 |base=>rfl
 |cons a _ ih=>rw[a.id h,ih]
def Gf.id (h:La H β){g g':Z}(r:Gf P.self SB H zZ BB [bad] β g g'):g=g':=by
 have h1:=r.top.id h;have h2:=r.callers.id h;obtain⟨a1,a2,a3,a4,a5⟩:=g;obtain⟨b1,b2,b3,b4,b5⟩:=g';obtain⟨_,_,⟨s1,s2⟩,⟨d1,d2⟩,⟨o1,o2⟩⟩:=r;dsimp only at *;subst h1 h2 s1 s2 d1 d2 o1 o2
 rfl
end
def on (w:Y)(τ:k0)(d:Nat):World:={ w with tape:=τ,drawn:=d }
def EE (w W:Y):Prop:=W.L=w.L/\W.os=w.os/\W.output=w.output
def Dt {w:Y}{τ:k0}{d:Nat}:EE w (on w τ d):=⟨rfl,rfl,rfl⟩
def EE.LH {w W:Y}(h:EE w W):EE W w:=⟨h.1.LH,h.2.1.LH,h.2.2.LH⟩
def EE.trans {w W X:Y}(h:EE w W)(k:EE W X):EE w X:=⟨k.1.trans h.1,k.2.1.trans h.2.1,k.2.2.trans h.2.2⟩
def EE.eq {w W:Y}(h:EE w W):W=on w W.tape W.drawn:=by
 obtain⟨a,b,c,d,e⟩:=W;obtain⟨h1,h2,h3⟩:=h;dsimp only at *;subst h1 h2 h3
 rfl
def EU.same {S:FO}{Ck:ez->Prop}{G:Nat}{β:Ey}{w W w1 W1:Y}(h:EU S Ck G β w W)(e:w1.L=w.L)(E:W1.L=W.L)(o:w1.os.env=W1.os.env):EU S Ck G β w1 W1 :=
 ⟨h.FH,by rw[e,E];exact h.room,by rw[e,E];exact h.F4,by rw[e,E];exact h.Ge,by rw[e];exact h.old,o⟩
def Path (P:bn)(Q:Z->Y->Prop):Nat->Z->Y->Prop
 |0,g,w=>Q g w
 |n+1,g,w=>Q g w\/∃g' w' es,bq P J g w=.go g' w' es/\g'.callers≠[]/\Path P Q n g' w'
inductive Ep (P:bn)(Ev:Z->Y->Prop)(Q:Z->Y->Prop):Z->Y->Prop
 |fin {g:Z} {w:Y}:Q g w->Ep P Ev Q g w
 |next {g:Z} {w:Y} (ng:k0->Nat->Z) (nw:k0->Nat->Y):Ev g w->(∀τ d,(∃es,bq P J g (on w τ d)=.go (ng τ d) (nw τ d) es)/\(ng τ d).callers≠[])->(∀τ d,Ep P Ev Q (ng τ d) (nw τ d))->Ep P Ev Q g w
def Ep.step {P:bn}{Ev Q:Z->Y->Prop}{g:Z}{w:Y}(he:Ev g w)(h:∀τ d,∃g' w' es,bq P J g (on w τ d)=.go g' w' es/\g'.callers≠[]/\Ep P Ev Q g' w'):Ep P Ev Q g w :=
 .next (λτ d=>bw (h τ d)) (λτ d=>bw (bc (h τ d))) he
  (λτ d=>by
   obtain⟨es,h1,h2,_⟩:=bc (bc (h τ d))
   exact⟨⟨es,h1⟩,h2⟩)
  (λτ d=>by
   obtain⟨es,_,_,h3⟩:=bc (bc (h τ d))
   exact h3)
section
variable {P:bn} {SB:bb->Bool} {H:Hid} {BB:bb->Bool} {T:List bh} {β:Ey} {G:Nat}
def Ox {f F:bh}(r:EC P SB H ak β f F):Nk P SB f:=by
 intro o ho;have key:∀(t T:List fx),Fj (Gt P SB H ak f.roundOf.L β) t T->(match t with|.inRegion ops (i::_)::_=>ops[i]?|_=>bA)=bk o->KJ P SB o.op=false:=by
  intro t T h e;cases h with
  |nil=>cases e
  |cons hi _ =>
   cases hi with
   |@inRegion ops l a6 =>
    cases l with
    |nil=>cases e
    |cons i rest =>
     simp only[Bl] at a6;have:=a6 o (Bn e);unfold cy at this;simp only[Cf,Di,AY] at this;exact vU this.1
   |_=>cases e
 refine key f.todo F.todo r.todo ?_;unfold gU at ho;exact ho
def mE {p:bn}{f:bb}{fn:kq}{s:String}(h:p.L[f]?=bk fn)(hb:fn.body=bk (.refuse s))(a:Array cf)(k:eT)(cs:List bh)(w:Y)(main:Bool){g':Z}{w':Y}{es:Array cw} :
  bq p main ⟨bW p f a k,cs,.L,bA,bA⟩ w≠.go g' w' es:=by
 intro e;simp[bq,bW,h,hb,br] at e
def Gf.RU {T:List bh}(L:Lib (EK.of P) SB H ak SB G){g g2:Z}(hg:Gf (EK.of P) SB H ak SB T β g g2){main:Bool}{w:Y}{g':Z}{w':Y}{es:Array cw}(e:bq P main g w=.go g' w' es):EC P SB H ak β g.L g2.L:=by
 have a6:=hg.top;obtain⟨fr,cs,st,dy,off⟩:=g;obtain⟨_,_,⟨z1,_⟩,⟨z2,_⟩,⟨z3,_⟩⟩:=hg;dsimp only at a6 z1 z2 z3 ⊢;subst z1 z2 z3;generalize g2.L=FR at a6 ⊢;cases a6 with
 |on h=>exact h
 |@stop f a A k h1 h2 =>
  exfalso;obtain h1|h1:=h1
  .rw[h1] at h2;cases h2
  .obtain⟨fn,s,q1,q2⟩:=L.bars f h1;exact mE (p:=P) q1 q2 _ _ _ _ _ e
structure Self (P:bn)(SB:bb->Bool)(H:Hid)(G:Nat)(g:Z)(w:Y):Prop where
 bk:∃β:Ey,La H β/\Gf (EK.of P) SB H ak SB [bad] β g g/\EU (SP SB H) (CK P SB ak) G β w w
def H5 (L:Lib (EK.of P) SB H ak SB G){g:Z}{w W:Y}(hs:Self P SB H G g w)(hh:EE w W){n:Nat}(ht:Kt n w W){g':Z}{w':Y}{es:Array cw}
  (zG:bq P J g w=.go g' w' es) (hb:w'.drawn<=w.drawn+n) (zU:g'.callers≠[]) :
  ∃W' ES,bq P J g W=.go g' W' ES/\EE w' W'/\W'.tape=W.tape/\W'.drawn+w.drawn=W.drawn+w'.drawn/\w.drawn<=w'.drawn/\w'.tape=w.tape/\Self P SB H G g' w':=by
 obtain⟨β,hi,hg,hw⟩:=hs;have hw2:EU (SP SB H) (CK P SB ak) G β w W:=hw.same rfl hh.1 (by rw[hh.2.1]);have a6:=hg.RU L zG;have hb':(aQ (bq P J g w)).drawn<=w.drawn+n:=by rw[zG];exact hb
 have:Gb (EK.of P) SB H ak SB [bad] G β w W (bq P J g w) (bq P J g W):=dX (main:=J) (main2:=J) L hg a6 (λ_=>Ox a6) hw2 ht hb';rw[zG] at this;obtain⟨h0,_⟩|⟨Ef,g2,W',ES,e,h1,h2⟩:=this
 .exact AS h0 zU
 obtain⟨i1,i2⟩:=h2.same hi hh.1.LH;have eg:=Gf.id (P:=EK.of P) i1 h1;subst eg;exact⟨W',ES,e,⟨i2.LH,h2.OS.trans (hh.2.1.trans h2.os.LH),h2.OUT.trans (hh.2.2.trans h2.out.LH)⟩,h2.TAPE,h2.draws,h2.drawn,h2.tape,⟨Ef,i1,h1,h2.rel.same rfl i2 rfl⟩⟩
variable {Q:Z->Y->Prop}
def p7 (L:Lib (EK.of P) SB H ak SB G)(hQ:∀g w W,EE w W->Q g w->Q g W){n:Nat}{g:Z}{w W:Y}(hs:Self P SB H G g w)(hh:EE w W)(ht:∀m,Kt m w W)(h:Path P Q n g w):Path P Q n g W:=by
 induction n generalizing g w W with
 |zero=>exact hQ _ _ _ hh h
 |succ n ih =>
  obtain h|⟨g',w',es,h1,h2,h3⟩:=h
  .exact .inl (hQ _ _ _ hh h)
  .obtain⟨W',ES,e1,e2,e3,e4,e5,e6,e7⟩:=H5 L hs hh (ht (w'.drawn-w.drawn)) h1 (by omega) h2;refine .inr ⟨g',W',ES,e1,h2,ih e7 e2 ?_ h3⟩;intro m i hi q;have:=ht ((w'.drawn-w.drawn)+i+1) ((w'.drawn-w.drawn)+i) (by omega) q;rw[e3,e6];rw[show w'.drawn+i=w.drawn+(w'.drawn-w.drawn+i) from by omega,show W'.drawn+i=W.drawn+(w'.drawn-w.drawn+i) from by omega];exact this
def Path.Oy {n:Nat}{g:Z}{w:Y}(h:Path P Q n g w)(hq:¬Q g w):∃m g' w' es,bq P J g w=.go g' w' es/\g'.callers≠[]/\Path P Q m g' w':=by
 cases n with
 |zero=>exact AS h hq
 |succ n =>
  obtain h|⟨g',w',es,h⟩:=h
  .exact AS h hq
  .exact⟨n,g',w',es,h⟩
structure Oz (P:bn)(SB:bb->Bool)(H:Hid)(G:Nat)(Q:Z->Y->Prop)(g:Z)(w:Y):Prop where
 self:Self P SB H G g w
 ends:∀τ d,∃n,Path P Q n g (on w τ d)
def Self.same {g:Z}{w W:Y}(h:Self P SB H G g w)(e:EE w W):Self P SB H G g W:=by
 obtain⟨β,h1,h2,h3⟩:=h;exact⟨β,h1,h2,h3.same e.1 e.1 rfl⟩
def Oz.next (L:Lib (EK.of P) SB H ak SB G)(hQ:∀g w W,EE w W->Q g w->Q g W){g:Z}{w:Y}(h:Oz P SB H G Q g w)(hq:¬Q g w){τ:k0}{d:Nat}{g':Z}{w':Y}{es:Array cw}
  (zG:bq P J g (on w τ d)=.go g' w' es) (zU:g'.callers≠[]):Oz P SB H G Q g' w':=by
 have hs:=h.self.same (Dt (τ:=τ) (d:=d));obtain⟨_,_,_,_,_,_,hd,a8,hs'⟩:=H5 L hs (W:=on w τ d) ⟨rfl,rfl,rfl⟩ (n:=w'.drawn-(on w τ d).drawn) (λ_ _ _=>rfl) zG (by omega) zU;refine⟨hs',λa6 d'=>?_⟩
 let a7:Tape:=λi=>if i<w'.drawn then τ i else a6 (i-w'.drawn+d')
 obtain⟨n,hp⟩:=h.ends a7 d;obtain⟨m,g2,w2,es2,k1,k2,k3⟩:=hp.Oy (λhq'=>hq (hQ g (on w a7 d) w ⟨rfl,rfl,rfl⟩ hq'))
 obtain⟨W',ES,e1,e2,e3,e4,e5,_,_⟩:=H5 L hs (W:=on w a7 d) ⟨rfl,rfl,rfl⟩ (n:=w'.drawn-(on w τ d).drawn) (λi hi q=>by
  show τ (d+i) q=(if d+i<w'.drawn then τ (d+i) else a6 (d+i-w'.drawn+d')) q;have:d+i<w'.drawn:=by have:(on w τ d).drawn=d:=rfl;omega
  rw[AP this]) zG (by omega) zU
 rw[k1] at e1;cases e1;refine⟨m,p7 L hQ (hs'.same e2) (W:=on w' a6 d') ⟨e2.1.LH,e2.2.1.LH,e2.2.2.LH⟩ ?_ k3⟩;intro m i _ q;have e4':w2.drawn=w'.drawn:=by have:(on w a7 d).drawn=d:=rfl;have:(on w τ d).drawn=d:=rfl;omega
 rw[e3,e4'];show(if w'.drawn+i<w'.drawn then τ (w'.drawn+i) else a6 (w'.drawn+i-w'.drawn+d')) q=a6 (d'+i) q;rw[AN (by omega),show w'.drawn+i-w'.drawn+d'=d'+i from by omega]
structure Pq (P:bn)(Q:Z->Y->Prop)(C:Z->Y->Prop) where
 g:Z
 w:Y
 bad:C g w
def fv (L:Lib (EK.of P) SB H ak SB G)(hQ:∀g w W,EE w W->Q g w->Q g W){g:Z}{w:Y}(h:Oz P SB H G Q g w):Ep P (Self P SB H G) Q g w:=by
 refine Classical.byContradiction λhno=>?_
 let C:Z->Y->Prop:=λg w=>Oz P SB H G Q g w/\¬Ep P (Self P SB H G) Q g w
 have nq:∀g w,C g w->¬Q g w:=λg w hc hq=>hc.2 (.fin hq);have next:∀x:Pq P Q C,∃(τ:k0) (d:Nat) (y:Pq P Q C),∃es,bq P J x.g (on x.w τ d)=.go y.g y.w es/\y.g.callers≠[]:=by
  rintro⟨g,w,hc⟩;have:¬ ∀τ d,∃g' w' es,bq P J g (on w τ d)=.go g' w' es/\g'.callers≠[]/\Ep P (Self P SB H G) Q g' w':=λhall=>hc.2 (.step hc.1.self hall);simp only[Classical.not_forall] at this;obtain⟨τ,d,hn⟩:=this;obtain⟨n,hp⟩:=hc.1.ends τ d;obtain⟨m,g',w',es,k1,k2,k3⟩:=hp.Oy (λhq'=>nq g w hc (hQ g (on w τ d) w ⟨rfl,rfl,rfl⟩ hq'));refine⟨τ,d,⟨g',w',hc.1.next L hQ (nq g w hc) k1 k2,λhr=>hn ⟨g',w',es,k1,k2,hr⟩⟩,es,k1,k2⟩
 let τ:=λx=>bw (next x)
 let d:=λx=>bw (bc (next x))
 let nx:=λx=>bw (bc (bc (next x)))
 have hnx:∀x:Pq P Q C,∃es,bq P J x.g (on x.w (τ x) (d x))=.go (nx x).g (nx x).w es/\(nx x).g.callers≠[]:=λx=>bc (bc (bc (next x)))
 let s:Nat->Pq P Q C:=λk=>Nat.rec ⟨g,w,h,hno⟩ (λ_ x=>nx x) k
 have sS:∀k,s (k+1)=nx (s k):=λk=>rfl
 let n:Nat->Nat:=λk=>(s (k+1)).w.drawn-d (s k)
 let D:Nat->Nat:=λk=>Nat.rec 0 (λk x=>x+n k) k
 have DS:∀k,D (k+1)=D k+n k:=λk=>rfl;have Dm:∀k j,D k<=D (k+j):=by
  intro k j
  induction j with
  |zero=>exact AK _
  |succ j ih=>rw[show k+(j+1)=(k+j)+1 from rfl,DS];omega
 have uniq:∀i k j,D k<=i->i<D (k+1)->D j<=i->i<D (j+1)->k=j:=by
  intro i k j h1 h2 h3 h4;obtain zY|rfl|zY:=Nat.lt_trichotomy k j
  .have:=Dm (k+1) (j-(k+1));rw[show k+1+(j-(k+1))=j from by omega] at this;omega
  .rfl
  .have:=Dm (j+1) (k-(j+1));rw[show j+1+(k-(j+1))=k from by omega] at this;omega
 let T:Tape:=λi q=>@dite _ (∃k,D k<=i/\i<D (k+1)) (Classical.propDecidable _) (λhx=>τ (s (bw hx)) (d (s (bw hx))+(i-D (bw hx))) q) (λ_=>0)
 have hT:∀k i q,i<n k->T (D k+i) q=τ (s k) (d (s k)+i) q:=by
  intro k i q hi;have hx:∃k',D k'<=D k+i/\D k+i<D (k'+1):=⟨k,by omega,by rw[DS];omega⟩;have hc:=bc hx;have e:bw hx=k:=uniq (D k+i) _ _ hc.1 hc.2 (by omega) (by rw[DS];omega);have e1:T (D k+i) q=τ (s (bw hx)) (d (s (bw hx))+(D k+i-D (bw hx))) q:=dif_pos hx;rw[e1,e,Nat.add_sub_cancel_left]
 have stepT:∀k,∃es,bq P J (s k).g (on (s k).w T (D k))=.go (s (k+1)).g (on (s (k+1)).w T (D (k+1))) es:=by
  intro k;obtain⟨es,k1,k2⟩:=hnx (s k);have a6:=(s k).bad.1.self.same (Dt (τ:=τ (s k)) (d:=d (s k)))
  obtain⟨_,_,_,_,_,_,hd,_,_⟩:=H5 L a6 (W:=on (s k).w (τ (s k)) (d (s k))) ⟨rfl,rfl,rfl⟩ (n:=n k) (λ_ _ _=>rfl) k1 (by
   show(nx (s k)).w.drawn<=d (s k)+((s (k+1)).w.drawn-d (s k))
   rw[sS];omega) k2
  obtain⟨W',ES,e1,e2,e3,e4,_,_,_⟩:=H5 L a6 (W:=on (s k).w T (D k)) ⟨rfl,rfl,rfl⟩ (n:=n k) (λi hi q=>(hT k i q hi).LH) k1 (by
   show(nx (s k)).w.drawn<=d (s k)+((s (k+1)).w.drawn-d (s k))
   rw[sS];omega) k2
  refine⟨ES,e1.trans ?_⟩;have e5:W'.drawn=D (k+1):=by
   have a1:(on (s k).w (τ (s k)) (d (s k))).drawn=d (s k):=rfl;have a2:(on (s k).w T (D k)).drawn=D k:=rfl;have a3:(nx (s k)).w.drawn=(s (k+1)).w.drawn:=rfl;rw[DS];show W'.drawn=D k+((s (k+1)).w.drawn-d (s k));omega
  rw[e2.eq,e3,e5]
  rfl
 have main:∀m k,¬Path P Q m (s k).g (on (s k).w T (D k)):=by
  intro m
  induction m with
  |zero=>exact λk hq=>nq _ _ (s k).bad (hQ _ (on (s k).w T (D k)) _ ⟨rfl,rfl,rfl⟩ hq)
  |succ m ih =>
   intro k hp;obtain hq|⟨g',w',es,k1,_,k3⟩:=hp
   .exact nq _ _ (s k).bad (hQ _ (on (s k).w T (D k)) _ ⟨rfl,rfl,rfl⟩ hq)
   .obtain⟨ES,e⟩:=stepT k;rw[e] at k1;cases k1;exact ih (k+1) k3
 obtain⟨m,hp⟩:=h.ends T 0;exact main m 0 hp
end
def Fc (fr:bh)(cs:List bh):Goroutine:={ frame:=fr,callers:=cs,status:=.L,dying:=bA }
section
variable {P:bn} {SB:bb->Bool} {H:Hid} {T:List bh} {β:Ey} {G:Nat} {Q:Z->Y->Prop}
def Gf.Fc {P:EK}{zZ:Bool}{BB:bb->Bool}{g g':Z}(r:Gf P SB H zZ BB T β g g'):g=Go.EB.Fc g.L g.callers:=by
 obtain⟨a1,a2,a3,a4,a5⟩:=g;obtain⟨_,_,⟨s1,_⟩,⟨d1,_⟩,⟨o1,_⟩⟩:=r;dsimp only at *;subst s1 d1 o1
 rfl
def NK (L:Lib (EK.of P) SB H ak SB G){fr:bh}{cs:List bh}{w:Y}(hs:Self P SB H G (Fc fr cs) w) :
  (∃a6 cs' w' es,bq P J (Fc fr cs) w=.go (Fc a6 cs') w' es/\cs'≠[]/\step P (lone fr cs w)=.next (lone a6 cs' w')/\Self P SB H G (Fc a6 cs') w') \/
  (∃a6 w' o w'',step P (lone fr cs w)=.next (lone a6 [] w')/\step P (lone a6 [] w')=.ended o w'') \/
  (∃o w',step P (lone fr cs w)=.ended o w'):=by
 obtain⟨β,hi,hg,hw⟩:=hs;have a8:(∃s,(∃o w',s=k7 o w' #[])/\bq P J (Fc fr cs) w=s)\/EC P SB H ak β fr fr:=by
  have a7:=hg.top;change Gw (EK.of P) SB H ak SB β fr fr at a7;generalize hF:fr=FR at a7;have key:∀ {f1 f2:bh},f1=fr->Gw (EK.of P) SB H ak SB β f1 f2->f2=fr->(∃s,(∃o w',s=k7 o w' #[])/\bq P J (Fc fr cs) w=s)\/EC P SB H ak β fr fr:=by
   intro f1 f2 e1 h e2;cases h with
   |on h=>rw[e1,e2] at h;exact .inr h
   |@stop f a A k h1 h2 =>
    left
    obtain h1|h1:=h1
    .rw[h1] at h2;cases h2
    .obtain⟨fn,s,q1,q2⟩:=L.bars f h1;rw[<-e1];exact⟨_,⟨_,_,rfl⟩,by simp[bq,Fc,bW,q1,q2,br];exact⟨rfl,rfl⟩⟩
  exact hF▸key hF.LH a7 hF.LH
 obtain⟨s,⟨o,w',rfl⟩,he⟩|aA:=a8
 .exact .inr (.inr ⟨o, w', gg (by
   show(bq P J (Fc fr cs) w).bare=_
   rw[he];rfl)⟩)
 have:Gb (EK.of P) SB H ak SB [bad] G β w w (bq P J (Fc fr cs) w) (bq P J (Fc fr cs) w):=dX (main:=J) (main2:=J) L hg aA (λ_=>Ox aA) hw (n:=(aQ (bq P J (Fc fr cs) w)).drawn) (λ_ _ _=>rfl) (Dl _ _);generalize he:bq P J (Fc fr cs) w=s at this;cases s with
 |go g' w' es =>
  obtain⟨h0,⟨a6,h1⟩,h2⟩|⟨Ef,g2,W',ES,e,h1,h2⟩:=this
  .subst h1;obtain⟨o,w'',es',h3⟩:=h2 P w';refine .inr (.inl ⟨a6,w',o,w'',step_lone_go ?_,gg ?_⟩)
   .show(bq P J (Fc fr cs) w).bare=_;rw[he];rfl
   .rw[h3];rfl
  .refine .inl ⟨g'.L,g'.callers,w',es,by rw[<-h1.Fc],h1.callers.ne,step_lone_go ?_,?_⟩
   .show(bq P J (Fc fr cs) w).bare=_;rw[he];show GStep.go g' w'=_;rw[h1.Fc]
    rfl
   .rw[<-h1.Fc];obtain⟨i1,i2⟩:=h2.same hi rfl;have eg:=Gf.id (P:=EK.of P) i1 h1;subst eg;exact⟨Ef,i1,h1,h2.rel.same rfl i2 rfl⟩
 |ended o w' es =>
  refine .inr (.inr ⟨o,w',gg ?_⟩);show(bq P J (Fc fr cs) w).bare=_;rw[he];rfl
 |_=>exact this.S
def di (L:Lib (EK.of P) SB H ak SB G){n:Nat}{fr a6:bh}{cs cs':List bh}{w w':Y}(hs:Self P SB H G (Fc fr cs) w)(h:runN P n (lone fr cs w)=.next (lone a6 cs' w'))(zU:cs'≠[])(hq:Q (Fc a6 cs') w') :
  ∃n,Path P Q n (Fc fr cs) w:=by
 induction n generalizing fr cs w with
 |zero =>
  have h:lone fr cs w=lone a6 cs' w':=by simpa [runN] using h
  have e1:w=w':=Bh Machine.world h;have e2:#[Fc fr cs]=#[Fc a6 cs']:=Bh Machine.gs h;have e3:Fc fr cs=Fc a6 cs':=by simpa using e2
  exact⟨0,by rw[e1,e3];exact hq⟩
 |succ n ih =>
  simp only[runN] at h;obtain⟨a7,cs1,w1,es,h1,h2,h3,h4⟩|⟨a7,w1,o,w2,h1,h2⟩|⟨o,w1,h1⟩:=NK L hs
  .rw[h3] at h;obtain⟨m,hm⟩:=ih h4 h;exact⟨m+1,.inr ⟨_,_,_,h1,h2,hm⟩⟩
  .rw[h1] at h;cases n with
   |zero =>
    have h:lone a7 [] w1=lone a6 cs' w':=by simpa [runN] using h
    have e2:#[Fc a7 []]=#[Fc a6 cs']:=Bh Machine.gs h;have e3:Fc a7 []=Fc a6 cs':=by simpa using e2
    exact AS (Bh Goroutine.callers e3).LH zU
   |succ n =>
    simp only[runN] at h;rw[h2] at h;cases h
  .rw[h1] at h;cases h
def Left (P:bn)(f:bb)(R:cf->Y->Prop)(g:Z)(w:Y):Prop :=
 ∃w0 v fr,EE w0 w/\R v w0/\g=Fc fr [bad]/\fr.fn=f/\fr.leaving P w0 (.L v)
def Left.same {f:bb}{R:cf->Y->Prop}(g:Z)(w W:Y)(h:EE w W)(k:Left P f R g w):Left P f R g W:=by
 obtain⟨w0,v,fr,h1,h2⟩:=k;exact⟨w0,v,fr,h1.trans h,h2⟩
def IA (L:Lib (EK.of P) SB H ak SB G){f:bb}{args:Array cf}{R:cf->Y->Prop}{w:Y}(hs:Self P SB H G (Fc (bW P f args .L) [bad]) w)
  (hc:∀τ d,Calls P f args (on w τ d) (λe w'=>∃v,e=.L v/\R v w')):Ep P (Self P SB H G) (Left P f R) (Fc (bW P f args .L) [bad]) w:=by
 refine fv L Left.same ⟨hs,λτ d=>?_⟩;obtain⟨e,w',fr,⟨v,rfl,hr⟩,⟨n,hn⟩,hf,hl⟩:=hc τ d [bad];exact di L (hs.same Dt) hn (by simp) ⟨w',v,fr,⟨rfl,rfl,rfl⟩,hr,rfl,hf,hl⟩
end
def Ro (w:Y)(b:Nat):Prop:=∃c t f,w.L[b]?=bk (.cells c t f)/\∀i,i<c.size->f.1<=i/\i<f.2
def Sep (S:FO)(β:Ey)(w:Y)(S':FO)(Ef:Ey)(w':Y):Prop :=
 ∀b b' B,β b B->Ef b' B->S.LH b=J\/S'.LH b'=J\/(Ro w b/\Ro w' b')
def Sep.LH {S S':FO}{β Ef:Ey}{w w':Y}(h:Sep S β w S' Ef w'):Sep S' Ef w' S β w:=by
 intro b b' B h1 h2;obtain h|h|⟨h,k⟩:=h b' b B h2 h1
 .exact .inr (.inl h)
 .exact .inl h
 .exact .inr (.inr ⟨k,h⟩)
section
variable {S S':FO} {Ck QY:ez->Prop} {G G':Nat} {β Ef γ:Ey} {w w' v W W':Y} {ES:List cw}
def Ro.kept (f:Fin S Ck G β Ef w W w' W' ES){b B:Nat}(hb:β b B)(r:Ro w b):Ro w' b:=by
 obtain⟨c,t,z,h1,h2⟩:=r;have:=(f.ro b B c t z hb h1 h2).1;exact⟨c,t,z,this.trans h1,h2⟩
def EU.others (k:EU S' QY G' γ v W)(tw:S'.LH.Fg=ak)(h:EU S Ck G β w W)(f:Fin S Ck G β Ef w W w' W' ES)(s:Sep S β w S' γ v):EU S' QY G' γ v W' where
 FH:=k.FH
 room:=⟨k.room.1,AU k.room.2 f.SIZE⟩
 F4:=λb B hb hh=>by
  obtain⟨o,O,h1,h2,h3⟩:=k.F4 b B hb hh;refine⟨o,O,h1,?_,h3⟩;rw[<-h2];by_cases hx:∃b',β b' B
  .obtain⟨b',hb'⟩:=hx;obtain x|x|⟨x,_⟩:=s b' b B hb' hb
   .exact f.hk b' B hb' x
   .rw[hh] at x;cases x
   .obtain⟨c,t,z,q1,q2⟩:=x;exact(f.ro b' B c t z hb' q1 q2).2
  .exact f.KEPT B (k.lt hb).2 (λb' hb'=>hx ⟨b',hb'⟩)
 Ge:=λb B hb hh=>by
  obtain⟨h1,h2,_⟩:=k.Ge b B hb hh;refine⟨h1,λ_=>?_,λe=>by rw[tw] at e;cases e⟩;obtain⟨c,t,z,h2⟩:=h2 tw;by_cases hx:∃b',β b' B
  .obtain⟨b',hb'⟩:=hx;cases a6:S.LH b' with
   |true=>exact⟨c,t,z,(f.hk b' B hb' a6).trans h2⟩
   |false =>
    obtain⟨o,O,q1,q2,q3⟩:=h.F4 b' B hb' a6;obtain⟨o',O',p1,p2,p3⟩:=f.rel.F4 b' B (f.le _ _ hb') a6;have a7:=f.kind b' (h.lt hb').1;rw[q1,p1] at a7;rw[h2] at q2;cases q2;cases q3 with
    |cells a z' =>
     cases p3 with
     |cells a2 z2=>exact⟨_,_,_,p2⟩
     |_=>simp[FK] at a7
  .exact⟨c,t,z,(f.KEPT B (k.lt hb).2 (λb' hb'=>hx ⟨b',hb'⟩)).trans h2⟩
 old:=k.old
 env:=by rw[f.OS];exact k.env
def Sep.kept (k:EU S' QY G' γ v W)(f:Fin S Ck G β Ef w W w' W' ES)(s:Sep S β w S' γ v):Sep S Ef w' S' γ v:=by
 intro b b' B h1 h2;obtain h0|⟨_,h0⟩:=f.new b B h1
 .obtain x|x|⟨x,y⟩:=s b b' B h0 h2
  .exact .inl x
  .exact .inr (.inl x)
  .exact .inr (.inr ⟨x.kept f h0,y⟩)
 .have:=(k.lt h2).2;omega
end
def Fp (p:bn)(BB:bb->Bool)(g:Z)(_:Y):Prop:=BB g.L.fn=J/\∀o,g.L.oper?=bk o->aN p o.op=J
def Ep.LT {p:bn}{Ev Ev' Q Q':Z->Y->Prop}(he:∀g w,Ev g w->Ev' g w)(hq:∀g w,Q g w->Q' g w){g:Z}{w:Y}(h:Ep p Ev Q g w):Ep p Ev' Q' g w:=by
 induction h with
 |fin h=>exact .fin (hq _ _ h)
 |next ng nw h1 h2 _ ih=>exact .next ng nw (he _ _ h1) h2 ih
def Ep.bind {p:bn}{Ev Q Q':Z->Y->Prop}{g:Z}{w:Y}(h:Ep p Ev Q g w)(k:∀g w,Q g w->Ep p Ev Q' g w):Ep p Ev Q' g w:=by
 induction h with
 |fin h=>exact k _ _ h
 |next ng nw h1 h2 _ ih=>exact .next ng nw h1 h2 ih
section
variable {P:EK} {SB EI:bb->Bool} {H H0:Hid} {zZ:Bool} {BB:bb->Bool} {T:List bh} {β:Ey} {G G0:Nat}
def Gw.Jm {f F:bh}(h:Gw P SB H zZ BB β f F)(hb:BB f.fn=J):EC P.a SB H zZ β f F:=by
 cases h with
 |on h=>exact h
 |@stop f' _ _ _ _ h2 =>
  have hb':BB f'=true:=hb;rw[h2] at hb';cases hb'
def mF {g:Z}{w:Y}(h:Fp P.a BB g w):Ready P.a SB g:=λ_ o ho=>pX (h.2 o ho)
def follow (L:Lib P SB H zZ BB G){main2:Bool}{Q:Z->Y->Prop}{g g2:Z}{w W:Y}(hr:Ep P.a (Fp P.a BB) Q g w)(hq:¬Q g w)
  (hg:Gf P SB H zZ BB T β g g2) (hw:EU (SP SB H) (CK P.a SB zZ) G β w W) :
  ∃g' w' es Ef a6 W' ES,bq P.a J g (on w W.tape W.drawn)=.go g' w' es/\Ep P.a (Fp P.a BB) Q g' w'/\bq P.b main2 g2 W=.go a6 W' ES/\Gf P SB H zZ BB T Ef g' a6 /\
   Fin (SP SB H) (CK P.a SB zZ) G β Ef (on w W.tape W.drawn) W w' W' ES.LK:=by
 cases hr with
 |fin h=>exact AS h hq
 |next ng nw h1 h2 h3 =>
  obtain⟨⟨es,e⟩,zU⟩:=h2 W.tape W.drawn;have hw':EU (SP SB H) (CK P.a SB zZ) G β (on w W.tape W.drawn) W:=hw.same rfl rfl hw.env;have:=dX (main:=J) (main2:=main2) L hg (hg.top.Jm h1.1) (mF h1) hw' (n:=(nw W.tape W.drawn).drawn) (λ_ _ _=>rfl) (by rw[e];exact Dl _ _);rw[e] at this;obtain⟨h0,_⟩|⟨Ef,a6,W',ES,k1,k2,k3⟩:=this
  .exact AS h0 zU
  .exact⟨_,_,es,Ef,a6,W',ES,e,h3 _ _,k1,k2,k3⟩
def Km (L:Lib P SB H zZ BB G){main2:Bool}{g g2:Z}{w W:Y}{ng:k0->Nat->Z}{nw:k0->Nat->Y}(h1:Fp P.a BB g w)(h2:∀τ d,(∃es,bq P.a J g (on w τ d)=.go (ng τ d) (nw τ d) es)/\(ng τ d).callers≠[])
  (hg:Gf P SB H zZ BB T β g g2) (hw:EU (SP SB H) (CK P.a SB zZ) G β w W) :
  ∃g' w' es Ef a6 W' ES,bq P.a J g (on w W.tape W.drawn)=.go g' w' es/\(g'=ng W.tape W.drawn/\w'=nw W.tape W.drawn)/\bq P.b main2 g2 W=.go a6 W' ES/\Gf P SB H zZ BB T Ef g' a6 /\
   Fin (SP SB H) (CK P.a SB zZ) G β Ef (on w W.tape W.drawn) W w' W' ES.LK:=by
 obtain⟨⟨es,e⟩,zU⟩:=h2 W.tape W.drawn;have hw':EU (SP SB H) (CK P.a SB zZ) G β (on w W.tape W.drawn) W:=hw.same rfl rfl hw.env;have:=dX (main:=J) (main2:=main2) L hg (hg.top.Jm h1.1) (mF h1) hw' (n:=(nw W.tape W.drawn).drawn) (λ_ _ _=>rfl) (by rw[e];exact Dl _ _);rw[e] at this;obtain⟨h0,_⟩|⟨Ef,a6,W',ES,k1,k2,k3⟩:=this
 .exact AS h0 zU
 .exact⟨_,_,es,Ef,a6,W',ES,e,⟨rfl,rfl⟩,k1,k2,k3⟩
end
section
variable {P:EK} {SB:bb->Bool} {H:Hid} {zZ:Bool} {BB:bb->Bool} {T:List bh} {β:Ey} {G:Nat}
def leave (L:Lib P SB H zZ BB G){main2:Bool}{f:bb}{R:cf->Y->Prop}{g g2:Z}{w W:Y}{C:bh}{CS:List bh}(hl:Left P.a f R g w)(aI:BB f=J)
  (hg:Gf P SB H zZ BB (C::CS) β g g2) (hw:EU (SP SB H) (CK P.a SB zZ) G β w W) :
  ∃v w0 w1 V W' ES Ef,EE w w0/\R v w0/\EE w w1/\bq P.b main2 g2 W=.go (Fc (C.finish V) CS) W' ES/\Ee (SP SB H) Ef v V /\
   Fin (SP SB H) (CK P.a SB zZ) G β Ef (on w W.tape W.drawn) W w1 W' ES.LK:=by
 obtain⟨w0,v,fr,hs,hR,rfl,hf,hm,hd,hk,fn,hfn,hres⟩:=hl;have aH:=hg.top.Jm (show BB fr.fn=J by rw[hf];exact aI);have e0:=hg.status.2;have e1:=hg.dying.2;have e2:=hg.offers.2;have zW:=hg.callers;obtain⟨FR,aJ,st,dy,off⟩:=g2;dsimp only at e0 e1 e2 zW aH;subst e0 e1 e2;have aK:aJ=C::CS:=by
  cases zW with
  |base=>rfl
  |cons _ h=>exact AS rfl h.ne
 subst aK;obtain⟨aB,tmps,todo,defers,mode,kind,round⟩:=fr;obtain⟨aO,aA,aF,aC,aG,aN,aD⟩:=FR;obtain⟨a1,a2,a3,a4,a5,a6,a7,a8⟩:=aH;dsimp only[Fc] at a1 a2 a3 a4 a5 a6 a7 a8 hm hd hk hfn hres hf;subst a1 a6 hm hd hk;have d2:aC=[]:=by cases a4;rfl
 have m2:aG=.returning:=by cases a5;rfl
 subst d2 m2;obtain⟨q,q',g1,g2,g3⟩:=L.like aB a7.2;rw[hfn] at g1;cases g1;have aL:P.b.L[aB]?=bk q':=g2;have g4:results q' aA=results fn aA:=by unfold results;rw[g3]
 have aM:EU (SP SB H) (CK P.a SB zZ) G β w0 W:=hw.same hs.1.LH rfl (by rw[<-hs.2.1];exact hw.env);have hm:=jK (P:=P) (Ck:=CK P.a SB zZ) (G:=G) (S:=SP SB H) fn a2;have zA:((results fn tmps).L P.a w0 #[]).1=.ok v w0:=by rw[eH];exact hres
 have hE:=hm w0 W 0 aM (λi hi=>AS hi (BI _)) #[] #[];rcases hr:(results fn tmps).L P.a w0 #[] with⟨r,es⟩
 rw[hr] at hE zA;dsimp only at zA;subst zA;obtain⟨Ef,V,W',ES,k1,k2,k3⟩:=hE (AK _);refine⟨v,w0,on w0 W.tape W.drawn,V,W',seen P.b aB ES.LK,Ef,hs.LH,hR,(hs.LH).trans Dt,?_,k2,?_⟩
 .unfold bq;dsimp only;unfold unwind;dsimp only;rw[aL];dsimp only;rw[g4,k1];simp only[Bx];show b9 _ (cE P.b main2 ⟨aB,aA,aF,[],.returning,.L,aD⟩ (C::CS) bA V W')=_;unfold cE;simp[b9,Fc]
 .have k4:=k3.seen (P:=P) (SB:=SB) (H:=H) (zZ:=zZ) aB;have hh:w.L=w0.L:=hs.1;have dr:=k4.draws;have W'd:W'.drawn=W.drawn:=by omega
  exact {
   le:=k4.le
   rel:=k4.rel.same rfl rfl k4.rel.env
   tape:=rfl
   TAPE:=k4.TAPE
   drawn:=AK _
   draws:=by show W'.drawn+W.drawn=W.drawn+W.drawn;omega
   os:=hs.2.1.LH
   OS:=k4.OS
   out:=hs.2.2.LH
   OUT:=k4.OUT
   size:=by show w.L.size<=w0.L.size;rw[hh];exact AK _
   SIZE:=k4.SIZE
   new:=λb B h=>by show β b B\/(w.L.size<=b/\_);rw[hh];exact k4.new b B h
   NEW:=k4.NEW
   frozen:=λa _=>by show w0.O a=w.O a;rw[bg,bg,hh]
   KEPT:=k4.KEPT
   ro:=λb B c t z hb hc hz=>by
    have hc':w0.L[b]?=bk (.cells c t z):=by rw[<-hh];exact hc
    exact⟨by show w0.L[b]?=w.L[b]?;rw[hh],(k4.ro b B c t z hb hc' hz).2⟩
   kind:=λb _=>by show(w0.L[b]?).map FK=(w.L[b]?).map FK;rw[hh]
   evs:=λht E hE=>by
    have:=k4.evs ht E hE;cases this with
    |cell h1 h2 h3 h4=>exact .cell h1 h2 h3 h4
    |obj h1 h2=>exact .obj h1 h2
    |mark h=>exact .mark h
    |out=>exact .out
   same:=λi e=>by
    have:=k4.same i (by rw[<-hh];exact e);exact this
   hk:=k4.hk }
end
def kid (n:Nat)(d:cK):Goroutine:={ frame:={ (default:bh) with fn:=n,defers:=[d],mode:=.panicking [goexitEntry] },callers:=[],status:=.L,dying:=bA }
section
variable {p:bn} {Ev Q:Z->Y->Prop}
def Ep.same (hE:∀g w W,EE w W->Ev g w->Ev g W)(hQ:∀g w W,EE w W->Q g w->Q g W){g:Z}{w W:Y}(h:Ep p Ev Q g w)(hs:EE w W):Ep p Ev Q g W:=by
 cases h with
 |fin h=>exact .fin (hQ _ _ _ hs h)
 |next ng nw h1 h2 h3 =>
  refine .next ng nw (hE _ _ _ hs h1) (λτ d=>?_) h3;have e:on W τ d=on w τ d:=by
   obtain⟨a,b,c,d',e'⟩:=W;obtain⟨k1,k2,k3⟩:=hs;dsimp only at k1 k2 k3;subst k1 k2 k3
   rfl
  rw[e];exact h2 τ d
inductive Walk (p:bn)(C:Z->Prop):Z->Y->Z->Y->Prop
 |refl {g:Z} {w:Y}:Walk p C g w g w
 |step {g g' g2:Z} {w w' w2:Y} {es:Array cw}:C g->bq p J g w=.go g' w' es->Walk p C g' w' g2 w2->Walk p C g w g2 w2
def Ep.descend {C:Z->Prop}(hE:∀g w W,EE w W->Ev g w->Ev g W)(hQ:∀g w W,EE w W->Q g w->Q g W)(hC:∀g w,C g->¬Q g w){g g2:Z}{w w1 w2:Y}(h:Ep p Ev Q g w)(hs:EE w w1)(k:Walk p C g w1 g2 w2):Ep p Ev Q g2 w2:=by
 induction k generalizing w with
 |refl=>exact h.same hE hQ hs
 |step c e _ ih =>
  cases h with
  |fin h=>exact AS h (hC _ _ c)
  |next ng nw h1 h2 h3 =>
   rename_i w1 _ _ _ _;obtain⟨⟨es',e'⟩,_⟩:=h2 w1.tape w1.drawn;rw[<-hs.eq,e] at e';cases e';exact ih (h3 _ _) ⟨rfl,rfl,rfl⟩
def After (p:bn)(x y:Z×Y):Prop:=∃τ d es,bq p J y.1 (on y.2 τ d)=.go x.1 x.2 es/\x.1.callers≠[]
def Left.last {f:bb}{R:cf->Y->Prop}{g:Z}{w:Y}(h:Left p f R g w)(x:Z×Y):¬After p x (g,w):=by
 rintro⟨τ,d,es,e,zU⟩;obtain⟨w0,v,fr,hs,_,rfl,_,hm,hd,hk,fn,hfn,_⟩:=h;obtain⟨a6,tmps,todo,defers,mode,kind,round⟩:=fr;dsimp only at hm hd hk hfn;subst hm hd hk;unfold bq Fc at e;dsimp only at e;unfold unwind at e;dsimp only at e;rw[hfn] at e;dsimp only at e;rcases hr:(results fn tmps).L p (on w τ d) #[] with⟨r,es'⟩
 rw[hr] at e;cases r with
 |ok v w' =>
  simp[cE,b9] at e;exact zU (by rw[<-e.1])
 |halt x w'=>cases x<;>simp[b9] at e
end
open Go.Conc
inductive FP (p:bn)(a:Act)(w:Y)(o:fu):Array cw->cf->Prop
 |Ij {f:bb} {AG:Array df} {ats:Array gR} {fn:kq} (m:Mark):(m=.disable\/m=.enable)->o.op=.call { callee:=.value (.func f),args:=AG,argTypes:=ats }->p.L[f]?=bk fn->(fn.name == "runtime.NumGoroutine")=ak->fn.body.L=J->gl fn=bA ->
   kn fn=bk (λ_=>do mark m;pure Extern.Race.none_)->FP p a w o #[⟨.mark m,ak,J⟩] (.tuple #[])
 |Hr {f:bb} {AG:Array df} {ats:Array gR} {fn:kq} {ad:k5} (mk:k5->Mark):(mk=.acquire\/mk=.releaseMerge)->o.op=.call { callee:=.value (.func f),args:=AG,argTypes:=ats }->p.L[f]?=bk fn->(fn.name == "runtime.NumGoroutine")=ak->fn.body.L=J->gl fn=bA ->
   kn fn=bk (Extern.Race.marked mk)->(AG.map a.eval)[0]?=bk (.S (bk ad))->(∃u,w.S ad=bk u)->FP p a w o #[⟨.mark (mk ad),ak,J⟩] (.tuple #[])
 |conv {s d t:gR} {x:df} {ad:k5}:o.op=.convert s d x->p.LH s=bk (.S t)->p.LH d=bk .unsafePointer->(p.info? t).map (λi=>decide (i.size=0))=bk ak->a.eval x=.S (bk ad)->(∃u,w.S ad=bk u)->FP p a w o #[] (.S (bk ad))
section
variable {p:bn} {main:Bool} {b:bh} {a:Act} {k:List fx} {cs:List bh} {w W:Y} {ops:Array fu} {i:Nat} {rest:List Nat} {o:fu} {es:Array cw} {v:cf}
def FP.step (h:FP p a w o es v)(ho:ops[i]?=bk o)(hw:cF o (yielded ops a.tmps)=J)(hk:b.kind≠.early) :
  bq p main (Fc (b.at a (.inRegion ops (i::rest)::k)) cs) w=.go (Fc (b.at (a.put o.L v) (.inRegion ops rest::k)) cs) w es:=by
 cases h with
 |Ij m hm hop hf hn hb hx he=>exact stepG_mark0 m (by rcases hm with rfl|rfl<;>simp) ho hw hk hop hf hn hb hx he
 |Hr mk hm hop hf hn hb hx he hp=>exact stepG_markAt mk (by rcases hm with rfl|rfl<;>simp) ho hw hk hop hf hn hb hx he hp
 |@conv s d t x ad hop hs hd hz hx hc =>
  obtain⟨u,hc⟩:=hc;have a6:a.eval x=.S (bk ad):=hx;have e1:eC a.eval o=(do let r<-convert s d (a.eval x);pure (.value r)):=by unfold eC;rw[hop]
  have hr:=run_convert_to_unsafe hs hd hz hc;rw[show Fc (b.at a (.inRegion ops (i::rest)::k)) cs=ll (b.at a (.inRegion ops (i::rest)::k)) cs from rfl,hZ (v:=.S (bk ad)) (w':=w) ho hw hk (by rw[e1,a6];simp[hr,cq])];have:listed p b.fn a o w=#[]:=by
   unfold listed;rw[e1,a6];have he:=events_convert_to_unsafe hs hd hz hc #[];simp[he,hr,Result.evThen,seen_none]
  rw[this];rfl
def FP.same (h:FP p a w o es v)(hs:EE w W):FP p a W o es v:=by
 have hc:∀ad:k5,W.S ad=w.S ad:=λad=>by unfold iv;rw[hs.1]
 cases h with
 |Ij m hm hop hf hn hb hx he=>exact .Ij m hm hop hf hn hb hx he
 |Hr mk hm hop hf hn hb hx he hp hu=>exact .Hr mk hm hop hf hn hb hx he hp (hu.imp λu e=>(hc _).trans e)
 |conv hop hs hd hz hx hu=>exact .conv hop hs hd hz hx (hu.imp λu e=>(hc _).trans e)
end
inductive Hc (β:Ey):Array cw->Array cw->Prop
 |Ij (m:Mark):(m=.disable\/m=.enable)->Hc β #[⟨.mark m,ak,J⟩] #[⟨.mark m,ak,J⟩]
 |Hr {b B:Nat} (o:Nat) (s:Option Nat) (mk:k5->Mark):(mk=.acquire\/mk=.releaseMerge)->β b B->Hc β #[⟨.mark (mk ⟨b,o,s⟩),ak,J⟩] #[⟨.mark (mk ⟨B,o,s⟩),ak,J⟩]
 |none:Hc β #[] #[]
def Hc.LE {β:Ey}{es ES:Array cw}(h:Hc β es ES)(d:Nat):kv d ES=kv d es:=by
 cases h with
 |Ij m hm=>rfl
 |Hr o s mk hm hb=>rcases hm with rfl|rfl<;>rfl
 |none=>rfl
section
variable {P:EK} {SB:bb->Bool} {H:Hid} {zZ:Bool} {BB:bb->Bool} {T:List bh} {β:Ey} {Gn:Nat}
def Lz {S:FO}{ad:k5}{V:cf}(h:Ee S β (.S (bk ad)) V):∃B,β ad.LE B/\V=.S (bk ⟨B,ad.off,ad.spot⟩):=by
 cases h with
 |ptr o s hb=>exact⟨_,hb,rfl⟩
def LV (aF:∀(f:bb) (fn:kq),P.a.L[f]?=bk fn->fn.body.L=J->P.fs[f]?=bk fn){main2:Bool}{b:bh}{a:Act}{ops:Array fu}{i:Nat}{rest:List Nat}{k:List fx}{cs:List bh}{g2:Z}{w W:Y}{o:fu}{es:Array cw}{v:cf}
  (hb:BB b.fn=J) (hg:Gf P SB H zZ BB T β (Fc (b.at a (.inRegion ops (i::rest)::k)) cs) g2) (hw:EU (SP SB H) (CK P.a SB zZ) Gn β w W) (ho:ops[i]?=bk o) (hwt:cF o (yielded ops a.tmps)=J) (hk:b.kind≠.early) (h:FP P.a a w o es v) :
  ∃a8 ES,bq P.b main2 g2 W=.go a8 W ES/\Gf P SB H zZ BB T β (Fc (b.at (a.put o.L v) (.inRegion ops rest::k)) cs) a8/\Hc β es ES/\∀e∈ES,∀ad,e.loc=.mark (.acquire ad)\/e.loc=.mark (.releaseMerge ad)->ad.LE<W.L.size:=by
 have aC:EC P.a SB H zZ β (b.at a (.inRegion ops (i::rest)::k)) g2.L:=hg.top.Jm hb;obtain⟨FR,CS,st,dy,off⟩:=g2;obtain⟨_,hc,⟨_,h3⟩,⟨_,h4⟩,⟨_,h5⟩⟩:=hg;dsimp only at aC hc h3 h4 h5;subst h3 h4 h5;have aD:=aC;obtain⟨Hq,A,Ii,aA,aH,aI,round'⟩:=FR;obtain⟨f1,f2,f3,f4,f5,f6,f7,f8⟩:=aC;dsimp only[Frame.at] at f1 f2 f3 f4 f5 f6 f7 f8;subst f1 f6;cases f5;cases f8;cases f3 with
 |@cons _ I _ K hi hK =>
 cases hi with
 |inRegion hall =>
 have hy:yielded ops A=yielded ops a.tmps:=(funext λj=>iY f2 ops j).LH;have a7:cy P.a SB zZ (bA:Option Nat).L o=true:=by
  have:=(Bl.1 hall) o (Bn ho);exact this
 have ev:∀x,ah SB x=J->Ee (SP SB H) β (a.eval x) (Act.eval ⟨A,aA⟩ x):=λx hx=>by
  have:=aD.eval hx;rw[Frame.eval_at] at this;exact this
 have inW:∀ad B,β ad.LE B->(∃u,w.S ad=bk u)->∃u,W.S ⟨B,ad.off,ad.spot⟩=bk u:=by
  rintro ad B a6 ⟨u,hu⟩;cases hh:H ad.LE with
  |true =>
   have:=(hw.Ge _ _ a6 hh).1;unfold iv at hu;rw[this] at hu;cases hu
  |false =>
   obtain⟨o',O',e1,e2,e3⟩:=hw.F4 _ _ a6 hh;unfold iv at hu ⊢;rw[e1] at hu;rw[e2];cases e3 with
   |@cells c C t f F hc' hf' =>
    dsimp only at hu ⊢;split at hu
    .cases hu
    .rename_i hsp;rw[AN hsp];have:=(AJ.1 hu).1;have hs:=hc'.size;exact⟨C[ad.off]'(by omega),AV _⟩
   |_=>cases hu
 have fin : ∀ (v V : cf) (ES : Array cw) , Ee (SP SB H) β v V -> FP P.b ⟨A, aA⟩ W o ES V -> Hc β es ES -> (∀ e ∈ ES, ∀ ad, e.loc = .mark (.acquire ad) ∨ e.loc = .mark (.releaseMerge ad) -> ad.LE < W.L.size) ->
   ∃a8 ES,bq P.b main2 ⟨⟨b.fn,A,.inRegion ops (i::rest)::K,aA,.run,b.kind,bA⟩,CS,.L,bA,bA⟩ W=.go a8 W ES/\Gf P SB H zZ BB T β (Fc (b.at (a.put o.L v) (.inRegion ops rest::k)) cs) a8/\Hc β es ES/\∀e∈ES,∀ad,e.loc=.mark (.acquire ad)\/e.loc=.mark (.releaseMerge ad)->ad.LE<W.L.size:=by
  intro v V ES hv hs he hl;have zG:=hs.step (main:=main2) (b:=b) (k:=K) (cs:=CS) (rest:=rest) ho (by show cF o (yielded ops A)=J;rw[hy];exact hwt) hk;refine⟨_,ES,zG,⟨.on ?_,hc,⟨rfl,rfl⟩,⟨rfl,rfl⟩,⟨rfl,rfl⟩⟩,he,hl⟩;have h2:=bp (P:=P) aD hv;rw[ko,ho] at h2;have e2:(⟨b.fn,A,.inRegion ops (i::rest)::K,aA,.run,b.kind,bA⟩:bh)=b.at ⟨A,aA⟩ (.inRegion ops (i::rest)::K):=rfl
  rw[e2,ko,ho] at h2;exact h2
 cases h with
 |@Ij f AG ats fn m hm hop hf hn hb' hx he =>
  exact fin _ _ _ (.tuple rfl (by simp)) (.Ij m hm hop (aF f fn hf hb') hn hb' hx he) (.Ij m hm) (by
   intro e aB ad h;simp only[Cd,AT,AQ,or_false] at aB;subst aB
   rcases hm with rfl|rfl<;>rcases h with h|h<;>cases h)
 |@Hr f AG ats fn ad mk hm hop hf hn hb' hx he hp hu =>
  have has:AG.all (ah SB)=true:=by
   unfold cy dM NI KJ at a7;rw[hop] at a7;simp only[bQ,AY,Bq] at a7;obtain h|h:=a7
   .exact h.1.1.1
   .exact h.2.1.2
  obtain⟨x0,hx0,hx1⟩:∃x,AG[0]?=bk x/\a.eval x=.S (bk ad):=by
   rw[BT] at hp;cases h0:AG[0]? with
   |none=>rw[h0] at hp;cases hp
   |some x=>rw[h0] at hp;exact⟨x,rfl,Option.some.inj hp⟩
  have hv:=ev x0 ((Bl.1 has) x0 (Bn hx0));rw[hx1] at hv;obtain⟨B,a6,hV⟩:=Lz hv;obtain⟨b',o',s'⟩:=ad
  exact fin _ _ _ (.tuple rfl (by simp)) (.Hr (ad:=⟨B,o',s'⟩) mk hm hop (aF f fn hf hb') hn hb' hx he (by rw[BT,hx0];exact Bh bk hV) (inW _ _ a6 hu)) (.Hr o' s' mk hm a6) (by
   intro e aB ad h;simp only[Cd,AT,AQ,or_false] at aB;subst aB;have hBl:=(hw.lt a6).2
   rcases hm with rfl|rfl<;>rcases h with h|h<;>first|(cases h;exact hBl)|cases h)
 |@conv s d t x ad hop hs hd hz hx hu =>
  have aG:ah SB x=true:=by
   unfold cy dM NI KJ at a7;rw[hop] at a7;simp only[AY,Bq] at a7;obtain h|h:=a7
   .exact h.1.1.2
   .exact h.2.2
  have hv:=ev x aG;rw[hx] at hv;obtain⟨B,a6,hV⟩:=Lz hv;obtain⟨b',o',s'⟩:=ad;exact fin _ _ _ (.ptr o' s' a6) (.conv hop hs hd hz hV (inW _ _ a6 hu)) .none (by simp)
end
inductive E5 (p:bn)(BB:bb->Bool)(Q:Z->Y->Prop):Nat->Z->Y->Prop
 |fin {g:Z} {w:Y}:Q g w->E5 p BB Q 0 g w
 |next {d:Nat} {g:Z} {w:Y} (ng:k0->Nat->Z) (nw:k0->Nat->Y):Fp p BB g w->(∀τ d,(∃es,bq p J g (on w τ d)=.go (ng τ d) (nw τ d) es)/\(ng τ d).callers≠[])->(∀τ n,E5 p BB Q d (ng τ n) (nw τ n))->E5 p BB Q d g w
 | spec {d : Nat} {b : bh} {a : Act} {ops : Array fu} {i : Nat} {rest : List Nat} {k : List fx} {cs : List bh} {w : Y} {o : fu} {es : Array cw} {v : cf} : BB b.fn = J -> cs ≠ [] -> ops[i]? = bk o -> cF o (yielded ops a.tmps) = J -> b.kind ≠ .early -> FP p a w o es v ->
   (∀τ n,E5 p BB Q (kv d es) (Fc (b.at (a.put o.L v) (.inRegion ops rest::k)) cs) (on w τ n))->E5 p BB Q d (Fc (b.at a (.inRegion ops (i::rest)::k)) cs) w
section
variable {p:bn} {BB:bb->Bool} {Q Q':Z->Y->Prop} {d:Nat} {g:Z} {w W:Y}
def E5.of (h:Ep p (Fp p BB) Q g w):E5 p BB Q 0 g w:=by
 induction h with
 |fin h=>exact .fin h
 |next ng nw h1 h2 _ ih=>exact .next ng nw h1 h2 ih
def E5.bind (h:E5 p BB Q d g w)(k:∀g w,Q g w->E5 p BB Q' 0 g w):E5 p BB Q' d g w:=by
 induction h with
 |fin h=>exact k _ _ h
 |next ng nw h1 h2 _ ih=>exact .next ng nw h1 h2 ih
 |spec h1 h2 h3 h4 h5 h6 _ ih=>exact .spec h1 h2 h3 h4 h5 h6 ih
def E5.LT (h:E5 p BB Q d g w)(hq:∀g w,Q g w->Q' g w):E5 p BB Q' d g w:=h.bind λg w h=>.fin (hq g w h)
def E5.same (hQ:∀g w W,EE w W->Q g w->Q g W)(h:E5 p BB Q d g w):∀ {W:Y},EE w W->E5 p BB Q d g W:=by
 induction h with
 |fin h=>exact λhs=>.fin (hQ _ _ _ hs h)
 |@next d g w ng nw h1 h2 h3 _ =>
  intro W hs;have e:∀τ n,on W τ n=on w τ n:=λτ n=>by rw[hs.eq];rfl
  exact .next ng nw h1 (λτ n=>by rw[e];exact h2 τ n) h3
 |@spec d b a ops i rest k cs w o es v h1 h2 h3 h4 h5 h6 h7 _ =>
  intro W hs;have e:∀τ n,on W τ n=on w τ n:=λτ n=>by rw[hs.eq];rfl
  exact .spec h1 h2 h3 h4 h5 (h6.same hs) (λτ n=>by rw[e];exact h7 τ n)
def E5.step (hf:Fp p BB g w)(h:∀τ n,∃g' w' es,bq p J g (on w τ n)=.go g' w' es/\g'.callers≠[]/\E5 p BB Q d g' w'):E5 p BB Q d g w :=
 .next (λτ n=>bw (h τ n)) (λτ n=>bw (bc (h τ n))) hf
  (λτ n=>by
   obtain⟨es,h1,h2,_⟩:=bc (bc (h τ n))
   exact⟨⟨es,h1⟩,h2⟩)
  (λτ n=>by
   obtain⟨es,_,_,h3⟩:=bc (bc (h τ n))
   exact h3)
end
section
variable {p:bn} {EI:bb->Bool} {H:Hid} {G:Nat} {BB:bb->Bool} {T:List bh} {β:Ey}
def cG {q:bn}{f F:bh}(h:EC p EI H ak β f F)(hn:∀f,EI f=J->dN q f=ak)(hu:∀t,q.LH t=p.LH t):∀o,f.oper?=bk o->aN q o.op=true:=λo ho=>by
 have key:∀(t U:List fx),Fj (Gt p EI H ak f.roundOf.L β) t U->(match t with|.inRegion ops (i::_)::_=>ops[i]?|_=>bA)=bk o->aN q o.op=true:=by
  intro t U h e;cases h with
  |nil=>cases e
  |cons hi _ =>
   cases hi with
   |@inRegion ops l a6 =>
    cases l with
    |nil=>cases e
    |cons i rest =>
     simp only[Bl] at a6;have:=a6 o (Bn e);unfold cy at this;simp only[Cf,Di,AY] at this;exact tW this.1 hn hu
   |_=>cases e
 refine key f.todo F.todo h.todo ?_;unfold gU at ho;exact ho
def mq {zZ:Bool}{c:bh}{cs l m:List bh}(h:FC p EI H zZ (c::cs) β l m):m≠[]:=by
 cases h<;>simp
end
def iZ {p:bn}{f:bb}{fn:kq}{s:String}(h:p.L[f]?=bk fn)(hb:fn.body=bk (.refuse s))(a:Array cf)(k:eT)(cs:List bh)(w:Y)(main:Bool){g':Z}{w':Y}{es:Array cw} :
  bq p main (Fc (bW p f a k) cs) w≠.go g' w' es:=by
 intro e;simp[bq,Fc,bW,h,hb,br] at e
section
variable {P:EK} {EI BC BB:bb->Bool} {H:Hid} {G:Nat}
def kL (P:EK)(EI BC:bb->Bool):Prop:=∀f,EI f=J\/aP EI f=J->BC f=ak->∃fn s,P.a.L[f]?=bk fn/\fn.body=bk (.refuse s)
def tY (zG:kL P EI BC){T:List bh}{β:Ey}{g g2:Z}{w:Y}(hg:Gf P EI H ak BC T β g g2){g':Z}{w':Y}{es:Array cw}(e:bq P.a J g w=.go g' w' es):EC P.a EI H ak β g.L g2.L:=by
 have eg:=hg.Fc;have a6:=hg.top;generalize hf:g.L=fr at a6 ⊢;generalize g2.L=FR at a6 ⊢;cases a6 with
 |on h=>exact h
 |@stop f a A k h1 h2 h3 h4 =>
  exfalso;obtain⟨fn,s,q1,q2⟩:=zG f h1 h2;rw[eg,hf] at e;exact iZ q1 q2 _ _ _ _ _ e
def rF {P:EK}{fr F:bh}{β:Ey}(h:EC P.a EI H ak β fr F):Nk P.a EI fr:=Ox (P:=P.a) (SB:=EI) (H:=H) h
def Ep.swap (Lc:Lib P EI H ak BC G)(zG:kL P EI BC)(hb:∀f,EI f=J->BB f=J){Qa:Z->Y->Prop}{c:bh}{cs:List bh}{g:Z}{w:Y}(h:Ep P.a (Self P.a EI H G) Qa g w) :
  ∀ {β:Ey} {g2:Z},La H β->Gf P EI H ak BC (c::cs) β g g2->EU (SP EI H) (CK P.a EI ak) G β w w ->
  Ep P.b (Fp P.b BB) (λa7 w'=>∃g' w0 Ef,Qa g' w0/\EE w0 w'/\La H Ef/\Gf P EI H ak BC (c::cs) Ef g' a7/\EU (SP EI H) (CK P.a EI ak) G Ef w0 w0) g2 w:=by
 induction h with
 |@fin g w hq=>exact λhi hg hw=>.fin ⟨_,_,_,hq,⟨rfl,rfl,rfl⟩,hi,hg,hw⟩
 |@next g w ng nw h1 h2 _ ih =>
  intro β g2 hi hg hw;have a6:EC P.a EI H ak β g.L g2.L:=by
   obtain⟨⟨es,e⟩,_⟩:=h2 w.tape w.drawn;exact tY zG hg e
  have eF:g.L=g2.L:=EC.id (P:=EK.of P.a) hi a6;have a8:Fp P.b BB g2 w:=by
   have hf:BB g.L.fn=J/\∀o,g.L.oper?=bk o->aN P.b o.op=true:=⟨hb _ a6.late.2,cG a6 (λf h=>(Lc.nm f h).2) λ_=>rfl⟩;unfold Fp;rw[<-eF];exact hf
  refine Ep.step a8 λτ d=>?_;obtain⟨⟨es,e⟩,hn⟩:=h2 τ d;have hw':EU (SP EI H) (CK P.a EI ak) G β (on w τ d) (on w τ d):=hw.same rfl rfl rfl;have:=dX (P:=P) (main:=J) (main2:=J) Lc hg a6 (λ_=>rF a6) hw' (n:=(nw τ d).drawn) (λ_ _ _=>rfl) (by rw[e];exact Dl _ _);rw[e] at this;obtain⟨h0,_⟩|⟨Ef,a7,W',ES,k1,k2,k3⟩:=this
  .exact AS h0 hn
  obtain⟨i1,i2⟩:=k3.same hi rfl;have hr:=ih τ d i1 k2 (k3.rel.same rfl i2 rfl);refine⟨a7,W',ES,k1,mq k2.callers,hr.same (λ_ _ _ _ x=>x) (λg w W s x=>?_) ⟨i2.LH,?_,?_⟩⟩
  .obtain⟨g1,w0,aA,x1,x2,x3⟩:=x;exact⟨g1,w0,aA,x1,x2.trans s,x3⟩
  .rw[k3.OS,k3.os]
  .rw[k3.OUT,k3.out]
end
def E0 (K:Nat->Prop):Ey:=λb B=>K b/\b=B
def cut (K:Nat->Prop)(β:Ey):Ey:=λb B=>K b/\β b B
section
variable {S S1:FO} {K:Nat->Prop} {β:Ey}
def IX.cut {f F:Fn}(r:IX S β f F)(k:IX S1 (E0 K) f f):IX S1 (cut K β) f F:=by
 cases r with
 |func _=>cases k with|func h=>exact .func h
 |yield hl _=>cases k with|yield h1 h2=>exact .yield ⟨h1.1,hl⟩ h2
def Ee.cut {v V:cf}(hb:S1.LH.bl=J)(r:Ee S β v V)(k:Ee S1 (E0 K) v v):Ee S1 (cut K β) v V:=by
 induction r with
 |bool b=>exact .bool b
 |int ik n=>exact .int ik n
 |string s=>exact .string s
 |Hy=>exact .Hy
 |ptr o s h1=>cases k with|ptr _ _ h=>exact .ptr o s ⟨h.1,h1⟩
 |Hb l c=>exact .Hb l c
 |slice o s l c h1=>cases k with|slice _ _ _ _ h=>exact .slice o s l c ⟨h.1,h1⟩|Fq _=>exact .Fq (.inr hb)
 |func hf h1 _ h2 _ i1 i2 =>
  cases k with
  |E8 _=>cases hf
  |func kf _ k1 _ k2=>exact .func (hf.cut kf) h1 (λi v V hv hV=>i1 i v V hv hV (k1 i v v hv hv)) h2 (λi v V hv hV=>i2 i v V hv hV (k2 i v v hv hv))
 |nilFunc=>exact .nilFunc
 |Hp=>exact .Hp
 |GN=>exact .GN
 |nilIface=>exact .nilIface
 |iface t _ ih=>cases k with|iface _ k=>exact .iface t (ih k)
 |agg h1 _ i1=>cases k with|agg _ k1=>exact .agg h1 λi v V hv hV=>i1 i v V hv hV (k1 i v v hv hv)
 |tuple h1 _ i1=>cases k with|tuple _ k1=>exact .tuple h1 λi v V hv hV=>i1 i v V hv hV (k1 i v v hv hv)
 |blank _ h2=>exact .blank (.inr hb) h2
 |E8 _=>exact .E8 (.inr hb)
 |Fq _=>exact .Fq (.inr hb)
def Ei.cut (hb:S1.LH.bl=J){x X:Array cf}(r:Ei S β x X)(k:Ei S1 (E0 K) x x):Ei S1 (cut K β) x X:=⟨r.size,λi v V hv hV=>(r.at_ i v V hv hV).cut hb (k.at_ i v v hv hv)⟩
def Fj.cut {α:Type}{R R1 R2:α->α->Prop}(h:∀a A,R a A->R1 a a->R2 a A){l L:List α}(r:Fj R l L)(k:Fj R1 l l):Fj R2 l L:=by
 induction r with
 |nil=>exact .nil
 |cons ha _ ih=>cases k with|cons k1 k2=>exact .cons (h _ _ ha k1) (ih k2)
def FY.cut (hb:S1.LH.bl=J){d D:cK}(r:FY S β d D)(k:FY S1 (E0 K) d d):FY S1 (cut K β) d D:=by
 cases r with
 |fn f c a=>cases k with
  |fn f' c' a'=>exact .fn (f.cut f') (c.cut hb c') (a.cut hb a')
  |E8 a A h1 h2 h3=>cases h2;cases f
 |nil a=>cases k with
  |nil a'=>exact .nil (a.cut hb a')
  |E8 a A h1 h2 h3=>cases h2
 |collected r _=>cases k with
  |collected h1 h2=>exact .collected ⟨h1.1,r⟩ h2
  |E8 a A h1 h2 h3=>cases h2
 |E8 a A h1 h2 h3 =>
  subst h2;cases k with
  |fn f c a'=>cases f
  |E8 a' A' k1 k2 k3 =>
   have e:a'=a:=(fW _ |>.1 (Bh Deferred.args k2)).LH;subst e;have e:A'=a':=by
    obtain k3|⟨_,n,c,x,k3⟩:=k3
    .exact fW _ |>.1 (Bh Deferred.args k3).LH
    .exact(Array.append_inj_right' (Bh Deferred.args k3) k1.size).LH
   subst e;exact .E8 _ _ (h1.cut hb k1) rfl (h3.imp (λh=>h) λh=>⟨hb,h.2⟩)
def Fb.cut (hb:S1.LH.bl=J){Ck Ck1:ez->Prop}{o O:Obj}(r:Fb S Ck β o O)(k:Fb S1 Ck1 (E0 K) o o):Fb S1 Ck1 (cut K β) o O:=by
 cases r with
 |cells a f=>cases k with|cells a' _=>exact .cells (a.cut hb a') f
 |loop p a b x d h=>cases k with|loop p' a' b' x' d' h'=>exact .loop p' a' b' (x.cut hb x') ⟨d'.1,d⟩ h'
 |number o s l hb=>cases k with|number _ _ _ h=>exact .number o s l ⟨h.1,hb⟩
 |taken=>exact .taken
 |defs l=>cases k with|defs l'=>exact .defs (l.cut (λ_ _=>FY.cut hb) l')
def Fb.QZ {Ck:ez->Prop}{c:Array cf}{t:gR}{f f1:Nat×Nat}{O:Obj}(r:Fb S Ck β (.cells c t f) O)(h:∀i,f.1<=i->i<f.2->f1.1<=i/\i<f1.2):Fb S Ck β (.cells c t f1) O:=by
 cases r with
 |cells a z=>exact .cells a λi h1 h2=>let ⟨p,q⟩:=z i h1 h2;h i p q
end
section
variable {p:bn} {SB:bb->Bool} {H H1:Hid} {zZ:Bool} {K:Nat->Prop} {β:Ey}
def Gt.cut {ad:Bool}{i I:fx}(r:Gt p SB H zZ ad β i I)(k:Gt p SB H1 zZ ad (E0 K) i i):Gt p SB H1 zZ ad (Go.EB.cut K β) i I:=by
 cases r with
 |code c=>exact .code c
 |inBlock id=>exact .inBlock id
 |inLoop c=>exact .inLoop c
 |inScope c=>exact .inScope c
 |inRegion c=>exact .inRegion c
 |inRangeFunc a _=>cases k with|inRangeFunc h1 h2=>exact .inRangeFunc ⟨h1.1,a⟩ h2
 |endRangeFunc a _=>cases k with|endRangeFunc h1 h2=>exact .endRangeFunc ⟨h1.1,a⟩ h2
 |beginRound=>exact .beginRound
def JL.cut (hb:H1.bl=J){i I:dS}(r:JL SB H β i I)(k:JL SB H1 (E0 K) i i):JL SB H1 (Go.EB.cut K β) i I:=by
 cases r with
 |mk a b v=>cases k with|mk _ _ k=>exact .mk a b (v.cut hb k)
def JS.cut (hb:H1.bl=J){i I:fq}(r:JS SB H β i I)(k:JS SB H1 (E0 K) i i):JS SB H1 (Go.EB.cut K β) i I:=by
 cases r with
 |run=>exact .run
 |returning=>exact .returning
 |panicking l=>cases k with|panicking l'=>exact .panicking (l.cut (λ_ _=>JL.cut hb) l')
def Ih.cut {i I:Option Nat}(r:Ih H β i I)(k:Ih H1 (E0 K) i i):Ih H1 (Go.EB.cut K β) i I:=by
 cases r with
 |none=>exact .none
 |some a _=>cases k with|some h1 h2=>exact .some ⟨h1.1,a⟩ h2
def EC.cut (hb:H1.bl=J){f F:bh}(r:EC p SB H zZ β f F)(k:EC p SB H1 zZ (E0 K) f f):EC p SB H1 zZ (Go.EB.cut K β) f F :=
 ⟨r.fn,r.tmps.cut hb k.tmps,r.todo.cut (λ_ _=>Gt.cut) k.todo,r.defers.cut (λ_ _=>FY.cut hb) k.defers,r.mode.cut hb k.mode,r.kind,r.late,r.round.cut k.round⟩
def FC.cut (hb:H1.bl=J){T T1:List bh}{cs CS:List bh}(r:FC p SB H zZ T β cs CS)(k:FC p SB H1 zZ T1 (E0 K) cs cs):FC p SB H1 zZ T (Go.EB.cut K β) cs CS:=by
 induction r with
 |base=>exact .base
 |cons a h ih =>
  cases k with
  |base=>exact AS rfl (FC.ne (P:=EK.of p) h)
  |cons k1 k2=>exact .cons (a.cut hb k1) (ih k2)
end
section
variable {P:EK} {SB BB:bb->Bool} {H H1:Hid} {zZ:Bool} {T:List bh} {β:Ey} {Gn:Nat} {K:Nat->Prop} {g G:Z} {w w1 W:Y}
structure LW (p:bn)(SB:bb->Bool)(zZ:Bool)(H H1:Hid)(K:Nat->Prop)(g:Z)(w w1:Y):Prop where
 top:EC p SB H1 zZ (E0 K) g.L g.L
 callers:∃T1,FC p SB H1 zZ T1 (E0 K) g.callers g.callers
 F4:∀b,K b->H1 b=ak->H b=ak/\∃o,w1.L[b]?=bk o/\Fb (SP SB H1) (CK p SB zZ) (E0 K) o o /\
  (w.L[b]?=bk o\/∃c t f f1,w.L[b]?=bk (.cells c t f)/\o=.cells c t f1/\∀i,f.1<=i->i<f.2->f1.1<=i/\i<f1.2)
 Ge:∀b,K b->H1 b=J->w1.L[b]?=bk (.coro bA)/\(H b=J\/∃c t f,w.L[b]?=bk (.cells c t f))
 size:w.L.size<=w1.L.size
 old:∀b,H1 b=J->b<w1.L.size
 env:w1.os=w.os
 Fg:H1.Fg=ak/\H.Fg=ak
 bl:H1.bl=J
def mG (hb:BB g.L.fn=J)(k:LW P.a SB zZ H H1 K g w w1)(h:Gf P SB H zZ BB T β g G):Gf P SB H1 zZ BB T (cut K β) g G:=by
 obtain⟨T1,hc⟩:=k.callers;exact⟨.on ((h.top.Jm hb).cut k.bl k.top),h.callers.cut k.bl hc,h.status,h.dying,h.offers⟩
def mH (k:LW P.a SB zZ H H1 K g w w1)(h:EU (SP SB H) (CK P.a SB zZ) Gn β w W):EU (SP SB H1) (CK P.a SB zZ) Gn (cut K β) w1 W:=by
 refine⟨⟨λa b=>h.FH.fn a.2 b.2,λa b=>h.FH.inj a.2 b.2,λa=>h.FH.lo a.2⟩,⟨AU h.room.1 k.size,h.room.2⟩,λb B hb hh=>?_,λb B hb hh=>?_,k.old,by rw[k.env];exact h.env⟩
 .obtain⟨h0,o,e1,e2,e3⟩:=k.F4 b hb.1 hh;obtain⟨o',O,q1,q2,q3⟩:=h.F4 b B hb.2 h0;refine⟨o,O,e1,q2,?_⟩;obtain e3|⟨c,t,f,f1,e3,rfl,e4⟩:=e3
  .rw[q1] at e3;cases e3;exact q3.cut k.bl e2
  .rw[q1] at e3;cases e3;exact(q3.QZ e4).cut k.bl e2
 .obtain⟨e1,e2⟩:=k.Ge b hb.1 hh;refine⟨e1,λ_=>?_,λe=>?_⟩
  .obtain e2|⟨c,t,f,e2⟩:=e2
   .exact(h.Ge b B hb.2 e2).2.1 k.Fg.2
   .cases h0:H b with
    |true=>exact(h.Ge b B hb.2 h0).2.1 k.Fg.2
    |false =>
     obtain⟨o',O,q1,q2,q3⟩:=h.F4 b B hb.2 h0;rw[q1] at e2;cases e2;cases q3 with
     |cells _ _=>exact⟨_,_,_,q2⟩
  .have:=k.Fg.1;have e':H1.Fg=true:=e;rw[this] at e';cases e'
end
def Du:Hid:=⟨λ_=>ak,ak,ak⟩
section
variable {P:bn} {SB:bb->Bool} {H:Hid} {G:Nat}
def IZ (b:bh)(k:List fx)(cs:List bh)(N:Exit->Act->Y->Prop)(g:Z)(w:Y):Prop :=
 ∃a' w0,EE w0 w/\((N .L a' w0/\g=Fc (b.at a' k) cs)\/(N .ret a' w0/\∃todo,g=Fc { b.at a' todo with mode:=.returning } cs))
def IZ.same {b:bh}{k:List fx}{cs:List bh}{N:Exit->Act->Y->Prop}(g:Z)(w W:Y)(h:EE w W)(q:IZ b k cs N g w):IZ b k cs N g W:=by
 obtain⟨a',w0,h1,h2⟩:=q;exact⟨a',w0,h1.trans h,h2⟩
def MQ (L:Lib (EK.of P) SB H ak SB G){b:bh}{a:Act}{c:ez}{k:List fx}{cs:List bh}{w:Y}{N:Exit->Act->Y->Prop}(zU:cs≠[])(hs:Self P SB H G (Fc (b.at a (.code c::k)) cs) w)
  (h:∀τ d,c.wp P (λe a' w'=>(e=.L\/e=.ret)/\N e a' w') a (on w τ d)):Ep P (Self P SB H G) (IZ b k cs N) (Fc (b.at a (.code c::k)) cs) w:=by
 refine fv L IZ.same ⟨hs,λτ d=>?_⟩;obtain⟨e,a',w',⟨he,hn⟩,a6⟩:=h τ d b k cs;obtain rfl|rfl:=he
 .obtain⟨n,hr⟩:=a6;exact di L (hs.same Dt) hr zU ⟨a',w',⟨rfl,rfl,rfl⟩,.inl ⟨hn,rfl⟩⟩
 .obtain⟨todo,n,hr⟩:=a6;exact di L (hs.same Dt) hr zU ⟨a',w',⟨rfl,rfl,rfl⟩,.inr ⟨hn,todo,rfl⟩⟩
end
section
variable {P:EK} {EI BC BB:bb->Bool} {G:Nat} {Q:Z->Y->Prop}
structure MR (P:EK)(EI BC BB:bb->Bool)(G:Nat):Prop where
 la:Lib (EK.of P.a) EI Du ak EI G
 lc:Lib P EI Du ak BC G
 ref:kL P EI BC
 sub:∀f,EI f=J->BB f=J
def vV {K0:Nat->Prop}{w:Y}{Ck:ez->Prop}(Fa:∀b,K0 b->G<=b)(hroom:G<=w.L.size)(a6:∀b,K0 b->∃o,w.L[b]?=bk o/\Fb (SP EI Du) Ck (E0 K0) o o):EU (SP EI Du) Ck G (E0 K0) w w:=by
 refine⟨⟨λh1 h2=>h1.2.LH.trans h2.2,λh1 h2=>h1.2.trans h2.2.LH,λ{b B} h=>⟨Fa b h.1,h.2▸Fa b h.1⟩⟩,⟨hroom,hroom⟩,λb B hb _=>?_,λb B _ hh=>(by cases hh),λb hh=>(by cases hh),rfl⟩;obtain⟨hb,rfl⟩:=hb;obtain⟨o,h1,h2⟩:=a6 b hb;exact⟨o,o,h1,h1,h2⟩
def MR.run (B:MR P EI BC BB G){Qa:Z->Y->Prop}{fr:bh}{C:bh}{cs:List bh}{K0:Nat->Prop}{w:Y}{F:bh}(ha:Gw (EK.of P.a) EI Du ak EI (E0 K0) fr fr)(hc:Gw P EI Du ak BC (E0 K0) fr F)
  (Fa:∀b,K0 b->G<=b) (hroom:G<=w.L.size) (a6:∀b,K0 b->∃o,w.L[b]?=bk o/\Fb (SP EI Du) (CK P.a EI ak) (E0 K0) o o)
  (h:Self P.a EI Du G (Fc fr [bad]) w->Ep P.a (Self P.a EI Du G) Qa (Fc fr [bad]) w) :
  Ep P.b (Fp P.b BB) (λa7 w'=>∃g' w0 Ef,Qa g' w0/\EE w0 w'/\La Du Ef/\Gf P EI Du ak BC (C::cs) Ef g' a7/\EU (SP EI Du) (CK P.a EI ak) G Ef w0 w0) (Fc F (C::cs)) w:=by
 have hi:La Du (E0 K0):=⟨rfl,λ_ _ h=>h.2⟩;have hw:=vV (Ck:=CK P.a EI ak) Fa hroom a6;have hs:Self P.a EI Du G (Fc fr [bad]) w:=⟨_,hi,⟨ha,.base,⟨rfl,rfl⟩,⟨rfl,rfl⟩,⟨rfl,rfl⟩⟩,hw⟩;exact(h hs).swap B.lc B.ref B.sub hi ⟨hc,.base,⟨rfl,rfl⟩,⟨rfl,rfl⟩,⟨rfl,rfl⟩⟩ hw
def MR.fn (B:MR P EI BC BB G){f:bb}(hf:EI f=J)(a7:BC f=J){K0:Nat->Prop}{w:Y}{args:Array cf}{C:bh}{cs:List bh}(zU:cs≠[])
  (Fa:∀b,K0 b->G<=b) (hroom:G<=w.L.size) (a6:Ei (SP EI Du) (E0 K0) args args)
  (aA:∀b,K0 b->∃o,w.L[b]?=bk o/\Fb (SP EI Du) (CK P.a EI ak) (E0 K0) o o)
  (hQ:∀g w W,EE w W->Q g w->Q g W) {R:cf->Y->Prop}
  (hc:∀τ d,Calls P.a f args (on w τ d) (λe w'=>∃v,e=.L v/\R v w'))
  (h:∀v w',R v w'->Ep P.b (Fp P.b BB) Q (Fc (C.finish v) cs) w') :
  Ep P.b (Fp P.b BB) Q (Fc (bW P.b f args .L) (C::cs)) w:=by
 have h1:=B.run (C:=C) (cs:=cs) (Fl B.la (.inl hf) a6 .L (by decide)) (Fl B.lc (.inl hf) a6 .L (by decide)) Fa hroom aA λhs=>IA B.la hs hc;refine h1.bind λg2 w' hq=>?_;obtain⟨g',w0,Ef,q1,q2,q3,q4,q5⟩:=hq;have aB:=q1;obtain⟨wl,vl,fr,l1,l2,l3,l4,l5⟩:=aB;have aC:BB g'.L.fn=true:=B.sub _ (by rw[l3];show EI fr.fn=J;rw[l4];exact hf);have a8:=q4.top.Jm (by rw[l3];show BC fr.fn=J;rw[l4];exact a7)
 have eF:g'.L=g2.L:=EC.id (P:=EK.of P.a) q3 a8;refine Ep.step ⟨by rw[<-eF];exact aC,λo ho=>?_⟩ λτ d=>?_
 .rw[<-eF] at ho;exact cG a8 (λf h=>(B.lc.nm f h).2) (λ_=>rfl) o ho
 .have hw':EU (SP EI Du) (CK P.a EI ak) G Ef w0 (on w' τ d):=q5.same rfl q2.1 (by rw[show(on w' τ d).os=w'.os from rfl,q2.2.1]);obtain⟨v,wa,wb,V,W',ES,aD,e1,e2,e3,e4,e5,e6⟩:=leave (P:=P) B.lc (main2:=J) q1 a7 q4 hw';obtain⟨i1,i2⟩:=e6.same q3 q2.1.LH;have eV:=e5.id i1;subst eV;refine⟨_,W',ES,e4,zU,(h v wa e2).same (λ_ _ _ _ x=>x) hQ ⟨?_,?_,?_⟩⟩
  .rw[<-i2,e3.1,<-e1.1]
  .rw[e6.OS,show(on w' τ d).os=w'.os from rfl,q2.2.1,e1.2.1]
  .rw[e6.OUT,show(on w' τ d).output=w'.output from rfl,q2.2.2,e1.2.2]
end
def Fatal:Halt->Prop
 |.stuck _=>True
 |.unsupported u=>∀g,u≠.initOrder g
 |_=>False
def Hd {α:Type}:Result α->Prop
 |.halt h _=>Fatal h
 |_=>False
section
variable {p:bn}
def Ps {c:bb} {fc:kq} (hf:p.L[c]?=bk fc) (hname:(fc.name == "runtime.NumGoroutine")=ak) (hb:fc.body.L=J) (hn:gl fc=bA) (he:kn fc=bk (js (.int .i32)))
  {a:k5} {w:Y} {x y:Int} (h1:∃s,w.farLoad p a J=.error (.stuck s)) (h2:∀t u,w.L[a.LE]?≠bk (.view t u)) :
  (∃z,w.S a=bk (.int .i32 z)/\w.O a=ak)\/Hd ((callFunc c #[.S (bk a),.int .i32 x,.int .i32 y]).run p w):=by
 obtain⟨s,h1⟩:=h1;rw[run_callFunc_extern hf hname hb hn he]
 have e0:(js (.int .i32) #[.S (bk a),.int .i32 x,.int .i32 y])=(do
  let a'<-asAddr (.S (bk a))
  if<-bs a' then cU (.unsafePointer "a write to bytes that a string shares")
  let eq<-match Extern.Atomic.T.int .i32,<-c0 (.int .i32) a',lh .i32 x with
   |_,.int _ x,.int _ y=>pure (x==y)
   |.ptr,.S x,.S y=>samePointer x y
   |.int _,.S (bk _),.int _ 0|.int _,.int _ 0,.S (bk _)=>pure ak
   |.int _,.S (bk _),_|.int _,_,.S (bk _)=>cU .L
   |_,_,_=>stuck "atomic.CompareAndSwap: old is no T"
  if eq then store a' (.int .i32 y) .atomic
  pure (Value.bool eq)):=rfl
 rw[e0];by_cases hv:∃o,w.T a.LE=bA/\w.L[a.LE]?=o/\(o=bA\/∃c t f,o=bk (.cells c t f))
 .obtain⟨o,q1,q2,q3⟩:=hv;refine .inr ?_;obtain rfl|⟨c,t,f,rfl⟩:=q3
  .simp[bs,asAddr,viewAt,shape,getObj,er,q1,q2,cq,Hd,Fatal,stuck,cU]
  .simp[bs,asAddr,viewAt,shape,getObj,er,q1,q2,cq,Hd,Fatal,stuck,cU]
 have a6:(viewAt a.LE).run p w=.ok bA w:=by
  cases hs:w.T a.LE with
  |some z=>simp[viewAt,shape,er,hs,cq]
  |none =>
   cases ho:w.L[a.LE]? with
   |none=>exact AS ⟨_,hs,ho,.inl rfl⟩ hv
   |some o =>
    cases o with
    |cells c t f=>exact AS ⟨_,hs,ho,.inr ⟨_,_,_,rfl⟩⟩ hv
    |view t u=>exact AS ho (h2 t u)
    |_=>simp[viewAt,shape,getObj,er,hs,ho,cq]
 cases hz:w.O a with
 |true=>exact .inr (by simp[bs,asAddr,a6,hz,frozen,er,cq,Hd,Fatal,stuck,cU])
 |false =>
  cases hc:w.S a with
  |none =>
   have hl:(load a .atomic).run p w=.halt (.stuck s) w:=by
    have:(Mode.atomic==Mode.atomic)=true:=rfl;simp[load,er,hc,this,h1]
   exact .inr (by simp[bs,c0,asAddr,a6,hz,frozen,er,hl,cq,Hd,Fatal,stuck,cU])
  |some v =>
   have hl:(load a .atomic).run p w=.ok v w:=by simp[load,er,hc]
   cases v with
   |int k z =>
    by_cases hk:k=.i32
    .subst hk;exact .inl ⟨z,rfl,rfl⟩
    .have a7:¬IntKind.i32=k:=λe=>hk e.LH;exact .inr (by simp[bs,c0,asAddr,a6,hz,frozen,er,hl,a7,cq,Hd,Fatal,stuck,cU])
   |pointer q=>cases q<;>exact .inr (by simp[bs,c0,asAddr,a6,hz,frozen,er,hl,cq,Hd,Fatal,stuck,cU])
   |_=>exact .inr (by simp[bs,c0,asAddr,a6,hz,frozen,er,hl,cq,Hd,Fatal,stuck,cU])
def jM {main:Bool}{b:bh}{a:Act}{ops:Array fu}{i:Nat}{rest:List Nat}{k:List fx}{cs:List bh}{w:Y}{o:fu}(ho:ops[i]?=bk o)(hw:cF o (yielded ops a.tmps)=J)(hk:b.kind≠.early)
  (h:Hd ((eC a.eval o).run p w)) {g':Z} {w':Y} {es:Array cw}:bq p main (Fc (b.at a (.inRegion ops (i::rest)::k)) cs) w≠.go g' w' es:=by
 intro e;have e':=(stepG_oper (P:=p) (main:=main) (b:=b) (a:=a) (k:=k) (cs:=cs) (w:=w) ho hw).LH.trans e;have a6:(b.kind==CallKind.early)=false:=by simpa using hk
 unfold dn at e';rw[<-eH p _ w #[]] at h;simp only[if_true,Frame.at,a6,Bj,if_false] at e';revert e' h;obtain⟨r,es⟩:=(eC a.eval o).L p w #[];intro h e';cases r with
 |ok v w'=>exact h.S
 |halt x w' =>
  cases x with
  |stuck s=>cases e'
  |unsupported u =>
   cases u with
   |initOrder g=>exact AS rfl (h g)
   |_=>cases e'
  |_=>exact h.S
structure LX (p:bn)(f:bb)(x y:Int)(fn:kq)(r:Nat)(o1 o2:fu)(s:String):Prop where
 func:p.L[f]?=bk fn
 text:fn.body=bk (.seq (.L r #[o1,o2] ak) (.cond (.tmp 1) .ret (.refuse s)))
 room:3<=fn.ntmps
 res:fn.results=#[]
 free:o1.guard=bA/\o1.L=bk 2/\o2.guard=bA/\o2.L=bk 1
 one:∀(a:Act) w,(∃q,a.eval (.tmp 0)=.S (bk q)/\(eC a.eval o1).run p w=.ok (.value (.S (bk q))) w)\/Hd ((eC a.eval o1).run p w)
 two:∀(a:Act) q w,a.eval (.tmp 2)=.S (bk q)->(∃s,w.farLoad p q J=.error (.stuck s))->(∀t u,w.L[q.LE]?≠bk (.view t u)) ->
  (∃z,w.S q=bk (.int .i32 z)/\w.O q=ak/\(z=x->(eC a.eval o2).run p w=.ok (.value (.bool J)) (w.LH q (.int .i32 y)))/\(z≠x->(eC a.eval o2).run p w=.ok (.value (.bool ak)) w))\/Hd ((eC a.eval o2).run p w)
variable {f:bb} {x y:Int} {fn:kq} {r:Nat} {o1 o2:fu} {s:String} {args:Array cf} {k:eT} {cs:List bh} {w:Y}
def nZ (h:LX p f x y fn r o1 o2 s):bW p f args k={ base f with kind:=k }.at { tmps:=args++kp (fn.ntmps-args.size) undef,defers:=[] } [.code (.seq (.L r #[o1,o2] ak) (.cond (.tmp 1) .ret (.refuse s)))]:=by
 simp[bW,Frame.at,h.func,h.text,base]
def bt {o:fu}{ops:Array fu}{t:Array cf}(h:o.guard=bA):cF o (yielded ops t)=true:=by unfold cF;rw[h]
def KL (h:LX p f x y fn r o1 o2 s)(hk:k≠.early){Ev Qa:Z->Y->Prop}(hE:∀g w W,EE w W->Ev g w->Ev g W)(hQ:∀g w W,EE w W->Qa g w->Qa g W)(hC:∀g w,g.L.fn=f->¬Qa g w)
  (aA:∀q,args[0]?=bk (.S (bk q))->(∃s,w.farLoad p q J=.error (.stuck s))/\∀t u,w.L[q.LE]?≠bk (.view t u))
  (hr:Ep p Ev Qa (Fc (bW p f args k) cs) w) :
  ∃q fr,args[0]?=bk (.S (bk q))/\w.S q=bk (.int .i32 x)/\w.O q=ak/\fr.fn=f/\fr.kind=k/\fr.mode=.returning/\fr.defers=[] /\
   Walk p (λg=>∀w,¬Qa g w) (Fc (bW p f args k) cs) w (Fc fr cs) (w.LH q (.int .i32 y)):=by
 rw[nZ h] at hr ⊢;generalize hT:args++kp (fn.ntmps-args.size) undef=T at hr ⊢;have hTs:3<=T.size:=by rw[<-hT];simp;have:=h.room;omega
 generalize hb:({ base f with kind:=k }:bh)=b at hr ⊢;have a6:b.kind≠.early:=by rw[<-hb];exact hk
 have hbf:b.fn=f:=by rw[<-hb];rfl
 obtain⟨f1,f2,f3,f4⟩:=h.free;have C:∀(a:Act) t,∀w,¬Qa (Fc (b.at a t) cs) w:=λa t w=>hC _ _ hbf;have w2 : ∀ {w2 : Y} {g2 : Z}, Walk p (fun g => ∀ w, ¬ Qa g w) (Fc (b.at ⟨T, []⟩ [.inRegion #[o1, o2] [0, 1], .code (.cond (.tmp 1) .ret (.refuse s))]) cs) w g2 w2 ->
   Walk p (λg=>∀w,¬Qa g w) (Fc (b.at ⟨T,[]⟩ [.code (.seq (.L r #[o1,o2] ak) (.cond (.tmp 1) .ret (.refuse s)))]) cs) w g2 w2:=λz =>
  .step (C _ _) stepG_seq (.step (C _ _) stepG_region z)
 have zy:=hr.descend hE hQ (λg w c=>c w) ⟨rfl,rfl,rfl⟩ (w2 .refl);obtain⟨q,q1,q2⟩|a7:=h.one ⟨T,[]⟩ w
 rotate_left
 .exfalso;cases zy with
  |fin h=>exact C _ _ _ h
  |next ng nw _ h2 _ =>
   obtain⟨⟨es,e⟩,_⟩:=h2 w.tape w.drawn;exact jM (o:=o1) rfl (bt f1) a6 a7 e
 have hq:args[0]?=bk (.S (bk q)):=by
  have e0:T.LH 0 undef=.S (bk q):=q1;rw[<-hT] at e0;by_cases hz:0<args.size
  .have h9:0<args.size+(fn.ntmps-args.size):=by omega
   simpa [jx,Array.getElem_append,hz,h9] using e0
  .exfalso;have:args=#[]:=Array.eq_empty_of_size_eq_zero (by omega);subst this;simp[jx] at e0;simp[undef] at e0
 obtain⟨n1,n2⟩:=aA q hq;have e2:bq p J (Fc (b.at ⟨T,[]⟩ [.inRegion #[o1,o2] [0,1],.code (.cond (.tmp 1) .ret (.refuse s))]) cs) w=.go (Fc (b.at ((Act.mk T []).put o1.L (.S (bk q))) [.inRegion #[o1,o2] [1],.code (.cond (.tmp 1) .ret (.refuse s))]) cs) w (listed p b.fn ⟨T,[]⟩ o1 w) :=
  hZ (o:=o1) rfl (bt f1) a6 q2
 rw[f2] at e2;generalize hA:(Act.mk T []).put (bk 2) (.S (bk q))=A at e2;have zj:A.eval (.tmp 2)=.S (bk q):=by
  rw[<-hA];show(T.L 2 _).LH 2 undef=_;have:2<T.size:=hTs;simp[jx,this]
 have hAd:A.defers=[]:=by rw[<-hA];rfl
 have aB:A.tmps.size=T.size:=by rw[<-hA];exact Array.size_setIfInBounds
 have hr3:=zy.descend (C:=λg=>∀w,¬Qa g w) hE hQ (λg w c=>c w) ⟨rfl,rfl,rfl⟩ (.step (C _ _) e2 .refl);obtain⟨z,z1,z2,z3,z4⟩|a7:=h.two A q w zj n1 n2
 rotate_left
 .exfalso;cases hr3 with
  |fin h=>exact C _ _ _ h
  |next ng nw _ h2 _ =>
   obtain⟨⟨es,e⟩,_⟩:=h2 w.tape w.drawn;exact jM (o:=o2) rfl (bt f3) a6 a7 e
 have hT1:∀v,(A.put (bk 1) v).eval (.tmp 1)=v:=λv=>by
  show(A.tmps.L 1 v).LH 1 undef=v;have:1<A.tmps.size:=by rw[aB];omega
  simp[jx,this]
 by_cases a8:z=x
 .have e3 : bq p J (Fc (b.at A [.inRegion #[o1, o2] [1], .code (.cond (.tmp 1) .ret (.refuse s))]) cs) w = .go (Fc (b.at (A.put o2.L (.bool J)) [.inRegion #[o1, o2] [], .code (.cond (.tmp 1) .ret (.refuse s))]) cs) (w.LH q (.int .i32 y)) (listed p b.fn A o2 w) :=
   hZ (o:=o2) rfl (bt f3) a6 (z3 a8)
  rw[f4] at e3;subst a8;refine⟨q,_,hq,z1,z2,?_,?_,?_,?_,w2 (.step (C _ _) e2 (.step (C _ _) e3 (.step (C _ _) j3 (.step (C _ _) (stepG_cond (t:=J) (hT1 _)) (.step (C _ _) stepG_ret' .refl)))))⟩
  .exact hbf
  .show b.kind=k;rw[<-hb]
  .rfl
  .exact hAd
 .exfalso;have e3:bq p J (Fc (b.at A [.inRegion #[o1,o2] [1],.code (.cond (.tmp 1) .ret (.refuse s))]) cs) w=.go (Fc (b.at (A.put o2.L (.bool ak)) [.inRegion #[o1,o2] [],.code (.cond (.tmp 1) .ret (.refuse s))]) cs) w (listed p b.fn A o2 w) :=
   hZ (o:=o2) rfl (bt f3) a6 (z4 a8)
  rw[f4] at e3;have hr4:=hr3.descend (C:=λg=>∀w,¬Qa g w) hE hQ (λg w c=>c w) ⟨rfl,rfl,rfl⟩ (.step (C _ _) e3 (.step (C _ _) j3 (.step (C _ _) (stepG_cond (t:=ak) (hT1 _)) .refl)));cases hr4 with
  |fin h=>exact C _ _ _ h
  |next ng nw _ h2 _ =>
   obtain⟨⟨es,e⟩,_⟩:=h2 w.tape w.drawn;simp[bq,ll,Frame.at,br] at e
end
def mI {p:bn}{main:Bool}{fr:bh}{cs:List bh}{w:Y}{fn:kq}(hm:fr.mode=.returning)(hd:fr.defers=[])(hf:p.L[fr.fn]?=bk fn)(hr:fn.results=#[]) :
  bq p main (Fc fr cs) w=b9 #[] (cE p main fr cs bA (.tuple #[]) w):=by
 obtain⟨f1,tmps,todo,defers,mode,kind,round⟩:=fr;dsimp only at hm hd hf;subst hm hd;unfold bq Fc;dsimp only;unfold unwind;dsimp only;rw[hf];dsimp only;have e:(results fn tmps).L p w #[]=(.ok (.tuple #[]) w,#[]):=Prod.ext ((eH ..).trans (results_none hr _ _ _)) (events_results_none hr _ _);rw[e];simp only[seen_none]
section
variable {S:FO} {Ck:ez->Prop} {G:Nat} {β:Ey}
def tZ {w:Y}(hw:EU S Ck G β w w)(hi:β.Oq){q:k5}{u:cf}(hc:w.S q=bk u){v:cf}(hv:Ee S β v v):EU S Ck G β (w.LH q v) (w.LH q v):=by
 have a6:∀b,b=q.LE->w.L[b]?≠bk (.coro bA):=by
  intro b e h;subst e;unfold iv at hc;rw[h] at hc;cases hc
 refine⟨hw.FH,by rw[bB];exact hw.room,λb B hb hh=>?_,λb B hb hh=>?_,λb hb=>by rw[bB];exact hw.old b hb,rfl⟩
 .obtain⟨o,O,k1,k2,k3⟩:=hw.F4 b B hb hh;have:=hi _ _ hb;subst this;rw[k1] at k2;cases k2;rw[EW];by_cases e:b=q.LE
  .rw[AP e,k1];refine⟨_,_,rfl,rfl,?_⟩;cases k3 with
   |@cells c C t f F h1 h2 =>
    simp only[IY];split
    .exact .cells h1 h2
    .exact .cells (h1.Lo _ hv) h2
   |loop a b c d e f=>exact .loop a b c d e f
   |number o s l h=>exact .number o s l h
   |taken=>exact .taken
   |defs h=>exact .defs h
  .rw[AN e];exact⟨_,_,k1,k1,k3⟩
 .have:=hi _ _ hb;subst this;have h:=hw.Ge _ _ hb hh;rw[EW];by_cases e:b=q.LE
  .exact AS h.1 (a6 _ e)
  .rw[AN e];exact h
end
def Walk.split {p:bn}{C:Z->Prop}{g1 g2:Z}{w1 w2:Y}(h:Walk p C g1 w1 g2 w2):(g1=g2/\w1=w2)\/∃g w es,C g1/\bq p J g1 w1=.go g w es/\Walk p C g w g2 w2:=by
 cases h with
 |refl=>exact .inl ⟨rfl,rfl⟩
 |step c e k=>exact .inr ⟨_,_,_,c,e,k⟩
def Walk.trans {p:bn}{C:Z->Prop}{g1 g2 g3:Z}{w1 w2 w3:Y}(h:Walk p C g1 w1 g2 w2)(k:Walk p C g2 w2 g3 w3):Walk p C g1 w1 g3 w3:=by
 induction h with
 |refl=>exact k
 |step c e _ ih=>exact .step c e (ih k)
section
variable {P:EK} {EI BC BB:bb->Bool} {H:Hid} {G:Nat}
def Held (p:bn)(BB:bb->Bool)(f:bb)(x y:Int):Prop:=∀(args:Array cf) (q:k5) (k:eT) (cs:List bh) (w:Y),k≠.early->cs≠[]->args[0]?=bk (.S (bk q))->w.S q=bk (.int .i32 x)->w.O q=ak ->
 E5 p BB (λg W=>EE (w.LH q (.int .i32 y)) W/\∃fr,g=Fc fr cs/\fr.fn=f/\fr.kind=k/\fr.mode=.returning/\fr.defers=[]/\fr.oper?=bA) 0 (Fc (bW p f args k) cs) w
def LY (P:EK)(BB:bb->Bool)(f:bb):Prop:=∃x y fn r o1 o2 s Hq,LX P.a f x y fn r o1 o2 s/\Held P.b BB f x y/\P.fs[f]?=bk Hq/\Hq.results=#[]
def mJ (P:EK)(EI BC BB:bb->Bool):Prop:=∀f,EI f=J\/aP EI f=J->BC f=ak->(∃fn s,P.a.L[f]?=bk fn/\fn.body=bk (.refuse s))\/LY P BB f
def JU (P:EK)(EI BC:bb->Bool)(H:Hid)(G:Nat)(T:List bh)(Qa:Z->Y->Prop)(a6:Z)(w':Y):Prop :=
 ∃g' w0 Ef,Qa g' w0/\EE w0 w'/\La H Ef/\Gf P EI H ak BC T Ef g' a6/\EU (SP EI H) (CK P.a EI ak) G Ef w0 w0
def JU.same {T:List bh}{Qa:Z->Y->Prop}(g:Z)(w W:Y)(s:EE w W)(x:JU P EI BC H G T Qa g w):JU P EI BC H G T Qa g W:=by
 obtain⟨g1,w0,a6,x1,x2,x3⟩:=x;exact⟨g1,w0,a6,x1,x2.trans s,x3⟩
def Ep.Q0 (Lc:Lib P EI H ak BC G)(zG:mJ P EI BC BB)(hb:∀f,EI f=J->BB f=J){Qa:Z->Y->Prop}(hQ:∀g w W,EE w W->Qa g w->Qa g W)(aR:∀g w f,Qa g w->BC f=ak->LY P BB f->g.L.fn≠f)(hE:∀g w W,EE w W->Self P.a EI H G g w->Self P.a EI H G g W)
  {c:bh} {cs:List bh} {g:Z} {w:Y} (h:Ep P.a (Self P.a EI H G) Qa g w) :
  ∀ {g':Z} {w1 w':Y},EE w w1->Walk P.a (λg=>∀w,¬Qa g w) g w1 g' w'->∀ {β:Ey} {g2:Z},La H β->Gf P EI H ak BC (c::cs) β g' g2->EU (SP EI H) (CK P.a EI ak) G β w' w' ->
  E5 P.b BB (JU P EI BC H G (c::cs) Qa) 0 g2 w':=by
 induction h with
 |@fin g w hq =>
  intro g' w1 w' hs hk β g2 hi hg hw;cases hk with
  |refl=>exact .fin ⟨_,_,_,hQ _ _ _ hs hq,⟨rfl,rfl,rfl⟩,hi,hg,hw⟩
  |step hc _ _=>exact AS hq (hc w)
 |@next g w ng nw h1 h2 h3 ih =>
  intro g' w1 w' hs hk β g2 hi hg hw;cases hk with
  |step hc e aS =>
   obtain⟨⟨es',e'⟩,_⟩:=h2 w1.tape w1.drawn;rw[<-hs.eq,e] at e';cases e';exact ih _ _ ⟨rfl,rfl,rfl⟩ aS hi hg hw
  |refl =>
  have eon:∀τ n,on w1 τ n=on w τ n:=λτ n=>by rw[hs.eq];rfl
  have zA:Ep P.a (Self P.a EI H G) Qa g w1:=(Ep.next ng nw h1 h2 h3).same hE hQ hs;have aJ:∀τ n,(∃es,bq P.a J g (on w1 τ n)=.go (ng τ n) (nw τ n) es)/\(ng τ n).callers≠[]:=λτ n=>by rw[eon];exact h2 τ n
  have ih':∀τ n {g':Z} {w2 w':Y},EE (nw τ n) w2->Walk P.a (λg=>∀w,¬Qa g w) (ng τ n) w2 g' w'->∀ {β:Ey} {g2:Z},La H β->Gf P EI H ak BC (c::cs) β g' g2->EU (SP EI H) (CK P.a EI ak) G β w' w' ->
   E5 P.b BB (JU P EI BC H G (c::cs) Qa) 0 g2 w':=λτ n=>ih τ n
  have eg:=hg.Fc;have aC:=hg.top;have zW:=hg.callers;have e2:g2=Fc g2.L g2.callers:=by
   obtain⟨x1,x2,x3,x4,x5⟩:=g2;obtain⟨_,_,⟨_,s1⟩,⟨_,d1⟩,⟨_,o1⟩⟩:=hg;dsimp only at *;subst s1 d1 o1
   rfl
  generalize hf:g.L=fr at aC eg;generalize hF:g2.L=FR at aC e2;generalize g.callers=a7 at eg zW;generalize g2.callers=a6 at e2 zW;subst eg e2;cases aC with
  |on a8 =>
   have eF:fr=FR:=EC.id (P:=EK.of P.a) hi a8
   have aL:Fp P.b BB (Fc FR a6) w1:=⟨by show BB FR.fn=J;rw[<-eF];exact hb _ a8.late.2,λo ho=>by
    have aA:FR.oper?=bk o:=ho;rw[<-eF] at aA
    exact cG a8 (λf h=>(Lc.nm f h).2) (λ_=>rfl) o aA⟩
   refine E5.step aL λτ d=>?_;obtain⟨⟨es,e⟩,hn⟩:=aJ τ d;have hw':EU (SP EI H) (CK P.a EI ak) G β (on w1 τ d) (on w1 τ d):=hw.same rfl rfl rfl;have:=dX (P:=P) (main:=J) (main2:=J) Lc hg a8 (λ_=>rF a8) hw' (n:=(nw τ d).drawn) (λ_ _ _=>rfl) (by rw[e];exact Dl _ _);rw[e] at this;obtain⟨h0,_⟩|⟨Ef,aD,W',ES,k1,k2,k3⟩:=this
   .exact AS h0 hn
   obtain⟨i1,i2⟩:=k3.same hi rfl;have hr:=ih' τ d ⟨rfl,rfl,rfl⟩ .refl i1 k2 (k3.rel.same rfl i2 rfl);refine⟨aD,W',ES,k1,mq k2.callers,hr.same JU.same ⟨i2.LH,?_,?_⟩⟩
   .rw[k3.OS,k3.os]
   .rw[k3.OUT,k3.out]
  |@stop f a A k s1 s2 s3 s4 =>
   have eA:a=A:=s4.id hi;subst eA;obtain⟨fn,s,q1,q2⟩|⟨x,y,fn,r,o1,o2,s,Hq,hp,aF,hf',aN⟩:=zG f s1 s2
   .exfalso;obtain⟨⟨es,e⟩,_⟩:=aJ w1.tape w1.drawn;exact iZ q1 q2 _ _ _ _ _ e
   have s0:EI f=true:=by
    obtain s1|s1:=s1
    .exact s1
    .exfalso;obtain⟨fn9,s9,z1,z2⟩:=Lc.bars f s1;rw[hp.func] at z1;cases z1;rw[hp.text] at z2;cases z2
   have aK:∀ww,EU (SP EI H) (CK P.a EI ak) G β ww ww->∀q:k5,a[0]?=bk (.S (bk q))->(∃s,ww.farLoad P.a q J=.error (.stuck s))/\∀t u,ww.L[q.LE]?≠bk (.view t u):=by
    intro ww hw q hq;have hv:Ee (SP EI H) β (.S (bk q)) (.S (bk q)):=s4.at_ 0 _ _ hq hq;obtain⟨B,aG,hB⟩:=Lz hv;have hB2:q.LE=B:=hi.2 _ _ aG;subst hB2;refine⟨(Ni (P:=P) hw ⟨aG,rfl,rfl⟩).1 J,λt u hu=>?_⟩;cases hh:(SP EI H).LH q.LE with
    |true=>rw[(hw.Ge _ _ aG hh).1] at hu;cases hu
    |false =>
     obtain⟨o,O,k1,k2,k3⟩:=hw.F4 _ _ aG hh;rw[hu] at k1;cases k1;cases k3
   have aH:∀g w,g.L.fn=f->¬Qa g w:=λg w e hq=>aR g w f hq s2 ⟨x,y,fn,r,o1,o2,s,Hq,hp,aF,hf',aN⟩ e;obtain⟨q,fr,hq,hc,hz,_⟩:=KL hp s3 hE hQ aH (aK _ hw) zA;have hCS:a6≠[]:=mq zW;have aP:a7≠[]:=by cases zW<;>simp
   refine((aF a q k a6 w1 s3 hCS hq hc hz).bind λgB WB hB=>?_);obtain⟨hs2,FR,rfl,t1,t2,t3,t4,t5⟩:=hB
   refine E5.step ⟨by show BB FR.fn=J;rw[t1];exact hb f s0,λo ho=>by
    have aA:FR.oper?=bk o:=ho
    rw[t5] at aA;cases aA⟩ λτ n=>?_
   have aO:EU (SP EI H) (CK P.a EI ak) G β (on w1 τ n) (on w1 τ n):=hw.same rfl rfl rfl;obtain⟨q',fr,hq',hc',hz',r1,r2,r3,r4,aI⟩:=KL hp s3 hE hQ aH (aK _ aO) (zA.same hE hQ Dt);have eq:q'=q:=by rw[hq] at hq';cases hq';rfl
   subst eq;have hw2:EU (SP EI H) (CK P.a EI ak) G β ((on w1 τ n).LH q' (.int .i32 y)) ((on w1 τ n).LH q' (.int .i32 y)):=tZ aO hi.2 hc' (.int _ _);have aM:Ep P.a (Self P.a EI H G) Qa (Fc fr a7) ((on w1 τ n).LH q' (.int .i32 y)):=(zA.same hE hQ Dt).descend (C:=λg=>∀w,¬Qa g w) hE hQ (λg w c=>c w) ⟨rfl,rfl,rfl⟩ aI;have eWB:on WB τ n=(on w1 τ n).LH q' (.int .i32 y):=by rw[hs2.eq];rfl
   rw[eWB];cases aM with
   |fin h=>exact AS h (aH _ _ r1)
   |next ng2 nw2 _ h2b _ =>
    obtain⟨⟨es,e⟩,hn⟩:=h2b τ n;have aQ:on ((on w1 τ n).LH q' (.int .i32 y)) τ n=(on w1 τ n).LH q' (.int .i32 y):=rfl;rw[aQ] at e;have ea:=mI (main:=J) (cs:=a7) (w:=(on w1 τ n).LH q' (.int .i32 y)) r3 r4 (by rw[r1];exact hp.func) hp.res;have eb:=mI (p:=P.b) (main:=J) (cs:=a6) (w:=(on w1 τ n).LH q' (.int .i32 y)) t3 t4 (by rw[t1];exact hf') aN;have:=ft (P:=P) (BB:=BC) (main:=J) (main2:=J) (fr:=fr) (FR:=FR) (r2.trans t2.LH) (by rw[r2];exact s3) zW aP (v:=.tuple #[]) (V:=.tuple #[]) (.tuple rfl (by simp)) (Fin.refl hw2) #[]
    rw[<-ea,e,<-show b9 #[] (cE P.b J FR a6 bA (.tuple #[]) ((on w1 τ n).LH q' (.int .i32 y)))=b9 ([]:List cw).LK (cE P.b J FR a6 bA (.tuple #[]) ((on w1 τ n).LH q' (.int .i32 y))) from rfl,<-eb] at this;obtain⟨h0,_⟩|⟨Ef,aD,W',ES,k1,k2,k3⟩:=this
    .exact AS h0 hn
    obtain⟨i1,i2⟩:=k3.same hi rfl;have hr:E5 P.b BB (JU P EI BC H G (c::cs) Qa) 0 aD (nw2 τ n):=by
     have aB:Walk P.a (λg=>∀w,¬Qa g w) (Fc fr a7) ((on w1 τ n).LH q' (.int .i32 y)) (ng2 τ n) (nw2 τ n):=.step (λw=>aH _ w r1) e .refl;have rel:=k3.rel.same rfl i2 rfl;obtain⟨e0,_⟩|⟨ga,wa,esa,_,e1,rest⟩:=aI.split
     .exfalso;have:=Bh (λg:Z=>g.L.mode) e0;rw[show(Fc fr a7).L.mode=.returning from r3] at this;cases this
     .obtain⟨⟨aT,e1'⟩,_⟩:=aJ τ n;rw[e1] at e1';cases e1';exact ih' τ n ⟨rfl,rfl,rfl⟩ (rest.trans aB) i1 k2 rel
    refine⟨aD,W',ES,k1,mq k2.callers,hr.same JU.same ⟨i2.LH,?_,?_⟩⟩
    .rw[k3.OS,k3.os]
    .rw[k3.OUT,k3.out]
end
end Go.EB
