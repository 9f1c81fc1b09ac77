/- Parts of the proof. -/
import Derived.Test.YtoeoefobdjociaaGreatP01
set_option linter.all false
set_option maxHeartbeats 4000000
open Go renaming Value->Z,TypeId->J,unsupported->N,Operand->ak,behindNumber->bk,Program->bl,FuncId->bn,runtimePanic->bA,BinOp->b5,callFunc->b7,Code->cq,TypeDesc->cr,Deferred->cu,nilAhead->cE
open Go.Op renaming eqGuardIn->U,maxDepth->z,equalIn->j,equal->bh,stringOp->bq,twoPlaces->b9
open Bool renaming true->I,false->bc,eq_false_iff->br,false_or->bw
open Std.Legacy.Range renaming forIn_eq_forIn_range'->bb
open Option renaming some->bs,none->cF
open Go.Builtin renaming min_->bD,max_->bW,min2->cf,max2->ck
open Go.Instr renaming panic->b6,getLoop->b8,yield->cw
namespace Go.Eu
section
variable {P:ED} {S:Fy} {Ck:cq->Prop} {G:Nat} {β:Em}
def Ic {t:J}(h:He P.a t=I):(∃k,P.a.underlying t=bs (.int k))\/P.a.underlying t=bs .bool\/P.a.underlying t=bs .string:=by
 unfold He at h;cases hd:P.a.underlying t with
 |none=>rw[hd] at h;cases h
 |some d =>
  rw[hd] at h;cases d with
  |int k=>exact .inl ⟨k,rfl⟩
  |bool=>exact .inr (.inl rfl)
  |string=>exact .inr (.inr rfl)
  |_=>cases h
def kT (hG:P.a.globals.size<=G)(m:Nat){t:J}(h:He P.a t=I){v V x X:Z}(hv:DZ S β v V)(hx:DZ S β x X):Ed P S Ck G β (j (m+1) t v x) (j (m+1) t V X) (λ_ a A=>a=A):=by
 unfold j;refine DX (am _) ?_;rintro a7 d _ zX ⟨rfl,hd⟩;replace hv:=hv.mono zX;replace hx:=hx.mono zX;obtain⟨k,e⟩|e|e:=Ic h
 .rw[e] at hd;cases hd;cases hv with
  |int k a=>cases hx with
   |int k' b =>
    dsimp only;split
    .exact DY rfl
    .exact D7
   |ptr o s hb =>
    by_cases h0:a=0
    .subst h0;exact DY rfl
    .refine Hq λw es=>⟨.addressObserved,w,es,?_,by intro g e;cases e⟩;cases a with
     |ofNat n=>cases n with
      |zero=>exact AI rfl h0
      |succ n=>rfl
     |negSucc n=>rfl
   |Hc=>exact Hq λw es=>⟨.addressObserved,w,es,rfl,by intro g e;cases e⟩
   |_=>exact D7
  |ptr o s hb=>cases hx with
   |int k' b =>
    by_cases h0:b=0
    .subst h0;exact DY rfl
    .refine Hq λw es=>⟨.addressObserved,w,es,?_,by intro g e;cases e⟩;cases b with
     |ofNat n=>cases n with
      |zero=>exact AI rfl h0
      |succ n=>rfl
     |negSucc n=>rfl
   |ptr o' s' hb' =>
    have h1:E0 a7 ⟨_,o,s⟩ ⟨_,o,s⟩:=E0.mk hb rfl rfl;have h2:E0 a7 ⟨_,o',s'⟩ ⟨_,o',s'⟩:=E0.mk hb' rfl rfl;refine DX (dv h1) ?_;rintro aH ⟨p,_⟩ ⟨p',_⟩ aC ⟨hp,_⟩;refine DX (dv (h2.mono aC)) ?_;rintro aD ⟨q,_⟩ ⟨q',_⟩ a6 ⟨hq,_⟩;intro w W n hw ht a8 aA aB;have hp:=hp.mono a6;have l1:G<=p.block/\G<=p'.block:=(hw.Fv.lo hp.block);have l2:G<=q.block/\G<=q'.block:=(hw.Fv.lo hq.block)
    clear a6;have e1:(p==q)=(p'==q'):=by
     obtain⟨b,o,s⟩:=p;obtain⟨B,O,t'⟩:=p';obtain⟨b',o',s'⟩:=q;obtain⟨B',O',t''⟩:=q';obtain⟨a1,a2,a3⟩:=hp;obtain⟨b1,b2,b3⟩:=hq;cases a2;cases a3;cases b2;cases b3;rw[Bool.eq_iff_iff];simp only[beq_iff_eq,Addr.mk.injEq];constructor
     .rintro⟨rfl,r⟩;exact⟨hw.Fv.fn a1 b1,r⟩
     .rintro⟨rfl,r⟩;exact⟨hw.Fv.inj a1 b1,r⟩
    refine(?_:Ed P S Ck G aD _ _ _) w W n hw ht a8 aA aB;clear aB a8 aA ht n;refine DX aT ?_;rintro aI pr pr' aF ⟨aJ,hpr'⟩;subst pr pr';have n1:¬(p.block==q.block&&decide (p.block<P.a.globals.size))=true:=by simp only[AN,beq_iff_eq,decide_eq_true_eq];omega
    have n2:¬(p'.block==q'.block&&decide (p'.block<P.b.globals.size))=true:=by rw[show P.b.globals=P.a.globals from rfl];simp only[AN,beq_iff_eq,decide_eq_true_eq];omega
    simp only[AD n1,AD n2];refine DX (bm _) ?_;rintro aK i _ aG ⟨rfl,_⟩;split
    .rw[e1];split
     .exact DY rfl
     .exact Eb (by intro g e;cases e)
    .exact Eb (by intro g e;cases e)
   |_=>exact Hq λw es=>⟨.addressObserved,w,es,rfl,by intro g e;cases e⟩
  |Hc=>cases hx<;>exact Hq λw es=>⟨.addressObserved,w,es,rfl,by intro g e;cases e⟩
  |_=>cases hx<;>first|exact D7|exact Hq λw es=>⟨.addressObserved,w,es,rfl,by intro g e;cases e⟩
 .rw[e] at hd;cases hd;cases hv with
  |bool a=>cases hx with
   |bool b=>exact DY rfl
   |_=>exact D7
  |_=>exact D7
 .rw[e] at hd;cases hd;cases hv with
  |string a=>cases hx with
   |string b=>exact DY rfl
   |_=>exact D7
  |_=>exact D7
def ma (hG:P.a.globals.size<=G){t:J}(h:He P.a t=I){v V x X:Z}(hv:DZ S β v V)(hx:DZ S β x X):Ed P S Ck G β (bh t v x) (bh t V X) (λ_ a A=>a=A) :=
 kT hG 9999 h hv hx
def oJ {m:Sem Z}(h:(∃v,(∀(S:Fy) (β:Em),DZ S β v v)/\m=pure v)\/(∃s,m=stuck s)\/(∃u,m=N u/\∀g,u≠.initOrder g)\/(∃s,m=bA (.error s))) :
  Ed P S Ck G β m m (λD6 a A=>DZ S D6 a A):=by
 obtain⟨v,h,rfl⟩|⟨s,rfl⟩|⟨u,rfl,h⟩|⟨s,rfl⟩:=h
 .exact DY (h _ _)
 .exact D7
 .exact Eb h
 .exact az _ trivial
def IX (op:b5)(t:J)(k k':IntKind)(a b:Int):Ed P S Ck G β (binOp op t (.int k a) (.int k' b)) (binOp op t (.int k a) (.int k' b)) (λD6 a A=>DZ S D6 a A):=by
  refine oJ ?_;have iv:∀(k:IntKind) (n:Int),(∀(S:Fy) (β:Em),DZ S β (.int k n) (.int k n)):=λk n _ _=>.int _ _;have bv:∀(b:Bool),(∀(S:Fy) (β:Em),DZ S β (.bool b) (.bool b)):=λb _ _=>.bool _;cases op with
  | shl => unfold binOp Op.shift; dsimp only; split
           · exact .inr (.inr (.inr ⟨_, rfl⟩))
           · exact .inl ⟨_,iv _ _,rfl⟩
  | shr => unfold binOp Op.shift; dsimp only; split
           · exact .inr (.inr (.inr ⟨_, rfl⟩))
           · exact .inl ⟨_,iv _ _,rfl⟩
  | quo => unfold binOp Op.intDiv; dsimp only; split
           · exact .inr (.inl ⟨_, rfl⟩)
           · split
             · exact .inr (.inr (.inr ⟨_, rfl⟩))
             · exact .inl ⟨_,iv _ _,rfl⟩
  | rem => unfold binOp Op.intDiv; dsimp only; split
           · exact .inr (.inl ⟨_, rfl⟩)
           · split
             · exact .inr (.inr (.inr ⟨_, rfl⟩))
             · exact .inl ⟨_,iv _ _,rfl⟩
  |add|sub|mul|and|or|xor|andNot =>
    unfold binOp;dsimp only;split
    · exact .inr (.inl ⟨_,rfl⟩)
    · exact .inl ⟨_,iv _ _,rfl⟩
  |eql|neq|lss|leq|gtr|geq =>
    unfold binOp;dsimp only;split
    · exact .inr (.inl ⟨_,rfl⟩)
    · exact .inl ⟨_,bv _,rfl⟩
def fE (op:b5)(x y:ByteArray):Ed P S Ck G β (bq op x y) (bq op x y) (λD6 a A=>DZ S D6 a A):=by
  refine oJ ?_;have bv:∀(b:Bool),(∀(S:Fy) (β:Em),DZ S β (.bool b) (.bool b)):=λb _ _=>.bool _;cases op with
  | add => unfold bq; dsimp only; split
           · exact .inr (.inr (.inl ⟨_, rfl, by intro g e; cases e⟩))
           · exact .inl ⟨_,λ_ _=>.string _,rfl⟩
  |eql|neq|lss|leq|gtr|geq=>exact .inl ⟨_,bv _,rfl⟩
  |_=>exact .inr (.inl ⟨_,rfl⟩)
def kU {t:J}(h:He P.a t=I){v V x X:Z}(hv:DZ S β v V)(hx:DZ S β x X):Ed P S Ck G β (do if(<-underlying t) matches .unsafePointer then movedPointer t v x else movedNumber t v x) (do if(<-underlying t) matches .unsafePointer then movedPointer t V X else movedNumber t V X) (λD6 a A=>DZ S D6 a A):=by
 refine DX (am _) ?_;rintro a6 d _ zX ⟨rfl,hd⟩;have:=bZ (P:=P) (Ck:=Ck) (G:=G) t (hv.mono zX) (hx.mono zX);rcases Ic h with⟨k,e⟩|e|e<;>(rw[e] at hd;cases hd;exact this)
def ib (hG:P.a.globals.size<=G){a A b B:Addr}(ha:E0 β a A)(hb:E0 β b B)(f F:Nat×Nat->Sem Z):Ed P S Ck G β (do let x<-bk a;let y<-bk b;(b9 x.1 y.1) >>= f) (do let x<-bk A;let y<-bk B;(b9 x.1 y.1) >>= F) (λD6 a A=>DZ S D6 a A):=by
 refine DX (dv ha) ?_;rintro a8 ⟨p,_⟩ ⟨p',_⟩ a6 ⟨hp,_⟩;refine DX (dv (hb.mono a6)) ?_;rintro aA ⟨q,_⟩ ⟨q',_⟩ a7 ⟨hq,_⟩;exact DX (l7 hG (hp.mono a7)) (λ_ _ _ _ h=>h.elim)
def Mp (k:IntKind){a A:Addr}(ha:E0 β a A)(n:Int):Ed P S Ck G β (do Op.addrMod k (<-bk a).1 n) (do Op.addrMod k (<-bk A).1 n) (λD6 a A=>DZ S D6 a A):=by
 refine DX (dv ha) ?_;rintro a7 ⟨p,_⟩ ⟨p',_⟩ a6 ⟨hp,_⟩;exact pH k hp n
def zO (P:ED){α:Type}(m:Sem α):Prop:=∀w es,(∃s w' es',m.runT P.a w es=(.halt (.stuck s) w',es'))\/∃u w' es',m.runT P.a w es=(.halt (.unsupported u) w',es')/\∀g,u≠.initOrder g
def Gg {α Hd:Type}{m:Sem α}{M:Sem Hd}{R:Em->α->Hd->Prop}(h:zO P m):Ed P S Ck G β m M R:=by
 intro w W n hw ht a6 a7 hb;obtain⟨s,w',es',e⟩|⟨u,w',es',e,hu⟩:=h w a6
 .rw[e];trivial
 .rw[e];exact hu
def zO.bind {α γ:Type}{m:Sem α}(h:zO P m)(k:α->Sem γ):zO P (m >>= k):=by
 intro w es;rw[aj];obtain⟨s,w',es',e⟩|⟨u,w',es',e,hu⟩:=h w es
 .rw[e];exact .inl ⟨s,w',es',rfl⟩
 .rw[e];exact .inr ⟨u,w',es',rfl,hu⟩
def jI {t:J}(h:He P.a t=I){v V x X:Z}(hv:DZ S β v V)(hx:DZ S β x X)(hu:v=hole\/x=hole):zO P (bh t v x):=by
 intro w es;have hr:∀d,P.a.underlying t=bs d->(underlying t).runT P.a w es=(.ok d w,es):=λd e=>by
  unfold underlying;rw[aj];show(match(P.a.underlying t) with|some d=>pure d|none=>stuck _:Sem cr).runT P.a w es=_;rw[e];rfl
 show(∃s w' es',(j (9999+1) t v x).runT P.a w es=_)\/∃u w' es',(j (9999+1) t v x).runT P.a w es=_/\_;unfold j;rw[aj];rcases Ic h with⟨k,e⟩|e|e<;>rw[hr _ e]<;>obtain rfl|rfl:=hu
 .cases hx<;>first|exact .inl ⟨_,_,_,rfl⟩|exact .inr ⟨.addressObserved,_,_,rfl,by intro g e;cases e⟩
 .cases hv<;>first|exact .inl ⟨_,_,_,rfl⟩|exact .inr ⟨.addressObserved,_,_,rfl,by intro g e;cases e⟩
 .cases hx<;>first|exact .inl ⟨_,_,_,rfl⟩|exact .inr ⟨.addressObserved,_,_,rfl,by intro g e;cases e⟩
 .cases hv<;>first|exact .inl ⟨_,_,_,rfl⟩|exact .inr ⟨.addressObserved,_,_,rfl,by intro g e;cases e⟩
 .cases hx<;>first|exact .inl ⟨_,_,_,rfl⟩|exact .inr ⟨.addressObserved,_,_,rfl,by intro g e;cases e⟩
 .cases hv<;>first|exact .inl ⟨_,_,_,rfl⟩|exact .inr ⟨.addressObserved,_,_,rfl,by intro g e;cases e⟩
def binOp_eql {t:J}{V X:Z}(h1:∀k a k' b,V=.int k a->X=.int k' b->False)(h2:∀k a k' b,V=.float k a->X=.float k' b->False)(h3:∀k a b k' c d,V=.complex k a b->X=.complex k' c d->False)(h4:∀a b,V=.string a->X=.string b->False) :
  binOp .eql t V X=(do pure (.bool (<-bh t V X)))/\binOp .neq t V X=(do pure (.bool (!(<-bh t V X)))):=by
 constructor
 all_goals
  rw[binOp.eq_def];split
  all_goals first|contradiction|rfl|(exfalso;first|exact h1 _ _ _ _ rfl rfl|exact h2 _ _ _ _ rfl rfl|exact h3 _ _ _ _ _ _ rfl rfl|exact h4 _ _ rfl rfl)
def tK (hG:P.a.globals.size<=G)(op:b5){t:J}(h:He P.a t=I){v V x X:Z}(hv:DZ S β v V)(hx:DZ S β x X):Ed P S Ck G β (binOp op t v x) (binOp op t V X) (λD6 a A=>DZ S D6 a A):=by
 have he:Ed P S Ck G β (do pure (.bool (<-bh t v x)):Sem Z) (do pure (.bool (<-bh t V X))) (λD6 a A=>DZ S D6 a A) :=
  DX (ma hG h hv hx) (by rintro a6 b _ _ rfl;exact DY (.bool _))
 have hn:Ed P S Ck G β (do pure (.bool (!(<-bh t v x))):Sem Z) (do pure (.bool (!(<-bh t V X)))) (λD6 a A=>DZ S D6 a A) :=
  DX (ma hG h hv hx) (by rintro a6 b _ _ rfl;exact DY (.bool _))
 have mk:∀ {b B:Nat} (o:Nat) (s:Option Nat),β b B->E0 β ⟨b,o,s⟩ ⟨B,o,s⟩:=λo s h=>⟨h,rfl,rfl⟩;rw[binOp.eq_def op t v x];split
 .cases hv;cases hx;exact IX .shl t _ _ _ _
 .cases hv;cases hx;exact IX .shr t _ _ _ _
 .rename_i k a k' b n1 n2;cases hv;cases hx;have:=IX (P:=P) (S:=S) (Ck:=Ck) (G:=G) (β:=β) op t k k' a b;cases op with
  |shl=>exact(n1 rfl).elim
  |shr=>exact(n2 rfl).elim
  |_=>exact this
 .cases hv
 .cases hv
 .cases hv;cases hx
  have e:∀x y,binOp op t (.string x) (.string y)=bq op x y:=λx y=>by cases op<;>rfl
  rw[e];exact fE _ _ _
 .rename_i n1 n2 n3 n4;by_cases hu:v=hole\/x=hole
  .exact Gg ((jI h hv hx hu).bind _)
  rw[(binOp_eql (t:=t) (V:=V) (X:=X) ?_ ?_ ?_ ?_).1]
  .exact he
  .rintro k a k' b rfl rfl;cases hv with
   |int=>cases hx with
    |int=>exact n1 _ _ _ _ rfl rfl
    |blank _ _=>exact hu (.inr rfl)
   |blank _ _=>exact hu (.inl rfl)
  .rintro k a k' b rfl rfl;cases hv;exact hu (.inl rfl)
  .rintro k a k' b c d rfl rfl;cases hv;exact hu (.inl rfl)
  .rintro a b rfl rfl;cases hv with
   |string=>cases hx with
    |string=>exact n4 _ _ rfl rfl
    |blank _ _=>exact hu (.inr rfl)
   |blank _ _=>exact hu (.inl rfl)
 .rename_i n1 n2 n3 n4;by_cases hu:v=hole\/x=hole
  .exact Gg ((jI h hv hx hu).bind _)
  rw[(binOp_eql (t:=t) (V:=V) (X:=X) ?_ ?_ ?_ ?_).2]
  .exact hn
  .rintro k a k' b rfl rfl;cases hv with
   |int=>cases hx with
    |int=>exact n1 _ _ _ _ rfl rfl
    |blank _ _=>exact hu (.inr rfl)
   |blank _ _=>exact hu (.inl rfl)
  .rintro k a k' b rfl rfl;cases hv;exact hu (.inl rfl)
  .rintro k a k' b c d rfl rfl;cases hv;exact hu (.inl rfl)
  .rintro a b rfl rfl;cases hv with
   |string=>cases hx with
    |string=>exact n4 _ _ rfl rfl
    |blank _ _=>exact hu (.inr rfl)
   |blank _ _=>exact hu (.inl rfl)
 .cases hx
  cases hv with
  |Hc=>exact kU h .Hc (.int _ _)
  |ptr o s hb=>exact kU h (.ptr o s hb) (.int _ _)
 .cases hv
  cases hx with
  |Hc=>exact bZ _ .Hc (.int _ _)
  |ptr o s hb=>exact bZ _ (.ptr o s hb) (.int _ _)
 .cases hx
  cases hv with
  |Hc=>exact bZ _ .Hc (.int _ _)
  |ptr o s hb=>exact bZ _ (.ptr o s hb) (.int _ _)
 .cases hv with
  |ptr o s hb=>cases hx with
   |ptr o' s' hb'=>exact ib hG (mk o s hb) (mk o' s' hb') _ _
 .cases hv with
  |ptr o s hb=>cases hx with
   |ptr o' s' hb'=>exact ib hG (mk o s hb) (mk o' s' hb') _ _
 .cases hv with
  |ptr o s hb=>cases hx with
   |ptr o' s' hb'=>exact ib hG (mk o s hb) (mk o' s' hb') _ _
 .cases hv with
  |ptr o s hb=>cases hx with
   |ptr o' s' hb'=>exact ib hG (mk o s hb) (mk o' s' hb') _ _
 .cases hv with
  |ptr o s hb=>cases hx with
   |ptr o' s' hb'=>exact ib hG (mk o s hb) (mk o' s' hb') _ _
 .cases hv with
  |ptr o s hb=>cases hx;exact Mp _ (mk o s hb) _
 .cases hv with
  |ptr o s hb=>cases hx;exact Mp _ (mk o s hb) _
 .cases hv
  cases hx with
  |ptr o s hb=>exact Mp _ (mk o s hb) _
 .exact Eb (u:=.addressObserved) (by intro g e;cases e)
 .exact Eb (u:=.addressObserved) (by intro g e;cases e)
 .exact D7
end
inductive H4 (S:Fy)(Ck:cq->Prop)(β:Em):Next->Next->Prop
 |value {v V:Z}:DZ S β v V->H4 S Ck β (.value v) (.value V)
 |skip:H4 S Ck β .skip .skip
 |enter {f:bn} {a A:Array Z}:S.fn f->D8 S β a A->H4 S Ck β (.enter f a) (.enter f A)
 |round {l L:Nat} {f:bn} {x X:Array Z} {Aw bo:cq}:β l L->S.hid l=bc/\S.fr f->D8 S β x X->Ck Aw->Ck bo->H4 S Ck β (.round l f x Aw bo) (.round L f X Aw bo)
 |defer {d D:cu}:FH S β d D->H4 S Ck β (.defer d) (.defer D)
section
variable {P:ED} {S:Fy} {Ck:cq->Prop} {G:Nat} {β:Em}
def Ki {p:bl}{t:J}{d:cr}(e:p.underlying t=bs d)(w:World)(es:Array Event):(underlying t).runT p w es=(.ok d w,es):=by
 unfold underlying;rw[aj];have e2:program.runT p w es=(.ok p w,es):=rfl;rw[e2];dsimp only;rw[e]
 rfl
def di {p:bl}(hp:∀t,p.underlying t=P.a.underlying t){t:J}(h:He P.a t=I)(n:Nat)(v x:Z)(w:World)(es:Array Event):(U (n+1) t v x).runT p w es=(.ok bc w,es):=by
 unfold U;rw[aj];rcases Ic h with⟨k,e⟩|e|e<;>(rw[Ki ((hp t).trans e)];rfl)
def iX {p:bl}(hp:∀t,p.underlying t=P.a.underlying t)(op:b5){t:J}(h:He P.a t=I)(xo yo:ak)(v x:Z)(w:World)(es:Array Event):(eqGuard op t xo yo v x).runT p w es=(.ok () w,es):=by
  unfold eqGuard;cases op<;>try rfl
  all_goals
    rw[AD (by simp)];split
    · cases xo <;> cases yo <;> first
        |rfl
        | (rw [AD (by simp), aj, show z = 9999 + 1 from rfl, di hp h]
           rfl)
    · rw[aj]
      have e2:program.runT p w es=(.ok p w,es):=rfl;rw[e2];dsimp only;rw[aj,e2];dsimp only;split
      · rfl
      · rw[aj,show z=9999+1 from rfl,di hp h]
        rfl
    · rfl
def pI (op:b5){t:J}(h:He P.a t=I)(xo yo:ak)(v x V X:Z):Ed P S Ck G β (eqGuard op t xo yo v x) (eqGuard op t xo yo V X) (λ_ _ _=>True):=by
 intro w W n hw ht a6 a7 hb;rw[iX (λ_=>rfl) op h,iX P.underlying op h];exact⟨β,(),W,[],by simp,trivial,Fin.refl hw⟩
def tL (op:UnOp){v V:Z}(hv:DZ S β v V):Ed P S Ck G β (Op.unary op v) (Op.unary op V) (λD6 a A=>DZ S D6 a A):=by
 cases hv with
 |int k n=>cases op with
  |neg=>exact DY (.int _ _)
  |xor=>exact DY (.int _ _)
  |_=>exact D7
 |bool b=>cases op with
  |not=>exact DY (.bool _)
  |_=>exact D7
 |ptr o s hb=>cases op with
  |neg=>exact Eb (u:=.addressObserved) (by intro g e;cases e)
  |xor=>exact Eb (u:=.addressObserved) (by intro g e;cases e)
  |_=>exact D7
 |_=>cases op<;>exact D7
def ic (P:bl)(s d:J):Bool:=match P.underlying s,P.underlying d with
 |some (.int _),bs (.int _)=>I
 |_,_=>bc
def pJ {s d:J}(h:ic P.a s d=I){v V:Z}(hv:DZ S β v V):Ed P S Ck G β (convert s d v) (convert s d V) (λD6 a A=>DZ S D6 a A):=by
 refine DX (am _) ?_;rintro a7 a _ zX ⟨rfl,h1⟩;refine DX (am _) ?_;rintro a8 b _ a6 ⟨rfl,h2⟩;unfold ic at h;rw[h1,h2] at h;cases a with
 |int k=>cases b with
  |int k'=>cases hv with
   |int k n=>exact DY (.int _ _)
   |ptr o s hb=>exact Eb (u:=.addressObserved) (by intro g e;cases e)
   |_=>exact Hq λw es=>⟨_,w,es,rfl,by intro g e;cases e⟩
  |_=>cases h
 |_=>cases b<;>cases h
def vL {v V x X:Z}(hv:DZ S β v V)(hx:DZ S β x X):Ed P S Ck G β (cf v x) (cf V X) (λD6 a A=>DZ S D6 a A):=by
 cases hv with
 |int k n=>cases hx with
  |int k' m=>exact DY (.int _ _)
  |ptr o s hb=>exact Eb (u:=.addressObserved) (by intro g e;cases e)
  |_=>exact D7
 |string a=>cases hx with
  |string b =>
   refine DX (fE _ _ _) ?_;intro a6 c C _ hc;refine DX (gS hc) ?_;rintro a7 c _ _ rfl;exact DY (.string _)
  |ptr o s hb=>exact Eb (u:=.addressObserved) (by intro g e;cases e)
  |_=>exact D7
 |ptr o s hb=>exact Eb (u:=.addressObserved) (by intro g e;cases e)
 |_=>cases hx<;>first|exact D7|exact Eb (u:=.addressObserved) (by intro g e;cases e)
def vM {v V x X:Z}(hv:DZ S β v V)(hx:DZ S β x X):Ed P S Ck G β (ck v x) (ck V X) (λD6 a A=>DZ S D6 a A):=by
 cases hv with
 |int k n=>cases hx with
  |int k' m=>exact DY (.int _ _)
  |ptr o s hb=>exact Eb (u:=.addressObserved) (by intro g e;cases e)
  |_=>exact D7
 |string a=>cases hx with
  |string b =>
   refine DX (fE _ _ _) ?_;intro a6 c C _ hc;refine DX (gS hc) ?_;rintro a7 c _ _ rfl;exact DY (.string _)
  |ptr o s hb=>exact Eb (u:=.addressObserved) (by intro g e;cases e)
  |_=>exact D7
 |ptr o s hb=>exact Eb (u:=.addressObserved) (by intro g e;cases e)
 |_=>cases hx<;>first|exact D7|exact Eb (u:=.addressObserved) (by intro g e;cases e)
def ie {f:Z->Z->Sem Z}(hf:∀β v V x X,DZ S β v V->DZ S β x X->Ed P S Ck G β (f v x) (f V X) (λD6 a A=>DZ S D6 a A)) :
  ∀ {l L:List Z} {v V:Z} {β:Em},E5 (DZ S β) l L->DZ S β v V->Ed P S Ck G β (l.foldlM f v) (L.foldlM f V) (λD6 a A=>DZ S D6 a A)
 |[],_,_,_,_,h,hv=>by cases h;exact DY hv
 |x::l,_,_,_,_,h,hv=>by
  cases h with
  |cons hx hl =>
   simp only[List.foldlM_cons];refine DX (hf _ _ _ _ _ hv hx) ?_;intro a6 y Y zX hy;exact ie hf (hl.mono λ_ _=>DZ.mono zX) hy
def xP (ts:Array J)(t:J){a A:Array Z}(h:D8 S β a A):Ed P S Ck G β (bD ts t a) (bD ts t A) (λD6 v V=>DZ S D6 v V):=by
 unfold bD;have:=h.toList;revert this;generalize a.toList=l;generalize A.toList=L;intro hl;cases hl with
 |nil=>exact D7
 |cons hx hl=>exact ie (λβ v V x X=>vL) hl hx
def xQ (ts:Array J)(t:J){a A:Array Z}(h:D8 S β a A):Ed P S Ck G β (bW ts t a) (bW ts t A) (λD6 v V=>DZ S D6 v V):=by
 unfold bW;have:=h.toList;revert this;generalize a.toList=l;generalize A.toList=L;intro hl;cases hl with
 |nil=>exact D7
 |cons hx hl=>exact ie (λβ v V x X=>vM) hl hx
end
def cx (P:bl):Nat->J->Bool
 |0,_=>bc
 |d+1,t=>He P t||match P.underlying t with
  |some (.struct fs)=>fs.all λf=>cx P d f.type
  |some (.array _ e)=>cx P d e
  |some (.slice _)=>I
  |_=>bc
def ED.alikeButTags (P:ED)(d:Nat):P.b.alikeButTags d=P.a.alikeButTags d:=by
 induction d with
 |zero=>rfl
 |succ d ih =>
  funext t u;unfold Program.alikeButTags;rw[ih]
  rfl
def ED.stoodInHeld (P:ED)(t:J):P.b.stoodInHeld t=P.a.stoodInHeld t:=by
 unfold Program.stoodInHeld Program.stoodInAs;rw[ED.alikeButTags,show P.b.depth=P.a.depth from rfl]
 rfl
def ED.eqGuardType (P:ED)(d:Nat):P.b.eqGuardType d=P.a.eqGuardType d:=by
 induction d with
 |zero=>rfl
 |succ d ih =>
  funext t;unfold Program.eqGuardType;rw[ih]
  rfl
section
variable {P:ED} {S:Fy} {Ck:cq->Prop} {G:Nat} {β:Em}
def eW {γ σ:Type}{f F:γ->σ->Sem (ForInStep σ)}:∀(l:List γ) (s:σ) (β:Em),(∀x∈l,∀s D6,β.le D6->Ed P S Ck G D6 (f x s) (F x s) (λ_ a A=>a=A)) ->
  Ed P S Ck G β (forIn l s f) (forIn l s F) (λ_ a A=>a=A)
 |[],s,β,_=>by
  simp only[List.forIn_nil];exact DY rfl
 |x::l,s,β,h=>by
  simp only[List.forIn_cons];refine DX (h x (by simp) s β β.le_refl) ?_;rintro a7 a _ zX rfl;cases a with
  |done b=>exact DY rfl
  |yield b=>exact eW l b a7 λy hy s D6 a6=>h y (by simp[hy]) s D6 (Em.le_trans zX a6)
def fF (hG:P.a.globals.size<=G):∀(n k:Nat) {t:J} (β:Em),cx P.a k t=I->∀ {v V x X:Z},DZ S β v V->DZ S β x X->Ed P S Ck G β (j n t v x) (j n t V X) (λ_ a A=>a=A)
 |0,_,_,_,_,_,_,_,_,_,_=>Eb (by intro g e;cases e)
 |_+1,0,_,_,h,_,_,_,_,_,_=>by cases h
 |n+1,k+1,t,β,h,v,V,x,X,hv,hx=>by
  by_cases hc:He P.a t=I
  .exact kT hG n hc hv hx
  .unfold cx at h;rw[br.2 hc,bw] at h;unfold j;refine DX (am _) ?_;rintro aB d _ zX ⟨rfl,hd⟩;replace hv:=hv.mono zX;replace hx:=hx.mono zX;rw[hd] at h;cases d with
   |struct fs =>
    simp only[Ba] at h;cases hv with
    |agg h1 h2 =>
     cases hx with
     |agg h3 h4 =>
      rename_i a A b B;have ha:D8 S aB a A:=⟨h1,h2⟩;have hb:D8 S aB b B:=⟨h3,h4⟩;refine DX aT ?_;rintro aG p p' a6 ⟨hp,aJ⟩;subst p p';rw[ED.stoodInHeld];split
      .exact DX (R:=λ_ _ _=>False) (Eb (by intro g e;cases e)) (λ_ _ _ _ h=>h.elim)
      .refine DX (R:=λ_ a A=>a=A) ?_ ?_
       .rw[<-Df,<-Df];refine eW _ _ _ λf hf s aC a7=>?_;split
        .refine DX (cD _ ((ha.mono a6).mono a7) _) ?_;intro aH p1 P1 a8 Iq;refine DX (cD _ (((hb.mono a6).mono a7).mono a8) _) ?_;intro aD p2 P2 aA aF;refine DX (fF hG n k aD (h f (by simpa using hf)) (Iq.mono aA) aF) ?_;rintro aI r _ _ rfl;cases r<;>exact DY rfl
        .exact DY rfl
       .rintro aC ⟨a,_⟩ _ _ rfl;cases a<;>exact DY rfl
     |_=>exact D7
    |_=>first|exact D7|(cases hx<;>exact D7)
   |array len e =>
    cases hv with
    |agg h1 h2 =>
     cases hx with
     |agg h3 h4 =>
      rename_i a A b B;have ha:D8 S aB a A:=⟨h1,h2⟩;have hb:D8 S aB b B:=⟨h3,h4⟩;refine DX (aK _) ?_;rintro aG m _ a6 rfl;refine DX (R:=λ_ a A=>a=A) ?_ ?_
      .simp only[bb];refine eW _ _ _ λf hf s aC a7=>?_;refine DX (cD _ ((ha.mono a6).mono a7) _) ?_;intro aH p1 P1 a8 Iq;refine DX (cD _ (((hb.mono a6).mono a7).mono a8) _) ?_;intro aD p2 P2 aA aF;refine DX (fF hG n k aD h (Iq.mono aA) aF) ?_;rintro aI r _ _ rfl;cases r<;>exact DY rfl
      .rintro aC ⟨a,_⟩ _ _ rfl;cases a<;>exact DY rfl
     |_=>exact D7
    |_=>first|exact D7|(cases hx<;>exact D7)
   |slice e =>
    cases hv with
    |GL l c=>cases hx<;>first|exact DY rfl|exact D7
    |slice o s l c hb=>cases hx<;>first|exact DY rfl|exact D7
    |Fb _=>cases hx<;>first|exact DY rfl|exact D7
    |_=>first|exact D7|(cases hx<;>exact D7)
   |_=>cases h
def dj:∀(n k:Nat) {t:J} (β:Em),cx P.a k t=I->∀ {v V x X:Z},DZ S β v V->DZ S β x X->Ed P S Ck G β (U n t v x) (U n t V X) (λ_ a A=>a=A)
 |0,_,_,_,_,_,_,_,_,_,_=>Eb (by intro g e;cases e)
 |_+1,0,_,_,h,_,_,_,_,_,_=>by cases h
 |n+1,k+1,t,β,h,v,V,x,X,hv,hx=>by
  by_cases hc:He P.a t=I
  .intro w W m hw ht aI aJ hb;rw[di (P:=P) (λ_=>rfl) hc,di P.underlying hc];exact⟨β,bc,W,[],by simp,rfl,Fin.refl hw⟩
  .unfold cx at h;rw[br.2 hc,bw] at h;unfold U;refine DX (am _) ?_;rintro aA d _ zX ⟨rfl,hd⟩;replace hv:=hv.mono zX;replace hx:=hx.mono zX;rw[hd] at h;cases d with
   |struct fs =>
    simp only[Ba] at h;cases hv with
    |agg h1 h2 =>
     cases hx with
     |agg h3 h4 =>
      rename_i a A b B;have ha:D8 S aA a A:=⟨h1,h2⟩;have hb:D8 S aA b B:=⟨h3,h4⟩;refine DX (R:=λ_ a A=>a=A) ?_ ?_
      .rw[<-Df,<-Df];refine eW _ _ _ λf hf s aB a6=>?_;split
       .refine DX (cD _ (ha.mono a6) _) ?_;intro aG p1 P1 a7 Iq;refine DX (cD _ ((hb.mono a6).mono a7) _) ?_;intro aC p2 P2 a8 aD;refine DX (dj n k aC (h f (by simpa using hf)) (Iq.mono a8) aD) ?_;rintro aH r _ _ rfl;cases r<;>exact DY rfl
       .exact DY rfl
      .rintro aB ⟨a,_⟩ _ _ rfl;cases a<;>exact DY rfl
     |blank _ hX=>cases X<;>first|exact DY rfl|(cases hX;done)
     |_=>exact DY rfl
    |blank _ hV=>cases V<;>first|exact DY rfl|(cases hV;done)|(cases hx<;>exact DY rfl)
    |_=>first|exact DY rfl|(cases hx<;>exact DY rfl)
   |array len e =>
    cases hv with
    |agg h1 h2 =>
     cases hx with
     |agg h3 h4 =>
      rename_i a A b B;have ha:D8 S aA a A:=⟨h1,h2⟩;have hb:D8 S aA b B:=⟨h3,h4⟩;refine DX (aK _) ?_;rintro aL m _ aF rfl;refine DX (R:=λ_ a A=>a=A) ?_ ?_
      .simp only[bb];refine eW _ _ _ λf hf s aB a6=>?_;refine DX (cD _ ((ha.mono aF).mono a6) _) ?_;intro aG p1 P1 a7 Iq;refine DX (cD _ (((hb.mono aF).mono a6).mono a7) _) ?_;intro aC p2 P2 a8 aD;refine DX (dj n k aC h (Iq.mono a8) aD) ?_;rintro aH r _ _ rfl;cases r<;>exact DY rfl
      .rintro aB ⟨a,_⟩ _ _ rfl;cases a<;>exact DY rfl
     |blank _ hX=>cases X<;>first|exact DY rfl|(cases hX;done)
     |_=>exact DY rfl
    |blank _ hV=>cases V<;>first|exact DY rfl|(cases hV;done)|(cases hx<;>exact DY rfl)
    |_=>first|exact DY rfl|(cases hx<;>exact DY rfl)
   |slice e=>exact DY rfl
   |_=>cases h
def nE (n k:Nat){t:J}(h:cx P.a k t=I){v V x X:Z}(hv:DZ S β v V)(hx:DZ S β x X)(hu:v=hole\/x=hole):zO P (j (n+1) t v x):=by
 intro w es;have hr:∀d,P.a.underlying t=bs d->(underlying t).runT P.a w es=(.ok d w,es):=λd e=>by
  unfold underlying;rw[aj];show(match(P.a.underlying t) with|some d=>pure d|none=>stuck _:Sem cr).runT P.a w es=_;rw[e];rfl
 cases k with
 |zero=>cases h
 |succ k =>
  unfold j;rw[aj];unfold cx at h;by_cases hc:He P.a t=I
  .rcases Ic hc with⟨k,e⟩|e|e<;>rw[hr _ e]<;>obtain rfl|rfl:=hu
   .cases hx<;>first|exact .inl ⟨_,_,_,rfl⟩|exact .inr ⟨.addressObserved,_,_,rfl,by intro g e;cases e⟩
   .cases hv<;>first|exact .inl ⟨_,_,_,rfl⟩|exact .inr ⟨.addressObserved,_,_,rfl,by intro g e;cases e⟩
   .cases hx<;>first|exact .inl ⟨_,_,_,rfl⟩|exact .inr ⟨.addressObserved,_,_,rfl,by intro g e;cases e⟩
   .cases hv<;>first|exact .inl ⟨_,_,_,rfl⟩|exact .inr ⟨.addressObserved,_,_,rfl,by intro g e;cases e⟩
   .cases hx<;>first|exact .inl ⟨_,_,_,rfl⟩|exact .inr ⟨.addressObserved,_,_,rfl,by intro g e;cases e⟩
   .cases hv<;>first|exact .inl ⟨_,_,_,rfl⟩|exact .inr ⟨.addressObserved,_,_,rfl,by intro g e;cases e⟩
  .rw[br.2 hc,bw] at h;cases hd:P.a.underlying t with
   |none=>rw[hd] at h;cases h
   |some d =>
    rw[hd] at h;rw[hr _ hd];cases d with
    |struct fs =>
     obtain rfl|rfl:=hu
     .cases hx<;>exact .inl ⟨_,_,_,rfl⟩
     .cases hv<;>exact .inl ⟨_,_,_,rfl⟩
    |array l e =>
     obtain rfl|rfl:=hu
     .cases hx<;>exact .inl ⟨_,_,_,rfl⟩
     .cases hv<;>exact .inl ⟨_,_,_,rfl⟩
    |slice e =>
     obtain rfl|rfl:=hu
     .cases hx<;>exact .inl ⟨_,_,_,rfl⟩
     .cases hv<;>exact .inl ⟨_,_,_,rfl⟩
    |_=>cases h
def pK {op:b5}(ho:op=.eql\/op=.neq){k:Nat}{t:J}(h:cx P.a k t=I){xo yo:ak}{v V x X:Z}(hv:DZ S β v V)(hx:DZ S β x X)(hu:v=hole\/x=hole):zO P (do eqGuard op t xo yo v x;binOp op t v x):=by
 have z1:eqGuard op t xo yo v x=pure ():=by
  unfold eqGuard;rcases ho with rfl|rfl<;>(rw[AD (by simp)];rcases hu with rfl|rfl<;>first|(cases x<;>rfl)|(cases v<;>rfl))
 have z2:(do eqGuard op t xo yo v x;binOp op t v x)=binOp op t v x:=by rw[z1];rfl
 rw[z2];have h1:=binOp_eql (t:=t) (V:=v) (X:=x) (λk a k' b e1 e2=>by subst e1 e2;rcases hu with h|h<;>cases h) (λk a k' b e1 e2=>by subst e1 e2;rcases hu with h|h<;>cases h) (λk a b k' c d e1 e2=>by subst e1 e2;rcases hu with h|h<;>cases h) (λa b e1 e2=>by subst e1 e2;rcases hu with h|h<;>cases h);have hd:zO P (bh t v x):=nE 9999 k h hv hx hu;obtain rfl|rfl:=ho
 .rw[h1.1];exact hd.bind _
 .rw[h1.2];exact hd.bind _
def nF (op:b5){k:Nat}{t:J}(h:cx P.a k t=I)(xo yo:ak){v V x X:Z}(hv:DZ S β v V)(hx:DZ S β x X)(hu:¬(v=hole\/x=hole)):Ed P S Ck G β (eqGuard op t xo yo v x) (eqGuard op t xo yo V X) (λ_ _ _=>True):=by
  have fin:∀(D6:Em),β.le D6->Ed P S Ck G D6 (do if<-U z t v x then N (.noEntry "binop/eql: two nil values of an interface type with methods, in a part of a struct or an array"):Sem Unit) (do if<-U z t V X then N (.noEntry "binop/eql: two nil values of an interface type with methods, in a part of a struct or an array")) (λ_ _ _=>True):=by
    intro D6 zX;refine DX (dj _ k D6 h (hv.mono zX) (hx.mono zX)) ?_;rintro a6 a _ _ rfl;cases a with
    |true=>exact Eb (by intro g e;cases e)
    |false=>exact DY trivial
  have a7:Ed P S Ck G β (do if<-U z t v x then N (.noEntry "binop/eql: two nil values of an interface type with methods, neither of them the literal nil"):Sem Unit) (do if<-U z t V X then N (.noEntry "binop/eql: two nil values of an interface type with methods, neither of them the literal nil")) (λ_ _ _=>True):=by
    refine DX (dj _ k β h hv hx) ?_;rintro a6 a _ _ rfl;cases a with
    |true=>exact Eb (by intro g e;cases e)
    |false=>exact DY trivial
  have key : Ed P S Ck G β (match v, x with
      |.nilIface,.nilIface=>do
        if(xo matches .const _)||(yo matches .const _) then return
        if<-U z t v x then N (.noEntry "binop/eql: two nil values of an interface type with methods, neither of them the literal nil")
      |.agg _,.agg _=>do
        if !(<-program).eqGuardType (<-program).depth t then return
        if<-U z t v x then N (.noEntry "binop/eql: two nil values of an interface type with methods, in a part of a struct or an array")
      |_,_=>(pure ():Sem Unit)) (match V,X with
      |.nilIface,.nilIface=>do
        if(xo matches .const _)||(yo matches .const _) then return
        if<-U z t V X then N (.noEntry "binop/eql: two nil values of an interface type with methods, neither of them the literal nil")
      |.agg _,.agg _=>do
        if !(<-program).eqGuardType (<-program).depth t then return
        if<-U z t V X then N (.noEntry "binop/eql: two nil values of an interface type with methods, in a part of a struct or an array")
      |_,_=>(pure ():Sem Unit)) (λ_ _ _=>True):=by
    cases hv with
    |nilIface=>cases hx with
      |nilIface=>cases xo<;>cases yo<;>first|exact DY trivial|exact a7
      |blank _ _=>exact AI (.inr rfl) hu
      |_=>exact DY trivial
    |agg h1 h2=>cases hx with
      |agg h3 h4 =>
        dsimp only;refine DX aT ?_;rintro a6 p p' a8 ⟨hp,aB⟩;subst p p';refine DX aT ?_;rintro aC p p' aA ⟨hp,aB⟩;subst p p';rw[show P.b.depth=P.a.depth from rfl,ED.eqGuardType];by_cases hb:(!P.a.eqGuardType P.a.depth t)=I
        · simp only[AF hb]
          exact DY trivial
        · simp only[AD hb]
          exact fin aC (Em.le_trans a8 aA)
      |blank _ _=>exact AI (.inr rfl) hu
      |_=>exact DY trivial
    |blank _ _=>exact AI (.inl rfl) hu
    |_=>first|exact DY trivial|(cases hx<;>exact DY trivial)
  unfold eqGuard;cases op<;>first
    |exact DY trivial
    | (rw [AD (by simp)]
       exact key)
def rq (hG:P.a.globals.size<=G){op:b5}(ho:op=.eql\/op=.neq){k:Nat}{t:J}(h:cx P.a k t=I){v V x X:Z}(hv:DZ S β v V)(hx:DZ S β x X)(hu:¬(v=hole\/x=hole)):Ed P S Ck G β (binOp op t v x) (binOp op t V X) (λD6 a A=>DZ S D6 a A):=by
 by_cases hi:∃k a k' b,v=.int k a/\x=.int k' b
 .obtain⟨k1,a,k2,b,rfl,rfl⟩:=hi;cases hv;cases hx;exact IX op t _ _ _ _
 .by_cases hs:∃a b,v=.string a/\x=.string b
  .obtain⟨a,b,rfl,rfl⟩:=hs;cases hv;cases hx;have e:∀x y,binOp op t (.string x) (.string y)=bq op x y:=λx y=>by cases op<;>rfl
   rw[e];exact fE _ _ _
  .have h1:=binOp_eql (t:=t) (V:=v) (X:=x) (λk a k' b e1 e2=>hi ⟨k,a,k',b,e1,e2⟩) (λk a k' b e1 e2=>by subst e1;cases hv) (λk a b k' c d e1 e2=>by subst e1;cases hv) (λa b e1 e2=>hs ⟨a,b,e1,e2⟩);have h2:=binOp_eql (t:=t) (V:=V) (X:=X) (λk a k' b e1 e2=>by subst e1 e2;cases hv<;>first|exact hu (.inl rfl)|(cases hx<;>first|exact hu (.inr rfl)|exact hi ⟨_,_,_,_,rfl,rfl⟩)) (λk a k' b e1 e2=>by subst e1;cases hv;exact hu (.inl rfl)) (λk a b k' c d e1 e2=>by subst e1;cases hv;exact hu (.inl rfl)) (λa b e1 e2=>by subst e1 e2;cases hv<;>first|exact hu (.inl rfl)|(cases hx<;>first|exact hu (.inr rfl)|exact hs ⟨_,_,rfl,rfl⟩))
   obtain rfl|rfl:=ho
   .rw[h1.1,h2.1];exact DX (fF hG _ k β h hv hx) (by rintro a6 b _ _ rfl;exact DY (.bool _))
   .rw[h1.2,h2.2];exact DX (fF hG _ k β h hv hx) (by rintro a6 b _ _ rfl;exact DY (.bool _))
end
def oL (w:World):w.sys .env=(.strings w.os.env,w):=by
 unfold World.sys;have:Kernel.perform .env w.os=.done (.strings w.os.env,w.os):=by
  unfold Kernel.perform
  rfl
 rw[this]
 rfl
section
variable {P:ED} {S:Fy} {Ck:cq->Prop} {G:Nat} {β:Em}
def xR:Ed P S Ck G β (sys .env) (sys .env) (λ_ a A=>a=A/\∃l,a=.strings l):=by
 intro w W n hw ht a6 a7 _;have e1:(sys .env).runT P.a w a6=(.ok (.strings w.os.env) w,a6.push ⟨.output,I,bc⟩):=by
  show(Sem.sys .env .pure).runT P.a w a6=_;simp only[Sem.runT,oL]
 have e2:(sys .env).runT P.b W a7=(.ok (.strings W.os.env) W,a7.push ⟨.output,I,bc⟩):=by
  show(Sem.sys .env .pure).runT P.b W a7=_;simp only[Sem.runT,oL]
 rw[e1,e2];exact⟨β,.strings W.os.env,W,[⟨.output,I,bc⟩],by simp,⟨by rw[hw.env],_,rfl⟩,{ Fin.refl hw with evs:=λ_ E hE=>by cases BS.1 hE;exact .out }⟩
def nG {α Hd:Type}{R:Em->α->Hd->Prop}:Ed P S Ck G β (bA .panicNil:Sem α) (bA .panicNil:Sem Hd) R:=by
 refine DX aT ?_;rintro a6 p p' _ ⟨rfl,rfl⟩;dsimp only;refine DX (R:=λ_ a A=>a=A) ?_ ?_
 .show Ed P S Ck G a6 (elemOf P.a.rt.panicNilError) (elemOf P.a.rt.panicNilError) _;unfold elemOf;refine DX (am _) ?_;rintro a7 d _ _ ⟨rfl,_⟩;cases d with
  |pointer e=>exact DY rfl
  |_=>exact D7
 .rintro a7 e _ _ rfl;refine DX (gW e (.agg rfl (by simp))) ?_;rintro a8 ⟨b,o,s⟩ ⟨B,o',s'⟩ _ ⟨h1,h2,h3⟩;cases h2;cases h3;exact dq (.iface _ (.ptr _ _ h1))
def pL {v V:Z}(hv:DZ S β v V):Ed P S Ck G β (b6 v) (b6 V) (λD6 a A=>DZ S D6 a A):=by
 cases hv with
 |iface t r=>exact dq (.iface t r)
 |nilIface =>
  unfold b6 Instr.panicnil;refine DX (R:=λ_ a A=>a=A) ?_ ?_
  .refine DX xR ?_;rintro a6 a _ _ ⟨rfl,l,rfl⟩;dsimp only;refine DX aT ?_;rintro a7 p p' _ ⟨rfl,rfl⟩;exact DY rfl
  .rintro a6 a _ _ rfl;split
   .exact dq .nilIface
   .exact nG
 |_=>exact D7
end
structure Ka (P:ED)(S:Fy)(Ck:cq->Prop)(G:Nat):Prop where
 big:P.a.info? big=cF
 call:∀f,S.fn f->∀(β:Em) (a A:Array Z),D8 S β a A->Ed P S Ck G β (b7 f a) (b7 f A) (H4 S Ck)
section
variable {P:ED} {S:Fy} {Ck:cq->Prop} {G:Nat} {β:Em}
def bT {f:bn} {fn:Func} (hf:P.a.funcs[f]?=bs fn) {GY:Func} (hf':P.fs[f]?=bs GY) (hn:fn.name ≠ "runtime.NumGoroutine") (a6:GY.name ≠ "runtime.NumGoroutine") (hb:fn.body.isSome) (hb':GY.body.isSome) (hS:S.fn f) {a A:Array Z} (h:D8 S β a A) :
  Ed P S Ck G β (b7 f a) (b7 f A) (H4 S Ck):=by
 refine DX aT ?_;rintro a7 p p' zX ⟨hp,a8⟩;subst p p';rw[hf,show P.b.funcs[f]?=bs GY from hf'];have h1:fn.body.isNone=false:=by cases hx:fn.body with
  |none=>rw[hx] at hb;cases hb
  |some _=>rfl
 have h2:GY.body.isNone=false:=by cases hx:GY.body with
  |none=>rw[hx] at hb';cases hb'
  |some _=>rfl
 simp only[beq_iff_eq,hn,a6,if_false,h1,h2,AZ];exact DY (.enter hS (h.mono zX))
def ru:∀ {l:List Tmp} {m M:List Z} {x X:Array Z},E5 (DZ S β) m M->D8 S β x X ->
  D8 S β ((l.zip m).foldl (λtmps (p:Tmp×Z)=>tmps.setIfInBounds p.1 p.2) x) ((l.zip M).foldl (λtmps (p:Tmp×Z)=>tmps.setIfInBounds p.1 p.2) X)
 |[],_,_,_,_,_,hx=>by simpa using hx
 |t::l,_,_,_,_,h,hx=>by
  cases h with
  |nil=>simpa using hx
  |cons hv hr =>
   simp only[List.zip_cons_cons,B7];exact ru hr (hx.set _ hv)
def dF {l L:Nat}(h:β l L)(hh:S.hid l=bc):Ed P S Ck G β (b8 l) (b8 L) (λD6 r R=>r.state=R.state/\r.pending=R.pending/\(S.fr r.fn/\∀c,r.pending=bs c->Ck c)/\r.fn=R.fn/\D8 S D6 r.tmps R.tmps/\r.params=R.params/\r.assign=R.assign/\r.body=R.body/\Ck r.assign/\Ck r.body/\D6 r.defers R.defers/\S.hid r.defers=bc):=by
 refine DX (fB h hh) ?_;intro a6 o O _ ho;cases ho with
 |loop hp ha hb hx hd hk=>exact DY ⟨rfl,rfl,hp,rfl,hx,rfl,rfl,rfl,ha,hb,hd,hk⟩
 |_=>exact λ_ _ _ _ _ _ _ _=>trivial
def tM {l L:Nat}(h:β l L)(hh:S.hid l=bc){a A:Array Z}(ha:D8 S β a A):Ed P S Ck G β (cw l a) (cw L A) (H4 S Ck):=by
 refine DX (dF h hh) ?_;rintro a6 ⟨st,pe,fn,x,ps,Aw,bo,d⟩ ⟨I8,pe',GY,X,ps',as',bo',D⟩ zX ⟨h1,h2,h3,h4,h5,h6,h7,h8,h9,h10,h11,a7⟩;cases h1;cases h2;cases h4;cases h6;cases h7;cases h8;dsimp only at *;rw[ha.size];split
 .exact λ_ _ _ _ _ _ _ _=>trivial
 .refine DY (.round (zX _ _ h) ⟨hh,h3.1⟩ ?_ h9 h10);have:=ru (l:=ps.toList) (ha.mono zX).toList h5;rw[<-De,<-De];simpa using this
def kV (P:bl)(ts:Array J)(b:Builtin):Prop:=match b with
 |.append=>(∀e s,ts[0]?=bs s->P.underlying s=bs (.slice e)->bX P e=I)/\(∀x k,ts[1]?=bs x->P.underlying x≠bs (.int k))
 |.len|.cap=>∀t e d,ts[0]?=bs t->P.underlying t≠bs (.chan e d)
 |.min|.max=>True
 |_=>False
def pM (b:Builtin)(ts:Array J)(t:J)(cs:Array Bool)
  (hb:kV P.a ts b) {a A:Array Z} (h:D8 S β a A):Ed P S Ck G β (builtin b ts t cs a) (builtin b ts t cs A) (H4 S Ck):=by
 have v:∀ {m M:Sem Z},Ed P S Ck G β m M (λD6 a A=>DZ S D6 a A)->Ed P S Ck G β (do pure (.value (<-m)):Sem Next) (do pure (.value (<-M))) (H4 S Ck):=by
  intro m M hm;refine DX hm ?_;intro a6 x X _ hx;exact DY (.value hx)
 cases b with
 |append=>exact v (rj ts t hb.1 hb.2 h)
 |len=>exact v (xM ts t hb h)
 |cap=>exact v (xN ts t hb h)
 |min=>exact v (xP ts t h)
 |max=>exact v (xQ ts t h)
 |_=>exact hb.elim
def kW (hb:P.a.info? big=cF):zO P (typeInfo big):=λw es=>by
 have e2:program.runT P.a w es=(.ok P.a w,es):=rfl;refine .inl ⟨?_,w,es,?_⟩
 rotate_left
 .unfold typeInfo;rw[aj,e2];dsimp only;rw[hb]
  rfl
def zO.prog {γ:Type}{k:bl->Sem γ}(h:zO P (k P.a)):zO P (program >>= k):=λw es=>by
 rw[aj];exact h w es
def nH (hb:P.a.info? big=cF)(n:Nat)(v:Z)(s:String):zO P (method n big v s):=by
 cases n with
 |zero=>exact λw es=>.inr ⟨_,_,_,rfl,by intro g e;cases e⟩
 |succ n=>exact(kW hb).bind _
def lI (hb:P.a.info? big=cF)(n:Nat)(v:Z)(s:String){γ:Type}(k:Option Bool->Sem γ)(hk:∃u,k cF=N u/\∀g,u≠.initOrder g):zO P (cE n big v s >>= k):=by
 cases n with
 |zero =>
  obtain⟨u,h1,h2⟩:=hk;intro w es;rw[aj];have e:(cE 0 big v s).runT P.a w es=(.ok cF w,es):=rfl;rw[e];dsimp only;rw[h1];exact .inr ⟨u,w,es,rfl,h2⟩
 |succ n=>exact((kW hb).bind _).bind k
def iY (hb:P.a.info? big=cF)(a:Array Z):zO P (invoke (hd a).target (hd a).args):=by
 unfold hd invoke;have e:(#[Value.iface big undef]++a)[0]?=bs (.iface big undef):=by rw[C5 (by decide)];rfl
 dsimp only;rw[e];unfold callMethod;dsimp only;exact zO.prog ((nH hb _ _ _).bind _)
def ig (hS:Ka P S Ck G){d D:cu}(h:FH S β d D):Ed P S Ck G β (invoke d.target d.args) (invoke D.target D.args) (H4 S Ck):=by
 cases h with
 |fn hf hc ha=>cases hf with
  |func hs=>exact hS.call _ hs β _ _ (ha.append hc)
  |yield hl hk=>exact tM hl hk ha
 |nil ha=>exact az .nilDeref trivial
 |collected h _=>exact D7
 |ET a A h1 h2 h3=>subst h2;exact Gg (iY hS.big a)
def gp {f F:Z}(hf:DZ S β f F){a A:Array Z}(ha:D8 S β a A):Ed P S Ck G β (Deferred.ofValue f a) (Deferred.ofValue F A) (λD6 d D=>FH S D6 d D):=by
 cases hf with
 |func hf h1 a1 h2 a2=>exact DY (.fn hf ⟨h2,a2⟩ (D8.append ⟨h1,a1⟩ ha))
 |nilFunc=>exact DY (.nil ha)
 |@ET n x c h=>exact DY (.ET a A ha rfl (h.imp (λh=>by cases h;rfl) λh=>⟨h,n,c,x,rfl⟩))
 |_=>exact D7
def ai (SB:bn->Bool):ak->Bool
 |.tmp _=>I
 |.const v=>plain 8 v
 |.global _=>bc
 |.func f=>SB f
def MS (SB:bn->Bool):Option ak->Bool
 |some x=>ai SB x
 |none=>I
def bJ (P:bl)(SB:bn->Bool)(c:Call):Bool:=c.args.all (ai SB)&&match c.callee with
 |.value f=>ai SB f
 |.invoke ..=>bc
 |.builtin .append =>
  (match c.argTypes[0]? with
   |some s=>match P.underlying s with
    |some (.slice e)=>bX P e
    |_=>I
   |none=>I) &&
  (match c.argTypes[1]? with
   |some x=>match P.underlying x with
    |some (.int _)=>bc
    |_=>I
   |none=>I)
 |.builtin b=>b==.min||b==.max||((b==.len||b==.cap)&&match c.argTypes[0]? with
  |some t=>match P.underlying t with
   |some (.chan _ _)=>bc
   |_=>I
  |none=>I)
def isEq:b5->Bool
 |.eql|.neq=>I
 |_=>bc
def fG (P:bl)(t:J):Bool:=match P.underlying t with
 |some (.slice e)=>bX P e
 |_=>I
def Nh (P:bl)(SB:bn->Bool)(o:Oper):Bool:=match o.op with
 |.move x|.assign x=>ai SB x
 |.pick c a b=>ai SB c&&ai SB a&&ai SB b
 |.alloc t=>bX P t
 |.box _ x=>ai SB x
 |.build t ps=>bX P t&&ps.all (λp=>ai SB p.2)
 |.buildSlice t _ ps=>fG P t&&ps.all (λp=>ai SB p.2)
 |.load _ a=>ai SB a
 |.store _ a v=>ai SB a&&ai SB v
 |.nilCheck x=>ai SB x&&(P.info? big).isNone
 |.binOp op t x y _=>(He P t||(isEq op&&cx P 12 t))&&ai SB x&&ai SB y
 |.makeInterface _ x|.panic x=>ai SB x
 |.unOp _ _ x=>ai SB x
 |.convert s d x=>ic P s d&&ai SB x
 |.makeFunc fn fs cs=>(match fn with|.func f=>SB f|_=>bc)&&fs.all (ai SB)&&cs.all (ai SB)
 |.makeSlice t l c=>fG P t&&ai SB l&&ai SB c
 |.slice _ x l h m=>ai SB x&&MS SB l&&MS SB h&&MS SB m
 |.fieldAddr s x i=>kz P s i&&ai SB x
 |.field _ x _=>ai SB x
 |.indexAddr _ x i=>ai SB x&&ai SB i
 |.index _ x i=>ai SB x&&ai SB i
 |.extract x _=>ai SB x
 |.call c|.defer c=>bJ P SB c
 |_=>bc
end
section
variable {P:ED} {SB:bn->Bool} {H:Hid} {Ck:cq->Prop} {G:Nat} {β:Em}
def aP (SB:bn->Bool)(f:bn):Bool:=f==90&&(SB 89&&!SB 90)
abbrev SP (SB:bn->Bool)(H:Hid):Fy:=⟨λf=>SB f=I\/aP SB f=I,H,λf=>SB f=I⟩
def dG {ρ Ρ:ak->Z}(a6:∀x,ai SB x=I->DZ (SP SB H) β (ρ x) (Ρ x)){l:Array ak}(h:l.all (ai SB)=I):D8 (SP SB H) β (l.map ρ) (l.map Ρ):=by
 simp only[Ba] at h;exact D8.map l λx hx=>a6 x (h x hx)
def kX {ρ Ρ:ak->Z}(a6:∀x,ai SB x=I->DZ (SP SB H) β (ρ x) (Ρ x)){ps:Array (Nat×ak)}(h:ps.all (λp=>ai SB p.2)=I) :
  F0 (SP SB H) β (ps.map λ(i,x)=>(i,ρ x)).toList (ps.map λ(i,x)=>(i,Ρ x)).toList:=by
 simp only[Ba] at h;rw[Array.toList_map,Array.toList_map];have:∀l:List (Nat×ak),(∀p∈l,ai SB p.2=I)->F0 (SP SB H) β (l.map λ(i,x)=>(i,ρ x)) (l.map λ(i,x)=>(i,Ρ x)):=by
  intro l
  induction l with
  |nil=>intro _;exact .nil
  |cons p l ih=>intro hl;exact .cons (a6 _ (hl p (by simp))) (ih λq hq=>hl q (by simp[hq]))
 exact this _ λp hp=>h p (by simpa using hp)
def kC {ρ Ρ:ak->Z}(a6:∀x,ai SB x=I->DZ (SP SB H) β (ρ x) (Ρ x)){o:Option ak}(h:MS SB o=I):GI (SP SB H) β (o.map ρ) (o.map Ρ):=by
 cases o with
 |none=>exact .none
 |some x=>exact .some (a6 x h)
def ii {t:J}(h:fG P.a t=I):∀e,P.a.underlying t=bs (.slice e)->bX P.a e=true:=by
 intro e he;unfold fG at h;rw[he] at h;exact h
def pN {c:Call}(h:bJ P.a SB c=I){b:Builtin}(hc:c.callee=.builtin b):kV P.a c.argTypes b:=by
 unfold bJ at h;rw[hc] at h;simp only[AN] at h;obtain⟨_,h⟩:=h;cases b with
 |append =>
  simp only[AN] at h;obtain⟨h1,h2⟩:=h;refine⟨λe s he hs=>?_,λx k hx hk=>?_⟩
  .rw[he] at h1;simp only[hs] at h1;exact h1
  .rw[hx] at h2;simp only[hk] at h2;exact AI h2 (by decide)
 |len|cap =>
  intro t e d ht hd;rw[ht] at h;simp only[hd] at h;exact AI h (by decide)
 |min|max=>trivial
 |_=>exfalso;revert h;cases c.argTypes[0]?<;>simp<;>intro h<;>revert h<;>decide
def jn (hS:Ka P (SP SB H) Ck G){ρ Ρ:ak->Z}(a6:∀x,ai SB x=I->DZ (SP SB H) β (ρ x) (Ρ x)){c:Call}(t:J)(h:bJ P.a SB c=I) :
  Ed P (SP SB H) Ck G β (do let d<-resolve ρ c t;invoke d.target d.args) (do let d<-resolve Ρ c t;invoke d.target d.args) (H4 (SP SB H) Ck):=by
 have ha:D8 (SP SB H) β (c.args.map ρ) (c.args.map Ρ):=dG a6 (by unfold bJ at h;simp only[AN] at h;exact h.1);unfold resolve;cases hc:c.callee with
 |value f =>
  have hf:ai SB f=true:=by unfold bJ at h;rw[hc] at h;simp only[AN] at h;exact h.2
  dsimp only;refine DX (gp (a6 f hf) ha) ?_;intro a7 d D _ hd;exact ig hS hd
 |invoke r m=>unfold bJ at h;rw[hc] at h;simp at h
 |builtin b =>
  have hb:=pN h hc;dsimp only;refine DX (R:=λD6 (d D:cu)=>β.le D6/\d=⟨.builtin b c.argTypes t (c.args.map λ|.const _=>I|_=>bc),c.args.map ρ⟩/\D=⟨.builtin b c.argTypes t (c.args.map λ|.const _=>I|_=>bc),c.args.map Ρ⟩) (DY ⟨β.le_refl,rfl,rfl⟩) ?_;rintro a7 d D zX ⟨_,rfl,rfl⟩;exact pM b _ _ _ hb (ha.mono zX)
def pO {ρ Ρ:ak->Z}(a6:∀x,ai SB x=I->DZ (SP SB H) β (ρ x) (Ρ x)){c:Call}(t:J)(h:bJ P.a SB c=I)(hb:∀b,c.callee≠.builtin b) :
  Ed P (SP SB H) Ck G β (resolve ρ c t) (resolve Ρ c t) (λD6 d D=>FH (SP SB H) D6 d D):=by
 have ha:D8 (SP SB H) β (c.args.map ρ) (c.args.map Ρ):=dG a6 (by unfold bJ at h;simp only[AN] at h;exact h.1);unfold resolve;cases hc:c.callee with
 |value f =>
  have hf:ai SB f=true:=by unfold bJ at h;rw[hc] at h;simp only[AN] at h;exact h.2
  exact gp (a6 f hf) ha
 |invoke r m=>unfold bJ at h;rw[hc] at h;simp at h
 |builtin b=>exact AI hc (hb b)
def dH (P:bl)(SB:bn->Bool)(o:Oper):Bool:=Nh P SB o&&match o.op with
 |.defer c=>match c.callee with
  |.builtin _=>bc
  |_=>I
 |_=>I
def rv (hG:P.a.globals.size<=G)(hS:Ka P (SP SB H) Ck G){ρ Ρ:ak->Z}(a6:∀x,ai SB x=I->DZ (SP SB H) β (ρ x) (Ρ x)){o:Oper}(h:dH P.a SB o=I) :
  Ed P (SP SB H) Ck G β (execOp ρ o) (execOp Ρ o) (H4 (SP SB H) Ck):=by
 have v:∀ {m M:Sem Z},Ed P (SP SB H) Ck G β m M (λD6 a A=>DZ (SP SB H) D6 a A)->Ed P (SP SB H) Ck G β (do pure (.value (<-m)):Sem Next) (do pure (.value (<-M))) (H4 (SP SB H) Ck):=by
  intro m M hm;refine DX hm ?_;intro a7 x X _ hx;exact DY (.value hx)
 have u:∀ {m M:Sem Unit},Ed P (SP SB H) Ck G β m M (λ_ _ _=>True)->Ed P (SP SB H) Ck G β (do m;pure .skip:Sem Next) (do M;pure .skip) (H4 (SP SB H) Ck):=by
  intro m M hm;refine DX hm ?_;intro a7 x X _ _;exact DY .skip
 unfold dH Nh at h;unfold execOp;cases ho:o.op with
 |move x=>rw[ho] at h;simp at h;exact DY (.value (a6 x h))
 |assign x=>rw[ho] at h;simp at h;exact DY (.value (a6 x h))
 |pick c a b =>
  rw[ho] at h;simp at h;refine DX (gS (a6 c h.1.1)) ?_;rintro a7 t _ zX rfl;refine DY (.value ?_);split
  .exact(a6 a h.1.2).mono zX
  .exact(a6 b h.2).mono zX
 |alloc t=>rw[ho] at h;simp at h;exact v (tJ t h)
 |box t x=>rw[ho] at h;simp at h;exact v (xO t (a6 x h))
 |build t ps=>rw[ho] at h;simp only[AN,and_true] at h;exact v (tH t h.1 (kX a6 h.2))
 |buildSlice t n ps=>rw[ho] at h;simp only[AN,and_true] at h;exact v (lH t n (ii h.1) (kX a6 h.2))
 |load t a=>rw[ho] at h;simp at h;exact v (rm t (a6 a h))
 |store t a x=>rw[ho] at h;simp at h;exact u (pG t (a6 a h.1) (a6 x h.2))
 |nilCheck x =>
  rw[ho] at h;simp at h;have hx:=a6 x h.1;dsimp only;revert hx;generalize ρ x=v;generalize Ρ x=V;intro hx;cases hx with
  |Hc=>exact az .nilDeref trivial
  |nilIface=>exact az .nilDeref trivial
  |nilFunc=>exact az .nilDeref trivial
  |func hf h1 a1 h2 a2=>cases hf with
   |func hs=>exact DY (.value (.func (.func hs) h1 a1 h2 a2))
   |yield hl hk=>exact DY (.value (.func (.yield hl hk) h1 a1 h2 a2))
  |bool b=>exact DY (.value (.bool b))
  |int k n=>exact DY (.value (.int k n))
  |string s=>exact DY (.value (.string s))
  |ptr o s hb=>exact DY (.value (.ptr o s hb))
  |GL l c=>exact DY (.value (.GL l c))
  |slice o s l c hb=>exact DY (.value (.slice o s l c hb))
  |Fb h1=>exact DY (.value (.Fb h1))
  |GX=>exact DY (.value .GX)
  |Gq=>exact DY (.value .Gq)
  |iface t r=>exact DY (.value (.iface t r))
  |agg h1 a1=>exact DY (.value (.agg h1 a1))
  |tuple h1 a1=>exact DY (.value (.tuple h1 a1))
  |blank h1 h2 =>
   cases V with
   |pointer a=>cases a with
    |none=>cases h2
    |some a=>exact DY (.value (.blank h1 h2))
   |func f x c=>cases f with
    |method n=>cases h2
    |_=>exact DY (.value (.blank h1 h2))
   |nilIface=>cases h2
   |nilFunc=>cases h2
   |_=>exact DY (.value (.blank h1 h2))
  |ET h1 =>
   refine Gg ?_;show zO P (program >>= λp=>cE (p.types.size+Made.depth) big undef "" >>= λr=>_);exact zO.prog (lI h.2 _ _ _ _ ⟨_,rfl,by intro g e;cases e⟩)
 |binOp op t x y t' =>
  rw[ho] at h;simp at h;obtain hc|⟨he,hf⟩:=h.1.1
  .refine v (DX (pI op hc x y _ _ _ _) ?_);intro a7 _ _ zX _;exact tK hG op hc ((a6 x h.1.2).mono zX) ((a6 y h.2).mono zX)
  .have hop:op=.eql\/op=.neq:=by cases op<;>first|exact .inl rfl|exact .inr rfl|cases he
   by_cases hu:ρ x=hole\/ρ y=hole
   .exact v (Gg (pK hop hf (a6 x h.1.2) (a6 y h.2) hu))
   refine v (DX (nF op hf x y (a6 x h.1.2) (a6 y h.2) hu) ?_);intro a7 _ _ zX _;exact rq hG hop hf ((a6 x h.1.2).mono zX) ((a6 y h.2).mono zX) hu
 |panic x=>rw[ho] at h;simp at h;exact v (pL (a6 x h))
 |makeInterface t x =>
  rw[ho] at h;simp at h;refine v (DX (am _) ?_);rintro a7 d _ zX ⟨rfl,_⟩;cases d with
  |interface _=>exact D7
  |_=>exact DY (.iface _ ((a6 x h).mono zX))
 |unOp op t x=>rw[ho] at h;simp at h;exact v (tL op (a6 x h))
 |convert s d x=>rw[ho] at h;simp at h;exact v (pJ h.1 (a6 x h.2))
 |makeFunc fn fs cs =>
  rw[ho] at h;simp only[AN,and_true] at h;obtain⟨⟨h1,h2⟩,h3⟩:=h;cases fn with
  |func f =>
   have a1:=dG (β:=β) a6 h2;have a2:=dG (β:=β) a6 h3;exact v (DY (.func (.func (.inl h1)) a1.size a1.at_ a2.size a2.at_))
  |_=>simp at h1
 |makeSlice t l c=>rw[ho] at h;simp at h;exact v (l6 t (ii h.1.1) (a6 l h.1.2) (a6 c h.2))
 |slice t x l hi mx=>rw[ho] at h;simp at h;exact v (pE t (a6 x h.1.1.1) (kC a6 h.1.1.2) (kC a6 h.1.2) (kC a6 h.2))
 |fieldAddr s x i=>rw[ho] at h;simp at h;exact v (pC s (a6 x h.2) i h.1)
 |field t x i=>rw[ho] at h;simp at h;exact v (tF t (a6 x h) i)
 |indexAddr t x i=>rw[ho] at h;simp at h;exact v (pD t (a6 x h.1) (a6 i h.2))
 |index t x i=>rw[ho] at h;simp at h;exact v (tG t (a6 x h.1) (a6 i h.2))
 |extract x i=>rw[ho] at h;simp at h;exact v (pF (a6 x h) i)
 |call c=>rw[ho] at h;simp at h;exact jn hS a6 _ h
 |defer c =>
  rw[ho] at h;simp only[AN] at h;refine DX (pO a6 _ h.1 (λb e=>by rw[e] at h;simp at h)) ?_;intro a7 d D _ hd;exact DY (.defer hd)
 |_=>rw[ho] at h;simp at h
end
end Go.Eu
