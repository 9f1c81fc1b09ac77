/- Parts of the proof. -/
import Derived.Test.YtghipmneleifpaaGreatP01
import Derived.Test.YtghipmneleifpaaGreatP00
set_option linter.all false
set_option maxHeartbeats 4000000
open Go renaming Value->a6,TypeId->a7,unsupported->bc,Operand->bl,behindNumber->bs,Program->bw,FuncId->bA,runtimePanic->b7,BinOp->cf,callFunc->cr,Code->cK,TypeDesc->cU,Deferred->c0,nilAhead->dn
open Go.Op renaming eqGuardIn->a8,maxDepth->bh,equalIn->bk,equal->br,stringOp->bD,twoPlaces->cw
open Bool renaming true->bb,false->bq,eq_false_iff->bW,false_or->b6
open Std.Legacy.Range renaming forIn_eq_forIn_range'->bn
open Option renaming some->b5,none->dr
open Go.Builtin renaming min_->b8,max_->b9,min2->cE,max2->cF
open Go.Instr renaming panic->cq,getLoop->cu,yield->df
namespace Go.Ct
section
variable {P:CL} {S:DT} {Ck:cK->Prop} {G:Nat} {β:Cm}
def GA {t:a7}(h:FL P.a t=bb):(∃k,P.a.underlying t=b5 (.int k))\/P.a.underlying t=b5 .bool\/P.a.underlying t=b5 .string:=by
 unfold FL at h;cases hd:P.a.underlying t with
 |none=>rw[hd] at h;cases h
 |some d =>
  rw[hd] at h;cases d with
  |int k=>exact .inl ⟨k,rfl⟩
  |bool=>exact .inr (.inl rfl)
  |string=>exact .inr (.inr rfl)
  |_=>cases h
def kW (hG:P.a.globals.size<=G)(m:Nat){t:a7}(h:FL P.a t=bb){v V x X:a6}(hv:B6 S β v V)(hx:B6 S β x X):Cf P S Ck G β (bk (m+1) t v x) (bk (m+1) t V X) (λ_ a A=>a=A):=by
 unfold bk;refine B4 (ak _) ?_;rintro DJ d _ hle ⟨rfl,hd⟩;replace hv:=hv.mono hle;replace hx:=hx.mono hle;rcases GA h with⟨k,e⟩|e|e
 .rw[e] at hd;cases hd;cases hv with
  |int k a=>cases hx with
   |int k' b =>
    dsimp only;split
    .exact B5 rfl
    .exact B9
   |ptr o s hb =>
    by_cases h0:a=0
    .subst h0;exact B5 rfl
    .refine F5 λw es=>⟨.addressObserved,w,es,?_,by intro g e;cases e⟩;cases a with
     |ofNat n=>cases n with
      |zero=>exact absurd rfl h0
      |succ n=>rfl
     |negSucc n=>rfl
   |FJ=>exact F5 λw es=>⟨.addressObserved,w,es,rfl,by intro g e;cases e⟩
   |_=>exact B9
  |ptr o s hb=>cases hx with
   |int k' b =>
    by_cases h0:b=0
    .subst h0;exact B5 rfl
    .refine F5 λw es=>⟨.addressObserved,w,es,?_,by intro g e;cases e⟩;cases b with
     |ofNat n=>cases n with
      |zero=>exact absurd rfl h0
      |succ n=>rfl
     |negSucc n=>rfl
   |ptr o' s' hb' =>
    have h1:C9 DJ ⟨_,o,s⟩ ⟨_,o,s⟩:=C9.mk hb rfl rfl;have h2:C9 DJ ⟨_,o',s'⟩ ⟨_,o',s'⟩:=C9.mk hb' rfl rfl;refine B4 (dm h1) ?_;rintro Dq ⟨p,_⟩ ⟨p',_⟩ C0 ⟨hp,_⟩;refine B4 (dm (h2.mono C0)) ?_;rintro Eu ⟨q,_⟩ ⟨q',_⟩ C4 ⟨hq,_⟩;intro w W n hw ht Dt DD Le;have hp:=hp.mono C4;have l1:G<=p.block/\G<=p'.block:=(hw.DG.lo hp.block);have l2:G<=q.block/\G<=q'.block:=(hw.DG.lo hq.block)
    clear C4;have e1:(p==q)=(p'==q'):=by
     obtain⟨b,o,s⟩:=p;obtain⟨B,O,t'⟩:=p';obtain⟨b',o',s'⟩:=q;obtain⟨B',O',t''⟩:=q';obtain⟨a1,a2,a3⟩:=hp;obtain⟨b1,b2,b3⟩:=hq;cases a2;cases a3;cases b2;cases b3;rw[Bool.eq_iff_iff];simp only[beq_iff_eq,Addr.mk.injEq];constructor
     .rintro⟨rfl,r⟩;exact⟨hw.DG.fn a1 b1,r⟩
     .rintro⟨rfl,r⟩;exact⟨hw.DG.inj a1 b1,r⟩
    refine(?_:Cf P S Ck G Eu _ _ _) w W n hw ht Dt DD Le;clear Le Dt DD ht n;refine B4 aR ?_;rintro Ka pr pr' Gi ⟨hpr,hpr'⟩;subst pr pr';have n1:¬(p.block==q.block&&decide (p.block<P.a.globals.size))=true:=by simp only[yY,beq_iff_eq,decide_eq_true_eq];omega
    have n2:¬(p'.block==q'.block&&decide (p'.block<P.b.globals.size))=true:=by rw[show P.b.globals=P.a.globals from rfl];simp only[yY,beq_iff_eq,decide_eq_true_eq];omega
    simp only[if_neg n1,if_neg n2];refine B4 (bi _) ?_;rintro La i _ Gj ⟨rfl,_⟩;split
    .rw[e1];split
     .exact B5 rfl
     .exact Cb (by intro g e;cases e)
    .exact Cb (by intro g e;cases e)
   |_=>exact F5 λw es=>⟨.addressObserved,w,es,rfl,by intro g e;cases e⟩
  |FJ=>cases hx<;>exact F5 λw es=>⟨.addressObserved,w,es,rfl,by intro g e;cases e⟩
  |_=>cases hx<;>first|exact B9|exact F5 λw es=>⟨.addressObserved,w,es,rfl,by intro g e;cases e⟩
 .rw[e] at hd;cases hd;cases hv with
  |bool a=>cases hx with
   |bool b=>exact B5 rfl
   |_=>exact B9
  |_=>exact B9
 .rw[e] at hd;cases hd;cases hv with
  |string a=>cases hx with
   |string b=>exact B5 rfl
   |_=>exact B9
  |_=>exact B9
def mb (hG:P.a.globals.size<=G){t:a7}(h:FL P.a t=bb){v V x X:a6}(hv:B6 S β v V)(hx:B6 S β x X):Cf P S Ck G β (br t v x) (br t V X) (λ_ a A=>a=A) :=
 kW hG 9999 h hv hx
def om {m:Sem a6}(h:(∃v,(∀(S:DT) (β:Cm),B6 S β v v)/\m=pure v)\/(∃s,m=stuck s)\/(∃u,m=bc u/\∀g,u≠.initOrder g)\/(∃s,m=b7 (.error s))) :
  Cf P S Ck G β m m (λB8 a A=>B6 S B8 a A):=by
 rcases h with⟨v,h,rfl⟩|⟨s,rfl⟩|⟨u,rfl,h⟩|⟨s,rfl⟩
 .exact B5 (h _ _)
 .exact B9
 .exact Cb h
 .exact ax _ trivial
def H4 (op:cf)(t:a7)(k k':IntKind)(a b:Int):Cf P S Ck G β (binOp op t (.int k a) (.int k' b)) (binOp op t (.int k a) (.int k' b)) (λB8 a A=>B6 S B8 a A):=by
  refine om ?_;have iv:∀(k:IntKind) (n:Int),(∀(S:DT) (β:Cm),B6 S β (.int k n) (.int k n)):=λk n _ _=>.int _ _;have bv:∀(b:Bool),(∀(S:DT) (β:Cm),B6 S β (.bool b) (.bool b)):=λb _ _=>.bool _;cases op with
  | shl => unfold binOp Op.shift; dsimp only; split
           · exact .inr (.inr (.inr ⟨_, rfl⟩))
           · exact .inl ⟨_,iv _ _,rfl⟩
  | shr => unfold binOp Op.shift; dsimp only; split
           · exact .inr (.inr (.inr ⟨_, rfl⟩))
           · exact .inl ⟨_,iv _ _,rfl⟩
  | quo => unfold binOp Op.intDiv; dsimp only; split
           · exact .inr (.inl ⟨_, rfl⟩)
           · split
             · exact .inr (.inr (.inr ⟨_, rfl⟩))
             · exact .inl ⟨_,iv _ _,rfl⟩
  | rem => unfold binOp Op.intDiv; dsimp only; split
           · exact .inr (.inl ⟨_, rfl⟩)
           · split
             · exact .inr (.inr (.inr ⟨_, rfl⟩))
             · exact .inl ⟨_,iv _ _,rfl⟩
  |add|sub|mul|and|or|xor|andNot =>
    unfold binOp;dsimp only;split
    · exact .inr (.inl ⟨_,rfl⟩)
    · exact .inl ⟨_,iv _ _,rfl⟩
  |eql|neq|lss|leq|gtr|geq =>
    unfold binOp;dsimp only;split
    · exact .inr (.inl ⟨_,rfl⟩)
    · exact .inl ⟨_,bv _,rfl⟩
def fy (op:cf)(x y:ByteArray):Cf P S Ck G β (bD op x y) (bD op x y) (λB8 a A=>B6 S B8 a A):=by
  refine om ?_;have bv:∀(b:Bool),(∀(S:DT) (β:Cm),B6 S β (.bool b) (.bool b)):=λb _ _=>.bool _;cases op with
  | add => unfold bD; dsimp only; split
           · exact .inr (.inr (.inl ⟨_, rfl, by intro g e; cases e⟩))
           · exact .inl ⟨_,λ_ _=>.string _,rfl⟩
  |eql|neq|lss|leq|gtr|geq=>exact .inl ⟨_,bv _,rfl⟩
  |_=>exact .inr (.inl ⟨_,rfl⟩)
def kX {t:a7}(h:FL P.a t=bb){v V x X:a6}(hv:B6 S β v V)(hx:B6 S β x X):Cf P S Ck G β (do if(<-underlying t) matches .unsafePointer then movedPointer t v x else movedNumber t v x) (do if(<-underlying t) matches .unsafePointer then movedPointer t V X else movedNumber t V X) (λB8 a A=>B6 S B8 a A):=by
 refine B4 (ak _) ?_;rintro DJ d _ hle ⟨rfl,hd⟩;have:=bZ (P:=P) (Ck:=Ck) (G:=G) t (hv.mono hle) (hx.mono hle);rcases GA h with⟨k,e⟩|e|e<;>(rw[e] at hd;cases hd;exact this)
def gV (hG:P.a.globals.size<=G){a A b B:Addr}(ha:C9 β a A)(hb:C9 β b B)(f F:Nat×Nat->Sem a6):Cf P S Ck G β (do let x<-bs a;let y<-bs b;(cw x.1 y.1) >>= f) (do let x<-bs A;let y<-bs B;(cw x.1 y.1) >>= F) (λB8 a A=>B6 S B8 a A):=by
 refine B4 (dm ha) ?_;rintro Dq ⟨p,_⟩ ⟨p',_⟩ C0 ⟨hp,_⟩;refine B4 (dm (hb.mono C0)) ?_;rintro Eu ⟨q,_⟩ ⟨q',_⟩ C4 ⟨hq,_⟩;exact B4 (ma hG (hp.mono C4)) (λ_ _ _ _ h=>h.elim)
def N8 (k:IntKind){a A:Addr}(ha:C9 β a A)(n:Int):Cf P S Ck G β (do Op.addrMod k (<-bs a).1 n) (do Op.addrMod k (<-bs A).1 n) (λB8 a A=>B6 S B8 a A):=by
 refine B4 (dm ha) ?_;rintro Dq ⟨p,_⟩ ⟨p',_⟩ C0 ⟨hp,_⟩;exact pk k hp n
def Dead (P:CL){α:Type}(m:Sem α):Prop:=∀w es,(∃s w' es',m.runT P.a w es=(.halt (.stuck s) w',es'))\/∃u w' es',m.runT P.a w es=(.halt (.unsupported u) w',es')/\∀g,u≠.initOrder g
def EO {α FK:Type}{m:Sem α}{M:Sem FK}{R:Cm->α->FK->Prop}(h:Dead P m):Cf P S Ck G β m M R:=by
 intro w W n hw ht Dt DD hb;rcases h w Dt with⟨s,w',es',e⟩|⟨u,w',es',e,hu⟩
 .rw[e];trivial
 .rw[e];exact hu
def Dead.bind {α γ:Type}{m:Sem α}(h:Dead P m)(k:α->Sem γ):Dead P (m >>= k):=by
 intro w es;rw[aj];rcases h w es with⟨s,w',es',e⟩|⟨u,w',es',e,hu⟩
 .rw[e];exact .inl ⟨s,w',es',rfl⟩
 .rw[e];exact .inr ⟨u,w',es',rfl,hu⟩
def jH {t:a7}(h:FL P.a t=bb){v V x X:a6}(hv:B6 S β v V)(hx:B6 S β x X)(hu:v=hole\/x=hole):Dead P (br t v x):=by
 intro w es;have hr:∀d,P.a.underlying t=b5 d->(underlying t).runT P.a w es=(.ok d w,es):=λd e=>by
  unfold underlying;rw[aj];show(match(P.a.underlying t) with|some d=>pure d|none=>stuck _:Sem cU).runT P.a w es=_;rw[e];rfl
 show(∃s w' es',(bk (9999+1) t v x).runT P.a w es=_)\/∃u w' es',(bk (9999+1) t v x).runT P.a w es=_/\_;unfold bk;rw[aj];rcases GA h with⟨k,e⟩|e|e<;>rw[hr _ e]<;>rcases hu with rfl|rfl
 .cases hx<;>first|exact .inl ⟨_,_,_,rfl⟩|exact .inr ⟨.addressObserved,_,_,rfl,by intro g e;cases e⟩
 .cases hv<;>first|exact .inl ⟨_,_,_,rfl⟩|exact .inr ⟨.addressObserved,_,_,rfl,by intro g e;cases e⟩
 .cases hx<;>first|exact .inl ⟨_,_,_,rfl⟩|exact .inr ⟨.addressObserved,_,_,rfl,by intro g e;cases e⟩
 .cases hv<;>first|exact .inl ⟨_,_,_,rfl⟩|exact .inr ⟨.addressObserved,_,_,rfl,by intro g e;cases e⟩
 .cases hx<;>first|exact .inl ⟨_,_,_,rfl⟩|exact .inr ⟨.addressObserved,_,_,rfl,by intro g e;cases e⟩
 .cases hv<;>first|exact .inl ⟨_,_,_,rfl⟩|exact .inr ⟨.addressObserved,_,_,rfl,by intro g e;cases e⟩
def binOp_eql {t:a7}{V X:a6}(h1:∀k a k' b,V=.int k a->X=.int k' b->False)(h2:∀k a k' b,V=.float k a->X=.float k' b->False)(h3:∀k a b k' c d,V=.complex k a b->X=.complex k' c d->False)(h4:∀a b,V=.string a->X=.string b->False) :
  binOp .eql t V X=(do pure (.bool (<-br t V X)))/\binOp .neq t V X=(do pure (.bool (!(<-br t V X)))):=by
 constructor
 all_goals
  rw[binOp.eq_def];split
  all_goals first|contradiction|rfl|(exfalso;first|exact h1 _ _ _ _ rfl rfl|exact h2 _ _ _ _ rfl rfl|exact h3 _ _ _ _ _ _ rfl rfl|exact h4 _ _ rfl rfl)
def sO (hG:P.a.globals.size<=G)(op:cf){t:a7}(h:FL P.a t=bb){v V x X:a6}(hv:B6 S β v V)(hx:B6 S β x X):Cf P S Ck G β (binOp op t v x) (binOp op t V X) (λB8 a A=>B6 S B8 a A):=by
 have he:Cf P S Ck G β (do pure (.bool (<-br t v x)):Sem a6) (do pure (.bool (<-br t V X))) (λB8 a A=>B6 S B8 a A) :=
  B4 (mb hG h hv hx) (by rintro DJ b _ _ rfl;exact B5 (.bool _))
 have hn:Cf P S Ck G β (do pure (.bool (!(<-br t v x))):Sem a6) (do pure (.bool (!(<-br t V X)))) (λB8 a A=>B6 S B8 a A) :=
  B4 (mb hG h hv hx) (by rintro DJ b _ _ rfl;exact B5 (.bool _))
 have mk:∀ {b B:Nat} (o:Nat) (s:Option Nat),β b B->C9 β ⟨b,o,s⟩ ⟨B,o,s⟩:=λo s h=>⟨h,rfl,rfl⟩;rw[binOp.eq_def op t v x];split
 .cases hv;cases hx;exact H4 .shl t _ _ _ _
 .cases hv;cases hx;exact H4 .shr t _ _ _ _
 .rename_i k a k' b n1 n2;cases hv;cases hx;have:=H4 (P:=P) (S:=S) (Ck:=Ck) (G:=G) (β:=β) op t k k' a b;cases op with
  |shl=>exact(n1 rfl).elim
  |shr=>exact(n2 rfl).elim
  |_=>exact this
 .cases hv
 .cases hv
 .cases hv;cases hx
  have e:∀x y,binOp op t (.string x) (.string y)=bD op x y:=λx y=>by cases op<;>rfl
  rw[e];exact fy _ _ _
 .rename_i n1 n2 n3 n4;by_cases hu:v=hole\/x=hole
  .exact EO ((jH h hv hx hu).bind _)
  rw[(binOp_eql (t:=t) (V:=V) (X:=X) ?_ ?_ ?_ ?_).1]
  .exact he
  .rintro k a k' b rfl rfl;cases hv with
   |int=>cases hx with
    |int=>exact n1 _ _ _ _ rfl rfl
    |blank _ _=>exact hu (.inr rfl)
   |blank _ _=>exact hu (.inl rfl)
  .rintro k a k' b rfl rfl;cases hv;exact hu (.inl rfl)
  .rintro k a k' b c d rfl rfl;cases hv;exact hu (.inl rfl)
  .rintro a b rfl rfl;cases hv with
   |string=>cases hx with
    |string=>exact n4 _ _ rfl rfl
    |blank _ _=>exact hu (.inr rfl)
   |blank _ _=>exact hu (.inl rfl)
 .rename_i n1 n2 n3 n4;by_cases hu:v=hole\/x=hole
  .exact EO ((jH h hv hx hu).bind _)
  rw[(binOp_eql (t:=t) (V:=V) (X:=X) ?_ ?_ ?_ ?_).2]
  .exact hn
  .rintro k a k' b rfl rfl;cases hv with
   |int=>cases hx with
    |int=>exact n1 _ _ _ _ rfl rfl
    |blank _ _=>exact hu (.inr rfl)
   |blank _ _=>exact hu (.inl rfl)
  .rintro k a k' b rfl rfl;cases hv;exact hu (.inl rfl)
  .rintro k a k' b c d rfl rfl;cases hv;exact hu (.inl rfl)
  .rintro a b rfl rfl;cases hv with
   |string=>cases hx with
    |string=>exact n4 _ _ rfl rfl
    |blank _ _=>exact hu (.inr rfl)
   |blank _ _=>exact hu (.inl rfl)
 .cases hx
  cases hv with
  |FJ=>exact kX h .FJ (.int _ _)
  |ptr o s hb=>exact kX h (.ptr o s hb) (.int _ _)
 .cases hv
  cases hx with
  |FJ=>exact bZ _ .FJ (.int _ _)
  |ptr o s hb=>exact bZ _ (.ptr o s hb) (.int _ _)
 .cases hx
  cases hv with
  |FJ=>exact bZ _ .FJ (.int _ _)
  |ptr o s hb=>exact bZ _ (.ptr o s hb) (.int _ _)
 .cases hv with
  |ptr o s hb=>cases hx with
   |ptr o' s' hb'=>exact gV hG (mk o s hb) (mk o' s' hb') _ _
 .cases hv with
  |ptr o s hb=>cases hx with
   |ptr o' s' hb'=>exact gV hG (mk o s hb) (mk o' s' hb') _ _
 .cases hv with
  |ptr o s hb=>cases hx with
   |ptr o' s' hb'=>exact gV hG (mk o s hb) (mk o' s' hb') _ _
 .cases hv with
  |ptr o s hb=>cases hx with
   |ptr o' s' hb'=>exact gV hG (mk o s hb) (mk o' s' hb') _ _
 .cases hv with
  |ptr o s hb=>cases hx with
   |ptr o' s' hb'=>exact gV hG (mk o s hb) (mk o' s' hb') _ _
 .cases hv with
  |ptr o s hb=>cases hx;exact N8 _ (mk o s hb) _
 .cases hv with
  |ptr o s hb=>cases hx;exact N8 _ (mk o s hb) _
 .cases hv
  cases hx with
  |ptr o s hb=>exact N8 _ (mk o s hb) _
 .exact Cb (u:=.addressObserved) (by intro g e;cases e)
 .exact Cb (u:=.addressObserved) (by intro g e;cases e)
 .exact B9
end
inductive Gk (S:DT)(Ck:cK->Prop)(β:Cm):Next->Next->Prop
 |value {v V:a6}:B6 S β v V->Gk S Ck β (.value v) (.value V)
 |skip:Gk S Ck β .skip .skip
 |enter {f:bA} {a A:Array a6}:S.fn f->Ca S β a A->Gk S Ck β (.enter f a) (.enter f A)
 |round {l L:Nat} {f:bA} {x X:Array a6} {yH bo:cK}:β l L->S.hid l=bq/\S.fr f->Ca S β x X->Ck yH->Ck bo->Gk S Ck β (.round l f x yH bo) (.round L f X yH bo)
 |defer {d D:c0}:D5 S β d D->Gk S Ck β (.defer d) (.defer D)
section
variable {P:CL} {S:DT} {Ck:cK->Prop} {G:Nat} {β:Cm}
def Kj {p:bw}{t:a7}{d:cU}(e:p.underlying t=b5 d)(w:World)(es:Array Event):(underlying t).runT p w es=(.ok d w,es):=by
 unfold underlying;rw[aj];have e2:program.runT p w es=(.ok p w,es):=rfl;rw[e2];dsimp only;rw[e]
 rfl
def db {p:bw}(hp:∀t,p.underlying t=P.a.underlying t){t:a7}(h:FL P.a t=bb)(n:Nat)(v x:a6)(w:World)(es:Array Event):(a8 (n+1) t v x).runT p w es=(.ok bq w,es):=by
 unfold a8;rw[aj];rcases GA h with⟨k,e⟩|e|e<;>(rw[Kj ((hp t).trans e)];rfl)
def iT {p:bw}(hp:∀t,p.underlying t=P.a.underlying t)(op:cf){t:a7}(h:FL P.a t=bb)(xo yo:bl)(v x:a6)(w:World)(es:Array Event):(eqGuard op t xo yo v x).runT p w es=(.ok () w,es):=by
  unfold eqGuard;cases op<;>try rfl
  all_goals
    rw[if_neg (by simp)];split
    · cases xo <;> cases yo <;> first
        |rfl
        | (rw [if_neg (by simp), aj, show bh = 9999 + 1 from rfl, db hp h]
           rfl)
    · rw[aj]
      have e2:program.runT p w es=(.ok p w,es):=rfl;rw[e2];dsimp only;rw[aj,e2];dsimp only;split
      · rfl
      · rw[aj,show bh=9999+1 from rfl,db hp h]
        rfl
    · rfl
def pm (op:cf){t:a7}(h:FL P.a t=bb)(xo yo:bl)(v x V X:a6):Cf P S Ck G β (eqGuard op t xo yo v x) (eqGuard op t xo yo V X) (λ_ _ _=>True):=by
 intro w W n hw ht Dt DD hb;rw[iT (λ_=>rfl) op h,iT P.underlying op h];exact⟨β,(),W,[],by simp,trivial,Fin.refl hw⟩
def sP (op:UnOp){v V:a6}(hv:B6 S β v V):Cf P S Ck G β (Op.unary op v) (Op.unary op V) (λB8 a A=>B6 S B8 a A):=by
 cases hv with
 |int k n=>cases op with
  |neg=>exact B5 (.int _ _)
  |xor=>exact B5 (.int _ _)
  |_=>exact B9
 |bool b=>cases op with
  |not=>exact B5 (.bool _)
  |_=>exact B9
 |ptr o s hb=>cases op with
  |neg=>exact Cb (u:=.addressObserved) (by intro g e;cases e)
  |xor=>exact Cb (u:=.addressObserved) (by intro g e;cases e)
  |_=>exact B9
 |_=>cases op<;>exact B9
def gW (P:bw)(s d:a7):Bool:=match P.underlying s,P.underlying d with
 |some (.int _),b5 (.int _)=>bb
 |_,_=>bq
def pn {s d:a7}(h:gW P.a s d=bb){v V:a6}(hv:B6 S β v V):Cf P S Ck G β (convert s d v) (convert s d V) (λB8 a A=>B6 S B8 a A):=by
 refine B4 (ak _) ?_;rintro DJ a _ hle ⟨rfl,h1⟩;refine B4 (ak _) ?_;rintro Dq b _ C0 ⟨rfl,h2⟩;unfold gW at h;rw[h1,h2] at h;cases a with
 |int k=>cases b with
  |int k'=>cases hv with
   |int k n=>exact B5 (.int _ _)
   |ptr o s hb=>exact Cb (u:=.addressObserved) (by intro g e;cases e)
   |_=>exact F5 λw es=>⟨_,w,es,rfl,by intro g e;cases e⟩
  |_=>cases h
 |_=>cases b<;>cases h
def uG {v V x X:a6}(hv:B6 S β v V)(hx:B6 S β x X):Cf P S Ck G β (cE v x) (cE V X) (λB8 a A=>B6 S B8 a A):=by
 cases hv with
 |int k n=>cases hx with
  |int k' m=>exact B5 (.int _ _)
  |ptr o s hb=>exact Cb (u:=.addressObserved) (by intro g e;cases e)
  |_=>exact B9
 |string a=>cases hx with
  |string b =>
   refine B4 (fy _ _ _) ?_;intro DJ c C _ hc;refine B4 (gL hc) ?_;rintro Dq c _ _ rfl;exact B5 (.string _)
  |ptr o s hb=>exact Cb (u:=.addressObserved) (by intro g e;cases e)
  |_=>exact B9
 |ptr o s hb=>exact Cb (u:=.addressObserved) (by intro g e;cases e)
 |_=>cases hx<;>first|exact B9|exact Cb (u:=.addressObserved) (by intro g e;cases e)
def uH {v V x X:a6}(hv:B6 S β v V)(hx:B6 S β x X):Cf P S Ck G β (cF v x) (cF V X) (λB8 a A=>B6 S B8 a A):=by
 cases hv with
 |int k n=>cases hx with
  |int k' m=>exact B5 (.int _ _)
  |ptr o s hb=>exact Cb (u:=.addressObserved) (by intro g e;cases e)
  |_=>exact B9
 |string a=>cases hx with
  |string b =>
   refine B4 (fy _ _ _) ?_;intro DJ c C _ hc;refine B4 (gL hc) ?_;rintro Dq c _ _ rfl;exact B5 (.string _)
  |ptr o s hb=>exact Cb (u:=.addressObserved) (by intro g e;cases e)
  |_=>exact B9
 |ptr o s hb=>exact Cb (u:=.addressObserved) (by intro g e;cases e)
 |_=>cases hx<;>first|exact B9|exact Cb (u:=.addressObserved) (by intro g e;cases e)
def gX {f:a6->a6->Sem a6}(hf:∀β v V x X,B6 S β v V->B6 S β x X->Cf P S Ck G β (f v x) (f V X) (λB8 a A=>B6 S B8 a A)) :
  ∀ {l L:List a6} {v V:a6} {β:Cm},Df (B6 S β) l L->B6 S β v V->Cf P S Ck G β (l.foldlM f v) (L.foldlM f V) (λB8 a A=>B6 S B8 a A)
 |[],_,_,_,_,h,hv=>by cases h;exact B5 hv
 |x::l,_,_,_,_,h,hv=>by
  cases h with
  |cons hx hl =>
   simp only[List.foldlM_cons];refine B4 (hf _ _ _ _ _ hv hx) ?_;intro DJ y Y hle hy;exact gX hf (hl.mono λ_ _=>B6.mono hle) hy
def wK (ts:Array a7)(t:a7){a A:Array a6}(h:Ca S β a A):Cf P S Ck G β (b8 ts t a) (b8 ts t A) (λB8 v V=>B6 S B8 v V):=by
 unfold b8;have:=h.toList;revert this;generalize a.toList=l;generalize A.toList=L;intro hl;cases hl with
 |nil=>exact B9
 |cons hx hl=>exact gX (λβ v V x X=>uG) hl hx
def wL (ts:Array a7)(t:a7){a A:Array a6}(h:Ca S β a A):Cf P S Ck G β (b9 ts t a) (b9 ts t A) (λB8 v V=>B6 S B8 v V):=by
 unfold b9;have:=h.toList;revert this;generalize a.toList=l;generalize A.toList=L;intro hl;cases hl with
 |nil=>exact B9
 |cons hx hl=>exact gX (λβ v V x X=>uH) hl hx
end
def ct (P:bw):Nat->a7->Bool
 |0,_=>bq
 |d+1,t=>FL P t||match P.underlying t with
  |some (.struct fs)=>fs.all λf=>ct P d f.type
  |some (.array _ e)=>ct P d e
  |some (.slice _)=>bb
  |_=>bq
def CL.alikeButTags (P:CL)(d:Nat):P.b.alikeButTags d=P.a.alikeButTags d:=by
 induction d with
 |zero=>rfl
 |succ d ih =>
  funext t u;unfold Program.alikeButTags;rw[ih]
  rfl
def CL.stoodInHeld (P:CL)(t:a7):P.b.stoodInHeld t=P.a.stoodInHeld t:=by
 unfold Program.stoodInHeld Program.stoodInAs;rw[CL.alikeButTags,show P.b.depth=P.a.depth from rfl]
 rfl
def CL.eqGuardType (P:CL)(d:Nat):P.b.eqGuardType d=P.a.eqGuardType d:=by
 induction d with
 |zero=>rfl
 |succ d ih =>
  funext t;unfold Program.eqGuardType;rw[ih]
  rfl
section
variable {P:CL} {S:DT} {Ck:cK->Prop} {G:Nat} {β:Cm}
def eP {γ σ:Type}{f F:γ->σ->Sem (ForInStep σ)}:∀(l:List γ) (s:σ) (β:Cm),(∀x∈l,∀s B8,β.le B8->Cf P S Ck G B8 (f x s) (F x s) (λ_ a A=>a=A)) ->
  Cf P S Ck G β (forIn l s f) (forIn l s F) (λ_ a A=>a=A)
 |[],s,β,_=>by
  simp only[List.forIn_nil];exact B5 rfl
 |x::l,s,β,h=>by
  simp only[List.forIn_cons];refine B4 (h x (by simp) s β β.le_refl) ?_;rintro DJ a _ hle rfl;cases a with
  |done b=>exact B5 rfl
  |yield b=>exact eP l b DJ λy hy s B8 Rf=>h y (by simp[hy]) s B8 (Cm.le_trans hle Rf)
def fz (hG:P.a.globals.size<=G):∀(n k:Nat) {t:a7} (β:Cm),ct P.a k t=bb->∀ {v V x X:a6},B6 S β v V->B6 S β x X->Cf P S Ck G β (bk n t v x) (bk n t V X) (λ_ a A=>a=A)
 |0,_,_,_,_,_,_,_,_,_,_=>Cb (by intro g e;cases e)
 |_+1,0,_,_,h,_,_,_,_,_,_=>by cases h
 |n+1,k+1,t,β,h,v,V,x,X,hv,hx=>by
  by_cases hc:FL P.a t=bb
  .exact kW hG n hc hv hx
  .unfold ct at h;rw[bW.2 hc,b6] at h;unfold bk;refine B4 (ak _) ?_;rintro DJ d _ hle ⟨rfl,hd⟩;replace hv:=hv.mono hle;replace hx:=hx.mono hle;rw[hd] at h;cases d with
   |struct fs =>
    simp only[zh] at h;cases hv with
    |agg h1 h2 =>
     cases hx with
     |agg h3 h4 =>
      rename_i a A b B;have ha:Ca S DJ a A:=⟨h1,h2⟩;have hb:Ca S DJ b B:=⟨h3,h4⟩;refine B4 aR ?_;rintro Dq p p' C0 ⟨hp,hp'⟩;subst p p';rw[CL.stoodInHeld];split
      .exact B4 (R:=λ_ _ _=>False) (Cb (by intro g e;cases e)) (λ_ _ _ _ h=>h.elim)
      .refine B4 (R:=λ_ a A=>a=A) ?_ ?_
       .rw[<-Bf,<-Bf];refine eP _ _ _ λf hf s Eu C4=>?_;split
        .refine B4 (cz _ ((ha.mono C0).mono C4) _) ?_;intro Ka p1 P1 Gi GN;refine B4 (cz _ (((hb.mono C0).mono C4).mono Gi) _) ?_;intro La p2 P2 Gj Mh;refine B4 (fz hG n k La (h f (by simpa using hf)) (GN.mono Gj) Mh) ?_;rintro UT r _ _ rfl;cases r<;>exact B5 rfl
        .exact B5 rfl
       .rintro Eu ⟨a,_⟩ _ _ rfl;cases a<;>exact B5 rfl
     |_=>exact B9
    |_=>first|exact B9|(cases hx<;>exact B9)
   |array len e =>
    cases hv with
    |agg h1 h2 =>
     cases hx with
     |agg h3 h4 =>
      rename_i a A b B;have ha:Ca S DJ a A:=⟨h1,h2⟩;have hb:Ca S DJ b B:=⟨h3,h4⟩;refine B4 (aH _) ?_;rintro Dq m _ C0 rfl;refine B4 (R:=λ_ a A=>a=A) ?_ ?_
      .simp only[bn];refine eP _ _ _ λf hf s Eu C4=>?_;refine B4 (cz _ ((ha.mono C0).mono C4) _) ?_;intro Ka p1 P1 Gi GN;refine B4 (cz _ (((hb.mono C0).mono C4).mono Gi) _) ?_;intro La p2 P2 Gj Mh;refine B4 (fz hG n k La h (GN.mono Gj) Mh) ?_;rintro UT r _ _ rfl;cases r<;>exact B5 rfl
      .rintro Eu ⟨a,_⟩ _ _ rfl;cases a<;>exact B5 rfl
     |_=>exact B9
    |_=>first|exact B9|(cases hx<;>exact B9)
   |slice e =>
    cases hv with
    |Fc l c=>cases hx<;>first|exact B5 rfl|exact B9
    |slice o s l c hb=>cases hx<;>first|exact B5 rfl|exact B9
    |Dl _=>cases hx<;>first|exact B5 rfl|exact B9
    |_=>first|exact B9|(cases hx<;>exact B9)
   |_=>cases h
def dc:∀(n k:Nat) {t:a7} (β:Cm),ct P.a k t=bb->∀ {v V x X:a6},B6 S β v V->B6 S β x X->Cf P S Ck G β (a8 n t v x) (a8 n t V X) (λ_ a A=>a=A)
 |0,_,_,_,_,_,_,_,_,_,_=>Cb (by intro g e;cases e)
 |_+1,0,_,_,h,_,_,_,_,_,_=>by cases h
 |n+1,k+1,t,β,h,v,V,x,X,hv,hx=>by
  by_cases hc:FL P.a t=bb
  .intro w W m hw ht Dt DD hb;rw[db (P:=P) (λ_=>rfl) hc,db P.underlying hc];exact⟨β,bq,W,[],by simp,rfl,Fin.refl hw⟩
  .unfold ct at h;rw[bW.2 hc,b6] at h;unfold a8;refine B4 (ak _) ?_;rintro DJ d _ hle ⟨rfl,hd⟩;replace hv:=hv.mono hle;replace hx:=hx.mono hle;rw[hd] at h;cases d with
   |struct fs =>
    simp only[zh] at h;cases hv with
    |agg h1 h2 =>
     cases hx with
     |agg h3 h4 =>
      rename_i a A b B;have ha:Ca S DJ a A:=⟨h1,h2⟩;have hb:Ca S DJ b B:=⟨h3,h4⟩;refine B4 (R:=λ_ a A=>a=A) ?_ ?_
      .rw[<-Bf,<-Bf];refine eP _ _ _ λf hf s Eu C4=>?_;split
       .refine B4 (cz _ (ha.mono C4) _) ?_;intro Ka p1 P1 Gi GN;refine B4 (cz _ ((hb.mono C4).mono Gi) _) ?_;intro La p2 P2 Gj Mh;refine B4 (dc n k La (h f (by simpa using hf)) (GN.mono Gj) Mh) ?_;rintro UT r _ _ rfl;cases r<;>exact B5 rfl
       .exact B5 rfl
      .rintro Eu ⟨a,_⟩ _ _ rfl;cases a<;>exact B5 rfl
     |blank _ hX=>cases X<;>first|exact B5 rfl|(cases hX;done)
     |_=>exact B5 rfl
    |blank _ hV=>cases V<;>first|exact B5 rfl|(cases hV;done)|(cases hx<;>exact B5 rfl)
    |_=>first|exact B5 rfl|(cases hx<;>exact B5 rfl)
   |array len e =>
    cases hv with
    |agg h1 h2 =>
     cases hx with
     |agg h3 h4 =>
      rename_i a A b B;have ha:Ca S DJ a A:=⟨h1,h2⟩;have hb:Ca S DJ b B:=⟨h3,h4⟩;refine B4 (aH _) ?_;rintro Dq m _ C0 rfl;refine B4 (R:=λ_ a A=>a=A) ?_ ?_
      .simp only[bn];refine eP _ _ _ λf hf s Eu C4=>?_;refine B4 (cz _ ((ha.mono C0).mono C4) _) ?_;intro Ka p1 P1 Gi GN;refine B4 (cz _ (((hb.mono C0).mono C4).mono Gi) _) ?_;intro La p2 P2 Gj Mh;refine B4 (dc n k La h (GN.mono Gj) Mh) ?_;rintro UT r _ _ rfl;cases r<;>exact B5 rfl
      .rintro Eu ⟨a,_⟩ _ _ rfl;cases a<;>exact B5 rfl
     |blank _ hX=>cases X<;>first|exact B5 rfl|(cases hX;done)
     |_=>exact B5 rfl
    |blank _ hV=>cases V<;>first|exact B5 rfl|(cases hV;done)|(cases hx<;>exact B5 rfl)
    |_=>first|exact B5 rfl|(cases hx<;>exact B5 rfl)
   |slice e=>exact B5 rfl
   |_=>cases h
def nB (n k:Nat){t:a7}(h:ct P.a k t=bb){v V x X:a6}(hv:B6 S β v V)(hx:B6 S β x X)(hu:v=hole\/x=hole):Dead P (bk (n+1) t v x):=by
 intro w es;have hr:∀d,P.a.underlying t=b5 d->(underlying t).runT P.a w es=(.ok d w,es):=λd e=>by
  unfold underlying;rw[aj];show(match(P.a.underlying t) with|some d=>pure d|none=>stuck _:Sem cU).runT P.a w es=_;rw[e];rfl
 cases k with
 |zero=>cases h
 |succ k =>
  unfold bk;rw[aj];unfold ct at h;by_cases hc:FL P.a t=bb
  .rcases GA hc with⟨k,e⟩|e|e<;>rw[hr _ e]<;>rcases hu with rfl|rfl
   .cases hx<;>first|exact .inl ⟨_,_,_,rfl⟩|exact .inr ⟨.addressObserved,_,_,rfl,by intro g e;cases e⟩
   .cases hv<;>first|exact .inl ⟨_,_,_,rfl⟩|exact .inr ⟨.addressObserved,_,_,rfl,by intro g e;cases e⟩
   .cases hx<;>first|exact .inl ⟨_,_,_,rfl⟩|exact .inr ⟨.addressObserved,_,_,rfl,by intro g e;cases e⟩
   .cases hv<;>first|exact .inl ⟨_,_,_,rfl⟩|exact .inr ⟨.addressObserved,_,_,rfl,by intro g e;cases e⟩
   .cases hx<;>first|exact .inl ⟨_,_,_,rfl⟩|exact .inr ⟨.addressObserved,_,_,rfl,by intro g e;cases e⟩
   .cases hv<;>first|exact .inl ⟨_,_,_,rfl⟩|exact .inr ⟨.addressObserved,_,_,rfl,by intro g e;cases e⟩
  .rw[bW.2 hc,b6] at h;cases hd:P.a.underlying t with
   |none=>rw[hd] at h;cases h
   |some d =>
    rw[hd] at h;rw[hr _ hd];cases d with
    |struct fs =>
     rcases hu with rfl|rfl
     .cases hx<;>exact .inl ⟨_,_,_,rfl⟩
     .cases hv<;>exact .inl ⟨_,_,_,rfl⟩
    |array l e =>
     rcases hu with rfl|rfl
     .cases hx<;>exact .inl ⟨_,_,_,rfl⟩
     .cases hv<;>exact .inl ⟨_,_,_,rfl⟩
    |slice e =>
     rcases hu with rfl|rfl
     .cases hx<;>exact .inl ⟨_,_,_,rfl⟩
     .cases hv<;>exact .inl ⟨_,_,_,rfl⟩
    |_=>cases h
def po {op:cf}(ho:op=.eql\/op=.neq){k:Nat}{t:a7}(h:ct P.a k t=bb){xo yo:bl}{v V x X:a6}(hv:B6 S β v V)(hx:B6 S β x X)(hu:v=hole\/x=hole):Dead P (do eqGuard op t xo yo v x;binOp op t v x):=by
 have z1:eqGuard op t xo yo v x=pure ():=by
  unfold eqGuard;rcases ho with rfl|rfl<;>(rw[if_neg (by simp)];rcases hu with rfl|rfl<;>first|(cases x<;>rfl)|(cases v<;>rfl))
 have z2:(do eqGuard op t xo yo v x;binOp op t v x)=binOp op t v x:=by rw[z1];rfl
 rw[z2];have h1:=binOp_eql (t:=t) (V:=v) (X:=x) (λk a k' b e1 e2=>by subst e1 e2;rcases hu with h|h<;>cases h) (λk a k' b e1 e2=>by subst e1 e2;rcases hu with h|h<;>cases h) (λk a b k' c d e1 e2=>by subst e1 e2;rcases hu with h|h<;>cases h) (λa b e1 e2=>by subst e1 e2;rcases hu with h|h<;>cases h);have hd:Dead P (br t v x):=nB 9999 k h hv hx hu;rcases ho with rfl|rfl
 .rw[h1.1];exact hd.bind _
 .rw[h1.2];exact hd.bind _
def nC (op:cf){k:Nat}{t:a7}(h:ct P.a k t=bb)(xo yo:bl){v V x X:a6}(hv:B6 S β v V)(hx:B6 S β x X)(hu:¬(v=hole\/x=hole)):Cf P S Ck G β (eqGuard op t xo yo v x) (eqGuard op t xo yo V X) (λ_ _ _=>True):=by
  have fin:∀(B8:Cm),β.le B8->Cf P S Ck G B8 (do if<-a8 bh t v x then bc (.noEntry "binop/eql: two nil values of an interface type with methods, in a part of a struct or an array"):Sem Unit) (do if<-a8 bh t V X then bc (.noEntry "binop/eql: two nil values of an interface type with methods, in a part of a struct or an array")) (λ_ _ _=>True):=by
    intro B8 hle;refine B4 (dc _ k B8 h (hv.mono hle) (hx.mono hle)) ?_;rintro Dq a _ _ rfl;cases a with
    |true=>exact Cb (by intro g e;cases e)
    |false=>exact B5 trivial
  have afU:Cf P S Ck G β (do if<-a8 bh t v x then bc (.noEntry "binop/eql: two nil values of an interface type with methods, neither of them the literal nil"):Sem Unit) (do if<-a8 bh t V X then bc (.noEntry "binop/eql: two nil values of an interface type with methods, neither of them the literal nil")) (λ_ _ _=>True):=by
    refine B4 (dc _ k β h hv hx) ?_;rintro Dq a _ _ rfl;cases a with
    |true=>exact Cb (by intro g e;cases e)
    |false=>exact B5 trivial
  have key : Cf P S Ck G β (match v, x with
      |.nilIface,.nilIface=>do
        if(xo matches .const _)||(yo matches .const _) then return
        if<-a8 bh t v x then bc (.noEntry "binop/eql: two nil values of an interface type with methods, neither of them the literal nil")
      |.agg _,.agg _=>do
        if !(<-program).eqGuardType (<-program).depth t then return
        if<-a8 bh t v x then bc (.noEntry "binop/eql: two nil values of an interface type with methods, in a part of a struct or an array")
      |_,_=>(pure ():Sem Unit)) (match V,X with
      |.nilIface,.nilIface=>do
        if(xo matches .const _)||(yo matches .const _) then return
        if<-a8 bh t V X then bc (.noEntry "binop/eql: two nil values of an interface type with methods, neither of them the literal nil")
      |.agg _,.agg _=>do
        if !(<-program).eqGuardType (<-program).depth t then return
        if<-a8 bh t V X then bc (.noEntry "binop/eql: two nil values of an interface type with methods, in a part of a struct or an array")
      |_,_=>(pure ():Sem Unit)) (λ_ _ _=>True):=by
    cases hv with
    |nilIface=>cases hx with
      |nilIface=>cases xo<;>cases yo<;>first|exact B5 trivial|exact afU
      |blank _ _=>exact absurd (.inr rfl) hu
      |_=>exact B5 trivial
    |agg h1 h2=>cases hx with
      |agg h3 h4 =>
        dsimp only;refine B4 aR ?_;rintro Dq p p' C0 ⟨hp,hp'⟩;subst p p';refine B4 aR ?_;rintro Eu p p' C4 ⟨hp,hp'⟩;subst p p';rw[show P.b.depth=P.a.depth from rfl,CL.eqGuardType];by_cases hb:(!P.a.eqGuardType P.a.depth t)=bb
        · simp only[if_pos hb]
          exact B5 trivial
        · simp only[if_neg hb]
          exact fin Eu (Cm.le_trans C0 C4)
      |blank _ _=>exact absurd (.inr rfl) hu
      |_=>exact B5 trivial
    |blank _ _=>exact absurd (.inl rfl) hu
    |_=>first|exact B5 trivial|(cases hx<;>exact B5 trivial)
  unfold eqGuard;cases op<;>first
    |exact B5 trivial
    | (rw [if_neg (by simp)]
       exact key)
def qM (hG:P.a.globals.size<=G){op:cf}(ho:op=.eql\/op=.neq){k:Nat}{t:a7}(h:ct P.a k t=bb){v V x X:a6}(hv:B6 S β v V)(hx:B6 S β x X)(hu:¬(v=hole\/x=hole)):Cf P S Ck G β (binOp op t v x) (binOp op t V X) (λB8 a A=>B6 S B8 a A):=by
 by_cases hi:∃k a k' b,v=.int k a/\x=.int k' b
 .obtain⟨k1,a,k2,b,rfl,rfl⟩:=hi;cases hv;cases hx;exact H4 op t _ _ _ _
 .by_cases hs:∃a b,v=.string a/\x=.string b
  .obtain⟨a,b,rfl,rfl⟩:=hs;cases hv;cases hx;have e:∀x y,binOp op t (.string x) (.string y)=bD op x y:=λx y=>by cases op<;>rfl
   rw[e];exact fy _ _ _
  .have h1:=binOp_eql (t:=t) (V:=v) (X:=x) (λk a k' b e1 e2=>hi ⟨k,a,k',b,e1,e2⟩) (λk a k' b e1 e2=>by subst e1;cases hv) (λk a b k' c d e1 e2=>by subst e1;cases hv) (λa b e1 e2=>hs ⟨a,b,e1,e2⟩);have h2:=binOp_eql (t:=t) (V:=V) (X:=X) (λk a k' b e1 e2=>by subst e1 e2;cases hv<;>first|exact hu (.inl rfl)|(cases hx<;>first|exact hu (.inr rfl)|exact hi ⟨_,_,_,_,rfl,rfl⟩)) (λk a k' b e1 e2=>by subst e1;cases hv;exact hu (.inl rfl)) (λk a b k' c d e1 e2=>by subst e1;cases hv;exact hu (.inl rfl)) (λa b e1 e2=>by subst e1 e2;cases hv<;>first|exact hu (.inl rfl)|(cases hx<;>first|exact hu (.inr rfl)|exact hs ⟨_,_,rfl,rfl⟩))
   rcases ho with rfl|rfl
   .rw[h1.1,h2.1];exact B4 (fz hG _ k β h hv hx) (by rintro DJ b _ _ rfl;exact B5 (.bool _))
   .rw[h1.2,h2.2];exact B4 (fz hG _ k β h hv hx) (by rintro DJ b _ _ rfl;exact B5 (.bool _))
end
def ot (w:World):w.sys .env=(.strings w.os.env,w):=by
 unfold World.sys;have:Kernel.perform .env w.os=.done (.strings w.os.env,w.os):=by
  unfold Kernel.perform
  rfl
 rw[this]
 rfl
section
variable {P:CL} {S:DT} {Ck:cK->Prop} {G:Nat} {β:Cm}
def wM:Cf P S Ck G β (sys .env) (sys .env) (λ_ a A=>a=A/\∃l,a=.strings l):=by
 intro w W n hw ht Dt DD _;have e1:(sys .env).runT P.a w Dt=(.ok (.strings w.os.env) w,Dt.push ⟨.output,bb,bq⟩):=by
  show(Sem.sys .env .pure).runT P.a w Dt=_;simp only[Sem.runT,ot]
 have e2:(sys .env).runT P.b W DD=(.ok (.strings W.os.env) W,DD.push ⟨.output,bb,bq⟩):=by
  show(Sem.sys .env .pure).runT P.b W DD=_;simp only[Sem.runT,ot]
 rw[e1,e2];exact⟨β,.strings W.os.env,W,[⟨.output,bb,bq⟩],by simp,⟨by rw[hw.env],_,rfl⟩,{ Fin.refl hw with evs:=λ_ E hE=>by cases Ah.1 hE;exact .out }⟩
def nD {α FK:Type}{R:Cm->α->FK->Prop}:Cf P S Ck G β (b7 .panicNil:Sem α) (b7 .panicNil:Sem FK) R:=by
 refine B4 aR ?_;rintro DJ p p' _ ⟨rfl,rfl⟩;dsimp only;refine B4 (R:=λ_ a A=>a=A) ?_ ?_
 .show Cf P S Ck G DJ (elemOf P.a.rt.panicNilError) (elemOf P.a.rt.panicNilError) _;unfold elemOf;refine B4 (ak _) ?_;rintro Dq d _ _ ⟨rfl,_⟩;cases d with
  |pointer e=>exact B5 rfl
  |_=>exact B9
 .rintro Dq e _ _ rfl;refine B4 (gO e (.agg rfl (by simp))) ?_;rintro Eu ⟨b,o,s⟩ ⟨B,o',s'⟩ _ ⟨h1,h2,h3⟩;cases h2;cases h3;exact dh (.iface _ (.ptr _ _ h1))
def pq {v V:a6}(hv:B6 S β v V):Cf P S Ck G β (cq v) (cq V) (λB8 a A=>B6 S B8 a A):=by
 cases hv with
 |iface t r=>exact dh (.iface t r)
 |nilIface =>
  unfold cq Instr.panicnil;refine B4 (R:=λ_ a A=>a=A) ?_ ?_
  .refine B4 wM ?_;rintro DJ a _ _ ⟨rfl,l,rfl⟩;dsimp only;refine B4 aR ?_;rintro Dq p p' _ ⟨rfl,rfl⟩;exact B5 rfl
  .rintro DJ a _ _ rfl;split
   .exact dh .nilIface
   .exact nD
 |_=>exact B9
end
structure Kd (P:CL)(S:DT)(Ck:cK->Prop)(G:Nat):Prop where
 big:P.a.info? big=dr
 call:∀f,S.fn f->∀(β:Cm) (a A:Array a6),Ca S β a A->Cf P S Ck G β (cr f a) (cr f A) (Gk S Ck)
section
variable {P:CL} {S:DT} {Ck:cK->Prop} {G:Nat} {β:Cm}
def bT {f:bA} {fn:Func} (hf:P.a.funcs[f]?=b5 fn) {Fw:Func} (hf':P.fs[f]?=b5 Fw) (hn:fn.name ≠ "runtime.NumGoroutine") (Us:Fw.name ≠ "runtime.NumGoroutine") (hb:fn.body.isSome) (hb':Fw.body.isSome) (hS:S.fn f) {a A:Array a6} (h:Ca S β a A) :
  Cf P S Ck G β (cr f a) (cr f A) (Gk S Ck):=by
 refine B4 aR ?_;rintro DJ p p' hle ⟨hp,hp'⟩;subst p p';rw[hf,show P.b.funcs[f]?=b5 Fw from hf'];have h1:fn.body.isNone=false:=by cases hx:fn.body with
  |none=>rw[hx] at hb;cases hb
  |some _=>rfl
 have h2:Fw.body.isNone=false:=by cases hx:Fw.body with
  |none=>rw[hx] at hb';cases hb'
  |some _=>rfl
 simp only[beq_iff_eq,hn,Us,if_false,h1,h2,zg];exact B5 (.enter hS (h.mono hle))
def qN:∀ {l:List Tmp} {m M:List a6} {x X:Array a6},Df (B6 S β) m M->Ca S β x X ->
  Ca S β ((l.zip m).foldl (λtmps (p:Tmp×a6)=>tmps.setIfInBounds p.1 p.2) x) ((l.zip M).foldl (λtmps (p:Tmp×a6)=>tmps.setIfInBounds p.1 p.2) X)
 |[],_,_,_,_,_,hx=>by simpa using hx
 |t::l,_,_,_,_,h,hx=>by
  cases h with
  |nil=>simpa using hx
  |cons hv hr =>
   simp only[List.zip_cons_cons,Af];exact qN hr (hx.set _ hv)
def dA {l L:Nat}(h:β l L)(hh:S.hid l=bq):Cf P S Ck G β (cu l) (cu L) (λB8 r R=>r.state=R.state/\r.pending=R.pending/\(S.fr r.fn/\∀c,r.pending=b5 c->Ck c)/\r.fn=R.fn/\Ca S B8 r.tmps R.tmps/\r.params=R.params/\r.assign=R.assign/\r.body=R.body/\Ck r.assign/\Ck r.body/\B8 r.defers R.defers/\S.hid r.defers=bq):=by
 refine B4 (ft h hh) ?_;intro DJ o O _ ho;cases ho with
 |loop hp ha hb hx hd hk=>exact B5 ⟨rfl,rfl,hp,rfl,hx,rfl,rfl,rfl,ha,hb,hd,hk⟩
 |_=>exact λ_ _ _ _ _ _ _ _=>trivial
def sQ {l L:Nat}(h:β l L)(hh:S.hid l=bq){a A:Array a6}(ha:Ca S β a A):Cf P S Ck G β (df l a) (df L A) (Gk S Ck):=by
 refine B4 (dA h hh) ?_;rintro DJ ⟨st,pe,fn,x,ps,yH,bo,d⟩ ⟨Io,pe',Fw,X,ps',as',bo',D⟩ hle ⟨h1,h2,h3,h4,h5,h6,h7,h8,h9,h10,h11,ZN⟩;cases h1;cases h2;cases h4;cases h6;cases h7;cases h8;dsimp only at *;rw[ha.size];split
 .exact λ_ _ _ _ _ _ _ _=>trivial
 .refine B5 (.round (hle _ _ h) ⟨hh,h3.1⟩ ?_ h9 h10);have:=qN (l:=ps.toList) (ha.mono hle).toList h5;rw[<-Be,<-Be];simpa using this
def kY (P:bw)(ts:Array a7)(b:Builtin):Prop:=match b with
 |.append=>(∀e s,ts[0]?=b5 s->P.underlying s=b5 (.slice e)->bX P e=bb)/\(∀x k,ts[1]?=b5 x->P.underlying x≠b5 (.int k))
 |.len|.cap=>∀t e d,ts[0]?=b5 t->P.underlying t≠b5 (.chan e d)
 |.min|.max=>True
 |_=>False
def pt (b:Builtin)(ts:Array a7)(t:a7)(cs:Array Bool)
  (hb:kY P.a ts b) {a A:Array a6} (h:Ca S β a A):Cf P S Ck G β (builtin b ts t cs a) (builtin b ts t cs A) (Gk S Ck):=by
 have v:∀ {m M:Sem a6},Cf P S Ck G β m M (λB8 a A=>B6 S B8 a A)->Cf P S Ck G β (do pure (.value (<-m)):Sem Next) (do pure (.value (<-M))) (Gk S Ck):=by
  intro m M hm;refine B4 hm ?_;intro DJ x X _ hx;exact B5 (.value hx)
 cases b with
 |append=>exact v (qI ts t hb.1 hb.2 h)
 |len=>exact v (wH ts t hb h)
 |cap=>exact v (wI ts t hb h)
 |min=>exact v (wK ts t h)
 |max=>exact v (wL ts t h)
 |_=>exact hb.elim
def kZ (hb:P.a.info? big=dr):Dead P (typeInfo big):=λw es=>by
 have e2:program.runT P.a w es=(.ok P.a w,es):=rfl;refine .inl ⟨?_,w,es,?_⟩
 rotate_left
 .unfold typeInfo;rw[aj,e2];dsimp only;rw[hb]
  rfl
def Dead.prog {γ:Type}{k:bw->Sem γ}(h:Dead P (k P.a)):Dead P (program >>= k):=λw es=>by
 rw[aj];exact h w es
def nE (hb:P.a.info? big=dr)(n:Nat)(v:a6)(s:String):Dead P (method n big v s):=by
 cases n with
 |zero=>exact λw es=>.inr ⟨_,_,_,rfl,by intro g e;cases e⟩
 |succ n=>exact(kZ hb).bind _
def lK (hb:P.a.info? big=dr)(n:Nat)(v:a6)(s:String){γ:Type}(k:Option Bool->Sem γ)(hk:∃u,k dr=bc u/\∀g,u≠.initOrder g):Dead P (dn n big v s >>= k):=by
 cases n with
 |zero =>
  obtain⟨u,h1,h2⟩:=hk;intro w es;rw[aj];have e:(dn 0 big v s).runT P.a w es=(.ok dr w,es):=rfl;rw[e];dsimp only;rw[h1];exact .inr ⟨u,w,es,rfl,h2⟩
 |succ n=>exact((kZ hb).bind _).bind k
def iU (hb:P.a.info? big=dr)(a:Array a6):Dead P (invoke (hd a).target (hd a).args):=by
 unfold hd invoke;have e:(#[Value.iface big undef]++a)[0]?=b5 (.iface big undef):=by rw[AU (by decide)];rfl
 dsimp only;rw[e];unfold callMethod;dsimp only;exact Dead.prog ((nE hb _ _ _).bind _)
def gY (hS:Kd P S Ck G){d D:c0}(h:D5 S β d D):Cf P S Ck G β (invoke d.target d.args) (invoke D.target D.args) (Gk S Ck):=by
 cases h with
 |fn hf hc ha=>cases hf with
  |func hs=>exact hS.call _ hs β _ _ (ha.append hc)
  |yield hl hk=>exact sQ hl hk ha
 |nil ha=>exact ax .nilDeref trivial
 |collected h _=>exact B9
 |C3 a A h1 h2 h3=>subst h2;exact EO (iU hS.big a)
def gf {f F:a6}(hf:B6 S β f F){a A:Array a6}(ha:Ca S β a A):Cf P S Ck G β (Deferred.ofValue f a) (Deferred.ofValue F A) (λB8 d D=>D5 S B8 d D):=by
 cases hf with
 |func hf h1 a1 h2 a2=>exact B5 (.fn hf ⟨h2,a2⟩ (Ca.append ⟨h1,a1⟩ ha))
 |nilFunc=>exact B5 (.nil ha)
 |@C3 n x c h=>exact B5 (.C3 a A ha rfl (h.imp (λh=>by cases h;rfl) λh=>⟨h,n,c,x,rfl⟩))
 |_=>exact B9
def ah (SB:bA->Bool):bl->Bool
 |.tmp _=>bb
 |.const v=>plain 8 v
 |.global _=>bq
 |.func f=>SB f
def O8 (SB:bA->Bool):Option bl->Bool
 |some x=>ah SB x
 |none=>bb
def bL (P:bw)(SB:bA->Bool)(c:Call):Bool:=c.args.all (ah SB)&&match c.callee with
 |.value f=>ah SB f
 |.invoke ..=>bq
 |.builtin .append =>
  (match c.argTypes[0]? with
   |some s=>match P.underlying s with
    |some (.slice e)=>bX P e
    |_=>bb
   |none=>bb) &&
  (match c.argTypes[1]? with
   |some x=>match P.underlying x with
    |some (.int _)=>bq
    |_=>bb
   |none=>bb)
 |.builtin b=>b==.min||b==.max||((b==.len||b==.cap)&&match c.argTypes[0]? with
  |some t=>match P.underlying t with
   |some (.chan _ _)=>bq
   |_=>bb
  |none=>bb)
def isEq:cf->Bool
 |.eql|.neq=>bb
 |_=>bq
def fB (P:bw)(t:a7):Bool:=match P.underlying t with
 |some (.slice e)=>bX P e
 |_=>bb
def PO (P:bw)(SB:bA->Bool)(o:Oper):Bool:=match o.op with
 |.move x|.assign x=>ah SB x
 |.pick c a b=>ah SB c&&ah SB a&&ah SB b
 |.alloc t=>bX P t
 |.box _ x=>ah SB x
 |.build t ps=>bX P t&&ps.all (λp=>ah SB p.2)
 |.buildSlice t _ ps=>fB P t&&ps.all (λp=>ah SB p.2)
 |.load _ a=>ah SB a
 |.store _ a v=>ah SB a&&ah SB v
 |.nilCheck x=>ah SB x&&(P.info? big).isNone
 |.binOp op t x y _=>(FL P t||(isEq op&&ct P 12 t))&&ah SB x&&ah SB y
 |.makeInterface _ x|.panic x=>ah SB x
 |.unOp _ _ x=>ah SB x
 |.convert s d x=>gW P s d&&ah SB x
 |.makeFunc fn fs cs=>(match fn with|.func f=>SB f|_=>bq)&&fs.all (ah SB)&&cs.all (ah SB)
 |.makeSlice t l c=>fB P t&&ah SB l&&ah SB c
 |.slice _ x l h m=>ah SB x&&O8 SB l&&O8 SB h&&O8 SB m
 |.fieldAddr s x i=>kz P s i&&ah SB x
 |.field _ x _=>ah SB x
 |.indexAddr _ x i=>ah SB x&&ah SB i
 |.index _ x i=>ah SB x&&ah SB i
 |.extract x _=>ah SB x
 |.call c|.defer c=>bL P SB c
 |_=>bq
end
section
variable {P:CL} {SB:bA->Bool} {H:Hid} {Ck:cK->Prop} {G:Nat} {β:Cm}
def aO (SB:bA->Bool)(f:bA):Bool:=f==83&&(SB 82&&!SB 83)
abbrev SP (SB:bA->Bool)(H:Hid):DT:=⟨λf=>SB f=bb\/aO SB f=bb,H,λf=>SB f=bb⟩
def dC {ρ Ρ:bl->a6}(Ew:∀x,ah SB x=bb->B6 (SP SB H) β (ρ x) (Ρ x)){l:Array bl}(h:l.all (ah SB)=bb):Ca (SP SB H) β (l.map ρ) (l.map Ρ):=by
 simp only[zh] at h;exact Ca.map l λx hx=>Ew x (h x hx)
def lb {ρ Ρ:bl->a6}(Ew:∀x,ah SB x=bb->B6 (SP SB H) β (ρ x) (Ρ x)){ps:Array (Nat×bl)}(h:ps.all (λp=>ah SB p.2)=bb) :
  Ep (SP SB H) β (ps.map λ(i,x)=>(i,ρ x)).toList (ps.map λ(i,x)=>(i,Ρ x)).toList:=by
 simp only[zh] at h;rw[Array.toList_map,Array.toList_map];have:∀l:List (Nat×bl),(∀p∈l,ah SB p.2=bb)->Ep (SP SB H) β (l.map λ(i,x)=>(i,ρ x)) (l.map λ(i,x)=>(i,Ρ x)):=by
  intro l
  induction l with
  |nil=>intro _;exact .nil
  |cons p l ih=>intro hl;exact .cons (Ew _ (hl p (by simp))) (ih λq hq=>hl q (by simp[hq]))
 exact this _ λp hp=>h p (by simpa using hp)
def kC {ρ Ρ:bl->a6}(Ew:∀x,ah SB x=bb->B6 (SP SB H) β (ρ x) (Ρ x)){o:Option bl}(h:O8 SB o=bb):E9 (SP SB H) β (o.map ρ) (o.map Ρ):=by
 cases o with
 |none=>exact .none
 |some x=>exact .some (Ew x h)
def gZ {t:a7}(h:fB P.a t=bb):∀e,P.a.underlying t=b5 (.slice e)->bX P.a e=true:=by
 intro e he;unfold fB at h;rw[he] at h;exact h
def pu {c:Call}(h:bL P.a SB c=bb){b:Builtin}(hc:c.callee=.builtin b):kY P.a c.argTypes b:=by
 unfold bL at h;rw[hc] at h;simp only[yY] at h;obtain⟨_,h⟩:=h;cases b with
 |append =>
  simp only[yY] at h;obtain⟨h1,h2⟩:=h;refine⟨λe s he hs=>?_,λx k hx hk=>?_⟩
  .rw[he] at h1;simp only[hs] at h1;exact h1
  .rw[hx] at h2;simp only[hk] at h2;exact absurd h2 (by decide)
 |len|cap =>
  intro t e d ht hd;rw[ht] at h;simp only[hd] at h;exact absurd h (by decide)
 |min|max=>trivial
 |_=>exfalso;revert h;cases c.argTypes[0]?<;>simp<;>intro h<;>revert h<;>decide
def jm (hS:Kd P (SP SB H) Ck G){ρ Ρ:bl->a6}(Ew:∀x,ah SB x=bb->B6 (SP SB H) β (ρ x) (Ρ x)){c:Call}(t:a7)(h:bL P.a SB c=bb) :
  Cf P (SP SB H) Ck G β (do let d<-resolve ρ c t;invoke d.target d.args) (do let d<-resolve Ρ c t;invoke d.target d.args) (Gk (SP SB H) Ck):=by
 have ha:Ca (SP SB H) β (c.args.map ρ) (c.args.map Ρ):=dC Ew (by unfold bL at h;simp only[yY] at h;exact h.1);unfold resolve;cases hc:c.callee with
 |value f =>
  have hf:ah SB f=true:=by unfold bL at h;rw[hc] at h;simp only[yY] at h;exact h.2
  dsimp only;refine B4 (gf (Ew f hf) ha) ?_;intro DJ d D _ hd;exact gY hS hd
 |invoke r m=>unfold bL at h;rw[hc] at h;simp at h
 |builtin b =>
  have hb:=pu h hc;dsimp only;refine B4 (R:=λB8 (d D:c0)=>β.le B8/\d=⟨.builtin b c.argTypes t (c.args.map λ|.const _=>bb|_=>bq),c.args.map ρ⟩/\D=⟨.builtin b c.argTypes t (c.args.map λ|.const _=>bb|_=>bq),c.args.map Ρ⟩) (B5 ⟨β.le_refl,rfl,rfl⟩) ?_;rintro DJ d D hle ⟨_,rfl,rfl⟩;exact pt b _ _ _ hb (ha.mono hle)
def pv {ρ Ρ:bl->a6}(Ew:∀x,ah SB x=bb->B6 (SP SB H) β (ρ x) (Ρ x)){c:Call}(t:a7)(h:bL P.a SB c=bb)(hb:∀b,c.callee≠.builtin b) :
  Cf P (SP SB H) Ck G β (resolve ρ c t) (resolve Ρ c t) (λB8 d D=>D5 (SP SB H) B8 d D):=by
 have ha:Ca (SP SB H) β (c.args.map ρ) (c.args.map Ρ):=dC Ew (by unfold bL at h;simp only[yY] at h;exact h.1);unfold resolve;cases hc:c.callee with
 |value f =>
  have hf:ah SB f=true:=by unfold bL at h;rw[hc] at h;simp only[yY] at h;exact h.2
  exact gf (Ew f hf) ha
 |invoke r m=>unfold bL at h;rw[hc] at h;simp at h
 |builtin b=>exact absurd hc (hb b)
def dD (P:bw)(SB:bA->Bool)(o:Oper):Bool:=PO P SB o&&match o.op with
 |.defer c=>match c.callee with
  |.builtin _=>bq
  |_=>bb
 |_=>bb
def qO (hG:P.a.globals.size<=G)(hS:Kd P (SP SB H) Ck G){ρ Ρ:bl->a6}(Ew:∀x,ah SB x=bb->B6 (SP SB H) β (ρ x) (Ρ x)){o:Oper}(h:dD P.a SB o=bb) :
  Cf P (SP SB H) Ck G β (execOp ρ o) (execOp Ρ o) (Gk (SP SB H) Ck):=by
 have v:∀ {m M:Sem a6},Cf P (SP SB H) Ck G β m M (λB8 a A=>B6 (SP SB H) B8 a A)->Cf P (SP SB H) Ck G β (do pure (.value (<-m)):Sem Next) (do pure (.value (<-M))) (Gk (SP SB H) Ck):=by
  intro m M hm;refine B4 hm ?_;intro DJ x X _ hx;exact B5 (.value hx)
 have u:∀ {m M:Sem Unit},Cf P (SP SB H) Ck G β m M (λ_ _ _=>True)->Cf P (SP SB H) Ck G β (do m;pure .skip:Sem Next) (do M;pure .skip) (Gk (SP SB H) Ck):=by
  intro m M hm;refine B4 hm ?_;intro DJ x X _ _;exact B5 .skip
 unfold dD PO at h;unfold execOp;cases ho:o.op with
 |move x=>rw[ho] at h;simp at h;exact B5 (.value (Ew x h))
 |assign x=>rw[ho] at h;simp at h;exact B5 (.value (Ew x h))
 |pick c a b =>
  rw[ho] at h;simp at h;refine B4 (gL (Ew c h.1.1)) ?_;rintro DJ t _ hle rfl;refine B5 (.value ?_);split
  .exact(Ew a h.1.2).mono hle
  .exact(Ew b h.2).mono hle
 |alloc t=>rw[ho] at h;simp at h;exact v (sN t h)
 |box t x=>rw[ho] at h;simp at h;exact v (wJ t (Ew x h))
 |build t ps=>rw[ho] at h;simp only[yY,and_true] at h;exact v (sL t h.1 (lb Ew h.2))
 |buildSlice t n ps=>rw[ho] at h;simp only[yY,and_true] at h;exact v (lJ t n (gZ h.1) (lb Ew h.2))
 |load t a=>rw[ho] at h;simp at h;exact v (qJ t (Ew a h))
 |store t a x=>rw[ho] at h;simp at h;exact u (pj t (Ew a h.1) (Ew x h.2))
 |nilCheck x =>
  rw[ho] at h;simp at h;have hx:=Ew x h.1;dsimp only;revert hx;generalize ρ x=v;generalize Ρ x=V;intro hx;cases hx with
  |FJ=>exact ax .nilDeref trivial
  |nilIface=>exact ax .nilDeref trivial
  |nilFunc=>exact ax .nilDeref trivial
  |func hf h1 a1 h2 a2=>cases hf with
   |func hs=>exact B5 (.value (.func (.func hs) h1 a1 h2 a2))
   |yield hl hk=>exact B5 (.value (.func (.yield hl hk) h1 a1 h2 a2))
  |bool b=>exact B5 (.value (.bool b))
  |int k n=>exact B5 (.value (.int k n))
  |string s=>exact B5 (.value (.string s))
  |ptr o s hb=>exact B5 (.value (.ptr o s hb))
  |Fc l c=>exact B5 (.value (.Fc l c))
  |slice o s l c hb=>exact B5 (.value (.slice o s l c hb))
  |Dl h1=>exact B5 (.value (.Dl h1))
  |Fu=>exact B5 (.value .Fu)
  |EX=>exact B5 (.value .EX)
  |iface t r=>exact B5 (.value (.iface t r))
  |agg h1 a1=>exact B5 (.value (.agg h1 a1))
  |tuple h1 a1=>exact B5 (.value (.tuple h1 a1))
  |blank h1 h2 =>
   cases V with
   |pointer a=>cases a with
    |none=>cases h2
    |some a=>exact B5 (.value (.blank h1 h2))
   |func f x c=>cases f with
    |method n=>cases h2
    |_=>exact B5 (.value (.blank h1 h2))
   |nilIface=>cases h2
   |nilFunc=>cases h2
   |_=>exact B5 (.value (.blank h1 h2))
  |C3 h1 =>
   refine EO ?_;show Dead P (program >>= λp=>dn (p.types.size+Made.depth) big undef "" >>= λr=>_);exact Dead.prog (lK h.2 _ _ _ _ ⟨_,rfl,by intro g e;cases e⟩)
 |binOp op t x y t' =>
  rw[ho] at h;simp at h;rcases h.1.1 with hc|⟨he,hf⟩
  .refine v (B4 (pm op hc x y _ _ _ _) ?_);intro DJ _ _ hle _;exact sO hG op hc ((Ew x h.1.2).mono hle) ((Ew y h.2).mono hle)
  .have hop:op=.eql\/op=.neq:=by cases op<;>first|exact .inl rfl|exact .inr rfl|cases he
   by_cases hu:ρ x=hole\/ρ y=hole
   .exact v (EO (po hop hf (Ew x h.1.2) (Ew y h.2) hu))
   refine v (B4 (nC op hf x y (Ew x h.1.2) (Ew y h.2) hu) ?_);intro DJ _ _ hle _;exact qM hG hop hf ((Ew x h.1.2).mono hle) ((Ew y h.2).mono hle) hu
 |panic x=>rw[ho] at h;simp at h;exact v (pq (Ew x h))
 |makeInterface t x =>
  rw[ho] at h;simp at h;refine v (B4 (ak _) ?_);rintro DJ d _ hle ⟨rfl,_⟩;cases d with
  |interface _=>exact B9
  |_=>exact B5 (.iface _ ((Ew x h).mono hle))
 |unOp op t x=>rw[ho] at h;simp at h;exact v (sP op (Ew x h))
 |convert s d x=>rw[ho] at h;simp at h;exact v (pn h.1 (Ew x h.2))
 |makeFunc fn fs cs =>
  rw[ho] at h;simp only[yY,and_true] at h;obtain⟨⟨h1,h2⟩,h3⟩:=h;cases fn with
  |func f =>
   have a1:=dC (β:=β) Ew h2;have a2:=dC (β:=β) Ew h3;exact v (B5 (.func (.func (.inl h1)) a1.size a1.at_ a2.size a2.at_))
  |_=>simp at h1
 |makeSlice t l c=>rw[ho] at h;simp at h;exact v (l7 t (gZ h.1.1) (Ew l h.1.2) (Ew c h.2))
 |slice t x l hi mx=>rw[ho] at h;simp at h;exact v (ph t (Ew x h.1.1.1) (kC Ew h.1.1.2) (kC Ew h.1.2) (kC Ew h.2))
 |fieldAddr s x i=>rw[ho] at h;simp at h;exact v (pf s (Ew x h.2) i h.1)
 |field t x i=>rw[ho] at h;simp at h;exact v (sJ t (Ew x h) i)
 |indexAddr t x i=>rw[ho] at h;simp at h;exact v (pg t (Ew x h.1) (Ew i h.2))
 |index t x i=>rw[ho] at h;simp at h;exact v (sK t (Ew x h.1) (Ew i h.2))
 |extract x i=>rw[ho] at h;simp at h;exact v (pi (Ew x h) i)
 |call c=>rw[ho] at h;simp at h;exact jm hS Ew _ h
 |defer c =>
  rw[ho] at h;simp only[yY] at h;refine B4 (pv Ew _ h.1 (λb e=>by rw[e] at h;simp at h)) ?_;intro DJ d D _ hd;exact B5 (.defer hd)
 |_=>rw[ho] at h;simp at h
end
end Go.Ct
