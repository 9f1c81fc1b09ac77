/- Parts of the proof. -/
import Derived.Test.YteckikkkfpblhaaGreatP03
import Derived.Test.YteckikkkfpblhaaGreatP00
set_option linter.all false
set_option maxHeartbeats 4000000
namespace Go.AW
section
variable {P:Ba} {S:Cb} {Ck:Code->Prop} {G:Nat} {β:AO}
def E2 {t:TypeId}(h:Ek P.a t=true):(∃k,P.a.underlying t=some (.int k))\/P.a.underlying t=some .bool\/P.a.underlying t=some .string:=by
 unfold Ek at h;cases hd:P.a.underlying t with
 |none=>rw[hd] at h;cases h
 |some d =>
  rw[hd] at h;cases d with
  |int k=>exact .inl ⟨k,rfl⟩
  |bool=>exact .inr (.inl rfl)
  |string=>exact .inr (.inr rfl)
  |_=>cases h
def kz (hG:P.a.globals.size<=G)(m:Nat){t:TypeId}(h:Ek P.a t=true){v V x X:Value}(hv:Aw S β v V)(hx:Aw S β x X):AE P S Ck G β (Op.equalIn (m+1) t v x) (Op.equalIn (m+1) t V X) (λ_ a A=>a=A):=by
 unfold Op.equalIn;refine Ar (al _) ?_;rintro B7 d _ hle ⟨rfl,hd⟩;replace hv:=hv.mono hle;replace hx:=hx.mono hle;rcases E2 h with⟨k,e⟩|e|e
 .rw[e] at hd;cases hd;cases hv with
  |int k a=>cases hx with
   |int k' b =>
    dsimp only;split
    .exact Au rfl
    .exact Az
   |ptr o s hb =>
    by_cases h0:a=0
    .subst h0;exact Au rfl
    .refine EB λw es=>⟨.addressObserved,w,es,?_,by intro g e;cases e⟩;cases a with
     |ofNat n=>cases n with
      |zero=>exact absurd rfl h0
      |succ n=>rfl
     |negSucc n=>rfl
   |Eh=>exact EB λw es=>⟨.addressObserved,w,es,rfl,by intro g e;cases e⟩
   |_=>exact Az
  |ptr o s hb=>cases hx with
   |int k' b =>
    by_cases h0:b=0
    .subst h0;exact Au rfl
    .refine EB λw es=>⟨.addressObserved,w,es,?_,by intro g e;cases e⟩;cases b with
     |ofNat n=>cases n with
      |zero=>exact absurd rfl h0
      |succ n=>rfl
     |negSucc n=>rfl
   |ptr o' s' hb' =>
    have h1:BF B7 ⟨_,o,s⟩ ⟨_,o,s⟩:=BF.mk hb rfl rfl;have h2:BF B7 ⟨_,o',s'⟩ ⟨_,o',s'⟩:=BF.mk hb' rfl rfl;refine Ar (dg h1) ?_;rintro BS ⟨p,_⟩ ⟨p',_⟩ Bp ⟨hp,_⟩;refine Ar (dg (h2.mono Bp)) ?_;rintro CQ ⟨q,_⟩ ⟨q',_⟩ Bv ⟨hq,_⟩;intro w W n hw ht BV B5 Jh;have hp:=hp.mono Bv;have l1:G<=p.block/\G<=p'.block:=(hw.B6.lo hp.block);have l2:G<=q.block/\G<=q'.block:=(hw.B6.lo hq.block)
    clear Bv;have e1:(p==q)=(p'==q'):=by
     obtain⟨b,o,s⟩:=p;obtain⟨B,O,t'⟩:=p';obtain⟨b',o',s'⟩:=q;obtain⟨B',O',t''⟩:=q';obtain⟨a1,a2,a3⟩:=hp;obtain⟨b1,b2,b3⟩:=hq;cases a2;cases a3;cases b2;cases b3;rw[Bool.eq_iff_iff];simp only[beq_iff_eq,Addr.mk.injEq];constructor
     .rintro⟨rfl,r⟩;exact⟨hw.B6.fn a1 b1,r⟩
     .rintro⟨rfl,r⟩;exact⟨hw.B6.inj a1 b1,r⟩
    refine(?_:AE P S Ck G CQ _ _ _) w W n hw ht BV B5 Jh;clear Jh BV B5 ht n;refine Ar aQ ?_;rintro ID pr pr' EL ⟨hpr,hpr'⟩;subst pr pr';have n1:¬(p.block==q.block&&decide (p.block<P.a.globals.size))=true:=by simp only[xC,beq_iff_eq,decide_eq_true_eq];omega
    have n2:¬(p'.block==q'.block&&decide (p'.block<P.b.globals.size))=true:=by rw[show P.b.globals=P.a.globals from rfl];simp only[xC,beq_iff_eq,decide_eq_true_eq];omega
    simp only[if_neg n1,if_neg n2];refine Ar (bf _) ?_;rintro JA i _ EM ⟨rfl,_⟩;split
    .rw[e1];split
     .exact Au rfl
     .exact AB (by intro g e;cases e)
    .exact AB (by intro g e;cases e)
   |_=>exact EB λw es=>⟨.addressObserved,w,es,rfl,by intro g e;cases e⟩
  |Eh=>cases hx<;>exact EB λw es=>⟨.addressObserved,w,es,rfl,by intro g e;cases e⟩
  |_=>cases hx<;>first|exact Az|exact EB λw es=>⟨.addressObserved,w,es,rfl,by intro g e;cases e⟩
 .rw[e] at hd;cases hd;cases hv with
  |bool a=>cases hx with
   |bool b=>exact Au rfl
   |_=>exact Az
  |_=>exact Az
 .rw[e] at hd;cases hd;cases hv with
  |string a=>cases hx with
   |string b=>exact Au rfl
   |_=>exact Az
  |_=>exact Az
def lH (hG:P.a.globals.size<=G){t:TypeId}(h:Ek P.a t=true){v V x X:Value}(hv:Aw S β v V)(hx:Aw S β x X):AE P S Ck G β (Op.equal t v x) (Op.equal t V X) (λ_ a A=>a=A) :=
 kz hG 9999 h hv hx
def nG {m:Sem Value}(h:(∃v,(∀(S:Cb) (β:AO),Aw S β v v)/\m=pure v)\/(∃s,m=stuck s)\/(∃u,m=unsupported u/\∀g,u≠.initOrder g)\/(∃s,m=runtimePanic (.error s))) :
  AE P S Ck G β m m (λAx a A=>Aw S Ax a A):=by
 rcases h with⟨v,h,rfl⟩|⟨s,rfl⟩|⟨u,rfl,h⟩|⟨s,rfl⟩
 .exact Au (h _ _)
 .exact Az
 .exact AB h
 .exact az _ trivial
def Ga (op:BinOp)(t:TypeId)(k k':IntKind)(a b:Int):AE P S Ck G β (binOp op t (.int k a) (.int k' b)) (binOp op t (.int k a) (.int k' b)) (λAx a A=>Aw S Ax a A):=by
  refine nG ?_;have iv:∀(k:IntKind) (n:Int),(∀(S:Cb) (β:AO),Aw S β (.int k n) (.int k n)):=λk n _ _=>.int _ _;have bv:∀(b:Bool),(∀(S:Cb) (β:AO),Aw S β (.bool b) (.bool b)):=λb _ _=>.bool _;cases op with
  | shl => unfold binOp Op.shift; dsimp only; split
           · exact .inr (.inr (.inr ⟨_, rfl⟩))
           · exact .inl ⟨_,iv _ _,rfl⟩
  | shr => unfold binOp Op.shift; dsimp only; split
           · exact .inr (.inr (.inr ⟨_, rfl⟩))
           · exact .inl ⟨_,iv _ _,rfl⟩
  | quo => unfold binOp Op.intDiv; dsimp only; split
           · exact .inr (.inl ⟨_, rfl⟩)
           · split
             · exact .inr (.inr (.inr ⟨_, rfl⟩))
             · exact .inl ⟨_,iv _ _,rfl⟩
  | rem => unfold binOp Op.intDiv; dsimp only; split
           · exact .inr (.inl ⟨_, rfl⟩)
           · split
             · exact .inr (.inr (.inr ⟨_, rfl⟩))
             · exact .inl ⟨_,iv _ _,rfl⟩
  |add|sub|mul|and|or|xor|andNot =>
    unfold binOp;dsimp only;split
    · exact .inr (.inl ⟨_,rfl⟩)
    · exact .inl ⟨_,iv _ _,rfl⟩
  |eql|neq|lss|leq|gtr|geq =>
    unfold binOp;dsimp only;split
    · exact .inr (.inl ⟨_,rfl⟩)
    · exact .inl ⟨_,bv _,rfl⟩
def fg (op:BinOp)(x y:ByteArray):AE P S Ck G β (Op.stringOp op x y) (Op.stringOp op x y) (λAx a A=>Aw S Ax a A):=by
  refine nG ?_;have bv:∀(b:Bool),(∀(S:Cb) (β:AO),Aw S β (.bool b) (.bool b)):=λb _ _=>.bool _;cases op with
  | add => unfold Op.stringOp; dsimp only; split
           · exact .inr (.inr (.inl ⟨_, rfl, by intro g e; cases e⟩))
           · exact .inl ⟨_,λ_ _=>.string _,rfl⟩
  |eql|neq|lss|leq|gtr|geq=>exact .inl ⟨_,bv _,rfl⟩
  |_=>exact .inr (.inl ⟨_,rfl⟩)
def kB {t:TypeId}(h:Ek P.a t=true){v V x X:Value}(hv:Aw S β v V)(hx:Aw S β x X):AE P S Ck G β (do if(<-underlying t) matches .unsafePointer then movedPointer t v x else movedNumber t v x) (do if(<-underlying t) matches .unsafePointer then movedPointer t V X else movedNumber t V X) (λAx a A=>Aw S Ax a A):=by
 refine Ar (al _) ?_;rintro B7 d _ hle ⟨rfl,hd⟩;have:=bY (P:=P) (Ck:=Ck) (G:=G) t (hv.mono hle) (hx.mono hle);rcases E2 h with⟨k,e⟩|e|e<;>(rw[e] at hd;cases hd;exact this)
def gH (hG:P.a.globals.size<=G){a A b B:Addr}(ha:BF β a A)(hb:BF β b B)(f F:Nat×Nat->Sem Value):AE P S Ck G β (do let x<-behindNumber a;let y<-behindNumber b;(Op.twoPlaces x.1 y.1) >>= f) (do let x<-behindNumber A;let y<-behindNumber B;(Op.twoPlaces x.1 y.1) >>= F) (λAx a A=>Aw S Ax a A):=by
 refine Ar (dg ha) ?_;rintro BS ⟨p,_⟩ ⟨p',_⟩ Bp ⟨hp,_⟩;refine Ar (dg (hb.mono Bp)) ?_;rintro CQ ⟨q,_⟩ ⟨q',_⟩ Bv ⟨hq,_⟩;exact Ar (lG hG (hp.mono Bv)) (λ_ _ _ _ h=>h.elim)
def Ma (k:IntKind){a A:Addr}(ha:BF β a A)(n:Int):AE P S Ck G β (do Op.addrMod k (<-behindNumber a).1 n) (do Op.addrMod k (<-behindNumber A).1 n) (λAx a A=>Aw S Ax a A):=by
 refine Ar (dg ha) ?_;rintro BS ⟨p,_⟩ ⟨p',_⟩ Bp ⟨hp,_⟩;exact oB k hp n
def Dead (P:Ba){α:Type}(m:Sem α):Prop:=∀w es,(∃s w' es',m.runT P.a w es=(.halt (.stuck s) w',es'))\/∃u w' es',m.runT P.a w es=(.halt (.unsupported u) w',es')/\∀g,u≠.initOrder g
def Df {α Ej:Type}{m:Sem α}{M:Sem Ej}{R:AO->α->Ej->Prop}(h:Dead P m):AE P S Ck G β m M R:=by
 intro w W n hw ht BV B5 hb;rcases h w BV with⟨s,w',es',e⟩|⟨u,w',es',e,hu⟩
 .rw[e];trivial
 .rw[e];exact hu
def Dead.bind {α γ:Type}{m:Sem α}(h:Dead P m)(k:α->Sem γ):Dead P (m >>= k):=by
 intro w es;rw[aj];rcases h w es with⟨s,w',es',e⟩|⟨u,w',es',e,hu⟩
 .rw[e];exact .inl ⟨s,w',es',rfl⟩
 .rw[e];exact .inr ⟨u,w',es',rfl,hu⟩
def jr {t:TypeId}(h:Ek P.a t=true){v V x X:Value}(hv:Aw S β v V)(hx:Aw S β x X)(hu:v=hole\/x=hole):Dead P (Op.equal t v x):=by
 intro w es;have hr:∀d,P.a.underlying t=some d->(underlying t).runT P.a w es=(.ok d w,es):=λd e=>by
  unfold underlying;rw[aj];show(match(P.a.underlying t) with|some d=>pure d|none=>stuck _:Sem TypeDesc).runT P.a w es=_;rw[e];rfl
 show(∃s w' es',(Op.equalIn (9999+1) t v x).runT P.a w es=_)\/∃u w' es',(Op.equalIn (9999+1) t v x).runT P.a w es=_/\_;unfold Op.equalIn;rw[aj];rcases E2 h with⟨k,e⟩|e|e<;>rw[hr _ e]<;>rcases hu with rfl|rfl
 .cases hx<;>first|exact .inl ⟨_,_,_,rfl⟩|exact .inr ⟨.addressObserved,_,_,rfl,by intro g e;cases e⟩
 .cases hv<;>first|exact .inl ⟨_,_,_,rfl⟩|exact .inr ⟨.addressObserved,_,_,rfl,by intro g e;cases e⟩
 .cases hx<;>first|exact .inl ⟨_,_,_,rfl⟩|exact .inr ⟨.addressObserved,_,_,rfl,by intro g e;cases e⟩
 .cases hv<;>first|exact .inl ⟨_,_,_,rfl⟩|exact .inr ⟨.addressObserved,_,_,rfl,by intro g e;cases e⟩
 .cases hx<;>first|exact .inl ⟨_,_,_,rfl⟩|exact .inr ⟨.addressObserved,_,_,rfl,by intro g e;cases e⟩
 .cases hv<;>first|exact .inl ⟨_,_,_,rfl⟩|exact .inr ⟨.addressObserved,_,_,rfl,by intro g e;cases e⟩
def binOp_eql {t:TypeId}{V X:Value}(h1:∀k a k' b,V=.int k a->X=.int k' b->False)(h2:∀k a k' b,V=.float k a->X=.float k' b->False)(h3:∀k a b k' c d,V=.complex k a b->X=.complex k' c d->False)(h4:∀a b,V=.string a->X=.string b->False) :
  binOp .eql t V X=(do pure (.bool (<-Op.equal t V X)))/\binOp .neq t V X=(do pure (.bool (!(<-Op.equal t V X)))):=by
 constructor
 all_goals
  rw[binOp.eq_def];split
  all_goals first|contradiction|rfl|(exfalso;first|exact h1 _ _ _ _ rfl rfl|exact h2 _ _ _ _ rfl rfl|exact h3 _ _ _ _ _ _ rfl rfl|exact h4 _ _ rfl rfl)
def rP (hG:P.a.globals.size<=G)(op:BinOp){t:TypeId}(h:Ek P.a t=true){v V x X:Value}(hv:Aw S β v V)(hx:Aw S β x X):AE P S Ck G β (binOp op t v x) (binOp op t V X) (λAx a A=>Aw S Ax a A):=by
 have he:AE P S Ck G β (do pure (.bool (<-Op.equal t v x)):Sem Value) (do pure (.bool (<-Op.equal t V X))) (λAx a A=>Aw S Ax a A) :=
  Ar (lH hG h hv hx) (by rintro B7 b _ _ rfl;exact Au (.bool _))
 have hn:AE P S Ck G β (do pure (.bool (!(<-Op.equal t v x))):Sem Value) (do pure (.bool (!(<-Op.equal t V X)))) (λAx a A=>Aw S Ax a A) :=
  Ar (lH hG h hv hx) (by rintro B7 b _ _ rfl;exact Au (.bool _))
 have mk:∀ {b B:Nat} (o:Nat) (s:Option Nat),β b B->BF β ⟨b,o,s⟩ ⟨B,o,s⟩:=λo s h=>⟨h,rfl,rfl⟩;rw[binOp.eq_def op t v x];split
 .cases hv;cases hx;exact Ga .shl t _ _ _ _
 .cases hv;cases hx;exact Ga .shr t _ _ _ _
 .rename_i k a k' b n1 n2;cases hv;cases hx;have:=Ga (P:=P) (S:=S) (Ck:=Ck) (G:=G) (β:=β) op t k k' a b;cases op with
  |shl=>exact(n1 rfl).elim
  |shr=>exact(n2 rfl).elim
  |_=>exact this
 .cases hv
 .cases hv
 .cases hv;cases hx
  have e:∀x y,binOp op t (.string x) (.string y)=Op.stringOp op x y:=λx y=>by cases op<;>rfl
  rw[e];exact fg _ _ _
 .rename_i n1 n2 n3 n4;by_cases hu:v=hole\/x=hole
  .exact Df ((jr h hv hx hu).bind _)
  rw[(binOp_eql (t:=t) (V:=V) (X:=X) ?_ ?_ ?_ ?_).1]
  .exact he
  .rintro k a k' b rfl rfl;cases hv with
   |int=>cases hx with
    |int=>exact n1 _ _ _ _ rfl rfl
    |blank _ _=>exact hu (.inr rfl)
   |blank _ _=>exact hu (.inl rfl)
  .rintro k a k' b rfl rfl;cases hv;exact hu (.inl rfl)
  .rintro k a k' b c d rfl rfl;cases hv;exact hu (.inl rfl)
  .rintro a b rfl rfl;cases hv with
   |string=>cases hx with
    |string=>exact n4 _ _ rfl rfl
    |blank _ _=>exact hu (.inr rfl)
   |blank _ _=>exact hu (.inl rfl)
 .rename_i n1 n2 n3 n4;by_cases hu:v=hole\/x=hole
  .exact Df ((jr h hv hx hu).bind _)
  rw[(binOp_eql (t:=t) (V:=V) (X:=X) ?_ ?_ ?_ ?_).2]
  .exact hn
  .rintro k a k' b rfl rfl;cases hv with
   |int=>cases hx with
    |int=>exact n1 _ _ _ _ rfl rfl
    |blank _ _=>exact hu (.inr rfl)
   |blank _ _=>exact hu (.inl rfl)
  .rintro k a k' b rfl rfl;cases hv;exact hu (.inl rfl)
  .rintro k a k' b c d rfl rfl;cases hv;exact hu (.inl rfl)
  .rintro a b rfl rfl;cases hv with
   |string=>cases hx with
    |string=>exact n4 _ _ rfl rfl
    |blank _ _=>exact hu (.inr rfl)
   |blank _ _=>exact hu (.inl rfl)
 .cases hx
  cases hv with
  |Eh=>exact kB h .Eh (.int _ _)
  |ptr o s hb=>exact kB h (.ptr o s hb) (.int _ _)
 .cases hv
  cases hx with
  |Eh=>exact bY _ .Eh (.int _ _)
  |ptr o s hb=>exact bY _ (.ptr o s hb) (.int _ _)
 .cases hx
  cases hv with
  |Eh=>exact bY _ .Eh (.int _ _)
  |ptr o s hb=>exact bY _ (.ptr o s hb) (.int _ _)
 .cases hv with
  |ptr o s hb=>cases hx with
   |ptr o' s' hb'=>exact gH hG (mk o s hb) (mk o' s' hb') _ _
 .cases hv with
  |ptr o s hb=>cases hx with
   |ptr o' s' hb'=>exact gH hG (mk o s hb) (mk o' s' hb') _ _
 .cases hv with
  |ptr o s hb=>cases hx with
   |ptr o' s' hb'=>exact gH hG (mk o s hb) (mk o' s' hb') _ _
 .cases hv with
  |ptr o s hb=>cases hx with
   |ptr o' s' hb'=>exact gH hG (mk o s hb) (mk o' s' hb') _ _
 .cases hv with
  |ptr o s hb=>cases hx with
   |ptr o' s' hb'=>exact gH hG (mk o s hb) (mk o' s' hb') _ _
 .cases hv with
  |ptr o s hb=>cases hx;exact Ma _ (mk o s hb) _
 .cases hv with
  |ptr o s hb=>cases hx;exact Ma _ (mk o s hb) _
 .cases hv
  cases hx with
  |ptr o s hb=>exact Ma _ (mk o s hb) _
 .exact AB (u:=.addressObserved) (by intro g e;cases e)
 .exact AB (u:=.addressObserved) (by intro g e;cases e)
 .exact Az
end
inductive EN (S:Cb)(Ck:Code->Prop)(β:AO):Next->Next->Prop
 |value {v V:Value}:Aw S β v V->EN S Ck β (.value v) (.value V)
 |skip:EN S Ck β .skip .skip
 |enter {f:FuncId} {a A:Array Value}:S.fn f->AA S β a A->EN S Ck β (.enter f a) (.enter f A)
 |round {l L:Nat} {f:FuncId} {x X:Array Value} {xd bo:Code}:β l L->S.hid l=false/\S.fr f->AA S β x X->Ck xd->Ck bo->EN S Ck β (.round l f x xd bo) (.round L f X xd bo)
 |defer {d D:Deferred}:Cl S β d D->EN S Ck β (.defer d) (.defer D)
section
variable {P:Ba} {S:Cb} {Ck:Code->Prop} {G:Nat} {β:AO}
def IM {p:Program}{t:TypeId}{d:TypeDesc}(e:p.underlying t=some d)(w:World)(es:Array Event):(underlying t).runT p w es=(.ok d w,es):=by
 unfold underlying;rw[aj];have e2:program.runT p w es=(.ok p w,es):=rfl;rw[e2];dsimp only;rw[e]
 rfl
def cY {p:Program}(hp:∀t,p.underlying t=P.a.underlying t){t:TypeId}(h:Ek P.a t=true)(n:Nat)(v x:Value)(w:World)(es:Array Event):(Op.eqGuardIn (n+1) t v x).runT p w es=(.ok false w,es):=by
 unfold Op.eqGuardIn;rw[aj];rcases E2 h with⟨k,e⟩|e|e<;>(rw[IM ((hp t).trans e)];rfl)
def iI {p:Program}(hp:∀t,p.underlying t=P.a.underlying t)(op:BinOp){t:TypeId}(h:Ek P.a t=true)(xo yo:Operand)(v x:Value)(w:World)(es:Array Event):(eqGuard op t xo yo v x).runT p w es=(.ok () w,es):=by
  unfold eqGuard;cases op<;>try rfl
  all_goals
    rw[if_neg (by simp)];split
    · cases xo <;> cases yo <;> first
        |rfl
        | (rw [if_neg (by simp), aj, show Op.maxDepth = 9999 + 1 from rfl, cY hp h]
           rfl)
    · rw[aj]
      have e2:program.runT p w es=(.ok p w,es):=rfl;rw[e2];dsimp only;rw[aj,e2];dsimp only;split
      · rfl
      · rw[aj,show Op.maxDepth=9999+1 from rfl,cY hp h]
        rfl
    · rfl
def oC (op:BinOp){t:TypeId}(h:Ek P.a t=true)(xo yo:Operand)(v x V X:Value):AE P S Ck G β (eqGuard op t xo yo v x) (eqGuard op t xo yo V X) (λ_ _ _=>True):=by
 intro w W n hw ht BV B5 hb;rw[iI (λ_=>rfl) op h,iI P.underlying op h];exact⟨β,(),W,[],by simp,trivial,Fin.refl hw⟩
def rQ (op:UnOp){v V:Value}(hv:Aw S β v V):AE P S Ck G β (Op.unary op v) (Op.unary op V) (λAx a A=>Aw S Ax a A):=by
 cases hv with
 |int k n=>cases op with
  |neg=>exact Au (.int _ _)
  |xor=>exact Au (.int _ _)
  |_=>exact Az
 |bool b=>cases op with
  |not=>exact Au (.bool _)
  |_=>exact Az
 |ptr o s hb=>cases op with
  |neg=>exact AB (u:=.addressObserved) (by intro g e;cases e)
  |xor=>exact AB (u:=.addressObserved) (by intro g e;cases e)
  |_=>exact Az
 |_=>cases op<;>exact Az
def gI (P:Program)(s d:TypeId):Bool:=match P.underlying s,P.underlying d with
 |some (.int _),some (.int _)=>true
 |_,_=>false
def oD {s d:TypeId}(h:gI P.a s d=true){v V:Value}(hv:Aw S β v V):AE P S Ck G β (convert s d v) (convert s d V) (λAx a A=>Aw S Ax a A):=by
 refine Ar (al _) ?_;rintro B7 a _ hle ⟨rfl,h1⟩;refine Ar (al _) ?_;rintro BS b _ Bp ⟨rfl,h2⟩;unfold gI at h;rw[h1,h2] at h;cases a with
 |int k=>cases b with
  |int k'=>cases hv with
   |int k n=>exact Au (.int _ _)
   |ptr o s hb=>exact AB (u:=.addressObserved) (by intro g e;cases e)
   |_=>exact EB λw es=>⟨_,w,es,rfl,by intro g e;cases e⟩
  |_=>cases h
 |_=>cases b<;>cases h
def tH {v V x X:Value}(hv:Aw S β v V)(hx:Aw S β x X):AE P S Ck G β (Builtin.min2 v x) (Builtin.min2 V X) (λAx a A=>Aw S Ax a A):=by
 cases hv with
 |int k n=>cases hx with
  |int k' m=>exact Au (.int _ _)
  |ptr o s hb=>exact AB (u:=.addressObserved) (by intro g e;cases e)
  |_=>exact Az
 |string a=>cases hx with
  |string b =>
   refine Ar (fg _ _ _) ?_;intro B7 c C _ hc;refine Ar (gw hc) ?_;rintro BS c _ _ rfl;exact Au (.string _)
  |ptr o s hb=>exact AB (u:=.addressObserved) (by intro g e;cases e)
  |_=>exact Az
 |ptr o s hb=>exact AB (u:=.addressObserved) (by intro g e;cases e)
 |_=>cases hx<;>first|exact Az|exact AB (u:=.addressObserved) (by intro g e;cases e)
def tI {v V x X:Value}(hv:Aw S β v V)(hx:Aw S β x X):AE P S Ck G β (Builtin.max2 v x) (Builtin.max2 V X) (λAx a A=>Aw S Ax a A):=by
 cases hv with
 |int k n=>cases hx with
  |int k' m=>exact Au (.int _ _)
  |ptr o s hb=>exact AB (u:=.addressObserved) (by intro g e;cases e)
  |_=>exact Az
 |string a=>cases hx with
  |string b =>
   refine Ar (fg _ _ _) ?_;intro B7 c C _ hc;refine Ar (gw hc) ?_;rintro BS c _ _ rfl;exact Au (.string _)
  |ptr o s hb=>exact AB (u:=.addressObserved) (by intro g e;cases e)
  |_=>exact Az
 |ptr o s hb=>exact AB (u:=.addressObserved) (by intro g e;cases e)
 |_=>cases hx<;>first|exact Az|exact AB (u:=.addressObserved) (by intro g e;cases e)
def gJ {f:Value->Value->Sem Value}(hf:∀β v V x X,Aw S β v V->Aw S β x X->AE P S Ck G β (f v x) (f V X) (λAx a A=>Aw S Ax a A)) :
  ∀ {l L:List Value} {v V:Value} {β:AO},BJ (Aw S β) l L->Aw S β v V->AE P S Ck G β (l.foldlM f v) (L.foldlM f V) (λAx a A=>Aw S Ax a A)
 |[],_,_,_,_,h,hv=>by cases h;exact Au hv
 |x::l,_,_,_,_,h,hv=>by
  cases h with
  |cons hx hl =>
   simp only[List.foldlM_cons];refine Ar (hf _ _ _ _ _ hv hx) ?_;intro B7 y Y hle hy;exact gJ hf (hl.mono λ_ _=>Aw.mono hle) hy
def uZ (ts:Array TypeId)(t:TypeId){a A:Array Value}(h:AA S β a A):AE P S Ck G β (Builtin.min_ ts t a) (Builtin.min_ ts t A) (λAx v V=>Aw S Ax v V):=by
 unfold Builtin.min_;have:=h.toList;revert this;generalize a.toList=l;generalize A.toList=L;intro hl;cases hl with
 |nil=>exact Az
 |cons hx hl=>exact gJ (λβ v V x X=>tH) hl hx
def u7 (ts:Array TypeId)(t:TypeId){a A:Array Value}(h:AA S β a A):AE P S Ck G β (Builtin.max_ ts t a) (Builtin.max_ ts t A) (λAx v V=>Aw S Ax v V):=by
 unfold Builtin.max_;have:=h.toList;revert this;generalize a.toList=l;generalize A.toList=L;intro hl;cases hl with
 |nil=>exact Az
 |cons hx hl=>exact gJ (λβ v V x X=>tI) hl hx
end
def cr (P:Program):Nat->TypeId->Bool
 |0,_=>false
 |d+1,t=>Ek P t||match P.underlying t with
  |some (.struct fs)=>fs.all λf=>cr P d f.type
  |some (.array _ e)=>cr P d e
  |some (.slice _)=>true
  |_=>false
def Ba.alikeButTags (P:Ba)(d:Nat):P.b.alikeButTags d=P.a.alikeButTags d:=by
 induction d with
 |zero=>rfl
 |succ d ih =>
  funext t u;unfold Program.alikeButTags;rw[ih]
  rfl
def Ba.stoodInHeld (P:Ba)(t:TypeId):P.b.stoodInHeld t=P.a.stoodInHeld t:=by
 unfold Program.stoodInHeld Program.stoodInAs;rw[Ba.alikeButTags,show P.b.depth=P.a.depth from rfl]
 rfl
def Ba.eqGuardType (P:Ba)(d:Nat):P.b.eqGuardType d=P.a.eqGuardType d:=by
 induction d with
 |zero=>rfl
 |succ d ih =>
  funext t;unfold Program.eqGuardType;rw[ih]
  rfl
section
variable {P:Ba} {S:Cb} {Ck:Code->Prop} {G:Nat} {β:AO}
def eu {γ σ:Type}{f F:γ->σ->Sem (ForInStep σ)}:∀(l:List γ) (s:σ) (β:AO),(∀x∈l,∀s Ax,β.le Ax->AE P S Ck G Ax (f x s) (F x s) (λ_ a A=>a=A)) ->
  AE P S Ck G β (forIn l s f) (forIn l s F) (λ_ a A=>a=A)
 |[],s,β,_=>by
  simp only[List.forIn_nil];exact Au rfl
 |x::l,s,β,h=>by
  simp only[List.forIn_cons];refine Ar (h x (by simp) s β β.le_refl) ?_;rintro B7 a _ hle rfl;cases a with
  |done b=>exact Au rfl
  |yield b=>exact eu l b B7 λy hy s Ax O9=>h y (by simp[hy]) s Ax (AO.le_trans hle O9)
def fh (hG:P.a.globals.size<=G):∀(n k:Nat) {t:TypeId} (β:AO),cr P.a k t=true->∀ {v V x X:Value},Aw S β v V->Aw S β x X->AE P S Ck G β (Op.equalIn n t v x) (Op.equalIn n t V X) (λ_ a A=>a=A)
 |0,_,_,_,_,_,_,_,_,_,_=>AB (by intro g e;cases e)
 |_+1,0,_,_,h,_,_,_,_,_,_=>by cases h
 |n+1,k+1,t,β,h,v,V,x,X,hv,hx=>by
  by_cases hc:Ek P.a t=true
  .exact kz hG n hc hv hx
  .unfold cr at h;rw[Bool.eq_false_iff.2 hc,Bool.false_or] at h;unfold Op.equalIn;refine Ar (al _) ?_;rintro B7 d _ hle ⟨rfl,hd⟩;replace hv:=hv.mono hle;replace hx:=hx.mono hle;rw[hd] at h;cases d with
   |struct fs =>
    simp only[xM] at h;cases hv with
    |agg h1 h2 =>
     cases hx with
     |agg h3 h4 =>
      rename_i a A b B;have ha:AA S B7 a A:=⟨h1,h2⟩;have hb:AA S B7 b B:=⟨h3,h4⟩;refine Ar aQ ?_;rintro BS p p' Bp ⟨hp,YH⟩;subst p p';rw[Ba.stoodInHeld];split
      .exact Ar (R:=λ_ _ _=>False) (AB (by intro g e;cases e)) (λ_ _ _ _ h=>h.elim)
      .refine Ar (R:=λ_ a A=>a=A) ?_ ?_
       .rw[<-zy,<-zy];refine eu _ _ _ λf hf s CQ Bv=>?_;split
        .refine Ar (cy _ ((ha.mono Bp).mono Bv) _) ?_;intro ID p1 P1 EL Gu;refine Ar (cy _ (((hb.mono Bp).mono Bv).mono EL) _) ?_;intro JA p2 P2 EM Mb;refine Ar (fh hG n k JA (h f (by simpa using hf)) (Gu.mono EM) Mb) ?_;rintro SL r _ _ rfl;cases r<;>exact Au rfl
        .exact Au rfl
       .rintro CQ ⟨a,_⟩ _ _ rfl;cases a<;>exact Au rfl
     |_=>exact Az
    |_=>first|exact Az|(cases hx<;>exact Az)
   |array len e =>
    cases hv with
    |agg h1 h2 =>
     cases hx with
     |agg h3 h4 =>
      rename_i a A b B;have ha:AA S B7 a A:=⟨h1,h2⟩;have hb:AA S B7 b B:=⟨h3,h4⟩;refine Ar (aH _) ?_;rintro BS m _ Bp rfl;refine Ar (R:=λ_ a A=>a=A) ?_ ?_
      .simp only[Std.Legacy.Range.forIn_eq_forIn_range'];refine eu _ _ _ λf hf s CQ Bv=>?_;refine Ar (cy _ ((ha.mono Bp).mono Bv) _) ?_;intro ID p1 P1 EL Gu;refine Ar (cy _ (((hb.mono Bp).mono Bv).mono EL) _) ?_;intro JA p2 P2 EM Mb;refine Ar (fh hG n k JA h (Gu.mono EM) Mb) ?_;rintro SL r _ _ rfl;cases r<;>exact Au rfl
      .rintro CQ ⟨a,_⟩ _ _ rfl;cases a<;>exact Au rfl
     |_=>exact Az
    |_=>first|exact Az|(cases hx<;>exact Az)
   |slice e =>
    cases hv with
    |DF l c=>cases hx<;>first|exact Au rfl|exact Az
    |slice o s l c hb=>cases hx<;>first|exact Au rfl|exact Az
    |BP _=>cases hx<;>first|exact Au rfl|exact Az
    |_=>first|exact Az|(cases hx<;>exact Az)
   |_=>cases h
def cZ:∀(n k:Nat) {t:TypeId} (β:AO),cr P.a k t=true->∀ {v V x X:Value},Aw S β v V->Aw S β x X->AE P S Ck G β (Op.eqGuardIn n t v x) (Op.eqGuardIn n t V X) (λ_ a A=>a=A)
 |0,_,_,_,_,_,_,_,_,_,_=>AB (by intro g e;cases e)
 |_+1,0,_,_,h,_,_,_,_,_,_=>by cases h
 |n+1,k+1,t,β,h,v,V,x,X,hv,hx=>by
  by_cases hc:Ek P.a t=true
  .intro w W m hw ht BV B5 hb;rw[cY (P:=P) (λ_=>rfl) hc,cY P.underlying hc];exact⟨β,false,W,[],by simp,rfl,Fin.refl hw⟩
  .unfold cr at h;rw[Bool.eq_false_iff.2 hc,Bool.false_or] at h;unfold Op.eqGuardIn;refine Ar (al _) ?_;rintro B7 d _ hle ⟨rfl,hd⟩;replace hv:=hv.mono hle;replace hx:=hx.mono hle;rw[hd] at h;cases d with
   |struct fs =>
    simp only[xM] at h;cases hv with
    |agg h1 h2 =>
     cases hx with
     |agg h3 h4 =>
      rename_i a A b B;have ha:AA S B7 a A:=⟨h1,h2⟩;have hb:AA S B7 b B:=⟨h3,h4⟩;refine Ar (R:=λ_ a A=>a=A) ?_ ?_
      .rw[<-zy,<-zy];refine eu _ _ _ λf hf s CQ Bv=>?_;split
       .refine Ar (cy _ (ha.mono Bv) _) ?_;intro ID p1 P1 EL Gu;refine Ar (cy _ ((hb.mono Bv).mono EL) _) ?_;intro JA p2 P2 EM Mb;refine Ar (cZ n k JA (h f (by simpa using hf)) (Gu.mono EM) Mb) ?_;rintro SL r _ _ rfl;cases r<;>exact Au rfl
       .exact Au rfl
      .rintro CQ ⟨a,_⟩ _ _ rfl;cases a<;>exact Au rfl
     |blank _ hX=>cases X<;>first|exact Au rfl|(cases hX;done)
     |_=>exact Au rfl
    |blank _ hV=>cases V<;>first|exact Au rfl|(cases hV;done)|(cases hx<;>exact Au rfl)
    |_=>first|exact Au rfl|(cases hx<;>exact Au rfl)
   |array len e =>
    cases hv with
    |agg h1 h2 =>
     cases hx with
     |agg h3 h4 =>
      rename_i a A b B;have ha:AA S B7 a A:=⟨h1,h2⟩;have hb:AA S B7 b B:=⟨h3,h4⟩;refine Ar (aH _) ?_;rintro BS m _ Bp rfl;refine Ar (R:=λ_ a A=>a=A) ?_ ?_
      .simp only[Std.Legacy.Range.forIn_eq_forIn_range'];refine eu _ _ _ λf hf s CQ Bv=>?_;refine Ar (cy _ ((ha.mono Bp).mono Bv) _) ?_;intro ID p1 P1 EL Gu;refine Ar (cy _ (((hb.mono Bp).mono Bv).mono EL) _) ?_;intro JA p2 P2 EM Mb;refine Ar (cZ n k JA h (Gu.mono EM) Mb) ?_;rintro SL r _ _ rfl;cases r<;>exact Au rfl
      .rintro CQ ⟨a,_⟩ _ _ rfl;cases a<;>exact Au rfl
     |blank _ hX=>cases X<;>first|exact Au rfl|(cases hX;done)
     |_=>exact Au rfl
    |blank _ hV=>cases V<;>first|exact Au rfl|(cases hV;done)|(cases hx<;>exact Au rfl)
    |_=>first|exact Au rfl|(cases hx<;>exact Au rfl)
   |slice e=>exact Au rfl
   |_=>cases h
def mP (n k:Nat){t:TypeId}(h:cr P.a k t=true){v V x X:Value}(hv:Aw S β v V)(hx:Aw S β x X)(hu:v=hole\/x=hole):Dead P (Op.equalIn (n+1) t v x):=by
 intro w es;have hr:∀d,P.a.underlying t=some d->(underlying t).runT P.a w es=(.ok d w,es):=λd e=>by
  unfold underlying;rw[aj];show(match(P.a.underlying t) with|some d=>pure d|none=>stuck _:Sem TypeDesc).runT P.a w es=_;rw[e];rfl
 cases k with
 |zero=>cases h
 |succ k =>
  unfold Op.equalIn;rw[aj];unfold cr at h;by_cases hc:Ek P.a t=true
  .rcases E2 hc with⟨k,e⟩|e|e<;>rw[hr _ e]<;>rcases hu with rfl|rfl
   .cases hx<;>first|exact .inl ⟨_,_,_,rfl⟩|exact .inr ⟨.addressObserved,_,_,rfl,by intro g e;cases e⟩
   .cases hv<;>first|exact .inl ⟨_,_,_,rfl⟩|exact .inr ⟨.addressObserved,_,_,rfl,by intro g e;cases e⟩
   .cases hx<;>first|exact .inl ⟨_,_,_,rfl⟩|exact .inr ⟨.addressObserved,_,_,rfl,by intro g e;cases e⟩
   .cases hv<;>first|exact .inl ⟨_,_,_,rfl⟩|exact .inr ⟨.addressObserved,_,_,rfl,by intro g e;cases e⟩
   .cases hx<;>first|exact .inl ⟨_,_,_,rfl⟩|exact .inr ⟨.addressObserved,_,_,rfl,by intro g e;cases e⟩
   .cases hv<;>first|exact .inl ⟨_,_,_,rfl⟩|exact .inr ⟨.addressObserved,_,_,rfl,by intro g e;cases e⟩
  .rw[Bool.eq_false_iff.2 hc,Bool.false_or] at h;cases hd:P.a.underlying t with
   |none=>rw[hd] at h;cases h
   |some d =>
    rw[hd] at h;rw[hr _ hd];cases d with
    |struct fs =>
     rcases hu with rfl|rfl
     .cases hx<;>exact .inl ⟨_,_,_,rfl⟩
     .cases hv<;>exact .inl ⟨_,_,_,rfl⟩
    |array l e =>
     rcases hu with rfl|rfl
     .cases hx<;>exact .inl ⟨_,_,_,rfl⟩
     .cases hv<;>exact .inl ⟨_,_,_,rfl⟩
    |slice e =>
     rcases hu with rfl|rfl
     .cases hx<;>exact .inl ⟨_,_,_,rfl⟩
     .cases hv<;>exact .inl ⟨_,_,_,rfl⟩
    |_=>cases h
def oG {op:BinOp}(ho:op=.eql\/op=.neq){k:Nat}{t:TypeId}(h:cr P.a k t=true){xo yo:Operand}{v V x X:Value}(hv:Aw S β v V)(hx:Aw S β x X)(hu:v=hole\/x=hole):Dead P (do eqGuard op t xo yo v x;binOp op t v x):=by
 have z1:eqGuard op t xo yo v x=pure ():=by
  unfold eqGuard;rcases ho with rfl|rfl<;>(rw[if_neg (by simp)];rcases hu with rfl|rfl<;>first|(cases x<;>rfl)|(cases v<;>rfl))
 have z2:(do eqGuard op t xo yo v x;binOp op t v x)=binOp op t v x:=by rw[z1];rfl
 rw[z2];have h1:=binOp_eql (t:=t) (V:=v) (X:=x) (λk a k' b e1 e2=>by subst e1 e2;rcases hu with h|h<;>cases h) (λk a k' b e1 e2=>by subst e1 e2;rcases hu with h|h<;>cases h) (λk a b k' c d e1 e2=>by subst e1 e2;rcases hu with h|h<;>cases h) (λa b e1 e2=>by subst e1 e2;rcases hu with h|h<;>cases h);have hd:Dead P (Op.equal t v x):=mP 9999 k h hv hx hu;rcases ho with rfl|rfl
 .rw[h1.1];exact hd.bind _
 .rw[h1.2];exact hd.bind _
def mQ (op:BinOp){k:Nat}{t:TypeId}(h:cr P.a k t=true)(xo yo:Operand){v V x X:Value}(hv:Aw S β v V)(hx:Aw S β x X)(hu:¬(v=hole\/x=hole)):AE P S Ck G β (eqGuard op t xo yo v x) (eqGuard op t xo yo V X) (λ_ _ _=>True):=by
  have fin:∀(Ax:AO),β.le Ax->AE P S Ck G Ax (do if<-Op.eqGuardIn Op.maxDepth t v x then unsupported (.noEntry "binop/eql: two nil values of an interface type with methods, in a part of a struct or an array"):Sem Unit) (do if<-Op.eqGuardIn Op.maxDepth t V X then unsupported (.noEntry "binop/eql: two nil values of an interface type with methods, in a part of a struct or an array")) (λ_ _ _=>True):=by
    intro Ax hle;refine Ar (cZ _ k Ax h (hv.mono hle) (hx.mono hle)) ?_;rintro BS a _ _ rfl;cases a with
    |true=>exact AB (by intro g e;cases e)
    |false=>exact Au trivial
  have ado:AE P S Ck G β (do if<-Op.eqGuardIn Op.maxDepth t v x then unsupported (.noEntry "binop/eql: two nil values of an interface type with methods, neither of them the literal nil"):Sem Unit) (do if<-Op.eqGuardIn Op.maxDepth t V X then unsupported (.noEntry "binop/eql: two nil values of an interface type with methods, neither of them the literal nil")) (λ_ _ _=>True):=by
    refine Ar (cZ _ k β h hv hx) ?_;rintro BS a _ _ rfl;cases a with
    |true=>exact AB (by intro g e;cases e)
    |false=>exact Au trivial
  have key : AE P S Ck G β (match v, x with
      |.nilIface,.nilIface=>do
        if(xo matches .const _)||(yo matches .const _) then return
        if<-Op.eqGuardIn Op.maxDepth t v x then unsupported (.noEntry "binop/eql: two nil values of an interface type with methods, neither of them the literal nil")
      |.agg _,.agg _=>do
        if !(<-program).eqGuardType (<-program).depth t then return
        if<-Op.eqGuardIn Op.maxDepth t v x then unsupported (.noEntry "binop/eql: two nil values of an interface type with methods, in a part of a struct or an array")
      |_,_=>(pure ():Sem Unit)) (match V,X with
      |.nilIface,.nilIface=>do
        if(xo matches .const _)||(yo matches .const _) then return
        if<-Op.eqGuardIn Op.maxDepth t V X then unsupported (.noEntry "binop/eql: two nil values of an interface type with methods, neither of them the literal nil")
      |.agg _,.agg _=>do
        if !(<-program).eqGuardType (<-program).depth t then return
        if<-Op.eqGuardIn Op.maxDepth t V X then unsupported (.noEntry "binop/eql: two nil values of an interface type with methods, in a part of a struct or an array")
      |_,_=>(pure ():Sem Unit)) (λ_ _ _=>True):=by
    cases hv with
    |nilIface=>cases hx with
      |nilIface=>cases xo<;>cases yo<;>first|exact Au trivial|exact ado
      |blank _ _=>exact absurd (.inr rfl) hu
      |_=>exact Au trivial
    |agg h1 h2=>cases hx with
      |agg h3 h4 =>
        dsimp only;refine Ar aQ ?_;rintro BS p p' Bp ⟨hp,YH⟩;subst p p';refine Ar aQ ?_;rintro CQ p p' Bv ⟨hp,YH⟩;subst p p';rw[show P.b.depth=P.a.depth from rfl,Ba.eqGuardType];by_cases hb:(!P.a.eqGuardType P.a.depth t)=true
        · simp only[if_pos hb]
          exact Au trivial
        · simp only[if_neg hb]
          exact fin CQ (AO.le_trans Bp Bv)
      |blank _ _=>exact absurd (.inr rfl) hu
      |_=>exact Au trivial
    |blank _ _=>exact absurd (.inl rfl) hu
    |_=>first|exact Au trivial|(cases hx<;>exact Au trivial)
  unfold eqGuard;cases op<;>first
    |exact Au trivial
    | (rw [if_neg (by simp)]
       exact key)
def qa (hG:P.a.globals.size<=G){op:BinOp}(ho:op=.eql\/op=.neq){k:Nat}{t:TypeId}(h:cr P.a k t=true){v V x X:Value}(hv:Aw S β v V)(hx:Aw S β x X)(hu:¬(v=hole\/x=hole)):AE P S Ck G β (binOp op t v x) (binOp op t V X) (λAx a A=>Aw S Ax a A):=by
 by_cases hi:∃k a k' b,v=.int k a/\x=.int k' b
 .obtain⟨k1,a,k2,b,rfl,rfl⟩:=hi;cases hv;cases hx;exact Ga op t _ _ _ _
 .by_cases hs:∃a b,v=.string a/\x=.string b
  .obtain⟨a,b,rfl,rfl⟩:=hs;cases hv;cases hx;have e:∀x y,binOp op t (.string x) (.string y)=Op.stringOp op x y:=λx y=>by cases op<;>rfl
   rw[e];exact fg _ _ _
  .have h1:=binOp_eql (t:=t) (V:=v) (X:=x) (λk a k' b e1 e2=>hi ⟨k,a,k',b,e1,e2⟩) (λk a k' b e1 e2=>by subst e1;cases hv) (λk a b k' c d e1 e2=>by subst e1;cases hv) (λa b e1 e2=>hs ⟨a,b,e1,e2⟩);have h2:=binOp_eql (t:=t) (V:=V) (X:=X) (λk a k' b e1 e2=>by subst e1 e2;cases hv<;>first|exact hu (.inl rfl)|(cases hx<;>first|exact hu (.inr rfl)|exact hi ⟨_,_,_,_,rfl,rfl⟩)) (λk a k' b e1 e2=>by subst e1;cases hv;exact hu (.inl rfl)) (λk a b k' c d e1 e2=>by subst e1;cases hv;exact hu (.inl rfl)) (λa b e1 e2=>by subst e1 e2;cases hv<;>first|exact hu (.inl rfl)|(cases hx<;>first|exact hu (.inr rfl)|exact hs ⟨_,_,rfl,rfl⟩))
   rcases ho with rfl|rfl
   .rw[h1.1,h2.1];exact Ar (fh hG _ k β h hv hx) (by rintro B7 b _ _ rfl;exact Au (.bool _))
   .rw[h1.2,h2.2];exact Ar (fh hG _ k β h hv hx) (by rintro B7 b _ _ rfl;exact Au (.bool _))
end
def nH (w:World):w.sys .env=(.strings w.os.env,w):=by
 unfold World.sys;have:Kernel.perform .env w.os=.done (.strings w.os.env,w.os):=by
  unfold Kernel.perform
  rfl
 rw[this]
 rfl
section
variable {P:Ba} {S:Cb} {Ck:Code->Prop} {G:Nat} {β:AO}
def va:AE P S Ck G β (sys .env) (sys .env) (λ_ a A=>a=A/\∃l,a=.strings l):=by
 intro w W n hw ht BV B5 _;have e1:(sys .env).runT P.a w BV=(.ok (.strings w.os.env) w,BV.push ⟨.output,true,false⟩):=by
  show(Sem.sys .env .pure).runT P.a w BV=_;simp only[Sem.runT,nH]
 have e2:(sys .env).runT P.b W B5=(.ok (.strings W.os.env) W,B5.push ⟨.output,true,false⟩):=by
  show(Sem.sys .env .pure).runT P.b W B5=_;simp only[Sem.runT,nH]
 rw[e1,e2];exact⟨β,.strings W.os.env,W,[⟨.output,true,false⟩],by simp,⟨by rw[hw.env],_,rfl⟩,{ Fin.refl hw with evs:=λ_ E hE=>by cases yG.1 hE;exact .out }⟩
def mR {α Ej:Type}{R:AO->α->Ej->Prop}:AE P S Ck G β (runtimePanic .panicNil:Sem α) (runtimePanic .panicNil:Sem Ej) R:=by
 refine Ar aQ ?_;rintro B7 p p' _ ⟨rfl,rfl⟩;dsimp only;refine Ar (R:=λ_ a A=>a=A) ?_ ?_
 .show AE P S Ck G B7 (elemOf P.a.rt.panicNilError) (elemOf P.a.rt.panicNilError) _;unfold elemOf;refine Ar (al _) ?_;rintro BS d _ _ ⟨rfl,_⟩;cases d with
  |pointer e=>exact Au rfl
  |_=>exact Az
 .rintro BS e _ _ rfl;refine Ar (gC e (.agg rfl (by simp))) ?_;rintro CQ ⟨b,o,s⟩ ⟨B,o',s'⟩ _ ⟨h1,h2,h3⟩;cases h2;cases h3;exact db (.iface _ (.ptr _ _ h1))
def oH {v V:Value}(hv:Aw S β v V):AE P S Ck G β (Instr.panic v) (Instr.panic V) (λAx a A=>Aw S Ax a A):=by
 cases hv with
 |iface t r=>exact db (.iface t r)
 |nilIface =>
  unfold Instr.panic Instr.panicnil;refine Ar (R:=λ_ a A=>a=A) ?_ ?_
  .refine Ar va ?_;rintro B7 a _ _ ⟨rfl,l,rfl⟩;dsimp only;refine Ar aQ ?_;rintro BS p p' _ ⟨rfl,rfl⟩;exact Au rfl
  .rintro B7 a _ _ rfl;split
   .exact db .nilIface
   .exact mR
 |_=>exact Az
end
structure IE (P:Ba)(S:Cb)(Ck:Code->Prop)(G:Nat):Prop where
 big:P.a.info? big=none
 call:∀f,S.fn f->∀(β:AO) (a A:Array Value),AA S β a A->AE P S Ck G β (callFunc f a) (callFunc f A) (EN S Ck)
section
variable {P:Ba} {S:Cb} {Ck:Code->Prop} {G:Nat} {β:AO}
def bS {f:FuncId} {fn:Func} (hf:P.a.funcs[f]?=some fn) {DZ:Func} (hf':P.fs[f]?=some DZ) (hn:fn.name ≠ "runtime.NumGoroutine") (R9:DZ.name ≠ "runtime.NumGoroutine") (hb:fn.body.isSome) (hb':DZ.body.isSome) (hS:S.fn f) {a A:Array Value} (h:AA S β a A) :
  AE P S Ck G β (callFunc f a) (callFunc f A) (EN S Ck):=by
 refine Ar aQ ?_;rintro B7 p p' hle ⟨hp,YH⟩;subst p p';rw[hf,show P.b.funcs[f]?=some DZ from hf'];have h1:fn.body.isNone=false:=by cases hx:fn.body with
  |none=>rw[hx] at hb;cases hb
  |some _=>rfl
 have h2:DZ.body.isNone=false:=by cases hx:DZ.body with
  |none=>rw[hx] at hb';cases hb'
  |some _=>rfl
 simp only[beq_iff_eq,hn,R9,if_false,h1,h2,xJ];exact Au (.enter hS (h.mono hle))
def qc:∀ {l:List Tmp} {m M:List Value} {x X:Array Value},BJ (Aw S β) m M->AA S β x X ->
  AA S β ((l.zip m).foldl (λtmps (p:Tmp×Value)=>tmps.setIfInBounds p.1 p.2) x) ((l.zip M).foldl (λtmps (p:Tmp×Value)=>tmps.setIfInBounds p.1 p.2) X)
 |[],_,_,_,_,_,hx=>by simpa using hx
 |t::l,_,_,_,_,h,hx=>by
  cases h with
  |nil=>simpa using hx
  |cons hv hr =>
   simp only[List.zip_cons_cons,List.foldl_cons];exact qc hr (hx.set _ hv)
def dq {l L:Nat}(h:β l L)(hh:S.hid l=false):AE P S Ck G β (Instr.getLoop l) (Instr.getLoop L) (λAx r R=>r.state=R.state/\r.pending=R.pending/\(S.fr r.fn/\∀c,r.pending=some c->Ck c)/\r.fn=R.fn/\AA S Ax r.tmps R.tmps/\r.params=R.params/\r.assign=R.assign/\r.body=R.body/\Ck r.assign/\Ck r.body/\Ax r.defers R.defers/\S.hid r.defers=false):=by
 refine Ar (fd h hh) ?_;intro B7 o O _ ho;cases ho with
 |loop hp ha hb hx hd hk=>exact Au ⟨rfl,rfl,hp,rfl,hx,rfl,rfl,rfl,ha,hb,hd,hk⟩
 |_=>exact λ_ _ _ _ _ _ _ _=>trivial
def rR {l L:Nat}(h:β l L)(hh:S.hid l=false){a A:Array Value}(ha:AA S β a A):AE P S Ck G β (Instr.yield l a) (Instr.yield L A) (EN S Ck):=by
 refine Ar (dq h hh) ?_;rintro B7 ⟨st,pe,fn,x,ps,xd,bo,d⟩ ⟨Gv,pe',DZ,X,ps',as',bo',D⟩ hle ⟨h1,h2,h3,h4,h5,h6,h7,h8,h9,h10,h11,Xz⟩;cases h1;cases h2;cases h4;cases h6;cases h7;cases h8;dsimp only at *;rw[ha.size];split
 .exact λ_ _ _ _ _ _ _ _=>trivial
 .refine Au (.round (hle _ _ h) ⟨hh,h3.1⟩ ?_ h9 h10);have:=qc (l:=ps.toList) (ha.mono hle).toList h5;rw[<-zx,<-zx];simpa using this
def kC (P:Program)(ts:Array TypeId)(b:Builtin):Prop:=match b with
 |.append=>(∀e s,ts[0]?=some s->P.underlying s=some (.slice e)->bV P e=true)/\(∀x k,ts[1]?=some x->P.underlying x≠some (.int k))
 |.len|.cap=>∀t e d,ts[0]?=some t->P.underlying t≠some (.chan e d)
 |.min|.max=>True
 |_=>False
def oI (b:Builtin)(ts:Array TypeId)(t:TypeId)(cs:Array Bool)
  (hb:kC P.a ts b) {a A:Array Value} (h:AA S β a A):AE P S Ck G β (builtin b ts t cs a) (builtin b ts t cs A) (EN S Ck):=by
 have v:∀ {m M:Sem Value},AE P S Ck G β m M (λAx a A=>Aw S Ax a A)->AE P S Ck G β (do pure (.value (<-m)):Sem Next) (do pure (.value (<-M))) (EN S Ck):=by
  intro m M hm;refine Ar hm ?_;intro B7 x X _ hx;exact Au (.value hx)
 cases b with
 |append=>exact v (p6 ts t hb.1 hb.2 h)
 |len=>exact v (uW ts t hb h)
 |cap=>exact v (uX ts t hb h)
 |min=>exact v (uZ ts t h)
 |max=>exact v (u7 ts t h)
 |_=>exact hb.elim
def kD (hb:P.a.info? big=none):Dead P (typeInfo big):=λw es=>by
 have e2:program.runT P.a w es=(.ok P.a w,es):=rfl;refine .inl ⟨?_,w,es,?_⟩
 rotate_left
 .unfold typeInfo;rw[aj,e2];dsimp only;rw[hb]
  rfl
def Dead.prog {γ:Type}{k:Program->Sem γ}(h:Dead P (k P.a)):Dead P (program >>= k):=λw es=>by
 rw[aj];exact h w es
def mS (hb:P.a.info? big=none)(n:Nat)(v:Value)(s:String):Dead P (method n big v s):=by
 cases n with
 |zero=>exact λw es=>.inr ⟨_,_,_,rfl,by intro g e;cases e⟩
 |succ n=>exact(kD hb).bind _
def lf (hb:P.a.info? big=none)(n:Nat)(v:Value)(s:String){γ:Type}(k:Option Bool->Sem γ)(hk:∃u,k none=unsupported u/\∀g,u≠.initOrder g):Dead P (nilAhead n big v s >>= k):=by
 cases n with
 |zero =>
  obtain⟨u,h1,h2⟩:=hk;intro w es;rw[aj];have e:(nilAhead 0 big v s).runT P.a w es=(.ok none w,es):=rfl;rw[e];dsimp only;rw[h1];exact .inr ⟨u,w,es,rfl,h2⟩
 |succ n=>exact((kD hb).bind _).bind k
def iJ (hb:P.a.info? big=none)(a:Array Value):Dead P (invoke (hd a).target (hd a).args):=by
 unfold hd invoke;have e:(#[Value.iface big undef]++a)[0]?=some (.iface big undef):=by rw[zo (by decide)];rfl
 dsimp only;rw[e];unfold callMethod;dsimp only;exact Dead.prog ((mS hb _ _ _).bind _)
def gK (hS:IE P S Ck G){d D:Deferred}(h:Cl S β d D):AE P S Ck G β (invoke d.target d.args) (invoke D.target D.args) (EN S Ck):=by
 cases h with
 |fn hf hc ha=>cases hf with
  |func hs=>exact hS.call _ hs β _ _ (ha.append hc)
  |yield hl hk=>exact rR hl hk ha
 |nil ha=>exact az .nilDeref trivial
 |collected h _=>exact Az
 |Bt a A h1 h2 h3=>subst h2;exact Df (iJ hS.big a)
def fP {f F:Value}(hf:Aw S β f F){a A:Array Value}(ha:AA S β a A):AE P S Ck G β (Deferred.ofValue f a) (Deferred.ofValue F A) (λAx d D=>Cl S Ax d D):=by
 cases hf with
 |func hf h1 a1 h2 a2=>exact Au (.fn hf ⟨h2,a2⟩ (AA.append ⟨h1,a1⟩ ha))
 |nilFunc=>exact Au (.nil ha)
 |@Bt n x c h=>exact Au (.Bt a A ha rfl (h.imp (λh=>by cases h;rfl) λh=>⟨h,n,c,x,rfl⟩))
 |_=>exact Az
def ah (SB:FuncId->Bool):Operand->Bool
 |.tmp _=>true
 |.const v=>plain 8 v
 |.global _=>false
 |.func f=>SB f
def MS (SB:FuncId->Bool):Option Operand->Bool
 |some x=>ah SB x
 |none=>true
def bI (P:Program)(SB:FuncId->Bool)(c:Call):Bool:=c.args.all (ah SB)&&match c.callee with
 |.value f=>ah SB f
 |.invoke ..=>false
 |.builtin .append =>
  (match c.argTypes[0]? with
   |some s=>match P.underlying s with
    |some (.slice e)=>bV P e
    |_=>true
   |none=>true) &&
  (match c.argTypes[1]? with
   |some x=>match P.underlying x with
    |some (.int _)=>false
    |_=>true
   |none=>true)
 |.builtin b=>b==.min||b==.max||((b==.len||b==.cap)&&match c.argTypes[0]? with
  |some t=>match P.underlying t with
   |some (.chan _ _)=>false
   |_=>true
  |none=>true)
def isEq:BinOp->Bool
 |.eql|.neq=>true
 |_=>false
def fi (P:Program)(t:TypeId):Bool:=match P.underlying t with
 |some (.slice e)=>bV P e
 |_=>true
def NB (P:Program)(SB:FuncId->Bool)(o:Oper):Bool:=match o.op with
 |.move x|.assign x=>ah SB x
 |.pick c a b=>ah SB c&&ah SB a&&ah SB b
 |.alloc t=>bV P t
 |.box _ x=>ah SB x
 |.build t ps=>bV P t&&ps.all (λp=>ah SB p.2)
 |.buildSlice t _ ps=>fi P t&&ps.all (λp=>ah SB p.2)
 |.load _ a=>ah SB a
 |.store _ a v=>ah SB a&&ah SB v
 |.nilCheck x=>ah SB x&&(P.info? big).isNone
 |.binOp op t x y _=>(Ek P t||(isEq op&&cr P 12 t))&&ah SB x&&ah SB y
 |.makeInterface _ x|.panic x=>ah SB x
 |.unOp _ _ x=>ah SB x
 |.convert s d x=>gI P s d&&ah SB x
 |.makeFunc fn fs cs=>(match fn with|.func f=>SB f|_=>false)&&fs.all (ah SB)&&cs.all (ah SB)
 |.makeSlice t l c=>fi P t&&ah SB l&&ah SB c
 |.slice _ x l h m=>ah SB x&&MS SB l&&MS SB h&&MS SB m
 |.fieldAddr s x i=>jX P s i&&ah SB x
 |.field _ x _=>ah SB x
 |.indexAddr _ x i=>ah SB x&&ah SB i
 |.index _ x i=>ah SB x&&ah SB i
 |.extract x _=>ah SB x
 |.call c|.defer c=>bI P SB c
 |_=>false
end
section
variable {P:Ba} {SB:FuncId->Bool} {H:Hid} {Ck:Code->Prop} {G:Nat} {β:AO}
def aM (SB:FuncId->Bool)(f:FuncId):Bool:=f==75&&(SB 74&&!SB 75)
abbrev SP (SB:FuncId->Bool)(H:Hid):Cb:=⟨λf=>SB f=true\/aM SB f=true,H,λf=>SB f=true⟩
def dt {ρ Ρ:Operand->Value}(CX:∀x,ah SB x=true->Aw (SP SB H) β (ρ x) (Ρ x)){l:Array Operand}(h:l.all (ah SB)=true):AA (SP SB H) β (l.map ρ) (l.map Ρ):=by
 simp only[xM] at h;exact AA.map l λx hx=>CX x (h x hx)
def kE {ρ Ρ:Operand->Value}(CX:∀x,ah SB x=true->Aw (SP SB H) β (ρ x) (Ρ x)){ps:Array (Nat×Operand)}(h:ps.all (λp=>ah SB p.2)=true) :
  CR (SP SB H) β (ps.map λ(i,x)=>(i,ρ x)).toList (ps.map λ(i,x)=>(i,Ρ x)).toList:=by
 simp only[xM] at h;rw[Array.toList_map,Array.toList_map];have:∀l:List (Nat×Operand),(∀p∈l,ah SB p.2=true)->CR (SP SB H) β (l.map λ(i,x)=>(i,ρ x)) (l.map λ(i,x)=>(i,Ρ x)):=by
  intro l
  induction l with
  |nil=>intro _;exact .nil
  |cons p l ih=>intro hl;exact .cons (CX _ (hl p (by simp))) (ih λq hq=>hl q (by simp[hq]))
 exact this _ λp hp=>h p (by simpa using hp)
def jZ {ρ Ρ:Operand->Value}(CX:∀x,ah SB x=true->Aw (SP SB H) β (ρ x) (Ρ x)){o:Option Operand}(h:MS SB o=true):Dx (SP SB H) β (o.map ρ) (o.map Ρ):=by
 cases o with
 |none=>exact .none
 |some x=>exact .some (CX x h)
def gL {t:TypeId}(h:fi P.a t=true):∀e,P.a.underlying t=some (.slice e)->bV P.a e=true:=by
 intro e he;unfold fi at h;rw[he] at h;exact h
def oJ {c:Call}(h:bI P.a SB c=true){b:Builtin}(hc:c.callee=.builtin b):kC P.a c.argTypes b:=by
 unfold bI at h;rw[hc] at h;simp only[xC] at h;obtain⟨_,h⟩:=h;cases b with
 |append =>
  simp only[xC] at h;obtain⟨h1,h2⟩:=h;refine⟨λe s he hs=>?_,λx k hx hk=>?_⟩
  .rw[he] at h1;simp only[hs] at h1;exact h1
  .rw[hx] at h2;simp only[hk] at h2;exact absurd h2 (by decide)
 |len|cap =>
  intro t e d ht hd;rw[ht] at h;simp only[hd] at h;exact absurd h (by decide)
 |min|max=>trivial
 |_=>exfalso;revert h;cases c.argTypes[0]?<;>simp<;>intro h<;>revert h<;>decide
def i6 (hS:IE P (SP SB H) Ck G){ρ Ρ:Operand->Value}(CX:∀x,ah SB x=true->Aw (SP SB H) β (ρ x) (Ρ x)){c:Call}(t:TypeId)(h:bI P.a SB c=true) :
  AE P (SP SB H) Ck G β (do let d<-resolve ρ c t;invoke d.target d.args) (do let d<-resolve Ρ c t;invoke d.target d.args) (EN (SP SB H) Ck):=by
 have ha:AA (SP SB H) β (c.args.map ρ) (c.args.map Ρ):=dt CX (by unfold bI at h;simp only[xC] at h;exact h.1);unfold resolve;cases hc:c.callee with
 |value f =>
  have hf:ah SB f=true:=by unfold bI at h;rw[hc] at h;simp only[xC] at h;exact h.2
  dsimp only;refine Ar (fP (CX f hf) ha) ?_;intro B7 d D _ hd;exact gK hS hd
 |invoke r m=>unfold bI at h;rw[hc] at h;simp at h
 |builtin b =>
  have hb:=oJ h hc;dsimp only;refine Ar (R:=λAx (d D:Deferred)=>β.le Ax/\d=⟨.builtin b c.argTypes t (c.args.map λ|.const _=>true|_=>false),c.args.map ρ⟩/\D=⟨.builtin b c.argTypes t (c.args.map λ|.const _=>true|_=>false),c.args.map Ρ⟩) (Au ⟨β.le_refl,rfl,rfl⟩) ?_;rintro B7 d D hle ⟨_,rfl,rfl⟩;exact oI b _ _ _ hb (ha.mono hle)
def oL {ρ Ρ:Operand->Value}(CX:∀x,ah SB x=true->Aw (SP SB H) β (ρ x) (Ρ x)){c:Call}(t:TypeId)(h:bI P.a SB c=true)(hb:∀b,c.callee≠.builtin b) :
  AE P (SP SB H) Ck G β (resolve ρ c t) (resolve Ρ c t) (λAx d D=>Cl (SP SB H) Ax d D):=by
 have ha:AA (SP SB H) β (c.args.map ρ) (c.args.map Ρ):=dt CX (by unfold bI at h;simp only[xC] at h;exact h.1);unfold resolve;cases hc:c.callee with
 |value f =>
  have hf:ah SB f=true:=by unfold bI at h;rw[hc] at h;simp only[xC] at h;exact h.2
  exact fP (CX f hf) ha
 |invoke r m=>unfold bI at h;rw[hc] at h;simp at h
 |builtin b=>exact absurd hc (hb b)
def du (P:Program)(SB:FuncId->Bool)(o:Oper):Bool:=NB P SB o&&match o.op with
 |.defer c=>match c.callee with
  |.builtin _=>false
  |_=>true
 |_=>true
def qd (hG:P.a.globals.size<=G)(hS:IE P (SP SB H) Ck G){ρ Ρ:Operand->Value}(CX:∀x,ah SB x=true->Aw (SP SB H) β (ρ x) (Ρ x)){o:Oper}(h:du P.a SB o=true) :
  AE P (SP SB H) Ck G β (execOp ρ o) (execOp Ρ o) (EN (SP SB H) Ck):=by
 have v:∀ {m M:Sem Value},AE P (SP SB H) Ck G β m M (λAx a A=>Aw (SP SB H) Ax a A)->AE P (SP SB H) Ck G β (do pure (.value (<-m)):Sem Next) (do pure (.value (<-M))) (EN (SP SB H) Ck):=by
  intro m M hm;refine Ar hm ?_;intro B7 x X _ hx;exact Au (.value hx)
 have u:∀ {m M:Sem Unit},AE P (SP SB H) Ck G β m M (λ_ _ _=>True)->AE P (SP SB H) Ck G β (do m;pure .skip:Sem Next) (do M;pure .skip) (EN (SP SB H) Ck):=by
  intro m M hm;refine Ar hm ?_;intro B7 x X _ _;exact Au .skip
 unfold du NB at h;unfold execOp;cases ho:o.op with
 |move x=>rw[ho] at h;simp at h;exact Au (.value (CX x h))
 |assign x=>rw[ho] at h;simp at h;exact Au (.value (CX x h))
 |pick c a b =>
  rw[ho] at h;simp at h;refine Ar (gw (CX c h.1.1)) ?_;rintro B7 t _ hle rfl;refine Au (.value ?_);split
  .exact(CX a h.1.2).mono hle
  .exact(CX b h.2).mono hle
 |alloc t=>rw[ho] at h;simp at h;exact v (rO t h)
 |box t x=>rw[ho] at h;simp at h;exact v (uY t (CX x h))
 |build t ps=>rw[ho] at h;simp only[xC,and_true] at h;exact v (rM t h.1 (kE CX h.2))
 |buildSlice t n ps=>rw[ho] at h;simp only[xC,and_true] at h;exact v (ld t n (gL h.1) (kE CX h.2))
 |load t a=>rw[ho] at h;simp at h;exact v (p7 t (CX a h))
 |store t a x=>rw[ho] at h;simp at h;exact u (oA t (CX a h.1) (CX x h.2))
 |nilCheck x =>
  rw[ho] at h;simp at h;have hx:=CX x h.1;dsimp only;revert hx;generalize ρ x=v;generalize Ρ x=V;intro hx;cases hx with
  |Eh=>exact az .nilDeref trivial
  |nilIface=>exact az .nilDeref trivial
  |nilFunc=>exact az .nilDeref trivial
  |func hf h1 a1 h2 a2=>cases hf with
   |func hs=>exact Au (.value (.func (.func hs) h1 a1 h2 a2))
   |yield hl hk=>exact Au (.value (.func (.yield hl hk) h1 a1 h2 a2))
  |bool b=>exact Au (.value (.bool b))
  |int k n=>exact Au (.value (.int k n))
  |string s=>exact Au (.value (.string s))
  |ptr o s hb=>exact Au (.value (.ptr o s hb))
  |DF l c=>exact Au (.value (.DF l c))
  |slice o s l c hb=>exact Au (.value (.slice o s l c hb))
  |BP h1=>exact Au (.value (.BP h1))
  |DY=>exact Au (.value .DY)
  |Dl=>exact Au (.value .Dl)
  |iface t r=>exact Au (.value (.iface t r))
  |agg h1 a1=>exact Au (.value (.agg h1 a1))
  |tuple h1 a1=>exact Au (.value (.tuple h1 a1))
  |blank h1 h2 =>
   cases V with
   |pointer a=>cases a with
    |none=>cases h2
    |some a=>exact Au (.value (.blank h1 h2))
   |func f x c=>cases f with
    |method n=>cases h2
    |_=>exact Au (.value (.blank h1 h2))
   |nilIface=>cases h2
   |nilFunc=>cases h2
   |_=>exact Au (.value (.blank h1 h2))
  |Bt h1 =>
   refine Df ?_;show Dead P (program >>= λp=>nilAhead (p.types.size+Made.depth) big undef "" >>= λr=>_);exact Dead.prog (lf h.2 _ _ _ _ ⟨_,rfl,by intro g e;cases e⟩)
 |binOp op t x y t' =>
  rw[ho] at h;simp at h;rcases h.1.1 with hc|⟨he,hf⟩
  .refine v (Ar (oC op hc x y _ _ _ _) ?_);intro B7 _ _ hle _;exact rP hG op hc ((CX x h.1.2).mono hle) ((CX y h.2).mono hle)
  .have hop:op=.eql\/op=.neq:=by cases op<;>first|exact .inl rfl|exact .inr rfl|cases he
   by_cases hu:ρ x=hole\/ρ y=hole
   .exact v (Df (oG hop hf (CX x h.1.2) (CX y h.2) hu))
   refine v (Ar (mQ op hf x y (CX x h.1.2) (CX y h.2) hu) ?_);intro B7 _ _ hle _;exact qa hG hop hf ((CX x h.1.2).mono hle) ((CX y h.2).mono hle) hu
 |panic x=>rw[ho] at h;simp at h;exact v (oH (CX x h))
 |makeInterface t x =>
  rw[ho] at h;simp at h;refine v (Ar (al _) ?_);rintro B7 d _ hle ⟨rfl,_⟩;cases d with
  |interface _=>exact Az
  |_=>exact Au (.iface _ ((CX x h).mono hle))
 |unOp op t x=>rw[ho] at h;simp at h;exact v (rQ op (CX x h))
 |convert s d x=>rw[ho] at h;simp at h;exact v (oD h.1 (CX x h.2))
 |makeFunc fn fs cs =>
  rw[ho] at h;simp only[xC,and_true] at h;obtain⟨⟨h1,h2⟩,h3⟩:=h;cases fn with
  |func f =>
   have a1:=dt (β:=β) CX h2;have a2:=dt (β:=β) CX h3;exact v (Au (.func (.func (.inl h1)) a1.size a1.at_ a2.size a2.at_))
  |_=>simp at h1
 |makeSlice t l c=>rw[ho] at h;simp at h;exact v (lF t (gL h.1.1) (CX l h.1.2) (CX c h.2))
 |slice t x l hi mx=>rw[ho] at h;simp at h;exact v (oy t (CX x h.1.1.1) (jZ CX h.1.1.2) (jZ CX h.1.2) (jZ CX h.2))
 |fieldAddr s x i=>rw[ho] at h;simp at h;exact v (ow s (CX x h.2) i h.1)
 |field t x i=>rw[ho] at h;simp at h;exact v (rJ t (CX x h) i)
 |indexAddr t x i=>rw[ho] at h;simp at h;exact v (ox t (CX x h.1) (CX i h.2))
 |index t x i=>rw[ho] at h;simp at h;exact v (rL t (CX x h.1) (CX i h.2))
 |extract x i=>rw[ho] at h;simp at h;exact v (oz (CX x h) i)
 |call c=>rw[ho] at h;simp at h;exact i6 hS CX _ h
 |defer c =>
  rw[ho] at h;simp only[xC] at h;refine Ar (oL CX _ h.1 (λb e=>by rw[e] at h;simp at h)) ?_;intro B7 d D _ hd;exact Au (.defer hd)
 |_=>rw[ho] at h;simp at h
end
end Go.AW
