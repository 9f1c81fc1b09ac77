/- Parts of the proof. -/
import Derived.Sort.BigQuietIn
set_option linter.all false
open Go renaming Value->Z,World->I,choose->ak,getObj->bb,setObj->bc,TypeId->bk,Addr->bn,shape->bq,Program->bw,load->bA,Deferred->bW,boundsPanic->b8,Event->b9,Code->cf,FuncId->cq,store->cw
open Go.Sem renaming runT->J
open Option renaming some->U,none->bs
open Bool renaming false->N,true->bh
open Go.Value renaming pointer->br,slice->b5
open Array renaming replicate->bD,ext->cE
open Go.World renaming setCell->b6,frozen?->b7,farStore->ck,shape?->cr,cell?->cu
namespace Go
def Az:=@Array.getElem?_eq_some_iff
def AA:=@Nat.le_refl
def AB:=@List.getElem?_eq_getElem
def AC:=@Nat.lt_of_lt_of_le
def AD:=@if_neg
def AF:=@if_pos
def AG:=@List.not_mem_nil
def AH:=@Nat.le_trans
def AI:=@absurd
def AJ:=@List.mem_cons
def AK:=@Array.getElem?_eq_getElem
def AM:=@List.length_cons
def AN:=@Bool.and_eq_true
def AO:=@Nat.zero_add
def AP:=@List.size_toArray
def AS:=@List.length_nil
def AU:=@Nat.zero_le
def AV:=@List.getElem?_eq_some_iff
def AX:=@congrArg
def AY:=@Option.getD_some
def AZ:=@Bool.false_eq_true
def Ba:=@Array.all_eq_true_iff_forall_mem
def Bb:=@List.take_of_length_le
def Bc:=@List.eq_nil_of_length_eq_zero
def Bd:=@List.getElem?_cons_zero
def Be:=@List.getElem?_cons_succ
def Bf:=@List.mem_map
def Bg:=@List.getElem?_toArray
def Bh:=@List.getElem_mem
def Bi:=@Array.mem_of_getElem?
def Bj:=@Option.map_eq_some_iff
def Bl:=@List.getElem?_append_left
def Bm:=@Bool.or_eq_true
def Bn:=@Array.getElem?_setIfInBounds_ne
def Bo:=@List.getElem?_append_right
def Bp:=@List.mem_append
def Bq:=@List.length_map
def Br:=@Nat.lt_or_ge
def Bs:=@Nat.eq_zero_or_pos
def Bt:=@Array.empty_append
def Bu:=@List.mem_range
def Bv:=@Nat.lt_or_eq_of_le
def Bx:=@decide_eq_false
def Bz:=@List.all_eq_true
def BA:=@Array.getElem?_modify
def BD:=@List.getElem?_eq_none
def BE:=@decide_eq_true
def BF:=@Option.bind_some
def BG:=@Array.getElem?_map
def BH:=@List.length_append
def BJ:=@Nat.not_lt_zero
def BK:=@List.getElem?_map
def BM:=@Nat.le_of_lt_succ
def BN:=@Nat.pow_le_pow_right
def BO:=@Array.replicate_succ
def BP:=@Array.replicate_zero
def BQ:=@Array.getElem?_replicate
def BR:=@Nat.le_of_eq
def BS:=@List.mem_singleton
def BT:=@List.append_toArray
def BU:=@Nat.le_succ
def BW:=@Option.map_some
def BX:=@List.cons_append
def BY:=@Array.getD_eq_getD_getElem?
def BZ:=@List.take_add_one
def B1:=@List.push_toArray
def B2:=@Bool.not_eq_true'
def B3:=@of_decide_eq_true
def B4:=@List.mem_cons_self
def B5:=@List.mem_of_getElem?
def B6:=@List.append_nil
def B7:=@List.foldl_cons
def B8:=@List.mem_toArray
def B9:=@Bool.false_and
def Ca:=@List.mem_filter
def Cb:=@List.nil_append
def Cc:=@List.mem_iff_getElem
def Cd:=@List.map_cons
def Ce:=@List.append_assoc
def Cf:=@List.set_cons_succ
def Cg:=@Bool.true_and
def Ch:=@Array.getElem?_setIfInBounds
def Ci:=@List.mem_cons_of_mem
def Cj:=@Bool.and_false
def Cl:=@List.getElem?_set_ne
def Cm:=@Array.getElem?_push
def Cn:=@List.getElem?_range
def Cp:=@Array.getElem?_eq_none
def Cq:=@List.getD_eq_getElem?_getD
def Cr:=@List.map_toArray
def Ct:=@List.take_length
def Cu:=@List.find?_eq_none
def Cv:=@Bool.not_eq_false'
def Cx:=@List.set_cons_zero
def Cy:=@Bool.or_eq_false_iff
def Cz:=@List.mem_of_mem_take
def CB:=@Array.getElem?_setIfInBounds_self_of_lt
def CD:=@List.flatMap_append
def CF:=@List.getElem?_set_self
def CG:=@List.map_nil
def CI:=@List.filter_append
def CJ:=@Option.isSome_none
def CL:=@List.getElem?_take
def CM:=@List.length_filter_le
def CN:=@List.range_succ
def CQ:=@List.map_append
def CR:=@List.foldl_nil
def CT:=@List.length_take
def CU:=@List.mem_flatMap
def CV:=@Nat.add_assoc
def CX:=@List.pairwise_cons
def CY:=@Int.toNat_natCast
def CZ:=@Nat.le_succ_of_le
def C0:=@Array.getElem?_mapIdx
def C1:=@Array.getElem?_append
def C2:=@List.contains_iff_mem
def C4:=@List.getElem_map
def C5:=@Array.getElem?_append_left
def C6:=@Bool.or_false
def C7:=@Nat.lt_irrefl
def C8:=@List.drop_eq_getElem_cons
def C9:=@Int.natCast_add
def Da:=@Array.mapM_eq_mapM_toList
def Db:=@Nat.le_add_left
def Dc:=@List.mem_or_eq_of_mem_set
def Dd:=@List.length_set
def De:=@Array.foldl_toList
def Df:=@Array.forIn_toList
def Dg:=@Nat.ne_of_lt
def Dh:=@Array.getElem_ofFn
end Go

namespace Go
section
variable {F:Fence} {n:Nat} {P:bw} {ops:Array Oper} {C:I->Prop}
def kN (o:Oper):Bool:=match o.op with
 |.defer _=>N
 |_=>bh
def lM {Q:Exit->Act->I->Prop}{r:Nat}(hro:F.round=bs)(a6:ops.all kN=bh):∀(l:List Nat) (a:Act) (w:I),wpOpsIn F n P ops Q l a w->wpOpsIn (F.inRound r) n P ops Q l a w:=by
 intro l
 induction l with
 |nil=>exact λa w h=>h
 |cons i rest ih =>
  intro a w h;simp only[wpOpsIn] at h ⊢;cases ho:ops[i]? with
  |none=>simp only[ho] at h ⊢;exact ih a w h
  |some o =>
   simp only[ho] at h ⊢;have hm:o∈ops:=Bi ho;have hd:∀c,o.op≠.defer c:=λc e=>by
    have:=(Ba.1 a6) o hm;simp[kN,e] at this
   split
   .rename_i hw;rw[AF hw] at h;have h2:=Oper.wpIn_mono (K':=wpOpsIn (F.inRound r) n P ops Q rest) (λa w=>ih a w) h;unfold Oper.wpIn at h2 ⊢;rw[Oper.semAt_eq _ _ _ hd] at h2 ⊢;refine⟨h2.1,?_⟩;have h3:=h2.2;generalize (execOp a.eval o).run P w=res at h3 ⊢;cases res with
    |ok x w'=>cases x<;>exact h3
    |halt x w'=>cases x<;>exact h3
   .rename_i hw;rw[AD hw] at h;exact⟨h.1,ih _ _ h.2⟩
def fy {id r:Nat}{Q:Exit->Act->I->Prop}{a:Act}{w:I}{l:List Oper}(hro:F.round=bs)(a6:l.toArray.all kN=bh)(hm:P.follows .mixedOrders=bh)(hB:Region.lexB .any l.toArray=bh)
  (h:wpQuietIn F n P l.toArray (λw'=>∃n,w'=w.drewN n) (λa'=>∀w',(∃n,w'=w.drewN n)->Q .normal a' w') l a):(Code.region id l.toArray bh).wpIn (F.inRound r) n P Q a w:=by
 simp only[Region.lexB,AN] at hB;refine wpIn_region_draw λt=>lM hro a6 _ _ _ ?_;simp only[Region.schedule,hm,Bool.true_or,if_true];refine wpAnyIn_sound l.toArray.size t _ a _ ?_;refine wpAnyIn_of_quiet (C:=λw'=>∃n,w'=w.drewN n) (Q:=λa'=>∀w',(∃n,w'=w.drewN n)->Q .normal a' w') hro (λ_ w' hw' h=>h w' hw') _ _ _ _ ⟨1,rfl⟩ ?_;have:=wpAnyQIn_lex (F:=F) (n:=n) (C:=λw'=>∃n,w'=w.drewN n) (md:=.any) hB.1 l 0 (bD l.length N) a (by simp) (by simpa using hB.2) (by simpa using h)
 simpa using this
end
end Go
namespace Go.Eu
structure ED where
 a:bw
 fs:Array Func
def ED.b (P:ED):Program:={ P.a with funcs:=P.fs }
def ED.underlying (P:ED)(t:bk):P.b.underlying t=P.a.underlying t:=rfl
def DR (P:ED)(t:bk):P.b.info? t=P.a.info? t:=rfl
abbrev Em:=Nat->Nat->Prop
structure Em.Fa (G:Nat)(β:Em):Prop where
 fn:∀ {b B B'},β b B->β b B'->B=B'
 inj:∀ {b b' B},β b B->β b' B->b=b'
 lo:∀ {b B},β b B->G<=b/\G<=B
def Em.le (β D6:Em):Prop:=∀b B,β b B->D6 b B
def Em.le_refl (β:Em):β.le β:=λ_ _ h=>h
def Em.le_trans {a b c:Em}(h:a.le b)(h':b.le c):a.le c:=λ_ _ x=>h' _ _ (h _ _ x)
structure Hid where
 at_:Nat->Bool
 EZ:Bool
 bl:Bool
instance:CoeFun Hid (λ_=>Nat->Bool):=⟨Hid.at_⟩
structure Fy where
 fn:cq->Prop
 hid:Hid
 fr:cq->Prop
inductive Ip (S:Fy)(β:Em):Fn->Fn->Prop
 |func {f:cq}:S.fn f->Ip S β (.func f) (.func f)
 |yield {l L:Nat}:β l L->S.hid l=N->Ip S β (.yield l) (.yield L)
def hole:Value:=.chan (U 0)
def big:TypeId:=1000000000
def hm:Value:=.func (.method "") #[.iface big undef] #[]
def hd (a:Array Z):Deferred:=⟨.fn (.method "") #[],#[.iface big undef]++a⟩
def oz:Z->Bool
 |.agg _|.tuple _|.pointer bs|.nilIface|.nilFunc|.bool _|.int _ _|.string _|.func (.method _) _ _=>N
 |_=>bh
inductive DZ (S:Fy)(β:Em):Z->Z->Prop
 |bool (b:Bool):DZ S β (.bool b) (.bool b)
 |int (k:IntKind) (n:Int):DZ S β (.int k n) (.int k n)
 |string (s:ByteArray):DZ S β (.string s) (.string s)
 |Hc:DZ S β (.pointer bs) (.pointer bs)
 |ptr {b B:Nat} (o:Nat) (s:Option Nat):β b B->DZ S β (.pointer (U ⟨b,o,s⟩)) (.pointer (U ⟨B,o,s⟩))
 |GL (l c:Nat):DZ S β (.slice bs l c) (.slice bs l c)
 |slice {b B:Nat} (o:Nat) (s:Option Nat) (l c:Nat):β b B->DZ S β (.slice (U ⟨b,o,s⟩) l c) (.slice (U ⟨B,o,s⟩) l c)
 | func {f F : Fn} {x X c C : Array Z} : Ip S β f F -> x.size = X.size -> (∀ (i : Nat) (v V : Z), x[i]? = U v -> X[i]? = U V -> DZ S β v V) ->
   c.size=C.size->(∀(i:Nat) (v V:Z),c[i]?=U v->C[i]?=U V->DZ S β v V)->DZ S β (.func f x c) (.func F X C)
 |nilFunc:DZ S β .nilFunc .nilFunc
 |GX:DZ S β (.map bs) (.map bs)
 |Gq:DZ S β (.chan bs) (.chan bs)
 |nilIface:DZ S β .nilIface .nilIface
 |iface (t:bk) {v V:Z}:DZ S β v V->DZ S β (.iface t v) (.iface t V)
 |agg {x X:Array Z}:x.size=X.size->(∀(i:Nat) (v V:Z),x[i]?=U v->X[i]?=U V->DZ S β v V)->DZ S β (.agg x) (.agg X)
 |tuple {x X:Array Z}:x.size=X.size->(∀(i:Nat) (v V:Z),x[i]?=U v->X[i]?=U V->DZ S β v V)->DZ S β (.tuple x) (.tuple X)
 |blank {V:Z}:(V=hole\/S.hid.bl=bh)->oz V=bh->DZ S β hole V
 |ET {n:String} {x c:Array Z}:(Value.func (.method n) x c=hm\/S.hid.bl=bh)->DZ S β hm (.func (.method n) x c)
 |Fb {a A:bn}:(A=a\/S.hid.bl=bh)->DZ S β (.slice (U a) 0 0) (.slice (U A) 0 0)
structure D8 (S:Fy)(β:Em)(x X:Array Z):Prop where
 size:x.size=X.size
 at_:∀(i:Nat) (v V:Z),x[i]?=U v->X[i]?=U V->DZ S β v V
section
variable {S:Fy} {β D6:Em}
def Ip.mono (h:β.le D6){f F:Fn}(r:Ip S β f F):Ip S D6 f F:=by
 cases r with
 |func s=>exact .func s
 |yield l k=>exact .yield (h _ _ l) k
def DZ.mono (h:β.le D6){v V:Z}(r:DZ S β v V):DZ S D6 v V:=by
 induction r with
 |bool b=>exact .bool b
 |int k n=>exact .int k n
 |string s=>exact .string s
 |Hc=>exact .Hc
 |ptr o s hb=>exact .ptr o s (h _ _ hb)
 |GL l c=>exact .GL l c
 |slice o s l c hb=>exact .slice o s l c (h _ _ hb)
 |func hf h1 _ h2 _ i1 i2=>exact .func (hf.mono h) h1 i1 h2 i2
 |nilFunc=>exact .nilFunc
 |GX=>exact .GX
 |Gq=>exact .Gq
 |nilIface=>exact .nilIface
 |iface t _ ih=>exact .iface t ih
 |agg h1 _ i1=>exact .agg h1 i1
 |tuple h1 _ i1=>exact .tuple h1 i1
 |blank h1 h2=>exact .blank h1 h2
 |ET h1=>exact .ET h1
 |Fb h1=>exact .Fb h1
def D8.mono (h:β.le D6){x X:Array Z}(r:D8 S β x X):D8 S D6 x X:=⟨r.size,λi v V a b=>(r.at_ i v V a b).mono h⟩
def D8.agg {x X:Array Z}(r:D8 S β x X):DZ S β (.agg x) (.agg X):=.agg r.size r.at_
def D8.tuple {x X:Array Z}(r:D8 S β x X):DZ S β (.tuple x) (.tuple X):=.tuple r.size r.at_
def DZ.undef (S:Fy)(β:Em):DZ S β undef undef:=.tuple rfl (by simp)
def Dq:D8 S β #[] #[]:=⟨rfl,by simp⟩
def D8.get? {x X:Array Z}(r:D8 S β x X){i:Nat}{v:Z}(h:x[i]?=U v):∃V,X[i]?=U V/\DZ S β v V:=by
 have hi:i<X.size:=by rw[<-r.size];exact(Az.1 h).1
 exact⟨X[i],AK hi,r.at_ i v _ h (AK hi)⟩
def D8.get_none {x X:Array Z}(r:D8 S β x X){i:Nat}(h:x[i]?=bs):X[i]?=none:=by
 rw[Array.getElem?_eq_none_iff] at h ⊢;rw[<-r.size];exact h
def D8.getD {x X:Array Z}(r:D8 S β x X)(i:Nat){d D:Z}(hd:DZ S β d D):DZ S β (x.getD i d) (X.getD i D):=by
 rw[BY,BY];cases h:x[i]? with
 |none=>rw[r.get_none h];exact hd
 |some v=>obtain⟨V,hV,hr⟩:=r.get? h;rw[hV];exact hr
def D8.push {x X:Array Z}(r:D8 S β x X){v V:Z}(h:DZ S β v V):D8 S β (x.push v) (X.push V):=by
 refine⟨by simp[r.size],λi a A ha hA=>?_⟩;rw[Cm] at ha hA;rw[r.size] at ha;split at ha
 .rw[AF ‹_›] at hA;cases ha;cases hA;exact h
 .rw[AD ‹_›] at hA;exact r.at_ i a A ha hA
def D8.append {x X y Y:Array Z}(r:D8 S β x X)(s:D8 S β y Y):D8 S β (x++y) (X++Y):=by
 refine⟨by simp[r.size,s.size],λi a A ha hA=>?_⟩;rw[C1] at ha hA;rw[r.size] at ha;split at ha
 .rw[AF ‹_›] at hA;exact r.at_ i a A ha hA
 .rw[AD ‹_›] at hA;exact s.at_ _ a A ha hA
def D8.one {v V:Z}(h:DZ S β v V):D8 S β #[v] #[V]:=by simpa using Dq.push h
def D8.extract {x X:Array Z}(r:D8 S β x X)(a b:Nat):D8 S β (x.extract a b) (X.extract a b):=by
 refine⟨by simp[r.size],λi v V hv hV=>?_⟩;rw[Array.getElem?_extract] at hv hV;rw[r.size] at hv;split at hv
 .rw[AF ‹_›] at hV;exact r.at_ _ v V hv hV
 .cases hv
def D8.set {x X:Array Z}(r:D8 S β x X)(i:Nat){v V:Z}(h:DZ S β v V):D8 S β (x.setIfInBounds i v) (X.setIfInBounds i V):=by
 refine⟨by simp[r.size],λj a A ha hA=>?_⟩;rw[Ch] at ha hA;rw[r.size] at ha;split at ha
 .rw[AF ‹_›] at hA;split at ha
  .rw[AF ‹_›] at hA;cases ha;cases hA;exact h
  .cases ha
 .rw[AD ‹_›] at hA;exact r.at_ j a A ha hA
def D8.replicate {v V:Z}(h:DZ S β v V)(n:Nat):D8 S β (bD n v) (bD n V):=by
 refine⟨by simp,λi a A ha hA=>?_⟩;rw[BQ] at ha hA;split at ha
 .rw[AF ‹_›] at hA;cases ha;cases hA;exact h
 .cases ha
def D8.map {α:Type}(l:Array α){f F:α->Z}(h:∀x∈l,DZ S β (f x) (F x)):D8 S β (l.map f) (l.map F):=by
 refine⟨by simp,λi a A ha hA=>?_⟩;rw[BG] at ha hA;cases hx:l[i]? with
 |none=>rw[hx] at ha;cases ha
 |some x =>
  rw[hx] at ha hA;cases ha;cases hA;exact h x (Bi hx)
def DZ.cells {v V:Z}(r:DZ S β v V):D8 S β v.cells V.cells:=by
 cases r with
 |agg h1 h2=>exact⟨h1,h2⟩
 |bool b=>exact D8.one (.bool b)
 |int k n=>exact D8.one (.int k n)
 |string s=>exact D8.one (.string s)
 |Hc=>exact D8.one .Hc
 |ptr o s hb=>exact D8.one (.ptr o s hb)
 |GL l c=>exact D8.one (.GL l c)
 |slice o s l c hb=>exact D8.one (.slice o s l c hb)
 |func hf h1 a1 h2 a2=>exact D8.one (.func hf h1 a1 h2 a2)
 |nilFunc=>exact D8.one .nilFunc
 |GX=>exact D8.one .GX
 |Gq=>exact D8.one .Gq
 |nilIface=>exact D8.one .nilIface
 |iface t r=>exact D8.one (.iface t r)
 |tuple h1 a1=>exact D8.one (.tuple h1 a1)
 |blank h1 h2 =>
  rw[show V.cells=#[V] by cases V<;>first|rfl|cases h2];exact D8.one (.blank h1 h2)
 |ET h1=>exact D8.one (.ET h1)
 |Fb h1=>exact D8.one (.Fb h1)
end
inductive FH (S:Fy)(β:Em):bW->bW->Prop
 |fn {f F:Fn} {c C a A:Array Z}:Ip S β f F->D8 S β c C->D8 S β a A->FH S β ⟨.fn f c,a⟩ ⟨.fn F C,A⟩
 |nil {a A:Array Z}:D8 S β a A->FH S β ⟨.nil,a⟩ ⟨.nil,A⟩
 |collected {r R:Nat}:β r R->S.hid r=N->FH S β ⟨.collected r,#[]⟩ ⟨.collected R,#[]⟩
 |ET {d D:bW} (a A:Array Z):D8 S β a A->d=hd a->(D=hd A\/(S.hid.bl=bh/\∃n c x,D=⟨.fn (.method n) c,x++A⟩))->FH S β d D
inductive E5 {α:Type}(R:α->α->Prop):List α->List α->Prop
 |nil:E5 R [] []
 |cons {a A:α} {l L:List α}:R a A->E5 R l L->E5 R (a::l) (A::L)
def E5.mono {α:Type}{R R':α->α->Prop}(h:∀a A,R a A->R' a A){l L:List α}(r:E5 R l L):E5 R' l L:=by
 induction r with
 |nil=>exact .nil
 |cons a _ ih=>exact .cons (h _ _ a) ih
def E5.append {α:Type}{R:α->α->Prop}{l L m M:List α}(r:E5 R l L)(s:E5 R m M):E5 R (l++m) (L++M):=by
 induction r with
 |nil=>exact s
 |cons a _ ih=>exact .cons a ih
def FH.mono {S:Fy}{β D6:Em}(h:β.le D6){d D:bW}(r:FH S β d D):FH S D6 d D:=by
 cases r with
 |fn f c a=>exact .fn (f.mono h) (c.mono h) (a.mono h)
 |nil a=>exact .nil (a.mono h)
 |collected r k=>exact .collected (h _ _ r) k
 |ET a A h1 h2 h3=>exact .ET a A (h1.mono h) h2 h3
inductive EW (S:Fy)(Ck:cf->Prop)(β:Em):Obj->Obj->Prop
 |cells {c C:Array Z} {t:bk} {f F:Nat×Nat}:D8 S β c C->(∀i,F.1<=i->i<F.2->f.1<=i/\i<f.2)->EW S Ck β (.cells c t f) (.cells C t F)
 | loop {st : LoopState} {pe : Option cf} {fn : cq} {x X : Array Z} {ps : Array Tmp} {Aw bo : cf} {d D : Nat} :
   (S.fr fn/\∀c,pe=U c->Ck c)->Ck Aw->Ck bo->D8 S β x X->β d D->S.hid d=N->EW S Ck β (.loop ⟨st,pe,fn,x,ps,Aw,bo,d⟩) (.loop ⟨st,pe,fn,X,ps,Aw,bo,D⟩)
 |number {b B:Nat} (o:Nat) (s:Option Nat) (lost:Bool):β b B->EW S Ck β (.number ⟨b,o,s⟩ lost) (.number ⟨B,o,s⟩ lost)
 |taken:EW S Ck β (.deferred bs) (.deferred bs)
 |defs {l L:List bW}:E5 (FH S β) l L->EW S Ck β (.deferred (U l)) (.deferred (U L))
def EW.mono {S:Fy}{Ck:cf->Prop}{β D6:Em}(h:β.le D6){o O:Obj}(r:EW S Ck β o O):EW S Ck D6 o O:=by
 cases r with
 |cells a f=>exact .cells (a.mono h) f
 |loop p a b x d k=>exact .loop p a b (x.mono h) (h _ _ d) k
 |number o s l hb=>exact .number o s l (h _ _ hb)
 |taken=>exact .taken
 |defs l=>exact .defs (l.mono λ_ _=>FH.mono h)
def Em.NS (β:Em):Prop:=∀b B,β b B->b=B
def KD (H:Hid)(β:Em):Prop:=H.bl=N/\β.NS
def Ip.id {S:Fy}{β:Em}(h:β.NS){f F:Fn}(r:Ip S β f F):f=F:=by
 cases r with
 |func _=>rfl
 |yield hl _=>rw[h _ _ hl]
def DZ.id {S:Fy}{β:Em}(h:KD S.hid β){v V:Z}(r:DZ S β v V):v=V:=by
 have arr:∀(x X:Array Z),x.size=X.size->(∀(i:Nat) (v V:Z),x[i]?=U v->X[i]?=U V->v=V)->x=X:=λx X hs ha=>by
  refine cE hs λi h1 h2=>?_;exact ha i _ _ (AK h1) (AK h2)
 induction r with
 |ptr o s hb=>rw[h.2 _ _ hb]
 |slice o s l c hb=>rw[h.2 _ _ hb]
 |func hf h1 _ h2 _ i1 i2=>rw[hf.id h.2,arr _ _ h1 i1,arr _ _ h2 i2]
 |iface t _ ih=>rw[ih]
 |agg h1 _ i1=>rw[arr _ _ h1 i1]
 |tuple h1 _ i1=>rw[arr _ _ h1 i1]
 |blank h1 _=>exact h1.elim Eq.symm λh1=>by rw[h.1] at h1;cases h1
 |ET h1=>exact h1.elim Eq.symm λh1=>by rw[h.1] at h1;cases h1
 |Fb h1=>exact h1.elim (λe=>by rw[e]) λh1=>by rw[h.1] at h1;cases h1
 |_=>rfl
def D8.id {S:Fy}{β:Em}(h:KD S.hid β){x X:Array Z}(r:D8 S β x X):x=X :=
 cE r.size λi h1 h2=>(r.at_ i _ _ (AK h1) (AK h2)).id h
def E5.id {α:Type}{R:α->α->Prop}(h:∀a A,R a A->a=A){l L:List α}(r:E5 R l L):l=L:=by
 induction r with
 |nil=>rfl
 |cons ha _ ih=>rw[h _ _ ha,ih]
def FH.id {S:Fy}{β:Em}(h:KD S.hid β){d D:bW}(r:FH S β d D):d=D:=by
 cases r with
 |fn f c a=>rw[f.id h.2,c.id h,a.id h]
 |nil a=>rw[a.id h]
 |collected r _=>rw[h.2 _ _ r]
 |ET a A h1 h2 h3 =>
  rw[h2,h1.id h];exact h3.elim Eq.symm λh1=>by have:=h1.1;rw[h.1] at this;cases this
def EW.id {S:Fy}{Ck:cf->Prop}{β:Em}(h:KD S.hid β){o O:Obj}(r:EW S Ck β o O)(hn:∀c t f,o≠.cells c t f):o=O:=by
 cases r with
 |cells=>exact AI rfl (hn _ _ _)
 |loop p a b x d k=>rw[x.id h,h.2 _ _ d]
 |number o s l hb=>rw[h.2 _ _ hb]
 |taken=>rfl
 |defs l=>rw[l.id λ_ _=>FH.id h]
structure EI (S:Fy)(Ck:cf->Prop)(G:Nat)(β:Em)(w W:I):Prop where
 Fv:β.Fa G
 room:G<=w.heap.size/\G<=W.heap.size
 FJ:∀b B,β b B->S.hid b=N->∃o O,w.heap[b]?=U o/\W.heap[B]?=U O/\EW S Ck β o O
 FV:∀b B,β b B->S.hid b=bh->w.heap[b]?=U (.coro bs)/\(S.hid.EZ=N->∃c t f,W.heap[B]?=U (.cells c t f))/\(S.hid.EZ=bh->W.heap[B]?=U (.coro bs))
 old:∀b,S.hid b=bh->b<w.heap.size
 env:w.os.env=W.os.env
def JY (n:Nat)(w W:I):Prop:=∀i,i<n->∀q,w.tape (w.drawn+i) q=W.tape (W.drawn+i) q
inductive Re:Mark->Prop
 |extern (f:cq):Re (.extern f)
 |noRoom:Re .noRoom
def Fw:Obj->Nat
 |.cells c _ _=>c.size+3
 |.coro bs=>1
 |_=>2
inductive Qd (β:Em)(w:I):b9->Prop
 |cell {a A:bn} {wr sy:Bool}:β a.block A.block->a.off=A.off->(∃n,(w.heap[a.block]?).map Fw=U (n+3)/\a.off<n)->(wr=bh->w.frozen? a=N)->Qd β w ⟨.cell A,wr,sy⟩
 |obj {r R:Nat} {wr sy:Bool}:β r R->(w.heap[r]?).map Fw=U 2->Qd β w ⟨.obj R,wr,sy⟩
 |mark {M:Mark} {wr sy:Bool}:Re M->Qd β w ⟨.mark M,wr,sy⟩
 |out {wr sy:Bool}:Qd β w ⟨.output,wr,sy⟩
structure Fin (S:Fy)(Ck:cf->Prop)(G:Nat)(β D6:Em)(w W w' W':I)(ES:List b9):Prop where
 le:β.le D6
 rel:EI S Ck G D6 w' W'
 tape:w'.tape=w.tape
 TAPE:W'.tape=W.tape
 drawn:w.drawn<=w'.drawn
 draws:W'.drawn+w.drawn=W.drawn+w'.drawn
 os:w'.os=w.os
 OS:W'.os=W.os
 out:w'.output=w.output
 OUT:W'.output=W.output
 size:w.heap.size<=w'.heap.size
 SIZE:W.heap.size<=W'.heap.size
 new:∀b B,D6 b B->β b B\/(w.heap.size<=b/\W.heap.size<=B)
 NEW:∀B,W.heap.size<=B->B<W'.heap.size->∃b,D6 b B
 frozen:∀a:bn,a.block<w.heap.size->w'.frozen? a=w.frozen? a
 KEPT:∀B,B<W.heap.size->(∀b,¬β b B)->W'.heap[B]?=W.heap[B]?
 ro:∀b B c t f,β b B->w.heap[b]?=U (.cells c t f)->(∀i,i<c.size->f.1<=i/\i<f.2)->w'.heap[b]?=w.heap[b]?/\W'.heap[B]?=W.heap[B]?
 kind:∀b,b<w.heap.size->(w'.heap[b]?).map Fw=(w.heap[b]?).map Fw
 evs:S.hid.EZ=N->∀E∈ES,Qd D6 w' E
 same:KD S.hid β->w.heap=W.heap->KD S.hid D6/\w'.heap=W'.heap
 hk:∀b B,β b B->S.hid b=bh->W'.heap[B]?=W.heap[B]?
section
variable {S:Fy} {Ck:cf->Prop} {G:Nat} {β D6 Qt:Em} {w W w' W' w'' W'':I} {ES ES':List b9}
def EI.lt (h:EI S Ck G β w W){b B:Nat}(hb:β b B):b<w.heap.size/\B<W.heap.size:=by
 cases hh:S.hid b with
 |false =>
  obtain⟨o,O,h1,h2,_⟩:=h.FJ b B hb hh;exact⟨(Az.1 h1).1,(Az.1 h2).1⟩
 |true =>
  obtain⟨h1,h2,h3⟩:=h.FV b B hb hh;refine⟨(Az.1 h1).1,?_⟩;cases ht:S.hid.EZ with
  |false=>obtain⟨c,t,f,h2⟩:=h2 ht;exact(Az.1 h2).1
  |true=>exact(Az.1 (h3 ht)).1
def Fin.refl (h:EI S Ck G β w W):Fin S Ck G β β w W w W [] where
 le:=β.le_refl
 rel:=h
 tape:=rfl
 TAPE:=rfl
 drawn:=AA _
 draws:=rfl
 os:=rfl
 OS:=rfl
 out:=rfl
 OUT:=rfl
 size:=AA _
 SIZE:=AA _
 new:=λ_ _ h=>.inl h
 NEW:=λB h1 h2=>AI h2 (by omega)
 frozen:=λ_ _=>rfl
 KEPT:=λ_ _ _=>rfl
 ro:=λ_ _ _ _ _ _ _ _=>⟨rfl,rfl⟩
 kind:=λ_ _=>rfl
 evs:=by simp
 same:=λh e=>⟨h,e⟩
 hk:=λ_ _ _ _=>rfl
def Fin.trans (h:Fin S Ck G β D6 w W w' W' ES)(k:Fin S Ck G D6 Qt w' W' w'' W'' ES'):Fin S Ck G β Qt w W w'' W'' (ES++ES') where
 le:=Em.le_trans h.le k.le
 rel:=k.rel
 tape:=k.tape.trans h.tape
 TAPE:=k.TAPE.trans h.TAPE
 drawn:=AH h.drawn k.drawn
 draws:=by have:=h.draws;have:=k.draws;omega
 os:=k.os.trans h.os
 OS:=k.OS.trans h.OS
 out:=k.out.trans h.out
 OUT:=k.OUT.trans h.OUT
 size:=AH h.size k.size
 SIZE:=AH h.SIZE k.SIZE
 new:=λb B hb=>by
  obtain h1|⟨h1,h2⟩:=k.new b B hb
  .exact h.new b B h1
  .exact .inr ⟨AH h.size h1,AH h.SIZE h2⟩
 NEW:=λB h1 h2=>by
  by_cases hB:B<W'.heap.size
  .obtain⟨b,hb⟩:=h.NEW B h1 hB;exact⟨b,k.le _ _ hb⟩
  .exact k.NEW B (by omega) h2
 frozen:=λa ha=>(k.frozen a (AC ha h.size)).trans (h.frozen a ha)
 KEPT:=λB hB hn=>by
  refine(k.KEPT B (AC hB h.SIZE) (λb hb=>?_)).trans (h.KEPT B hB hn);obtain h1|⟨_,h2⟩:=h.new b B hb
  .exact hn b h1
  .omega
 ro:=λb B c t f hb hc hf=>by
  obtain⟨e1,e2⟩:=h.ro b B c t f hb hc hf;obtain⟨k1,k2⟩:=k.ro b B c t f (h.le _ _ hb) (e1.trans hc) hf;exact⟨k1.trans e1,k2.trans e2⟩
 kind:=λb hb=>(k.kind b (AC hb h.size)).trans (h.kind b hb)
 evs:=λht E hE=>by
  obtain hE|hE:=Bp.1 hE
  .have:=h.evs ht E hE;cases this with
   |cell hb ho hc hw =>
    have hl:=(h.rel.lt hb).1;exact .cell (k.le _ _ hb) ho (let ⟨n,h1,h2⟩:=hc;⟨n,(k.kind _ hl).trans h1,h2⟩) (λe=>(k.frozen _ hl).trans (hw e))
   |obj hr hc=>exact .obj (k.le _ _ hr) ((k.kind _ (h.rel.lt hr).1).trans hc)
   |mark hm=>exact .mark hm
   |out=>exact .out
  .exact k.evs ht E hE
 same:=λi e=>let ⟨a,b⟩:=h.same i e;k.same a b
 hk:=λb B hb hh=>(k.hk b B (h.le _ _ hb) hh).trans (h.hk b B hb hh)
def JY.rest {n:Nat}(h:JY n w W)(k:Fin S Ck G β D6 w W w' W' ES):JY (n-(w'.drawn-w.drawn)) w' W':=by
 intro i hi q;have h1:=k.drawn;have h2:=k.draws;have:=h (w'.drawn-w.drawn+i) (by omega) q;rw[k.tape,k.TAPE];rw[show w.drawn+(w'.drawn-w.drawn+i)=w'.drawn+i from by omega,show W.drawn+(w'.drawn-w.drawn+i)=W'.drawn+i from by omega] at this;exact this
end
def world {α:Type}:Result α->I
 |.ok _ w=>w
 |.halt _ w=>w
def qV {α:Type}:∀(a:Ask α) (w:I),w.drawn<=(w.ask a).2.drawn:=by
 intro a
 induction a with
 |done a=>intro w;exact AA _
 |ask what range k ih =>
  intro w;simp only[World.ask];split
  .exact ih _ _
  .exact AH (BU w.drawn) (ih _ { w with drawn:=w.drawn+1 })
def Ng (w:I)(c:Sys):w.drawn<=(w.sys c).2.drawn:=by
 have h:=qV (Kernel.perform c w.os) w;unfold World.sys;generalize w.ask (Kernel.perform c w.os)=r at h;obtain⟨⟨r,os⟩,w'⟩:=r;cases r<;>first|exact h|exact AA _
def jA {p:bw}{w w':I}{at_ k:bn}{u:bk}{v:Z}{b:Bool}{l:List bn}(h:w.viewStore p at_ u k v b=.ok (w',l)):w'.drawn=w.drawn:=by
 unfold World.viewStore at h;simp only[bind,Except.bind,pure,Except.pure] at h
 repeat' (split at h)
 all_goals first|(cases h;rfl)|cases h
def kv {p:bw}{w w':I}{a:bn}{v:Z}{b:Bool}{l:List bn}(h:w.farStore p a v b=.ok (w',l)):w'.drawn=w.drawn:=by
 unfold ck at h;split at h
 .split at h
  .rename_i r hr;cases h;exact jA hr
  .cases h
 .cases h
def dC {α:Type}(P:bw)(md:Mode)(a:bn)(v:Z)(k:Sem α)(w:I)(es:Array b9)(h1:∀x,v≠.agg x)(h2:∀x,v≠.tuple x) :
  (Sem.store md a v k).runT P w es=match w.cell? a with
   |some _=>if w.frozen? a then(.halt (.unsupported (.unsafePointer "a write to bytes that a string shares")) w,es)
     else k.runT P (w.setCell a v) (es.push ⟨.cell a,bh,md==.atomic⟩)
   | none => match w.farStore P a v (md == .atomic) with
     |.ok (w,a6)=>k.runT P w (es++a6.toArray.map (⟨.cell ·,bh,md==.atomic⟩))
     |.error h=>(.halt h w,es):=by
 cases v<;>first|exact AI rfl (h1 _)|exact AI rfl (h2 _)|rfl
def Gf {α:Type}(P:bw)(m:Sem α):∀(w:I) (es:Array b9),w.drawn<=(world (m.runT P w es).1).drawn:=by
 induction m with
 |pure a=>intro w es;exact AA _
 |load md a k ih =>
  intro w es;simp only[J];split
  .exact ih _ _ _
  .split
   .exact ih _ _ _
   .exact AA _
 |store md a v k ih =>
  intro w es;by_cases h1:∃x,v=.agg x
  .obtain⟨x,rfl⟩:=h1;exact AA _
  by_cases h2:∃x,v=.tuple x
  .obtain⟨x,rfl⟩:=h2;exact AA _
  rw[dC P md a v k w es (λx e=>h1 ⟨x,e⟩) (λx e=>h2 ⟨x,e⟩)];split
  .split
   .exact AA _
   .exact ih (w.setCell a v) _
  .split
   .rename_i w' l hw;have:=kv hw;exact AH (BR this.symm) (ih _ _)
   .exact AA _
 |new o k ih=>intro w es;exact ih _ { w with heap:=w.heap.push o } _
 |shape r k ih=>intro w es;exact ih _ _ _
 |freeze a n k ih=>intro w es;exact AH (by unfold World.freeze;split<;>exact AA _) (ih _ _)
 |frozen a k ih=>intro w es;exact ih _ _ _
 |getObj r k ih =>
  intro w es;simp only[J];split
  .exact AA _
  .exact ih _ _ _
  .exact AA _
 |setObj r o k ih =>
  intro w es;simp only[J];split
  .exact AA _
  .exact ih { w with heap:=w.heap.setIfInBounds r o } _
  .exact AA _
 |choose q k ih =>
  intro w es;simp only[J];split
  .exact ih _ _ _
  .exact AH (BU w.drawn) (ih _ { w with drawn:=w.drawn+1 } _)
 |sys c k ih=>intro w es;exact AH (Ng w c) (ih _ _ _)
 |program k ih=>intro w es;exact ih _ _ _
 |mark m k ih=>intro w es;exact ih _ _
 |halt h=>intro w es;exact AA _
def aj {α γ:Type}(P:bw)(m:Sem α)(k:α->Sem γ):∀(w:I) (es:Array b9),(m >>= k).runT P w es =
  match m.runT P w es with
  |(.ok a w',es')=>(k a).runT P w' es'
  |(.halt h w',es')=>(.halt h w',es'):=by
 induction m with
 |pure a=>intro w es;rfl
 |load md a k' ih =>
  intro w es;show((Sem.load md a λv=>(k' v) >>= k)).runT P w es=_;simp only[J];split
  .exact ih _ _ _
  .split
   .exact ih _ _ _
   .rfl
 |store md a v k' ih =>
  intro w es;show((Sem.store md a v (k' >>= k))).runT P w es=_;by_cases h1:∃x,v=.agg x
  .obtain⟨x,rfl⟩:=h1;rfl
  by_cases h2:∃x,v=.tuple x
  .obtain⟨x,rfl⟩:=h2;rfl
  rw[dC P md a v _ w es (λx e=>h1 ⟨x,e⟩) (λx e=>h2 ⟨x,e⟩),dC P md a v _ w es (λx e=>h1 ⟨x,e⟩) (λx e=>h2 ⟨x,e⟩)];split
  .split
   .rfl
   .exact ih _ _
  .split
   .exact ih _ _
   .rfl
 |new o k' ih=>intro w es;exact ih _ _ _
 |shape r k' ih=>intro w es;exact ih _ _ _
 |freeze a n k' ih=>intro w es;exact ih _ _
 |frozen a k' ih=>intro w es;exact ih _ _ _
 |getObj r k' ih =>
  intro w es;show((Sem.getObj r λv=>(k' v) >>= k)).runT P w es=_;simp only[J];split
  .rfl
  .exact ih _ _ _
  .rfl
 |setObj r o k' ih =>
  intro w es;show((Sem.setObj r o (k' >>= k))).runT P w es=_;simp only[J];split
  .rfl
  .exact ih _ _
  .rfl
 |choose q k' ih =>
  intro w es;show((Sem.choose q λv=>(k' v) >>= k)).runT P w es=_;simp only[J];split
  .exact ih _ _ _
  .exact ih _ _ _
 |sys c k' ih=>intro w es;exact ih _ _ _
 |program k' ih=>intro w es;exact ih _ _ _
 |mark m k' ih=>intro w es;exact ih _ _
 |halt h=>intro w es;rfl
section
variable (P:ED) (S:Fy) (Ck:cf->Prop) (G:Nat)
def Ends {α Hd:Type}(β:Em)(w W:I)(a6:Array b9)(R:Em->α->Hd->Prop):Result α×Array b9->Result Hd×Array b9->Prop
 |(.ok a w',_),r=>∃D6 A W' ES,r=(.ok A W',a6++ES.toArray)/\R D6 a A/\Fin S Ck G β D6 w W w' W' ES
 |(.halt (.panic v) w',_),r=>∃D6 V W' ES,r=(.halt (.panic V) W',a6++ES.toArray)/\DZ S D6 v V/\Fin S Ck G β D6 w W w' W' ES
 |(.halt (.stuck _) _,_),_=>True
 |(.halt (.unsupported u) _,_),_=>∀g,u≠.initOrder g
 |_,_=>False
def Ed {α Hd:Type}(β:Em)(m:Sem α)(M:Sem Hd)(R:Em->α->Hd->Prop):Prop :=
 ∀w W n,EI S Ck G β w W->JY n w W->∀a6 a7,(world (m.runT P.a w a6).1).drawn<=w.drawn+n ->
  Ends S Ck G β w W a7 R (m.runT P.a w a6) (M.runT P.b W a7)
end
section
variable {P:ED} {S:Fy} {Ck:cf->Prop} {G:Nat} {β:Em} {α Hd γ γ':Type}
def DY {R:Em->α->Hd->Prop}{a:α}{A:Hd}(h:R β a A):Ed P S Ck G β (pure a:Sem α) (pure A:Sem Hd) R:=by
 intro w W n hw ht a7 a6 _;exact⟨β,A,W,[],by show(Result.ok A W,a6)=_;simp,h,Fin.refl hw⟩
def vI {R R':Em->α->Hd->Prop}{m:Sem α}{M:Sem Hd}(h:Ed P S Ck G β m M R)(hr:∀D6 a A,β.le D6->R D6 a A->R' D6 a A):Ed P S Ck G β m M R':=by
 intro w W n hw ht a6 a7 hb;have:=h w W n hw ht a6 a7 hb;revert this;generalize m.runT P.a w a6=r;obtain⟨r,es'⟩:=r;cases r with
 |ok a w' =>
  rintro⟨D6,A,W',ES,h1,h3,h4⟩;exact⟨D6,A,W',ES,h1,hr _ _ _ h4.le h3,h4⟩
 |halt x w'=>cases x<;>exact id
def DX {R:Em->α->Hd->Prop}{R':Em->γ->γ'->Prop}{m:Sem α}{M:Sem Hd}{k:α->Sem γ}{K:Hd->Sem γ'}(h:Ed P S Ck G β m M R)
  (hk:∀D6 a A,β.le D6->R D6 a A->Ed P S Ck G D6 (k a) (K A) R'):Ed P S Ck G β (m >>= k) (M >>= K) R':=by
 intro w W n hw ht aA aB hb;rw[aj] at hb ⊢;rw[aj];have hm:=h w W n hw ht aA aB;revert hb hm;generalize hr:m.runT P.a w aA=r;obtain⟨r,a6⟩:=r;cases r with
 |ok a w1 =>
  intro hb hm;simp only at hb ⊢;have h1:=Gf P.a (k a) w1 a6;obtain⟨a7,A,W1,ES,e1,e3,e4⟩:=hm (AH h1 hb);have hd:=e4.drawn;have h2:=hk a7 a A e4.le e3 w1 W1 (n-(w1.drawn-w.drawn)) e4.rel (ht.rest e4) a6 (aB++ES.toArray) (by omega);rw[e1];simp only;revert h2;generalize (k a).runT P.a w1 a6=r2;obtain⟨r2,es2⟩:=r2;cases r2 with
  |ok b w2 =>
   rintro⟨a8,B,W2,Ax,f1,f3,f4⟩;exact⟨a8,B,W2,ES++Ax,by rw[f1];simp,f3,e4.trans f4⟩
  |halt x w2 =>
   cases x with
   |panic v =>
    rintro⟨a8,B,W2,Ax,f1,f3,f4⟩;exact⟨a8,B,W2,ES++Ax,by rw[f1];simp,f3,e4.trans f4⟩
   |_=>exact id
 |halt x w1 =>
  intro hb hm;simp only at hb ⊢;have:=hm hb;cases x with
  |panic v =>
   obtain⟨a7,A,W1,ES,e1,e3,e4⟩:=this;exact⟨a7,A,W1,ES,by rw[e1],e3,e4⟩
  |_=>exact this
def D7 {R:Em->α->Hd->Prop}{s:String}{M:Sem Hd}:Ed P S Ck G β (stuck s:Sem α) M R:=λ_ _ _ _ _ _ _ _=>trivial
def Eb {R:Em->α->Hd->Prop}{u:Unsupported}{M:Sem Hd}(h:∀g,u≠.initOrder g):Ed P S Ck G β (unsupported u:Sem α) M R:=λ_ _ _ _ _ _ _ _=>h
def dq {R:Em->α->Hd->Prop}{v V:Z}(h:DZ S β v V):Ed P S Ck G β (goPanic v:Sem α) (goPanic V:Sem Hd) R:=by
 intro w W n hw ht a7 a6 _;exact⟨β,V,W,[],by show(Result.halt (.panic V) W,a6)=_;simp,h,Fin.refl hw⟩
def aT:Ed P S Ck G β program program (λ_ a A=>a=P.a/\A=P.b):=by
 intro w W n hw ht a7 a6 _;exact⟨β,P.b,W,[],by show(Result.ok P.b W,a6)=_;simp,⟨rfl,rfl⟩,Fin.refl hw⟩
def am (t:bk):Ed P S Ck G β (underlying t) (underlying t) (λ_ a A=>a=A/\P.a.underlying t=U a):=by
 refine DX aT ?_;rintro D6 a A _ ⟨rfl,rfl⟩;rw[ED.underlying];cases h:P.a.underlying t with
 |none=>exact D7
 |some d=>exact DY ⟨rfl,rfl⟩
def bm (t:bk):Ed P S Ck G β (typeInfo t) (typeInfo t) (λ_ a A=>a=A/\P.a.info? t=U a):=by
 refine DX aT ?_;rintro D6 a A _ ⟨rfl,rfl⟩;rw[DR];cases h:P.a.info? t with
 |none=>exact D7
 |some d=>exact DY ⟨rfl,rfl⟩
def aK (t:bk):Ed P S Ck G β (sizeOf t) (sizeOf t) (λ_ a A=>a=A):=by
 refine DX (bm t) ?_;rintro D6 a A _ ⟨rfl,_⟩;exact DY rfl
def lZ (t:bk):Ed P S Ck G β (isAgg t) (isAgg t) (λ_ a A=>a=A):=by
 refine DX (am t) ?_;rintro D6 a A _ ⟨rfl,_⟩;split<;>exact DY rfl
def dE {v V:Z}(h:DZ S β v V):Ed P S Ck G β (asIntOf v) (asIntOf V) (λ_ a A=>a=A):=by
 cases h with
 |int k n=>exact DY rfl
 |ptr=>exact Eb (by simp)
 |_=>exact D7
def eU {v V:Z}(h:DZ S β v V):Ed P S Ck G β (asInt v) (asInt V) (λ_ a A=>a=A):=by
 refine DX (dE h) ?_;rintro D6 a A _ rfl;exact DY rfl
def gS {v V:Z}(h:DZ S β v V):Ed P S Ck G β (asBool v) (asBool V) (λ_ a A=>a=A):=by
 cases h with
 |bool b=>exact DY rfl
 |_=>exact D7
def tD {v V:Z}(h:DZ S β v V):Ed P S Ck G β (asAgg v) (asAgg V) (λD6 a A=>D8 S D6 a A):=by
 cases h with
 |agg h1 h2=>exact DY ⟨h1,h2⟩
 |_=>exact D7
end
structure E0 (β:Em)(a A:bn):Prop where
 block:β a.block A.block
 off:a.off=A.off
 spot:a.spot=A.spot
def E0.mono {β D6:Em}(h:β.le D6){a A:bn}(r:E0 β a A):E0 D6 a A:=⟨h _ _ r.block,r.off,r.spot⟩
def E0.add {β:Em}{a A:bn}(r:E0 β a A)(n:Nat):E0 β (a.add n) (A.add n):=by
 unfold Addr.add;split
 .exact r
 .exact⟨r.block,by simp[r.off],rfl⟩
def E0.ptr {S:Fy}{β:Em}{a A:bn}(r:E0 β a A):DZ S β (.pointer (U a)) (.pointer (U A)):=by
 obtain⟨B,O,s'⟩:=A;obtain⟨h1,h2,h3⟩:=r;cases h2;cases h3;exact .ptr _ _ h1
def E0.sl {S:Fy}{β:Em}{a A:bn}(r:E0 β a A)(l c:Nat):DZ S β (.slice (U a) l c) (.slice (U A) l c):=by
 obtain⟨B,O,s'⟩:=A;obtain⟨h1,h2,h3⟩:=r;cases h2;cases h3;exact .slice _ _ _ _ h1
def Ir (a:bn)(v:Z):Obj->Obj
 |.cells c elem frozen=>.cells (if a.spot.isSome then c else c.setIfInBounds a.off v) elem frozen
 |o=>o
def EJ (w:I)(a:bn)(v:Z)(b:Nat):(w.setCell a v).heap[b]?=if b=a.block then(w.heap[b]?).map (Ir a v) else w.heap[b]?:=by
 have e:w.setCell a v={ w with heap:=w.heap.modify a.block (Ir a v) }:=by
  unfold b6;congr 2
 rw[e];simp only;rw[BA];by_cases h:b=a.block
 .subst h;simp
 .rw[AD (λe=>h e.symm),AD h]
def bB (w:I)(a:bn)(v:Z):(w.setCell a v).heap.size=w.heap.size:=by simp[b6]
def Qw (i:Nat):Obj->Bool
 |.cells _ _ r=>decide (r.1<=i)&&decide (i<r.2)
 |_=>N
def bi (w:I)(x:bn):w.frozen? x=((w.heap[x.block]?).map (Qw x.off)).getD false:=by
 unfold b7;cases w.heap[x.block]? with
 |none=>rfl
 |some o=>cases o<;>rfl
def vJ (a:bn)(v:Z)(i:Nat)(o:Obj):Qw i (Ir a v o)=Qw i o:=by cases o<;>rfl
def fS (w:I)(a:bn)(v:Z)(x:bn):(w.setCell a v).frozen? x=w.frozen? x:=by
 rw[bi,bi,EJ];split
 .cases w.heap[x.block]? with
  |none=>rfl
  |some o=>simp[vJ]
 .rfl
section
variable {P:ED} {S:Fy} {Ck:cf->Prop} {G:Nat} {β:Em}
def EI.cell {w W:I}(hw:EI S Ck G β w W){a A:bn}(h:E0 β a A){v:Z}(hc:w.cell? a=U v) :
  ∃c C t f F,w.heap[a.block]?=U (.cells c t f)/\W.heap[A.block]?=U (.cells C t F)/\D8 S β c C/\(∀i,F.1<=i->i<F.2->f.1<=i/\i<f.2) /\
   a.spot=bs/\a.off<c.size/\c[a.off]?=U v/\∃V,W.cell? A=U V/\DZ S β v V:=by
 unfold cu at hc;cases hh:S.hid a.block with
 |true=>rw[(hw.FV _ _ h.block hh).1] at hc;cases hc
 |false =>
  obtain⟨o,O,h1,h2,h3⟩:=hw.FJ _ _ h.block hh;rw[h1] at hc;cases h3 with
  |cells ha hf =>
   rename_i c C t f F;simp only at hc;have hs:a.spot=none:=by
    cases hs:a.spot with
    |none=>rfl
    |some s=>rw[hs] at hc;simp at hc
   rw[hs] at hc;simp at hc;obtain⟨V,hV,hr⟩:=ha.get? hc;refine⟨c,C,t,f,F,h1,h2,ha,hf,hs,(Az.1 hc).1,hc,V,?_,hr⟩;unfold cu;rw[h2];simp only[<-h.spot,hs,<-h.off];simpa using hV
  |_=>simp at hc
def MR {w W:I}(hw:EI S Ck G β w W){a A:bn}(h:E0 β a A):(∀b,∃s,w.farLoad P.a a b=.error (.stuck s))/\(∀v b,∃s,w.farStore P.a a v b=.error (.stuck s)):=by
 unfold World.farLoad ck World.noCell;cases hh:S.hid a.block with
 |true =>
  rw[(hw.FV _ _ h.block hh).1];exact⟨λ_=>⟨_,rfl⟩,λ_ _=>⟨_,rfl⟩⟩
 |false =>
  obtain⟨o,O,h1,h2,h3⟩:=hw.FJ _ _ h.block hh;rw[h1];cases h3<;>exact⟨λ_=>⟨_,rfl⟩,λ_ _=>⟨_,rfl⟩⟩
def iL {a A:bn}(h:E0 β a A)(m:Mode):Ed P S Ck G β (bA a m) (bA A m) (λD6 v V=>DZ S D6 v V):=by
 intro w W n hw ht a6 a7 _;cases hc:w.cell? a with
 |none =>
  obtain⟨s,hs⟩:=(MR (P:=P) hw h).1 (m==.atomic);have:(bA a m).runT P.a w a6=(.halt (.stuck s) w,a6):=by simp only[bA,J,hc,hs]
  rw[this];trivial
 |some v =>
  obtain⟨c,C,t,f,F,h1,h2,h3,h4,h5,h6,h7,V,h8,h9⟩:=hw.cell h hc;have e1:(bA a m).runT P.a w a6=(.ok v w,a6.push ⟨.cell a,N,m==.atomic⟩):=by simp only[bA,J,hc]
  have e2:(bA A m).runT P.b W a7=(.ok V W,a7.push ⟨.cell A,N,m==.atomic⟩):=by simp only[bA,J,h8]
  rw[e1,e2];refine⟨β,V,W,[⟨.cell A,N,m==.atomic⟩],by simp,h9,{ Fin.refl hw with evs:=?_ }⟩;intro _ E hE;cases BS.1 hE;exact .cell h.block h.off ⟨c.size,by rw[h1];rfl,h6⟩ (λe=>by cases e)
def jh {a A:bn}(h:E0 β a A)(m:Mode){v V:Z}(hv:DZ S β v V):Ed P S Ck G β (cw a v m) (cw A V m) (λ_ _ _=>True):=by
 intro w W n hw ht a8 a7 _;by_cases h1:∃x,v=.agg x
 .obtain⟨x,rfl⟩:=h1;trivial
 by_cases h2:∃x,v=.tuple x
 .obtain⟨x,rfl⟩:=h2;trivial
 have aA:∀x,V≠.agg x:=λx e=>by subst e;cases hv with
  |agg=>exact h1 ⟨_,rfl⟩
  |blank _ h=>cases h
 have aB:∀x,V≠.tuple x:=λx e=>by subst e;cases hv with
  |tuple=>exact h2 ⟨_,rfl⟩
  |blank _ h=>cases h
 have r1:=dC P.a m a v (.pure ()) w a8 (λx e=>h1 ⟨x,e⟩) (λx e=>h2 ⟨x,e⟩);have r2:=dC P.b m A V (.pure ()) W a7 aA aB;unfold cw;rw[r1,r2];cases hc:w.cell? a with
 |none =>
  obtain⟨s,hs⟩:=(MR (P:=P) hw h).2 v (m==.atomic);simp only[hs];trivial
 |some x =>
  obtain⟨c,C,t,f,F,g1,g2,g3,g4,g5,g6,g7,X,g8,g9⟩:=hw.cell h hc;simp only[g8];by_cases hz:w.frozen? a=bh
  .rw[AF hz];exact λg e=>by cases e
  .rw[AD hz];have hZ:¬W.frozen? A=true:=by
    unfold b7 at hz ⊢;rw[g1] at hz;rw[g2];simp only[AN,decide_eq_true_eq] at hz ⊢;rw[<-h.off];exact λ⟨p,q⟩=>hz (g4 _ p q)
   rw[AD hZ];refine⟨β,(),W.setCell A V,[⟨.cell A,bh,m==.atomic⟩],by show(Result.ok () _,a7.push _)=_;simp,trivial,?_⟩;have ww:∀b B,β b B->(b=a.block↔B=A.block):=λb B hb=>⟨λe=>hw.Fv.fn (e▸hb) h.block,λe=>hw.Fv.inj hb (e▸h.block)⟩;have nh:S.hid a.block=false:=by
    cases hh:S.hid a.block with
    |false=>rfl
    |true=>rw[(hw.FV _ _ h.block hh).1] at g1;cases g1
   have hrel:EI S Ck G β (w.setCell a v) (W.setCell A V):=by
    refine⟨hw.Fv,by rw[bB,bB];exact hw.room,λb B hb hh=>?_,λb B hb hh=>?_,λb hb=>by rw[bB];exact hw.old b hb,hw.env⟩
    .obtain⟨o,O,k1,k2,k3⟩:=hw.FJ b B hb hh;rw[EJ,EJ];by_cases e:b=a.block
     .have E:=(ww b B hb).1 e;subst e;subst E;rw[g1] at k1;cases k1;rw[g2] at k2;cases k2;rw[g1,g2];have hs:A.spot=none:=by rw[<-h.spot];exact g5
      refine⟨_,_,by rw[AF rfl];rfl,by rw[AF rfl];rfl,?_⟩;simp only[Ir,g5,hs,h.off];exact .cells (g3.set _ hv) g4
     .have E:¬B=A.block:=λE=>e ((ww b B hb).2 E);exact⟨o,O,by rw[AD e];exact k1,by rw[AD E];exact k2,k3⟩
    .have e:¬b=a.block:=λe=>by subst e;rw[nh] at hh;cases hh
     have E:¬B=A.block:=λE=>e ((ww b B hb).2 E);rw[EJ,EJ,AD e,AD E];exact hw.FV b B hb hh
   have aC:¬(∀i,i<c.size->f.1<=i/\i<f.2):=λhf=>by
    obtain⟨p,q⟩:=hf _ g6;unfold b7 at hz;rw[g1] at hz;exact hz (by simp[p,q])
   have a6:∀b,((w.setCell a v).heap[b]?).map Fw=(w.heap[b]?).map Fw:=λb=>by
    rw[EJ];split
    .cases w.heap[b]? with
     |none=>rfl
     |some o=>cases o<;>first|rfl|(simp only[Ir,Fw,BW];split<;>simp)
    .rfl
   exact {
    le:=β.le_refl
    rel:=hrel
    tape:=rfl
    TAPE:=rfl
    drawn:=AA _
    draws:=rfl
    os:=rfl
    OS:=rfl
    out:=rfl
    OUT:=rfl
    size:=by rw[bB];exact AA _
    SIZE:=by rw[bB];exact AA _
    new:=λ_ _ h=>.inl h
    NEW:=λB h1 h2=>AI h2 (by rw[bB];omega)
    frozen:=λx _=>fS w a v x
    KEPT:=λB _ hn=>by rw[EJ,AD (λe=>hn _ (e▸h.block))]
    ro:=λb B c' t' f' hb hc' hf'=>by
     by_cases e:b=a.block
     .subst e;rw[g1] at hc';cases hc';exact AI hf' aC
     .have E:¬B=A.block:=λE=>e ((ww b B hb).2 E);exact⟨by rw[EJ,AD e],by rw[EJ,AD E]⟩
    kind:=λb _=>a6 b
    evs:=λ_ E hE=>by
     cases BS.1 hE
     exact .cell h.block h.off ⟨c.size,by rw[a6,g1];rfl,g6⟩ (λ_=>by rw[fS];simpa using hz)
    same:=λi e=>by
     have ea:a=A:=by
      obtain⟨b1,o1,s1⟩:=a;obtain⟨b2,o2,s2⟩:=A;obtain⟨q1,q2,q3⟩:=h;cases q2;cases q3;have q4:b1=b2:=i.2 _ _ q1;rw[q4]
     have ev:v=V:=hv.id i;subst ea ev;exact⟨i,by simp only[b6,e]⟩
    hk:=λb B hb hh=>by
     have e:¬b=a.block:=λe=>by subst e;rw[nh] at hh;cases hh
     have E:¬B=A.block:=λE=>e ((ww b B hb).2 E)
     rw[EJ,AD E] }
def bM (w:I)(o:Obj)(b:Nat):({ w with heap:=w.heap.push o }:I).heap[b]?=if b=w.heap.size then U o else w.heap[b]?:=by
 simp only[Cm]
def jE {o O:Obj}(h:EW S Ck β o O)(hid:KD S.hid β->o=O):Ed P S Ck G β (newObj o) (newObj O) (λD6 b B=>D6 b B/\S.hid b=N):=by
 intro w W n hw ht a6 a7 _;have e1:(newObj o).runT P.a w a6=(.ok w.heap.size { w with heap:=w.heap.push o },a6):=rfl;have e2:(newObj O).runT P.b W a7=(.ok W.heap.size { W with heap:=W.heap.push O },a7):=rfl;rw[e1,e2];have hG:=hw.room;have nh:S.hid w.heap.size=false:=by
  cases hh:S.hid w.heap.size with
  |false=>rfl
  |true=>have:=hw.old _ hh;omega
 let D6:Em:=λb B=>β b B\/(b=w.heap.size/\B=W.heap.size)
 have le:β.le D6:=λb B h=>.inl h;have Fv:D6.Fa G:=by
  refine⟨?_,?_,?_⟩
  .rintro b B B' (h1|⟨rfl,rfl⟩) (h2|⟨h2,rfl⟩)
   .exact hw.Fv.fn h1 h2
   .exact AI (hw.lt h1).1 (by omega)
   .exact AI (hw.lt h2).1 (by omega)
   .rfl
  .rintro b b' B (h1|⟨rfl,rfl⟩) (h2|⟨rfl,h2⟩)
   .exact hw.Fv.inj h1 h2
   .exact AI (hw.lt h1).2 (by omega)
   .exact AI (hw.lt h2).2 (by omega)
   .rfl
  .rintro b B (h1|⟨rfl,rfl⟩)
   .exact hw.Fv.lo h1
   .exact hG
 have rel:EI S Ck G D6 { w with heap:=w.heap.push o } { W with heap:=W.heap.push O }:=by
  refine⟨Fv,by simp;omega,?_,?_,λb hb=>by have:=hw.old b hb;simp;omega,hw.env⟩
  .rintro b B (hb|⟨rfl,rfl⟩) hh
   .obtain⟨x,X,k1,k2,k3⟩:=hw.FJ b B hb hh;have:=hw.lt hb;exact⟨x,X,by rw[bM,AD (by omega)];exact k1,by rw[bM,AD (by omega)];exact k2,k3.mono le⟩
   .exact⟨o,O,by rw[bM,AF rfl],by rw[bM,AF rfl],h.mono le⟩
  .rintro b B (hb|⟨rfl,rfl⟩) hh
   .have:=hw.lt hb;rw[bM,bM,AD (by omega),AD (by omega)];exact hw.FV b B hb hh
   .rw[nh] at hh;cases hh
 refine⟨D6,W.heap.size,_,[],by simp,⟨.inr ⟨rfl,rfl⟩,nh⟩,{
  le:=le
  rel:=rel
  tape:=rfl
  TAPE:=rfl
  drawn:=AA _
  draws:=rfl
  os:=rfl
  OS:=rfl
  out:=rfl
  OUT:=rfl
  size:=by simp
  SIZE:=by simp
  new:=?_
  NEW:=λB h1 h2=>⟨w.heap.size,.inr ⟨rfl,by simp at h2;omega⟩⟩
  frozen:=λx hx=>by rw[bi,bi,bM,AD (by omega)]
  KEPT:=λB hB _=>by rw[bM,AD (by omega)]
  ro:=λb B c t f hb _ _=>by have:=hw.lt hb;rw[bM,bM,AD (by omega),AD (by omega)];exact⟨rfl,rfl⟩
  kind:=λb hb=>by rw[bM,AD (by omega)]
  evs:=by simp
  same:=λi e=>⟨⟨i.1,by
   rintro b B (hb|⟨rfl,rfl⟩)
   .exact i.2 b B hb
   .rw[e]⟩,by rw[e,hid i]⟩
  hk:=λb B hb _=>by have:=(hw.lt hb).2;rw[bM,AD (by omega)] }⟩
 rintro b B (hb|⟨rfl,rfl⟩)
 .exact .inl hb
 .exact .inr ⟨AA _,AA _⟩
def ji {b B:Nat}(h:β b B):Ed P S Ck G β (bq b) (bq B) (λ_ x X=>x=X\/x=bs):=by
 intro w W n hw ht a6 a7 _;have e1:(bq b).runT P.a w a6=(.ok (w.shape? b) w,a6):=rfl;have e2:(bq B).runT P.b W a7=(.ok (W.shape? B) W,a7):=rfl;rw[e1,e2];refine⟨β,W.shape? B,W,[],by simp,?_,Fin.refl hw⟩;unfold cr;cases hh:S.hid b with
 |true=>rw[(hw.FV _ _ h hh).1];exact .inr rfl
 |false =>
  obtain⟨o,O,k1,k2,k3⟩:=hw.FJ b B h hh;rw[k1,k2];cases k3 with
  |cells ha _=>exact .inl (by simp[ha.size])
  |_=>exact .inl rfl
def kS {b B:Nat}(h:β b B)(hh:S.hid b=N):Ed P S Ck G β (bq b) (bq B) (λ_ x X=>x=X):=by
 intro w W n hw ht a6 a7 _;have e1:(bq b).runT P.a w a6=(.ok (w.shape? b) w,a6):=rfl;have e2:(bq B).runT P.b W a7=(.ok (W.shape? B) W,a7):=rfl;rw[e1,e2];refine⟨β,W.shape? B,W,[],by simp,?_,Fin.refl hw⟩;unfold cr;obtain⟨o,O,k1,k2,k3⟩:=hw.FJ b B h hh;rw[k1,k2];cases k3 with
 |cells ha _=>simp[ha.size]
 |_=>rfl
def fz (q:Question):Ed P S Ck G β (ak q) (ak q) (λ_ x X=>x=X):=by
 intro w W n hw ht a6 a7 hb;by_cases hq:q.forced=bh
 .have e1:(ak q).runT P.a w a6=(.ok 0 w,a6):=by simp only[ak,J,hq,if_true]
  have e2:(ak q).runT P.b W a7=(.ok 0 W,a7):=by simp only[ak,J,hq,if_true]
  rw[e1,e2];exact⟨β,0,W,[],by simp,rfl,Fin.refl hw⟩
 .have e1:(ak q).runT P.a w a6=(.ok (q.cut (w.tape w.drawn q)) { w with drawn:=w.drawn+1 },a6):=by simp only[ak,J,AD hq]
  have e2:(ak q).runT P.b W a7=(.ok (q.cut (W.tape W.drawn q)) { W with drawn:=W.drawn+1 },a7):=by simp only[ak,J,AD hq]
  rw[e1] at hb;rw[e1,e2];have:w.tape w.drawn q=W.tape W.drawn q:=by
   have:=ht 0 (by simp only[world] at hb;omega) q;simpa using this
  refine⟨β,q.cut (W.tape W.drawn q),{ W with drawn:=W.drawn+1 },[],by simp,by rw[this],{ Fin.refl hw with evs:=by simp,rel:=⟨hw.Fv,hw.room,hw.FJ,hw.FV,hw.old,hw.env⟩,drawn:=BU _,draws:=?_,same:=λi e=>⟨i,e⟩,hk:=λ_ _ _ _=>rfl,.. }⟩
  .show W.drawn+1+w.drawn=W.drawn+(w.drawn+1);omega
def rh:Ed P S Ck G β (mark .noRoom) (mark .noRoom) (λ_ _ _=>True):=by
 intro w W n hw ht a6 a7 _;have e1:(mark .noRoom).runT P.a w a6=(.ok () w,a6.push ⟨.mark .noRoom,N,bh⟩):=rfl;have e2:(mark .noRoom).runT P.b W a7=(.ok () W,a7.push ⟨.mark .noRoom,N,bh⟩):=rfl;rw[e1,e2];exact⟨β,(),W,[⟨.mark .noRoom,N,bh⟩],by simp,trivial,{ Fin.refl hw with evs:=λ_ E hE=>by cases BS.1 hE;exact .mark .noRoom }⟩
def fB {r R:Nat}(h:β r R)(hh:S.hid r=N):Ed P S Ck G β (bb r) (bb R) (λD6 o O=>EW S Ck D6 o O):=by
 intro w W n hw ht a6 a7 _;obtain⟨o,O,k1,k2,k3⟩:=hw.FJ r R h hh;have key:∀(hk:Fw o=2),(∀c t f,o≠.cells c t f)->(∀c t f,O≠.cells c t f)->Ends S Ck G β w W a7 (λD6 o O=>EW S Ck D6 o O) ((bb r).runT P.a w a6) ((bb R).runT P.b W a7):=by
  intro hk h1 h2;have e1:(bb r).runT P.a w a6=(.ok o w,a6.push ⟨.obj r,N,o.isChan⟩):=by
   simp only[bb,J,k1]
  have e2:(bb R).runT P.b W a7=(.ok O W,a7.push ⟨.obj R,N,O.isChan⟩):=by
   simp only[bb,J,k2]
  rw[e1,e2];exact⟨β,O,W,[⟨.obj R,N,O.isChan⟩],by simp,k3,{ Fin.refl hw with evs:=λ_ E hE=>by cases BS.1 hE;exact .obj h (by rw[k1];simp[hk]) }⟩
 cases k3 with
 |cells a f =>
  have:(bb r).runT P.a w a6=(.halt (.stuck "getObj: a row of cells") w,a6):=by simp only[bb,J,k1]
  rw[this];trivial
 |loop=>exact key rfl (by simp) (by simp)
 |number=>exact key rfl (by simp) (by simp)
 |taken=>exact key rfl (by simp) (by simp)
 |defs=>exact key rfl (by simp) (by simp)
def aX (w:I)(r:Nat)(o:Obj)(b:Nat)(h:r<w.heap.size):({ w with heap:=w.heap.setIfInBounds r o }:I).heap[b]?=if b=r then U o else w.heap[b]?:=by
 simp only;rw[Ch];by_cases e:r=b
 .subst e;simp[h]
 .rw[AD e,AD (λx=>e x.symm)]
def fC {r R:Nat}(h:β r R)(hh:S.hid r=N){o O:Obj}(ho:EW S Ck β o O)(hk:Fw o=2):Ed P S Ck G β (bc r o) (bc R O) (λ_ _ _=>True):=by
 intro w W n hw ht a7 a8 _;obtain⟨x,X,k1,k2,k3⟩:=hw.FJ r R h hh;have lt:=hw.lt h;have hn:∀c t f,o≠.cells c t f:=λc t f e=>by subst e;simp[Fw] at hk
 have key:Fw x=2->(∀c t f,x≠.cells c t f)->(∀c t f,X≠.cells c t f)->Ends S Ck G β w W a8 (λ_ _ _=>True) ((bc r o).runT P.a w a7) ((bc R O).runT P.b W a8):=by
  intro hx h1 h2;have e1:(bc r o).runT P.a w a7=(.ok () { w with heap:=w.heap.setIfInBounds r o },a7.push ⟨.obj r,bh,o.isChan⟩):=by
   simp only[bc,J,k1]
  have e2:(bc R O).runT P.b W a8=(.ok () { W with heap:=W.heap.setIfInBounds R O },a8.push ⟨.obj R,bh,O.isChan⟩):=by
   simp only[bc,J,k2]
  rw[e1,e2];have ww:∀b B,β b B->(b=r↔B=R):=λb B hb=>⟨λe=>hw.Fv.fn (e▸hb) h,λe=>hw.Fv.inj hb (e▸h)⟩;have aA:∀b,(({ w with heap:=w.heap.setIfInBounds r o }:I).heap[b]?).map Fw=(w.heap[b]?).map Fw:=λb=>by
   rw[aX _ _ _ _ lt.1];split
   .rename_i e;rw[e,k1];simp[hx,hk]
   .rfl
  refine⟨β,(),{ W with heap:=W.heap.setIfInBounds R O },[⟨.obj R,bh,O.isChan⟩],by simp,trivial,{
   le:=β.le_refl
   rel:=⟨hw.Fv,by simpa using hw.room,λb B hb a6=>?_,λb B hb a6=>?_,λb hb=>by have:=hw.old b hb;simpa using this,hw.env⟩
   tape:=rfl
   TAPE:=rfl
   drawn:=AA _
   draws:=rfl
   os:=rfl
   OS:=rfl
   out:=rfl
   OUT:=rfl
   size:=by simp
   SIZE:=by simp
   new:=λ_ _ h=>.inl h
   NEW:=λB h1 h2=>AI h2 (by simp;omega)
   frozen:=λa _=>?_
   KEPT:=λB hB hn=>by rw[aX _ _ _ _ lt.2,AD (λe=>hn _ (e▸h))]
   ro:=λb B c t f hb hc _=>?_
   kind:=λb _=>aA b
   evs:=λ_ E hE=>by cases BS.1 hE;exact .obj h (by rw[aA,k1];simp[hx])
   same:=λi e=>⟨i,by rw[e,i.2 _ _ h,ho.id i hn]⟩
   hk:=λb B hb a6=>by
    have e:¬b=r:=λe=>by subst e;rw[hh] at a6;cases a6
    have E:¬B=R:=λE=>e ((ww b B hb).2 E)
    rw[aX _ _ _ _ lt.2,AD E] }⟩
  .obtain⟨y,Y,j1,j2,j3⟩:=hw.FJ b B hb a6;by_cases e:b=r
   .have E:=(ww b B hb).1 e;exact⟨o,O,by rw[aX _ _ _ _ lt.1,AF e],by rw[aX _ _ _ _ lt.2,AF E],ho⟩
   .have E:¬B=R:=λE=>e ((ww b B hb).2 E);exact⟨y,Y,by rw[aX _ _ _ _ lt.1,AD e];exact j1,by rw[aX _ _ _ _ lt.2,AD E];exact j2,j3⟩
  .have e:¬b=r:=λe=>by subst e;rw[hh] at a6;cases a6
   have E:¬B=R:=λE=>e ((ww b B hb).2 E);rw[aX _ _ _ _ lt.1,aX _ _ _ _ lt.2,AD e,AD E];exact hw.FV b B hb a6
  .rw[bi,bi,aX _ _ _ _ lt.1];split
   .rename_i e;rw[e,k1];cases x<;>cases o<;>first|exact AI rfl (h1 _ _ _)|exact AI rfl (hn _ _ _)|rfl
   .rfl
  .have e:¬b=r:=λe=>by subst e;rw[k1] at hc;cases hc;exact h1 _ _ _ rfl
   have E:¬B=R:=λE=>e ((ww b B hb).2 E);exact⟨by rw[aX _ _ _ _ lt.1,AD e],by rw[aX _ _ _ _ lt.2,AD E]⟩
 cases k3 with
 |cells a f =>
  have:(bc r o).runT P.a w a7=(.halt (.stuck "setObj: a row of cells") w,a7):=by simp only[bc,J,k1]
  rw[this];trivial
 |loop=>exact key rfl (by simp) (by simp)
 |number=>exact key rfl (by simp) (by simp)
 |taken=>exact key rfl (by simp) (by simp)
 |defs=>exact key rfl (by simp) (by simp)
end
def plain:Nat->Z->Bool
 |0,_=>N
 |_+1,.bool _|_+1,.int _ _|_+1,.string _|_+1,.pointer bs|_+1,.slice bs _ _|_+1,.nilFunc|_+1,.nilIface|_+1,.map bs|_+1,.chan bs=>bh
 |n+1,.agg cs=>cs.all (plain n)
 |n+1,.tuple cs=>cs.all (plain n)
 |_,_=>N
def gT {S:Fy}{β:Em}:∀ {n:Nat} {v:Z},plain n v=bh->DZ S β v v:=by
 intro n
 induction n with
 |zero=>intro v h;simp[plain] at h
 |succ n ih =>
  intro v h;cases v with
  |bool b=>exact .bool b
  |int k n=>exact .int k n
  |string s=>exact .string s
  |pointer a=>cases a with
   |none=>exact .Hc
   |some a=>simp[plain] at h
  |slice a l c=>cases a with
   |none=>exact .GL l c
   |some a=>simp[plain] at h
  |nilFunc=>exact .nilFunc
  |nilIface=>exact .nilIface
  |map r=>cases r with
   |none=>exact .GX
   |some a=>simp[plain] at h
  |chan r=>cases r with
   |none=>exact .Gq
   |some a=>simp[plain] at h
  |agg cs =>
   simp only[plain,Ba] at h;exact .agg rfl λi v V h1 h2=>by rw[h1] at h2;cases h2;exact ih (h v (Bi h1))
  |tuple cs =>
   simp only[plain,Ba] at h;exact .tuple rfl λi v V h1 h2=>by rw[h1] at h2;cases h2;exact ih (h v (Bi h1))
  |_=>simp[plain] at h
def bX (P:bw)(t:bk):Bool:=match P.info? t with
 |some i=>match i.zero with
  |some z=>plain 8 z
  |none=>bh
 |none=>bh
section
variable {P:ED} {S:Fy} {Ck:cf->Prop} {G:Nat} {β:Em}
def cM {t:bk}(h:bX P.a t=bh):Ed P S Ck G β (zeroValue t) (zeroValue t) (λD6 v V=>v=V/\DZ S D6 v V):=by
 refine DX (bm t) ?_;rintro D6 a A _ ⟨rfl,hi⟩;unfold bX at h;rw[hi] at h;simp only at h;cases hz:a.zero with
 |none=>exact Eb (by simp)
 |some z=>rw[hz] at h;exact DY ⟨rfl,gT h⟩
def jl {a A:bn}(h:E0 β a A)(i n:Nat){acc a6:Array Z}(a7:D8 S β acc a6) :
  Ed P S Ck G β (loadCellsFrom a i n acc) (loadCellsFrom A i n a6) (λD6 x X=>D8 S D6 x X):=by
 induction n generalizing β i acc a6 with
 |zero=>exact DY a7
 |succ n ih =>
  refine DX (iL (h.add i) .plain) ?_;intro D6 v V zX hv;exact ih (h.mono zX) _ ((a7.mono zX).push hv)
def gV {a A:bn}(h:E0 β a A)(n:Nat):Ed P S Ck G β (loadCells a n) (loadCells A n) (λD6 x X=>D8 S D6 x X):=jl h 0 n Dq
def gN {a A:bn}(h:E0 β a A){l L:List Z}(hl:E5 (DZ S β) l L)(i:Nat):Ed P S Ck G β (storeCells a l i) (storeCells A L i) (λ_ _ _=>True):=by
 induction l generalizing β i L with
 |nil=>cases hl;exact DY trivial
 |cons v l ih =>
  cases hl with
  |cons hv hr =>
   refine DX (jh (h.add i) .plain hv) ?_;intro D6 _ _ zX _;exact ih (h.mono zX) (hr.mono λ_ _=>DZ.mono zX) _
def DA {α:Type}{R:α->α->Prop}:∀ {l L:List α},l.length=L.length->(∀(i:Nat) (v V:α),l[i]?=U v->L[i]?=U V->R v V)->E5 R l L
 |[],[],_,_=>.nil
 |a::l,A::L,h,k=>.cons (k 0 a A rfl rfl) (DA (by simpa using h) λi v V h1 h2=>k (i+1) v V (by simpa using h1) (by simpa using h2))
 |[],_::_,h,_=>by simp at h
 |_::_,[],h,_=>by simp at h
def D8.toList {x X:Array Z}(r:D8 S β x X):E5 (DZ S β) x.toList X.toList :=
 DA (by simpa using r.size) λi v V h1 h2=>r.at_ i v V (by simpa using h1) (by simpa using h2)
def E5.get {α:Type}{R:α->α->Prop}{l L:List α}(h:E5 R l L):l.length=L.length/\∀(i:Nat) (v V:α),l[i]?=U v->L[i]?=U V->R v V:=by
 induction h with
 |nil=>exact⟨rfl,by simp⟩
 |cons ha _ ih =>
  refine⟨by simp[ih.1],λi v V h1 h2=>?_⟩;cases i with
  |zero=>simp at h1 h2;subst h1;subst h2;exact ha
  |succ i=>exact ih.2 i v V (by simpa using h1) (by simpa using h2)
def E5.toArray {l L:List Z}(h:E5 (DZ S β) l L):D8 S β l.toArray L.toArray :=
 ⟨by simpa using h.get.1,λi v V h1 h2=>h.get.2 i v V (by simpa using h1) (by simpa using h2)⟩
def jF (t:bk){a A:bn}(h:E0 β a A):Ed P S Ck G β (loadVar t a) (loadVar t A) (λD6 v V=>DZ S D6 v V):=by
 refine DX (lZ t) ?_;rintro D6 b _ zX rfl;split
 .refine DX (aK t) ?_;rintro a7 n _ a6 rfl;refine DX (gV ((h.mono zX).mono a6) n) ?_;intro a8 x X _ hx;exact DY hx.agg
 .exact iL (h.mono zX) _
def ny (t:bk){a A:bn}(h:E0 β a A){v V:Z}(hv:DZ S β v V):Ed P S Ck G β (storeVar t a v) (storeVar t A V) (λ_ _ _=>True):=by
 refine DX (aK t) ?_;rintro D6 n _ zX rfl;rw[hv.cells.size];split
 .exact λ_ _ _ _ _ _ _ _=>trivial
 .exact gN (h.mono zX) (hv.mono zX).cells.toList 0
def fD (t:bk){c C:Array Z}(h:D8 S β c C):Ed P S Ck G β (newRow t c) (newRow t C) (λD6 a A=>E0 D6 a A):=by
 refine DX (jE (.cells h (λi h1 h2=>AI h2 (by simp))) (λi=>by rw[h.id i])) ?_;rintro D6 b B _ ⟨hb,_⟩;exact DY ⟨hb,rfl,rfl⟩
def gW (t:bk){v V:Z}(h:DZ S β v V):Ed P S Ck G β (newVar t v) (newVar t V) (λD6 a A=>E0 D6 a A):=fD t h.cells
def cD (t:bk){c C:Array Z}(h:D8 S β c C)(o:Nat):Ed P S Ck G β (part t c o) (part t C o) (λD6 v V=>DZ S D6 v V):=by
 refine DX (lZ t) ?_;rintro D6 b _ zX rfl;split
 .refine DX (aK t) ?_;rintro a7 n _ a6 rfl;exact DY (((h.mono zX).mono a6).extract _ _).agg
 .cases hc:c[o]? with
  |none=>exact D7
  |some v=>obtain⟨V,hV,hr⟩:=(h.mono zX).get? hc;rw[hV];exact DY hr
def de {v V:Z}(h:DZ S β v V):Ed P S Ck G β (Instr.sureAddr v) (Instr.sureAddr V) (λD6 a A=>E0 D6 a A):=by
 cases h with
 |ptr o s hb=>exact DY ⟨hb,rfl,rfl⟩
 |_=>exact D7
def az {α Hd:Type}{R:Em->α->Hd->Prop}(e:RuntimeError)(h:match e with|.bounds ..|.error _|.plain _|.nilDeref=>True|_=>False) :
  Ed P S Ck G β (runtimePanic e:Sem α) (runtimePanic e:Sem Hd) R:=by
 refine DX aT ?_;rintro D6 a A _ ⟨rfl,rfl⟩;cases e with
 |bounds x y s c =>
  refine dq (.iface _ (gT (n:=2) ?_));simp[plain]
 |error m=>exact dq (.iface _ (.string _))
 |plain m=>exact dq (.iface _ (.string _))
 |nilDeref=>exact dq (.iface _ (.string _))
 |typeAssertion i c a m=>exact h.elim
 |panicNil=>exact h.elim
 |unhashable t=>exact h.elim
def Fs {α Hd:Type}{R:Em->α->Hd->Prop}(k:IntKind)(x y:Int)(c:BoundsCode):Ed P S Ck G β (b8 k x y c:Sem α) (b8 k x y c:Sem Hd) R:=by
 unfold b8;split
 .refine DX (R:=λ_ a A=>a=A) ?_ ?_
  .refine DX (fz _) ?_;rintro D6 a A _ rfl;exact DY rfl
  .rintro D6 a A _ rfl;exact az (.bounds _ _ _ _) trivial
 .refine DX (DY (R:=λ_ a A=>a=A) rfl) ?_;rintro D6 a A _ rfl;exact az (.bounds _ _ _ _) trivial
end
end Go.Eu
