/- Parts of the proof. -/
import Derived.Sort.BigQuietIn
import Derived.StepT
import Derived.RunT
import Derived.Runnable
set_option linter.all false
open Go renaming Value->a6,World->bb,choose->bh,getObj->bk,setObj->bn,TypeId->br,Addr->bs,shape->bw,Program->bW,load->b5,Deferred->b7,boundsPanic->cq,Event->cr,Code->cu,FuncId->cE,store->cU
open Go.Sem renaming runT->a7
open Option renaming some->a8,none->bD
open Bool renaming false->bc,true->bq
open Go.Value renaming pointer->bA,slice->b8
open Array renaming replicate->b6,ext->c0
open Go.World renaming setCell->b9,frozen?->cf,farStore->cw,shape?->cF,cell?->cK
namespace Go
def yK:=@Array.getElem?_eq_some_iff
def yL:=@Nat.le_refl
def yM:=@List.getElem?_eq_getElem
def yO:=@Nat.lt_of_lt_of_le
def yQ:=@List.not_mem_nil
def yR:=@Nat.le_trans
def yS:=@Array.getElem?_eq_getElem
def yT:=@List.mem_cons
def yV:=@List.length_cons
def yX:=@List.size_toArray
def yY:=@Bool.and_eq_true
def yZ:=@Nat.zero_add
def zb:=@List.length_nil
def zc:=@Option.getD_some
def ze:=@List.getElem?_eq_some_iff
def zf:=@Nat.zero_le
def zg:=@Bool.false_eq_true
def zh:=@Array.all_eq_true_iff_forall_mem
def zi:=@List.take_of_length_le
def zj:=@List.eq_nil_of_length_eq_zero
def zk:=@Bool.or_eq_true
def zl:=@Array.mem_of_getElem?
def zm:=@Option.map_eq_some_iff
def zn:=@Array.getElem?_setIfInBounds_ne
def zo:=@List.getElem?_append_left
def zp:=@Nat.eq_zero_or_pos
def zq:=@Nat.lt_or_eq_of_le
def zr:=@List.getElem?_cons_zero
def zt:=@Nat.le_succ
def zu:=@List.mem_map
def zv:=@List.getElem?_append_right
def zw:=@Array.empty_append
def zx:=@List.getElem_mem
def zy:=@List.length_map
def zz:=@List.getElem?_cons_succ
def zA:=@List.getElem?_toArray
def zB:=@List.mem_range
def zC:=@Nat.lt_or_ge
def zE:=@List.all_eq_true
def zG:=@Nat.le_of_lt_succ
def zH:=@Array.getElem?_modify
def zI:=@Array.getElem?_map
def zJ:=@List.mem_append
def zK:=@Option.bind_some
def zL:=@List.getElem?_map
def zM:=@Array.replicate_succ
def zN:=@Array.replicate_zero
def zO:=@Array.getElem?_replicate
def zP:=@Nat.le_of_eq
def zR:=@List.append_toArray
def zS:=@List.mem_of_getElem?
def zT:=@Option.map_some
def zU:=@Nat.not_lt_zero
def zV:=@List.cons_append
def zW:=@Array.getD_eq_getD_getElem?
def zX:=@List.push_toArray
def zY:=@Bool.not_eq_true'
def zZ:=@List.mem_iff_getElem
def z8:=@List.mem_toArray
def Aa:=@Bool.false_and
def Ab:=@List.nil_append
def Ac:=@List.mem_cons_self
def Ad:=@List.length_append
def Ae:=@List.map_cons
def Af:=@List.foldl_cons
def Ag:=@List.map_nil
def Ah:=@List.mem_singleton
def Ai:=@Array.getElem?_setIfInBounds
def Aj:=@List.mem_cons_of_mem
def Ak:=@Bool.and_false
def Al:=@Array.getElem?_push
def Am:=@List.getElem?_range
def Ao:=@Array.getElem?_eq_none
def Ap:=@Bool.true_and
def Aq:=@List.getD_eq_getElem?_getD
def As:=@Bool.not_eq_false'
def Au:=@Bool.or_eq_false_iff
def Av:=@Nat.pow_le_pow_right
def Aw:=@List.mem_of_mem_take
def Ay:=@List.append_nil
def Az:=@Array.getElem?_setIfInBounds_self_of_lt
def AA:=@List.map_toArray
def AB:=@Option.isSome_none
def AC:=@List.set_cons_succ
def AD:=@List.getElem?_take
def AE:=@List.mem_filter
def AF:=@List.length_filter_le
def AG:=@List.getElem?_eq_none
def AH:=@List.take_add_one
def AI:=@List.append_assoc
def AJ:=@Nat.add_assoc
def AK:=@List.filter_append
def AL:=@List.set_cons_zero
def AM:=@Int.toNat_natCast
def AN:=@Nat.le_succ_of_le
def AO:=@Array.getElem?_mapIdx
def AP:=@Array.getElem?_append
def AQ:=@List.length_take
def AS:=@List.getElem?_set_ne
def AT:=@List.take_length
def AU:=@Array.getElem?_append_left
def AV:=@Bool.or_false
def AW:=@List.flatMap_append
def AX:=@List.drop_eq_getElem_cons
def AY:=@List.range_succ
def AZ:=@List.map_append
def A7:=@Array.mapM_eq_mapM_toList
def Ba:=@Nat.le_add_left
def Bb:=@List.mem_or_eq_of_mem_set
def Bc:=@List.length_set
def Bd:=@List.find?_eq_none
def Be:=@Array.foldl_toList
def Bf:=@Array.forIn_toList
def Bg:=@Nat.ne_of_lt
def Bi:=@Array.getElem_ofFn
def Bj:=@List.pairwise_cons
def Bl:=@List.foldl_nil
end Go

namespace Go
section
variable {F:Fence} {n:Nat} {P:bW} {ops:Array Oper} {C:bb->Prop}
def kN (o:Oper):Bool:=match o.op with
 |.defer _=>bc
 |_=>bq
def lO {Q:Exit->Act->bb->Prop}{r:Nat}(hro:F.round=bD)(Z3:ops.all kN=bq):∀(l:List Nat) (a:Act) (w:bb),wpOpsIn F n P ops Q l a w->wpOpsIn (F.inRound r) n P ops Q l a w:=by
 intro l
 induction l with
 |nil=>exact λa w h=>h
 |cons i rest ih =>
  intro a w h;simp only[wpOpsIn] at h ⊢;cases ho:ops[i]? with
  |none=>simp only[ho] at h ⊢;exact ih a w h
  |some o =>
   simp only[ho] at h ⊢;have hm:o∈ops:=zl ho;have hd:∀c,o.op≠.defer c:=λc e=>by
    have:=(zh.1 Z3) o hm;simp[kN,e] at this
   split
   .rename_i hw;rw[if_pos hw] at h;have h2:=Oper.wpIn_mono (K':=wpOpsIn (F.inRound r) n P ops Q rest) (λa w=>ih a w) h;unfold Oper.wpIn at h2 ⊢;rw[Oper.semAt_eq _ _ _ hd] at h2 ⊢;refine⟨h2.1,?_⟩;have h3:=h2.2;generalize (execOp a.eval o).run P w=res at h3 ⊢;cases res with
    |ok x w'=>cases x<;>exact h3
    |halt x w'=>cases x<;>exact h3
   .rename_i hw;rw[if_neg hw] at h;exact⟨h.1,ih _ _ h.2⟩
def fo {id r:Nat}{Q:Exit->Act->bb->Prop}{a:Act}{w:bb}{l:List Oper}(hro:F.round=bD)(Z3:l.toArray.all kN=bq)(hm:P.follows .mixedOrders=bq)(hB:Region.lexB .any l.toArray=bq)
  (h:wpQuietIn F n P l.toArray (λw'=>∃n,w'=w.drewN n) (λa'=>∀w',(∃n,w'=w.drewN n)->Q .normal a' w') l a):(Code.region id l.toArray bq).wpIn (F.inRound r) n P Q a w:=by
 simp only[Region.lexB,yY] at hB;refine wpIn_region_draw λt=>lO hro Z3 _ _ _ ?_;simp only[Region.schedule,hm,Bool.true_or,if_true];refine wpAnyIn_sound l.toArray.size t _ a _ ?_;refine wpAnyIn_of_quiet (C:=λw'=>∃n,w'=w.drewN n) (Q:=λa'=>∀w',(∃n,w'=w.drewN n)->Q .normal a' w') hro (λ_ w' hw' h=>h w' hw') _ _ _ _ ⟨1,rfl⟩ ?_;have:=wpAnyQIn_lex (F:=F) (n:=n) (C:=λw'=>∃n,w'=w.drewN n) (md:=.any) hB.1 l 0 (b6 l.length bc) a (by simp) (by simpa using hB.2) (by simpa using h)
 simpa using this
end
end Go
namespace Go.Ct
structure CL where
 a:bW
 fs:Array Func
def CL.b (P:CL):Program:={ P.a with funcs:=P.fs }
def CL.underlying (P:CL)(t:br):P.b.underlying t=P.a.underlying t:=rfl
def BY (P:CL)(t:br):P.b.info? t=P.a.info? t:=rfl
abbrev Cm:=Nat->Nat->Prop
structure Cm.Dk (G:Nat)(β:Cm):Prop where
 fn:∀ {b B B'},β b B->β b B'->B=B'
 inj:∀ {b b' B},β b B->β b' B->b=b'
 lo:∀ {b B},β b B->G<=b/\G<=B
def Cm.le (β B8:Cm):Prop:=∀b B,β b B->B8 b B
def Cm.le_refl (β:Cm):β.le β:=λ_ _ h=>h
def Cm.le_trans {a b c:Cm}(h:a.le b)(h':b.le c):a.le c:=λ_ _ x=>h' _ _ (h _ _ x)
structure Hid where
 at_:Nat->Bool
 C8:Bool
 bl:Bool
instance:CoeFun Hid (λ_=>Nat->Bool):=⟨Hid.at_⟩
structure DT where
 fn:cE->Prop
 hid:Hid
 fr:cE->Prop
inductive GL (S:DT)(β:Cm):Fn->Fn->Prop
 |func {f:cE}:S.fn f->GL S β (.func f) (.func f)
 |yield {l L:Nat}:β l L->S.hid l=bc->GL S β (.yield l) (.yield L)
def hole:Value:=.chan (a8 0)
def big:TypeId:=1000000000
def hm:Value:=.func (.method "") #[.iface big undef] #[]
def hd (a:Array a6):Deferred:=⟨.fn (.method "") #[],#[.iface big undef]++a⟩
def n8:a6->Bool
 |.agg _|.tuple _|.pointer bD|.nilIface|.nilFunc|.bool _|.int _ _|.string _|.func (.method _) _ _=>bc
 |_=>bq
inductive B6 (S:DT)(β:Cm):a6->a6->Prop
 |bool (b:Bool):B6 S β (.bool b) (.bool b)
 |int (k:IntKind) (n:Int):B6 S β (.int k n) (.int k n)
 |string (s:ByteArray):B6 S β (.string s) (.string s)
 |FJ:B6 S β (.pointer bD) (.pointer bD)
 |ptr {b B:Nat} (o:Nat) (s:Option Nat):β b B->B6 S β (.pointer (a8 ⟨b,o,s⟩)) (.pointer (a8 ⟨B,o,s⟩))
 |Fc (l c:Nat):B6 S β (.slice bD l c) (.slice bD l c)
 |slice {b B:Nat} (o:Nat) (s:Option Nat) (l c:Nat):β b B->B6 S β (.slice (a8 ⟨b,o,s⟩) l c) (.slice (a8 ⟨B,o,s⟩) l c)
 | func {f F : Fn} {x X c C : Array a6} : GL S β f F -> x.size = X.size -> (∀ (i : Nat) (v V : a6), x[i]? = a8 v -> X[i]? = a8 V -> B6 S β v V) ->
   c.size=C.size->(∀(i:Nat) (v V:a6),c[i]?=a8 v->C[i]?=a8 V->B6 S β v V)->B6 S β (.func f x c) (.func F X C)
 |nilFunc:B6 S β .nilFunc .nilFunc
 |Fu:B6 S β (.map bD) (.map bD)
 |EX:B6 S β (.chan bD) (.chan bD)
 |nilIface:B6 S β .nilIface .nilIface
 |iface (t:br) {v V:a6}:B6 S β v V->B6 S β (.iface t v) (.iface t V)
 |agg {x X:Array a6}:x.size=X.size->(∀(i:Nat) (v V:a6),x[i]?=a8 v->X[i]?=a8 V->B6 S β v V)->B6 S β (.agg x) (.agg X)
 |tuple {x X:Array a6}:x.size=X.size->(∀(i:Nat) (v V:a6),x[i]?=a8 v->X[i]?=a8 V->B6 S β v V)->B6 S β (.tuple x) (.tuple X)
 |blank {V:a6}:(V=hole\/S.hid.bl=bq)->n8 V=bq->B6 S β hole V
 |C3 {n:String} {x c:Array a6}:(Value.func (.method n) x c=hm\/S.hid.bl=bq)->B6 S β hm (.func (.method n) x c)
 |Dl {a A:bs}:(A=a\/S.hid.bl=bq)->B6 S β (.slice (a8 a) 0 0) (.slice (a8 A) 0 0)
structure Ca (S:DT)(β:Cm)(x X:Array a6):Prop where
 size:x.size=X.size
 at_:∀(i:Nat) (v V:a6),x[i]?=a8 v->X[i]?=a8 V->B6 S β v V
section
variable {S:DT} {β B8:Cm}
def GL.mono (h:β.le B8){f F:Fn}(r:GL S β f F):GL S B8 f F:=by
 cases r with
 |func s=>exact .func s
 |yield l k=>exact .yield (h _ _ l) k
def B6.mono (h:β.le B8){v V:a6}(r:B6 S β v V):B6 S B8 v V:=by
 induction r with
 |bool b=>exact .bool b
 |int k n=>exact .int k n
 |string s=>exact .string s
 |FJ=>exact .FJ
 |ptr o s hb=>exact .ptr o s (h _ _ hb)
 |Fc l c=>exact .Fc l c
 |slice o s l c hb=>exact .slice o s l c (h _ _ hb)
 |func hf h1 _ h2 _ i1 i2=>exact .func (hf.mono h) h1 i1 h2 i2
 |nilFunc=>exact .nilFunc
 |Fu=>exact .Fu
 |EX=>exact .EX
 |nilIface=>exact .nilIface
 |iface t _ ih=>exact .iface t ih
 |agg h1 _ i1=>exact .agg h1 i1
 |tuple h1 _ i1=>exact .tuple h1 i1
 |blank h1 h2=>exact .blank h1 h2
 |C3 h1=>exact .C3 h1
 |Dl h1=>exact .Dl h1
def Ca.mono (h:β.le B8){x X:Array a6}(r:Ca S β x X):Ca S B8 x X:=⟨r.size,λi v V a b=>(r.at_ i v V a b).mono h⟩
def Ca.agg {x X:Array a6}(r:Ca S β x X):B6 S β (.agg x) (.agg X):=.agg r.size r.at_
def Ca.tuple {x X:Array a6}(r:Ca S β x X):B6 S β (.tuple x) (.tuple X):=.tuple r.size r.at_
def B6.undef (S:DT)(β:Cm):B6 S β undef undef:=.tuple rfl (by simp)
def Bt:Ca S β #[] #[]:=⟨rfl,by simp⟩
def Ca.get? {x X:Array a6}(r:Ca S β x X){i:Nat}{v:a6}(h:x[i]?=a8 v):∃V,X[i]?=a8 V/\B6 S β v V:=by
 have hi:i<X.size:=by rw[<-r.size];exact(yK.1 h).1
 exact⟨X[i],yS hi,r.at_ i v _ h (yS hi)⟩
def Ca.get_none {x X:Array a6}(r:Ca S β x X){i:Nat}(h:x[i]?=bD):X[i]?=none:=by
 rw[Array.getElem?_eq_none_iff] at h ⊢;rw[<-r.size];exact h
def Ca.getD {x X:Array a6}(r:Ca S β x X)(i:Nat){d D:a6}(hd:B6 S β d D):B6 S β (x.getD i d) (X.getD i D):=by
 rw[zW,zW];cases h:x[i]? with
 |none=>rw[r.get_none h];exact hd
 |some v=>obtain⟨V,hV,hr⟩:=r.get? h;rw[hV];exact hr
def Ca.push {x X:Array a6}(r:Ca S β x X){v V:a6}(h:B6 S β v V):Ca S β (x.push v) (X.push V):=by
 refine⟨by simp[r.size],λi a A ha hA=>?_⟩;rw[Al] at ha hA;rw[r.size] at ha;split at ha
 .rw[if_pos ‹_›] at hA;cases ha;cases hA;exact h
 .rw[if_neg ‹_›] at hA;exact r.at_ i a A ha hA
def Ca.append {x X y Y:Array a6}(r:Ca S β x X)(s:Ca S β y Y):Ca S β (x++y) (X++Y):=by
 refine⟨by simp[r.size,s.size],λi a A ha hA=>?_⟩;rw[AP] at ha hA;rw[r.size] at ha;split at ha
 .rw[if_pos ‹_›] at hA;exact r.at_ i a A ha hA
 .rw[if_neg ‹_›] at hA;exact s.at_ _ a A ha hA
def Ca.one {v V:a6}(h:B6 S β v V):Ca S β #[v] #[V]:=by simpa using Bt.push h
def Ca.extract {x X:Array a6}(r:Ca S β x X)(a b:Nat):Ca S β (x.extract a b) (X.extract a b):=by
 refine⟨by simp[r.size],λi v V hv hV=>?_⟩;rw[Array.getElem?_extract] at hv hV;rw[r.size] at hv;split at hv
 .rw[if_pos ‹_›] at hV;exact r.at_ _ v V hv hV
 .cases hv
def Ca.set {x X:Array a6}(r:Ca S β x X)(i:Nat){v V:a6}(h:B6 S β v V):Ca S β (x.setIfInBounds i v) (X.setIfInBounds i V):=by
 refine⟨by simp[r.size],λj a A ha hA=>?_⟩;rw[Ai] at ha hA;rw[r.size] at ha;split at ha
 .rw[if_pos ‹_›] at hA;split at ha
  .rw[if_pos ‹_›] at hA;cases ha;cases hA;exact h
  .cases ha
 .rw[if_neg ‹_›] at hA;exact r.at_ j a A ha hA
def Ca.replicate {v V:a6}(h:B6 S β v V)(n:Nat):Ca S β (b6 n v) (b6 n V):=by
 refine⟨by simp,λi a A ha hA=>?_⟩;rw[zO] at ha hA;split at ha
 .rw[if_pos ‹_›] at hA;cases ha;cases hA;exact h
 .cases ha
def Ca.map {α:Type}(l:Array α){f F:α->a6}(h:∀x∈l,B6 S β (f x) (F x)):Ca S β (l.map f) (l.map F):=by
 refine⟨by simp,λi a A ha hA=>?_⟩;rw[zI] at ha hA;cases hx:l[i]? with
 |none=>rw[hx] at ha;cases ha
 |some x =>
  rw[hx] at ha hA;cases ha;cases hA;exact h x (zl hx)
def B6.cells {v V:a6}(r:B6 S β v V):Ca S β v.cells V.cells:=by
 cases r with
 |agg h1 h2=>exact⟨h1,h2⟩
 |bool b=>exact Ca.one (.bool b)
 |int k n=>exact Ca.one (.int k n)
 |string s=>exact Ca.one (.string s)
 |FJ=>exact Ca.one .FJ
 |ptr o s hb=>exact Ca.one (.ptr o s hb)
 |Fc l c=>exact Ca.one (.Fc l c)
 |slice o s l c hb=>exact Ca.one (.slice o s l c hb)
 |func hf h1 a1 h2 a2=>exact Ca.one (.func hf h1 a1 h2 a2)
 |nilFunc=>exact Ca.one .nilFunc
 |Fu=>exact Ca.one .Fu
 |EX=>exact Ca.one .EX
 |nilIface=>exact Ca.one .nilIface
 |iface t r=>exact Ca.one (.iface t r)
 |tuple h1 a1=>exact Ca.one (.tuple h1 a1)
 |blank h1 h2 =>
  rw[show V.cells=#[V] by cases V<;>first|rfl|cases h2];exact Ca.one (.blank h1 h2)
 |C3 h1=>exact Ca.one (.C3 h1)
 |Dl h1=>exact Ca.one (.Dl h1)
end
inductive D5 (S:DT)(β:Cm):b7->b7->Prop
 |fn {f F:Fn} {c C a A:Array a6}:GL S β f F->Ca S β c C->Ca S β a A->D5 S β ⟨.fn f c,a⟩ ⟨.fn F C,A⟩
 |nil {a A:Array a6}:Ca S β a A->D5 S β ⟨.nil,a⟩ ⟨.nil,A⟩
 |collected {r R:Nat}:β r R->S.hid r=bc->D5 S β ⟨.collected r,#[]⟩ ⟨.collected R,#[]⟩
 |C3 {d D:b7} (a A:Array a6):Ca S β a A->d=hd a->(D=hd A\/(S.hid.bl=bq/\∃n c x,D=⟨.fn (.method n) c,x++A⟩))->D5 S β d D
inductive Df {α:Type}(R:α->α->Prop):List α->List α->Prop
 |nil:Df R [] []
 |cons {a A:α} {l L:List α}:R a A->Df R l L->Df R (a::l) (A::L)
def Df.mono {α:Type}{R R':α->α->Prop}(h:∀a A,R a A->R' a A){l L:List α}(r:Df R l L):Df R' l L:=by
 induction r with
 |nil=>exact .nil
 |cons a _ ih=>exact .cons (h _ _ a) ih
def Df.append {α:Type}{R:α->α->Prop}{l L m M:List α}(r:Df R l L)(s:Df R m M):Df R (l++m) (L++M):=by
 induction r with
 |nil=>exact s
 |cons a _ ih=>exact .cons a ih
def D5.mono {S:DT}{β B8:Cm}(h:β.le B8){d D:b7}(r:D5 S β d D):D5 S B8 d D:=by
 cases r with
 |fn f c a=>exact .fn (f.mono h) (c.mono h) (a.mono h)
 |nil a=>exact .nil (a.mono h)
 |collected r k=>exact .collected (h _ _ r) k
 |C3 a A h1 h2 h3=>exact .C3 a A (h1.mono h) h2 h3
inductive C5 (S:DT)(Ck:cu->Prop)(β:Cm):Obj->Obj->Prop
 |cells {c C:Array a6} {t:br} {f F:Nat×Nat}:Ca S β c C->(∀i,F.1<=i->i<F.2->f.1<=i/\i<f.2)->C5 S Ck β (.cells c t f) (.cells C t F)
 | loop {st : LoopState} {pe : Option cu} {fn : cE} {x X : Array a6} {ps : Array Tmp} {yH bo : cu} {d D : Nat} :
   (S.fr fn/\∀c,pe=a8 c->Ck c)->Ck yH->Ck bo->Ca S β x X->β d D->S.hid d=bc->C5 S Ck β (.loop ⟨st,pe,fn,x,ps,yH,bo,d⟩) (.loop ⟨st,pe,fn,X,ps,yH,bo,D⟩)
 |number {b B:Nat} (o:Nat) (s:Option Nat) (lost:Bool):β b B->C5 S Ck β (.number ⟨b,o,s⟩ lost) (.number ⟨B,o,s⟩ lost)
 |taken:C5 S Ck β (.deferred bD) (.deferred bD)
 |defs {l L:List b7}:Df (D5 S β) l L->C5 S Ck β (.deferred (a8 l)) (.deferred (a8 L))
def C5.mono {S:DT}{Ck:cu->Prop}{β B8:Cm}(h:β.le B8){o O:Obj}(r:C5 S Ck β o O):C5 S Ck B8 o O:=by
 cases r with
 |cells a f=>exact .cells (a.mono h) f
 |loop p a b x d k=>exact .loop p a b (x.mono h) (h _ _ d) k
 |number o s l hb=>exact .number o s l (h _ _ hb)
 |taken=>exact .taken
 |defs l=>exact .defs (l.mono λ_ _=>D5.mono h)
def Cm.Q0 (β:Cm):Prop:=∀b B,β b B->b=B
def KU (H:Hid)(β:Cm):Prop:=H.bl=bc/\β.Q0
def GL.id {S:DT}{β:Cm}(h:β.Q0){f F:Fn}(r:GL S β f F):f=F:=by
 cases r with
 |func _=>rfl
 |yield hl _=>rw[h _ _ hl]
def B6.id {S:DT}{β:Cm}(h:KU S.hid β){v V:a6}(r:B6 S β v V):v=V:=by
 have arr:∀(x X:Array a6),x.size=X.size->(∀(i:Nat) (v V:a6),x[i]?=a8 v->X[i]?=a8 V->v=V)->x=X:=λx X hs ha=>by
  refine c0 hs λi h1 h2=>?_;exact ha i _ _ (yS h1) (yS h2)
 induction r with
 |ptr o s hb=>rw[h.2 _ _ hb]
 |slice o s l c hb=>rw[h.2 _ _ hb]
 |func hf h1 _ h2 _ i1 i2=>rw[hf.id h.2,arr _ _ h1 i1,arr _ _ h2 i2]
 |iface t _ ih=>rw[ih]
 |agg h1 _ i1=>rw[arr _ _ h1 i1]
 |tuple h1 _ i1=>rw[arr _ _ h1 i1]
 |blank h1 _=>exact h1.elim Eq.symm λh1=>by rw[h.1] at h1;cases h1
 |C3 h1=>exact h1.elim Eq.symm λh1=>by rw[h.1] at h1;cases h1
 |Dl h1=>exact h1.elim (λe=>by rw[e]) λh1=>by rw[h.1] at h1;cases h1
 |_=>rfl
def Ca.id {S:DT}{β:Cm}(h:KU S.hid β){x X:Array a6}(r:Ca S β x X):x=X :=
 c0 r.size λi h1 h2=>(r.at_ i _ _ (yS h1) (yS h2)).id h
def Df.id {α:Type}{R:α->α->Prop}(h:∀a A,R a A->a=A){l L:List α}(r:Df R l L):l=L:=by
 induction r with
 |nil=>rfl
 |cons ha _ ih=>rw[h _ _ ha,ih]
def D5.id {S:DT}{β:Cm}(h:KU S.hid β){d D:b7}(r:D5 S β d D):d=D:=by
 cases r with
 |fn f c a=>rw[f.id h.2,c.id h,a.id h]
 |nil a=>rw[a.id h]
 |collected r _=>rw[h.2 _ _ r]
 |C3 a A h1 h2 h3 =>
  rw[h2,h1.id h];exact h3.elim Eq.symm λh1=>by have:=h1.1;rw[h.1] at this;cases this
def C5.id {S:DT}{Ck:cu->Prop}{β:Cm}(h:KU S.hid β){o O:Obj}(r:C5 S Ck β o O)(hn:∀c t f,o≠.cells c t f):o=O:=by
 cases r with
 |cells=>exact absurd rfl (hn _ _ _)
 |loop p a b x d k=>rw[x.id h,h.2 _ _ d]
 |number o s l hb=>rw[h.2 _ _ hb]
 |taken=>rfl
 |defs l=>rw[l.id λ_ _=>D5.id h]
structure CV (S:DT)(Ck:cu->Prop)(G:Nat)(β:Cm)(w W:bb):Prop where
 DG:β.Dk G
 room:G<=w.heap.size/\G<=W.heap.size
 D8:∀b B,β b B->S.hid b=bc->∃o O,w.heap[b]?=a8 o/\W.heap[B]?=a8 O/\C5 S Ck β o O
 Ej:∀b B,β b B->S.hid b=bq->w.heap[b]?=a8 (.coro bD)/\(S.hid.C8=bc->∃c t f,W.heap[B]?=a8 (.cells c t f))/\(S.hid.C8=bq->W.heap[B]?=a8 (.coro bD))
 old:∀b,S.hid b=bq->b<w.heap.size
 env:w.os.env=W.os.env
def JV (n:Nat)(w W:bb):Prop:=∀i,i<n->∀q,w.tape (w.drawn+i) q=W.tape (W.drawn+i) q
inductive MOk:Mark->Prop
 |extern (f:cE):MOk (.extern f)
 |noRoom:MOk .noRoom
def DK:Obj->Nat
 |.cells c _ _=>c.size+3
 |.coro bD=>1
 |_=>2
inductive ZB (β:Cm)(w:bb):cr->Prop
 |cell {a A:bs} {wr sy:Bool}:β a.block A.block->a.off=A.off->(∃n,(w.heap[a.block]?).map DK=a8 (n+3)/\a.off<n)->(wr=bq->w.frozen? a=bc)->ZB β w ⟨.cell A,wr,sy⟩
 |obj {r R:Nat} {wr sy:Bool}:β r R->(w.heap[r]?).map DK=a8 2->ZB β w ⟨.obj R,wr,sy⟩
 |mark {M:Mark} {wr sy:Bool}:MOk M->ZB β w ⟨.mark M,wr,sy⟩
 |out {wr sy:Bool}:ZB β w ⟨.output,wr,sy⟩
structure Fin (S:DT)(Ck:cu->Prop)(G:Nat)(β B8:Cm)(w W w' W':bb)(ES:List cr):Prop where
 le:β.le B8
 rel:CV S Ck G B8 w' W'
 tape:w'.tape=w.tape
 TAPE:W'.tape=W.tape
 drawn:w.drawn<=w'.drawn
 draws:W'.drawn+w.drawn=W.drawn+w'.drawn
 os:w'.os=w.os
 OS:W'.os=W.os
 out:w'.output=w.output
 OUT:W'.output=W.output
 size:w.heap.size<=w'.heap.size
 SIZE:W.heap.size<=W'.heap.size
 new:∀b B,B8 b B->β b B\/(w.heap.size<=b/\W.heap.size<=B)
 NEW:∀B,W.heap.size<=B->B<W'.heap.size->∃b,B8 b B
 frozen:∀a:bs,a.block<w.heap.size->w'.frozen? a=w.frozen? a
 KEPT:∀B,B<W.heap.size->(∀b,¬β b B)->W'.heap[B]?=W.heap[B]?
 ro:∀b B c t f,β b B->w.heap[b]?=a8 (.cells c t f)->(∀i,i<c.size->f.1<=i/\i<f.2)->w'.heap[b]?=w.heap[b]?/\W'.heap[B]?=W.heap[B]?
 kind:∀b,b<w.heap.size->(w'.heap[b]?).map DK=(w.heap[b]?).map DK
 evs:S.hid.C8=bc->∀E∈ES,ZB B8 w' E
 same:KU S.hid β->w.heap=W.heap->KU S.hid B8/\w'.heap=W'.heap
 hk:∀b B,β b B->S.hid b=bq->W'.heap[B]?=W.heap[B]?
section
variable {S:DT} {Ck:cu->Prop} {G:Nat} {β B8 aaH:Cm} {w W w' W' w'' W'':bb} {ES ES':List cr}
def CV.lt (h:CV S Ck G β w W){b B:Nat}(hb:β b B):b<w.heap.size/\B<W.heap.size:=by
 cases hh:S.hid b with
 |false =>
  obtain⟨o,O,h1,h2,_⟩:=h.D8 b B hb hh;exact⟨(yK.1 h1).1,(yK.1 h2).1⟩
 |true =>
  obtain⟨h1,h2,h3⟩:=h.Ej b B hb hh;refine⟨(yK.1 h1).1,?_⟩;cases ht:S.hid.C8 with
  |false=>obtain⟨c,t,f,h2⟩:=h2 ht;exact(yK.1 h2).1
  |true=>exact(yK.1 (h3 ht)).1
def Fin.refl (h:CV S Ck G β w W):Fin S Ck G β β w W w W [] where
 le:=β.le_refl
 rel:=h
 tape:=rfl
 TAPE:=rfl
 drawn:=yL _
 draws:=rfl
 os:=rfl
 OS:=rfl
 out:=rfl
 OUT:=rfl
 size:=yL _
 SIZE:=yL _
 new:=λ_ _ h=>.inl h
 NEW:=λB h1 h2=>absurd h2 (by omega)
 frozen:=λ_ _=>rfl
 KEPT:=λ_ _ _=>rfl
 ro:=λ_ _ _ _ _ _ _ _=>⟨rfl,rfl⟩
 kind:=λ_ _=>rfl
 evs:=by simp
 same:=λh e=>⟨h,e⟩
 hk:=λ_ _ _ _=>rfl
def Fin.trans (h:Fin S Ck G β B8 w W w' W' ES)(k:Fin S Ck G B8 aaH w' W' w'' W'' ES'):Fin S Ck G β aaH w W w'' W'' (ES++ES') where
 le:=Cm.le_trans h.le k.le
 rel:=k.rel
 tape:=k.tape.trans h.tape
 TAPE:=k.TAPE.trans h.TAPE
 drawn:=yR h.drawn k.drawn
 draws:=by have:=h.draws;have:=k.draws;omega
 os:=k.os.trans h.os
 OS:=k.OS.trans h.OS
 out:=k.out.trans h.out
 OUT:=k.OUT.trans h.OUT
 size:=yR h.size k.size
 SIZE:=yR h.SIZE k.SIZE
 new:=λb B hb=>by
  rcases k.new b B hb with h1|⟨h1,h2⟩
  .exact h.new b B h1
  .exact .inr ⟨yR h.size h1,yR h.SIZE h2⟩
 NEW:=λB h1 h2=>by
  by_cases hB:B<W'.heap.size
  .obtain⟨b,hb⟩:=h.NEW B h1 hB;exact⟨b,k.le _ _ hb⟩
  .exact k.NEW B (by omega) h2
 frozen:=λa ha=>(k.frozen a (yO ha h.size)).trans (h.frozen a ha)
 KEPT:=λB hB hn=>by
  refine(k.KEPT B (yO hB h.SIZE) (λb hb=>?_)).trans (h.KEPT B hB hn);rcases h.new b B hb with h1|⟨_,h2⟩
  .exact hn b h1
  .omega
 ro:=λb B c t f hb hc hf=>by
  obtain⟨e1,e2⟩:=h.ro b B c t f hb hc hf;obtain⟨k1,k2⟩:=k.ro b B c t f (h.le _ _ hb) (e1.trans hc) hf;exact⟨k1.trans e1,k2.trans e2⟩
 kind:=λb hb=>(k.kind b (yO hb h.size)).trans (h.kind b hb)
 evs:=λht E hE=>by
  rcases zJ.1 hE with hE|hE
  .have:=h.evs ht E hE;cases this with
   |cell hb ho hc hw =>
    have hl:=(h.rel.lt hb).1;exact .cell (k.le _ _ hb) ho (let ⟨n,h1,h2⟩:=hc;⟨n,(k.kind _ hl).trans h1,h2⟩) (λe=>(k.frozen _ hl).trans (hw e))
   |obj hr hc=>exact .obj (k.le _ _ hr) ((k.kind _ (h.rel.lt hr).1).trans hc)
   |mark hm=>exact .mark hm
   |out=>exact .out
  .exact k.evs ht E hE
 same:=λi e=>let ⟨a,b⟩:=h.same i e;k.same a b
 hk:=λb B hb hh=>(k.hk b B (h.le _ _ hb) hh).trans (h.hk b B hb hh)
def JV.rest {n:Nat}(h:JV n w W)(k:Fin S Ck G β B8 w W w' W' ES):JV (n-(w'.drawn-w.drawn)) w' W':=by
 intro i hi q;have h1:=k.drawn;have h2:=k.draws;have:=h (w'.drawn-w.drawn+i) (by omega) q;rw[k.tape,k.TAPE];rw[show w.drawn+(w'.drawn-w.drawn+i)=w'.drawn+i from by omega,show W.drawn+(w'.drawn-w.drawn+i)=W'.drawn+i from by omega] at this;exact this
end
def world {α:Type}:Result α->bb
 |.ok _ w=>w
 |.halt _ w=>w
def qw {α:Type}:∀(a:Ask α) (w:bb),w.drawn<=(w.ask a).2.drawn:=by
 intro a
 induction a with
 |done a=>intro w;exact yL _
 |ask what range k ih =>
  intro w;simp only[World.ask];split
  .exact ih _ _
  .exact yR (zt w.drawn) (ih _ { w with drawn:=w.drawn+1 })
def PI (w:bb)(c:Sys):w.drawn<=(w.sys c).2.drawn:=by
 have h:=qw (Kernel.perform c w.os) w;unfold World.sys;generalize w.ask (Kernel.perform c w.os)=r at h;obtain⟨⟨r,os⟩,w'⟩:=r;cases r<;>first|exact h|exact yL _
def jz {p:bW}{w w':bb}{at_ k:bs}{u:br}{v:a6}{b:Bool}{l:List bs}(h:w.viewStore p at_ u k v b=.ok (w',l)):w'.drawn=w.drawn:=by
 unfold World.viewStore at h;simp only[bind,Except.bind,pure,Except.pure] at h
 repeat' (split at h)
 all_goals first|(cases h;rfl)|cases h
def ku {p:bW}{w w':bb}{a:bs}{v:a6}{b:Bool}{l:List bs}(h:w.farStore p a v b=.ok (w',l)):w'.drawn=w.drawn:=by
 unfold cw at h;split at h
 .split at h
  .rename_i r hr;cases h;exact jz hr
  .cases h
 .cases h
def dw {α:Type}(P:bW)(md:Mode)(a:bs)(v:a6)(k:Sem α)(w:bb)(es:Array cr)(h1:∀x,v≠.agg x)(h2:∀x,v≠.tuple x) :
  (Sem.store md a v k).runT P w es=match w.cell? a with
   |some _=>if w.frozen? a then(.halt (.unsupported (.unsafePointer "a write to bytes that a string shares")) w,es)
     else k.runT P (w.setCell a v) (es.push ⟨.cell a,bq,md==.atomic⟩)
   | none => match w.farStore P a v (md == .atomic) with
     |.ok (w,UK)=>k.runT P w (es++UK.toArray.map (⟨.cell ·,bq,md==.atomic⟩))
     |.error h=>(.halt h w,es):=by
 cases v<;>first|exact absurd rfl (h1 _)|exact absurd rfl (h2 _)|rfl
def EM {α:Type}(P:bW)(m:Sem α):∀(w:bb) (es:Array cr),w.drawn<=(world (m.runT P w es).1).drawn:=by
 induction m with
 |pure a=>intro w es;exact yL _
 |load md a k ih =>
  intro w es;simp only[a7];split
  .exact ih _ _ _
  .split
   .exact ih _ _ _
   .exact yL _
 |store md a v k ih =>
  intro w es;by_cases h1:∃x,v=.agg x
  .obtain⟨x,rfl⟩:=h1;exact yL _
  by_cases h2:∃x,v=.tuple x
  .obtain⟨x,rfl⟩:=h2;exact yL _
  rw[dw P md a v k w es (λx e=>h1 ⟨x,e⟩) (λx e=>h2 ⟨x,e⟩)];split
  .split
   .exact yL _
   .exact ih (w.setCell a v) _
  .split
   .rename_i w' l hw;have:=ku hw;exact yR (zP this.symm) (ih _ _)
   .exact yL _
 |new o k ih=>intro w es;exact ih _ { w with heap:=w.heap.push o } _
 |shape r k ih=>intro w es;exact ih _ _ _
 |freeze a n k ih=>intro w es;exact yR (by unfold World.freeze;split<;>exact yL _) (ih _ _)
 |frozen a k ih=>intro w es;exact ih _ _ _
 |getObj r k ih =>
  intro w es;simp only[a7];split
  .exact yL _
  .exact ih _ _ _
  .exact yL _
 |setObj r o k ih =>
  intro w es;simp only[a7];split
  .exact yL _
  .exact ih { w with heap:=w.heap.setIfInBounds r o } _
  .exact yL _
 |choose q k ih =>
  intro w es;simp only[a7];split
  .exact ih _ _ _
  .exact yR (zt w.drawn) (ih _ { w with drawn:=w.drawn+1 } _)
 |sys c k ih=>intro w es;exact yR (PI w c) (ih _ _ _)
 |program k ih=>intro w es;exact ih _ _ _
 |mark m k ih=>intro w es;exact ih _ _
 |halt h=>intro w es;exact yL _
def aj {α γ:Type}(P:bW)(m:Sem α)(k:α->Sem γ):∀(w:bb) (es:Array cr),(m >>= k).runT P w es =
  match m.runT P w es with
  |(.ok a w',es')=>(k a).runT P w' es'
  |(.halt h w',es')=>(.halt h w',es'):=by
 induction m with
 |pure a=>intro w es;rfl
 |load md a k' ih =>
  intro w es;show((Sem.load md a λv=>(k' v) >>= k)).runT P w es=_;simp only[a7];split
  .exact ih _ _ _
  .split
   .exact ih _ _ _
   .rfl
 |store md a v k' ih =>
  intro w es;show((Sem.store md a v (k' >>= k))).runT P w es=_;by_cases h1:∃x,v=.agg x
  .obtain⟨x,rfl⟩:=h1;rfl
  by_cases h2:∃x,v=.tuple x
  .obtain⟨x,rfl⟩:=h2;rfl
  rw[dw P md a v _ w es (λx e=>h1 ⟨x,e⟩) (λx e=>h2 ⟨x,e⟩),dw P md a v _ w es (λx e=>h1 ⟨x,e⟩) (λx e=>h2 ⟨x,e⟩)];split
  .split
   .rfl
   .exact ih _ _
  .split
   .exact ih _ _
   .rfl
 |new o k' ih=>intro w es;exact ih _ _ _
 |shape r k' ih=>intro w es;exact ih _ _ _
 |freeze a n k' ih=>intro w es;exact ih _ _
 |frozen a k' ih=>intro w es;exact ih _ _ _
 |getObj r k' ih =>
  intro w es;show((Sem.getObj r λv=>(k' v) >>= k)).runT P w es=_;simp only[a7];split
  .rfl
  .exact ih _ _ _
  .rfl
 |setObj r o k' ih =>
  intro w es;show((Sem.setObj r o (k' >>= k))).runT P w es=_;simp only[a7];split
  .rfl
  .exact ih _ _
  .rfl
 |choose q k' ih =>
  intro w es;show((Sem.choose q λv=>(k' v) >>= k)).runT P w es=_;simp only[a7];split
  .exact ih _ _ _
  .exact ih _ _ _
 |sys c k' ih=>intro w es;exact ih _ _ _
 |program k' ih=>intro w es;exact ih _ _ _
 |mark m k' ih=>intro w es;exact ih _ _
 |halt h=>intro w es;rfl
section
variable (P:CL) (S:DT) (Ck:cu->Prop) (G:Nat)
def Ends {α FK:Type}(β:Cm)(w W:bb)(DD:Array cr)(R:Cm->α->FK->Prop):Result α×Array cr->Result FK×Array cr->Prop
 |(.ok a w',_),r=>∃B8 A W' ES,r=(.ok A W',DD++ES.toArray)/\R B8 a A/\Fin S Ck G β B8 w W w' W' ES
 |(.halt (.panic v) w',_),r=>∃B8 V W' ES,r=(.halt (.panic V) W',DD++ES.toArray)/\B6 S B8 v V/\Fin S Ck G β B8 w W w' W' ES
 |(.halt (.stuck _) _,_),_=>True
 |(.halt (.unsupported u) _,_),_=>∀g,u≠.initOrder g
 |_,_=>False
def Cf {α FK:Type}(β:Cm)(m:Sem α)(M:Sem FK)(R:Cm->α->FK->Prop):Prop :=
 ∀w W n,CV S Ck G β w W->JV n w W->∀Dt DD,(world (m.runT P.a w Dt).1).drawn<=w.drawn+n ->
  Ends S Ck G β w W DD R (m.runT P.a w Dt) (M.runT P.b W DD)
end
section
variable {P:CL} {S:DT} {Ck:cu->Prop} {G:Nat} {β:Cm} {α FK γ γ':Type}
def B5 {R:Cm->α->FK->Prop}{a:α}{A:FK}(h:R β a A):Cf P S Ck G β (pure a:Sem α) (pure A:Sem FK) R:=by
 intro w W n hw ht Dt DD _;exact⟨β,A,W,[],by show(Result.ok A W,DD)=_;simp,h,Fin.refl hw⟩
def uD {R R':Cm->α->FK->Prop}{m:Sem α}{M:Sem FK}(h:Cf P S Ck G β m M R)(hr:∀B8 a A,β.le B8->R B8 a A->R' B8 a A):Cf P S Ck G β m M R':=by
 intro w W n hw ht Dt DD hb;have:=h w W n hw ht Dt DD hb;revert this;generalize m.runT P.a w Dt=r;obtain⟨r,es'⟩:=r;cases r with
 |ok a w' =>
  rintro⟨B8,A,W',ES,h1,h3,h4⟩;exact⟨B8,A,W',ES,h1,hr _ _ _ h4.le h3,h4⟩
 |halt x w'=>cases x<;>exact id
def B4 {R:Cm->α->FK->Prop}{R':Cm->γ->γ'->Prop}{m:Sem α}{M:Sem FK}{k:α->Sem γ}{K:FK->Sem γ'}(h:Cf P S Ck G β m M R)
  (hk:∀B8 a A,β.le B8->R B8 a A->Cf P S Ck G B8 (k a) (K A) R'):Cf P S Ck G β (m >>= k) (M >>= K) R':=by
 intro w W n hw ht Dt DD hb;rw[aj] at hb ⊢;rw[aj];have hm:=h w W n hw ht Dt DD;revert hb hm;generalize hr:m.runT P.a w Dt=r;obtain⟨r,Wq⟩:=r;cases r with
 |ok a w1 =>
  intro hb hm;simp only at hb ⊢;have h1:=EM P.a (k a) w1 Wq;obtain⟨DJ,A,W1,ES,e1,e3,e4⟩:=hm (yR h1 hb);have hd:=e4.drawn;have h2:=hk DJ a A e4.le e3 w1 W1 (n-(w1.drawn-w.drawn)) e4.rel (ht.rest e4) Wq (DD++ES.toArray) (by omega);rw[e1];simp only;revert h2;generalize (k a).runT P.a w1 Wq=r2;obtain⟨r2,es2⟩:=r2;cases r2 with
  |ok b w2 =>
   rintro⟨Dq,B,W2,yI,f1,f3,f4⟩;exact⟨Dq,B,W2,ES++yI,by rw[f1];simp,f3,e4.trans f4⟩
  |halt x w2 =>
   cases x with
   |panic v =>
    rintro⟨Dq,B,W2,yI,f1,f3,f4⟩;exact⟨Dq,B,W2,ES++yI,by rw[f1];simp,f3,e4.trans f4⟩
   |_=>exact id
 |halt x w1 =>
  intro hb hm;simp only at hb ⊢;have:=hm hb;cases x with
  |panic v =>
   obtain⟨DJ,A,W1,ES,e1,e3,e4⟩:=this;exact⟨DJ,A,W1,ES,by rw[e1],e3,e4⟩
  |_=>exact this
def B9 {R:Cm->α->FK->Prop}{s:String}{M:Sem FK}:Cf P S Ck G β (stuck s:Sem α) M R:=λ_ _ _ _ _ _ _ _=>trivial
def Cb {R:Cm->α->FK->Prop}{u:Unsupported}{M:Sem FK}(h:∀g,u≠.initOrder g):Cf P S Ck G β (unsupported u:Sem α) M R:=λ_ _ _ _ _ _ _ _=>h
def dh {R:Cm->α->FK->Prop}{v V:a6}(h:B6 S β v V):Cf P S Ck G β (goPanic v:Sem α) (goPanic V:Sem FK) R:=by
 intro w W n hw ht Dt DD _;exact⟨β,V,W,[],by show(Result.halt (.panic V) W,DD)=_;simp,h,Fin.refl hw⟩
def aR:Cf P S Ck G β program program (λ_ a A=>a=P.a/\A=P.b):=by
 intro w W n hw ht Dt DD _;exact⟨β,P.b,W,[],by show(Result.ok P.b W,DD)=_;simp,⟨rfl,rfl⟩,Fin.refl hw⟩
def ak (t:br):Cf P S Ck G β (underlying t) (underlying t) (λ_ a A=>a=A/\P.a.underlying t=a8 a):=by
 refine B4 aR ?_;rintro B8 a A _ ⟨rfl,rfl⟩;rw[CL.underlying];cases h:P.a.underlying t with
 |none=>exact B9
 |some d=>exact B5 ⟨rfl,rfl⟩
def bi (t:br):Cf P S Ck G β (typeInfo t) (typeInfo t) (λ_ a A=>a=A/\P.a.info? t=a8 a):=by
 refine B4 aR ?_;rintro B8 a A _ ⟨rfl,rfl⟩;rw[BY];cases h:P.a.info? t with
 |none=>exact B9
 |some d=>exact B5 ⟨rfl,rfl⟩
def aH (t:br):Cf P S Ck G β (sizeOf t) (sizeOf t) (λ_ a A=>a=A):=by
 refine B4 (bi t) ?_;rintro B8 a A _ ⟨rfl,_⟩;exact B5 rfl
def l6 (t:br):Cf P S Ck G β (isAgg t) (isAgg t) (λ_ a A=>a=A):=by
 refine B4 (ak t) ?_;rintro B8 a A _ ⟨rfl,_⟩;split<;>exact B5 rfl
def dz {v V:a6}(h:B6 S β v V):Cf P S Ck G β (asIntOf v) (asIntOf V) (λ_ a A=>a=A):=by
 cases h with
 |int k n=>exact B5 rfl
 |ptr=>exact Cb (by simp)
 |_=>exact B9
def eO {v V:a6}(h:B6 S β v V):Cf P S Ck G β (asInt v) (asInt V) (λ_ a A=>a=A):=by
 refine B4 (dz h) ?_;rintro B8 a A _ rfl;exact B5 rfl
def gL {v V:a6}(h:B6 S β v V):Cf P S Ck G β (asBool v) (asBool V) (λ_ a A=>a=A):=by
 cases h with
 |bool b=>exact B5 rfl
 |_=>exact B9
def sH {v V:a6}(h:B6 S β v V):Cf P S Ck G β (asAgg v) (asAgg V) (λB8 a A=>Ca S B8 a A):=by
 cases h with
 |agg h1 h2=>exact B5 ⟨h1,h2⟩
 |_=>exact B9
end
structure C9 (β:Cm)(a A:bs):Prop where
 block:β a.block A.block
 off:a.off=A.off
 spot:a.spot=A.spot
def C9.mono {β B8:Cm}(h:β.le B8){a A:bs}(r:C9 β a A):C9 B8 a A:=⟨h _ _ r.block,r.off,r.spot⟩
def C9.add {β:Cm}{a A:bs}(r:C9 β a A)(n:Nat):C9 β (a.add n) (A.add n):=by
 unfold Addr.add;split
 .exact r
 .exact⟨r.block,by simp[r.off],rfl⟩
def C9.ptr {S:DT}{β:Cm}{a A:bs}(r:C9 β a A):B6 S β (.pointer (a8 a)) (.pointer (a8 A)):=by
 obtain⟨B,O,s'⟩:=A;obtain⟨h1,h2,h3⟩:=r;cases h2;cases h3;exact .ptr _ _ h1
def C9.sl {S:DT}{β:Cm}{a A:bs}(r:C9 β a A)(l c:Nat):B6 S β (.slice (a8 a) l c) (.slice (a8 A) l c):=by
 obtain⟨B,O,s'⟩:=A;obtain⟨h1,h2,h3⟩:=r;cases h2;cases h3;exact .slice _ _ _ _ h1
def GP (a:bs)(v:a6):Obj->Obj
 |.cells c elem frozen=>.cells (if a.spot.isSome then c else c.setIfInBounds a.off v) elem frozen
 |o=>o
def CW (w:bb)(a:bs)(v:a6)(b:Nat):(w.setCell a v).heap[b]?=if b=a.block then(w.heap[b]?).map (GP a v) else w.heap[b]?:=by
 have e:w.setCell a v={ w with heap:=w.heap.modify a.block (GP a v) }:=by
  unfold b9;congr 2
 rw[e];simp only;rw[zH];by_cases h:b=a.block
 .subst h;simp
 .rw[if_neg (λe=>h e.symm),if_neg h]
def bu (w:bb)(a:bs)(v:a6):(w.setCell a v).heap.size=w.heap.size:=by simp[b9]
def frz (i:Nat):Obj->Bool
 |.cells _ _ r=>decide (r.1<=i)&&decide (i<r.2)
 |_=>bc
def ba (w:bb)(x:bs):w.frozen? x=((w.heap[x.block]?).map (frz x.off)).getD false:=by
 unfold cf;cases w.heap[x.block]? with
 |none=>rfl
 |some o=>cases o<;>rfl
def uE (a:bs)(v:a6)(i:Nat)(o:Obj):frz i (GP a v o)=frz i o:=by cases o<;>rfl
def fN (w:bb)(a:bs)(v:a6)(x:bs):(w.setCell a v).frozen? x=w.frozen? x:=by
 rw[ba,ba,CW];split
 .cases w.heap[x.block]? with
  |none=>rfl
  |some o=>simp[uE]
 .rfl
section
variable {P:CL} {S:DT} {Ck:cu->Prop} {G:Nat} {β:Cm}
def CV.cell {w W:bb}(hw:CV S Ck G β w W){a A:bs}(h:C9 β a A){v:a6}(hc:w.cell? a=a8 v) :
  ∃c C t f F,w.heap[a.block]?=a8 (.cells c t f)/\W.heap[A.block]?=a8 (.cells C t F)/\Ca S β c C/\(∀i,F.1<=i->i<F.2->f.1<=i/\i<f.2) /\
   a.spot=bD/\a.off<c.size/\c[a.off]?=a8 v/\∃V,W.cell? A=a8 V/\B6 S β v V:=by
 unfold cK at hc;cases hh:S.hid a.block with
 |true=>rw[(hw.Ej _ _ h.block hh).1] at hc;cases hc
 |false =>
  obtain⟨o,O,h1,h2,h3⟩:=hw.D8 _ _ h.block hh;rw[h1] at hc;cases h3 with
  |cells ha hf =>
   rename_i c C t f F;simp only at hc;have hs:a.spot=none:=by
    cases hs:a.spot with
    |none=>rfl
    |some s=>rw[hs] at hc;simp at hc
   rw[hs] at hc;simp at hc;obtain⟨V,hV,hr⟩:=ha.get? hc;refine⟨c,C,t,f,F,h1,h2,ha,hf,hs,(yK.1 hc).1,hc,V,?_,hr⟩;unfold cK;rw[h2];simp only[<-h.spot,hs,<-h.off];simpa using hV
  |_=>simp at hc
def O6 {w W:bb}(hw:CV S Ck G β w W){a A:bs}(h:C9 β a A):(∀b,∃s,w.farLoad P.a a b=.error (.stuck s))/\(∀v b,∃s,w.farStore P.a a v b=.error (.stuck s)):=by
 unfold World.farLoad cw World.noCell;cases hh:S.hid a.block with
 |true =>
  rw[(hw.Ej _ _ h.block hh).1];exact⟨λ_=>⟨_,rfl⟩,λ_ _=>⟨_,rfl⟩⟩
 |false =>
  obtain⟨o,O,h1,h2,h3⟩:=hw.D8 _ _ h.block hh;rw[h1];cases h3<;>exact⟨λ_=>⟨_,rfl⟩,λ_ _=>⟨_,rfl⟩⟩
def iG {a A:bs}(h:C9 β a A)(m:Mode):Cf P S Ck G β (b5 a m) (b5 A m) (λB8 v V=>B6 S B8 v V):=by
 intro w W n hw ht Dt DD _;cases hc:w.cell? a with
 |none =>
  obtain⟨s,hs⟩:=(O6 (P:=P) hw h).1 (m==.atomic);have:(b5 a m).runT P.a w Dt=(.halt (.stuck s) w,Dt):=by simp only[b5,a7,hc,hs]
  rw[this];trivial
 |some v =>
  obtain⟨c,C,t,f,F,h1,h2,h3,h4,h5,h6,h7,V,h8,h9⟩:=hw.cell h hc;have e1:(b5 a m).runT P.a w Dt=(.ok v w,Dt.push ⟨.cell a,bc,m==.atomic⟩):=by simp only[b5,a7,hc]
  have e2:(b5 A m).runT P.b W DD=(.ok V W,DD.push ⟨.cell A,bc,m==.atomic⟩):=by simp only[b5,a7,h8]
  rw[e1,e2];refine⟨β,V,W,[⟨.cell A,bc,m==.atomic⟩],by simp,h9,{ Fin.refl hw with evs:=?_ }⟩;intro _ E hE;cases Ah.1 hE;exact .cell h.block h.off ⟨c.size,by rw[h1];rfl,h6⟩ (λe=>by cases e)
def jg {a A:bs}(h:C9 β a A)(m:Mode){v V:a6}(hv:B6 S β v V):Cf P S Ck G β (cU a v m) (cU A V m) (λ_ _ _=>True):=by
 intro w W n hw ht Dt DD _;by_cases h1:∃x,v=.agg x
 .obtain⟨x,rfl⟩:=h1;trivial
 by_cases h2:∃x,v=.tuple x
 .obtain⟨x,rfl⟩:=h2;trivial
 have h1':∀x,V≠.agg x:=λx e=>by subst e;cases hv with
  |agg=>exact h1 ⟨_,rfl⟩
  |blank _ h=>cases h
 have O7:∀x,V≠.tuple x:=λx e=>by subst e;cases hv with
  |tuple=>exact h2 ⟨_,rfl⟩
  |blank _ h=>cases h
 have r1:=dw P.a m a v (.pure ()) w Dt (λx e=>h1 ⟨x,e⟩) (λx e=>h2 ⟨x,e⟩);have r2:=dw P.b m A V (.pure ()) W DD h1' O7;unfold cU;rw[r1,r2];cases hc:w.cell? a with
 |none =>
  obtain⟨s,hs⟩:=(O6 (P:=P) hw h).2 v (m==.atomic);simp only[hs];trivial
 |some x =>
  obtain⟨c,C,t,f,F,g1,g2,g3,g4,g5,g6,g7,X,g8,g9⟩:=hw.cell h hc;simp only[g8];by_cases hz:w.frozen? a=bq
  .rw[if_pos hz];exact λg e=>by cases e
  .rw[if_neg hz];have hZ:¬W.frozen? A=true:=by
    unfold cf at hz ⊢;rw[g1] at hz;rw[g2];simp only[yY,decide_eq_true_eq] at hz ⊢;rw[<-h.off];exact λ⟨p,q⟩=>hz (g4 _ p q)
   rw[if_neg hZ];refine⟨β,(),W.setCell A V,[⟨.cell A,bq,m==.atomic⟩],by show(Result.ok () _,DD.push _)=_;simp,trivial,?_⟩;have ww:∀b B,β b B->(b=a.block↔B=A.block):=λb B hb=>⟨λe=>hw.DG.fn (e▸hb) h.block,λe=>hw.DG.inj hb (e▸h.block)⟩;have nh:S.hid a.block=false:=by
    cases hh:S.hid a.block with
    |false=>rfl
    |true=>rw[(hw.Ej _ _ h.block hh).1] at g1;cases g1
   have hrel:CV S Ck G β (w.setCell a v) (W.setCell A V):=by
    refine⟨hw.DG,by rw[bu,bu];exact hw.room,λb B hb hh=>?_,λb B hb hh=>?_,λb hb=>by rw[bu];exact hw.old b hb,hw.env⟩
    .obtain⟨o,O,k1,k2,k3⟩:=hw.D8 b B hb hh;rw[CW,CW];by_cases e:b=a.block
     .have E:=(ww b B hb).1 e;subst e;subst E;rw[g1] at k1;cases k1;rw[g2] at k2;cases k2;rw[g1,g2];have hs:A.spot=none:=by rw[<-h.spot];exact g5
      refine⟨_,_,by rw[if_pos rfl];rfl,by rw[if_pos rfl];rfl,?_⟩;simp only[GP,g5,hs,h.off];exact .cells (g3.set _ hv) g4
     .have E:¬B=A.block:=λE=>e ((ww b B hb).2 E);exact⟨o,O,by rw[if_neg e];exact k1,by rw[if_neg E];exact k2,k3⟩
    .have e:¬b=a.block:=λe=>by subst e;rw[nh] at hh;cases hh
     have E:¬B=A.block:=λE=>e ((ww b B hb).2 E);rw[CW,CW,if_neg e,if_neg E];exact hw.Ej b B hb hh
   have ZM:¬(∀i,i<c.size->f.1<=i/\i<f.2):=λhf=>by
    obtain⟨p,q⟩:=hf _ g6;unfold cf at hz;rw[g1] at hz;exact hz (by simp[p,q])
   have Mw:∀b,((w.setCell a v).heap[b]?).map DK=(w.heap[b]?).map DK:=λb=>by
    rw[CW];split
    .cases w.heap[b]? with
     |none=>rfl
     |some o=>cases o<;>first|rfl|(simp only[GP,DK,zT];split<;>simp)
    .rfl
   exact {
    le:=β.le_refl
    rel:=hrel
    tape:=rfl
    TAPE:=rfl
    drawn:=yL _
    draws:=rfl
    os:=rfl
    OS:=rfl
    out:=rfl
    OUT:=rfl
    size:=by rw[bu];exact yL _
    SIZE:=by rw[bu];exact yL _
    new:=λ_ _ h=>.inl h
    NEW:=λB h1 h2=>absurd h2 (by rw[bu];omega)
    frozen:=λx _=>fN w a v x
    KEPT:=λB _ hn=>by rw[CW,if_neg (λe=>hn _ (e▸h.block))]
    ro:=λb B c' t' f' hb hc' hf'=>by
     by_cases e:b=a.block
     .subst e;rw[g1] at hc';cases hc';exact absurd hf' ZM
     .have E:¬B=A.block:=λE=>e ((ww b B hb).2 E);exact⟨by rw[CW,if_neg e],by rw[CW,if_neg E]⟩
    kind:=λb _=>Mw b
    evs:=λ_ E hE=>by
     cases Ah.1 hE
     exact .cell h.block h.off ⟨c.size,by rw[Mw,g1];rfl,g6⟩ (λ_=>by rw[fN];simpa using hz)
    same:=λi e=>by
     have ea:a=A:=by
      obtain⟨b1,o1,s1⟩:=a;obtain⟨b2,o2,s2⟩:=A;obtain⟨q1,q2,q3⟩:=h;cases q2;cases q3;have q4:b1=b2:=i.2 _ _ q1;rw[q4]
     have ev:v=V:=hv.id i;subst ea ev;exact⟨i,by simp only[b9,e]⟩
    hk:=λb B hb hh=>by
     have e:¬b=a.block:=λe=>by subst e;rw[nh] at hh;cases hh
     have E:¬B=A.block:=λE=>e ((ww b B hb).2 E)
     rw[CW,if_neg E] }
def bN (w:bb)(o:Obj)(b:Nat):({ w with heap:=w.heap.push o }:bb).heap[b]?=if b=w.heap.size then a8 o else w.heap[b]?:=by
 simp only[Al]
def jD {o O:Obj}(h:C5 S Ck β o O)(hid:KU S.hid β->o=O):Cf P S Ck G β (newObj o) (newObj O) (λB8 b B=>B8 b B/\S.hid b=bc):=by
 intro w W n hw ht Dt DD _;have e1:(newObj o).runT P.a w Dt=(.ok w.heap.size { w with heap:=w.heap.push o },Dt):=rfl;have e2:(newObj O).runT P.b W DD=(.ok W.heap.size { W with heap:=W.heap.push O },DD):=rfl;rw[e1,e2];have hG:=hw.room;have nh:S.hid w.heap.size=false:=by
  cases hh:S.hid w.heap.size with
  |false=>rfl
  |true=>have:=hw.old _ hh;omega
 let B8:Cm:=λb B=>β b B\/(b=w.heap.size/\B=W.heap.size)
 have le:β.le B8:=λb B h=>.inl h;have DG:B8.Dk G:=by
  refine⟨?_,?_,?_⟩
  .rintro b B B' (h1|⟨rfl,rfl⟩) (h2|⟨h2,rfl⟩)
   .exact hw.DG.fn h1 h2
   .exact absurd (hw.lt h1).1 (by omega)
   .exact absurd (hw.lt h2).1 (by omega)
   .rfl
  .rintro b b' B (h1|⟨rfl,rfl⟩) (h2|⟨rfl,h2⟩)
   .exact hw.DG.inj h1 h2
   .exact absurd (hw.lt h1).2 (by omega)
   .exact absurd (hw.lt h2).2 (by omega)
   .rfl
  .rintro b B (h1|⟨rfl,rfl⟩)
   .exact hw.DG.lo h1
   .exact hG
 have rel:CV S Ck G B8 { w with heap:=w.heap.push o } { W with heap:=W.heap.push O }:=by
  refine⟨DG,by simp;omega,?_,?_,λb hb=>by have:=hw.old b hb;simp;omega,hw.env⟩
  .rintro b B (hb|⟨rfl,rfl⟩) hh
   .obtain⟨x,X,k1,k2,k3⟩:=hw.D8 b B hb hh;have:=hw.lt hb;exact⟨x,X,by rw[bN,if_neg (by omega)];exact k1,by rw[bN,if_neg (by omega)];exact k2,k3.mono le⟩
   .exact⟨o,O,by rw[bN,if_pos rfl],by rw[bN,if_pos rfl],h.mono le⟩
  .rintro b B (hb|⟨rfl,rfl⟩) hh
   .have:=hw.lt hb;rw[bN,bN,if_neg (by omega),if_neg (by omega)];exact hw.Ej b B hb hh
   .rw[nh] at hh;cases hh
 refine⟨B8,W.heap.size,_,[],by simp,⟨.inr ⟨rfl,rfl⟩,nh⟩,{
  le:=le
  rel:=rel
  tape:=rfl
  TAPE:=rfl
  drawn:=yL _
  draws:=rfl
  os:=rfl
  OS:=rfl
  out:=rfl
  OUT:=rfl
  size:=by simp
  SIZE:=by simp
  new:=?_
  NEW:=λB h1 h2=>⟨w.heap.size,.inr ⟨rfl,by simp at h2;omega⟩⟩
  frozen:=λx hx=>by rw[ba,ba,bN,if_neg (by omega)]
  KEPT:=λB hB _=>by rw[bN,if_neg (by omega)]
  ro:=λb B c t f hb _ _=>by have:=hw.lt hb;rw[bN,bN,if_neg (by omega),if_neg (by omega)];exact⟨rfl,rfl⟩
  kind:=λb hb=>by rw[bN,if_neg (by omega)]
  evs:=by simp
  same:=λi e=>⟨⟨i.1,by
   rintro b B (hb|⟨rfl,rfl⟩)
   .exact i.2 b B hb
   .rw[e]⟩,by rw[e,hid i]⟩
  hk:=λb B hb _=>by have:=(hw.lt hb).2;rw[bN,if_neg (by omega)] }⟩
 rintro b B (hb|⟨rfl,rfl⟩)
 .exact .inl hb
 .exact .inr ⟨yL _,yL _⟩
def jh {b B:Nat}(h:β b B):Cf P S Ck G β (bw b) (bw B) (λ_ x X=>x=X\/x=bD):=by
 intro w W n hw ht Dt DD _;have e1:(bw b).runT P.a w Dt=(.ok (w.shape? b) w,Dt):=rfl;have e2:(bw B).runT P.b W DD=(.ok (W.shape? B) W,DD):=rfl;rw[e1,e2];refine⟨β,W.shape? B,W,[],by simp,?_,Fin.refl hw⟩;unfold cF;cases hh:S.hid b with
 |true=>rw[(hw.Ej _ _ h hh).1];exact .inr rfl
 |false =>
  obtain⟨o,O,k1,k2,k3⟩:=hw.D8 b B h hh;rw[k1,k2];cases k3 with
  |cells ha _=>exact .inl (by simp[ha.size])
  |_=>exact .inl rfl
def kV {b B:Nat}(h:β b B)(hh:S.hid b=bc):Cf P S Ck G β (bw b) (bw B) (λ_ x X=>x=X):=by
 intro w W n hw ht Dt DD _;have e1:(bw b).runT P.a w Dt=(.ok (w.shape? b) w,Dt):=rfl;have e2:(bw B).runT P.b W DD=(.ok (W.shape? B) W,DD):=rfl;rw[e1,e2];refine⟨β,W.shape? B,W,[],by simp,?_,Fin.refl hw⟩;unfold cF;obtain⟨o,O,k1,k2,k3⟩:=hw.D8 b B h hh;rw[k1,k2];cases k3 with
 |cells ha _=>simp[ha.size]
 |_=>rfl
def fp (q:Question):Cf P S Ck G β (bh q) (bh q) (λ_ x X=>x=X):=by
 intro w W n hw ht Dt DD hb;by_cases hq:q.forced=bq
 .have e1:(bh q).runT P.a w Dt=(.ok 0 w,Dt):=by simp only[bh,a7,hq,if_true]
  have e2:(bh q).runT P.b W DD=(.ok 0 W,DD):=by simp only[bh,a7,hq,if_true]
  rw[e1,e2];exact⟨β,0,W,[],by simp,rfl,Fin.refl hw⟩
 .have e1:(bh q).runT P.a w Dt=(.ok (q.cut (w.tape w.drawn q)) { w with drawn:=w.drawn+1 },Dt):=by simp only[bh,a7,if_neg hq]
  have e2:(bh q).runT P.b W DD=(.ok (q.cut (W.tape W.drawn q)) { W with drawn:=W.drawn+1 },DD):=by simp only[bh,a7,if_neg hq]
  rw[e1] at hb;rw[e1,e2];have:w.tape w.drawn q=W.tape W.drawn q:=by
   have:=ht 0 (by simp only[world] at hb;omega) q;simpa using this
  refine⟨β,q.cut (W.tape W.drawn q),{ W with drawn:=W.drawn+1 },[],by simp,by rw[this],{ Fin.refl hw with evs:=by simp,rel:=⟨hw.DG,hw.room,hw.D8,hw.Ej,hw.old,hw.env⟩,drawn:=zt _,draws:=?_,same:=λi e=>⟨i,e⟩,hk:=λ_ _ _ _=>rfl,.. }⟩
  .show W.drawn+1+w.drawn=W.drawn+(w.drawn+1);omega
def qH:Cf P S Ck G β (mark .noRoom) (mark .noRoom) (λ_ _ _=>True):=by
 intro w W n hw ht Dt DD _;have e1:(mark .noRoom).runT P.a w Dt=(.ok () w,Dt.push ⟨.mark .noRoom,bc,bq⟩):=rfl;have e2:(mark .noRoom).runT P.b W DD=(.ok () W,DD.push ⟨.mark .noRoom,bc,bq⟩):=rfl;rw[e1,e2];exact⟨β,(),W,[⟨.mark .noRoom,bc,bq⟩],by simp,trivial,{ Fin.refl hw with evs:=λ_ E hE=>by cases Ah.1 hE;exact .mark .noRoom }⟩
def ft {r R:Nat}(h:β r R)(hh:S.hid r=bc):Cf P S Ck G β (bk r) (bk R) (λB8 o O=>C5 S Ck B8 o O):=by
 intro w W n hw ht Dt DD _;obtain⟨o,O,k1,k2,k3⟩:=hw.D8 r R h hh;have key:∀(hk:DK o=2),(∀c t f,o≠.cells c t f)->(∀c t f,O≠.cells c t f)->Ends S Ck G β w W DD (λB8 o O=>C5 S Ck B8 o O) ((bk r).runT P.a w Dt) ((bk R).runT P.b W DD):=by
  intro hk h1 h2;have e1:(bk r).runT P.a w Dt=(.ok o w,Dt.push ⟨.obj r,bc,o.isChan⟩):=by
   simp only[bk,a7,k1]
  have e2:(bk R).runT P.b W DD=(.ok O W,DD.push ⟨.obj R,bc,O.isChan⟩):=by
   simp only[bk,a7,k2]
  rw[e1,e2];exact⟨β,O,W,[⟨.obj R,bc,O.isChan⟩],by simp,k3,{ Fin.refl hw with evs:=λ_ E hE=>by cases Ah.1 hE;exact .obj h (by rw[k1];simp[hk]) }⟩
 cases k3 with
 |cells a f =>
  have:(bk r).runT P.a w Dt=(.halt (.stuck "getObj: a row of cells") w,Dt):=by simp only[bk,a7,k1]
  rw[this];trivial
 |loop=>exact key rfl (by simp) (by simp)
 |number=>exact key rfl (by simp) (by simp)
 |taken=>exact key rfl (by simp) (by simp)
 |defs=>exact key rfl (by simp) (by simp)
def aT (w:bb)(r:Nat)(o:Obj)(b:Nat)(h:r<w.heap.size):({ w with heap:=w.heap.setIfInBounds r o }:bb).heap[b]?=if b=r then a8 o else w.heap[b]?:=by
 simp only;rw[Ai];by_cases e:r=b
 .subst e;simp[h]
 .rw[if_neg e,if_neg (λx=>e x.symm)]
def fv {r R:Nat}(h:β r R)(hh:S.hid r=bc){o O:Obj}(ho:C5 S Ck β o O)(hk:DK o=2):Cf P S Ck G β (bn r o) (bn R O) (λ_ _ _=>True):=by
 intro w W n hw ht Dt DD _;obtain⟨x,X,k1,k2,k3⟩:=hw.D8 r R h hh;have lt:=hw.lt h;have hn:∀c t f,o≠.cells c t f:=λc t f e=>by subst e;simp[DK] at hk
 have key:DK x=2->(∀c t f,x≠.cells c t f)->(∀c t f,X≠.cells c t f)->Ends S Ck G β w W DD (λ_ _ _=>True) ((bn r o).runT P.a w Dt) ((bn R O).runT P.b W DD):=by
  intro hx h1 h2;have e1:(bn r o).runT P.a w Dt=(.ok () { w with heap:=w.heap.setIfInBounds r o },Dt.push ⟨.obj r,bq,o.isChan⟩):=by
   simp only[bn,a7,k1]
  have e2:(bn R O).runT P.b W DD=(.ok () { W with heap:=W.heap.setIfInBounds R O },DD.push ⟨.obj R,bq,O.isChan⟩):=by
   simp only[bn,a7,k2]
  rw[e1,e2];have ww:∀b B,β b B->(b=r↔B=R):=λb B hb=>⟨λe=>hw.DG.fn (e▸hb) h,λe=>hw.DG.inj hb (e▸h)⟩;have Mw:∀b,(({ w with heap:=w.heap.setIfInBounds r o }:bb).heap[b]?).map DK=(w.heap[b]?).map DK:=λb=>by
   rw[aT _ _ _ _ lt.1];split
   .rename_i e;rw[e,k1];simp[hx,hk]
   .rfl
  refine⟨β,(),{ W with heap:=W.heap.setIfInBounds R O },[⟨.obj R,bq,O.isChan⟩],by simp,trivial,{
   le:=β.le_refl
   rel:=⟨hw.DG,by simpa using hw.room,λb B hb GQ=>?_,λb B hb GQ=>?_,λb hb=>by have:=hw.old b hb;simpa using this,hw.env⟩
   tape:=rfl
   TAPE:=rfl
   drawn:=yL _
   draws:=rfl
   os:=rfl
   OS:=rfl
   out:=rfl
   OUT:=rfl
   size:=by simp
   SIZE:=by simp
   new:=λ_ _ h=>.inl h
   NEW:=λB h1 h2=>absurd h2 (by simp;omega)
   frozen:=λa _=>?_
   KEPT:=λB hB hn=>by rw[aT _ _ _ _ lt.2,if_neg (λe=>hn _ (e▸h))]
   ro:=λb B c t f hb hc _=>?_
   kind:=λb _=>Mw b
   evs:=λ_ E hE=>by cases Ah.1 hE;exact .obj h (by rw[Mw,k1];simp[hx])
   same:=λi e=>⟨i,by rw[e,i.2 _ _ h,ho.id i hn]⟩
   hk:=λb B hb GQ=>by
    have e:¬b=r:=λe=>by subst e;rw[hh] at GQ;cases GQ
    have E:¬B=R:=λE=>e ((ww b B hb).2 E)
    rw[aT _ _ _ _ lt.2,if_neg E] }⟩
  .obtain⟨y,Y,j1,j2,j3⟩:=hw.D8 b B hb GQ;by_cases e:b=r
   .have E:=(ww b B hb).1 e;exact⟨o,O,by rw[aT _ _ _ _ lt.1,if_pos e],by rw[aT _ _ _ _ lt.2,if_pos E],ho⟩
   .have E:¬B=R:=λE=>e ((ww b B hb).2 E);exact⟨y,Y,by rw[aT _ _ _ _ lt.1,if_neg e];exact j1,by rw[aT _ _ _ _ lt.2,if_neg E];exact j2,j3⟩
  .have e:¬b=r:=λe=>by subst e;rw[hh] at GQ;cases GQ
   have E:¬B=R:=λE=>e ((ww b B hb).2 E);rw[aT _ _ _ _ lt.1,aT _ _ _ _ lt.2,if_neg e,if_neg E];exact hw.Ej b B hb GQ
  .rw[ba,ba,aT _ _ _ _ lt.1];split
   .rename_i e;rw[e,k1];cases x<;>cases o<;>first|exact absurd rfl (h1 _ _ _)|exact absurd rfl (hn _ _ _)|rfl
   .rfl
  .have e:¬b=r:=λe=>by subst e;rw[k1] at hc;cases hc;exact h1 _ _ _ rfl
   have E:¬B=R:=λE=>e ((ww b B hb).2 E);exact⟨by rw[aT _ _ _ _ lt.1,if_neg e],by rw[aT _ _ _ _ lt.2,if_neg E]⟩
 cases k3 with
 |cells a f =>
  have:(bn r o).runT P.a w Dt=(.halt (.stuck "setObj: a row of cells") w,Dt):=by simp only[bn,a7,k1]
  rw[this];trivial
 |loop=>exact key rfl (by simp) (by simp)
 |number=>exact key rfl (by simp) (by simp)
 |taken=>exact key rfl (by simp) (by simp)
 |defs=>exact key rfl (by simp) (by simp)
end
def plain:Nat->a6->Bool
 |0,_=>bc
 |_+1,.bool _|_+1,.int _ _|_+1,.string _|_+1,.pointer bD|_+1,.slice bD _ _|_+1,.nilFunc|_+1,.nilIface|_+1,.map bD|_+1,.chan bD=>bq
 |n+1,.agg cs=>cs.all (plain n)
 |n+1,.tuple cs=>cs.all (plain n)
 |_,_=>bc
def gM {S:DT}{β:Cm}:∀ {n:Nat} {v:a6},plain n v=bq->B6 S β v v:=by
 intro n
 induction n with
 |zero=>intro v h;simp[plain] at h
 |succ n ih =>
  intro v h;cases v with
  |bool b=>exact .bool b
  |int k n=>exact .int k n
  |string s=>exact .string s
  |pointer a=>cases a with
   |none=>exact .FJ
   |some a=>simp[plain] at h
  |slice a l c=>cases a with
   |none=>exact .Fc l c
   |some a=>simp[plain] at h
  |nilFunc=>exact .nilFunc
  |nilIface=>exact .nilIface
  |map r=>cases r with
   |none=>exact .Fu
   |some a=>simp[plain] at h
  |chan r=>cases r with
   |none=>exact .EX
   |some a=>simp[plain] at h
  |agg cs =>
   simp only[plain,zh] at h;exact .agg rfl λi v V h1 h2=>by rw[h1] at h2;cases h2;exact ih (h v (zl h1))
  |tuple cs =>
   simp only[plain,zh] at h;exact .tuple rfl λi v V h1 h2=>by rw[h1] at h2;cases h2;exact ih (h v (zl h1))
  |_=>simp[plain] at h
def bX (P:bW)(t:br):Bool:=match P.info? t with
 |some i=>match i.zero with
  |some z=>plain 8 z
  |none=>bq
 |none=>bq
section
variable {P:CL} {S:DT} {Ck:cu->Prop} {G:Nat} {β:Cm}
def cH {t:br}(h:bX P.a t=bq):Cf P S Ck G β (zeroValue t) (zeroValue t) (λB8 v V=>v=V/\B6 S B8 v V):=by
 refine B4 (bi t) ?_;rintro B8 a A _ ⟨rfl,hi⟩;unfold bX at h;rw[hi] at h;simp only at h;cases hz:a.zero with
 |none=>exact Cb (by simp)
 |some z=>rw[hz] at h;exact B5 ⟨rfl,gM h⟩
def ji {a A:bs}(h:C9 β a A)(i n:Nat){acc ACC:Array a6}(PM:Ca S β acc ACC) :
  Cf P S Ck G β (loadCellsFrom a i n acc) (loadCellsFrom A i n ACC) (λB8 x X=>Ca S B8 x X):=by
 induction n generalizing β i acc ACC with
 |zero=>exact B5 PM
 |succ n ih =>
  refine B4 (iG (h.add i) .plain) ?_;intro B8 v V hle hv;exact ih (h.mono hle) _ ((PM.mono hle).push hv)
def gN {a A:bs}(h:C9 β a A)(n:Nat):Cf P S Ck G β (loadCells a n) (loadCells A n) (λB8 x X=>Ca S B8 x X):=ji h 0 n Bt
def gH {a A:bs}(h:C9 β a A){l L:List a6}(hl:Df (B6 S β) l L)(i:Nat):Cf P S Ck G β (storeCells a l i) (storeCells A L i) (λ_ _ _=>True):=by
 induction l generalizing β i L with
 |nil=>cases hl;exact B5 trivial
 |cons v l ih =>
  cases hl with
  |cons hv hr =>
   refine B4 (jg (h.add i) .plain hv) ?_;intro B8 _ _ hle _;exact ih (h.mono hle) (hr.mono λ_ _=>B6.mono hle) _
def BF {α:Type}{R:α->α->Prop}:∀ {l L:List α},l.length=L.length->(∀(i:Nat) (v V:α),l[i]?=a8 v->L[i]?=a8 V->R v V)->Df R l L
 |[],[],_,_=>.nil
 |a::l,A::L,h,k=>.cons (k 0 a A rfl rfl) (BF (by simpa using h) λi v V h1 h2=>k (i+1) v V (by simpa using h1) (by simpa using h2))
 |[],_::_,h,_=>by simp at h
 |_::_,[],h,_=>by simp at h
def Ca.toList {x X:Array a6}(r:Ca S β x X):Df (B6 S β) x.toList X.toList :=
 BF (by simpa using r.size) λi v V h1 h2=>r.at_ i v V (by simpa using h1) (by simpa using h2)
def Df.get {α:Type}{R:α->α->Prop}{l L:List α}(h:Df R l L):l.length=L.length/\∀(i:Nat) (v V:α),l[i]?=a8 v->L[i]?=a8 V->R v V:=by
 induction h with
 |nil=>exact⟨rfl,by simp⟩
 |cons ha _ ih =>
  refine⟨by simp[ih.1],λi v V h1 h2=>?_⟩;cases i with
  |zero=>simp at h1 h2;subst h1;subst h2;exact ha
  |succ i=>exact ih.2 i v V (by simpa using h1) (by simpa using h2)
def Df.toArray {l L:List a6}(h:Df (B6 S β) l L):Ca S β l.toArray L.toArray :=
 ⟨by simpa using h.get.1,λi v V h1 h2=>h.get.2 i v V (by simpa using h1) (by simpa using h2)⟩
def jE (t:br){a A:bs}(h:C9 β a A):Cf P S Ck G β (loadVar t a) (loadVar t A) (λB8 v V=>B6 S B8 v V):=by
 refine B4 (l6 t) ?_;rintro B8 b _ hle rfl;split
 .refine B4 (aH t) ?_;rintro Dq n _ C0 rfl;refine B4 (gN ((h.mono hle).mono C0) n) ?_;intro Eu x X _ hx;exact B5 hx.agg
 .exact iG (h.mono hle) _
def nk (t:br){a A:bs}(h:C9 β a A){v V:a6}(hv:B6 S β v V):Cf P S Ck G β (storeVar t a v) (storeVar t A V) (λ_ _ _=>True):=by
 refine B4 (aH t) ?_;rintro B8 n _ hle rfl;rw[hv.cells.size];split
 .exact λ_ _ _ _ _ _ _ _=>trivial
 .exact gH (h.mono hle) (hv.mono hle).cells.toList 0
def fw (t:br){c C:Array a6}(h:Ca S β c C):Cf P S Ck G β (newRow t c) (newRow t C) (λB8 a A=>C9 B8 a A):=by
 refine B4 (jD (.cells h (λi h1 h2=>absurd h2 (by simp))) (λi=>by rw[h.id i])) ?_;rintro B8 b B _ ⟨hb,_⟩;exact B5 ⟨hb,rfl,rfl⟩
def gO (t:br){v V:a6}(h:B6 S β v V):Cf P S Ck G β (newVar t v) (newVar t V) (λB8 a A=>C9 B8 a A):=fw t h.cells
def cz (t:br){c C:Array a6}(h:Ca S β c C)(o:Nat):Cf P S Ck G β (part t c o) (part t C o) (λB8 v V=>B6 S B8 v V):=by
 refine B4 (l6 t) ?_;rintro B8 b _ hle rfl;split
 .refine B4 (aH t) ?_;rintro Dq n _ C0 rfl;exact B5 (((h.mono hle).mono C0).extract _ _).agg
 .cases hc:c[o]? with
  |none=>exact B9
  |some v=>obtain⟨V,hV,hr⟩:=(h.mono hle).get? hc;rw[hV];exact B5 hr
def cY {v V:a6}(h:B6 S β v V):Cf P S Ck G β (Instr.sureAddr v) (Instr.sureAddr V) (λB8 a A=>C9 B8 a A):=by
 cases h with
 |ptr o s hb=>exact B5 ⟨hb,rfl,rfl⟩
 |_=>exact B9
def ax {α FK:Type}{R:Cm->α->FK->Prop}(e:RuntimeError)(h:match e with|.bounds ..|.error _|.plain _|.nilDeref=>True|_=>False) :
  Cf P S Ck G β (runtimePanic e:Sem α) (runtimePanic e:Sem FK) R:=by
 refine B4 aR ?_;rintro B8 a A _ ⟨rfl,rfl⟩;cases e with
 |bounds x y s c =>
  refine dh (.iface _ (gM (n:=2) ?_));simp[plain]
 |error m=>exact dh (.iface _ (.string _))
 |plain m=>exact dh (.iface _ (.string _))
 |nilDeref=>exact dh (.iface _ (.string _))
 |typeAssertion i c a m=>exact h.elim
 |panicNil=>exact h.elim
 |unhashable t=>exact h.elim
def Dy {α FK:Type}{R:Cm->α->FK->Prop}(k:IntKind)(x y:Int)(c:BoundsCode):Cf P S Ck G β (cq k x y c:Sem α) (cq k x y c:Sem FK) R:=by
 unfold cq;split
 .refine B4 (R:=λ_ a A=>a=A) ?_ ?_
  .refine B4 (fp _) ?_;rintro B8 a A _ rfl;exact B5 rfl
  .rintro B8 a A _ rfl;exact ax (.bounds _ _ _ _) trivial
 .refine B4 (B5 (R:=λ_ a A=>a=A) rfl) ?_;rintro B8 a A _ rfl;exact ax (.bounds _ _ _ _) trivial
end
end Go.Ct
