/- Parts of the proof. -/
import Derived.Sort.BigQuietIn
set_option linter.all false
set_option maxHeartbeats 4000000
open Go renaming Value->J,TypeId->bb,runtimePanic->bn,Addr->bA,behindNumber->bD,World->bW,getObj->b5,unsupported->b6,typeInfo->ck,choose->cq,setObj->cu,byteOfCell->cF,cellOfByte->cK,Program->df,shape->di,boundsPanic->dn,numberAt->dt,IntKind->dS,movedNumber->eb,load->ek,Deferred->ew,Event->ez,Code->eH,storeCells->eT,BoundsCode->fq,asNumber->fu,FuncId->gg,store->gR
open Go.Instr renaming sliceBound->U,sliceBounds->b7,fill->b9,extract->eG,buildSlice->e8,makeSlice->fc,sureAddr->fo,fieldAt->fx,indexAt->fz,sliceAt->fA,storeAt->fW,loadAt->gl,slice->gU,field->hP,index->ik,build->jk,alloc->js,box->j0
open Option renaming some->I,none->bq
open Go.Builtin renaming firstCells->N,zeroCells->br,unsafeAdd_->bw,mayShare->cw,nextslicecap->cU,holdsCells->dr,lenOf->ed,append_->er,len_->e6,cap_->e7
open Bool renaming false->bc,true->bs
open Go.Sem renaming runT->bh
open Go.Value renaming pointer->bk,slice->cd
open Array renaming range->b8,replicate->eo,ext->jx
open Go.World renaming shape?->cf,setCell->eC,frozen?->eF,farStore->fl,cell?->gB
open Go.Result renaming ok->cA
open Go.Op renaming twoPlaces->cE,equal->c0,equalIn->dy,stringOp->eA,addrMod->eV
open Nat renaming zero_mul->e5,le_succ->e9
open Array renaming getD->Array.LE,setIfInBounds->Array.L
open BitVec renaming toNat->BitVec.L
open Eq renaming symm->Eq.LT
open Go renaming underlying->Go.LT
open Go.Addr renaming block->Go.Addr.Lo
open Go.BoundsCode renaming toNat->Go.BoundsCode.L
open Go.Obj renaming deferred->Go.Obj.L
open Go.Program renaming underlying->Go.Program.LT
open Go.Sem renaming runT->Go.Sem.L
open Go.TypeDesc renaming pointer->Go.TypeDesc.S
open Go.Unsupported renaming addressObserved->Go.Unsupported.L
open Go.Value renaming pointer->Go.Value.S
open Go.World renaming cell?->Go.World.L,frozen?->Go.World.H,setCell->Go.World.LE,shape?->Go.World.T
open Int renaming toNat->Int.L
open List renaming length->List.L,toArray->List.Li
open Option renaming getD->Option.LE
open UInt8 renaming toNat->UInt8.L
namespace Go
def AC:=@Array.getElem?_eq_some_iff
def AD:=@Nat.le_refl
def AE:=@if_neg
def AG:=@List.getElem?_eq_getElem
def AH:=@absurd
def AI:=@Nat.lt_of_lt_of_le
def AJ:=@if_pos
def AK:=@List.not_mem_nil
def AL:=@Array.getElem?_eq_getElem
def AM:=@List.mem_cons
def AO:=@Bool.and_eq_true
def AQ:=@List.length_cons
def AR:=@List.size_toArray
def AS:=@Option.getD_some
def AT:=@List.length_nil
def AU:=@Nat.zero_add
def AV:=@Array.getElem?_setIfInBounds_ne
def AX:=@Nat.le_trans
def AZ:=@congrArg
def Ba:=@Bool.false_eq_true
def Bb:=@Array.all_eq_true_iff_forall_mem
def Bc:=@Nat.zero_le
def Bd:=@List.getElem?_eq_some_iff
def Be:=@List.set_cons_succ
def Bf:=@List.eq_nil_of_length_eq_zero
def Bg:=@List.foldl_cons
def Bh:=@List.set_cons_zero
def Bi:=@Array.mem_of_getElem?
def Bj:=@List.take_of_length_le
def Bl:=@Option.map_eq_some_iff
def Bm:=@Bool.or_eq_true
def Bn:=@List.getElem?_append_left
def Bo:=@List.getElem?_append_right
def Bp:=@Array.empty_append
def Bq:=@List.foldl_nil
def Br:=@List.getElem?_cons_zero
def Bu:=@List.getElem?_cons_succ
def Bv:=@Array.getElem?_modify
def Bw:=@List.getElem?_toArray
def Bx:=@Array.getD_eq_getD_getElem?
def By:=@Array.getElem?_replicate
def Bz:=@Array.replicate_succ
def BA:=@Array.replicate_zero
def BD:=@Option.bind_some
def BE:=@List.getElem?_map
def BF:=@Array.getElem?_map
def BG:=@Array.getElem?_setIfInBounds_self_of_lt
def BI:=@List.append_toArray
def BJ:=@Nat.eq_zero_or_pos
def BK:=@List.mem_append
def BM:=@List.mem_range
def BN:=@List.cons_append
def BO:=@List.mem_map
def BP:=@Nat.lt_or_ge
def BQ:=@List.push_toArray
def BT:=@Option.map_some
def BU:=@List.getElem_mem
def BV:=@List.getElem?_eq_none
def BX:=@Bool.not_eq_true'
def BY:=@Nat.not_lt_zero
def BZ:=@List.nil_append
def B1:=@List.length_append
def B2:=@List.mem_toArray
def B3:=@Array.getElem?_setIfInBounds
def B4:=@decide_eq_false
def B5:=@Nat.lt_or_eq_of_le
def B6:=@List.all_eq_true
def B7:=@Bool.false_and
def B8:=@List.length_map
def B9:=@Nat.le_of_eq
def Ca:=@List.map_cons
def Cb:=@Bool.or_eq_false_iff
def Cc:=@List.mem_of_getElem?
def Cd:=@Bool.and_false
def Ce:=@Array.getElem?_push
def Cf:=@Array.getElem?_eq_none
def Cg:=@List.mem_singleton
def Ch:=@Bool.not_eq_false'
def Ci:=@decide_eq_true
def Cj:=@List.mem_of_mem_take
def Cl:=@List.mem_iff_getElem
def Cn:=@Int.toNat_natCast
def Cq:=@Option.isSome_none
def Cr:=@List.mem_filter
def Cs:=@List.map_append
def Ct:=@List.append_nil
def Cu:=@List.length_set
def Cv:=@List.contains_iff_mem
def Cx:=@Nat.le_of_lt_succ
def Cy:=@List.append_assoc
def Cz:=@List.mem_cons_of_mem
def CA:=@List.map_toArray
def CB:=@List.map_nil
def CD:=@Nat.lt_irrefl
def CE:=@List.mem_cons_self
def CF:=@List.getElem?_take
def CG:=@Int.le_refl
def CI:=@Nat.le_succ_of_le
def CJ:=@Array.getElem?_mapIdx
def CL:=@Array.getElem?_append
def CM:=@List.length_filter_le
def CN:=@Int.le_trans
def CQ:=@Int.mul_le_mul
def CR:=@Nat.pow_le_pow_right
def CT:=@List.length_take
def CV:=@Array.toList_map
def CW:=@Bool.or_false
def CX:=@Bool.true_and
def CY:=@Int.mul_assoc
def CZ:=@List.filter_eq_self
def C0:=@List.drop_eq_getElem_cons
def C1:=@List.range_succ
def C2:=@Array.mapM_eq_mapM_toList
def C3:=@Nat.le_add_left
def C4:=@List.mem_or_eq_of_mem_set
def C5:=@List.find?_eq_none
def C6:=@List.filter_append
def C7:=@Array.foldl_toList
def C8:=@Array.forIn_toList
def C9:=@Nat.ne_of_lt
def Da:=@Array.getElem_ofFn
def Db:=@Int.mul_nonneg
end Go

namespace Go
section
variable {F:Fence} {n:Nat} {P:df} {ops:Array Oper} {C:bW->Prop}
def kJ (o:Oper):Bool:=match o.op with
 |.defer _=>bc
 |_=>bs
def lQ {Q:Exit->Act->bW->Prop}{r:Nat}(hro:F.round=bq)(a6:ops.all kJ=bs):∀(l:List Nat) (a:Act) (w:bW),wpOpsIn F n P ops Q l a w->wpOpsIn (F.inRound r) n P ops Q l a w:=by
 intro l
 induction l with
 |nil=>exact λa w h=>h
 |cons i rest ih =>
  intro a w h;simp only[wpOpsIn] at h ⊢;cases ho:ops[i]? with
  |none=>simp only[ho] at h ⊢;exact ih a w h
  |some o =>
   simp only[ho] at h ⊢;have hm:o∈ops:=Bi ho;have hd:∀c,o.op≠.defer c:=λc e=>by
    have:=(Bb.1 a6) o hm;simp[kJ,e] at this
   split
   .rename_i hw;rw[AJ hw] at h;have h2:=Oper.wpIn_mono (K':=wpOpsIn (F.inRound r) n P ops Q rest) (λa w=>ih a w) h;unfold Oper.wpIn at h2 ⊢;rw[Oper.semAt_eq _ _ _ hd] at h2 ⊢;refine⟨h2.1,?_⟩;have h3:=h2.2;generalize (execOp a.eval o).run P w=res at h3 ⊢;cases res with
    |ok x w'=>cases x<;>exact h3
    |halt x w'=>cases x<;>exact h3
   .rename_i hw;rw[AE hw] at h;exact⟨h.1,ih _ _ h.2⟩
def ft {id r:Nat}{Q:Exit->Act->bW->Prop}{a:Act}{w:bW}{l:List Oper}(hro:F.round=bq)(a6:l.Li.all kJ=bs)(hm:P.follows .mixedOrders=bs)(hB:Region.lexB .any l.Li=bs)
  (h:wpQuietIn F n P l.Li (λw'=>∃n,w'=w.drewN n) (λa'=>∀w',(∃n,w'=w.drewN n)->Q .normal a' w') l a):(Code.region id l.Li bs).wpIn (F.inRound r) n P Q a w:=by
 simp only[Region.lexB,AO] at hB;refine wpIn_region_draw λt=>lQ hro a6 _ _ _ ?_;simp only[Region.schedule,hm,Bool.true_or,if_true];refine wpAnyIn_sound l.Li.size t _ a _ ?_;refine wpAnyIn_of_quiet (C:=λw'=>∃n,w'=w.drewN n) (Q:=λa'=>∀w',(∃n,w'=w.drewN n)->Q .normal a' w') hro (λ_ w' hw' h=>h w' hw') _ _ _ _ ⟨1,rfl⟩ ?_;have:=wpAnyQIn_lex (F:=F) (n:=n) (C:=λw'=>∃n,w'=w.drewN n) (md:=.any) hB.1 l 0 (eo l.L bc) a (by simp) (by simpa using hB.2) (by simpa using h)
 simpa using this
end
end Go
namespace Go.Em
structure Er where
 a:df
 fs:Array Func
def Er.b (P:Er):Program:={ P.a with funcs:=P.fs }
def Er.LT (P:Er)(t:bb):P.b.LT t=P.a.LT t:=rfl
def DN (P:Er)(t:bb):P.b.info? t=P.a.info? t:=rfl
abbrev Ef:=Nat->Nat->Prop
structure Ef.E7 (G:Nat)(β:Ef):Prop where
 fn:∀ {b B B'},β b B->β b B'->B=B'
 inj:∀ {b b' B},β b B->β b' B->b=b'
 lo:∀ {b B},β b B->G<=b/\G<=B
def Ef.le (β DZ:Ef):Prop:=∀b B,β b B->DZ b B
def Ef.le_refl (β:Ef):β.le β:=λ_ _ h=>h
def Ef.le_trans {a b c:Ef}(h:a.le b)(h':b.le c):a.le c:=λ_ _ x=>h' _ _ (h _ _ x)
structure Hid where
 at_:Nat->Bool
 EX:Bool
 bl:Bool
instance:CoeFun Hid (λ_=>Nat->Bool):=⟨Hid.at_⟩
structure Fu where
 fn:gg->Prop
 LT:Hid
 fr:gg->Prop
inductive IA (S:Fu)(β:Ef):Fn->Fn->Prop
 |func {f:gg}:S.fn f->IA S β (.func f) (.func f)
 |yield {l L:Nat}:β l L->S.LT l=bc->IA S β (.yield l) (.yield L)
def hole:Value:=.chan (I 0)
def big:TypeId:=1000000000
def hm:Value:=.func (.method "") #[.iface big undef] #[]
def hd (a:Array J):Deferred:=⟨.fn (.method "") #[],#[.iface big undef]++a⟩
def ow:J->Bool
 |.agg _|.tuple _|.S bq|.nilIface|.nilFunc|.bool _|.int _ _|.string _|.func (.method _) _ _=>bc
 |_=>bs
inductive DX (S:Fu)(β:Ef):J->J->Prop
 |bool (b:Bool):DX S β (.bool b) (.bool b)
 |int (k:dS) (n:Int):DX S β (.int k n) (.int k n)
 |string (s:ByteArray):DX S β (.string s) (.string s)
 |He:DX S β (.S bq) (.S bq)
 |ptr {b B:Nat} (o:Nat) (s:Option Nat):β b B->DX S β (.S (I ⟨b,o,s⟩)) (.S (I ⟨B,o,s⟩))
 |GA (l c:Nat):DX S β (.slice bq l c) (.slice bq l c)
 |slice {b B:Nat} (o:Nat) (s:Option Nat) (l c:Nat):β b B->DX S β (.slice (I ⟨b,o,s⟩) l c) (.slice (I ⟨B,o,s⟩) l c)
 | func {f F : Fn} {x X c C : Array J} : IA S β f F -> x.size = X.size -> (∀ (i : Nat) (v V : J), x[i]? = I v -> X[i]? = I V -> DX S β v V) ->
   c.size=C.size->(∀(i:Nat) (v V:J),c[i]?=I v->C[i]?=I V->DX S β v V)->DX S β (.func f x c) (.func F X C)
 |nilFunc:DX S β .nilFunc .nilFunc
 |GZ:DX S β (.map bq) (.map bq)
 |Gt:DX S β (.chan bq) (.chan bq)
 |nilIface:DX S β .nilIface .nilIface
 |iface (t:bb) {v V:J}:DX S β v V->DX S β (.iface t v) (.iface t V)
 |agg {x X:Array J}:x.size=X.size->(∀(i:Nat) (v V:J),x[i]?=I v->X[i]?=I V->DX S β v V)->DX S β (.agg x) (.agg X)
 |tuple {x X:Array J}:x.size=X.size->(∀(i:Nat) (v V:J),x[i]?=I v->X[i]?=I V->DX S β v V)->DX S β (.tuple x) (.tuple X)
 |blank {V:J}:(V=hole\/S.LT.bl=bs)->ow V=bs->DX S β hole V
 |EN {n:String} {x c:Array J}:(Value.func (.method n) x c=hm\/S.LT.bl=bs)->DX S β hm (.func (.method n) x c)
 |E8 {a A:bA}:(A=a\/S.LT.bl=bs)->DX S β (.slice (I a) 0 0) (.slice (I A) 0 0)
structure D6 (S:Fu)(β:Ef)(x X:Array J):Prop where
 size:x.size=X.size
 at_:∀(i:Nat) (v V:J),x[i]?=I v->X[i]?=I V->DX S β v V
section
variable {S:Fu} {β DZ:Ef}
def IA.LT (h:β.le DZ){f F:Fn}(r:IA S β f F):IA S DZ f F:=by
 cases r with
 |func s=>exact .func s
 |yield l k=>exact .yield (h _ _ l) k
def DX.LT (h:β.le DZ){v V:J}(r:DX S β v V):DX S DZ v V:=by
 induction r with
 |bool b=>exact .bool b
 |int k n=>exact .int k n
 |string s=>exact .string s
 |He=>exact .He
 |ptr o s hb=>exact .ptr o s (h _ _ hb)
 |GA l c=>exact .GA l c
 |slice o s l c hb=>exact .slice o s l c (h _ _ hb)
 |func hf h1 _ h2 _ i1 i2=>exact .func (hf.LT h) h1 i1 h2 i2
 |nilFunc=>exact .nilFunc
 |GZ=>exact .GZ
 |Gt=>exact .Gt
 |nilIface=>exact .nilIface
 |iface t _ ih=>exact .iface t ih
 |agg h1 _ i1=>exact .agg h1 i1
 |tuple h1 _ i1=>exact .tuple h1 i1
 |blank h1 h2=>exact .blank h1 h2
 |EN h1=>exact .EN h1
 |E8 h1=>exact .E8 h1
def D6.LT (h:β.le DZ){x X:Array J}(r:D6 S β x X):D6 S DZ x X:=⟨r.size,λi v V a b=>(r.at_ i v V a b).LT h⟩
def D6.agg {x X:Array J}(r:D6 S β x X):DX S β (.agg x) (.agg X):=.agg r.size r.at_
def D6.tuple {x X:Array J}(r:D6 S β x X):DX S β (.tuple x) (.tuple X):=.tuple r.size r.at_
def DX.undef (S:Fu)(β:Ef):DX S β undef undef:=.tuple rfl (by simp)
def Di:D6 S β #[] #[]:=⟨rfl,by simp⟩
def D6.get? {x X:Array J}(r:D6 S β x X){i:Nat}{v:J}(h:x[i]?=I v):∃V,X[i]?=I V/\DX S β v V:=by
 have hi:i<X.size:=by rw[<-r.size];exact(AC.1 h).1
 exact⟨X[i],AL hi,r.at_ i v _ h (AL hi)⟩
def D6.get_none {x X:Array J}(r:D6 S β x X){i:Nat}(h:x[i]?=bq):X[i]?=none:=by
 rw[Array.getElem?_eq_none_iff] at h ⊢;rw[<-r.size];exact h
def D6.LE {x X:Array J}(r:D6 S β x X)(i:Nat){d D:J}(hd:DX S β d D):DX S β (x.LE i d) (X.LE i D):=by
 rw[Bx,Bx];cases h:x[i]? with
 |none=>rw[r.get_none h];exact hd
 |some v=>obtain⟨V,hV,hr⟩:=r.get? h;rw[hV];exact hr
def D6.push {x X:Array J}(r:D6 S β x X){v V:J}(h:DX S β v V):D6 S β (x.push v) (X.push V):=by
 refine⟨by simp[r.size],λi a A ha hA=>?_⟩;rw[Ce] at ha hA;rw[r.size] at ha;split at ha
 .rw[AJ ‹_›] at hA;cases ha;cases hA;exact h
 .rw[AE ‹_›] at hA;exact r.at_ i a A ha hA
def D6.append {x X y Y:Array J}(r:D6 S β x X)(s:D6 S β y Y):D6 S β (x++y) (X++Y):=by
 refine⟨by simp[r.size,s.size],λi a A ha hA=>?_⟩;rw[CL] at ha hA;rw[r.size] at ha;split at ha
 .rw[AJ ‹_›] at hA;exact r.at_ i a A ha hA
 .rw[AE ‹_›] at hA;exact s.at_ _ a A ha hA
def D6.one {v V:J}(h:DX S β v V):D6 S β #[v] #[V]:=by simpa using Di.push h
def D6.extract {x X:Array J}(r:D6 S β x X)(a b:Nat):D6 S β (x.extract a b) (X.extract a b):=by
 refine⟨by simp[r.size],λi v V hv hV=>?_⟩;rw[Array.getElem?_extract] at hv hV;rw[r.size] at hv;split at hv
 .rw[AJ ‹_›] at hV;exact r.at_ _ v V hv hV
 .cases hv
def D6.SS {x X:Array J}(r:D6 S β x X)(i:Nat){v V:J}(h:DX S β v V):D6 S β (x.L i v) (X.L i V):=by
 refine⟨by simp[r.size],λj a A ha hA=>?_⟩;rw[B3] at ha hA;rw[r.size] at ha;split at ha
 .rw[AJ ‹_›] at hA;split at ha
  .rw[AJ ‹_›] at hA;cases ha;cases hA;exact h
  .cases ha
 .rw[AE ‹_›] at hA;exact r.at_ j a A ha hA
def D6.replicate {v V:J}(h:DX S β v V)(n:Nat):D6 S β (eo n v) (eo n V):=by
 refine⟨by simp,λi a A ha hA=>?_⟩;rw[By] at ha hA;split at ha
 .rw[AJ ‹_›] at hA;cases ha;cases hA;exact h
 .cases ha
def D6.map {α:Type}(l:Array α){f F:α->J}(h:∀x∈l,DX S β (f x) (F x)):D6 S β (l.map f) (l.map F):=by
 refine⟨by simp,λi a A ha hA=>?_⟩;rw[BF] at ha hA;cases hx:l[i]? with
 |none=>rw[hx] at ha;cases ha
 |some x =>
  rw[hx] at ha hA;cases ha;cases hA;exact h x (Bi hx)
def DX.cells {v V:J}(r:DX S β v V):D6 S β v.cells V.cells:=by
 cases r with
 |agg h1 h2=>exact⟨h1,h2⟩
 |bool b=>exact D6.one (.bool b)
 |int k n=>exact D6.one (.int k n)
 |string s=>exact D6.one (.string s)
 |He=>exact D6.one .He
 |ptr o s hb=>exact D6.one (.ptr o s hb)
 |GA l c=>exact D6.one (.GA l c)
 |slice o s l c hb=>exact D6.one (.slice o s l c hb)
 |func hf h1 a1 h2 a2=>exact D6.one (.func hf h1 a1 h2 a2)
 |nilFunc=>exact D6.one .nilFunc
 |GZ=>exact D6.one .GZ
 |Gt=>exact D6.one .Gt
 |nilIface=>exact D6.one .nilIface
 |iface t r=>exact D6.one (.iface t r)
 |tuple h1 a1=>exact D6.one (.tuple h1 a1)
 |blank h1 h2 =>
  rw[show V.cells=#[V] by cases V<;>first|rfl|cases h2];exact D6.one (.blank h1 h2)
 |EN h1=>exact D6.one (.EN h1)
 |E8 h1=>exact D6.one (.E8 h1)
end
inductive Fx (S:Fu)(β:Ef):ew->ew->Prop
 |fn {f F:Fn} {c C a A:Array J}:IA S β f F->D6 S β c C->D6 S β a A->Fx S β ⟨.fn f c,a⟩ ⟨.fn F C,A⟩
 |nil {a A:Array J}:D6 S β a A->Fx S β ⟨.nil,a⟩ ⟨.nil,A⟩
 |collected {r R:Nat}:β r R->S.LT r=bc->Fx S β ⟨.collected r,#[]⟩ ⟨.collected R,#[]⟩
 |EN {d D:ew} (a A:Array J):D6 S β a A->d=hd a->(D=hd A\/(S.LT.bl=bs/\∃n c x,D=⟨.fn (.method n) c,x++A⟩))->Fx S β d D
inductive E3 {α:Type}(R:α->α->Prop):List α->List α->Prop
 |nil:E3 R [] []
 |cons {a A:α} {l L:List α}:R a A->E3 R l L->E3 R (a::l) (A::L)
def E3.LT {α:Type}{R R':α->α->Prop}(h:∀a A,R a A->R' a A){l L:List α}(r:E3 R l L):E3 R' l L:=by
 induction r with
 |nil=>exact .nil
 |cons a _ ih=>exact .cons (h _ _ a) ih
def E3.append {α:Type}{R:α->α->Prop}{l L m M:List α}(r:E3 R l L)(s:E3 R m M):E3 R (l++m) (L++M):=by
 induction r with
 |nil=>exact s
 |cons a _ ih=>exact .cons a ih
def Fx.LT {S:Fu}{β DZ:Ef}(h:β.le DZ){d D:ew}(r:Fx S β d D):Fx S DZ d D:=by
 cases r with
 |fn f c a=>exact .fn (f.LT h) (c.LT h) (a.LT h)
 |nil a=>exact .nil (a.LT h)
 |collected r k=>exact .collected (h _ _ r) k
 |EN a A h1 h2 h3=>exact .EN a A (h1.LT h) h2 h3
inductive EP (S:Fu)(Ck:eH->Prop)(β:Ef):Obj->Obj->Prop
 |cells {c C:Array J} {t:bb} {f F:Nat×Nat}:D6 S β c C->(∀i,F.1<=i->i<F.2->f.1<=i/\i<f.2)->EP S Ck β (.cells c t f) (.cells C t F)
 | loop {st : LoopState} {pe : Option eH} {fn : gg} {x X : Array J} {ps : Array Tmp} {Az bo : eH} {d D : Nat} :
   (S.fr fn/\∀c,pe=I c->Ck c)->Ck Az->Ck bo->D6 S β x X->β d D->S.LT d=bc->EP S Ck β (.loop ⟨st,pe,fn,x,ps,Az,bo,d⟩) (.loop ⟨st,pe,fn,X,ps,Az,bo,D⟩)
 |number {b B:Nat} (o:Nat) (s:Option Nat) (lost:Bool):β b B->EP S Ck β (.number ⟨b,o,s⟩ lost) (.number ⟨B,o,s⟩ lost)
 |taken:EP S Ck β (.L bq) (.L bq)
 |defs {l L:List ew}:E3 (Fx S β) l L->EP S Ck β (.L (I l)) (.L (I L))
def EP.LT {S:Fu}{Ck:eH->Prop}{β DZ:Ef}(h:β.le DZ){o O:Obj}(r:EP S Ck β o O):EP S Ck DZ o O:=by
 cases r with
 |cells a f=>exact .cells (a.LT h) f
 |loop p a b x d k=>exact .loop p a b (x.LT h) (h _ _ d) k
 |number o s l hb=>exact .number o s l (h _ _ hb)
 |taken=>exact .taken
 |defs l=>exact .defs (l.LT λ_ _=>Fx.LT h)
def Ef.NM (β:Ef):Prop:=∀b B,β b B->b=B
def KX (H:Hid)(β:Ef):Prop:=H.bl=bc/\β.NM
def IA.id {S:Fu}{β:Ef}(h:β.NM){f F:Fn}(r:IA S β f F):f=F:=by
 cases r with
 |func _=>rfl
 |yield hl _=>rw[h _ _ hl]
def DX.id {S:Fu}{β:Ef}(h:KX S.LT β){v V:J}(r:DX S β v V):v=V:=by
 have arr:∀(x X:Array J),x.size=X.size->(∀(i:Nat) (v V:J),x[i]?=I v->X[i]?=I V->v=V)->x=X:=λx X hs ha=>by
  refine jx hs λi h1 h2=>?_;exact ha i _ _ (AL h1) (AL h2)
 induction r with
 |ptr o s hb=>rw[h.2 _ _ hb]
 |slice o s l c hb=>rw[h.2 _ _ hb]
 |func hf h1 _ h2 _ i1 i2=>rw[hf.id h.2,arr _ _ h1 i1,arr _ _ h2 i2]
 |iface t _ ih=>rw[ih]
 |agg h1 _ i1=>rw[arr _ _ h1 i1]
 |tuple h1 _ i1=>rw[arr _ _ h1 i1]
 |blank h1 _=>exact h1.elim Eq.symm λh1=>by rw[h.1] at h1;cases h1
 |EN h1=>exact h1.elim Eq.symm λh1=>by rw[h.1] at h1;cases h1
 |E8 h1=>exact h1.elim (λe=>by rw[e]) λh1=>by rw[h.1] at h1;cases h1
 |_=>rfl
def D6.id {S:Fu}{β:Ef}(h:KX S.LT β){x X:Array J}(r:D6 S β x X):x=X :=
 jx r.size λi h1 h2=>(r.at_ i _ _ (AL h1) (AL h2)).id h
def E3.id {α:Type}{R:α->α->Prop}(h:∀a A,R a A->a=A){l L:List α}(r:E3 R l L):l=L:=by
 induction r with
 |nil=>rfl
 |cons ha _ ih=>rw[h _ _ ha,ih]
def Fx.id {S:Fu}{β:Ef}(h:KX S.LT β){d D:ew}(r:Fx S β d D):d=D:=by
 cases r with
 |fn f c a=>rw[f.id h.2,c.id h,a.id h]
 |nil a=>rw[a.id h]
 |collected r _=>rw[h.2 _ _ r]
 |EN a A h1 h2 h3 =>
  rw[h2,h1.id h];exact h3.elim Eq.symm λh1=>by have:=h1.1;rw[h.1] at this;cases this
def EP.id {S:Fu}{Ck:eH->Prop}{β:Ef}(h:KX S.LT β){o O:Obj}(r:EP S Ck β o O)(hn:∀c t f,o≠.cells c t f):o=O:=by
 cases r with
 |cells=>exact AH rfl (hn _ _ _)
 |loop p a b x d k=>rw[x.id h,h.2 _ _ d]
 |number o s l hb=>rw[h.2 _ _ hb]
 |taken=>rfl
 |defs l=>rw[l.id λ_ _=>Fx.id h]
structure EA (S:Fu)(Ck:eH->Prop)(G:Nat)(β:Ef)(w W:bW):Prop where
 Fl:β.E7 G
 room:G<=w.heap.size/\G<=W.heap.size
 FD:∀b B,β b B->S.LT b=bc->∃o O,w.heap[b]?=I o/\W.heap[B]?=I O/\EP S Ck β o O
 FU:∀b B,β b B->S.LT b=bs->w.heap[b]?=I (.coro bq)/\(S.LT.EX=bc->∃c t f,W.heap[B]?=I (.cells c t f))/\(S.LT.EX=bs->W.heap[B]?=I (.coro bq))
 old:∀b,S.LT b=bs->b<w.heap.size
 env:w.os.env=W.os.env
def Kd (n:Nat)(w W:bW):Prop:=∀i,i<n->∀q,w.tape (w.drawn+i) q=W.tape (W.drawn+i) q
inductive Rg:Mark->Prop
 |extern (f:gg):Rg (.extern f)
 |noRoom:Rg .noRoom
def Fo:Obj->Nat
 |.cells c _ _=>c.size+3
 |.coro bq=>1
 |_=>2
inductive P8 (β:Ef)(w:bW):ez->Prop
 |cell {a A:bA} {wr sy:Bool}:β a.Lo A.Lo->a.off=A.off->(∃n,(w.heap[a.Lo]?).map Fo=I (n+3)/\a.off<n)->(wr=bs->w.H a=bc)->P8 β w ⟨.cell A,wr,sy⟩
 |obj {r R:Nat} {wr sy:Bool}:β r R->(w.heap[r]?).map Fo=I 2->P8 β w ⟨.obj R,wr,sy⟩
 |mark {M:Mark} {wr sy:Bool}:Rg M->P8 β w ⟨.mark M,wr,sy⟩
 |out {wr sy:Bool}:P8 β w ⟨.output,wr,sy⟩
structure Fin (S:Fu)(Ck:eH->Prop)(G:Nat)(β DZ:Ef)(w W w' W':bW)(ES:List ez):Prop where
 le:β.le DZ
 rel:EA S Ck G DZ w' W'
 tape:w'.tape=w.tape
 TAPE:W'.tape=W.tape
 drawn:w.drawn<=w'.drawn
 draws:W'.drawn+w.drawn=W.drawn+w'.drawn
 os:w'.os=w.os
 OS:W'.os=W.os
 out:w'.output=w.output
 OUT:W'.output=W.output
 size:w.heap.size<=w'.heap.size
 SIZE:W.heap.size<=W'.heap.size
 new:∀b B,DZ b B->β b B\/(w.heap.size<=b/\W.heap.size<=B)
 NEW:∀B,W.heap.size<=B->B<W'.heap.size->∃b,DZ b B
 frozen:∀a:bA,a.Lo<w.heap.size->w'.H a=w.H a
 KEPT:∀B,B<W.heap.size->(∀b,¬β b B)->W'.heap[B]?=W.heap[B]?
 ro:∀b B c t f,β b B->w.heap[b]?=I (.cells c t f)->(∀i,i<c.size->f.1<=i/\i<f.2)->w'.heap[b]?=w.heap[b]?/\W'.heap[B]?=W.heap[B]?
 kind:∀b,b<w.heap.size->(w'.heap[b]?).map Fo=(w.heap[b]?).map Fo
 evs:S.LT.EX=bc->∀E∈ES,P8 DZ w' E
 same:KX S.LT β->w.heap=W.heap->KX S.LT DZ/\w'.heap=W'.heap
 hk:∀b B,β b B->S.LT b=bs->W'.heap[B]?=W.heap[B]?
section
variable {S:Fu} {Ck:eH->Prop} {G:Nat} {β DZ Qy:Ef} {w W w' W' w'' W'':bW} {ES ES':List ez}
def EA.lt (h:EA S Ck G β w W){b B:Nat}(hb:β b B):b<w.heap.size/\B<W.heap.size:=by
 cases hh:S.LT b with
 |false =>
  obtain⟨o,O,h1,h2,_⟩:=h.FD b B hb hh;exact⟨(AC.1 h1).1,(AC.1 h2).1⟩
 |true =>
  obtain⟨h1,h2,h3⟩:=h.FU b B hb hh;refine⟨(AC.1 h1).1,?_⟩;cases ht:S.LT.EX with
  |false=>obtain⟨c,t,f,h2⟩:=h2 ht;exact(AC.1 h2).1
  |true=>exact(AC.1 (h3 ht)).1
def Fin.refl (h:EA S Ck G β w W):Fin S Ck G β β w W w W [] where
 le:=β.le_refl
 rel:=h
 tape:=rfl
 TAPE:=rfl
 drawn:=AD _
 draws:=rfl
 os:=rfl
 OS:=rfl
 out:=rfl
 OUT:=rfl
 size:=AD _
 SIZE:=AD _
 new:=λ_ _ h=>.inl h
 NEW:=λB h1 h2=>AH h2 (by omega)
 frozen:=λ_ _=>rfl
 KEPT:=λ_ _ _=>rfl
 ro:=λ_ _ _ _ _ _ _ _=>⟨rfl,rfl⟩
 kind:=λ_ _=>rfl
 evs:=by simp
 same:=λh e=>⟨h,e⟩
 hk:=λ_ _ _ _=>rfl
def Fin.trans (h:Fin S Ck G β DZ w W w' W' ES)(k:Fin S Ck G DZ Qy w' W' w'' W'' ES'):Fin S Ck G β Qy w W w'' W'' (ES++ES') where
 le:=Ef.le_trans h.le k.le
 rel:=k.rel
 tape:=k.tape.trans h.tape
 TAPE:=k.TAPE.trans h.TAPE
 drawn:=AX h.drawn k.drawn
 draws:=by have:=h.draws;have:=k.draws;omega
 os:=k.os.trans h.os
 OS:=k.OS.trans h.OS
 out:=k.out.trans h.out
 OUT:=k.OUT.trans h.OUT
 size:=AX h.size k.size
 SIZE:=AX h.SIZE k.SIZE
 new:=λb B hb=>by
  obtain h1|⟨h1,h2⟩:=k.new b B hb
  .exact h.new b B h1
  .exact .inr ⟨AX h.size h1,AX h.SIZE h2⟩
 NEW:=λB h1 h2=>by
  by_cases hB:B<W'.heap.size
  .obtain⟨b,hb⟩:=h.NEW B h1 hB;exact⟨b,k.le _ _ hb⟩
  .exact k.NEW B (by omega) h2
 frozen:=λa ha=>(k.frozen a (AI ha h.size)).trans (h.frozen a ha)
 KEPT:=λB hB hn=>by
  refine(k.KEPT B (AI hB h.SIZE) (λb hb=>?_)).trans (h.KEPT B hB hn);obtain h1|⟨_,h2⟩:=h.new b B hb
  .exact hn b h1
  .omega
 ro:=λb B c t f hb hc hf=>by
  obtain⟨e1,e2⟩:=h.ro b B c t f hb hc hf;obtain⟨k1,k2⟩:=k.ro b B c t f (h.le _ _ hb) (e1.trans hc) hf;exact⟨k1.trans e1,k2.trans e2⟩
 kind:=λb hb=>(k.kind b (AI hb h.size)).trans (h.kind b hb)
 evs:=λht E hE=>by
  obtain hE|hE:=BK.1 hE
  .have:=h.evs ht E hE;cases this with
   |cell hb ho hc hw =>
    have hl:=(h.rel.lt hb).1;exact .cell (k.le _ _ hb) ho (let ⟨n,h1,h2⟩:=hc;⟨n,(k.kind _ hl).trans h1,h2⟩) (λe=>(k.frozen _ hl).trans (hw e))
   |obj hr hc=>exact .obj (k.le _ _ hr) ((k.kind _ (h.rel.lt hr).1).trans hc)
   |mark hm=>exact .mark hm
   |out=>exact .out
  .exact k.evs ht E hE
 same:=λi e=>let ⟨a,b⟩:=h.same i e;k.same a b
 hk:=λb B hb hh=>(k.hk b B (h.le _ _ hb) hh).trans (h.hk b B hb hh)
def Kd.rest {n:Nat}(h:Kd n w W)(k:Fin S Ck G β DZ w W w' W' ES):Kd (n-(w'.drawn-w.drawn)) w' W':=by
 intro i hi q;have h1:=k.drawn;have h2:=k.draws;have:=h (w'.drawn-w.drawn+i) (by omega) q;rw[k.tape,k.TAPE];rw[show w.drawn+(w'.drawn-w.drawn+i)=w'.drawn+i from by omega,show W.drawn+(w'.drawn-w.drawn+i)=W'.drawn+i from by omega] at this;exact this
end
def world {α:Type}:Result α->bW
 |.ok _ w=>w
 |.halt _ w=>w
def qJ {α:Type}:∀(a:Ask α) (w:bW),w.drawn<=(w.ask a).2.drawn:=by
 intro a
 induction a with
 |done a=>intro w;exact AD _
 |ask what range k ih =>
  intro w;simp only[World.ask];split
  .exact ih _ _
  .exact AX (e9 w.drawn) (ih _ { w with drawn:=w.drawn+1 })
def Nf (w:bW)(c:Sys):w.drawn<=(w.sys c).2.drawn:=by
 have h:=qJ (Kernel.perform c w.os) w;unfold World.sys;generalize w.ask (Kernel.perform c w.os)=r at h;obtain⟨⟨r,os⟩,w'⟩:=r;cases r<;>first|exact h|exact AD _
def jw {p:df}{w w':bW}{at_ k:bA}{u:bb}{v:J}{b:Bool}{l:List bA}(h:w.viewStore p at_ u k v b=.ok (w',l)):w'.drawn=w.drawn:=by
 unfold World.viewStore at h;simp only[bind,Except.bind,pure,Except.pure] at h
 repeat' (split at h)
 all_goals first|(cases h;rfl)|cases h
def ko {p:df}{w w':bW}{a:bA}{v:J}{b:Bool}{l:List bA}(h:w.farStore p a v b=.ok (w',l)):w'.drawn=w.drawn:=by
 unfold fl at h;split at h
 .split at h
  .rename_i r hr;cases h;exact jw hr
  .cases h
 .cases h
def dA {α:Type}(P:df)(md:Mode)(a:bA)(v:J)(k:Sem α)(w:bW)(es:Array ez)(h1:∀x,v≠.agg x)(h2:∀x,v≠.tuple x) :
  (Sem.store md a v k).L P w es=match w.L a with
   |some _=>if w.H a then(.halt (.unsupported (.unsafePointer "a write to bytes that a string shares")) w,es)
     else k.L P (w.LE a v) (es.push ⟨.cell a,bs,md==.atomic⟩)
   | none => match w.farStore P a v (md == .atomic) with
     |.ok (w,a6)=>k.L P w (es++a6.Li.map (⟨.cell ·,bs,md==.atomic⟩))
     |.error h=>(.halt h w,es):=by
 cases v<;>first|exact AH rfl (h1 _)|exact AH rfl (h2 _)|rfl
def GK {α:Type}(P:df)(m:Sem α):∀(w:bW) (es:Array ez),w.drawn<=(world (m.L P w es).1).drawn:=by
 induction m with
 |pure a=>intro w es;exact AD _
 |load md a k ih =>
  intro w es;simp only[bh];split
  .exact ih _ _ _
  .split
   .exact ih _ _ _
   .exact AD _
 |store md a v k ih =>
  intro w es;by_cases h1:∃x,v=.agg x
  .obtain⟨x,rfl⟩:=h1;exact AD _
  by_cases h2:∃x,v=.tuple x
  .obtain⟨x,rfl⟩:=h2;exact AD _
  rw[dA P md a v k w es (λx e=>h1 ⟨x,e⟩) (λx e=>h2 ⟨x,e⟩)];split
  .split
   .exact AD _
   .exact ih (w.LE a v) _
  .split
   .rename_i w' l hw;have:=ko hw;exact AX (B9 this.LT) (ih _ _)
   .exact AD _
 |new o k ih=>intro w es;exact ih _ { w with heap:=w.heap.push o } _
 |shape r k ih=>intro w es;exact ih _ _ _
 |freeze a n k ih=>intro w es;exact AX (by unfold World.freeze;split<;>exact AD _) (ih _ _)
 |frozen a k ih=>intro w es;exact ih _ _ _
 |getObj r k ih =>
  intro w es;simp only[bh];split
  .exact AD _
  .exact ih _ _ _
  .exact AD _
 |setObj r o k ih =>
  intro w es;simp only[bh];split
  .exact AD _
  .exact ih { w with heap:=w.heap.L r o } _
  .exact AD _
 |choose q k ih =>
  intro w es;simp only[bh];split
  .exact ih _ _ _
  .exact AX (e9 w.drawn) (ih _ { w with drawn:=w.drawn+1 } _)
 |sys c k ih=>intro w es;exact AX (Nf w c) (ih _ _ _)
 |program k ih=>intro w es;exact ih _ _ _
 |mark m k ih=>intro w es;exact ih _ _
 |halt h=>intro w es;exact AD _
def aj {α γ:Type}(P:df)(m:Sem α)(k:α->Sem γ):∀(w:bW) (es:Array ez),(m >>= k).L P w es =
  match m.L P w es with
  |(.ok a w',es')=>(k a).L P w' es'
  |(.halt h w',es')=>(.halt h w',es'):=by
 induction m with
 |pure a=>intro w es;rfl
 |load md a k' ih =>
  intro w es;show((Sem.load md a λv=>(k' v) >>= k)).L P w es=_;simp only[bh];split
  .exact ih _ _ _
  .split
   .exact ih _ _ _
   .rfl
 |store md a v k' ih =>
  intro w es;show((Sem.store md a v (k' >>= k))).L P w es=_;by_cases h1:∃x,v=.agg x
  .obtain⟨x,rfl⟩:=h1;rfl
  by_cases h2:∃x,v=.tuple x
  .obtain⟨x,rfl⟩:=h2;rfl
  rw[dA P md a v _ w es (λx e=>h1 ⟨x,e⟩) (λx e=>h2 ⟨x,e⟩),dA P md a v _ w es (λx e=>h1 ⟨x,e⟩) (λx e=>h2 ⟨x,e⟩)];split
  .split
   .rfl
   .exact ih _ _
  .split
   .exact ih _ _
   .rfl
 |new o k' ih=>intro w es;exact ih _ _ _
 |shape r k' ih=>intro w es;exact ih _ _ _
 |freeze a n k' ih=>intro w es;exact ih _ _
 |frozen a k' ih=>intro w es;exact ih _ _ _
 |getObj r k' ih =>
  intro w es;show((Sem.getObj r λv=>(k' v) >>= k)).L P w es=_;simp only[bh];split
  .rfl
  .exact ih _ _ _
  .rfl
 |setObj r o k' ih =>
  intro w es;show((Sem.setObj r o (k' >>= k))).L P w es=_;simp only[bh];split
  .rfl
  .exact ih _ _
  .rfl
 |choose q k' ih =>
  intro w es;show((Sem.choose q λv=>(k' v) >>= k)).L P w es=_;simp only[bh];split
  .exact ih _ _ _
  .exact ih _ _ _
 |sys c k' ih=>intro w es;exact ih _ _ _
 |program k' ih=>intro w es;exact ih _ _ _
 |mark m k' ih=>intro w es;exact ih _ _
 |halt h=>intro w es;rfl
section
variable (P:Er) (S:Fu) (Ck:eH->Prop) (G:Nat)
def Ends {α Hh:Type}(β:Ef)(w W:bW)(a6:Array ez)(R:Ef->α->Hh->Prop):Result α×Array ez->Result Hh×Array ez->Prop
 |(.ok a w',_),r=>∃DZ A W' ES,r=(.ok A W',a6++ES.Li)/\R DZ a A/\Fin S Ck G β DZ w W w' W' ES
 |(.halt (.panic v) w',_),r=>∃DZ V W' ES,r=(.halt (.panic V) W',a6++ES.Li)/\DX S DZ v V/\Fin S Ck G β DZ w W w' W' ES
 |(.halt (.stuck _) _,_),_=>True
 |(.halt (.unsupported u) _,_),_=>∀g,u≠.initOrder g
 |_,_=>False
def D8 {α Hh:Type}(β:Ef)(m:Sem α)(M:Sem Hh)(R:Ef->α->Hh->Prop):Prop :=
 ∀w W n,EA S Ck G β w W->Kd n w W->∀a6 a7,(world (m.L P.a w a6).1).drawn<=w.drawn+n ->
  Ends S Ck G β w W a7 R (m.L P.a w a6) (M.L P.b W a7)
end
section
variable {P:Er} {S:Fu} {Ck:eH->Prop} {G:Nat} {β:Ef} {α Hh γ γ':Type}
def DV {R:Ef->α->Hh->Prop}{a:α}{A:Hh}(h:R β a A):D8 P S Ck G β (pure a:Sem α) (pure A:Sem Hh) R:=by
 intro w W n hw ht a7 a6 _;exact⟨β,A,W,[],by show(cA A W,a6)=_;simp,h,Fin.refl hw⟩
def vC {R R':Ef->α->Hh->Prop}{m:Sem α}{M:Sem Hh}(h:D8 P S Ck G β m M R)(hr:∀DZ a A,β.le DZ->R DZ a A->R' DZ a A):D8 P S Ck G β m M R':=by
 intro w W n hw ht a6 a7 hb;have:=h w W n hw ht a6 a7 hb;revert this;generalize m.L P.a w a6=r;obtain⟨r,es'⟩:=r;cases r with
 |ok a w' =>
  rintro⟨DZ,A,W',ES,h1,h3,h4⟩;exact⟨DZ,A,W',ES,h1,hr _ _ _ h4.le h3,h4⟩
 |halt x w'=>cases x<;>exact id
def DT {R:Ef->α->Hh->Prop}{R':Ef->γ->γ'->Prop}{m:Sem α}{M:Sem Hh}{k:α->Sem γ}{K:Hh->Sem γ'}(h:D8 P S Ck G β m M R)
  (hk:∀DZ a A,β.le DZ->R DZ a A->D8 P S Ck G DZ (k a) (K A) R'):D8 P S Ck G β (m >>= k) (M >>= K) R':=by
 intro w W n hw ht aA aB hb;rw[aj] at hb ⊢;rw[aj];have hm:=h w W n hw ht aA aB;revert hb hm;generalize hr:m.L P.a w aA=r;obtain⟨r,a6⟩:=r;cases r with
 |ok a w1 =>
  intro hb hm;simp only at hb ⊢;have h1:=GK P.a (k a) w1 a6;obtain⟨a7,A,W1,ES,e1,e3,e4⟩:=hm (AX h1 hb);have hd:=e4.drawn;have h2:=hk a7 a A e4.le e3 w1 W1 (n-(w1.drawn-w.drawn)) e4.rel (ht.rest e4) a6 (aB++ES.Li) (by omega);rw[e1];simp only;revert h2;generalize (k a).L P.a w1 a6=r2;obtain⟨r2,es2⟩:=r2;cases r2 with
  |ok b w2 =>
   rintro⟨a8,B,W2,AA,f1,f3,f4⟩;exact⟨a8,B,W2,ES++AA,by rw[f1];simp,f3,e4.trans f4⟩
  |halt x w2 =>
   cases x with
   |panic v =>
    rintro⟨a8,B,W2,AA,f1,f3,f4⟩;exact⟨a8,B,W2,ES++AA,by rw[f1];simp,f3,e4.trans f4⟩
   |_=>exact id
 |halt x w1 =>
  intro hb hm;simp only at hb ⊢;have:=hm hb;cases x with
  |panic v =>
   obtain⟨a7,A,W1,ES,e1,e3,e4⟩:=this;exact⟨a7,A,W1,ES,by rw[e1],e3,e4⟩
  |_=>exact this
def D4 {R:Ef->α->Hh->Prop}{s:String}{M:Sem Hh}:D8 P S Ck G β (stuck s:Sem α) M R:=λ_ _ _ _ _ _ _ _=>trivial
def D7 {R:Ef->α->Hh->Prop}{u:Unsupported}{M:Sem Hh}(h:∀g,u≠.initOrder g):D8 P S Ck G β (b6 u:Sem α) M R:=λ_ _ _ _ _ _ _ _=>h
def dj {R:Ef->α->Hh->Prop}{v V:J}(h:DX S β v V):D8 P S Ck G β (goPanic v:Sem α) (goPanic V:Sem Hh) R:=by
 intro w W n hw ht a7 a6 _;exact⟨β,V,W,[],by show(Result.halt (.panic V) W,a6)=_;simp,h,Fin.refl hw⟩
def aN:D8 P S Ck G β program program (λ_ a A=>a=P.a/\A=P.b):=by
 intro w W n hw ht a7 a6 _;exact⟨β,P.b,W,[],by show(cA P.b W,a6)=_;simp,⟨rfl,rfl⟩,Fin.refl hw⟩
def ai (t:bb):D8 P S Ck G β (underlying t) (underlying t) (λ_ a A=>a=A/\P.a.LT t=I a):=by
 refine DT aN ?_;rintro DZ a A _ ⟨rfl,rfl⟩;rw[Er.LT];cases h:P.a.LT t with
 |none=>exact D4
 |some d=>exact DV ⟨rfl,rfl⟩
def be (t:bb):D8 P S Ck G β (ck t) (ck t) (λ_ a A=>a=A/\P.a.info? t=I a):=by
 refine DT aN ?_;rintro DZ a A _ ⟨rfl,rfl⟩;rw[DN];cases h:P.a.info? t with
 |none=>exact D4
 |some d=>exact DV ⟨rfl,rfl⟩
def aC (t:bb):D8 P S Ck G β (sizeOf t) (sizeOf t) (λ_ a A=>a=A):=by
 refine DT (be t) ?_;rintro DZ a A _ ⟨rfl,_⟩;exact DV rfl
def mf (t:bb):D8 P S Ck G β (isAgg t) (isAgg t) (λ_ a A=>a=A):=by
 refine DT (ai t) ?_;rintro DZ a A _ ⟨rfl,_⟩;split<;>exact DV rfl
def dE {v V:J}(h:DX S β v V):D8 P S Ck G β (asIntOf v) (asIntOf V) (λ_ a A=>a=A):=by
 cases h with
 |int k n=>exact DV rfl
 |ptr=>exact D7 (by simp)
 |_=>exact D4
def eU {v V:J}(h:DX S β v V):D8 P S Ck G β (asInt v) (asInt V) (λ_ a A=>a=A):=by
 refine DT (dE h) ?_;rintro DZ a A _ rfl;exact DV rfl
def gL {v V:J}(h:DX S β v V):D8 P S Ck G β (asBool v) (asBool V) (λ_ a A=>a=A):=by
 cases h with
 |bool b=>exact DV rfl
 |_=>exact D4
def th {v V:J}(h:DX S β v V):D8 P S Ck G β (asAgg v) (asAgg V) (λDZ a A=>D6 S DZ a A):=by
 cases h with
 |agg h1 h2=>exact DV ⟨h1,h2⟩
 |_=>exact D4
end
structure EY (β:Ef)(a A:bA):Prop where
 Lo:β a.Lo A.Lo
 off:a.off=A.off
 spot:a.spot=A.spot
def EY.LT {β DZ:Ef}(h:β.le DZ){a A:bA}(r:EY β a A):EY DZ a A:=⟨h _ _ r.Lo,r.off,r.spot⟩
def EY.add {β:Ef}{a A:bA}(r:EY β a A)(n:Nat):EY β (a.add n) (A.add n):=by
 unfold Addr.add;split
 .exact r
 .exact⟨r.Lo,by simp[r.off],rfl⟩
def EY.ptr {S:Fu}{β:Ef}{a A:bA}(r:EY β a A):DX S β (.S (I a)) (.S (I A)):=by
 obtain⟨B,O,s'⟩:=A;obtain⟨h1,h2,h3⟩:=r;cases h2;cases h3;exact .ptr _ _ h1
def EY.sl {S:Fu}{β:Ef}{a A:bA}(r:EY β a A)(l c:Nat):DX S β (.slice (I a) l c) (.slice (I A) l c):=by
 obtain⟨B,O,s'⟩:=A;obtain⟨h1,h2,h3⟩:=r;cases h2;cases h3;exact .slice _ _ _ _ h1
def IB (a:bA)(v:J):Obj->Obj
 |.cells c elem frozen=>.cells (if a.spot.isSome then c else c.L a.off v) elem frozen
 |o=>o
def EC (w:bW)(a:bA)(v:J)(b:Nat):(w.LE a v).heap[b]?=if b=a.Lo then(w.heap[b]?).map (IB a v) else w.heap[b]?:=by
 have e:w.LE a v={ w with heap:=w.heap.modify a.Lo (IB a v) }:=by
  unfold eC;congr 2
 rw[e];simp only;rw[Bv];by_cases h:b=a.Lo
 .subst h;simp
 .rw[AE (λe=>h e.LT),AE h]
def bj (w:bW)(a:bA)(v:J):(w.LE a v).heap.size=w.heap.size:=by simp[eC]
def QC (i:Nat):Obj->Bool
 |.cells _ _ r=>decide (r.1<=i)&&decide (i<r.2)
 |_=>bc
def aY (w:bW)(x:bA):w.H x=((w.heap[x.Lo]?).map (QC x.off)).LE false:=by
 unfold eF;cases w.heap[x.Lo]? with
 |none=>rfl
 |some o=>cases o<;>rfl
def vD (a:bA)(v:J)(i:Nat)(o:Obj):QC i (IB a v o)=QC i o:=by cases o<;>rfl
def fL (w:bW)(a:bA)(v:J)(x:bA):(w.LE a v).H x=w.H x:=by
 rw[aY,aY,EC];split
 .cases w.heap[x.Lo]? with
  |none=>rfl
  |some o=>simp[vD]
 .rfl
section
variable {P:Er} {S:Fu} {Ck:eH->Prop} {G:Nat} {β:Ef}
def EA.cell {w W:bW}(hw:EA S Ck G β w W){a A:bA}(h:EY β a A){v:J}(hc:w.L a=I v) :
  ∃c C t f F,w.heap[a.Lo]?=I (.cells c t f)/\W.heap[A.Lo]?=I (.cells C t F)/\D6 S β c C/\(∀i,F.1<=i->i<F.2->f.1<=i/\i<f.2) /\
   a.spot=bq/\a.off<c.size/\c[a.off]?=I v/\∃V,W.L A=I V/\DX S β v V:=by
 unfold gB at hc;cases hh:S.LT a.Lo with
 |true=>rw[(hw.FU _ _ h.Lo hh).1] at hc;cases hc
 |false =>
  obtain⟨o,O,h1,h2,h3⟩:=hw.FD _ _ h.Lo hh;rw[h1] at hc;cases h3 with
  |cells ha hf =>
   rename_i c C t f F;simp only at hc;have hs:a.spot=none:=by
    cases hs:a.spot with
    |none=>rfl
    |some s=>rw[hs] at hc;simp at hc
   rw[hs] at hc;simp at hc;obtain⟨V,hV,hr⟩:=ha.get? hc;refine⟨c,C,t,f,F,h1,h2,ha,hf,hs,(AC.1 hc).1,hc,V,?_,hr⟩;unfold gB;rw[h2];simp only[<-h.spot,hs,<-h.off];simpa using hV
  |_=>simp at hc
def MQ {w W:bW}(hw:EA S Ck G β w W){a A:bA}(h:EY β a A):(∀b,∃s,w.farLoad P.a a b=.error (.stuck s))/\(∀v b,∃s,w.farStore P.a a v b=.error (.stuck s)):=by
 unfold World.farLoad fl World.noCell;cases hh:S.LT a.Lo with
 |true =>
  rw[(hw.FU _ _ h.Lo hh).1];exact⟨λ_=>⟨_,rfl⟩,λ_ _=>⟨_,rfl⟩⟩
 |false =>
  obtain⟨o,O,h1,h2,h3⟩:=hw.FD _ _ h.Lo hh;rw[h1];cases h3<;>exact⟨λ_=>⟨_,rfl⟩,λ_ _=>⟨_,rfl⟩⟩
def iH {a A:bA}(h:EY β a A)(m:Mode):D8 P S Ck G β (ek a m) (ek A m) (λDZ v V=>DX S DZ v V):=by
 intro w W n hw ht a6 a7 _;cases hc:w.L a with
 |none =>
  obtain⟨s,hs⟩:=(MQ (P:=P) hw h).1 (m==.atomic);have:(ek a m).L P.a w a6=(.halt (.stuck s) w,a6):=by simp only[ek,bh,hc,hs]
  rw[this];trivial
 |some v =>
  obtain⟨c,C,t,f,F,h1,h2,h3,h4,h5,h6,h7,V,h8,h9⟩:=hw.cell h hc;have e1:(ek a m).L P.a w a6=(.ok v w,a6.push ⟨.cell a,bc,m==.atomic⟩):=by simp only[ek,bh,hc]
  have e2:(ek A m).L P.b W a7=(.ok V W,a7.push ⟨.cell A,bc,m==.atomic⟩):=by simp only[ek,bh,h8]
  rw[e1,e2];refine⟨β,V,W,[⟨.cell A,bc,m==.atomic⟩],by simp,h9,{ Fin.refl hw with evs:=?_ }⟩;intro _ E hE;cases Cg.1 hE;exact .cell h.Lo h.off ⟨c.size,by rw[h1];rfl,h6⟩ (λe=>by cases e)
def jc {a A:bA}(h:EY β a A)(m:Mode){v V:J}(hv:DX S β v V):D8 P S Ck G β (gR a v m) (gR A V m) (λ_ _ _=>True):=by
 intro w W n hw ht a8 a7 _;by_cases h1:∃x,v=.agg x
 .obtain⟨x,rfl⟩:=h1;trivial
 by_cases h2:∃x,v=.tuple x
 .obtain⟨x,rfl⟩:=h2;trivial
 have h1':∀x,V≠.agg x:=λx e=>by subst e;cases hv with
  |agg=>exact h1 ⟨_,rfl⟩
  |blank _ h=>cases h
 have aA:∀x,V≠.tuple x:=λx e=>by subst e;cases hv with
  |tuple=>exact h2 ⟨_,rfl⟩
  |blank _ h=>cases h
 have r1:=dA P.a m a v (.pure ()) w a8 (λx e=>h1 ⟨x,e⟩) (λx e=>h2 ⟨x,e⟩);have r2:=dA P.b m A V (.pure ()) W a7 h1' aA;unfold gR;rw[r1,r2];cases hc:w.L a with
 |none =>
  obtain⟨s,hs⟩:=(MQ (P:=P) hw h).2 v (m==.atomic);simp only[hs];trivial
 |some x =>
  obtain⟨c,C,t,f,F,g1,g2,g3,g4,g5,g6,g7,X,g8,g9⟩:=hw.cell h hc;simp only[g8];by_cases hz:w.H a=bs
  .rw[AJ hz];exact λg e=>by cases e
  .rw[AE hz];have hZ:¬W.H A=true:=by
    unfold eF at hz ⊢;rw[g1] at hz;rw[g2];simp only[AO,decide_eq_true_eq] at hz ⊢;rw[<-h.off];exact λ⟨p,q⟩=>hz (g4 _ p q)
   rw[AE hZ];refine⟨β,(),W.LE A V,[⟨.cell A,bs,m==.atomic⟩],by show(cA () _,a7.push _)=_;simp,trivial,?_⟩;have ww:∀b B,β b B->(b=a.Lo↔B=A.Lo):=λb B hb=>⟨λe=>hw.Fl.fn (e▸hb) h.Lo,λe=>hw.Fl.inj hb (e▸h.Lo)⟩;have nh:S.LT a.Lo=false:=by
    cases hh:S.LT a.Lo with
    |false=>rfl
    |true=>rw[(hw.FU _ _ h.Lo hh).1] at g1;cases g1
   have hrel:EA S Ck G β (w.LE a v) (W.LE A V):=by
    refine⟨hw.Fl,by rw[bj,bj];exact hw.room,λb B hb hh=>?_,λb B hb hh=>?_,λb hb=>by rw[bj];exact hw.old b hb,hw.env⟩
    .obtain⟨o,O,k1,k2,k3⟩:=hw.FD b B hb hh;rw[EC,EC];by_cases e:b=a.Lo
     .have E:=(ww b B hb).1 e;subst e;subst E;rw[g1] at k1;cases k1;rw[g2] at k2;cases k2;rw[g1,g2];have hs:A.spot=none:=by rw[<-h.spot];exact g5
      refine⟨_,_,by rw[AJ rfl];rfl,by rw[AJ rfl];rfl,?_⟩;simp only[IB,g5,hs,h.off];exact .cells (g3.SS _ hv) g4
     .have E:¬B=A.Lo:=λE=>e ((ww b B hb).2 E);exact⟨o,O,by rw[AE e];exact k1,by rw[AE E];exact k2,k3⟩
    .have e:¬b=a.Lo:=λe=>by subst e;rw[nh] at hh;cases hh
     have E:¬B=A.Lo:=λE=>e ((ww b B hb).2 E);rw[EC,EC,AE e,AE E];exact hw.FU b B hb hh
   have aB:¬(∀i,i<c.size->f.1<=i/\i<f.2):=λhf=>by
    obtain⟨p,q⟩:=hf _ g6;unfold eF at hz;rw[g1] at hz;exact hz (by simp[p,q])
   have a6:∀b,((w.LE a v).heap[b]?).map Fo=(w.heap[b]?).map Fo:=λb=>by
    rw[EC];split
    .cases w.heap[b]? with
     |none=>rfl
     |some o=>cases o<;>first|rfl|(simp only[IB,Fo,BT];split<;>simp)
    .rfl
   exact {
    le:=β.le_refl
    rel:=hrel
    tape:=rfl
    TAPE:=rfl
    drawn:=AD _
    draws:=rfl
    os:=rfl
    OS:=rfl
    out:=rfl
    OUT:=rfl
    size:=by rw[bj];exact AD _
    SIZE:=by rw[bj];exact AD _
    new:=λ_ _ h=>.inl h
    NEW:=λB h1 h2=>AH h2 (by rw[bj];omega)
    frozen:=λx _=>fL w a v x
    KEPT:=λB _ hn=>by rw[EC,AE (λe=>hn _ (e▸h.Lo))]
    ro:=λb B c' t' f' hb hc' hf'=>by
     by_cases e:b=a.Lo
     .subst e;rw[g1] at hc';cases hc';exact AH hf' aB
     .have E:¬B=A.Lo:=λE=>e ((ww b B hb).2 E);exact⟨by rw[EC,AE e],by rw[EC,AE E]⟩
    kind:=λb _=>a6 b
    evs:=λ_ E hE=>by
     cases Cg.1 hE
     exact .cell h.Lo h.off ⟨c.size,by rw[a6,g1];rfl,g6⟩ (λ_=>by rw[fL];simpa using hz)
    same:=λi e=>by
     have ea:a=A:=by
      obtain⟨b1,o1,s1⟩:=a;obtain⟨b2,o2,s2⟩:=A;obtain⟨q1,q2,q3⟩:=h;cases q2;cases q3;have q4:b1=b2:=i.2 _ _ q1;rw[q4]
     have ev:v=V:=hv.id i;subst ea ev;exact⟨i,by simp only[eC,e]⟩
    hk:=λb B hb hh=>by
     have e:¬b=a.Lo:=λe=>by subst e;rw[nh] at hh;cases hh
     have E:¬B=A.Lo:=λE=>e ((ww b B hb).2 E)
     rw[EC,AE E] }
def bJ (w:bW)(o:Obj)(b:Nat):({ w with heap:=w.heap.push o }:bW).heap[b]?=if b=w.heap.size then I o else w.heap[b]?:=by
 simp only[Ce]
def jB {o O:Obj}(h:EP S Ck β o O)(hid:KX S.LT β->o=O):D8 P S Ck G β (newObj o) (newObj O) (λDZ b B=>DZ b B/\S.LT b=bc):=by
 intro w W n hw ht a6 a7 _;have e1:(newObj o).L P.a w a6=(.ok w.heap.size { w with heap:=w.heap.push o },a6):=rfl;have e2:(newObj O).L P.b W a7=(.ok W.heap.size { W with heap:=W.heap.push O },a7):=rfl;rw[e1,e2];have hG:=hw.room;have nh:S.LT w.heap.size=false:=by
  cases hh:S.LT w.heap.size with
  |false=>rfl
  |true=>have:=hw.old _ hh;omega
 let DZ:Ef:=λb B=>β b B\/(b=w.heap.size/\B=W.heap.size)
 have le:β.le DZ:=λb B h=>.inl h;have Fl:DZ.E7 G:=by
  refine⟨?_,?_,?_⟩
  .rintro b B B' (h1|⟨rfl,rfl⟩) (h2|⟨h2,rfl⟩)
   .exact hw.Fl.fn h1 h2
   .exact AH (hw.lt h1).1 (by omega)
   .exact AH (hw.lt h2).1 (by omega)
   .rfl
  .rintro b b' B (h1|⟨rfl,rfl⟩) (h2|⟨rfl,h2⟩)
   .exact hw.Fl.inj h1 h2
   .exact AH (hw.lt h1).2 (by omega)
   .exact AH (hw.lt h2).2 (by omega)
   .rfl
  .rintro b B (h1|⟨rfl,rfl⟩)
   .exact hw.Fl.lo h1
   .exact hG
 have rel:EA S Ck G DZ { w with heap:=w.heap.push o } { W with heap:=W.heap.push O }:=by
  refine⟨Fl,by simp;omega,?_,?_,λb hb=>by have:=hw.old b hb;simp;omega,hw.env⟩
  .rintro b B (hb|⟨rfl,rfl⟩) hh
   .obtain⟨x,X,k1,k2,k3⟩:=hw.FD b B hb hh;have:=hw.lt hb;exact⟨x,X,by rw[bJ,AE (by omega)];exact k1,by rw[bJ,AE (by omega)];exact k2,k3.LT le⟩
   .exact⟨o,O,by rw[bJ,AJ rfl],by rw[bJ,AJ rfl],h.LT le⟩
  .rintro b B (hb|⟨rfl,rfl⟩) hh
   .have:=hw.lt hb;rw[bJ,bJ,AE (by omega),AE (by omega)];exact hw.FU b B hb hh
   .rw[nh] at hh;cases hh
 refine⟨DZ,W.heap.size,_,[],by simp,⟨.inr ⟨rfl,rfl⟩,nh⟩,{
  le:=le
  rel:=rel
  tape:=rfl
  TAPE:=rfl
  drawn:=AD _
  draws:=rfl
  os:=rfl
  OS:=rfl
  out:=rfl
  OUT:=rfl
  size:=by simp
  SIZE:=by simp
  new:=?_
  NEW:=λB h1 h2=>⟨w.heap.size,.inr ⟨rfl,by simp at h2;omega⟩⟩
  frozen:=λx hx=>by rw[aY,aY,bJ,AE (by omega)]
  KEPT:=λB hB _=>by rw[bJ,AE (by omega)]
  ro:=λb B c t f hb _ _=>by have:=hw.lt hb;rw[bJ,bJ,AE (by omega),AE (by omega)];exact⟨rfl,rfl⟩
  kind:=λb hb=>by rw[bJ,AE (by omega)]
  evs:=by simp
  same:=λi e=>⟨⟨i.1,by
   rintro b B (hb|⟨rfl,rfl⟩)
   .exact i.2 b B hb
   .rw[e]⟩,by rw[e,hid i]⟩
  hk:=λb B hb _=>by have:=(hw.lt hb).2;rw[bJ,AE (by omega)] }⟩
 rintro b B (hb|⟨rfl,rfl⟩)
 .exact .inl hb
 .exact .inr ⟨AD _,AD _⟩
def jd {b B:Nat}(h:β b B):D8 P S Ck G β (di b) (di B) (λ_ x X=>x=X\/x=bq):=by
 intro w W n hw ht a6 a7 _;have e1:(di b).L P.a w a6=(.ok (w.T b) w,a6):=rfl;have e2:(di B).L P.b W a7=(.ok (W.T B) W,a7):=rfl;rw[e1,e2];refine⟨β,W.T B,W,[],by simp,?_,Fin.refl hw⟩;unfold cf;cases hh:S.LT b with
 |true=>rw[(hw.FU _ _ h hh).1];exact .inr rfl
 |false =>
  obtain⟨o,O,k1,k2,k3⟩:=hw.FD b B h hh;rw[k1,k2];cases k3 with
  |cells ha _=>exact .inl (by simp[ha.size])
  |_=>exact .inl rfl
def kR {b B:Nat}(h:β b B)(hh:S.LT b=bc):D8 P S Ck G β (di b) (di B) (λ_ x X=>x=X):=by
 intro w W n hw ht a6 a7 _;have e1:(di b).L P.a w a6=(.ok (w.T b) w,a6):=rfl;have e2:(di B).L P.b W a7=(.ok (W.T B) W,a7):=rfl;rw[e1,e2];refine⟨β,W.T B,W,[],by simp,?_,Fin.refl hw⟩;unfold cf;obtain⟨o,O,k1,k2,k3⟩:=hw.FD b B h hh;rw[k1,k2];cases k3 with
 |cells ha _=>simp[ha.size]
 |_=>rfl
def fv (q:Question):D8 P S Ck G β (cq q) (cq q) (λ_ x X=>x=X):=by
 intro w W n hw ht a6 a7 hb;by_cases hq:q.forced=bs
 .have e1:(cq q).L P.a w a6=(.ok 0 w,a6):=by simp only[cq,bh,hq,if_true]
  have e2:(cq q).L P.b W a7=(.ok 0 W,a7):=by simp only[cq,bh,hq,if_true]
  rw[e1,e2];exact⟨β,0,W,[],by simp,rfl,Fin.refl hw⟩
 .have e1:(cq q).L P.a w a6=(.ok (q.cut (w.tape w.drawn q)) { w with drawn:=w.drawn+1 },a6):=by simp only[cq,bh,AE hq]
  have e2:(cq q).L P.b W a7=(.ok (q.cut (W.tape W.drawn q)) { W with drawn:=W.drawn+1 },a7):=by simp only[cq,bh,AE hq]
  rw[e1] at hb;rw[e1,e2];have:w.tape w.drawn q=W.tape W.drawn q:=by
   have:=ht 0 (by simp only[world] at hb;omega) q;simpa using this
  refine⟨β,q.cut (W.tape W.drawn q),{ W with drawn:=W.drawn+1 },[],by simp,by rw[this],{ Fin.refl hw with evs:=by simp,rel:=⟨hw.Fl,hw.room,hw.FD,hw.FU,hw.old,hw.env⟩,drawn:=e9 _,draws:=?_,same:=λi e=>⟨i,e⟩,hk:=λ_ _ _ _=>rfl,.. }⟩
  .show W.drawn+1+w.drawn=W.drawn+(w.drawn+1);omega
def qV:D8 P S Ck G β (mark .noRoom) (mark .noRoom) (λ_ _ _=>True):=by
 intro w W n hw ht a6 a7 _;have e1:(mark .noRoom).L P.a w a6=(.ok () w,a6.push ⟨.mark .noRoom,bc,bs⟩):=rfl;have e2:(mark .noRoom).L P.b W a7=(.ok () W,a7.push ⟨.mark .noRoom,bc,bs⟩):=rfl;rw[e1,e2];exact⟨β,(),W,[⟨.mark .noRoom,bc,bs⟩],by simp,trivial,{ Fin.refl hw with evs:=λ_ E hE=>by cases Cg.1 hE;exact .mark .noRoom }⟩
def fw {r R:Nat}(h:β r R)(hh:S.LT r=bc):D8 P S Ck G β (b5 r) (b5 R) (λDZ o O=>EP S Ck DZ o O):=by
 intro w W n hw ht a6 a7 _;obtain⟨o,O,k1,k2,k3⟩:=hw.FD r R h hh;have key:∀(hk:Fo o=2),(∀c t f,o≠.cells c t f)->(∀c t f,O≠.cells c t f)->Ends S Ck G β w W a7 (λDZ o O=>EP S Ck DZ o O) ((b5 r).L P.a w a6) ((b5 R).L P.b W a7):=by
  intro hk h1 h2;have e1:(b5 r).L P.a w a6=(.ok o w,a6.push ⟨.obj r,bc,o.isChan⟩):=by
   simp only[b5,bh,k1]
  have e2:(b5 R).L P.b W a7=(.ok O W,a7.push ⟨.obj R,bc,O.isChan⟩):=by
   simp only[b5,bh,k2]
  rw[e1,e2];exact⟨β,O,W,[⟨.obj R,bc,O.isChan⟩],by simp,k3,{ Fin.refl hw with evs:=λ_ E hE=>by cases Cg.1 hE;exact .obj h (by rw[k1];simp[hk]) }⟩
 cases k3 with
 |cells a f =>
  have:(b5 r).L P.a w a6=(.halt (.stuck "getObj: a row of cells") w,a6):=by simp only[b5,bh,k1]
  rw[this];trivial
 |loop=>exact key rfl (by simp) (by simp)
 |number=>exact key rfl (by simp) (by simp)
 |taken=>exact key rfl (by simp) (by simp)
 |defs=>exact key rfl (by simp) (by simp)
def aQ (w:bW)(r:Nat)(o:Obj)(b:Nat)(h:r<w.heap.size):({ w with heap:=w.heap.L r o }:bW).heap[b]?=if b=r then I o else w.heap[b]?:=by
 simp only;rw[B3];by_cases e:r=b
 .subst e;simp[h]
 .rw[AE e,AE (λx=>e x.LT)]
def fy {r R:Nat}(h:β r R)(hh:S.LT r=bc){o O:Obj}(ho:EP S Ck β o O)(hk:Fo o=2):D8 P S Ck G β (cu r o) (cu R O) (λ_ _ _=>True):=by
 intro w W n hw ht a7 a8 _;obtain⟨x,X,k1,k2,k3⟩:=hw.FD r R h hh;have lt:=hw.lt h;have hn:∀c t f,o≠.cells c t f:=λc t f e=>by subst e;simp[Fo] at hk
 have key:Fo x=2->(∀c t f,x≠.cells c t f)->(∀c t f,X≠.cells c t f)->Ends S Ck G β w W a8 (λ_ _ _=>True) ((cu r o).L P.a w a7) ((cu R O).L P.b W a8):=by
  intro hx h1 h2;have e1:(cu r o).L P.a w a7=(.ok () { w with heap:=w.heap.L r o },a7.push ⟨.obj r,bs,o.isChan⟩):=by
   simp only[cu,bh,k1]
  have e2:(cu R O).L P.b W a8=(.ok () { W with heap:=W.heap.L R O },a8.push ⟨.obj R,bs,O.isChan⟩):=by
   simp only[cu,bh,k2]
  rw[e1,e2];have ww:∀b B,β b B->(b=r↔B=R):=λb B hb=>⟨λe=>hw.Fl.fn (e▸hb) h,λe=>hw.Fl.inj hb (e▸h)⟩;have aA:∀b,(({ w with heap:=w.heap.L r o }:bW).heap[b]?).map Fo=(w.heap[b]?).map Fo:=λb=>by
   rw[aQ _ _ _ _ lt.1];split
   .rename_i e;rw[e,k1];simp[hx,hk]
   .rfl
  refine⟨β,(),{ W with heap:=W.heap.L R O },[⟨.obj R,bs,O.isChan⟩],by simp,trivial,{
   le:=β.le_refl
   rel:=⟨hw.Fl,by simpa using hw.room,λb B hb a6=>?_,λb B hb a6=>?_,λb hb=>by have:=hw.old b hb;simpa using this,hw.env⟩
   tape:=rfl
   TAPE:=rfl
   drawn:=AD _
   draws:=rfl
   os:=rfl
   OS:=rfl
   out:=rfl
   OUT:=rfl
   size:=by simp
   SIZE:=by simp
   new:=λ_ _ h=>.inl h
   NEW:=λB h1 h2=>AH h2 (by simp;omega)
   frozen:=λa _=>?_
   KEPT:=λB hB hn=>by rw[aQ _ _ _ _ lt.2,AE (λe=>hn _ (e▸h))]
   ro:=λb B c t f hb hc _=>?_
   kind:=λb _=>aA b
   evs:=λ_ E hE=>by cases Cg.1 hE;exact .obj h (by rw[aA,k1];simp[hx])
   same:=λi e=>⟨i,by rw[e,i.2 _ _ h,ho.id i hn]⟩
   hk:=λb B hb a6=>by
    have e:¬b=r:=λe=>by subst e;rw[hh] at a6;cases a6
    have E:¬B=R:=λE=>e ((ww b B hb).2 E)
    rw[aQ _ _ _ _ lt.2,AE E] }⟩
  .obtain⟨y,Y,j1,j2,j3⟩:=hw.FD b B hb a6;by_cases e:b=r
   .have E:=(ww b B hb).1 e;exact⟨o,O,by rw[aQ _ _ _ _ lt.1,AJ e],by rw[aQ _ _ _ _ lt.2,AJ E],ho⟩
   .have E:¬B=R:=λE=>e ((ww b B hb).2 E);exact⟨y,Y,by rw[aQ _ _ _ _ lt.1,AE e];exact j1,by rw[aQ _ _ _ _ lt.2,AE E];exact j2,j3⟩
  .have e:¬b=r:=λe=>by subst e;rw[hh] at a6;cases a6
   have E:¬B=R:=λE=>e ((ww b B hb).2 E);rw[aQ _ _ _ _ lt.1,aQ _ _ _ _ lt.2,AE e,AE E];exact hw.FU b B hb a6
  .rw[aY,aY,aQ _ _ _ _ lt.1];split
   .rename_i e;rw[e,k1];cases x<;>cases o<;>first|exact AH rfl (h1 _ _ _)|exact AH rfl (hn _ _ _)|rfl
   .rfl
  .have e:¬b=r:=λe=>by subst e;rw[k1] at hc;cases hc;exact h1 _ _ _ rfl
   have E:¬B=R:=λE=>e ((ww b B hb).2 E);exact⟨by rw[aQ _ _ _ _ lt.1,AE e],by rw[aQ _ _ _ _ lt.2,AE E]⟩
 cases k3 with
 |cells a f =>
  have:(cu r o).L P.a w a7=(.halt (.stuck "setObj: a row of cells") w,a7):=by simp only[cu,bh,k1]
  rw[this];trivial
 |loop=>exact key rfl (by simp) (by simp)
 |number=>exact key rfl (by simp) (by simp)
 |taken=>exact key rfl (by simp) (by simp)
 |defs=>exact key rfl (by simp) (by simp)
end
def plain:Nat->J->Bool
 |0,_=>bc
 |_+1,.bool _|_+1,.int _ _|_+1,.string _|_+1,.S bq|_+1,.slice bq _ _|_+1,.nilFunc|_+1,.nilIface|_+1,.map bq|_+1,.chan bq=>bs
 |n+1,.agg cs=>cs.all (plain n)
 |n+1,.tuple cs=>cs.all (plain n)
 |_,_=>bc
def gM {S:Fu}{β:Ef}:∀ {n:Nat} {v:J},plain n v=bs->DX S β v v:=by
 intro n
 induction n with
 |zero=>intro v h;simp[plain] at h
 |succ n ih =>
  intro v h;cases v with
  |bool b=>exact .bool b
  |int k n=>exact .int k n
  |string s=>exact .string s
  |pointer a=>cases a with
   |none=>exact .He
   |some a=>simp[plain] at h
  |slice a l c=>cases a with
   |none=>exact .GA l c
   |some a=>simp[plain] at h
  |nilFunc=>exact .nilFunc
  |nilIface=>exact .nilIface
  |map r=>cases r with
   |none=>exact .GZ
   |some a=>simp[plain] at h
  |chan r=>cases r with
   |none=>exact .Gt
   |some a=>simp[plain] at h
  |agg cs =>
   simp only[plain,Bb] at h;exact .agg rfl λi v V h1 h2=>by rw[h1] at h2;cases h2;exact ih (h v (Bi h1))
  |tuple cs =>
   simp only[plain,Bb] at h;exact .tuple rfl λi v V h1 h2=>by rw[h1] at h2;cases h2;exact ih (h v (Bi h1))
  |_=>simp[plain] at h
def bF (P:df)(t:bb):Bool:=match P.info? t with
 |some i=>match i.zero with
  |some z=>plain 8 z
  |none=>bs
 |none=>bs
section
variable {P:Er} {S:Fu} {Ck:eH->Prop} {G:Nat} {β:Ef}
def bV {t:bb}(h:bF P.a t=bs):D8 P S Ck G β (zeroValue t) (zeroValue t) (λDZ v V=>v=V/\DX S DZ v V):=by
 refine DT (be t) ?_;rintro DZ a A _ ⟨rfl,hi⟩;unfold bF at h;rw[hi] at h;simp only at h;cases hz:a.zero with
 |none=>exact D7 (by simp)
 |some z=>rw[hz] at h;exact DV ⟨rfl,gM h⟩
def je {a A:bA}(h:EY β a A)(i n:Nat){acc a6:Array J}(a7:D6 S β acc a6) :
  D8 P S Ck G β (loadCellsFrom a i n acc) (loadCellsFrom A i n a6) (λDZ x X=>D6 S DZ x X):=by
 induction n generalizing β i acc a6 with
 |zero=>exact DV a7
 |succ n ih =>
  refine DT (iH (h.add i) .plain) ?_;intro DZ v V zX hv;exact ih (h.LT zX) _ ((a7.LT zX).push hv)
def gN {a A:bA}(h:EY β a A)(n:Nat):D8 P S Ck G β (loadCells a n) (loadCells A n) (λDZ x X=>D6 S DZ x X):=je h 0 n Di
def eu {a A:bA}(h:EY β a A){l L:List J}(hl:E3 (DX S β) l L)(i:Nat):D8 P S Ck G β (eT a l i) (eT A L i) (λ_ _ _=>True):=by
 induction l generalizing β i L with
 |nil=>cases hl;exact DV trivial
 |cons v l ih =>
  cases hl with
  |cons hv hr =>
   refine DT (jc (h.add i) .plain hv) ?_;intro DZ _ _ zX _;exact ih (h.LT zX) (hr.LT λ_ _=>DX.LT zX) _
def Dr {α:Type}{R:α->α->Prop}:∀ {l L:List α},l.L=L.L->(∀(i:Nat) (v V:α),l[i]?=I v->L[i]?=I V->R v V)->E3 R l L
 |[],[],_,_=>.nil
 |a::l,A::L,h,k=>.cons (k 0 a A rfl rfl) (Dr (by simpa using h) λi v V h1 h2=>k (i+1) v V (by simpa using h1) (by simpa using h2))
 |[],_::_,h,_=>by simp at h
 |_::_,[],h,_=>by simp at h
def D6.toList {x X:Array J}(r:D6 S β x X):E3 (DX S β) x.toList X.toList :=
 Dr (by simpa using r.size) λi v V h1 h2=>r.at_ i v V (by simpa using h1) (by simpa using h2)
def E3.get {α:Type}{R:α->α->Prop}{l L:List α}(h:E3 R l L):l.L=L.L/\∀(i:Nat) (v V:α),l[i]?=I v->L[i]?=I V->R v V:=by
 induction h with
 |nil=>exact⟨rfl,by simp⟩
 |cons ha _ ih =>
  refine⟨by simp[ih.1],λi v V h1 h2=>?_⟩;cases i with
  |zero=>simp at h1 h2;subst h1;subst h2;exact ha
  |succ i=>exact ih.2 i v V (by simpa using h1) (by simpa using h2)
def E3.Li {l L:List J}(h:E3 (DX S β) l L):D6 S β l.Li L.Li :=
 ⟨by simpa using h.get.1,λi v V h1 h2=>h.get.2 i v V (by simpa using h1) (by simpa using h2)⟩
def jC (t:bb){a A:bA}(h:EY β a A):D8 P S Ck G β (loadVar t a) (loadVar t A) (λDZ v V=>DX S DZ v V):=by
 refine DT (mf t) ?_;rintro DZ b _ zX rfl;split
 .refine DT (aC t) ?_;rintro a7 n _ a6 rfl;refine DT (gN ((h.LT zX).LT a6) n) ?_;intro a8 x X _ hx;exact DV hx.agg
 .exact iH (h.LT zX) _
def nG (t:bb){a A:bA}(h:EY β a A){v V:J}(hv:DX S β v V):D8 P S Ck G β (storeVar t a v) (storeVar t A V) (λ_ _ _=>True):=by
 refine DT (aC t) ?_;rintro DZ n _ zX rfl;rw[hv.cells.size];split
 .exact λ_ _ _ _ _ _ _ _=>trivial
 .exact eu (h.LT zX) (hv.LT zX).cells.toList 0
def fB (t:bb){c C:Array J}(h:D6 S β c C):D8 P S Ck G β (newRow t c) (newRow t C) (λDZ a A=>EY DZ a A):=by
 refine DT (jB (.cells h (λi h1 h2=>AH h2 (by simp))) (λi=>by rw[h.id i])) ?_;rintro DZ b B _ ⟨hb,_⟩;exact DV ⟨hb,rfl,rfl⟩
def gO (t:bb){v V:J}(h:DX S β v V):D8 P S Ck G β (newVar t v) (newVar t V) (λDZ a A=>EY DZ a A):=fB t h.cells
def cz (t:bb){c C:Array J}(h:D6 S β c C)(o:Nat):D8 P S Ck G β (part t c o) (part t C o) (λDZ v V=>DX S DZ v V):=by
 refine DT (mf t) ?_;rintro DZ b _ zX rfl;split
 .refine DT (aC t) ?_;rintro a7 n _ a6 rfl;exact DV (((h.LT zX).LT a6).extract _ _).agg
 .cases hc:c[o]? with
  |none=>exact D4
  |some v=>obtain⟨V,hV,hr⟩:=(h.LT zX).get? hc;rw[hV];exact DV hr
def cY {v V:J}(h:DX S β v V):D8 P S Ck G β (fo v) (fo V) (λDZ a A=>EY DZ a A):=by
 cases h with
 |ptr o s hb=>exact DV ⟨hb,rfl,rfl⟩
 |_=>exact D4
def aq {α Hh:Type}{R:Ef->α->Hh->Prop}(e:RuntimeError)(h:match e with|.bounds ..|.error _|.plain _|.nilDeref=>True|_=>False) :
  D8 P S Ck G β (bn e:Sem α) (bn e:Sem Hh) R:=by
 refine DT aN ?_;rintro DZ a A _ ⟨rfl,rfl⟩;cases e with
 |bounds x y s c =>
  refine dj (.iface _ (gM (n:=2) ?_));simp[plain]
 |error m=>exact dj (.iface _ (.string _))
 |plain m=>exact dj (.iface _ (.string _))
 |nilDeref=>exact dj (.iface _ (.string _))
 |typeAssertion i c a m=>exact h.elim
 |panicNil=>exact h.elim
 |unhashable t=>exact h.elim
def Fh {α Hh:Type}{R:Ef->α->Hh->Prop}(k:dS)(x y:Int)(c:fq):D8 P S Ck G β (dn k x y c:Sem α) (dn k x y c:Sem Hh) R:=by
 unfold dn;split
 .refine DT (R:=λ_ a A=>a=A) ?_ ?_
  .refine DT (fv _) ?_;rintro DZ a A _ rfl;exact DV rfl
  .rintro DZ a A _ rfl;exact aq (.bounds _ _ _ _) trivial
 .refine DT (DV (R:=λ_ a A=>a=A) rfl) ?_;rintro DZ a A _ rfl;exact aq (.bounds _ _ _ _) trivial
end
def kv (P:df)(s:bb)(i:Nat):Bool:=match P.LT s with
 |some (.struct fs)=>match fs[i]? with
  |some f=>match P.info? f.type with
   |some x=>x.size != 0
   |none=>bs
  |none=>bs
 |_=>bs
section
variable {P:Er} {S:Fu} {Ck:eH->Prop} {G:Nat} {β:Ef}
def py (t:bb):D8 P S Ck G β (sizeOf t) (sizeOf t) (λ_ a A=>a=A/\∃x,P.a.info? t=I x/\x.size=a):=by
 refine DT (be t) ?_;rintro DZ a A _ ⟨rfl,h⟩;exact DV ⟨rfl,_,h,rfl⟩
def lK {a A:bA}(h:EY β a A)(f:Field)(hf:∀x,P.a.info? f.type=I x->x.size≠0):D8 P S Ck G β (fieldPlace a f) (fieldPlace A f) (λDZ x X=>EY DZ x X):=by
 refine DT (py _) ?_;rintro DZ n _ zX ⟨rfl,x,h1,h2⟩;split
 .rename_i h0;exact AH (h2.trans h0) (hf x h1)
 .exact DV ((h.LT zX).add _)
def pz (s:bb){v V:J}(h:DX S β v V)(i:Nat)(hf:kv P.a s i=bs):D8 P S Ck G β (fx s v i) (fx s V i) (λDZ x X=>DX S DZ x X):=by
 refine DT (ai _) ?_;rintro DZ d _ zX ⟨rfl,hd⟩;split
 .rename_i fs;split
  .rename_i f he;refine DT (cY (h.LT zX)) ?_;intro a6 a A _ ha;refine DT (lK ha _ ?_) ?_
   .intro x hx;simp only[kv,hd,he,hx] at hf;simpa using hf
   .intro a7 x X _ hx;exact DV hx.ptr
  .exact D4
 .exact D4
def iI (t:bb)(k:dS)(i:Int)(base:Option bA)(len:Nat)(elem:bb):Sem Value:=do
 let a6:=len<=1&&(match<-underlying t with|.array ..=>bs|_=>bc)
 match base with
 |some a =>
  if 0<=i/\i<len then pure (.S (I (a.add (i.L*(<-sizeOf elem)))))
  else if a6 then b6 (.noEntry "op/indexAddr.an index out of range at an array of length 0 or 1 (ledger 616)")
  else dn k i len .index
 |none=>dn k i 0 .index
inductive IH (β:Ef):Option bA->Option bA->Prop
 |none:IH β bq bq
 |some {a A:bA}:EY β a A->IH β (I a) (I A)
def ge (t:bb)(k:dS)(i:Int){b B:Option bA}(hb:IH β b B)(len:Nat)(elem:bb):D8 P S Ck G β (iI t k i b len elem) (iI t k i B len elem) (λDZ y Y=>DX S DZ y Y):=by
 refine DT (ai _) ?_;rintro DZ d _ zX ⟨rfl,_⟩;dsimp only;cases hb with
 |none=>exact Fh _ _ _ _
 |some ha =>
  dsimp only;split
  .refine DT (aC _) ?_;rintro a7 n _ a6 rfl;exact DV (((ha.LT zX).LT a6).add _).ptr
  .cases d<;>dsimp only<;>split<;>first|exact Fh _ _ _ _|exact D7 (λg e=>by cases e)
def nH (t:bb)(k:dS)(i:Int){b B:bA}(elem:bb):D8 P S Ck G β (iI t k i (I b) 0 elem) (iI t k i (I B) 0 elem) (λDZ y Y=>DX S DZ y Y):=by
 refine DT (ai _) ?_;rintro DZ d _ zX ⟨rfl,_⟩;dsimp only;split
 .exfalso;omega
 .cases d<;>dsimp only<;>split<;>first|exact Fh _ _ _ _|exact D7 (λg e=>by cases e)
def pA (t:bb){v V x X:J}(h:DX S β v V)(hx:DX S β x X):D8 P S Ck G β (fz t v x) (fz t V X) (λDZ y Y=>DX S DZ y Y):=by
 refine DT (dE hx) ?_;rintro a8 ⟨k,i⟩ _ a6 rfl;refine DT (ai _) ?_;rintro aA d _ a7 ⟨rfl,_⟩;have h2:=(h.LT a6).LT a7;cases d with
 |array len elem =>
  refine DT (cY h2) ?_;intro aB a A _ ha;exact ge t k i (.some ha) len elem
 |slice elem =>
  cases h2 with
  |GA l c=>exact ge t k i .none l elem
  |slice o s l c hb=>exact ge t k i (.some (EY.mk (a:=⟨_,o,s⟩) (A:=⟨_,o,s⟩) hb rfl rfl)) l elem
  |E8 _=>exact nH t k i elem
  |_=>exact λ_ _ _ _ _ _ _ _=>trivial
 |_=>exact λ_ _ _ _ _ _ _ _=>trivial
def db {x X:J}(hx:DX S β x X)(y:Nat)(c:fq):D8 P S Ck G β (U x y c) (U X y c) (λ_ a A=>a=A):=by
 refine DT (dE hx) ?_;rintro a7 ⟨k,i⟩ _ a6 rfl;dsimp only;split
 .exact DV rfl
 .exact Fh _ _ _ _
inductive GF (S:Fu)(β:Ef):Option J->Option J->Prop
 |none:GF S β bq bq
 |some {a A:J}:DX S β a A->GF S β (I a) (I A)
def GF.LT {DZ:Ef}(h:β.le DZ){a A:Option J}(r:GF S β a A):GF S DZ a A:=by
 cases r with
 |none=>exact .none
 |some r=>exact .some (r.LT h)
def bX (sl:Bool)(len cap:Nat){l L h H m M:Option J}(hl:GF S β l L)(hh:GF S β h H)(hm:GF S β m M) :
  D8 P S Ck G β (b7 sl len cap l h m) (b7 sl len cap L H M) (λ_ a A=>a=A):=by
 unfold b7;have e1:m.isSome=M.isSome:=by cases hm<;>rfl
 have low : ∀ (DZ : Ef) (m' h' : Nat), β.le DZ -> D8 P S Ck G DZ (do
   let l<-match l with
    |some v=>U v h' (if m.isSome then .slice3C else .sliceB)
    |none=>pure 0
   pure (l,h',m')) (do
   let l<-match L with
    |some v=>U v h' (if M.isSome then .slice3C else .sliceB)
    |none=>pure 0
   pure (l,h',m')) (λ_ a A=>a=A):=by
  intro DZ m' h' zX;rw[e1];cases hl with
  |none=>exact DT (DV (R:=λ_ a A=>a=A) rfl) (by rintro a6 a _ _ rfl;exact DV rfl)
  |some hv=>exact DT (db (hv.LT zX) _ _) (by rintro a6 a _ _ rfl;exact DV rfl)
 have a7 : ∀ (DZ : Ef) (m' : Nat), β.le DZ -> D8 P S Ck G DZ (do
   let h'<-match h,m with
    |some v,I _=>U v m' .slice3B
    |some v,bq=>U v m' (if sl then .sliceAcap else .sliceAlen)
    |none,bq=>pure len
    |none,I _=>stuck "Slice: max without high"
   let l<-match l with
    |some v=>U v h' (if m.isSome then .slice3C else .sliceB)
    |none=>pure 0
   pure (l,h',m')) (do
   let h'<-match H,M with
    |some v,I _=>U v m' .slice3B
    |some v,bq=>U v m' (if sl then .sliceAcap else .sliceAlen)
    |none,bq=>pure len
    |none,I _=>stuck "Slice: max without high"
   let l<-match L with
    |some v=>U v h' (if M.isSome then .slice3C else .sliceB)
    |none=>pure 0
   pure (l,h',m')) (λ_ a A=>a=A):=by
  intro DZ m' zX;cases hm with
  |none =>
   cases hh with
   |none=>exact DT (DV (R:=λ_ a A=>a=A) rfl) (by rintro a6 a _ h2 rfl;exact low a6 _ _ (Ef.le_trans zX h2))
   |some hv=>exact DT (db (hv.LT zX) _ _) (by rintro a6 a _ h2 rfl;exact low a6 _ _ (Ef.le_trans zX h2))
  |some hw =>
   cases hh with
   |none=>exact λ_ _ _ _ _ _ _ _=>trivial
   |some hv=>exact DT (db (hv.LT zX) _ _) (by rintro a6 a _ h2 rfl;exact low a6 _ _ (Ef.le_trans zX h2))
 cases hm with
 |none=>exact DT (DV (R:=λ_ a A=>a=A) rfl) (by rintro a6 a _ h2 rfl;exact a7 a6 _ h2)
 |some hv=>exact DT (db hv _ _) (by rintro a6 a _ h2 rfl;exact a7 a6 _ h2)
def cQ {x X:J}(hx:DX S β x X)(c:fq):D8 P S Ck G β (U x 0 c) (U X 0 c) (λ_ a A=>a=0/\A=0):=by
 refine DT (dE hx) ?_;rintro a7 ⟨k,i⟩ _ a6 rfl;dsimp only;split
 .exact DV ⟨by omega,by omega⟩
 .exact Fh _ _ _ _
def jD (sl:Bool){l L h H m M:Option J}(hl:GF S β l L)(hh:GF S β h H)(hm:GF S β m M) :
  D8 P S Ck G β (b7 sl 0 0 l h m) (b7 sl 0 0 L H M) (λ_ a A=>a=(0,0,0)/\A=(0,0,0)):=by
 unfold b7;have e1:m.isSome=M.isSome:=by cases hm<;>rfl
 have low : ∀ (DZ : Ef), β.le DZ -> D8 P S Ck G DZ (do
   let l<-match l with
    |some v=>U v 0 (if m.isSome then .slice3C else .sliceB)
    |none=>pure 0
   pure (l,0,0)) (do
   let l<-match L with
    |some v=>U v 0 (if M.isSome then .slice3C else .sliceB)
    |none=>pure 0
   pure (l,0,0)) (λ_ a A=>a=(0,0,0)/\A=(0,0,0)):=by
  intro DZ zX;rw[e1];cases hl with
  |none=>exact DT (DV (R:=λ_ a A=>a=0/\A=0) ⟨rfl,rfl⟩) (by rintro a6 _ _ _ ⟨rfl,rfl⟩;exact DV ⟨rfl,rfl⟩)
  |some hv=>exact DT (cQ (hv.LT zX) _) (by rintro a6 _ _ _ ⟨rfl,rfl⟩;exact DV ⟨rfl,rfl⟩)
 have a7 : ∀ (DZ : Ef), β.le DZ -> D8 P S Ck G DZ (do
   let h'<-match h,m with
    |some v,I _=>U v 0 .slice3B
    |some v,bq=>U v 0 (if sl then .sliceAcap else .sliceAlen)
    |none,bq=>pure 0
    |none,I _=>stuck "Slice: max without high"
   let l<-match l with
    |some v=>U v h' (if m.isSome then .slice3C else .sliceB)
    |none=>pure 0
   pure (l,h',0)) (do
   let h'<-match H,M with
    |some v,I _=>U v 0 .slice3B
    |some v,bq=>U v 0 (if sl then .sliceAcap else .sliceAlen)
    |none,bq=>pure 0
    |none,I _=>stuck "Slice: max without high"
   let l<-match L with
    |some v=>U v h' (if M.isSome then .slice3C else .sliceB)
    |none=>pure 0
   pure (l,h',0)) (λ_ a A=>a=(0,0,0)/\A=(0,0,0)):=by
  intro DZ zX;cases hm with
  |none =>
   cases hh with
   |none=>exact DT (DV (R:=λ_ a A=>a=0/\A=0) ⟨rfl,rfl⟩) (by rintro a6 _ _ h2 ⟨rfl,rfl⟩;exact low a6 (Ef.le_trans zX h2))
   |some hv=>exact DT (cQ (hv.LT zX) _) (by rintro a6 _ _ h2 ⟨rfl,rfl⟩;exact low a6 (Ef.le_trans zX h2))
  |some hw =>
   cases hh with
   |none=>exact λ_ _ _ _ _ _ _ _=>trivial
   |some hv=>exact DT (cQ (hv.LT zX) _) (by rintro a6 _ _ h2 ⟨rfl,rfl⟩;exact low a6 (Ef.le_trans zX h2))
 cases hm with
 |none=>exact DT (DV (R:=λ_ a A=>a=0/\A=0) ⟨rfl,rfl⟩) (by rintro a6 _ _ h2 ⟨rfl,rfl⟩;exact a7 a6 h2)
 |some hv=>exact DT (cQ hv _) (by rintro a6 _ _ h2 ⟨rfl,rfl⟩;exact a7 a6 h2)
def ef {v V:J}(h:DX S β v V):D8 P S Ck G β (asAddr v) (asAddr V) (λDZ a A=>EY DZ a A):=by
 cases h with
 |ptr o s hb=>exact DV ⟨hb,rfl,rfl⟩
 |He=>exact aq .nilDeref trivial
 |_=>exact D4
def tj (t:bb){x X:J}(hx:DX S β x X){l L h H m M:Option J}(hl:GF S β l L)(hh:GF S β h H)(hm:GF S β m M) :
  D8 P S Ck G β (gU t x l h m) (gU t X L H M) (λDZ a A=>DX S DZ a A):=by
 refine DT (ai _) ?_;rintro aF d _ zX ⟨rfl,_⟩;have e1:m.isSome=M.isSome:=by cases hm<;>rfl
 replace hx:=hx.LT zX;cases d with
 |string =>
  cases hx with
  |string s =>
   dsimp only;rw[e1];split
   .exact λ_ _ _ _ _ _ _ _=>trivial
   .refine DT (bX _ _ _ (hl.LT zX) (hh.LT zX) .none) ?_;rintro a8 ⟨a,b,c⟩ _ _ rfl;exact DV (.string _)
  |_=>exact D4
 |slice e =>
  cases hx with
  |GA len cap =>
   refine DT (bX _ _ _ (hl.LT zX) (hh.LT zX) (hm.LT zX)) ?_;rintro a8 ⟨a,b,c⟩ _ _ rfl;refine DT (aC _) ?_;rintro aA n _ _ rfl;refine DV ?_;split
   .exact .GA _ _
   .exact .GA _ _
  |slice o s len cap hb =>
   refine DT (bX _ _ _ (hl.LT zX) (hh.LT zX) (hm.LT zX)) ?_;rintro a8 ⟨a,b,c⟩ _ a7 rfl;refine DT (aC _) ?_;rintro aA n _ a6 rfl;refine DV ?_;split
   .exact .slice _ _ _ _ (a6 _ _ (a7 _ _ hb))
   .exact EY.sl (EY.add (EY.mk (a:=⟨_,o,s⟩) (A:=⟨_,o,s⟩) (a6 _ _ (a7 _ _ hb)) rfl rfl) _) _ _
  |E8 h0 =>
   refine DT (jD _ (hl.LT zX) (hh.LT zX) (hm.LT zX)) ?_;rintro a8 _ _ a7 ⟨rfl,rfl⟩;refine DT (aC _) ?_;rintro aA n _ a6 rfl;exact DV (.E8 h0)
  |_=>exact D4
 |pointer arr =>
  refine DT (ef hx) ?_;intro a8 a A a7 ha;refine DT (ai _) ?_;rintro aA d _ a6 ⟨rfl,_⟩;cases d with
  |array n elem =>
   refine DT (bX _ _ _ ((((hl.LT zX).LT a7)).LT a6) ((((hh.LT zX).LT a7)).LT a6) ((((hm.LT zX).LT a7)).LT a6)) ?_;rintro aG ⟨a,b,c⟩ _ aB rfl;refine DT (aC _) ?_;rintro aH n _ aD rfl;have ha':=((ha.LT a6).LT aB).LT aD;refine DV ?_;split
   .exact ha'.sl _ _
   .exact(ha'.add _).sl _ _
  |_=>exact λ_ _ _ _ _ _ _ _=>trivial
 |_=>exact λ_ _ _ _ _ _ _ _=>trivial
def pB (t:bb){x X:J}(hx:DX S β x X){l L h H m M:Option J}(hl:GF S β l L)(hh:GF S β h H)(hm:GF S β m M) :
  D8 P S Ck G β (fA t x l h m) (fA t X L H M) (λDZ a A=>DX S DZ a A):=by
 refine DT (ai _) ?_;rintro aA d _ zX ⟨rfl,_⟩;cases d with
 |array n elem =>
  refine DT (cY (hx.LT zX)) ?_;intro aB a A a6 ha;refine DT (bX _ _ _ ((hl.LT zX).LT a6) ((hh.LT zX).LT a6) ((hm.LT zX).LT a6)) ?_;rintro aD ⟨a,b,c⟩ _ a7 rfl;refine DT (aC _) ?_;rintro aF n _ a8 rfl;have ha':=(ha.LT a7).LT a8;refine DV ?_;split
  .exact ha'.sl _ _
  .exact(ha'.add _).sl _ _
 |_=>exact tj t (hx.LT zX) (hl.LT zX) (hh.LT zX) (hm.LT zX)
def tn (t:bb){x X:J}(hx:DX S β x X)(i:Nat):D8 P S Ck G β (hP t x i) (hP t X i) (λDZ a A=>DX S DZ a A):=by
 refine DT (ai _) ?_;rintro a6 d _ zX ⟨rfl,_⟩;cases d with
 |struct fs =>
  dsimp only;split
  .refine DT (th (hx.LT zX)) ?_;intro a7 c C _ hc;exact cz _ hc _
  .exact D4
 |_=>exact λ_ _ _ _ _ _ _ _=>trivial
def tq (t:bb){v V x X:J}(h:DX S β v V)(hx:DX S β x X):D8 P S Ck G β (ik t v x) (ik t V X) (λDZ y Y=>DX S DZ y Y):=by
 refine DT (dE hx) ?_;rintro aA ⟨k,i⟩ _ a6 rfl;refine DT (ai _) ?_;rintro aB d _ a7 ⟨rfl,_⟩;have h2:=(h.LT a6).LT a7;cases d with
 |array len elem =>
  cases h2 with
  |agg h1 h2 =>
   dsimp only;split
   .refine DT (aC _) ?_;rintro aD n _ a8 rfl;exact cz _ (D6.LT a8 ⟨h1,h2⟩) _
   .exact Fh _ _ _ _
  |_=>exact D4
 |string =>
  cases h2 with
  |string s =>
   dsimp only;split
   .exact DV (.int _ _)
   .exact Fh _ _ _ _
  |_=>exact D4
 |_=>exact λ_ _ _ _ _ _ _ _=>trivial
def gP {α γ:Type}{f:α->Sem γ}(h:∀x β,D8 P S Ck G β (f x) (f x) (λ_ a A=>a=A)):∀(l:List α) (β:Ef),D8 P S Ck G β (l.mapM f) (l.mapM f) (λ_ a A=>a=A)
 |[],β=>by simp only[List.mapM_nil];exact DV rfl
 |x::l,β=>by
  simp only[List.mapM_cons];refine DT (h x β) ?_;rintro a6 a _ _ rfl;refine DT (gP h l a6) ?_;rintro a7 b _ _ rfl;exact DV rfl
end
section
variable {P:Er} {S:Fu} {Ck:eH->Prop} {G:Nat} {β:Ef}
inductive F0 (S:Fu)(β:Ef):List (Nat×J)->List (Nat×J)->Prop
 |nil:F0 S β [] []
 |cons {i:Nat} {v V:J} {l L:List (Nat×J)}:DX S β v V->F0 S β l L->F0 S β ((i,v)::l) ((i,V)::L)
def F0.LT {DZ:Ef}(h:β.le DZ){l L:List (Nat×J)}(r:F0 S β l L):F0 S DZ l L:=by
 induction r with
 |nil=>exact .nil
 |cons v _ ih=>exact .cons (v.LT h) ih
def vE {c C:Array J}{l L:List J}(off k:Nat)(hc:D6 S β c C)(hl:E3 (DX S β) l L) :
  D6 S β ((l.zipIdx k).foldl (λcs (x:J×Nat)=>cs.L (off+x.2) x.1) c) ((L.zipIdx k).foldl (λcs (x:J×Nat)=>cs.L (off+x.2) x.1) C):=by
 induction hl generalizing c C k with
 |nil=>exact hc
 |cons ha _ ih =>
  simp only[List.zipIdx_cons,Bg];exact ih _ (hc.SS _ ha)
inductive Mr (S:Fu)(β:Ef):Option (Array J)->Option (Array J)->Prop
 |none:Mr S β bq bq
 |some {a A:Array J}:D6 S β a A->Mr S β (I a) (I A)
def jf (place:Nat->Option (Nat×Nat)){l L:List (Nat×J)}(hl:F0 S β l L){c C:Array J}(hc:D6 S β c C) :
  Mr S β (b9 place c l) (b9 place C L):=by
 induction hl generalizing c C with
 |nil=>exact .some hc
 |@cons i v V l L hv _ ih =>
  simp only[b9];cases place i with
  |none=>exact .none
  |some os =>
   obtain⟨off,size⟩:=os;dsimp only;rw[hv.cells.size,hc.size];split
   .exact .none
   .refine ih ?_;have h1:=vE (S:=S) (β:=β) off 0 hc hv.cells.toList;have e:∀(w:J) (c:Array J),w.cells.zipIdx.foldl (λcs x=>match x with|(c,j)=>cs.L (off+j) c) c=(w.cells.toList.zipIdx 0).foldl (λcs (x:J×Nat)=>cs.L (off+x.2) x.1) c:=by
     intro w c;rw[<-C7];simp
    rw[e,e];exact h1
def tt (t:bb)(hz:bF P.a t=bs){l L:Array (Nat×J)}(hl:F0 S β l.toList L.toList):D8 P S Ck G β (jk t l) (jk t L) (λDZ a A=>DX S DZ a A):=by
 refine DT (bV hz) ?_;rintro aD z _ a8 ⟨rfl,hz⟩;refine DT (ai _) ?_;rintro aB d _ a7 ⟨rfl,_⟩;cases d with
 |struct fs =>
  refine DT (R:=λ_ a A=>a=A) ?_ ?_
  .rw[C2];have:=gP (P:=P) (S:=S) (Ck:=Ck) (G:=G) (f:=λ(f:Field)=>do pure (f.offset,<-sizeOf f.type)) (λx β=>DT (aC _) (by rintro aA n _ _ rfl;exact DV rfl)) fs.toList aB;exact DT this (by rintro aA n _ _ rfl;exact DV rfl)
  .rintro aA places _ a6 rfl;have h:=jf (λi=>places[i]?) ((hl.LT a8).LT a7 |>.LT a6) ((hz.LT a7).LT a6).cells;revert h;generalize b9 (λi=>places[i]?) z.cells l.toList=x;generalize b9 (λi=>places[i]?) z.cells L.toList=X;intro h;cases h with
   |none=>exact λ_ _ _ _ _ _ _ _=>trivial
   |some h=>exact DV h.agg
 |array n elem =>
  refine DT (aC _) ?_;rintro aA size _ a6 rfl;have h:=jf (λi=>I (i*size,size)) ((hl.LT a8).LT a7 |>.LT a6) ((hz.LT a7).LT a6).cells;revert h;generalize b9 (λi=>I (i*size,size)) z.cells l.toList=x;generalize b9 (λi=>I (i*size,size)) z.cells L.toList=X;intro h;cases h with
  |none=>exact λ_ _ _ _ _ _ _ _=>trivial
  |some h=>exact DV h.agg
 |_=>exact λ_ _ _ _ _ _ _ _=>trivial
def gQ {z:Array J}(h:D6 S β z z)(n:Nat):D6 S β ((b8 n).map (z[· % z.size]!)) ((b8 n).map (z[· % z.size]!)):=by
 refine D6.map _ λi _=>?_;by_cases hz:i % z.size<z.size
 .rw[getElem!_pos z _ hz];exact h.at_ _ _ _ (AL hz) (AL hz)
 .rw[getElem!_neg z _ hz];exact DX.bool bc
def lL (t:bb)(n:Nat)(hz:∀e,P.a.LT t=I (.slice e)->bF P.a e=bs){l L:Array (Nat×J)}(hl:F0 S β l.toList L.toList) :
  D8 P S Ck G β (e8 t n l) (e8 t n L) (λDZ a A=>DX S DZ a A):=by
 refine DT (ai _) ?_;rintro aD d _ a7 ⟨rfl,hd⟩;cases d with
 |slice e =>
  refine DT (aC _) ?_;rintro aB size _ a8 rfl
  have key : ∀ (DZ : Ef) (z : Array J), aB.le DZ -> D6 S DZ z z -> D8 P S Ck G DZ (do
    let I cells:=b9 (λi=>I (i*size,size)) ((b8 (n*size)).map (z[· % z.size]!)) l.toList
     |stuck "buildSlice: a part of the wrong size"
    pure (.slice (I (<-newRow e cells)) n n):Sem J) (do
    let I cells:=b9 (λi=>I (i*size,size)) ((b8 (n*size)).map (z[· % z.size]!)) L.toList
     |stuck "buildSlice: a part of the wrong size"
    pure (.slice (I (<-newRow e cells)) n n):Sem J) (λDZ a A=>DX S DZ a A):=by
   intro DZ z zX hz;have h:=jf (λi=>I (i*size,size)) ((hl.LT a7).LT a8 |>.LT zX) (gQ hz (n*size));revert h;generalize b9 (λi=>I (i*size,size)) ((b8 (n*size)).map (z[· % z.size]!)) l.toList=x;generalize b9 (λi=>I (i*size,size)) ((b8 (n*size)).map (z[· % z.size]!)) L.toList=X;intro h;cases h with
   |none=>exact λ_ _ _ _ _ _ _ _=>trivial
   |some h =>
    refine DT (fB e h) ?_;intro a6 a A _ ha;exact DV (ha.sl _ _)
  dsimp only;by_cases h1:n*size > 2 ^ 24
  .simp only[AJ h1];refine DT (R:=λ_ (_ _:Unit)=>False) ?_ (λ_ _ _ _ h=>h.elim);refine D7 ?_;intro g e;cases e
  .simp only[AE h1];by_cases h2:n*size=0
   .simp only[AJ h2];exact DT (DV (R:=λDZ (a A:Array J)=>a=A/\D6 S DZ a a) ⟨rfl,Di⟩) (by rintro a6 z _ zX ⟨rfl,h⟩;exact key _ _ zX h)
   .simp only[AE h2];refine DT (bV (hz e hd)) ?_;rintro a6 z _ aA ⟨rfl,h⟩;exact DT (DV (R:=λDZ (a A:Array J)=>a=A/\D6 S DZ a a) ⟨rfl,h.cells⟩) (by rintro aF z _ zX ⟨rfl,h⟩;exact key _ _ (Ef.le_trans aA zX) h)
 |_=>exact λ_ _ _ _ _ _ _ _=>trivial
def jE (n:Nat):D8 P S Ck G β (askRoom n) (askRoom n) (λ_ _ _=>True):=by
 unfold askRoom;split
 .exact qV
 .exact DV trivial
def mg (t:bb)(hz:∀e,P.a.LT t=I (.slice e)->bF P.a e=bs){l L c C:J}(hl:DX S β l L)(hc:DX S β c C) :
  D8 P S Ck G β (fc t l c) (fc t L C) (λDZ a A=>DX S DZ a A):=by
 refine DT (ai _) ?_;rintro aI d _ a6 ⟨rfl,hd⟩;cases d with
 |slice e =>
  refine DT (eU (hl.LT a6)) ?_;rintro aJ len _ aA rfl;refine DT (eU ((hc.LT a6).LT aA)) ?_;rintro a7 cap _ aB rfl;refine DT (be _) ?_;rintro aD info _ aF ⟨rfl,_⟩;dsimp only
  have key : ∀ DZ : Ef, D8 P S Ck G DZ (do
    askRoom ((IntKind.i64.wrap cap).L*info.bytes)
    let n:=(IntKind.i64.wrap cap).L*(<-sizeOf e)
    let zero<-if n=0 then pure #[] else do pure (<-zeroValue e).cells
    let a<-newRow e ((b8 n).map (zero[· % zero.size]!))
    pure (.slice (I a) (IntKind.i64.wrap len).L (IntKind.i64.wrap cap).L):Sem J) (do
    askRoom ((IntKind.i64.wrap cap).L*info.bytes)
    let n:=(IntKind.i64.wrap cap).L*(<-sizeOf e)
    let zero<-if n=0 then pure #[] else do pure (<-zeroValue e).cells
    let a<-newRow e ((b8 n).map (zero[· % zero.size]!))
    pure (.slice (I a) (IntKind.i64.wrap len).L (IntKind.i64.wrap cap).L):Sem J) (λDZ a A=>DX S DZ a A):=by
   intro DZ;refine DT (jE _) ?_;rintro aK _ _ aG _;refine DT (aC _) ?_;rintro β7 size _ aH rfl;dsimp only
   have fin : ∀ (DZ : Ef) (z : Array J), D6 S DZ z z -> D8 P S Ck G DZ (do
     let a<-newRow e ((b8 ((IntKind.i64.wrap cap).L*size)).map (z[· % z.size]!))
     pure (.slice (I a) (IntKind.i64.wrap len).L (IntKind.i64.wrap cap).L):Sem J) (do
     let a<-newRow e ((b8 ((IntKind.i64.wrap cap).L*size)).map (z[· % z.size]!))
     pure (.slice (I a) (IntKind.i64.wrap len).L (IntKind.i64.wrap cap).L):Sem J) (λDZ a A=>DX S DZ a A):=by
    intro DZ z h;refine DT (fB e (gQ h _)) ?_;intro a7 a A _ ha;exact DV (ha.sl _ _)
   split
   .exact DT (DV (R:=λDZ (a A:Array J)=>a=A/\D6 S DZ a a) ⟨rfl,Di⟩) (by rintro a7 z _ zX ⟨rfl,h⟩;exact fin _ _ h)
   .refine DT (bV (hz e hd)) ?_;rintro a7 z _ aB ⟨rfl,h⟩;exact DT (DV (R:=λDZ (a A:Array J)=>a=A/\D6 S DZ a a) ⟨rfl,h.cells⟩) (by rintro aD z _ zX ⟨rfl,h⟩;exact fin _ _ h)
  have a8:∀(DZ:Ef) (m:String) (k K:Unit->Sem J),D8 P S Ck G DZ (bn (.error m) >>= k) (bn (.error m) >>= K) (λDZ a A=>DX S DZ a A):=λDZ m k K=>by
   refine DT (R:=λ_ _ _=>False) (aq _ trivial) ?_;intro _ _ _ _ h;exact h.elim
  split
  .split
   .exact a8 _ _ _ _
   .split
    .exact a8 _ _ _ _
    .refine DT (fv _) ?_;rintro aL q _ _ rfl;exact a8 _ _ _ _
  .exact key _
 |_=>exact λ_ _ _ _ _ _ _ _=>trivial
def mh {v V:J}(h:DX S β v V):D8 P S Ck G β (ed v) (ed V) (λ_ a A=>a=A/\∀x,v=.slice (I x) 0 0->a=0):=by
 cases h with
 |string s=>exact DV ⟨rfl,λx e=>by cases e⟩
 |GA l c=>exact DV ⟨rfl,λx e=>by cases e⟩
 |slice o s l c hb=>exact DV ⟨rfl,λx e=>by cases e;rfl⟩
 |E8 _=>exact DV ⟨rfl,λ_ _=>rfl⟩
 |_=>exact D4
def dc (size n:Nat){v V:J}(h:DX S β v V)(h0:∀x,v=.slice (I x) 0 0->n=0):D8 P S Ck G β (N size n v) (N size n V) (λDZ a A=>D6 S DZ a A):=by
 cases h with
 | string s => exact DV ⟨rfl, fun i v V h1 h2 => by
   rw[h1] at h2;cases h2;rw[BF] at h1;cases hb:(s.extract 0 n).data[i]? with
   |none=>rw[hb] at h1;cases h1
   |some b=>rw[hb] at h1;cases h1;exact .int _ _⟩
 |GA l c=>exact DV Di
 |slice o s l c hb=>exact gN (EY.mk (a:=⟨_,o,s⟩) (A:=⟨_,o,s⟩) hb rfl rfl) _
 |E8 _ =>
  obtain rfl:=h0 _ rfl;unfold N;dsimp only;rw[e5];exact DV Di
 |_=>exact D4
def fM (size:Nat){v V:J}(h:DX S β v V):D8 P S Ck G β (N size 0 v) (N size 0 V) (λ_ a A=>a=#[]/\A=#[]):=by
 cases h with
 |string s =>
  have e:((s.extract 0 0).data.map λb=>Value.int .u8 b.L)=#[]:=Array.eq_empty_of_size_eq_zero (by rw[Array.size_map];simp[ByteArray.extract,ByteArray.copySlice]);exact DV ⟨e,e⟩
 |GA l c=>exact DV ⟨rfl,rfl⟩
 |slice o s l c hb =>
  unfold N;dsimp only;rw[e5];exact DV ⟨rfl,rfl⟩
 |E8 _ =>
  unfold N;dsimp only;rw[e5];exact DV ⟨rfl,rfl⟩
 |_=>exact D4
def IH.LT {β DZ:Ef}(h:β.le DZ){b B:Option bA}(r:IH β b B):IH DZ b B:=by
 cases r with
 |none=>exact .none
 |some r=>exact .some (r.LT h)
def Hs {α Hh:Type}{m:Sem α}{M:Sem Hh}{R:Ef->α->Hh->Prop}(h:∀w es,∃u w' es',m.L P.a w es=(.halt (.unsupported u) w',es')/\∀g,u≠.initOrder g):D8 P S Ck G β m M R:=by
 intro w W n hw ht a6 a7 hb;obtain⟨u,w',es',h1,h2⟩:=h w a6;rw[h1];exact h2
def K4 (a:bA)(n:Nat)(w:bW)(es:Array ez):∃b,(dr a n).L P.a w es=(.ok b w,es):=by
 unfold dr;rw[aj];have e:(shape a.Lo).L P.a w es=(.ok (w.T a.Lo) w,es):=rfl;rw[e];dsimp only;cases w.T a.Lo with
 |none=>exact⟨_,rfl⟩
 |some x=>exact⟨_,rfl⟩
def Lg (size l n:Nat)(b:Option bA)(x:J)(w:bW)(es:Array ez):∃r,(cw size l n b x).L P.a w es=(.ok r w,es):=by
 have k : ∀ r : Bool, ∃ r', (if !r then pure bs else match x with
   |.slice (I c) _ _=>do pure (!(<-dr c (n*size))||b.any (·.Lo==c.Lo))
   |_=>pure bc:Sem Bool).L P.a w es=(.ok r' w,es):=by
  intro r;cases r with
  |false=>exact⟨bs,rfl⟩
  |true =>
   simp only[Bool.not_true,Ba,if_false];split
   .rw[aj];obtain⟨h,e⟩:=K4 (P:=P) ‹bA› (n*size) w es;rw[e];exact⟨_,rfl⟩
   .exact⟨_,rfl⟩
 unfold cw;cases b with
 |none=>exact k bs
 |some a =>
  dsimp only;rw[aj];obtain⟨h,e⟩:=K4 (P:=P) a (l*size) w es;rw[e];dsimp only;rw[aj];have e:(frozen (a.add (l / 2*size))).L P.a w es=(.ok (w.H (a.add (l / 2*size))) w,es):=rfl;rw[e];exact k _
def nI {α:Type}(size l n:Nat)(b:Option bA)(x:J)(why:Unsupported)(hw:∀g,why≠.initOrder g)(k:Unit->Sem α)(w:bW)(es:Array ez) :
    ∃ u w' es', ((do if !(<- cw size l n b x) then mark .noRoom
                     b6 why) >>= k:Sem α).L P.a w es=(.halt (.unsupported u) w',es')/\∀g,u≠.initOrder g:=by
  rw[aj,aj];obtain⟨r,e⟩:=Lg (P:=P) size l n b x w es;rw[e];cases r with
  |true=>exact⟨why,w,es,rfl,hw⟩
  |false=>exact⟨why,w,es.push ⟨.mark .noRoom,bc,bs⟩,rfl,hw⟩
def qW (ts:Array bb)(t:bb)(hz:∀e s,ts[0]?=I s->P.a.LT s=I (.slice e)->bF P.a e=bs)(hni:∀x k,ts[1]?=I x->P.a.LT x≠I (.int k)){a A:Array J}(h:D6 S β a A) :
    D8 P S Ck G β (er ts t a) (er ts t A) (λDZ v V=>DX S DZ v V):=by
  unfold er;cases ht:ts[0]? with
  |none=>exact D4
  |some t0 =>
    cases ha:a[0]? with
    |none=>exact D4
    |some s =>
      obtain⟨Sv,hS,hs⟩:=h.get? ha;rw[hS];cases hb:a[1]? with
      |none=>exact D4
      |some x =>
        obtain⟨X,hX,hx⟩:=h.get? hb;rw[hX];dsimp only;refine DT (ai _) ?_;rintro a8 d _ aJ ⟨rfl,hd⟩;replace hs:=hs.LT aJ;replace hx:=hx.LT aJ;cases d with
        |slice e =>
          have hze:=hz e t0 ht hd
          have tail : ∀ (DZ : Ef) (b B : Option bA) (l c : Nat), a8.le DZ -> (IH DZ b B ∨ l = 0 ∧ c = 0) -> DX S DZ (.slice b l c) (.slice B l c) -> D8 P S Ck G DZ (do
              let size<-sizeOf e
              let zeros<-match ts[1]? with
                |some aD=>do pure ((<-underlying aD) matches .int _)
                |none=>pure bc
              let n <- if zeros then do
                  let l:=IntKind.i64.wrap (<-asInt x)
                  if l<0 then bn (.error "makeslice: len out of range")
                  if l*(<-ck e).bytes > 2 ^ 48 then
                    let made<-choose (.extern "append.ofMake.carriedOut" 2)
                    bn (.error (if made==1 then "makeslice: len out of range" else "growslice: len out of range"))
                  pure l.L
                else ed x
              let appended:Sem (Array J) :=
                if !zeros then N size n x
                else if n*size=0 then pure #[]
                else do pure (br (<-zeroValue e).cells n)
              let need:=l+n
              if need<=c then
                let new<-appended
                if let I a:=b then eT (a.add (l*size)) new.toList
                pure (.slice b need c)
              else
                if(need:Int) > IntKind.i64.max/\(zeros\/(<-ck e).bytes=0) then bn (.error "growslice: len out of range")
                if cU need c*(<-ck e).bytes > 2 ^ 48 then(if zeros then bn (.error "growslice: len out of range") else do
                  if !(<-cw size l n b x) then mark .noRoom
                  b6 (.resourceLimit "append: a slice or a string whose bytes no memory bears"))
                let a6<-choose (.appendCap need c e)
                askRoom (a6*(<-ck e).bytes)
                let old<-N size l (.slice b l c)
                let new<-appended
                let rest:=br (<-zeroValue e).cells (a6-need)
                pure (.slice (I (<-newRow e (old++new++rest))) need a6):Sem J) (do
              let size<-sizeOf e
              let zeros<-match ts[1]? with
                |some aD=>do pure ((<-underlying aD) matches .int _)
                |none=>pure bc
              let n <- if zeros then do
                  let l:=IntKind.i64.wrap (<-asInt X)
                  if l<0 then bn (.error "makeslice: len out of range")
                  if l*(<-ck e).bytes > 2 ^ 48 then
                    let made<-choose (.extern "append.ofMake.carriedOut" 2)
                    bn (.error (if made==1 then "makeslice: len out of range" else "growslice: len out of range"))
                  pure l.L
                else ed X
              let appended:Sem (Array J) :=
                if !zeros then N size n X
                else if n*size=0 then pure #[]
                else do pure (br (<-zeroValue e).cells n)
              let need:=l+n
              if need<=c then
                let new<-appended
                if let I a:=B then eT (a.add (l*size)) new.toList
                pure (.slice B need c)
              else
                if(need:Int) > IntKind.i64.max/\(zeros\/(<-ck e).bytes=0) then bn (.error "growslice: len out of range")
                if cU need c*(<-ck e).bytes > 2 ^ 48 then(if zeros then bn (.error "growslice: len out of range") else do
                  if !(<-cw size l n B X) then mark .noRoom
                  b6 (.resourceLimit "append: a slice or a string whose bytes no memory bears"))
                let a6<-choose (.appendCap need c e)
                askRoom (a6*(<-ck e).bytes)
                let old<-N size l (.slice B l c)
                let new<-appended
                let rest:=br (<-zeroValue e).cells (a6-need)
                pure (.slice (I (<-newRow e (old++new++rest))) need a6):Sem J) (λDZ v V=>DX S DZ v V):=by
            intro DZ b B l c zX ob hs;refine DT (aC _) ?_;rintro aY size _ aF rfl;have hx2:=(hx.LT zX).LT aF;have hs2:=hs.LT aF;have aK:IH aY b B\/l=0/\c=0:=ob.imp (·.LT aF) λh=>h;dsimp only;rcases h1:ts[1]? with _|xt
            all_goals first
              |refine DT (R:=λ_ (a A:Bool)=>a=bc/\A=bc) (DV ⟨rfl,rfl⟩) ?_
              | (refine DT (ai _) ?_
                 rintro aT d _ aG ⟨rfl, hd⟩;replace hx2 := hx2.LT aG;replace hs2 := hs2.LT aG;replace aK : IH aT b B ∨ l = 0 ∧ c = 0 := aK.imp (·.LT aG) fun h => h
                 refine DT (R := fun _ (a A : Bool) => a = bc ∧ A = bc) (DV (by cases d with
                   | int k => exact AH hd (hni xt k h1)
                   |_=>exact⟨rfl,rfl⟩)) ?_)
            all_goals
              rintro aZ z Z aH ⟨rfl,rfl⟩;simp only[Ba,if_false,Bool.not_false,if_true,false_or];have hx3:=hx2.LT aH;have hs3:=hs2.LT aH;refine DT (mh hx3) ?_;rintro aQ n _ aI ⟨rfl,aR⟩;replace hx3:=hx3.LT aI;replace hs3:=hs3.LT aI;have aL:IH aQ b B\/l=0/\c=0:=aK.imp (λh=>(h.LT aH).LT aI) λh=>h;by_cases hn:l+n<=c
              · simp only[AJ hn]
                obtain aL|⟨rfl,rfl⟩:=aL
                · refine DT (dc _ _ hx3 aR) ?_
                  intro aB y Y a7 hy;cases aL with
                  |none=>exact DV (.GA _ _)
                  |some aS =>
                    refine DT (eu ((aS.LT a7).add _) hy.toList 0) ?_;intro aM _ _ aA _;exact DV (((aS.LT a7).LT aA).sl _ _)
                · obtain rfl:n=0:=by omega
                  refine DT (fM size hx3) ?_
                  · rintro aB _ _ a7 ⟨rfl,rfl⟩
                    have hs5:=hs3.LT a7;cases b with
                    |none=>cases B with
                      |none=>exact DV hs5
                      |some B=>cases hs5
                    |some b=>cases B with
                      |none=>cases hs5
                      |some B=>exact DV hs5
              · simp only[AE hn]
                have fin : ∀ aB : Ef, aQ.le aB -> D8 P S Ck G aB (do
                    let a6<-choose (.appendCap (l+n) c e)
                    askRoom (a6*(<-ck e).bytes)
                    let old<-N size l (.slice b l c)
                    let new<-N size n x
                    let rest:=br (<-zeroValue e).cells (a6-(l+n))
                    pure (.slice (I (<-newRow e (old++new++rest))) (l+n) a6):Sem J) (do
                    let a6<-choose (.appendCap (l+n) c e)
                    askRoom (a6*(<-ck e).bytes)
                    let old<-N size l (.slice B l c)
                    let new<-N size n X
                    let rest:=br (<-zeroValue e).cells (a6-(l+n))
                    pure (.slice (I (<-newRow e (old++new++rest))) (l+n) a6):Sem J) (λDZ v V=>DX S DZ v V):=by
                  intro aB a7;refine DT (fv _) ?_;rintro aM nc _ aA rfl;refine DT (be _) ?_;rintro β7 info _ aU ⟨rfl,_⟩;refine DT (jE _) ?_;intro β8 _ _ aV _;have l8:=Ef.le_trans (Ef.le_trans (Ef.le_trans a7 aA) aU) aV;refine DT (dc _ _ (hs3.LT l8) λx e=>by injection e) ?_;intro β9 y Y aW hy;refine DT (dc _ _ ((hx3.LT l8).LT aW) aR) ?_;intro βa y' Y' aX hy'
                  refine DT (bV hze) ?_;rintro βb z _ aN ⟨rfl,hzv⟩;have aO:D6 S βb (br z.cells (nc-(l+n))) (br z.cells (nc-(l+n))):=gQ hzv.cells _;refine DT (fB e ((((hy.LT aX).LT aN).append (hy'.LT aN)).append aO)) ?_;intro βc r R' _ hr;exact DV (hr.sl _ _)
                refine DT (be _) ?_;rintro aB info _ a7 ⟨rfl,_⟩;by_cases zv:((l+n:Nat):Int) > IntKind.i64.max/\info.bytes=0
                · simp only[AJ zv]
                  exact DT (R:=λ_ _ _=>False) (aq _ trivial) (λ_ _ _ _ h=>h.elim)
                · simp only[AE zv]
                  refine DT (be _) ?_;rintro aM aP _ aA ⟨rfl,_⟩;by_cases zt:cU (l+n) c*aP.bytes > 2 ^ 48
                  · simp only[AJ zt]
                    refine Hs λw es=>?_;exact nI size l n b x _ (by intro g e;cases e) _ w es
                  · simp only[AE zt]
                    exact fin aM (Ef.le_trans a7 aA)
          cases hs with
          |GA l c=>exact tail a8 bq bq l c a8.le_refl (.inl .none) (.GA _ _)
          |slice o s l c hb=>exact tail a8 (I _) (I _) l c a8.le_refl (.inl (.some (EY.mk (a:=⟨_,o,s⟩) (A:=⟨_,o,s⟩) hb rfl rfl))) (.slice _ _ _ _ hb)
          |E8 h0=>exact tail a8 (I _) (I _) 0 0 a8.le_refl (.inr ⟨rfl,rfl⟩) (.E8 h0)
          |_=>exact D4
        |_=>exact λ_ _ _ _ _ _ _ _=>trivial
def xQ (ts:Array bb)(t:bb)(hc:∀t e d,ts[0]?=I t->P.a.LT t≠I (.chan e d)){a A:Array J}(h:D6 S β a A):D8 P S Ck G β (e6 ts t a) (e6 ts t A) (λDZ v V=>DX S DZ v V):=by
 unfold e6;cases ht:ts[0]? with
 |none=>exact D4
 |some t0 =>
  cases ha:a[0]? with
  |none=>exact D4
  |some x =>
   obtain⟨X,hX,hr⟩:=h.get? ha;rw[hX];refine DT (ai _) ?_;rintro a6 d _ zX ⟨rfl,hd⟩;replace hr:=hr.LT zX;cases d with
   |string=>cases hr with
    |string s=>exact DV (.int _ _)
    |_=>exact D4
   |array n e=>exact DV (.int _ _)
   |pointer e =>
    refine DT (ai _) ?_;rintro a7 d _ zX ⟨rfl,_⟩;cases d with
    |array n e=>exact DV (.int _ _)
    |_=>exact λ_ _ _ _ _ _ _ _=>trivial
   |slice e=>cases hr with
    |GA l c=>exact DV (.int _ _)
    |slice o s l c hb=>exact DV (.int _ _)
    |E8 _=>exact DV (.int _ _)
    |_=>exact D4
   |map k e=>cases hr with
    |GZ=>exact DV (.int _ _)
    |_=>exact D4
   |chan e dir=>exact AH hd (hc _ _ _ ht)
   |_=>exact λ_ _ _ _ _ _ _ _=>trivial
def xR (ts:Array bb)(t:bb)(hc:∀t e d,ts[0]?=I t->P.a.LT t≠I (.chan e d)){a A:Array J}(h:D6 S β a A):D8 P S Ck G β (e7 ts t a) (e7 ts t A) (λDZ v V=>DX S DZ v V):=by
 unfold e7;cases ht:ts[0]? with
 |none=>exact D4
 |some t0 =>
  cases ha:a[0]? with
  |none=>exact D4
  |some x =>
   obtain⟨X,hX,hr⟩:=h.get? ha;rw[hX];refine DT (ai _) ?_;rintro a6 d _ zX ⟨rfl,hd⟩;replace hr:=hr.LT zX;cases d with
   |array n e=>exact DV (.int _ _)
   |pointer e =>
    refine DT (ai _) ?_;rintro a7 d _ zX ⟨rfl,_⟩;cases d with
    |array n e=>exact DV (.int _ _)
    |_=>exact λ_ _ _ _ _ _ _ _=>trivial
   |slice e=>cases hr with
    |GA l c=>exact DV (.int _ _)
    |slice o s l c hb=>exact DV (.int _ _)
    |E8 _=>exact DV (.int _ _)
    |_=>exact D4
   |chan e dir=>exact AH hd (hc _ _ _ ht)
   |_=>exact λ_ _ _ _ _ _ _ _=>trivial
def pC {v V:J}(h:DX S β v V)(i:Nat):D8 P S Ck G β (eG v i) (eG V i) (λDZ v V=>DX S DZ v V):=by
 cases h with
 |tuple h1 h2 =>
  rename_i x X;unfold eG;dsimp only;cases hx:x[i]? with
  |none=>exact D4
  |some v=>obtain⟨V,hV,hr⟩:=(D6.mk h1 h2).get? hx;rw[hV];exact DV hr
 |_=>exact D4
def tu (t:bb)(hz:bF P.a t=bs):D8 P S Ck G β (js t bs (.tuple #[])) (js t bs (.tuple #[])) (λDZ v V=>DX S DZ v V):=by
 refine DT (bV hz) ?_;rintro a7 z _ a6 ⟨rfl,hz⟩;refine DT (gO t hz) ?_;intro a8 a A _ ha;exact DV ha.ptr
def xS (t:bb){v V:J}(h:DX S β v V):D8 P S Ck G β (j0 t v) (j0 t V) (λDZ v V=>DX S DZ v V):=by
 refine DT (gO t h) ?_;intro a6 a A _ ha;exact DV ha.ptr
def qX (t:bb){v V:J}(h:DX S β v V):D8 P S Ck G β (gl t v) (gl t V) (λDZ v V=>DX S DZ v V):=by
 refine DT (cY h) ?_;intro a6 a A _ ha;exact jC t ha
def pD (t:bb){v V x X:J}(h:DX S β v V)(hx:DX S β x X):D8 P S Ck G β (fW t v x) (fW t V X) (λ_ _ _=>True):=by
 refine DT (cY h) ?_;intro a6 a A zX ha;exact nG t ha (hx.LT zX)
end
def Hi (P:df)(t:bb):Bool:=match P.LT t with
 |some (.int _)|some .bool|some .string=>bs
 |_=>bc
def Er.cellsOf (P:Er)(t:bb):P.b.cellsOf t=P.a.cellsOf t:=rfl
def Er.bytesOf (P:Er)(t:bb):P.b.bytesOf t=P.a.bytesOf t:=rfl
def Er.depth (P:Er):P.b.depth=P.a.depth:=rfl
def Er.byteOfCell (P:Er)(d:Nat):∀t off,byteOfCell P.b d t off=byteOfCell P.a d t off:=by
 induction d with
 |zero=>exact λ_ _=>rfl
 |succ d ih =>
  have e:cF P.b d=cF P.a d:=funext λt=>funext λo=>ih t o;intro t off;unfold cF;rw[e]
  rfl
def Er.cellOfByte (P:Er)(d:Nat):∀t off,cellOfByte P.b d t off=cellOfByte P.a d t off:=by
 induction d with
 |zero=>exact λ_ _=>rfl
 |succ d ih =>
  have e:cK P.b d=cK P.a d:=funext λt=>funext λo=>ih t o;intro t off;unfold cK;rw[e]
  rfl
def Er.cellAtBytes (P:Er)(d:Nat)(e:bb)(c o:Nat)(n:Int):cellAtBytes P.b d e c o n=cellAtBytes P.a d e c o n:=by
 have e1:cF P.b d=cF P.a d:=funext λt=>funext λo=>P.byteOfCell d t o;have e2:cK P.b d=cK P.a d:=funext λt=>funext λo=>P.cellOfByte d t o;unfold Go.cellAtBytes;rw[e1,e2]
 rfl
section
variable {P:Er} {S:Fu} {Ck:eH->Prop} {G:Nat} {β:Ef}
def nJ {b B:Nat}(h:β b B):D8 P S Ck G β (dt b) (dt B) (λDZ x X=>match x,X with|none,bq=>True|some (a,l),I (A,L)=>EY DZ a A/\l=L|_,_=>False):=by
 cases hh:S.LT b with
 |false =>
  refine DT (kR h hh) ?_;rintro aC s _ zX rfl;cases s with
  |some x=>exact DV trivial
  |none =>
   refine DT (fw (zX _ _ h) hh) ?_;intro aD o O _ ho;cases ho with
   |number o s l hb=>exact DV ⟨⟨hb,rfl,rfl⟩,rfl⟩
   |_=>exact DV trivial
 |true =>
  intro w W n hw ht a7 a6 _;obtain⟨h1,aA,aB⟩:=hw.FU b B h hh;have e1:(dt b).L P.a w a7=(.ok bq w,a7.push ⟨.obj b,bc,bc⟩):=by
   unfold dt;rw[aj];have e:(shape b).L P.a w a7=(.ok bq w,a7):=by
    show(cA (w.T b) w,a7)=_;unfold cf;rw[h1]
   rw[e];dsimp only;simp only[Cq,Ba,if_false];rw[aj];have e:(getObj b).L P.a w a7=(.ok (.coro bq) w,a7.push ⟨.obj b,bc,bc⟩):=by simp only[b5,bh,h1];rfl
   rw[e]
   rfl
  cases a8:S.LT.EX with
  |true =>
   have h2:=aB a8;have e2:(dt B).L P.b W a6=(.ok bq W,a6.push ⟨.obj B,bc,bc⟩):=by
    unfold dt;rw[aj];have e:(shape B).L P.b W a6=(.ok bq W,a6):=by
     show(cA (W.T B) W,a6)=_;unfold cf;rw[h2]
    rw[e];dsimp only;simp only[Cq,Ba,if_false];rw[aj];have e:(getObj B).L P.b W a6=(.ok (.coro bq) W,a6.push ⟨.obj B,bc,bc⟩):=by simp only[b5,bh,h2];rfl
    rw[e]
    rfl
   rw[e1,e2];exact⟨β,bq,W,[⟨.obj B,bc,bc⟩],by simp,trivial,{ Fin.refl hw with evs:=λh=>by rw[a8] at h;cases h }⟩
  |false =>
  obtain⟨c,t,f,h2⟩:=aA a8;have e2:(dt B).L P.b W a6=(.ok bq W,a6):=by
   unfold dt;rw[aj];have e:(shape B).L P.b W a6=(.ok (I (t,c.size)) W,a6):=by
    show(cA (W.T B) W,a6)=_;unfold cf;rw[h2]
   rw[e]
   rfl
  rw[e1,e2];exact⟨β,bq,W,[],by simp,trivial,Fin.refl hw⟩
def gS {b B:Nat}(h:β b B):D8 P S Ck G β (viewAt b) (viewAt B) (λ_ x X=>x=bq/\X=bq):=by
 cases hh:S.LT b with
 |false =>
  refine DT (kR h hh) ?_;rintro aC s _ zX rfl;cases s with
  |some x=>exact DV ⟨rfl,rfl⟩
  |none =>
   refine DT (fw (zX _ _ h) hh) ?_;intro aD o O _ ho;cases ho<;>exact DV ⟨rfl,rfl⟩
 |true =>
  intro w W n hw ht a7 a6 _;obtain⟨h1,aA,aB⟩:=hw.FU b B h hh;have e1:(viewAt b).L P.a w a7=(.ok bq w,a7.push ⟨.obj b,bc,bc⟩):=by
   unfold viewAt;rw[aj];have e:(shape b).L P.a w a7=(.ok bq w,a7):=by
    show(cA (w.T b) w,a7)=_;unfold cf;rw[h1]
   rw[e];dsimp only;simp only[Cq,Ba,if_false];rw[aj];have e:(getObj b).L P.a w a7=(.ok (.coro bq) w,a7.push ⟨.obj b,bc,bc⟩):=by simp only[b5,bh,h1];rfl
   rw[e]
   rfl
  cases a8:S.LT.EX with
  |true =>
   have h2:=aB a8;have e2:(viewAt B).L P.b W a6=(.ok bq W,a6.push ⟨.obj B,bc,bc⟩):=by
    unfold viewAt;rw[aj];have e:(shape B).L P.b W a6=(.ok bq W,a6):=by
     show(cA (W.T B) W,a6)=_;unfold cf;rw[h2]
    rw[e];dsimp only;simp only[Cq,Ba,if_false];rw[aj];have e:(getObj B).L P.b W a6=(.ok (.coro bq) W,a6.push ⟨.obj B,bc,bc⟩):=by simp only[b5,bh,h2];rfl
    rw[e]
    rfl
   rw[e1,e2];exact⟨β,bq,W,[⟨.obj B,bc,bc⟩],by simp,⟨rfl,rfl⟩,{ Fin.refl hw with evs:=λh=>by rw[a8] at h;cases h }⟩
  |false =>
  obtain⟨c,t,f,h2⟩:=aA a8;have e2:(viewAt B).L P.b W a6=(.ok bq W,a6):=by
   unfold viewAt;rw[aj];have e:(shape B).L P.b W a6=(.ok (I (t,c.size)) W,a6):=by
    show(cA (W.T B) W,a6)=_;unfold cf;rw[h2]
   rw[e]
   rfl
  rw[e1,e2];exact⟨β,bq,W,[],by simp,⟨rfl,rfl⟩,Fin.refl hw⟩
def dq {a A:bA}(h:EY β a A):D8 P S Ck G β (bD a) (bD A) (λDZ x X=>EY DZ x.1 X.1/\x.2=X.2):=by
 refine DT (nJ h.Lo) ?_;intro a6 x X zX hx;cases x with
 |none=>cases X with
  |none=>exact DV ⟨h.LT zX,rfl⟩
  |some _=>exact hx.elim
 |some x=>cases X with
  |none=>exact hx.elim
  |some X=>exact DV hx
def qY {a A:bA}(h:EY β a A):D8 P S Ck G β (noView a) (noView A) (λ_ _ _=>True):=by
 refine DT (gS h.Lo) ?_;rintro a6 _ _ zX ⟨rfl,rfl⟩;exact DV trivial
def qZ {a A:bA}(h:EY β a A):D8 P S Ck G β (byteOf a) (byteOf A) (λ_ x X=>x=X):=by
 unfold byteOf;rw[<-h.spot,<-h.off];cases a.spot with
 |some s=>exact DV rfl
 |none =>
  refine DT aN ?_;rintro a8 p p' zX ⟨hp,aA⟩;subst p p';simp only[Er.cellsOf,Er.bytesOf,Er.depth,Er.byteOfCell];refine DT (qY (h.LT zX)) ?_;rintro aB _ _ a6 _;refine DT (jd (a6 _ _ (zX _ _ h.Lo))) ?_;rintro aC s _ a7 (rfl|rfl)
  rotate_left
  .exact λ_ _ _ _ _ _ _ _=>trivial
  cases s with
  |none=>exact λ_ _ _ _ _ _ _ _=>trivial
  |some x =>
   obtain⟨e,n⟩:=x;dsimp only;by_cases h0:P.a.cellsOf e=0
   .simp only[AJ h0];exact DV rfl
   .simp only[AE h0];split
    .exact DV rfl
    .exact D4
def gT (ts:Array bb)(t:bb){v V x X:J}(hv:DX S β v V)(hx:DX S β x X):D8 P S Ck G β (bw ts t #[v,x]) (bw ts t #[V,X]) (λDZ y Y=>∃a A,y=.S (I a)/\Y=.S (I A)/\EY DZ a A):=by
 unfold bw;have tail:∀(p Q:Option bA),IH β p Q->DX S β (.S p) (.S Q)->D8 P S Ck G β (bw ts t #[.S p,x]) (bw ts t #[.S Q,X]) (λDZ y Y=>∃a A,y=.S (I a)/\Y=.S (I A)/\EY DZ a A):=by
  intro p Q hp hpv;refine DT (eU hx) ?_;rintro aA n _ a6 rfl;dsimp only
  have rest : D8 P S Ck G aA (do
    if n<0 then b6 (.unsafePointer "Add: a move by a count below zero")
    let I a:=p|unsupported (.unsafePointer "Add")
    let I (e,cells)<-shape a.Lo|unsupported (.unsafePointer "Add")
    let P<-program
    match cellAtBytes P P.depth e (cells / P.cellsOf e) a.off n with
    |some off=>pure (.S (I { a with off }))
    |none=>b6 (.unsafePointer "Add"):Sem J) (do
    if n<0 then b6 (.unsafePointer "Add: a move by a count below zero")
    let I a:=Q|unsupported (.unsafePointer "Add")
    let I (e,cells)<-shape a.Lo|unsupported (.unsafePointer "Add")
    let P<-program
    match cellAtBytes P P.depth e (cells / P.cellsOf e) a.off n with
    |some off=>pure (.S (I { a with off }))
    |none=>b6 (.unsafePointer "Add"):Sem J) (λDZ y Y=>∃a A,y=.S (I a)/\Y=.S (I A)/\EY DZ a A):=by
   dsimp only;by_cases h0:n<0
   .simp only[AJ h0];exact λ_ _ _ _ _ _ _ _=>by intro g e;cases e
   .simp only[AE h0];cases hp with
    |none=>exact λ_ _ _ _ _ _ _ _=>by intro g e;cases e
    |some ha =>
     rename_i a A;dsimp only;refine DT (jd (a6 _ _ ha.Lo)) ?_;rintro aB s _ a7 (rfl|rfl)
     rotate_left
     .exact λ_ _ _ _ _ _ _ _=>by intro g e;cases e
     cases s with
     |none=>exact λ_ _ _ _ _ _ _ _=>by intro g e;cases e
     |some x =>
      obtain⟨e,c⟩:=x;refine DT aN ?_;rintro aC p _ a8 ⟨rfl,rfl⟩;rw[<-ha.off,Er.cellAtBytes,Er.depth,Er.cellsOf];split
      .exact DV ⟨_,_,rfl,rfl,⟨a8 _ _ (a7 _ _ (a6 _ _ ha.Lo)),rfl,ha.spot⟩⟩
      .exact λ_ _ _ _ _ _ _ _=>by intro g e;cases e
  by_cases h0:n=0
  .simp only[AJ h0];cases hp with
   |none=>exact λ_ _ _ _ _ _ _ _=>by intro g e;cases e
   |some ha =>
    dsimp only;refine DT (gS (a6 _ _ ha.Lo)) ?_;rintro aB _ _ a7 ⟨rfl,rfl⟩;exact DV ⟨_,_,rfl,rfl,(ha.LT a6).LT a7⟩
  .simp only[AE h0];exact rest
 cases hv with
 |He=>exact tail bq bq .none .He
 |ptr o s hb=>exact tail (I _) (I _) (.some (EY.mk (a:=⟨_,o,s⟩) (A:=⟨_,o,s⟩) hb rfl rfl)) (.ptr o s hb)
 |_=>exact D4
def _root_.Go.Em.D8.ptr {m M:Sem J}(h:D8 P S Ck G β m M (λDZ y Y=>∃a A,y=.S (I a)/\Y=.S (I A)/\EY DZ a A)):D8 P S Ck G β m M (λDZ a A=>DX S DZ a A) :=
 vC h (by rintro DZ _ _ _ ⟨a,A,rfl,rfl,h⟩;exact h.ptr)
def nK {a A:bA}(h:EY β a A)(l:Bool):D8 P S Ck G β (fu a l) (fu A l) (λDZ x X=>DX S DZ x X):=by
 have ho:EP S Ck β (.number a l) (.number A l):=by
  obtain⟨b,o,s⟩:=a;obtain⟨B,O,s'⟩:=A;obtain⟨h1,h2,h3⟩:=h;cases h2;cases h3;exact .number _ _ _ h1
 refine DT (jB ho (λi=>ho.id i (by simp))) ?_;rintro a6 b B _ ⟨hb,_⟩;exact DV (.ptr _ _ hb)
def bY (t:bb){v V x X:J}(hv:DX S β v V)(hx:DX S β x X):D8 P S Ck G β (eb t v x) (eb t V X) (λDZ a A=>DX S DZ a A):=by
 unfold eb;refine DT (ai _) ?_;rintro a8 d _ a6 ⟨rfl,_⟩;dsimp only
 have main : D8 P S Ck G a8 (do
   let .S (I n):=v|Builtin.unsafeAdd_ #[] t #[v,x]
   let (a,lost)<-bD n
   match<-bw #[] t #[.S (I a),x] with
   |.S (I b)=>fu b lost
   |v=>pure v:Sem J) (do
   let .S (I n):=V|Builtin.unsafeAdd_ #[] t #[V,X]
   let (a,lost)<-bD n
   match<-bw #[] t #[.S (I a),X] with
   |.S (I b)=>fu b lost
   |v=>pure v:Sem J) (λDZ a A=>DX S DZ a A):=by
  replace hx:=hx.LT a6;replace hv:=hv.LT a6;have h0:=(gT (P:=P) (Ck:=Ck) (G:=G) #[] t hv hx).ptr;cases hv with
  |ptr o s hb =>
   refine DT (dq (EY.mk (a:=⟨_,o,s⟩) (A:=⟨_,o,s⟩) hb rfl rfl)) ?_;rintro aB ⟨a,l⟩ ⟨A,L⟩ a7 ⟨ha,hl⟩;cases hl;refine DT (gT #[] t ha.ptr (hx.LT a7)) ?_;rintro aC _ _ aA ⟨a',A',rfl,rfl,ha'⟩;exact nK ha' l
  |_=>exact h0
 cases d with
 |unsafePointer=>exact λ_ _ _ _ _ _ _ _=>by intro g e;cases e
 |_=>exact main
def pE (k:dS){a A:bA}(h:EY β a A)(n:Int):D8 P S Ck G β (eV k a n) (eV k A n) (λDZ a A=>DX S DZ a A):=by
 refine DT (jd h.Lo) ?_;rintro a8 s _ a6 (rfl|rfl)
 rotate_left
 .exact λ_ _ _ _ _ _ _ _=>by intro g e;cases e
 cases s with
 |none=>exact λ_ _ _ _ _ _ _ _=>by intro g e;cases e
 |some x =>
  obtain⟨e,c⟩:=x;refine DT (be _) ?_;rintro aA i _ a7 ⟨rfl,_⟩;dsimp only;split
  .exact λ_ _ _ _ _ _ _ _=>by intro g e;cases e
  .refine DT (qZ ((h.LT a6).LT a7)) ?_;rintro aB b _ _ rfl;exact DV (.int _ _)
def mi (hG:P.a.globals.size<=G){a A b B:bA}(ha:EY β a A):D8 P S Ck G β (cE a b) (cE A B) (λ_ _ _=>False):=by
 intro w W n hw ht a6 a7 hb;have h1:=(hw.Fl.lo ha.Lo).1;have e:(cE a b).L P.a w a6=(.halt (.unsupported .L) w,a6):=by
  unfold cE;rw[aj];have e:program.L P.a w a6=(.ok P.a w,a6):=rfl;rw[e];dsimp only;rw[AJ (by simp;right;omega)]
  rfl
 rw[e];intro g e;cases e
end
section
variable {P:Er} {S:Fu} {Ck:eH->Prop} {G:Nat} {β:Ef}
def Im {t:bb}(h:Hi P.a t=bs):(∃k,P.a.LT t=I (.int k))\/P.a.LT t=I .bool\/P.a.LT t=I .string:=by
 unfold Hi at h;cases hd:P.a.LT t with
 |none=>rw[hd] at h;cases h
 |some d =>
  rw[hd] at h;cases d with
  |int k=>exact .inl ⟨k,rfl⟩
  |bool=>exact .inr (.inl rfl)
  |string=>exact .inr (.inr rfl)
  |_=>cases h
def kS (hG:P.a.globals.size<=G)(m:Nat){t:bb}(h:Hi P.a t=bs){v V x X:J}(hv:DX S β v V)(hx:DX S β x X):D8 P S Ck G β (dy (m+1) t v x) (dy (m+1) t V X) (λ_ a A=>a=A):=by
 unfold dy;refine DT (ai _) ?_;rintro a7 d _ zX ⟨rfl,hd⟩;replace hv:=hv.LT zX;replace hx:=hx.LT zX;obtain⟨k,e⟩|e|e:=Im h
 .rw[e] at hd;cases hd;cases hv with
  |int k a=>cases hx with
   |int k' b =>
    dsimp only;split
    .exact DV rfl
    .exact D4
   |ptr o s hb =>
    by_cases h0:a=0
    .subst h0;exact DV rfl
    .refine Hs λw es=>⟨.L,w,es,?_,by intro g e;cases e⟩;cases a with
     |ofNat n=>cases n with
      |zero=>exact AH rfl h0
      |succ n=>rfl
     |negSucc n=>rfl
   |He=>exact Hs λw es=>⟨.L,w,es,rfl,by intro g e;cases e⟩
   |_=>exact D4
  |ptr o s hb=>cases hx with
   |int k' b =>
    by_cases h0:b=0
    .subst h0;exact DV rfl
    .refine Hs λw es=>⟨.L,w,es,?_,by intro g e;cases e⟩;cases b with
     |ofNat n=>cases n with
      |zero=>exact AH rfl h0
      |succ n=>rfl
     |negSucc n=>rfl
   |ptr o' s' hb' =>
    have h1:EY a7 ⟨_,o,s⟩ ⟨_,o,s⟩:=EY.mk hb rfl rfl;have h2:EY a7 ⟨_,o',s'⟩ ⟨_,o',s'⟩:=EY.mk hb' rfl rfl;refine DT (dq h1) ?_;rintro aG ⟨p,_⟩ ⟨p',_⟩ aB ⟨hp,_⟩;refine DT (dq (h2.LT aB)) ?_;rintro aC ⟨q,_⟩ ⟨q',_⟩ a6 ⟨hq,_⟩;intro w W n hw ht a8 aA JN;have hp:=hp.LT a6;have l1:G<=p.Lo/\G<=p'.Lo:=(hw.Fl.lo hp.Lo);have l2:G<=q.Lo/\G<=q'.Lo:=(hw.Fl.lo hq.Lo)
    clear a6;have e1:(p==q)=(p'==q'):=by
     obtain⟨b,o,s⟩:=p;obtain⟨B,O,t'⟩:=p';obtain⟨b',o',s'⟩:=q;obtain⟨B',O',t''⟩:=q';obtain⟨a1,a2,a3⟩:=hp;obtain⟨b1,b2,b3⟩:=hq;cases a2;cases a3;cases b2;cases b3;rw[Bool.eq_iff_iff];simp only[beq_iff_eq,Addr.mk.injEq];constructor
     .rintro⟨rfl,r⟩;exact⟨hw.Fl.fn a1 b1,r⟩
     .rintro⟨rfl,r⟩;exact⟨hw.Fl.inj a1 b1,r⟩
    refine(?_:D8 P S Ck G aC _ _ _) w W n hw ht a8 aA JN;clear JN a8 aA ht n;refine DT aN ?_;rintro aH pr pr' aD ⟨aI,hpr'⟩;subst pr pr';have n1:¬(p.Lo==q.Lo&&decide (p.Lo<P.a.globals.size))=true:=by simp only[AO,beq_iff_eq,decide_eq_true_eq];omega
    have n2:¬(p'.Lo==q'.Lo&&decide (p'.Lo<P.b.globals.size))=true:=by rw[show P.b.globals=P.a.globals from rfl];simp only[AO,beq_iff_eq,decide_eq_true_eq];omega
    simp only[AE n1,AE n2];refine DT (be _) ?_;rintro aJ i _ aF ⟨rfl,_⟩;split
    .rw[e1];split
     .exact DV rfl
     .exact D7 (by intro g e;cases e)
    .exact D7 (by intro g e;cases e)
   |_=>exact Hs λw es=>⟨.L,w,es,rfl,by intro g e;cases e⟩
  |He=>cases hx<;>exact Hs λw es=>⟨.L,w,es,rfl,by intro g e;cases e⟩
  |_=>cases hx<;>first|exact D4|exact Hs λw es=>⟨.L,w,es,rfl,by intro g e;cases e⟩
 .rw[e] at hd;cases hd;cases hv with
  |bool a=>cases hx with
   |bool b=>exact DV rfl
   |_=>exact D4
  |_=>exact D4
 .rw[e] at hd;cases hd;cases hv with
  |string a=>cases hx with
   |string b=>exact DV rfl
   |_=>exact D4
  |_=>exact D4
def mj (hG:P.a.globals.size<=G){t:bb}(h:Hi P.a t=bs){v V x X:J}(hv:DX S β v V)(hx:DX S β x X):D8 P S Ck G β (c0 t v x) (c0 t V X) (λ_ a A=>a=A) :=
 kS hG 9999 h hv hx
def oC {m:Sem J}(h:(∃v,(∀(S:Fu) (β:Ef),DX S β v v)/\m=pure v)\/(∃s,m=stuck s)\/(∃u,m=b6 u/\∀g,u≠.initOrder g)\/(∃s,m=bn (.error s))) :
  D8 P S Ck G β m m (λDZ a A=>DX S DZ a A):=by
 obtain⟨v,h,rfl⟩|⟨s,rfl⟩|⟨u,rfl,h⟩|⟨s,rfl⟩:=h
 .exact DV (h _ _)
 .exact D4
 .exact D7 h
 .exact aq _ trivial
def I7 (op:BinOp)(t:bb)(k k':dS)(a b:Int):D8 P S Ck G β (binOp op t (.int k a) (.int k' b)) (binOp op t (.int k a) (.int k' b)) (λDZ a A=>DX S DZ a A):=by
  refine oC ?_;have iv:∀(k:dS) (n:Int),(∀(S:Fu) (β:Ef),DX S β (.int k n) (.int k n)):=λk n _ _=>.int _ _;have bv:∀(b:Bool),(∀(S:Fu) (β:Ef),DX S β (.bool b) (.bool b)):=λb _ _=>.bool _;cases op with
  | shl => unfold binOp Op.shift; dsimp only; split
           · exact .inr (.inr (.inr ⟨_, rfl⟩))
           · exact .inl ⟨_,iv _ _,rfl⟩
  | shr => unfold binOp Op.shift; dsimp only; split
           · exact .inr (.inr (.inr ⟨_, rfl⟩))
           · exact .inl ⟨_,iv _ _,rfl⟩
  | quo => unfold binOp Op.intDiv; dsimp only; split
           · exact .inr (.inl ⟨_, rfl⟩)
           · split
             · exact .inr (.inr (.inr ⟨_, rfl⟩))
             · exact .inl ⟨_,iv _ _,rfl⟩
  | rem => unfold binOp Op.intDiv; dsimp only; split
           · exact .inr (.inl ⟨_, rfl⟩)
           · split
             · exact .inr (.inr (.inr ⟨_, rfl⟩))
             · exact .inl ⟨_,iv _ _,rfl⟩
  |add|sub|mul|and|or|xor|andNot =>
    unfold binOp;dsimp only;split
    · exact .inr (.inl ⟨_,rfl⟩)
    · exact .inl ⟨_,iv _ _,rfl⟩
  |eql|neq|lss|leq|gtr|geq =>
    unfold binOp;dsimp only;split
    · exact .inr (.inl ⟨_,rfl⟩)
    · exact .inl ⟨_,bv _,rfl⟩
def fC (op:BinOp)(x y:ByteArray):D8 P S Ck G β (eA op x y) (eA op x y) (λDZ a A=>DX S DZ a A):=by
  refine oC ?_;have bv:∀(b:Bool),(∀(S:Fu) (β:Ef),DX S β (.bool b) (.bool b)):=λb _ _=>.bool _;cases op with
  | add => unfold eA; dsimp only; split
           · exact .inr (.inr (.inl ⟨_, rfl, by intro g e; cases e⟩))
           · exact .inl ⟨_,λ_ _=>.string _,rfl⟩
  |eql|neq|lss|leq|gtr|geq=>exact .inl ⟨_,bv _,rfl⟩
  |_=>exact .inr (.inl ⟨_,rfl⟩)
def kT {t:bb}(h:Hi P.a t=bs){v V x X:J}(hv:DX S β v V)(hx:DX S β x X):D8 P S Ck G β (do if(<-underlying t) matches .unsafePointer then movedPointer t v x else eb t v x) (do if(<-underlying t) matches .unsafePointer then movedPointer t V X else eb t V X) (λDZ a A=>DX S DZ a A):=by
 refine DT (ai _) ?_;rintro a6 d _ zX ⟨rfl,hd⟩;have:=bY (P:=P) (Ck:=Ck) (G:=G) t (hv.LT zX) (hx.LT zX);rcases Im h with⟨k,e⟩|e|e<;>(rw[e] at hd;cases hd;exact this)
def gV (hG:P.a.globals.size<=G){a A b B:bA}(ha:EY β a A)(hb:EY β b B)(f F:Nat×Nat->Sem J):D8 P S Ck G β (do let x<-bD a;let y<-bD b;(cE x.1 y.1) >>= f) (do let x<-bD A;let y<-bD B;(cE x.1 y.1) >>= F) (λDZ a A=>DX S DZ a A):=by
 refine DT (dq ha) ?_;rintro a8 ⟨p,_⟩ ⟨p',_⟩ a6 ⟨hp,_⟩;refine DT (dq (hb.LT a6)) ?_;rintro aA ⟨q,_⟩ ⟨q',_⟩ a7 ⟨hq,_⟩;exact DT (mi hG (hp.LT a7)) (λ_ _ _ _ h=>h.elim)
def Ms (k:dS){a A:bA}(ha:EY β a A)(n:Int):D8 P S Ck G β (do eV k (<-bD a).1 n) (do eV k (<-bD A).1 n) (λDZ a A=>DX S DZ a A):=by
 refine DT (dq ha) ?_;rintro a7 ⟨p,_⟩ ⟨p',_⟩ a6 ⟨hp,_⟩;exact pE k hp n
def zO (P:Er){α:Type}(m:Sem α):Prop:=∀w es,(∃s w' es',m.L P.a w es=(.halt (.stuck s) w',es'))\/∃u w' es',m.L P.a w es=(.halt (.unsupported u) w',es')/\∀g,u≠.initOrder g
def Gi {α Hh:Type}{m:Sem α}{M:Sem Hh}{R:Ef->α->Hh->Prop}(h:zO P m):D8 P S Ck G β m M R:=by
 intro w W n hw ht a6 a7 hb;obtain⟨s,w',es',e⟩|⟨u,w',es',e,hu⟩:=h w a6
 .rw[e];trivial
 .rw[e];exact hu
def zO.bind {α γ:Type}{m:Sem α}(h:zO P m)(k:α->Sem γ):zO P (m >>= k):=by
 intro w es;rw[aj];obtain⟨s,w',es',e⟩|⟨u,w',es',e,hu⟩:=h w es
 .rw[e];exact .inl ⟨s,w',es',rfl⟩
 .rw[e];exact .inr ⟨u,w',es',rfl,hu⟩
def jF {t:bb}(h:Hi P.a t=bs){v V x X:J}(hv:DX S β v V)(hx:DX S β x X)(hu:v=hole\/x=hole):zO P (c0 t v x):=by
 intro w es;have hr:∀d,P.a.LT t=I d->(underlying t).L P.a w es=(.ok d w,es):=λd e=>by
  unfold underlying;rw[aj];show(match(P.a.LT t) with|some d=>pure d|none=>stuck _:Sem TypeDesc).L P.a w es=_;rw[e];rfl
 show(∃s w' es',(dy (9999+1) t v x).L P.a w es=_)\/∃u w' es',(dy (9999+1) t v x).L P.a w es=_/\_;unfold dy;rw[aj];rcases Im h with⟨k,e⟩|e|e<;>rw[hr _ e]<;>obtain rfl|rfl:=hu
 .cases hx<;>first|exact .inl ⟨_,_,_,rfl⟩|exact .inr ⟨.L,_,_,rfl,by intro g e;cases e⟩
 .cases hv<;>first|exact .inl ⟨_,_,_,rfl⟩|exact .inr ⟨.L,_,_,rfl,by intro g e;cases e⟩
 .cases hx<;>first|exact .inl ⟨_,_,_,rfl⟩|exact .inr ⟨.L,_,_,rfl,by intro g e;cases e⟩
 .cases hv<;>first|exact .inl ⟨_,_,_,rfl⟩|exact .inr ⟨.L,_,_,rfl,by intro g e;cases e⟩
 .cases hx<;>first|exact .inl ⟨_,_,_,rfl⟩|exact .inr ⟨.L,_,_,rfl,by intro g e;cases e⟩
 .cases hv<;>first|exact .inl ⟨_,_,_,rfl⟩|exact .inr ⟨.L,_,_,rfl,by intro g e;cases e⟩
def binOp_eql {t:bb}{V X:J}(h1:∀k a k' b,V=.int k a->X=.int k' b->False)(h2:∀k a k' b,V=.float k a->X=.float k' b->False)(h3:∀k a b k' c d,V=.complex k a b->X=.complex k' c d->False)(h4:∀a b,V=.string a->X=.string b->False) :
  binOp .eql t V X=(do pure (.bool (<-c0 t V X)))/\binOp .neq t V X=(do pure (.bool (!(<-c0 t V X)))):=by
 constructor
 all_goals
  rw[binOp.eq_def];split
  all_goals first|contradiction|rfl|(exfalso;first|exact h1 _ _ _ _ rfl rfl|exact h2 _ _ _ _ rfl rfl|exact h3 _ _ _ _ _ _ rfl rfl|exact h4 _ _ rfl rfl)
def tv (hG:P.a.globals.size<=G)(op:BinOp){t:bb}(h:Hi P.a t=bs){v V x X:J}(hv:DX S β v V)(hx:DX S β x X):D8 P S Ck G β (binOp op t v x) (binOp op t V X) (λDZ a A=>DX S DZ a A):=by
 have he:D8 P S Ck G β (do pure (.bool (<-c0 t v x)):Sem J) (do pure (.bool (<-c0 t V X))) (λDZ a A=>DX S DZ a A) :=
  DT (mj hG h hv hx) (by rintro a6 b _ _ rfl;exact DV (.bool _))
 have hn:D8 P S Ck G β (do pure (.bool (!(<-c0 t v x))):Sem J) (do pure (.bool (!(<-c0 t V X)))) (λDZ a A=>DX S DZ a A) :=
  DT (mj hG h hv hx) (by rintro a6 b _ _ rfl;exact DV (.bool _))
 have mk:∀ {b B:Nat} (o:Nat) (s:Option Nat),β b B->EY β ⟨b,o,s⟩ ⟨B,o,s⟩:=λo s h=>⟨h,rfl,rfl⟩;rw[binOp.eq_def op t v x];split
 .cases hv;cases hx;exact I7 .shl t _ _ _ _
 .cases hv;cases hx;exact I7 .shr t _ _ _ _
 .rename_i k a k' b n1 n2;cases hv;cases hx;have:=I7 (P:=P) (S:=S) (Ck:=Ck) (G:=G) (β:=β) op t k k' a b;cases op with
  |shl=>exact(n1 rfl).elim
  |shr=>exact(n2 rfl).elim
  |_=>exact this
 .cases hv
 .cases hv
 .cases hv;cases hx
  have e:∀x y,binOp op t (.string x) (.string y)=eA op x y:=λx y=>by cases op<;>rfl
  rw[e];exact fC _ _ _
 .rename_i n1 n2 n3 n4;by_cases hu:v=hole\/x=hole
  .exact Gi ((jF h hv hx hu).bind _)
  rw[(binOp_eql (t:=t) (V:=V) (X:=X) ?_ ?_ ?_ ?_).1]
  .exact he
  .rintro k a k' b rfl rfl;cases hv with
   |int=>cases hx with
    |int=>exact n1 _ _ _ _ rfl rfl
    |blank _ _=>exact hu (.inr rfl)
   |blank _ _=>exact hu (.inl rfl)
  .rintro k a k' b rfl rfl;cases hv;exact hu (.inl rfl)
  .rintro k a k' b c d rfl rfl;cases hv;exact hu (.inl rfl)
  .rintro a b rfl rfl;cases hv with
   |string=>cases hx with
    |string=>exact n4 _ _ rfl rfl
    |blank _ _=>exact hu (.inr rfl)
   |blank _ _=>exact hu (.inl rfl)
 .rename_i n1 n2 n3 n4;by_cases hu:v=hole\/x=hole
  .exact Gi ((jF h hv hx hu).bind _)
  rw[(binOp_eql (t:=t) (V:=V) (X:=X) ?_ ?_ ?_ ?_).2]
  .exact hn
  .rintro k a k' b rfl rfl;cases hv with
   |int=>cases hx with
    |int=>exact n1 _ _ _ _ rfl rfl
    |blank _ _=>exact hu (.inr rfl)
   |blank _ _=>exact hu (.inl rfl)
  .rintro k a k' b rfl rfl;cases hv;exact hu (.inl rfl)
  .rintro k a k' b c d rfl rfl;cases hv;exact hu (.inl rfl)
  .rintro a b rfl rfl;cases hv with
   |string=>cases hx with
    |string=>exact n4 _ _ rfl rfl
    |blank _ _=>exact hu (.inr rfl)
   |blank _ _=>exact hu (.inl rfl)
 .cases hx
  cases hv with
  |He=>exact kT h .He (.int _ _)
  |ptr o s hb=>exact kT h (.ptr o s hb) (.int _ _)
 .cases hv
  cases hx with
  |He=>exact bY _ .He (.int _ _)
  |ptr o s hb=>exact bY _ (.ptr o s hb) (.int _ _)
 .cases hx
  cases hv with
  |He=>exact bY _ .He (.int _ _)
  |ptr o s hb=>exact bY _ (.ptr o s hb) (.int _ _)
 .cases hv with
  |ptr o s hb=>cases hx with
   |ptr o' s' hb'=>exact gV hG (mk o s hb) (mk o' s' hb') _ _
 .cases hv with
  |ptr o s hb=>cases hx with
   |ptr o' s' hb'=>exact gV hG (mk o s hb) (mk o' s' hb') _ _
 .cases hv with
  |ptr o s hb=>cases hx with
   |ptr o' s' hb'=>exact gV hG (mk o s hb) (mk o' s' hb') _ _
 .cases hv with
  |ptr o s hb=>cases hx with
   |ptr o' s' hb'=>exact gV hG (mk o s hb) (mk o' s' hb') _ _
 .cases hv with
  |ptr o s hb=>cases hx with
   |ptr o' s' hb'=>exact gV hG (mk o s hb) (mk o' s' hb') _ _
 .cases hv with
  |ptr o s hb=>cases hx;exact Ms _ (mk o s hb) _
 .cases hv with
  |ptr o s hb=>cases hx;exact Ms _ (mk o s hb) _
 .cases hv
  cases hx with
  |ptr o s hb=>exact Ms _ (mk o s hb) _
 .exact D7 (u:=.L) (by intro g e;cases e)
 .exact D7 (u:=.L) (by intro g e;cases e)
 .exact D4
end
end Go.Em
