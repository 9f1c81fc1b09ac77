/- Parts of the proof. -/
import Derived.Sort.BigQuietIn
set_option linter.all false
set_option maxHeartbeats 4000000
open Go renaming Value->J,TypeId->U,unsupported->bh,runtimePanic->bn,World->bD,Addr->bW,Program->b5,behindNumber->b6,getObj->b7,choose->cK,setObj->cU,byteOfCell->dy,cellOfByte->dS,FuncId->ed,Deferred->ek,shape->er,boundsPanic->ez,numberAt->eC,Code->eF,IntKind->eG,Event->eH,movedNumber->eT,load->e7,storeCells->fA,Operand->gB,BinOp->jk,BoundsCode->ko,asNumber->kp,callFunc->kq,store->ll,TypeDesc->l4
open Option renaming some->I,none->br
open Go.Instr renaming sliceBound->N,sliceBounds->b8,fill->cq,extract->fu,buildSlice->ik,panic->js,makeSlice->jx,sureAddr->kn,fieldAt->kv,indexAt->kx,sliceAt->k0,storeAt->k5,getLoop->k6,loadAt->k7,slice->ln,field->lu,index->lv,build->lx,alloc->lA,yield->l5,box->mA
open Go.Builtin renaming firstCells->ak,zeroCells->bw,unsafeAdd_->bA,mayShare->c0,nextslicecap->eb,holdsCells->eA,lenOf->e6,append_->e9,len_->gg,cap_->gl,min_->gR,max_->gU,min2->k8,max2->k9
open Bool renaming false->bb,true->bc,eq_false_iff->e5,false_or->fx
open Go.Sem renaming runT->bk
open Go.Value renaming pointer->bq,slice->cw
open Go.Op renaming eqGuardIn->bs,maxDepth->cf,equalIn->cu,twoPlaces->dn,equal->dr,stringOp->eV,addrMod->fW
open Array renaming range->b9,replicate->e8,ext->l9
open Go.World renaming shape?->cE,setCell->fc,frozen?->fq,farStore->j0,cell?->lh,sys->mm
open Std.Legacy.Range renaming forIn_eq_forIn_range'->cF
open Go.Result renaming ok->df
open Go.Kernel renaming perform->eo
open Array renaming getD->Array.LH,push->Array.LE,setIfInBounds->Array.L,toList->Array.LK
open BitVec renaming toNat->BitVec.L
open ByteArray renaming toList->ByteArray.LK
open Eq renaming symm->Eq.LH
open False renaming elim->False.S
open Go renaming underlying->Go.LH
open Go.Addr renaming block->Go.Addr.LE
open Go.BoundsCode renaming toNat->Go.BoundsCode.L
open Go.Call renaming callee->Go.Call.L
open Go.Exit renaming normal->Go.Exit.L
open Go.Instr renaming alloc->Go.Instr.LK
open Go.Obj renaming deferred->Go.Obj.S
open Go.Op renaming alloc->Go.Op.LK
open Go.Os renaming mono->Go.Os.LT
open Go.Program renaming alikeButTags->Go.Program.LE,cellsOf->Go.Program.LT,eqGuardType->Go.Program.LK,funcs->Go.Program.L,stoodInHeld->Go.Program.LB,underlying->Go.Program.LH
open Go.Sem renaming runT->Go.Sem.L
open Go.TypeDesc renaming pointer->Go.TypeDesc.S
open Go.Unsupported renaming addressObserved->Go.Unsupported.L
open Go.Value renaming pointer->Go.Value.S
open Go.World renaming cell?->Go.World.S,frozen?->Go.World.O,heap->Go.World.L,setCell->Go.World.LH,shape?->Go.World.T
open Int renaming toNat->Int.L
open List renaming length->List.L,toArray->List.LK
open Option renaming getD->Option.LH,isNone->Option.L
open Or renaming elim->Or.S
open UInt8 renaming toNat->UInt8.L
namespace Go
def AJ:=@Array.getElem?_eq_some_iff
def AK:=@Nat.le_refl
def AL:=@List.getElem?_eq_getElem
def AN:=@if_neg
def AO:=@Nat.lt_of_lt_of_le
def AP:=@if_pos
def AQ:=@List.not_mem_nil
def AS:=@absurd
def AT:=@List.mem_cons
def AU:=@Nat.le_trans
def AV:=@Array.getElem?_eq_getElem
def AX:=@List.length_cons
def AY:=@Bool.and_eq_true
def AZ:=@List.size_toArray
def Bc:=@List.length_nil
def Bd:=@Nat.zero_add
def Be:=@List.getElem?_eq_some_iff
def Bf:=@Option.getD_some
def Bg:=@Nat.zero_le
def Bh:=@congrArg
def Bj:=@Bool.false_eq_true
def Bl:=@Array.all_eq_true_iff_forall_mem
def Bm:=@List.take_of_length_le
def Bn:=@Array.mem_of_getElem?
def Bo:=@Option.map_eq_some_iff
def Bp:=@List.eq_nil_of_length_eq_zero
def Bq:=@Bool.or_eq_true
def Br:=@Array.getElem?_setIfInBounds_ne
def Bt:=@List.getElem?_cons_zero
def Bu:=@List.mem_map
def Bv:=@List.getElem?_map
def Bw:=@Nat.eq_zero_or_pos
def Bx:=@Array.empty_append
def By:=@List.mem_of_getElem?
def Bz:=@List.getElem?_cons_succ
def BA:=@List.getElem?_toArray
def BD:=@List.length_map
def BE:=@decide_eq_true
def BF:=@List.getElem?_append_left
def BH:=@List.mem_append
def BI:=@Nat.not_lt_zero
def BJ:=@Nat.le_of_eq
def BM:=@List.getElem?_append_right
def BN:=@List.getElem_mem
def BO:=@List.all_eq_true
def BP:=@List.nil_append
def BQ:=@List.mem_range
def BR:=@Array.getElem?_modify
def BS:=@Option.bind_some
def BT:=@Array.getElem?_map
def BU:=@Nat.lt_or_eq_of_le
def BV:=@Nat.lt_or_ge
def BW:=@List.cons_append
def BX:=@Array.replicate_succ
def BY:=@Array.replicate_zero
def BZ:=@Array.getElem?_replicate
def B1:=@List.foldl_cons
def B2:=@decide_eq_false
def B3:=@List.append_toArray
def B4:=@List.length_append
def B5:=@Option.map_some
def B7:=@Array.getD_eq_getD_getElem?
def B8:=@List.push_toArray
def B9:=@Bool.not_eq_true'
def Ca:=@of_decide_eq_true
def Cb:=@List.set_cons_succ
def Cd:=@List.mem_toArray
def Ce:=@Nat.le_of_lt_succ
def Cf:=@Bool.false_and
def Cg:=@List.mem_cons_self
def Ch:=@List.set_cons_zero
def Ci:=@List.map_cons
def Cl:=@List.getElem?_take
def Cm:=@Bool.true_and
def Cn:=@Array.getElem?_setIfInBounds
def Cp:=@List.mem_cons_of_mem
def Cq:=@List.mem_of_mem_take
def Cr:=@List.mem_iff_getElem
def Cs:=@Bool.and_false
def Ct:=@List.filter_cons_of_neg
def Cu:=@Int.toNat_natCast
def Cv:=@List.append_assoc
def Cx:=@List.map_append
def Cy:=@Array.getElem?_push
def Cz:=@Array.getElem?_eq_none
def CA:=@List.filter_eq_nil_iff
def CB:=@List.getD_eq_getElem?_getD
def CD:=@List.mem_singleton
def CE:=@Bool.not_eq_false'
def CF:=@List.getElem?_eq_none
def CG:=@List.foldl_nil
def CI:=@Bool.or_eq_false_iff
def CJ:=@List.mem_filter
def CM:=@List.append_nil
def CN:=@List.take_add_one
def CQ:=@List.length_range
def CR:=@Array.getElem?_setIfInBounds_self_of_lt
def CT:=@Nat.add_assoc
def CU:=@List.getElem?_range
def CV:=@List.length_take
def CW:=@List.take_length
def CX:=@List.map_nil
def CY:=@List.filter_append
def CZ:=@Option.isSome_none
def C1:=@List.length_set
def C2:=@List.mem_iff_getElem?
def C3:=@Nat.le_succ_of_le
def C4:=@List.map_toArray
def C5:=@Nat.lt_irrefl
def C6:=@List.range_succ
def C7:=@List.pairwise_cons
def C8:=@Array.getElem?_mapIdx
def C9:=@Array.getElem?_append
def Da:=@List.length_filter_le
def Db:=@Nat.zero_mul
def Dc:=@List.contains_iff_mem
def Dd:=@Nat.pow_le_pow_right
def De:=@Nat.lt_succ_self
def Df:=@List.any_eq_true
def Dg:=@List.getElem?_set_ne
def Dh:=@Array.getElem?_append_left
def Di:=@Bool.or_false
def Dj:=@List.drop_eq_getElem_cons
def Dk:=@Array.mapM_eq_mapM_toList
def Dl:=@Nat.le_add_left
def Dn:=@Int.ediv_nonneg
def Do:=@List.find?_eq_none
def Dp:=@Array.foldl_toList
def Dq:=@Array.forIn_toList
def Dr:=@Nat.ne_of_lt
def Ds:=@Array.getElem_ofFn
end Go

namespace Go
section
variable {F:Fence} {n:Nat} {P:b5} {ops:Array Oper} {C:bD->Prop}
def kV (o:Oper):Bool:=match o.op with
 |.defer _=>bb
 |_=>bc
def mg {Q:Exit->Act->bD->Prop}{r:Nat}(hro:F.round=br)(a6:ops.all kV=bc):∀(l:List Nat) (a:Act) (w:bD),wpOpsIn F n P ops Q l a w->wpOpsIn (F.inRound r) n P ops Q l a w:=by
 intro l
 induction l with
 |nil=>exact λa w h=>h
 |cons i rest ih =>
  intro a w h;simp only[wpOpsIn] at h ⊢;cases ho:ops[i]? with
  |none=>simp only[ho] at h ⊢;exact ih a w h
  |some o =>
   simp only[ho] at h ⊢;have hm:o∈ops:=Bn ho;have hd:∀c,o.op≠.defer c:=λc e=>by
    have:=(Bl.1 a6) o hm;simp[kV,e] at this
   split
   .rename_i hw;rw[AP hw] at h;have h2:=Oper.wpIn_mono (K':=wpOpsIn (F.inRound r) n P ops Q rest) (λa w=>ih a w) h;unfold Oper.wpIn at h2 ⊢;rw[Oper.semAt_eq _ _ _ hd] at h2 ⊢;refine⟨h2.1,?_⟩;have h3:=h2.2;generalize (execOp a.eval o).run P w=res at h3 ⊢;cases res with
    |ok x w'=>cases x<;>exact h3
    |halt x w'=>cases x<;>exact h3
   .rename_i hw;rw[AN hw] at h;exact⟨h.1,ih _ _ h.2⟩
def fG {id r:Nat}{Q:Exit->Act->bD->Prop}{a:Act}{w:bD}{l:List Oper}(hro:F.round=br)(a6:l.LK.all kV=bc)(hm:P.follows .mixedOrders=bc)(hB:Region.lexB .any l.LK=bc)
  (h:wpQuietIn F n P l.LK (λw'=>∃n,w'=w.drewN n) (λa'=>∀w',(∃n,w'=w.drewN n)->Q .L a' w') l a):(Code.region id l.LK bc).wpIn (F.inRound r) n P Q a w:=by
 simp only[Region.lexB,AY] at hB;refine wpIn_region_draw λt=>mg hro a6 _ _ _ ?_;simp only[Region.schedule,hm,Bool.true_or,if_true];refine wpAnyIn_sound l.LK.size t _ a _ ?_;refine wpAnyIn_of_quiet (C:=λw'=>∃n,w'=w.drewN n) (Q:=λa'=>∀w',(∃n,w'=w.drewN n)->Q .L a' w') hro (λ_ w' hw' h=>h w' hw') _ _ _ _ ⟨1,rfl⟩ ?_;have:=wpAnyQIn_lex (F:=F) (n:=n) (C:=λw'=>∃n,w'=w.drewN n) (md:=.any) hB.1 l 0 (e8 l.L bb) a (by simp) (by simpa using hB.2) (by simpa using h)
 simpa using this
end
end Go
namespace Go.EB
structure EK where
 a:b5
 fs:Array Func
def EK.b (P:EK):Program:={ P.a with funcs:=P.fs }
def EK.LH (P:EK)(t:U):P.b.LH t=P.a.LH t:=rfl
def D5 (P:EK)(t:U):P.b.info? t=P.a.info? t:=rfl
abbrev Ey:=Nat->Nat->Prop
structure Ey.Fp (G:Nat)(β:Ey):Prop where
 fn:∀ {b B B'},β b B->β b B'->B=B'
 inj:∀ {b b' B},β b B->β b' B->b=b'
 lo:∀ {b B},β b B->G<=b/\G<=B
def Ey.le (β Ef:Ey):Prop:=∀b B,β b B->Ef b B
def Ey.le_refl (β:Ey):β.le β:=λ_ _ h=>h
def Ey.le_trans {a b c:Ey}(h:a.le b)(h':b.le c):a.le c:=λ_ _ x=>h' _ _ (h _ _ x)
structure Hid where
 at_:Nat->Bool
 Fg:Bool
 bl:Bool
instance:CoeFun Hid (λ_=>Nat->Bool):=⟨Hid.at_⟩
structure FO where
 fn:ed->Prop
 LH:Hid
 fr:ed->Prop
inductive IX (S:FO)(β:Ey):Fn->Fn->Prop
 |func {f:ed}:S.fn f->IX S β (.func f) (.func f)
 |yield {l L:Nat}:β l L->S.LH l=bb->IX S β (.yield l) (.yield L)
def hole:Value:=.chan (I 0)
def big:TypeId:=1000000000
def hm:Value:=.func (.method "") #[.iface big undef] #[]
def hd (a:Array J):Deferred:=⟨.fn (.method "") #[],#[.iface big undef]++a⟩
def oN:J->Bool
 |.agg _|.tuple _|.S br|.nilIface|.nilFunc|.bool _|.int _ _|.string _|.func (.method _) _ _=>bb
 |_=>bc
inductive Ee (S:FO)(β:Ey):J->J->Prop
 |bool (b:Bool):Ee S β (.bool b) (.bool b)
 |int (k:eG) (n:Int):Ee S β (.int k n) (.int k n)
 |string (s:ByteArray):Ee S β (.string s) (.string s)
 |Hy:Ee S β (.S br) (.S br)
 |ptr {b B:Nat} (o:Nat) (s:Option Nat):β b B->Ee S β (.S (I ⟨b,o,s⟩)) (.S (I ⟨B,o,s⟩))
 |Hb (l c:Nat):Ee S β (.slice br l c) (.slice br l c)
 |slice {b B:Nat} (o:Nat) (s:Option Nat) (l c:Nat):β b B->Ee S β (.slice (I ⟨b,o,s⟩) l c) (.slice (I ⟨B,o,s⟩) l c)
 | func {f F : Fn} {x X c C : Array J} : IX S β f F -> x.size = X.size -> (∀ (i : Nat) (v V : J), x[i]? = I v -> X[i]? = I V -> Ee S β v V) ->
   c.size=C.size->(∀(i:Nat) (v V:J),c[i]?=I v->C[i]?=I V->Ee S β v V)->Ee S β (.func f x c) (.func F X C)
 |nilFunc:Ee S β .nilFunc .nilFunc
 |Hp:Ee S β (.map br) (.map br)
 |GN:Ee S β (.chan br) (.chan br)
 |nilIface:Ee S β .nilIface .nilIface
 |iface (t:U) {v V:J}:Ee S β v V->Ee S β (.iface t v) (.iface t V)
 |agg {x X:Array J}:x.size=X.size->(∀(i:Nat) (v V:J),x[i]?=I v->X[i]?=I V->Ee S β v V)->Ee S β (.agg x) (.agg X)
 |tuple {x X:Array J}:x.size=X.size->(∀(i:Nat) (v V:J),x[i]?=I v->X[i]?=I V->Ee S β v V)->Ee S β (.tuple x) (.tuple X)
 |blank {V:J}:(V=hole\/S.LH.bl=bc)->oN V=bc->Ee S β hole V
 |E8 {n:String} {x c:Array J}:(Value.func (.method n) x c=hm\/S.LH.bl=bc)->Ee S β hm (.func (.method n) x c)
 |Fq {a A:bW}:(A=a\/S.LH.bl=bc)->Ee S β (.slice (I a) 0 0) (.slice (I A) 0 0)
structure Ei (S:FO)(β:Ey)(x X:Array J):Prop where
 size:x.size=X.size
 at_:∀(i:Nat) (v V:J),x[i]?=I v->X[i]?=I V->Ee S β v V
section
variable {S:FO} {β Ef:Ey}
def IX.LT (h:β.le Ef){f F:Fn}(r:IX S β f F):IX S Ef f F:=by
 cases r with
 |func s=>exact .func s
 |yield l k=>exact .yield (h _ _ l) k
def Ee.LT (h:β.le Ef){v V:J}(r:Ee S β v V):Ee S Ef v V:=by
 induction r with
 |bool b=>exact .bool b
 |int k n=>exact .int k n
 |string s=>exact .string s
 |Hy=>exact .Hy
 |ptr o s hb=>exact .ptr o s (h _ _ hb)
 |Hb l c=>exact .Hb l c
 |slice o s l c hb=>exact .slice o s l c (h _ _ hb)
 |func hf h1 _ h2 _ i1 i2=>exact .func (hf.LT h) h1 i1 h2 i2
 |nilFunc=>exact .nilFunc
 |Hp=>exact .Hp
 |GN=>exact .GN
 |nilIface=>exact .nilIface
 |iface t _ ih=>exact .iface t ih
 |agg h1 _ i1=>exact .agg h1 i1
 |tuple h1 _ i1=>exact .tuple h1 i1
 |blank h1 h2=>exact .blank h1 h2
 |E8 h1=>exact .E8 h1
 |Fq h1=>exact .Fq h1
def Ei.LT (h:β.le Ef){x X:Array J}(r:Ei S β x X):Ei S Ef x X:=⟨r.size,λi v V a b=>(r.at_ i v V a b).LT h⟩
def Ei.agg {x X:Array J}(r:Ei S β x X):Ee S β (.agg x) (.agg X):=.agg r.size r.at_
def Ei.tuple {x X:Array J}(r:Ei S β x X):Ee S β (.tuple x) (.tuple X):=.tuple r.size r.at_
def Ee.undef (S:FO)(β:Ey):Ee S β undef undef:=.tuple rfl (by simp)
def DA:Ei S β #[] #[]:=⟨rfl,by simp⟩
def Ei.get? {x X:Array J}(r:Ei S β x X){i:Nat}{v:J}(h:x[i]?=I v):∃V,X[i]?=I V/\Ee S β v V:=by
 have hi:i<X.size:=by rw[<-r.size];exact(AJ.1 h).1
 exact⟨X[i],AV hi,r.at_ i v _ h (AV hi)⟩
def Ei.get_none {x X:Array J}(r:Ei S β x X){i:Nat}(h:x[i]?=br):X[i]?=none:=by
 rw[Array.getElem?_eq_none_iff] at h ⊢;rw[<-r.size];exact h
def Ei.LH {x X:Array J}(r:Ei S β x X)(i:Nat){d D:J}(hd:Ee S β d D):Ee S β (x.LH i d) (X.LH i D):=by
 rw[B7,B7];cases h:x[i]? with
 |none=>rw[r.get_none h];exact hd
 |some v=>obtain⟨V,hV,hr⟩:=r.get? h;rw[hV];exact hr
def Ei.LE {x X:Array J}(r:Ei S β x X){v V:J}(h:Ee S β v V):Ei S β (x.LE v) (X.LE V):=by
 refine⟨by simp[r.size],λi a A ha hA=>?_⟩;rw[Cy] at ha hA;rw[r.size] at ha;split at ha
 .rw[AP ‹_›] at hA;cases ha;cases hA;exact h
 .rw[AN ‹_›] at hA;exact r.at_ i a A ha hA
def Ei.append {x X y Y:Array J}(r:Ei S β x X)(s:Ei S β y Y):Ei S β (x++y) (X++Y):=by
 refine⟨by simp[r.size,s.size],λi a A ha hA=>?_⟩;rw[C9] at ha hA;rw[r.size] at ha;split at ha
 .rw[AP ‹_›] at hA;exact r.at_ i a A ha hA
 .rw[AN ‹_›] at hA;exact s.at_ _ a A ha hA
def Ei.one {v V:J}(h:Ee S β v V):Ei S β #[v] #[V]:=by simpa using DA.LE h
def Ei.extract {x X:Array J}(r:Ei S β x X)(a b:Nat):Ei S β (x.extract a b) (X.extract a b):=by
 refine⟨by simp[r.size],λi v V hv hV=>?_⟩;rw[Array.getElem?_extract] at hv hV;rw[r.size] at hv;split at hv
 .rw[AP ‹_›] at hV;exact r.at_ _ v V hv hV
 .cases hv
def Ei.Lo {x X:Array J}(r:Ei S β x X)(i:Nat){v V:J}(h:Ee S β v V):Ei S β (x.L i v) (X.L i V):=by
 refine⟨by simp[r.size],λj a A ha hA=>?_⟩;rw[Cn] at ha hA;rw[r.size] at ha;split at ha
 .rw[AP ‹_›] at hA;split at ha
  .rw[AP ‹_›] at hA;cases ha;cases hA;exact h
  .cases ha
 .rw[AN ‹_›] at hA;exact r.at_ j a A ha hA
def Ei.replicate {v V:J}(h:Ee S β v V)(n:Nat):Ei S β (e8 n v) (e8 n V):=by
 refine⟨by simp,λi a A ha hA=>?_⟩;rw[BZ] at ha hA;split at ha
 .rw[AP ‹_›] at hA;cases ha;cases hA;exact h
 .cases ha
def Ei.map {α:Type}(l:Array α){f F:α->J}(h:∀x∈l,Ee S β (f x) (F x)):Ei S β (l.map f) (l.map F):=by
 refine⟨by simp,λi a A ha hA=>?_⟩;rw[BT] at ha hA;cases hx:l[i]? with
 |none=>rw[hx] at ha;cases ha
 |some x =>
  rw[hx] at ha hA;cases ha;cases hA;exact h x (Bn hx)
def Ee.cells {v V:J}(r:Ee S β v V):Ei S β v.cells V.cells:=by
 cases r with
 |agg h1 h2=>exact⟨h1,h2⟩
 |bool b=>exact Ei.one (.bool b)
 |int k n=>exact Ei.one (.int k n)
 |string s=>exact Ei.one (.string s)
 |Hy=>exact Ei.one .Hy
 |ptr o s hb=>exact Ei.one (.ptr o s hb)
 |Hb l c=>exact Ei.one (.Hb l c)
 |slice o s l c hb=>exact Ei.one (.slice o s l c hb)
 |func hf h1 a1 h2 a2=>exact Ei.one (.func hf h1 a1 h2 a2)
 |nilFunc=>exact Ei.one .nilFunc
 |Hp=>exact Ei.one .Hp
 |GN=>exact Ei.one .GN
 |nilIface=>exact Ei.one .nilIface
 |iface t r=>exact Ei.one (.iface t r)
 |tuple h1 a1=>exact Ei.one (.tuple h1 a1)
 |blank h1 h2 =>
  rw[show V.cells=#[V] by cases V<;>first|rfl|cases h2];exact Ei.one (.blank h1 h2)
 |E8 h1=>exact Ei.one (.E8 h1)
 |Fq h1=>exact Ei.one (.Fq h1)
end
inductive FY (S:FO)(β:Ey):ek->ek->Prop
 |fn {f F:Fn} {c C a A:Array J}:IX S β f F->Ei S β c C->Ei S β a A->FY S β ⟨.fn f c,a⟩ ⟨.fn F C,A⟩
 |nil {a A:Array J}:Ei S β a A->FY S β ⟨.nil,a⟩ ⟨.nil,A⟩
 |collected {r R:Nat}:β r R->S.LH r=bb->FY S β ⟨.collected r,#[]⟩ ⟨.collected R,#[]⟩
 |E8 {d D:ek} (a A:Array J):Ei S β a A->d=hd a->(D=hd A\/(S.LH.bl=bc/\∃n c x,D=⟨.fn (.method n) c,x++A⟩))->FY S β d D
inductive Fj {α:Type}(R:α->α->Prop):List α->List α->Prop
 |nil:Fj R [] []
 |cons {a A:α} {l L:List α}:R a A->Fj R l L->Fj R (a::l) (A::L)
def Fj.LT {α:Type}{R R':α->α->Prop}(h:∀a A,R a A->R' a A){l L:List α}(r:Fj R l L):Fj R' l L:=by
 induction r with
 |nil=>exact .nil
 |cons a _ ih=>exact .cons (h _ _ a) ih
def Fj.append {α:Type}{R:α->α->Prop}{l L m M:List α}(r:Fj R l L)(s:Fj R m M):Fj R (l++m) (L++M):=by
 induction r with
 |nil=>exact s
 |cons a _ ih=>exact .cons a ih
def FY.LT {S:FO}{β Ef:Ey}(h:β.le Ef){d D:ek}(r:FY S β d D):FY S Ef d D:=by
 cases r with
 |fn f c a=>exact .fn (f.LT h) (c.LT h) (a.LT h)
 |nil a=>exact .nil (a.LT h)
 |collected r k=>exact .collected (h _ _ r) k
 |E8 a A h1 h2 h3=>exact .E8 a A (h1.LT h) h2 h3
inductive Fb (S:FO)(Ck:eF->Prop)(β:Ey):Obj->Obj->Prop
 |cells {c C:Array J} {t:U} {f F:Nat×Nat}:Ei S β c C->(∀i,F.1<=i->i<F.2->f.1<=i/\i<f.2)->Fb S Ck β (.cells c t f) (.cells C t F)
 | loop {st : LoopState} {pe : Option eF} {fn : ed} {x X : Array J} {ps : Array Tmp} {AG bo : eF} {d D : Nat} :
   (S.fr fn/\∀c,pe=I c->Ck c)->Ck AG->Ck bo->Ei S β x X->β d D->S.LH d=bb->Fb S Ck β (.loop ⟨st,pe,fn,x,ps,AG,bo,d⟩) (.loop ⟨st,pe,fn,X,ps,AG,bo,D⟩)
 |number {b B:Nat} (o:Nat) (s:Option Nat) (lost:Bool):β b B->Fb S Ck β (.number ⟨b,o,s⟩ lost) (.number ⟨B,o,s⟩ lost)
 |taken:Fb S Ck β (.S br) (.S br)
 |defs {l L:List ek}:Fj (FY S β) l L->Fb S Ck β (.S (I l)) (.S (I L))
def Fb.LT {S:FO}{Ck:eF->Prop}{β Ef:Ey}(h:β.le Ef){o O:Obj}(r:Fb S Ck β o O):Fb S Ck Ef o O:=by
 cases r with
 |cells a f=>exact .cells (a.LT h) f
 |loop p a b x d k=>exact .loop p a b (x.LT h) (h _ _ d) k
 |number o s l hb=>exact .number o s l (h _ _ hb)
 |taken=>exact .taken
 |defs l=>exact .defs (l.LT λ_ _=>FY.LT h)
def Ey.Oq (β:Ey):Prop:=∀b B,β b B->b=B
def La (H:Hid)(β:Ey):Prop:=H.bl=bb/\β.Oq
def IX.id {S:FO}{β:Ey}(h:β.Oq){f F:Fn}(r:IX S β f F):f=F:=by
 cases r with
 |func _=>rfl
 |yield hl _=>rw[h _ _ hl]
def Ee.id {S:FO}{β:Ey}(h:La S.LH β){v V:J}(r:Ee S β v V):v=V:=by
 have arr:∀(x X:Array J),x.size=X.size->(∀(i:Nat) (v V:J),x[i]?=I v->X[i]?=I V->v=V)->x=X:=λx X hs ha=>by
  refine l9 hs λi h1 h2=>?_;exact ha i _ _ (AV h1) (AV h2)
 induction r with
 |ptr o s hb=>rw[h.2 _ _ hb]
 |slice o s l c hb=>rw[h.2 _ _ hb]
 |func hf h1 _ h2 _ i1 i2=>rw[hf.id h.2,arr _ _ h1 i1,arr _ _ h2 i2]
 |iface t _ ih=>rw[ih]
 |agg h1 _ i1=>rw[arr _ _ h1 i1]
 |tuple h1 _ i1=>rw[arr _ _ h1 i1]
 |blank h1 _=>exact h1.S Eq.symm λh1=>by rw[h.1] at h1;cases h1
 |E8 h1=>exact h1.S Eq.symm λh1=>by rw[h.1] at h1;cases h1
 |Fq h1=>exact h1.S (λe=>by rw[e]) λh1=>by rw[h.1] at h1;cases h1
 |_=>rfl
def Ei.id {S:FO}{β:Ey}(h:La S.LH β){x X:Array J}(r:Ei S β x X):x=X :=
 l9 r.size λi h1 h2=>(r.at_ i _ _ (AV h1) (AV h2)).id h
def Fj.id {α:Type}{R:α->α->Prop}(h:∀a A,R a A->a=A){l L:List α}(r:Fj R l L):l=L:=by
 induction r with
 |nil=>rfl
 |cons ha _ ih=>rw[h _ _ ha,ih]
def FY.id {S:FO}{β:Ey}(h:La S.LH β){d D:ek}(r:FY S β d D):d=D:=by
 cases r with
 |fn f c a=>rw[f.id h.2,c.id h,a.id h]
 |nil a=>rw[a.id h]
 |collected r _=>rw[h.2 _ _ r]
 |E8 a A h1 h2 h3 =>
  rw[h2,h1.id h];exact h3.S Eq.symm λh1=>by have:=h1.1;rw[h.1] at this;cases this
def Fb.id {S:FO}{Ck:eF->Prop}{β:Ey}(h:La S.LH β){o O:Obj}(r:Fb S Ck β o O)(hn:∀c t f,o≠.cells c t f):o=O:=by
 cases r with
 |cells=>exact AS rfl (hn _ _ _)
 |loop p a b x d k=>rw[x.id h,h.2 _ _ d]
 |number o s l hb=>rw[h.2 _ _ hb]
 |taken=>rfl
 |defs l=>rw[l.id λ_ _=>FY.id h]
structure EU (S:FO)(Ck:eF->Prop)(G:Nat)(β:Ey)(w W:bD):Prop where
 FH:β.Fp G
 room:G<=w.L.size/\G<=W.L.size
 F4:∀b B,β b B->S.LH b=bb->∃o O,w.L[b]?=I o/\W.L[B]?=I O/\Fb S Ck β o O
 Ge:∀b B,β b B->S.LH b=bc->w.L[b]?=I (.coro br)/\(S.LH.Fg=bb->∃c t f,W.L[B]?=I (.cells c t f))/\(S.LH.Fg=bc->W.L[B]?=I (.coro br))
 old:∀b,S.LH b=bc->b<w.L.size
 env:w.os.env=W.os.env
def Kt (n:Nat)(w W:bD):Prop:=∀i,i<n->∀q,w.tape (w.drawn+i) q=W.tape (W.drawn+i) q
inductive RP:Mark->Prop
 |extern (f:ed):RP (.extern f)
 |noRoom:RP .noRoom
def FK:Obj->Nat
 |.cells c _ _=>c.size+3
 |.coro br=>1
 |_=>2
inductive QC (β:Ey)(w:bD):eH->Prop
 |cell {a A:bW} {wr sy:Bool}:β a.LE A.LE->a.off=A.off->(∃n,(w.L[a.LE]?).map FK=I (n+3)/\a.off<n)->(wr=bc->w.O a=bb)->QC β w ⟨.cell A,wr,sy⟩
 |obj {r R:Nat} {wr sy:Bool}:β r R->(w.L[r]?).map FK=I 2->QC β w ⟨.obj R,wr,sy⟩
 |mark {M:Mark} {wr sy:Bool}:RP M->QC β w ⟨.mark M,wr,sy⟩
 |out {wr sy:Bool}:QC β w ⟨.output,wr,sy⟩
structure Fin (S:FO)(Ck:eF->Prop)(G:Nat)(β Ef:Ey)(w W w' W':bD)(ES:List eH):Prop where
 le:β.le Ef
 rel:EU S Ck G Ef w' W'
 tape:w'.tape=w.tape
 TAPE:W'.tape=W.tape
 drawn:w.drawn<=w'.drawn
 draws:W'.drawn+w.drawn=W.drawn+w'.drawn
 os:w'.os=w.os
 OS:W'.os=W.os
 out:w'.output=w.output
 OUT:W'.output=W.output
 size:w.L.size<=w'.L.size
 SIZE:W.L.size<=W'.L.size
 new:∀b B,Ef b B->β b B\/(w.L.size<=b/\W.L.size<=B)
 NEW:∀B,W.L.size<=B->B<W'.L.size->∃b,Ef b B
 frozen:∀a:bW,a.LE<w.L.size->w'.O a=w.O a
 KEPT:∀B,B<W.L.size->(∀b,¬β b B)->W'.L[B]?=W.L[B]?
 ro:∀b B c t f,β b B->w.L[b]?=I (.cells c t f)->(∀i,i<c.size->f.1<=i/\i<f.2)->w'.L[b]?=w.L[b]?/\W'.L[B]?=W.L[B]?
 kind:∀b,b<w.L.size->(w'.L[b]?).map FK=(w.L[b]?).map FK
 evs:S.LH.Fg=bb->∀E∈ES,QC Ef w' E
 same:La S.LH β->w.L=W.L->La S.LH Ef/\w'.L=W'.L
 hk:∀b B,β b B->S.LH b=bc->W'.L[B]?=W.L[B]?
section
variable {S:FO} {Ck:eF->Prop} {G:Nat} {β Ef QS:Ey} {w W w' W' w'' W'':bD} {ES ES':List eH}
def EU.lt (h:EU S Ck G β w W){b B:Nat}(hb:β b B):b<w.L.size/\B<W.L.size:=by
 cases hh:S.LH b with
 |false =>
  obtain⟨o,O,h1,h2,_⟩:=h.F4 b B hb hh;exact⟨(AJ.1 h1).1,(AJ.1 h2).1⟩
 |true =>
  obtain⟨h1,h2,h3⟩:=h.Ge b B hb hh;refine⟨(AJ.1 h1).1,?_⟩;cases ht:S.LH.Fg with
  |false=>obtain⟨c,t,f,h2⟩:=h2 ht;exact(AJ.1 h2).1
  |true=>exact(AJ.1 (h3 ht)).1
def Fin.refl (h:EU S Ck G β w W):Fin S Ck G β β w W w W [] where
 le:=β.le_refl
 rel:=h
 tape:=rfl
 TAPE:=rfl
 drawn:=AK _
 draws:=rfl
 os:=rfl
 OS:=rfl
 out:=rfl
 OUT:=rfl
 size:=AK _
 SIZE:=AK _
 new:=λ_ _ h=>.inl h
 NEW:=λB h1 h2=>AS h2 (by omega)
 frozen:=λ_ _=>rfl
 KEPT:=λ_ _ _=>rfl
 ro:=λ_ _ _ _ _ _ _ _=>⟨rfl,rfl⟩
 kind:=λ_ _=>rfl
 evs:=by simp
 same:=λh e=>⟨h,e⟩
 hk:=λ_ _ _ _=>rfl
def Fin.trans (h:Fin S Ck G β Ef w W w' W' ES)(k:Fin S Ck G Ef QS w' W' w'' W'' ES'):Fin S Ck G β QS w W w'' W'' (ES++ES') where
 le:=Ey.le_trans h.le k.le
 rel:=k.rel
 tape:=k.tape.trans h.tape
 TAPE:=k.TAPE.trans h.TAPE
 drawn:=AU h.drawn k.drawn
 draws:=by have:=h.draws;have:=k.draws;omega
 os:=k.os.trans h.os
 OS:=k.OS.trans h.OS
 out:=k.out.trans h.out
 OUT:=k.OUT.trans h.OUT
 size:=AU h.size k.size
 SIZE:=AU h.SIZE k.SIZE
 new:=λb B hb=>by
  obtain h1|⟨h1,h2⟩:=k.new b B hb
  .exact h.new b B h1
  .exact .inr ⟨AU h.size h1,AU h.SIZE h2⟩
 NEW:=λB h1 h2=>by
  by_cases hB:B<W'.L.size
  .obtain⟨b,hb⟩:=h.NEW B h1 hB;exact⟨b,k.le _ _ hb⟩
  .exact k.NEW B (by omega) h2
 frozen:=λa ha=>(k.frozen a (AO ha h.size)).trans (h.frozen a ha)
 KEPT:=λB hB hn=>by
  refine(k.KEPT B (AO hB h.SIZE) (λb hb=>?_)).trans (h.KEPT B hB hn);obtain h1|⟨_,h2⟩:=h.new b B hb
  .exact hn b h1
  .omega
 ro:=λb B c t f hb hc hf=>by
  obtain⟨e1,e2⟩:=h.ro b B c t f hb hc hf;obtain⟨k1,k2⟩:=k.ro b B c t f (h.le _ _ hb) (e1.trans hc) hf;exact⟨k1.trans e1,k2.trans e2⟩
 kind:=λb hb=>(k.kind b (AO hb h.size)).trans (h.kind b hb)
 evs:=λht E hE=>by
  obtain hE|hE:=BH.1 hE
  .have:=h.evs ht E hE;cases this with
   |cell hb ho hc hw =>
    have hl:=(h.rel.lt hb).1;exact .cell (k.le _ _ hb) ho (let ⟨n,h1,h2⟩:=hc;⟨n,(k.kind _ hl).trans h1,h2⟩) (λe=>(k.frozen _ hl).trans (hw e))
   |obj hr hc=>exact .obj (k.le _ _ hr) ((k.kind _ (h.rel.lt hr).1).trans hc)
   |mark hm=>exact .mark hm
   |out=>exact .out
  .exact k.evs ht E hE
 same:=λi e=>let ⟨a,b⟩:=h.same i e;k.same a b
 hk:=λb B hb hh=>(k.hk b B (h.le _ _ hb) hh).trans (h.hk b B hb hh)
def Kt.rest {n:Nat}(h:Kt n w W)(k:Fin S Ck G β Ef w W w' W' ES):Kt (n-(w'.drawn-w.drawn)) w' W':=by
 intro i hi q;have h1:=k.drawn;have h2:=k.draws;have:=h (w'.drawn-w.drawn+i) (by omega) q;rw[k.tape,k.TAPE];rw[show w.drawn+(w'.drawn-w.drawn+i)=w'.drawn+i from by omega,show W.drawn+(w'.drawn-w.drawn+i)=W'.drawn+i from by omega] at this;exact this
end
def world {α:Type}:Result α->bD
 |.ok _ w=>w
 |.halt _ w=>w
def qZ {α:Type}:∀(a:Ask α) (w:bD),w.drawn<=(w.ask a).2.drawn:=by
 intro a
 induction a with
 |done a=>intro w;exact AK _
 |ask what range k ih =>
  intro w;simp only[World.ask];split
  .exact ih _ _
  .exact AU (Nat.le_succ w.drawn) (ih _ { w with drawn:=w.drawn+1 })
def NH (w:bD)(c:Sys):w.drawn<=(w.sys c).2.drawn:=by
 have h:=qZ (eo c w.os) w;unfold mm;generalize w.ask (eo c w.os)=r at h;obtain⟨⟨r,os⟩,w'⟩:=r;cases r<;>first|exact h|exact AK _
def jA {p:b5}{w w':bD}{at_ k:bW}{u:U}{v:J}{b:Bool}{l:List bW}(h:w.viewStore p at_ u k v b=.ok (w',l)):w'.drawn=w.drawn:=by
 unfold World.viewStore at h;simp only[bind,Except.bind,pure,Except.pure] at h
 repeat' (split at h)
 all_goals first|(cases h;rfl)|cases h
def kE {p:b5}{w w':bD}{a:bW}{v:J}{b:Bool}{l:List bW}(h:w.farStore p a v b=.ok (w',l)):w'.drawn=w.drawn:=by
 unfold j0 at h;split at h
 .split at h
  .rename_i r hr;cases h;exact jA hr
  .cases h
 .cases h
def dG {α:Type}(P:b5)(md:Mode)(a:bW)(v:J)(k:Sem α)(w:bD)(es:Array eH)(h1:∀x,v≠.agg x)(h2:∀x,v≠.tuple x) :
  (Sem.store md a v k).L P w es=match w.S a with
   |some _=>if w.O a then(.halt (.unsupported (.unsafePointer "a write to bytes that a string shares")) w,es)
     else k.L P (w.LH a v) (es.LE ⟨.cell a,bc,md==.atomic⟩)
   | none => match w.farStore P a v (md == .atomic) with
     |.ok (w,a6)=>k.L P w (es++a6.LK.map (⟨.cell ·,bc,md==.atomic⟩))
     |.error h=>(.halt h w,es):=by
 cases v<;>first|exact AS rfl (h1 _)|exact AS rfl (h2 _)|rfl
def Gh {α:Type}(P:b5)(m:Sem α):∀(w:bD) (es:Array eH),w.drawn<=(world (m.L P w es).1).drawn:=by
 induction m with
 |pure a=>intro w es;exact AK _
 |load md a k ih =>
  intro w es;simp only[bk];split
  .exact ih _ _ _
  .split
   .exact ih _ _ _
   .exact AK _
 |store md a v k ih =>
  intro w es;by_cases h1:∃x,v=.agg x
  .obtain⟨x,rfl⟩:=h1;exact AK _
  by_cases h2:∃x,v=.tuple x
  .obtain⟨x,rfl⟩:=h2;exact AK _
  rw[dG P md a v k w es (λx e=>h1 ⟨x,e⟩) (λx e=>h2 ⟨x,e⟩)];split
  .split
   .exact AK _
   .exact ih (w.LH a v) _
  .split
   .rename_i w' l hw;have:=kE hw;exact AU (BJ this.LH) (ih _ _)
   .exact AK _
 |new o k ih=>intro w es;exact ih _ { w with heap:=w.L.LE o } _
 |shape r k ih=>intro w es;exact ih _ _ _
 |freeze a n k ih=>intro w es;exact AU (by unfold World.freeze;split<;>exact AK _) (ih _ _)
 |frozen a k ih=>intro w es;exact ih _ _ _
 |getObj r k ih =>
  intro w es;simp only[bk];split
  .exact AK _
  .exact ih _ _ _
  .exact AK _
 |setObj r o k ih =>
  intro w es;simp only[bk];split
  .exact AK _
  .exact ih { w with heap:=w.L.L r o } _
  .exact AK _
 |choose q k ih =>
  intro w es;simp only[bk];split
  .exact ih _ _ _
  .exact AU (Nat.le_succ w.drawn) (ih _ { w with drawn:=w.drawn+1 } _)
 |sys c k ih=>intro w es;exact AU (NH w c) (ih _ _ _)
 |program k ih=>intro w es;exact ih _ _ _
 |mark m k ih=>intro w es;exact ih _ _
 |halt h=>intro w es;exact AK _
def ai {α γ:Type}(P:b5)(m:Sem α)(k:α->Sem γ):∀(w:bD) (es:Array eH),(m >>= k).L P w es =
  match m.L P w es with
  |(.ok a w',es')=>(k a).L P w' es'
  |(.halt h w',es')=>(.halt h w',es'):=by
 induction m with
 |pure a=>intro w es;rfl
 |load md a k' ih =>
  intro w es;show((Sem.load md a λv=>(k' v) >>= k)).L P w es=_;simp only[bk];split
  .exact ih _ _ _
  .split
   .exact ih _ _ _
   .rfl
 |store md a v k' ih =>
  intro w es;show((Sem.store md a v (k' >>= k))).L P w es=_;by_cases h1:∃x,v=.agg x
  .obtain⟨x,rfl⟩:=h1;rfl
  by_cases h2:∃x,v=.tuple x
  .obtain⟨x,rfl⟩:=h2;rfl
  rw[dG P md a v _ w es (λx e=>h1 ⟨x,e⟩) (λx e=>h2 ⟨x,e⟩),dG P md a v _ w es (λx e=>h1 ⟨x,e⟩) (λx e=>h2 ⟨x,e⟩)];split
  .split
   .rfl
   .exact ih _ _
  .split
   .exact ih _ _
   .rfl
 |new o k' ih=>intro w es;exact ih _ _ _
 |shape r k' ih=>intro w es;exact ih _ _ _
 |freeze a n k' ih=>intro w es;exact ih _ _
 |frozen a k' ih=>intro w es;exact ih _ _ _
 |getObj r k' ih =>
  intro w es;show((Sem.getObj r λv=>(k' v) >>= k)).L P w es=_;simp only[bk];split
  .rfl
  .exact ih _ _ _
  .rfl
 |setObj r o k' ih =>
  intro w es;show((Sem.setObj r o (k' >>= k))).L P w es=_;simp only[bk];split
  .rfl
  .exact ih _ _
  .rfl
 |choose q k' ih =>
  intro w es;show((Sem.choose q λv=>(k' v) >>= k)).L P w es=_;simp only[bk];split
  .exact ih _ _ _
  .exact ih _ _ _
 |sys c k' ih=>intro w es;exact ih _ _ _
 |program k' ih=>intro w es;exact ih _ _ _
 |mark m k' ih=>intro w es;exact ih _ _
 |halt h=>intro w es;rfl
section
variable (P:EK) (S:FO) (Ck:eF->Prop) (G:Nat)
def Ends {α H2:Type}(β:Ey)(w W:bD)(a6:Array eH)(R:Ey->α->H2->Prop):Result α×Array eH->Result H2×Array eH->Prop
 |(.ok a w',_),r=>∃Ef A W' ES,r=(.ok A W',a6++ES.LK)/\R Ef a A/\Fin S Ck G β Ef w W w' W' ES
 |(.halt (.panic v) w',_),r=>∃Ef V W' ES,r=(.halt (.panic V) W',a6++ES.LK)/\Ee S Ef v V/\Fin S Ck G β Ef w W w' W' ES
 |(.halt (.stuck _) _,_),_=>True
 |(.halt (.unsupported u) _,_),_=>∀g,u≠.initOrder g
 |_,_=>False
def Eo {α H2:Type}(β:Ey)(m:Sem α)(M:Sem H2)(R:Ey->α->H2->Prop):Prop :=
 ∀w W n,EU S Ck G β w W->Kt n w W->∀a6 a7,(world (m.L P.a w a6).1).drawn<=w.drawn+n ->
  Ends S Ck G β w W a7 R (m.L P.a w a6) (M.L P.b W a7)
end
section
variable {P:EK} {S:FO} {Ck:eF->Prop} {G:Nat} {β:Ey} {α H2 γ γ':Type}
def Eb {R:Ey->α->H2->Prop}{a:α}{A:H2}(h:R β a A):Eo P S Ck G β (pure a:Sem α) (pure A:Sem H2) R:=by
 intro w W n hw ht a7 a6 _;exact⟨β,A,W,[],by show(df A W,a6)=_;simp,h,Fin.refl hw⟩
def vP {R R':Ey->α->H2->Prop}{m:Sem α}{M:Sem H2}(h:Eo P S Ck G β m M R)(hr:∀Ef a A,β.le Ef->R Ef a A->R' Ef a A):Eo P S Ck G β m M R':=by
 intro w W n hw ht a6 a7 hb;have:=h w W n hw ht a6 a7 hb;revert this;generalize m.L P.a w a6=r;obtain⟨r,es'⟩:=r;cases r with
 |ok a w' =>
  rintro⟨Ef,A,W',ES,h1,h3,h4⟩;exact⟨Ef,A,W',ES,h1,hr _ _ _ h4.le h3,h4⟩
 |halt x w'=>cases x<;>exact id
def Ea {R:Ey->α->H2->Prop}{R':Ey->γ->γ'->Prop}{m:Sem α}{M:Sem H2}{k:α->Sem γ}{K:H2->Sem γ'}(h:Eo P S Ck G β m M R)
  (hk:∀Ef a A,β.le Ef->R Ef a A->Eo P S Ck G Ef (k a) (K A) R'):Eo P S Ck G β (m >>= k) (M >>= K) R':=by
 intro w W n hw ht aA aB hb;rw[ai] at hb ⊢;rw[ai];have hm:=h w W n hw ht aA aB;revert hb hm;generalize hr:m.L P.a w aA=r;obtain⟨r,a6⟩:=r;cases r with
 |ok a w1 =>
  intro hb hm;simp only at hb ⊢;have h1:=Gh P.a (k a) w1 a6;obtain⟨a7,A,W1,ES,e1,e3,e4⟩:=hm (AU h1 hb);have hd:=e4.drawn;have h2:=hk a7 a A e4.le e3 w1 W1 (n-(w1.drawn-w.drawn)) e4.rel (ht.rest e4) a6 (aB++ES.LK) (by omega);rw[e1];simp only;revert h2;generalize (k a).L P.a w1 a6=r2;obtain⟨r2,es2⟩:=r2;cases r2 with
  |ok b w2 =>
   rintro⟨a8,B,W2,AH,f1,f3,f4⟩;exact⟨a8,B,W2,ES++AH,by rw[f1];simp,f3,e4.trans f4⟩
  |halt x w2 =>
   cases x with
   |panic v =>
    rintro⟨a8,B,W2,AH,f1,f3,f4⟩;exact⟨a8,B,W2,ES++AH,by rw[f1];simp,f3,e4.trans f4⟩
   |_=>exact id
 |halt x w1 =>
  intro hb hm;simp only at hb ⊢;have:=hm hb;cases x with
  |panic v =>
   obtain⟨a7,A,W1,ES,e1,e3,e4⟩:=this;exact⟨a7,A,W1,ES,by rw[e1],e3,e4⟩
  |_=>exact this
def Eg {R:Ey->α->H2->Prop}{s:String}{M:Sem H2}:Eo P S Ck G β (stuck s:Sem α) M R:=λ_ _ _ _ _ _ _ _=>trivial
def Ej {R:Ey->α->H2->Prop}{u:Unsupported}{M:Sem H2}(h:∀g,u≠.initOrder g):Eo P S Ck G β (bh u:Sem α) M R:=λ_ _ _ _ _ _ _ _=>h
def dj {R:Ey->α->H2->Prop}{v V:J}(h:Ee S β v V):Eo P S Ck G β (goPanic v:Sem α) (goPanic V:Sem H2) R:=by
 intro w W n hw ht a7 a6 _;exact⟨β,V,W,[],by show(Result.halt (.panic V) W,a6)=_;simp,h,Fin.refl hw⟩
def aU:Eo P S Ck G β program program (λ_ a A=>a=P.a/\A=P.b):=by
 intro w W n hw ht a7 a6 _;exact⟨β,P.b,W,[],by show(df P.b W,a6)=_;simp,⟨rfl,rfl⟩,Fin.refl hw⟩
def aj (t:U):Eo P S Ck G β (underlying t) (underlying t) (λ_ a A=>a=A/\P.a.LH t=I a):=by
 refine Ea aU ?_;rintro Ef a A _ ⟨rfl,rfl⟩;rw[EK.LH];cases h:P.a.LH t with
 |none=>exact Eg
 |some d=>exact Eb ⟨rfl,rfl⟩
def bm (t:U):Eo P S Ck G β (typeInfo t) (typeInfo t) (λ_ a A=>a=A/\P.a.info? t=I a):=by
 refine Ea aU ?_;rintro Ef a A _ ⟨rfl,rfl⟩;rw[D5];cases h:P.a.info? t with
 |none=>exact Eg
 |some d=>exact Eb ⟨rfl,rfl⟩
def aK (t:U):Eo P S Ck G β (sizeOf t) (sizeOf t) (λ_ a A=>a=A):=by
 refine Ea (bm t) ?_;rintro Ef a A _ ⟨rfl,_⟩;exact Eb rfl
def my (t:U):Eo P S Ck G β (isAgg t) (isAgg t) (λ_ a A=>a=A):=by
 refine Ea (aj t) ?_;rintro Ef a A _ ⟨rfl,_⟩;split<;>exact Eb rfl
def dJ {v V:J}(h:Ee S β v V):Eo P S Ck G β (asIntOf v) (asIntOf V) (λ_ a A=>a=A):=by
 cases h with
 |int k n=>exact Eb rfl
 |ptr=>exact Ej (by simp)
 |_=>exact Eg
def fk {v V:J}(h:Ee S β v V):Eo P S Ck G β (asInt v) (asInt V) (λ_ a A=>a=A):=by
 refine Ea (dJ h) ?_;rintro Ef a A _ rfl;exact Eb rfl
def gZ {v V:J}(h:Ee S β v V):Eo P S Ck G β (asBool v) (asBool V) (λ_ a A=>a=A):=by
 cases h with
 |bool b=>exact Eb rfl
 |_=>exact Eg
def tM {v V:J}(h:Ee S β v V):Eo P S Ck G β (asAgg v) (asAgg V) (λEf a A=>Ei S Ef a A):=by
 cases h with
 |agg h1 h2=>exact Eb ⟨h1,h2⟩
 |_=>exact Eg
end
structure Fh (β:Ey)(a A:bW):Prop where
 LE:β a.LE A.LE
 off:a.off=A.off
 spot:a.spot=A.spot
def Fh.LT {β Ef:Ey}(h:β.le Ef){a A:bW}(r:Fh β a A):Fh Ef a A:=⟨h _ _ r.LE,r.off,r.spot⟩
def Fh.add {β:Ey}{a A:bW}(r:Fh β a A)(n:Nat):Fh β (a.add n) (A.add n):=by
 unfold Addr.add;split
 .exact r
 .exact⟨r.LE,by simp[r.off],rfl⟩
def Fh.ptr {S:FO}{β:Ey}{a A:bW}(r:Fh β a A):Ee S β (.S (I a)) (.S (I A)):=by
 obtain⟨B,O,s'⟩:=A;obtain⟨h1,h2,h3⟩:=r;cases h2;cases h3;exact .ptr _ _ h1
def Fh.sl {S:FO}{β:Ey}{a A:bW}(r:Fh β a A)(l c:Nat):Ee S β (.slice (I a) l c) (.slice (I A) l c):=by
 obtain⟨B,O,s'⟩:=A;obtain⟨h1,h2,h3⟩:=r;cases h2;cases h3;exact .slice _ _ _ _ h1
def IY (a:bW)(v:J):Obj->Obj
 |.cells c elem frozen=>.cells (if a.spot.isSome then c else c.L a.off v) elem frozen
 |o=>o
def EW (w:bD)(a:bW)(v:J)(b:Nat):(w.LH a v).L[b]?=if b=a.LE then(w.L[b]?).map (IY a v) else w.L[b]?:=by
 have e:w.LH a v={ w with heap:=w.L.modify a.LE (IY a v) }:=by
  unfold fc;congr 2
 rw[e];simp only;rw[BR];by_cases h:b=a.LE
 .subst h;simp
 .rw[AN (λe=>h e.LH),AN h]
def bB (w:bD)(a:bW)(v:J):(w.LH a v).L.size=w.L.size:=by simp[fc]
def QW (i:Nat):Obj->Bool
 |.cells _ _ r=>decide (r.1<=i)&&decide (i<r.2)
 |_=>bb
def bg (w:bD)(x:bW):w.O x=((w.L[x.LE]?).map (QW x.off)).LH false:=by
 unfold fq;cases w.L[x.LE]? with
 |none=>rfl
 |some o=>cases o<;>rfl
def vQ (a:bW)(v:J)(i:Nat)(o:Obj):QW i (IY a v o)=QW i o:=by cases o<;>rfl
def gd (w:bD)(a:bW)(v:J)(x:bW):(w.LH a v).O x=w.O x:=by
 rw[bg,bg,EW];split
 .cases w.L[x.LE]? with
  |none=>rfl
  |some o=>simp[vQ]
 .rfl
section
variable {P:EK} {S:FO} {Ck:eF->Prop} {G:Nat} {β:Ey}
def EU.cell {w W:bD}(hw:EU S Ck G β w W){a A:bW}(h:Fh β a A){v:J}(hc:w.S a=I v) :
  ∃c C t f F,w.L[a.LE]?=I (.cells c t f)/\W.L[A.LE]?=I (.cells C t F)/\Ei S β c C/\(∀i,F.1<=i->i<F.2->f.1<=i/\i<f.2) /\
   a.spot=br/\a.off<c.size/\c[a.off]?=I v/\∃V,W.S A=I V/\Ee S β v V:=by
 unfold lh at hc;cases hh:S.LH a.LE with
 |true=>rw[(hw.Ge _ _ h.LE hh).1] at hc;cases hc
 |false =>
  obtain⟨o,O,h1,h2,h3⟩:=hw.F4 _ _ h.LE hh;rw[h1] at hc;cases h3 with
  |cells ha hf =>
   rename_i c C t f F;simp only at hc;have hs:a.spot=none:=by
    cases hs:a.spot with
    |none=>rfl
    |some s=>rw[hs] at hc;simp at hc
   rw[hs] at hc;simp at hc;obtain⟨V,hV,hr⟩:=ha.get? hc;refine⟨c,C,t,f,F,h1,h2,ha,hf,hs,(AJ.1 hc).1,hc,V,?_,hr⟩;unfold lh;rw[h2];simp only[<-h.spot,hs,<-h.off];simpa using hV
  |_=>simp at hc
def Ni {w W:bD}(hw:EU S Ck G β w W){a A:bW}(h:Fh β a A):(∀b,∃s,w.farLoad P.a a b=.error (.stuck s))/\(∀v b,∃s,w.farStore P.a a v b=.error (.stuck s)):=by
 unfold World.farLoad j0 World.noCell;cases hh:S.LH a.LE with
 |true =>
  rw[(hw.Ge _ _ h.LE hh).1];exact⟨λ_=>⟨_,rfl⟩,λ_ _=>⟨_,rfl⟩⟩
 |false =>
  obtain⟨o,O,h1,h2,h3⟩:=hw.F4 _ _ h.LE hh;rw[h1];cases h3<;>exact⟨λ_=>⟨_,rfl⟩,λ_ _=>⟨_,rfl⟩⟩
def iK {a A:bW}(h:Fh β a A)(m:Mode):Eo P S Ck G β (e7 a m) (e7 A m) (λEf v V=>Ee S Ef v V):=by
 intro w W n hw ht a6 a7 _;cases hc:w.S a with
 |none =>
  obtain⟨s,hs⟩:=(Ni (P:=P) hw h).1 (m==.atomic);have:(e7 a m).L P.a w a6=(.halt (.stuck s) w,a6):=by simp only[e7,bk,hc,hs]
  rw[this];trivial
 |some v =>
  obtain⟨c,C,t,f,F,h1,h2,h3,h4,h5,h6,h7,V,h8,h9⟩:=hw.cell h hc;have e1:(e7 a m).L P.a w a6=(.ok v w,a6.LE ⟨.cell a,bb,m==.atomic⟩):=by simp only[e7,bk,hc]
  have e2:(e7 A m).L P.b W a7=(.ok V W,a7.LE ⟨.cell A,bb,m==.atomic⟩):=by simp only[e7,bk,h8]
  rw[e1,e2];refine⟨β,V,W,[⟨.cell A,bb,m==.atomic⟩],by simp,h9,{ Fin.refl hw with evs:=?_ }⟩;intro _ E hE;cases CD.1 hE;exact .cell h.LE h.off ⟨c.size,by rw[h1];rfl,h6⟩ (λe=>by cases e)
def jc {a A:bW}(h:Fh β a A)(m:Mode){v V:J}(hv:Ee S β v V):Eo P S Ck G β (ll a v m) (ll A V m) (λ_ _ _=>True):=by
 intro w W n hw ht a8 a7 _;by_cases h1:∃x,v=.agg x
 .obtain⟨x,rfl⟩:=h1;trivial
 by_cases h2:∃x,v=.tuple x
 .obtain⟨x,rfl⟩:=h2;trivial
 have aA:∀x,V≠.agg x:=λx e=>by subst e;cases hv with
  |agg=>exact h1 ⟨_,rfl⟩
  |blank _ h=>cases h
 have aB:∀x,V≠.tuple x:=λx e=>by subst e;cases hv with
  |tuple=>exact h2 ⟨_,rfl⟩
  |blank _ h=>cases h
 have r1:=dG P.a m a v (.pure ()) w a8 (λx e=>h1 ⟨x,e⟩) (λx e=>h2 ⟨x,e⟩);have r2:=dG P.b m A V (.pure ()) W a7 aA aB;unfold ll;rw[r1,r2];cases hc:w.S a with
 |none =>
  obtain⟨s,hs⟩:=(Ni (P:=P) hw h).2 v (m==.atomic);simp only[hs];trivial
 |some x =>
  obtain⟨c,C,t,f,F,g1,g2,g3,g4,g5,g6,g7,X,g8,g9⟩:=hw.cell h hc;simp only[g8];by_cases hz:w.O a=bc
  .rw[AP hz];exact λg e=>by cases e
  .rw[AN hz];have hZ:¬W.O A=true:=by
    unfold fq at hz ⊢;rw[g1] at hz;rw[g2];simp only[AY,decide_eq_true_eq] at hz ⊢;rw[<-h.off];exact λ⟨p,q⟩=>hz (g4 _ p q)
   rw[AN hZ];refine⟨β,(),W.LH A V,[⟨.cell A,bc,m==.atomic⟩],by show(df () _,a7.LE _)=_;simp,trivial,?_⟩;have ww:∀b B,β b B->(b=a.LE↔B=A.LE):=λb B hb=>⟨λe=>hw.FH.fn (e▸hb) h.LE,λe=>hw.FH.inj hb (e▸h.LE)⟩;have nh:S.LH a.LE=false:=by
    cases hh:S.LH a.LE with
    |false=>rfl
    |true=>rw[(hw.Ge _ _ h.LE hh).1] at g1;cases g1
   have hrel:EU S Ck G β (w.LH a v) (W.LH A V):=by
    refine⟨hw.FH,by rw[bB,bB];exact hw.room,λb B hb hh=>?_,λb B hb hh=>?_,λb hb=>by rw[bB];exact hw.old b hb,hw.env⟩
    .obtain⟨o,O,k1,k2,k3⟩:=hw.F4 b B hb hh;rw[EW,EW];by_cases e:b=a.LE
     .have E:=(ww b B hb).1 e;subst e;subst E;rw[g1] at k1;cases k1;rw[g2] at k2;cases k2;rw[g1,g2];have hs:A.spot=none:=by rw[<-h.spot];exact g5
      refine⟨_,_,by rw[AP rfl];rfl,by rw[AP rfl];rfl,?_⟩;simp only[IY,g5,hs,h.off];exact .cells (g3.Lo _ hv) g4
     .have E:¬B=A.LE:=λE=>e ((ww b B hb).2 E);exact⟨o,O,by rw[AN e];exact k1,by rw[AN E];exact k2,k3⟩
    .have e:¬b=a.LE:=λe=>by subst e;rw[nh] at hh;cases hh
     have E:¬B=A.LE:=λE=>e ((ww b B hb).2 E);rw[EW,EW,AN e,AN E];exact hw.Ge b B hb hh
   have aC:¬(∀i,i<c.size->f.1<=i/\i<f.2):=λhf=>by
    obtain⟨p,q⟩:=hf _ g6;unfold fq at hz;rw[g1] at hz;exact hz (by simp[p,q])
   have a6:∀b,((w.LH a v).L[b]?).map FK=(w.L[b]?).map FK:=λb=>by
    rw[EW];split
    .cases w.L[b]? with
     |none=>rfl
     |some o=>cases o<;>first|rfl|(simp only[IY,FK,B5];split<;>simp)
    .rfl
   exact {
    le:=β.le_refl
    rel:=hrel
    tape:=rfl
    TAPE:=rfl
    drawn:=AK _
    draws:=rfl
    os:=rfl
    OS:=rfl
    out:=rfl
    OUT:=rfl
    size:=by rw[bB];exact AK _
    SIZE:=by rw[bB];exact AK _
    new:=λ_ _ h=>.inl h
    NEW:=λB h1 h2=>AS h2 (by rw[bB];omega)
    frozen:=λx _=>gd w a v x
    KEPT:=λB _ hn=>by rw[EW,AN (λe=>hn _ (e▸h.LE))]
    ro:=λb B c' t' f' hb hc' hf'=>by
     by_cases e:b=a.LE
     .subst e;rw[g1] at hc';cases hc';exact AS hf' aC
     .have E:¬B=A.LE:=λE=>e ((ww b B hb).2 E);exact⟨by rw[EW,AN e],by rw[EW,AN E]⟩
    kind:=λb _=>a6 b
    evs:=λ_ E hE=>by
     cases CD.1 hE
     exact .cell h.LE h.off ⟨c.size,by rw[a6,g1];rfl,g6⟩ (λ_=>by rw[gd];simpa using hz)
    same:=λi e=>by
     have ea:a=A:=by
      obtain⟨b1,o1,s1⟩:=a;obtain⟨b2,o2,s2⟩:=A;obtain⟨q1,q2,q3⟩:=h;cases q2;cases q3;have q4:b1=b2:=i.2 _ _ q1;rw[q4]
     have ev:v=V:=hv.id i;subst ea ev;exact⟨i,by simp only[fc,e]⟩
    hk:=λb B hb hh=>by
     have e:¬b=a.LE:=λe=>by subst e;rw[nh] at hh;cases hh
     have E:¬B=A.LE:=λE=>e ((ww b B hb).2 E)
     rw[EW,AN E] }
def bS (w:bD)(o:Obj)(b:Nat):({ w with heap:=w.L.LE o }:bD).L[b]?=if b=w.L.size then I o else w.L[b]?:=by
 simp only[Cy]
def jE {o O:Obj}(h:Fb S Ck β o O)(hid:La S.LH β->o=O):Eo P S Ck G β (newObj o) (newObj O) (λEf b B=>Ef b B/\S.LH b=bb):=by
 intro w W n hw ht a6 a7 _;have e1:(newObj o).L P.a w a6=(.ok w.L.size { w with heap:=w.L.LE o },a6):=rfl;have e2:(newObj O).L P.b W a7=(.ok W.L.size { W with heap:=W.L.LE O },a7):=rfl;rw[e1,e2];have hG:=hw.room;have nh:S.LH w.L.size=false:=by
  cases hh:S.LH w.L.size with
  |false=>rfl
  |true=>have:=hw.old _ hh;omega
 let Ef:Ey:=λb B=>β b B\/(b=w.L.size/\B=W.L.size)
 have le:β.le Ef:=λb B h=>.inl h;have FH:Ef.Fp G:=by
  refine⟨?_,?_,?_⟩
  .rintro b B B' (h1|⟨rfl,rfl⟩) (h2|⟨h2,rfl⟩)
   .exact hw.FH.fn h1 h2
   .exact AS (hw.lt h1).1 (by omega)
   .exact AS (hw.lt h2).1 (by omega)
   .rfl
  .rintro b b' B (h1|⟨rfl,rfl⟩) (h2|⟨rfl,h2⟩)
   .exact hw.FH.inj h1 h2
   .exact AS (hw.lt h1).2 (by omega)
   .exact AS (hw.lt h2).2 (by omega)
   .rfl
  .rintro b B (h1|⟨rfl,rfl⟩)
   .exact hw.FH.lo h1
   .exact hG
 have rel:EU S Ck G Ef { w with heap:=w.L.LE o } { W with heap:=W.L.LE O }:=by
  refine⟨FH,by simp;omega,?_,?_,λb hb=>by have:=hw.old b hb;simp;omega,hw.env⟩
  .rintro b B (hb|⟨rfl,rfl⟩) hh
   .obtain⟨x,X,k1,k2,k3⟩:=hw.F4 b B hb hh;have:=hw.lt hb;exact⟨x,X,by rw[bS,AN (by omega)];exact k1,by rw[bS,AN (by omega)];exact k2,k3.LT le⟩
   .exact⟨o,O,by rw[bS,AP rfl],by rw[bS,AP rfl],h.LT le⟩
  .rintro b B (hb|⟨rfl,rfl⟩) hh
   .have:=hw.lt hb;rw[bS,bS,AN (by omega),AN (by omega)];exact hw.Ge b B hb hh
   .rw[nh] at hh;cases hh
 refine⟨Ef,W.L.size,_,[],by simp,⟨.inr ⟨rfl,rfl⟩,nh⟩,{
  le:=le
  rel:=rel
  tape:=rfl
  TAPE:=rfl
  drawn:=AK _
  draws:=rfl
  os:=rfl
  OS:=rfl
  out:=rfl
  OUT:=rfl
  size:=by simp
  SIZE:=by simp
  new:=?_
  NEW:=λB h1 h2=>⟨w.L.size,.inr ⟨rfl,by simp at h2;omega⟩⟩
  frozen:=λx hx=>by rw[bg,bg,bS,AN (by omega)]
  KEPT:=λB hB _=>by rw[bS,AN (by omega)]
  ro:=λb B c t f hb _ _=>by have:=hw.lt hb;rw[bS,bS,AN (by omega),AN (by omega)];exact⟨rfl,rfl⟩
  kind:=λb hb=>by rw[bS,AN (by omega)]
  evs:=by simp
  same:=λi e=>⟨⟨i.1,by
   rintro b B (hb|⟨rfl,rfl⟩)
   .exact i.2 b B hb
   .rw[e]⟩,by rw[e,hid i]⟩
  hk:=λb B hb _=>by have:=(hw.lt hb).2;rw[bS,AN (by omega)] }⟩
 rintro b B (hb|⟨rfl,rfl⟩)
 .exact .inl hb
 .exact .inr ⟨AK _,AK _⟩
def jd {b B:Nat}(h:β b B):Eo P S Ck G β (er b) (er B) (λ_ x X=>x=X\/x=br):=by
 intro w W n hw ht a6 a7 _;have e1:(er b).L P.a w a6=(.ok (w.T b) w,a6):=rfl;have e2:(er B).L P.b W a7=(.ok (W.T B) W,a7):=rfl;rw[e1,e2];refine⟨β,W.T B,W,[],by simp,?_,Fin.refl hw⟩;unfold cE;cases hh:S.LH b with
 |true=>rw[(hw.Ge _ _ h hh).1];exact .inr rfl
 |false =>
  obtain⟨o,O,k1,k2,k3⟩:=hw.F4 b B h hh;rw[k1,k2];cases k3 with
  |cells ha _=>exact .inl (by simp[ha.size])
  |_=>exact .inl rfl
def lf {b B:Nat}(h:β b B)(hh:S.LH b=bb):Eo P S Ck G β (er b) (er B) (λ_ x X=>x=X):=by
 intro w W n hw ht a6 a7 _;have e1:(er b).L P.a w a6=(.ok (w.T b) w,a6):=rfl;have e2:(er B).L P.b W a7=(.ok (W.T B) W,a7):=rfl;rw[e1,e2];refine⟨β,W.T B,W,[],by simp,?_,Fin.refl hw⟩;unfold cE;obtain⟨o,O,k1,k2,k3⟩:=hw.F4 b B h hh;rw[k1,k2];cases k3 with
 |cells ha _=>simp[ha.size]
 |_=>rfl
def fH (q:Question):Eo P S Ck G β (cK q) (cK q) (λ_ x X=>x=X):=by
 intro w W n hw ht a6 a7 hb;by_cases hq:q.forced=bc
 .have e1:(cK q).L P.a w a6=(.ok 0 w,a6):=by simp only[cK,bk,hq,if_true]
  have e2:(cK q).L P.b W a7=(.ok 0 W,a7):=by simp only[cK,bk,hq,if_true]
  rw[e1,e2];exact⟨β,0,W,[],by simp,rfl,Fin.refl hw⟩
 .have e1:(cK q).L P.a w a6=(.ok (q.cut (w.tape w.drawn q)) { w with drawn:=w.drawn+1 },a6):=by simp only[cK,bk,AN hq]
  have e2:(cK q).L P.b W a7=(.ok (q.cut (W.tape W.drawn q)) { W with drawn:=W.drawn+1 },a7):=by simp only[cK,bk,AN hq]
  rw[e1] at hb;rw[e1,e2];have:w.tape w.drawn q=W.tape W.drawn q:=by
   have:=ht 0 (by simp only[world] at hb;omega) q;simpa using this
  refine⟨β,q.cut (W.tape W.drawn q),{ W with drawn:=W.drawn+1 },[],by simp,by rw[this],{ Fin.refl hw with evs:=by simp,rel:=⟨hw.FH,hw.room,hw.F4,hw.Ge,hw.old,hw.env⟩,drawn:=Nat.le_succ _,draws:=?_,same:=λi e=>⟨i,e⟩,hk:=λ_ _ _ _=>rfl,.. }⟩
  .show W.drawn+1+w.drawn=W.drawn+(w.drawn+1);omega
def ru:Eo P S Ck G β (mark .noRoom) (mark .noRoom) (λ_ _ _=>True):=by
 intro w W n hw ht a6 a7 _;have e1:(mark .noRoom).L P.a w a6=(.ok () w,a6.LE ⟨.mark .noRoom,bb,bc⟩):=rfl;have e2:(mark .noRoom).L P.b W a7=(.ok () W,a7.LE ⟨.mark .noRoom,bb,bc⟩):=rfl;rw[e1,e2];exact⟨β,(),W,[⟨.mark .noRoom,bb,bc⟩],by simp,trivial,{ Fin.refl hw with evs:=λ_ E hE=>by cases CD.1 hE;exact .mark .noRoom }⟩
def fI {r R:Nat}(h:β r R)(hh:S.LH r=bb):Eo P S Ck G β (b7 r) (b7 R) (λEf o O=>Fb S Ck Ef o O):=by
 intro w W n hw ht a6 a7 _;obtain⟨o,O,k1,k2,k3⟩:=hw.F4 r R h hh;have key:∀(hk:FK o=2),(∀c t f,o≠.cells c t f)->(∀c t f,O≠.cells c t f)->Ends S Ck G β w W a7 (λEf o O=>Fb S Ck Ef o O) ((b7 r).L P.a w a6) ((b7 R).L P.b W a7):=by
  intro hk h1 h2;have e1:(b7 r).L P.a w a6=(.ok o w,a6.LE ⟨.obj r,bb,o.isChan⟩):=by
   simp only[b7,bk,k1]
  have e2:(b7 R).L P.b W a7=(.ok O W,a7.LE ⟨.obj R,bb,O.isChan⟩):=by
   simp only[b7,bk,k2]
  rw[e1,e2];exact⟨β,O,W,[⟨.obj R,bb,O.isChan⟩],by simp,k3,{ Fin.refl hw with evs:=λ_ E hE=>by cases CD.1 hE;exact .obj h (by rw[k1];simp[hk]) }⟩
 cases k3 with
 |cells a f =>
  have:(b7 r).L P.a w a6=(.halt (.stuck "getObj: a row of cells") w,a6):=by simp only[b7,bk,k1]
  rw[this];trivial
 |loop=>exact key rfl (by simp) (by simp)
 |number=>exact key rfl (by simp) (by simp)
 |taken=>exact key rfl (by simp) (by simp)
 |defs=>exact key rfl (by simp) (by simp)
def aX (w:bD)(r:Nat)(o:Obj)(b:Nat)(h:r<w.L.size):({ w with heap:=w.L.L r o }:bD).L[b]?=if b=r then I o else w.L[b]?:=by
 simp only;rw[Cn];by_cases e:r=b
 .subst e;simp[h]
 .rw[AN e,AN (λx=>e x.LH)]
def fJ {r R:Nat}(h:β r R)(hh:S.LH r=bb){o O:Obj}(ho:Fb S Ck β o O)(hk:FK o=2):Eo P S Ck G β (cU r o) (cU R O) (λ_ _ _=>True):=by
 intro w W n hw ht a7 a8 _;obtain⟨x,X,k1,k2,k3⟩:=hw.F4 r R h hh;have lt:=hw.lt h;have hn:∀c t f,o≠.cells c t f:=λc t f e=>by subst e;simp[FK] at hk
 have key:FK x=2->(∀c t f,x≠.cells c t f)->(∀c t f,X≠.cells c t f)->Ends S Ck G β w W a8 (λ_ _ _=>True) ((cU r o).L P.a w a7) ((cU R O).L P.b W a8):=by
  intro hx h1 h2;have e1:(cU r o).L P.a w a7=(.ok () { w with heap:=w.L.L r o },a7.LE ⟨.obj r,bc,o.isChan⟩):=by
   simp only[cU,bk,k1]
  have e2:(cU R O).L P.b W a8=(.ok () { W with heap:=W.L.L R O },a8.LE ⟨.obj R,bc,O.isChan⟩):=by
   simp only[cU,bk,k2]
  rw[e1,e2];have ww:∀b B,β b B->(b=r↔B=R):=λb B hb=>⟨λe=>hw.FH.fn (e▸hb) h,λe=>hw.FH.inj hb (e▸h)⟩;have aA:∀b,(({ w with heap:=w.L.L r o }:bD).L[b]?).map FK=(w.L[b]?).map FK:=λb=>by
   rw[aX _ _ _ _ lt.1];split
   .rename_i e;rw[e,k1];simp[hx,hk]
   .rfl
  refine⟨β,(),{ W with heap:=W.L.L R O },[⟨.obj R,bc,O.isChan⟩],by simp,trivial,{
   le:=β.le_refl
   rel:=⟨hw.FH,by simpa using hw.room,λb B hb a6=>?_,λb B hb a6=>?_,λb hb=>by have:=hw.old b hb;simpa using this,hw.env⟩
   tape:=rfl
   TAPE:=rfl
   drawn:=AK _
   draws:=rfl
   os:=rfl
   OS:=rfl
   out:=rfl
   OUT:=rfl
   size:=by simp
   SIZE:=by simp
   new:=λ_ _ h=>.inl h
   NEW:=λB h1 h2=>AS h2 (by simp;omega)
   frozen:=λa _=>?_
   KEPT:=λB hB hn=>by rw[aX _ _ _ _ lt.2,AN (λe=>hn _ (e▸h))]
   ro:=λb B c t f hb hc _=>?_
   kind:=λb _=>aA b
   evs:=λ_ E hE=>by cases CD.1 hE;exact .obj h (by rw[aA,k1];simp[hx])
   same:=λi e=>⟨i,by rw[e,i.2 _ _ h,ho.id i hn]⟩
   hk:=λb B hb a6=>by
    have e:¬b=r:=λe=>by subst e;rw[hh] at a6;cases a6
    have E:¬B=R:=λE=>e ((ww b B hb).2 E)
    rw[aX _ _ _ _ lt.2,AN E] }⟩
  .obtain⟨y,Y,j1,j2,j3⟩:=hw.F4 b B hb a6;by_cases e:b=r
   .have E:=(ww b B hb).1 e;exact⟨o,O,by rw[aX _ _ _ _ lt.1,AP e],by rw[aX _ _ _ _ lt.2,AP E],ho⟩
   .have E:¬B=R:=λE=>e ((ww b B hb).2 E);exact⟨y,Y,by rw[aX _ _ _ _ lt.1,AN e];exact j1,by rw[aX _ _ _ _ lt.2,AN E];exact j2,j3⟩
  .have e:¬b=r:=λe=>by subst e;rw[hh] at a6;cases a6
   have E:¬B=R:=λE=>e ((ww b B hb).2 E);rw[aX _ _ _ _ lt.1,aX _ _ _ _ lt.2,AN e,AN E];exact hw.Ge b B hb a6
  .rw[bg,bg,aX _ _ _ _ lt.1];split
   .rename_i e;rw[e,k1];cases x<;>cases o<;>first|exact AS rfl (h1 _ _ _)|exact AS rfl (hn _ _ _)|rfl
   .rfl
  .have e:¬b=r:=λe=>by subst e;rw[k1] at hc;cases hc;exact h1 _ _ _ rfl
   have E:¬B=R:=λE=>e ((ww b B hb).2 E);exact⟨by rw[aX _ _ _ _ lt.1,AN e],by rw[aX _ _ _ _ lt.2,AN E]⟩
 cases k3 with
 |cells a f =>
  have:(cU r o).L P.a w a7=(.halt (.stuck "setObj: a row of cells") w,a7):=by simp only[cU,bk,k1]
  rw[this];trivial
 |loop=>exact key rfl (by simp) (by simp)
 |number=>exact key rfl (by simp) (by simp)
 |taken=>exact key rfl (by simp) (by simp)
 |defs=>exact key rfl (by simp) (by simp)
end
def plain:Nat->J->Bool
 |0,_=>bb
 |_+1,.bool _|_+1,.int _ _|_+1,.string _|_+1,.S br|_+1,.slice br _ _|_+1,.nilFunc|_+1,.nilIface|_+1,.map br|_+1,.chan br=>bc
 |n+1,.agg cs=>cs.all (plain n)
 |n+1,.tuple cs=>cs.all (plain n)
 |_,_=>bb
def hP {S:FO}{β:Ey}:∀ {n:Nat} {v:J},plain n v=bc->Ee S β v v:=by
 intro n
 induction n with
 |zero=>intro v h;simp[plain] at h
 |succ n ih =>
  intro v h;cases v with
  |bool b=>exact .bool b
  |int k n=>exact .int k n
  |string s=>exact .string s
  |pointer a=>cases a with
   |none=>exact .Hy
   |some a=>simp[plain] at h
  |slice a l c=>cases a with
   |none=>exact .Hb l c
   |some a=>simp[plain] at h
  |nilFunc=>exact .nilFunc
  |nilIface=>exact .nilIface
  |map r=>cases r with
   |none=>exact .Hp
   |some a=>simp[plain] at h
  |chan r=>cases r with
   |none=>exact .GN
   |some a=>simp[plain] at h
  |agg cs =>
   simp only[plain,Bl] at h;exact .agg rfl λi v V h1 h2=>by rw[h1] at h2;cases h2;exact ih (h v (Bn h1))
  |tuple cs =>
   simp only[plain,Bl] at h;exact .tuple rfl λi v V h1 h2=>by rw[h1] at h2;cases h2;exact ih (h v (Bn h1))
  |_=>simp[plain] at h
def ci (P:b5)(t:U):Bool:=match P.info? t with
 |some i=>match i.zero with
  |some z=>plain 8 z
  |none=>bc
 |none=>bc
section
variable {P:EK} {S:FO} {Ck:eF->Prop} {G:Nat} {β:Ey}
def cJ {t:U}(h:ci P.a t=bc):Eo P S Ck G β (zeroValue t) (zeroValue t) (λEf v V=>v=V/\Ee S Ef v V):=by
 refine Ea (bm t) ?_;rintro Ef a A _ ⟨rfl,hi⟩;unfold ci at h;rw[hi] at h;simp only at h;cases hz:a.zero with
 |none=>exact Ej (by simp)
 |some z=>rw[hz] at h;exact Eb ⟨rfl,hP h⟩
def je {a A:bW}(h:Fh β a A)(i n:Nat){acc a6:Array J}(a7:Ei S β acc a6) :
  Eo P S Ck G β (loadCellsFrom a i n acc) (loadCellsFrom A i n a6) (λEf x X=>Ei S Ef x X):=by
 induction n generalizing β i acc a6 with
 |zero=>exact Eb a7
 |succ n ih =>
  refine Ea (iK (h.add i) .plain) ?_;intro Ef v V zX hv;exact ih (h.LT zX) _ ((a7.LT zX).LE hv)
def ia {a A:bW}(h:Fh β a A)(n:Nat):Eo P S Ck G β (loadCells a n) (loadCells A n) (λEf x X=>Ei S Ef x X):=je h 0 n DA
def gV {a A:bW}(h:Fh β a A){l L:List J}(hl:Fj (Ee S β) l L)(i:Nat):Eo P S Ck G β (fA a l i) (fA A L i) (λ_ _ _=>True):=by
 induction l generalizing β i L with
 |nil=>cases hl;exact Eb trivial
 |cons v l ih =>
  cases hl with
  |cons hv hr =>
   refine Ea (jc (h.add i) .plain hv) ?_;intro Ef _ _ zX _;exact ih (h.LT zX) (hr.LT λ_ _=>Ee.LT zX) _
def DL {α:Type}{R:α->α->Prop}:∀ {l L:List α},l.L=L.L->(∀(i:Nat) (v V:α),l[i]?=I v->L[i]?=I V->R v V)->Fj R l L
 |[],[],_,_=>.nil
 |a::l,A::L,h,k=>.cons (k 0 a A rfl rfl) (DL (by simpa using h) λi v V h1 h2=>k (i+1) v V (by simpa using h1) (by simpa using h2))
 |[],_::_,h,_=>by simp at h
 |_::_,[],h,_=>by simp at h
def Ei.LK {x X:Array J}(r:Ei S β x X):Fj (Ee S β) x.LK X.LK :=
 DL (by simpa using r.size) λi v V h1 h2=>r.at_ i v V (by simpa using h1) (by simpa using h2)
def Fj.get {α:Type}{R:α->α->Prop}{l L:List α}(h:Fj R l L):l.L=L.L/\∀(i:Nat) (v V:α),l[i]?=I v->L[i]?=I V->R v V:=by
 induction h with
 |nil=>exact⟨rfl,by simp⟩
 |cons ha _ ih =>
  refine⟨by simp[ih.1],λi v V h1 h2=>?_⟩;cases i with
  |zero=>simp at h1 h2;subst h1;subst h2;exact ha
  |succ i=>exact ih.2 i v V (by simpa using h1) (by simpa using h2)
def Fj.LK {l L:List J}(h:Fj (Ee S β) l L):Ei S β l.LK L.LK :=
 ⟨by simpa using h.get.1,λi v V h1 h2=>h.get.2 i v V (by simpa using h1) (by simpa using h2)⟩
def jF (t:U){a A:bW}(h:Fh β a A):Eo P S Ck G β (loadVar t a) (loadVar t A) (λEf v V=>Ee S Ef v V):=by
 refine Ea (my t) ?_;rintro Ef b _ zX rfl;split
 .refine Ea (aK t) ?_;rintro a7 n _ a6 rfl;refine Ea (ia ((h.LT zX).LT a6) n) ?_;intro a8 x X _ hx;exact Eb hx.agg
 .exact iK (h.LT zX) _
def nO (t:U){a A:bW}(h:Fh β a A){v V:J}(hv:Ee S β v V):Eo P S Ck G β (storeVar t a v) (storeVar t A V) (λ_ _ _=>True):=by
 refine Ea (aK t) ?_;rintro Ef n _ zX rfl;rw[hv.cells.size];split
 .exact λ_ _ _ _ _ _ _ _=>trivial
 .exact gV (h.LT zX) (hv.LT zX).cells.LK 0
def fK (t:U){c C:Array J}(h:Ei S β c C):Eo P S Ck G β (newRow t c) (newRow t C) (λEf a A=>Fh Ef a A):=by
 refine Ea (jE (.cells h (λi h1 h2=>AS h2 (by simp))) (λi=>by rw[h.id i])) ?_;rintro Ef b B _ ⟨hb,_⟩;exact Eb ⟨hb,rfl,rfl⟩
def ib (t:U){v V:J}(h:Ee S β v V):Eo P S Ck G β (newVar t v) (newVar t V) (λEf a A=>Fh Ef a A):=fK t h.cells
def cD (t:U){c C:Array J}(h:Ei S β c C)(o:Nat):Eo P S Ck G β (part t c o) (part t C o) (λEf v V=>Ee S Ef v V):=by
 refine Ea (my t) ?_;rintro Ef b _ zX rfl;split
 .refine Ea (aK t) ?_;rintro a7 n _ a6 rfl;exact Eb (((h.LT zX).LT a6).extract _ _).agg
 .cases hc:c[o]? with
  |none=>exact Eg
  |some v=>obtain⟨V,hV,hr⟩:=(h.LT zX).get? hc;rw[hV];exact Eb hr
def cZ {v V:J}(h:Ee S β v V):Eo P S Ck G β (kn v) (kn V) (λEf a A=>Fh Ef a A):=by
 cases h with
 |ptr o s hb=>exact Eb ⟨hb,rfl,rfl⟩
 |_=>exact Eg
def ay {α H2:Type}{R:Ey->α->H2->Prop}(e:RuntimeError)(h:match e with|.bounds ..|.error _|.plain _|.nilDeref=>True|_=>False) :
  Eo P S Ck G β (bn e:Sem α) (bn e:Sem H2) R:=by
 refine Ea aU ?_;rintro Ef a A _ ⟨rfl,rfl⟩;cases e with
 |bounds x y s c =>
  refine dj (.iface _ (hP (n:=2) ?_));simp[plain]
 |error m=>exact dj (.iface _ (.string _))
 |plain m=>exact dj (.iface _ (.string _))
 |nilDeref=>exact dj (.iface _ (.string _))
 |typeAssertion i c a m=>exact h.S
 |panicNil=>exact h.S
 |unhashable t=>exact h.S
def FB {α H2:Type}{R:Ey->α->H2->Prop}(k:eG)(x y:Int)(c:ko):Eo P S Ck G β (ez k x y c:Sem α) (ez k x y c:Sem H2) R:=by
 unfold ez;split
 .refine Ea (R:=λ_ a A=>a=A) ?_ ?_
  .refine Ea (fH _) ?_;rintro Ef a A _ rfl;exact Eb rfl
  .rintro Ef a A _ rfl;exact ay (.bounds _ _ _ _) trivial
 .refine Ea (Eb (R:=λ_ a A=>a=A) rfl) ?_;rintro Ef a A _ rfl;exact ay (.bounds _ _ _ _) trivial
end
def kH (P:b5)(s:U)(i:Nat):Bool:=match P.LH s with
 |some (.struct fs)=>match fs[i]? with
  |some f=>match P.info? f.type with
   |some x=>x.size != 0
   |none=>bc
  |none=>bc
 |_=>bc
section
variable {P:EK} {S:FO} {Ck:eF->Prop} {G:Nat} {β:Ey}
def pJ (t:U):Eo P S Ck G β (sizeOf t) (sizeOf t) (λ_ a A=>a=A/\∃x,P.a.info? t=I x/\x.size=a):=by
 refine Ea (bm t) ?_;rintro Ef a A _ ⟨rfl,h⟩;exact Eb ⟨rfl,_,h,rfl⟩
def l7 {a A:bW}(h:Fh β a A)(f:Field)(hf:∀x,P.a.info? f.type=I x->x.size≠0):Eo P S Ck G β (fieldPlace a f) (fieldPlace A f) (λEf x X=>Fh Ef x X):=by
 refine Ea (pJ _) ?_;rintro Ef n _ zX ⟨rfl,x,h1,h2⟩;split
 .rename_i h0;exact AS (h2.trans h0) (hf x h1)
 .exact Eb ((h.LT zX).add _)
def pK (s:U){v V:J}(h:Ee S β v V)(i:Nat)(hf:kH P.a s i=bc):Eo P S Ck G β (kv s v i) (kv s V i) (λEf x X=>Ee S Ef x X):=by
 refine Ea (aj _) ?_;rintro Ef d _ zX ⟨rfl,hd⟩;split
 .rename_i fs;split
  .rename_i f he;refine Ea (cZ (h.LT zX)) ?_;intro a6 a A _ ha;refine Ea (l7 ha _ ?_) ?_
   .intro x hx;simp only[kH,hd,he,hx] at hf;simpa using hf
   .intro a7 x X _ hx;exact Eb hx.ptr
  .exact Eg
 .exact Eg
def iL (t:U)(k:eG)(i:Int)(base:Option bW)(len:Nat)(elem:U):Sem Value:=do
 let a6:=len<=1&&(match<-underlying t with|.array ..=>bc|_=>bb)
 match base with
 |some a =>
  if 0<=i/\i<len then pure (.S (I (a.add (i.L*(<-sizeOf elem)))))
  else if a6 then bh (.noEntry "op/indexAddr.an index out of range at an array of length 0 or 1 (ledger 616)")
  else ez k i len .index
 |none=>ez k i 0 .index
inductive Jl (β:Ey):Option bW->Option bW->Prop
 |none:Jl β br br
 |some {a A:bW}:Fh β a A->Jl β (I a) (I A)
def gC (t:U)(k:eG)(i:Int){b B:Option bW}(hb:Jl β b B)(len:Nat)(elem:U):Eo P S Ck G β (iL t k i b len elem) (iL t k i B len elem) (λEf y Y=>Ee S Ef y Y):=by
 refine Ea (aj _) ?_;rintro Ef d _ zX ⟨rfl,_⟩;dsimp only;cases hb with
 |none=>exact FB _ _ _ _
 |some ha =>
  dsimp only;split
  .refine Ea (aK _) ?_;rintro a7 n _ a6 rfl;exact Eb (((ha.LT zX).LT a6).add _).ptr
  .cases d<;>dsimp only<;>split<;>first|exact FB _ _ _ _|exact Ej (λg e=>by cases e)
def nP (t:U)(k:eG)(i:Int){b B:bW}(elem:U):Eo P S Ck G β (iL t k i (I b) 0 elem) (iL t k i (I B) 0 elem) (λEf y Y=>Ee S Ef y Y):=by
 refine Ea (aj _) ?_;rintro Ef d _ zX ⟨rfl,_⟩;dsimp only;split
 .exfalso;omega
 .cases d<;>dsimp only<;>split<;>first|exact FB _ _ _ _|exact Ej (λg e=>by cases e)
def pL (t:U){v V x X:J}(h:Ee S β v V)(hx:Ee S β x X):Eo P S Ck G β (kx t v x) (kx t V X) (λEf y Y=>Ee S Ef y Y):=by
 refine Ea (dJ hx) ?_;rintro a8 ⟨k,i⟩ _ a6 rfl;refine Ea (aj _) ?_;rintro aA d _ a7 ⟨rfl,_⟩;have h2:=(h.LT a6).LT a7;cases d with
 |array len elem =>
  refine Ea (cZ h2) ?_;intro aB a A _ ha;exact gC t k i (.some ha) len elem
 |slice elem =>
  cases h2 with
  |Hb l c=>exact gC t k i .none l elem
  |slice o s l c hb=>exact gC t k i (.some (Fh.mk (a:=⟨_,o,s⟩) (A:=⟨_,o,s⟩) hb rfl rfl)) l elem
  |Fq _=>exact nP t k i elem
  |_=>exact λ_ _ _ _ _ _ _ _=>trivial
 |_=>exact λ_ _ _ _ _ _ _ _=>trivial
def de {x X:J}(hx:Ee S β x X)(y:Nat)(c:ko):Eo P S Ck G β (N x y c) (N X y c) (λ_ a A=>a=A):=by
 refine Ea (dJ hx) ?_;rintro a7 ⟨k,i⟩ _ a6 rfl;dsimp only;split
 .exact Eb rfl
 .exact FB _ _ _ _
inductive G5 (S:FO)(β:Ey):Option J->Option J->Prop
 |none:G5 S β br br
 |some {a A:J}:Ee S β a A->G5 S β (I a) (I A)
def G5.LT {Ef:Ey}(h:β.le Ef){a A:Option J}(r:G5 S β a A):G5 S Ef a A:=by
 cases r with
 |none=>exact .none
 |some r=>exact .some (r.LT h)
def cj (sl:Bool)(len cap:Nat){l L h H m M:Option J}(hl:G5 S β l L)(hh:G5 S β h H)(hm:G5 S β m M) :
  Eo P S Ck G β (b8 sl len cap l h m) (b8 sl len cap L H M) (λ_ a A=>a=A):=by
 unfold b8;have e1:m.isSome=M.isSome:=by cases hm<;>rfl
 have low : ∀ (Ef : Ey) (m' h' : Nat), β.le Ef -> Eo P S Ck G Ef (do
   let l<-match l with
    |some v=>N v h' (if m.isSome then .slice3C else .sliceB)
    |none=>pure 0
   pure (l,h',m')) (do
   let l<-match L with
    |some v=>N v h' (if M.isSome then .slice3C else .sliceB)
    |none=>pure 0
   pure (l,h',m')) (λ_ a A=>a=A):=by
  intro Ef m' h' zX;rw[e1];cases hl with
  |none=>exact Ea (Eb (R:=λ_ a A=>a=A) rfl) (by rintro a6 a _ _ rfl;exact Eb rfl)
  |some hv=>exact Ea (de (hv.LT zX) _ _) (by rintro a6 a _ _ rfl;exact Eb rfl)
 have a7 : ∀ (Ef : Ey) (m' : Nat), β.le Ef -> Eo P S Ck G Ef (do
   let h'<-match h,m with
    |some v,I _=>N v m' .slice3B
    |some v,br=>N v m' (if sl then .sliceAcap else .sliceAlen)
    |none,br=>pure len
    |none,I _=>stuck "Slice: max without high"
   let l<-match l with
    |some v=>N v h' (if m.isSome then .slice3C else .sliceB)
    |none=>pure 0
   pure (l,h',m')) (do
   let h'<-match H,M with
    |some v,I _=>N v m' .slice3B
    |some v,br=>N v m' (if sl then .sliceAcap else .sliceAlen)
    |none,br=>pure len
    |none,I _=>stuck "Slice: max without high"
   let l<-match L with
    |some v=>N v h' (if M.isSome then .slice3C else .sliceB)
    |none=>pure 0
   pure (l,h',m')) (λ_ a A=>a=A):=by
  intro Ef m' zX;cases hm with
  |none =>
   cases hh with
   |none=>exact Ea (Eb (R:=λ_ a A=>a=A) rfl) (by rintro a6 a _ h2 rfl;exact low a6 _ _ (Ey.le_trans zX h2))
   |some hv=>exact Ea (de (hv.LT zX) _ _) (by rintro a6 a _ h2 rfl;exact low a6 _ _ (Ey.le_trans zX h2))
  |some hw =>
   cases hh with
   |none=>exact λ_ _ _ _ _ _ _ _=>trivial
   |some hv=>exact Ea (de (hv.LT zX) _ _) (by rintro a6 a _ h2 rfl;exact low a6 _ _ (Ey.le_trans zX h2))
 cases hm with
 |none=>exact Ea (Eb (R:=λ_ a A=>a=A) rfl) (by rintro a6 a _ h2 rfl;exact a7 a6 _ h2)
 |some hv=>exact Ea (de hv _ _) (by rintro a6 a _ h2 rfl;exact a7 a6 _ h2)
def cS {x X:J}(hx:Ee S β x X)(c:ko):Eo P S Ck G β (N x 0 c) (N X 0 c) (λ_ a A=>a=0/\A=0):=by
 refine Ea (dJ hx) ?_;rintro a7 ⟨k,i⟩ _ a6 rfl;dsimp only;split
 .exact Eb ⟨by omega,by omega⟩
 .exact FB _ _ _ _
def jG (sl:Bool){l L h H m M:Option J}(hl:G5 S β l L)(hh:G5 S β h H)(hm:G5 S β m M) :
  Eo P S Ck G β (b8 sl 0 0 l h m) (b8 sl 0 0 L H M) (λ_ a A=>a=(0,0,0)/\A=(0,0,0)):=by
 unfold b8;have e1:m.isSome=M.isSome:=by cases hm<;>rfl
 have low : ∀ (Ef : Ey), β.le Ef -> Eo P S Ck G Ef (do
   let l<-match l with
    |some v=>N v 0 (if m.isSome then .slice3C else .sliceB)
    |none=>pure 0
   pure (l,0,0)) (do
   let l<-match L with
    |some v=>N v 0 (if M.isSome then .slice3C else .sliceB)
    |none=>pure 0
   pure (l,0,0)) (λ_ a A=>a=(0,0,0)/\A=(0,0,0)):=by
  intro Ef zX;rw[e1];cases hl with
  |none=>exact Ea (Eb (R:=λ_ a A=>a=0/\A=0) ⟨rfl,rfl⟩) (by rintro a6 _ _ _ ⟨rfl,rfl⟩;exact Eb ⟨rfl,rfl⟩)
  |some hv=>exact Ea (cS (hv.LT zX) _) (by rintro a6 _ _ _ ⟨rfl,rfl⟩;exact Eb ⟨rfl,rfl⟩)
 have a7 : ∀ (Ef : Ey), β.le Ef -> Eo P S Ck G Ef (do
   let h'<-match h,m with
    |some v,I _=>N v 0 .slice3B
    |some v,br=>N v 0 (if sl then .sliceAcap else .sliceAlen)
    |none,br=>pure 0
    |none,I _=>stuck "Slice: max without high"
   let l<-match l with
    |some v=>N v h' (if m.isSome then .slice3C else .sliceB)
    |none=>pure 0
   pure (l,h',0)) (do
   let h'<-match H,M with
    |some v,I _=>N v 0 .slice3B
    |some v,br=>N v 0 (if sl then .sliceAcap else .sliceAlen)
    |none,br=>pure 0
    |none,I _=>stuck "Slice: max without high"
   let l<-match L with
    |some v=>N v h' (if M.isSome then .slice3C else .sliceB)
    |none=>pure 0
   pure (l,h',0)) (λ_ a A=>a=(0,0,0)/\A=(0,0,0)):=by
  intro Ef zX;cases hm with
  |none =>
   cases hh with
   |none=>exact Ea (Eb (R:=λ_ a A=>a=0/\A=0) ⟨rfl,rfl⟩) (by rintro a6 _ _ h2 ⟨rfl,rfl⟩;exact low a6 (Ey.le_trans zX h2))
   |some hv=>exact Ea (cS (hv.LT zX) _) (by rintro a6 _ _ h2 ⟨rfl,rfl⟩;exact low a6 (Ey.le_trans zX h2))
  |some hw =>
   cases hh with
   |none=>exact λ_ _ _ _ _ _ _ _=>trivial
   |some hv=>exact Ea (cS (hv.LT zX) _) (by rintro a6 _ _ h2 ⟨rfl,rfl⟩;exact low a6 (Ey.le_trans zX h2))
 cases hm with
 |none=>exact Ea (Eb (R:=λ_ a A=>a=0/\A=0) ⟨rfl,rfl⟩) (by rintro a6 _ _ h2 ⟨rfl,rfl⟩;exact a7 a6 h2)
 |some hv=>exact Ea (cS hv _) (by rintro a6 _ _ h2 ⟨rfl,rfl⟩;exact a7 a6 h2)
def eD {v V:J}(h:Ee S β v V):Eo P S Ck G β (asAddr v) (asAddr V) (λEf a A=>Fh Ef a A):=by
 cases h with
 |ptr o s hb=>exact Eb ⟨hb,rfl,rfl⟩
 |Hy=>exact ay .nilDeref trivial
 |_=>exact Eg
def tN (t:U){x X:J}(hx:Ee S β x X){l L h H m M:Option J}(hl:G5 S β l L)(hh:G5 S β h H)(hm:G5 S β m M) :
  Eo P S Ck G β (ln t x l h m) (ln t X L H M) (λEf a A=>Ee S Ef a A):=by
 refine Ea (aj _) ?_;rintro aD d _ zX ⟨rfl,_⟩;have e1:m.isSome=M.isSome:=by cases hm<;>rfl
 replace hx:=hx.LT zX;cases d with
 |string =>
  cases hx with
  |string s =>
   dsimp only;rw[e1];split
   .exact λ_ _ _ _ _ _ _ _=>trivial
   .refine Ea (cj _ _ _ (hl.LT zX) (hh.LT zX) .none) ?_;rintro a8 ⟨a,b,c⟩ _ _ rfl;exact Eb (.string _)
  |_=>exact Eg
 |slice e =>
  cases hx with
  |Hb len cap =>
   refine Ea (cj _ _ _ (hl.LT zX) (hh.LT zX) (hm.LT zX)) ?_;rintro a8 ⟨a,b,c⟩ _ _ rfl;refine Ea (aK _) ?_;rintro aA n _ _ rfl;refine Eb ?_;split
   .exact .Hb _ _
   .exact .Hb _ _
  |slice o s len cap hb =>
   refine Ea (cj _ _ _ (hl.LT zX) (hh.LT zX) (hm.LT zX)) ?_;rintro a8 ⟨a,b,c⟩ _ a7 rfl;refine Ea (aK _) ?_;rintro aA n _ a6 rfl;refine Eb ?_;split
   .exact .slice _ _ _ _ (a6 _ _ (a7 _ _ hb))
   .exact Fh.sl (Fh.add (Fh.mk (a:=⟨_,o,s⟩) (A:=⟨_,o,s⟩) (a6 _ _ (a7 _ _ hb)) rfl rfl) _) _ _
  |Fq h0 =>
   refine Ea (jG _ (hl.LT zX) (hh.LT zX) (hm.LT zX)) ?_;rintro a8 _ _ a7 ⟨rfl,rfl⟩;refine Ea (aK _) ?_;rintro aA n _ a6 rfl;exact Eb (.Fq h0)
  |_=>exact Eg
 |pointer arr =>
  refine Ea (eD hx) ?_;intro a8 a A a7 ha;refine Ea (aj _) ?_;rintro aA d _ a6 ⟨rfl,_⟩;cases d with
  |array n elem =>
   refine Ea (cj _ _ _ ((((hl.LT zX).LT a7)).LT a6) ((((hh.LT zX).LT a7)).LT a6) ((((hm.LT zX).LT a7)).LT a6)) ?_;rintro aF ⟨a,b,c⟩ _ aB rfl;refine Ea (aK _) ?_;rintro aG n _ aC rfl;have ha':=((ha.LT a6).LT aB).LT aC;refine Eb ?_;split
   .exact ha'.sl _ _
   .exact(ha'.add _).sl _ _
  |_=>exact λ_ _ _ _ _ _ _ _=>trivial
 |_=>exact λ_ _ _ _ _ _ _ _=>trivial
def pM (t:U){x X:J}(hx:Ee S β x X){l L h H m M:Option J}(hl:G5 S β l L)(hh:G5 S β h H)(hm:G5 S β m M) :
  Eo P S Ck G β (k0 t x l h m) (k0 t X L H M) (λEf a A=>Ee S Ef a A):=by
 refine Ea (aj _) ?_;rintro aA d _ zX ⟨rfl,_⟩;cases d with
 |array n elem =>
  refine Ea (cZ (hx.LT zX)) ?_;intro aB a A a6 ha;refine Ea (cj _ _ _ ((hl.LT zX).LT a6) ((hh.LT zX).LT a6) ((hm.LT zX).LT a6)) ?_;rintro aC ⟨a,b,c⟩ _ a7 rfl;refine Ea (aK _) ?_;rintro aD n _ a8 rfl;have ha':=(ha.LT a7).LT a8;refine Eb ?_;split
  .exact ha'.sl _ _
  .exact(ha'.add _).sl _ _
 |_=>exact tN t (hx.LT zX) (hl.LT zX) (hh.LT zX) (hm.LT zX)
def tO (t:U){x X:J}(hx:Ee S β x X)(i:Nat):Eo P S Ck G β (lu t x i) (lu t X i) (λEf a A=>Ee S Ef a A):=by
 refine Ea (aj _) ?_;rintro a6 d _ zX ⟨rfl,_⟩;cases d with
 |struct fs =>
  dsimp only;split
  .refine Ea (tM (hx.LT zX)) ?_;intro a7 c C _ hc;exact cD _ hc _
  .exact Eg
 |_=>exact λ_ _ _ _ _ _ _ _=>trivial
def tP (t:U){v V x X:J}(h:Ee S β v V)(hx:Ee S β x X):Eo P S Ck G β (lv t v x) (lv t V X) (λEf y Y=>Ee S Ef y Y):=by
 refine Ea (dJ hx) ?_;rintro aA ⟨k,i⟩ _ a6 rfl;refine Ea (aj _) ?_;rintro aB d _ a7 ⟨rfl,_⟩;have h2:=(h.LT a6).LT a7;cases d with
 |array len elem =>
  cases h2 with
  |agg h1 h2 =>
   dsimp only;split
   .refine Ea (aK _) ?_;rintro aC n _ a8 rfl;exact cD _ (Ei.LT a8 ⟨h1,h2⟩) _
   .exact FB _ _ _ _
  |_=>exact Eg
 |string =>
  cases h2 with
  |string s =>
   dsimp only;split
   .exact Eb (.int _ _)
   .exact FB _ _ _ _
  |_=>exact Eg
 |_=>exact λ_ _ _ _ _ _ _ _=>trivial
def ic {α γ:Type}{f:α->Sem γ}(h:∀x β,Eo P S Ck G β (f x) (f x) (λ_ a A=>a=A)):∀(l:List α) (β:Ey),Eo P S Ck G β (l.mapM f) (l.mapM f) (λ_ a A=>a=A)
 |[],β=>by simp only[List.mapM_nil];exact Eb rfl
 |x::l,β=>by
  simp only[List.mapM_cons];refine Ea (h x β) ?_;rintro a6 a _ _ rfl;refine Ea (ic h l a6) ?_;rintro a7 b _ _ rfl;exact Eb rfl
end
section
variable {P:EK} {S:FO} {Ck:eF->Prop} {G:Nat} {β:Ey}
inductive Gl (S:FO)(β:Ey):List (Nat×J)->List (Nat×J)->Prop
 |nil:Gl S β [] []
 |cons {i:Nat} {v V:J} {l L:List (Nat×J)}:Ee S β v V->Gl S β l L->Gl S β ((i,v)::l) ((i,V)::L)
def Gl.LT {Ef:Ey}(h:β.le Ef){l L:List (Nat×J)}(r:Gl S β l L):Gl S Ef l L:=by
 induction r with
 |nil=>exact .nil
 |cons v _ ih=>exact .cons (v.LT h) ih
def vR {c C:Array J}{l L:List J}(off k:Nat)(hc:Ei S β c C)(hl:Fj (Ee S β) l L) :
  Ei S β ((l.zipIdx k).foldl (λcs (x:J×Nat)=>cs.L (off+x.2) x.1) c) ((L.zipIdx k).foldl (λcs (x:J×Nat)=>cs.L (off+x.2) x.1) C):=by
 induction hl generalizing c C k with
 |nil=>exact hc
 |cons ha _ ih =>
  simp only[List.zipIdx_cons,B1];exact ih _ (hc.Lo _ ha)
inductive MM (S:FO)(β:Ey):Option (Array J)->Option (Array J)->Prop
 |none:MM S β br br
 |some {a A:Array J}:Ei S β a A->MM S β (I a) (I A)
def jf (place:Nat->Option (Nat×Nat)){l L:List (Nat×J)}(hl:Gl S β l L){c C:Array J}(hc:Ei S β c C) :
  MM S β (cq place c l) (cq place C L):=by
 induction hl generalizing c C with
 |nil=>exact .some hc
 |@cons i v V l L hv _ ih =>
  simp only[cq];cases place i with
  |none=>exact .none
  |some os =>
   obtain⟨off,size⟩:=os;dsimp only;rw[hv.cells.size,hc.size];split
   .exact .none
   .refine ih ?_;have h1:=vR (S:=S) (β:=β) off 0 hc hv.cells.LK;have e:∀(w:J) (c:Array J),w.cells.zipIdx.foldl (λcs x=>match x with|(c,j)=>cs.L (off+j) c) c=(w.cells.LK.zipIdx 0).foldl (λcs (x:J×Nat)=>cs.L (off+x.2) x.1) c:=by
     intro w c;rw[<-Dp];simp
    rw[e,e];exact h1
def tQ (t:U)(hz:ci P.a t=bc){l L:Array (Nat×J)}(hl:Gl S β l.LK L.LK):Eo P S Ck G β (lx t l) (lx t L) (λEf a A=>Ee S Ef a A):=by
 refine Ea (cJ hz) ?_;rintro aC z _ a8 ⟨rfl,hz⟩;refine Ea (aj _) ?_;rintro aB d _ a7 ⟨rfl,_⟩;cases d with
 |struct fs =>
  refine Ea (R:=λ_ a A=>a=A) ?_ ?_
  .rw[Dk];have:=ic (P:=P) (S:=S) (Ck:=Ck) (G:=G) (f:=λ(f:Field)=>do pure (f.offset,<-sizeOf f.type)) (λx β=>Ea (aK _) (by rintro aA n _ _ rfl;exact Eb rfl)) fs.LK aB;exact Ea this (by rintro aA n _ _ rfl;exact Eb rfl)
  .rintro aA places _ a6 rfl;have h:=jf (λi=>places[i]?) ((hl.LT a8).LT a7 |>.LT a6) ((hz.LT a7).LT a6).cells;revert h;generalize cq (λi=>places[i]?) z.cells l.LK=x;generalize cq (λi=>places[i]?) z.cells L.LK=X;intro h;cases h with
   |none=>exact λ_ _ _ _ _ _ _ _=>trivial
   |some h=>exact Eb h.agg
 |array n elem =>
  refine Ea (aK _) ?_;rintro aA size _ a6 rfl;have h:=jf (λi=>I (i*size,size)) ((hl.LT a8).LT a7 |>.LT a6) ((hz.LT a7).LT a6).cells;revert h;generalize cq (λi=>I (i*size,size)) z.cells l.LK=x;generalize cq (λi=>I (i*size,size)) z.cells L.LK=X;intro h;cases h with
  |none=>exact λ_ _ _ _ _ _ _ _=>trivial
  |some h=>exact Eb h.agg
 |_=>exact λ_ _ _ _ _ _ _ _=>trivial
def ie {z:Array J}(h:Ei S β z z)(n:Nat):Ei S β ((b9 n).map (z[· % z.size]!)) ((b9 n).map (z[· % z.size]!)):=by
 refine Ei.map _ λi _=>?_;by_cases hz:i % z.size<z.size
 .rw[getElem!_pos z _ hz];exact h.at_ _ _ _ (AV hz) (AV hz)
 .rw[getElem!_neg z _ hz];exact Ee.bool bb
def ma (t:U)(n:Nat)(hz:∀e,P.a.LH t=I (.slice e)->ci P.a e=bc){l L:Array (Nat×J)}(hl:Gl S β l.LK L.LK) :
  Eo P S Ck G β (ik t n l) (ik t n L) (λEf a A=>Ee S Ef a A):=by
 refine Ea (aj _) ?_;rintro aC d _ a7 ⟨rfl,hd⟩;cases d with
 |slice e =>
  refine Ea (aK _) ?_;rintro aB size _ a8 rfl
  have key : ∀ (Ef : Ey) (z : Array J), aB.le Ef -> Ei S Ef z z -> Eo P S Ck G Ef (do
    let I cells:=cq (λi=>I (i*size,size)) ((b9 (n*size)).map (z[· % z.size]!)) l.LK
     |stuck "buildSlice: a part of the wrong size"
    pure (.slice (I (<-newRow e cells)) n n):Sem J) (do
    let I cells:=cq (λi=>I (i*size,size)) ((b9 (n*size)).map (z[· % z.size]!)) L.LK
     |stuck "buildSlice: a part of the wrong size"
    pure (.slice (I (<-newRow e cells)) n n):Sem J) (λEf a A=>Ee S Ef a A):=by
   intro Ef z zX hz;have h:=jf (λi=>I (i*size,size)) ((hl.LT a7).LT a8 |>.LT zX) (ie hz (n*size));revert h;generalize cq (λi=>I (i*size,size)) ((b9 (n*size)).map (z[· % z.size]!)) l.LK=x;generalize cq (λi=>I (i*size,size)) ((b9 (n*size)).map (z[· % z.size]!)) L.LK=X;intro h;cases h with
   |none=>exact λ_ _ _ _ _ _ _ _=>trivial
   |some h =>
    refine Ea (fK e h) ?_;intro a6 a A _ ha;exact Eb (ha.sl _ _)
  dsimp only;by_cases h1:n*size > 2 ^ 24
  .simp only[AP h1];refine Ea (R:=λ_ (_ _:Unit)=>False) ?_ (λ_ _ _ _ h=>h.S);refine Ej ?_;intro g e;cases e
  .simp only[AN h1];by_cases h2:n*size=0
   .simp only[AP h2];exact Ea (Eb (R:=λEf (a A:Array J)=>a=A/\Ei S Ef a a) ⟨rfl,DA⟩) (by rintro a6 z _ zX ⟨rfl,h⟩;exact key _ _ zX h)
   .simp only[AN h2];refine Ea (cJ (hz e hd)) ?_;rintro a6 z _ aA ⟨rfl,h⟩;exact Ea (Eb (R:=λEf (a A:Array J)=>a=A/\Ei S Ef a a) ⟨rfl,h.cells⟩) (by rintro aD z _ zX ⟨rfl,h⟩;exact key _ _ (Ey.le_trans aA zX) h)
 |_=>exact λ_ _ _ _ _ _ _ _=>trivial
def jH (n:Nat):Eo P S Ck G β (askRoom n) (askRoom n) (λ_ _ _=>True):=by
 unfold askRoom;split
 .exact ru
 .exact Eb trivial
def mz (t:U)(hz:∀e,P.a.LH t=I (.slice e)->ci P.a e=bc){l L c C:J}(hl:Ee S β l L)(hc:Ee S β c C) :
  Eo P S Ck G β (jx t l c) (jx t L C) (λEf a A=>Ee S Ef a A):=by
 refine Ea (aj _) ?_;rintro aH d _ a6 ⟨rfl,hd⟩;cases d with
 |slice e =>
  refine Ea (fk (hl.LT a6)) ?_;rintro aI len _ aA rfl;refine Ea (fk ((hc.LT a6).LT aA)) ?_;rintro a7 cap _ aB rfl;refine Ea (bm _) ?_;rintro aC info _ aD ⟨rfl,_⟩;dsimp only
  have key : ∀ Ef : Ey, Eo P S Ck G Ef (do
    askRoom ((IntKind.i64.wrap cap).L*info.bytes)
    let n:=(IntKind.i64.wrap cap).L*(<-sizeOf e)
    let zero<-if n=0 then pure #[] else do pure (<-zeroValue e).cells
    let a<-newRow e ((b9 n).map (zero[· % zero.size]!))
    pure (.slice (I a) (IntKind.i64.wrap len).L (IntKind.i64.wrap cap).L):Sem J) (do
    askRoom ((IntKind.i64.wrap cap).L*info.bytes)
    let n:=(IntKind.i64.wrap cap).L*(<-sizeOf e)
    let zero<-if n=0 then pure #[] else do pure (<-zeroValue e).cells
    let a<-newRow e ((b9 n).map (zero[· % zero.size]!))
    pure (.slice (I a) (IntKind.i64.wrap len).L (IntKind.i64.wrap cap).L):Sem J) (λEf a A=>Ee S Ef a A):=by
   intro Ef;refine Ea (jH _) ?_;rintro aJ _ _ aF _;refine Ea (aK _) ?_;rintro β7 size _ aG rfl;dsimp only
   have fin : ∀ (Ef : Ey) (z : Array J), Ei S Ef z z -> Eo P S Ck G Ef (do
     let a<-newRow e ((b9 ((IntKind.i64.wrap cap).L*size)).map (z[· % z.size]!))
     pure (.slice (I a) (IntKind.i64.wrap len).L (IntKind.i64.wrap cap).L):Sem J) (do
     let a<-newRow e ((b9 ((IntKind.i64.wrap cap).L*size)).map (z[· % z.size]!))
     pure (.slice (I a) (IntKind.i64.wrap len).L (IntKind.i64.wrap cap).L):Sem J) (λEf a A=>Ee S Ef a A):=by
    intro Ef z h;refine Ea (fK e (ie h _)) ?_;intro a7 a A _ ha;exact Eb (ha.sl _ _)
   split
   .exact Ea (Eb (R:=λEf (a A:Array J)=>a=A/\Ei S Ef a a) ⟨rfl,DA⟩) (by rintro a7 z _ zX ⟨rfl,h⟩;exact fin _ _ h)
   .refine Ea (cJ (hz e hd)) ?_;rintro a7 z _ aB ⟨rfl,h⟩;exact Ea (Eb (R:=λEf (a A:Array J)=>a=A/\Ei S Ef a a) ⟨rfl,h.cells⟩) (by rintro aC z _ zX ⟨rfl,h⟩;exact fin _ _ h)
  have a8:∀(Ef:Ey) (m:String) (k K:Unit->Sem J),Eo P S Ck G Ef (bn (.error m) >>= k) (bn (.error m) >>= K) (λEf a A=>Ee S Ef a A):=λEf m k K=>by
   refine Ea (R:=λ_ _ _=>False) (ay _ trivial) ?_;intro _ _ _ _ h;exact h.S
  split
  .split
   .exact a8 _ _ _ _
   .split
    .exact a8 _ _ _ _
    .refine Ea (fH _) ?_;rintro aL q _ _ rfl;exact a8 _ _ _ _
  .exact key _
 |_=>exact λ_ _ _ _ _ _ _ _=>trivial
def tR {v V:J}(h:Ee S β v V):Eo P S Ck G β (e6 v) (e6 V) (λ_ a A=>a=A/\∀x,v=.slice (I x) 0 0->a=0):=by
 cases h with
 |string s=>exact Eb ⟨rfl,λx e=>by cases e⟩
 |Hb l c=>exact Eb ⟨rfl,λx e=>by cases e⟩
 |slice o s l c hb=>exact Eb ⟨rfl,λx e=>by cases e;rfl⟩
 |Fq _=>exact Eb ⟨rfl,λ_ _=>rfl⟩
 |_=>exact Eg
def eR (size n:Nat){v V:J}(h:Ee S β v V)(h0:∀x,v=.slice (I x) 0 0->n=0):Eo P S Ck G β (ak size n v) (ak size n V) (λEf a A=>Ei S Ef a A):=by
 cases h with
 | string s => exact Eb ⟨rfl, fun i v V h1 h2 => by
   rw[h1] at h2;cases h2;rw[BT] at h1;cases hb:(s.extract 0 n).data[i]? with
   |none=>rw[hb] at h1;cases h1
   |some b=>rw[hb] at h1;cases h1;exact .int _ _⟩
 |Hb l c=>exact Eb DA
 |slice o s l c hb=>exact ia (Fh.mk (a:=⟨_,o,s⟩) (A:=⟨_,o,s⟩) hb rfl rfl) _
 |Fq _ =>
  obtain rfl:=h0 _ rfl;unfold ak;dsimp only;rw[Db];exact Eb DA
 |_=>exact Eg
def kI (size:Nat){v V:J}(h:Ee S β v V):Eo P S Ck G β (ak size 0 v) (ak size 0 V) (λ_ a A=>a=#[]/\A=#[]):=by
 cases h with
 |string s =>
  have e:((s.extract 0 0).data.map λb=>Value.int .u8 b.L)=#[]:=Array.eq_empty_of_size_eq_zero (by rw[Array.size_map];simp[ByteArray.extract,ByteArray.copySlice]);exact Eb ⟨e,e⟩
 |Hb l c=>exact Eb ⟨rfl,rfl⟩
 |slice o s l c hb =>
  unfold ak;dsimp only;rw[Db];exact Eb ⟨rfl,rfl⟩
 |Fq _ =>
  unfold ak;dsimp only;rw[Db];exact Eb ⟨rfl,rfl⟩
 |_=>exact Eg
def Jl.LT {β Ef:Ey}(h:β.le Ef){b B:Option bW}(r:Jl β b B):Jl Ef b B:=by
 cases r with
 |none=>exact .none
 |some r=>exact .some (r.LT h)
def Ig {α H2:Type}{m:Sem α}{M:Sem H2}{R:Ey->α->H2->Prop}(h:∀w es,∃u w' es',m.L P.a w es=(.halt (.unsupported u) w',es')/\∀g,u≠.initOrder g):Eo P S Ck G β m M R:=by
 intro w W n hw ht a6 a7 hb;obtain⟨u,w',es',h1,h2⟩:=h w a6;rw[h1];exact h2
def Lh (a:bW)(n:Nat)(w:bD)(es:Array eH):∃b,(eA a n).L P.a w es=(.ok b w,es):=by
 unfold eA;rw[ai];have e:(shape a.LE).L P.a w es=(.ok (w.T a.LE) w,es):=rfl;rw[e];dsimp only;cases w.T a.LE with
 |none=>exact⟨_,rfl⟩
 |some x=>exact⟨_,rfl⟩
def Lv (size l n:Nat)(b:Option bW)(x:J)(w:bD)(es:Array eH):∃r,(c0 size l n b x).L P.a w es=(.ok r w,es):=by
 have k : ∀ r : Bool, ∃ r', (if !r then pure bc else match x with
   |.slice (I c) _ _=>do pure (!(<-eA c (n*size))||b.any (·.LE==c.LE))
   |_=>pure bb:Sem Bool).L P.a w es=(.ok r' w,es):=by
  intro r;cases r with
  |false=>exact⟨bc,rfl⟩
  |true =>
   simp only[Bool.not_true,Bj,if_false];split
   .rw[ai];obtain⟨h,e⟩:=Lh (P:=P) ‹bW› (n*size) w es;rw[e];exact⟨_,rfl⟩
   .exact⟨_,rfl⟩
 unfold c0;cases b with
 |none=>exact k bc
 |some a =>
  dsimp only;rw[ai];obtain⟨h,e⟩:=Lh (P:=P) a (l*size) w es;rw[e];dsimp only;rw[ai];have e:(frozen (a.add (l / 2*size))).L P.a w es=(.ok (w.O (a.add (l / 2*size))) w,es):=rfl;rw[e];exact k _
def nQ {α:Type}(size l n:Nat)(b:Option bW)(x:J)(why:Unsupported)(hw:∀g,why≠.initOrder g)(k:Unit->Sem α)(w:bD)(es:Array eH) :
    ∃ u w' es', ((do if !(<- c0 size l n b x) then mark .noRoom
                     bh why) >>= k:Sem α).L P.a w es=(.halt (.unsupported u) w',es')/\∀g,u≠.initOrder g:=by
  rw[ai,ai];obtain⟨r,e⟩:=Lv (P:=P) size l n b x w es;rw[e];cases r with
  |true=>exact⟨why,w,es,rfl,hw⟩
  |false=>exact⟨why,w,es.LE ⟨.mark .noRoom,bb,bc⟩,rfl,hw⟩
def rv (ts:Array U)(t:U)(hz:∀e s,ts[0]?=I s->P.a.LH s=I (.slice e)->ci P.a e=bc)(hni:∀x k,ts[1]?=I x->P.a.LH x≠I (.int k)){a A:Array J}(h:Ei S β a A) :
    Eo P S Ck G β (e9 ts t a) (e9 ts t A) (λEf v V=>Ee S Ef v V):=by
  unfold e9;cases ht:ts[0]? with
  |none=>exact Eg
  |some t0 =>
    cases ha:a[0]? with
    |none=>exact Eg
    |some s =>
      obtain⟨Sv,hS,hs⟩:=h.get? ha;rw[hS];cases hb:a[1]? with
      |none=>exact Eg
      |some x =>
        obtain⟨X,hX,hx⟩:=h.get? hb;rw[hX];dsimp only;refine Ea (aj _) ?_;rintro a8 d _ aI ⟨rfl,hd⟩;replace hs:=hs.LT aI;replace hx:=hx.LT aI;cases d with
        |slice e =>
          have hze:=hz e t0 ht hd
          have tail : ∀ (Ef : Ey) (b B : Option bW) (l c : Nat), a8.le Ef -> (Jl Ef b B ∨ l = 0 ∧ c = 0) -> Ee S Ef (.slice b l c) (.slice B l c) -> Eo P S Ck G Ef (do
              let size<-sizeOf e
              let zeros<-match ts[1]? with
                |some aC=>do pure ((<-underlying aC) matches .int _)
                |none=>pure bb
              let n <- if zeros then do
                  let l:=IntKind.i64.wrap (<-asInt x)
                  if l<0 then bn (.error "makeslice: len out of range")
                  if l*(<-typeInfo e).bytes > 2 ^ 48 then
                    let made<-choose (.extern "append.ofMake.carriedOut" 2)
                    bn (.error (if made==1 then "makeslice: len out of range" else "growslice: len out of range"))
                  pure l.L
                else e6 x
              let appended:Sem (Array J) :=
                if !zeros then ak size n x
                else if n*size=0 then pure #[]
                else do pure (bw (<-zeroValue e).cells n)
              let need:=l+n
              if need<=c then
                let new<-appended
                if let I a:=b then fA (a.add (l*size)) new.LK
                pure (.slice b need c)
              else
                if(need:Int) > IntKind.i64.max/\(zeros\/(<-typeInfo e).bytes=0) then bn (.error "growslice: len out of range")
                if eb need c*(<-typeInfo e).bytes > 2 ^ 48 then(if zeros then bn (.error "growslice: len out of range") else do
                  if !(<-c0 size l n b x) then mark .noRoom
                  bh (.resourceLimit "append: a slice or a string whose bytes no memory bears"))
                let a6<-choose (.appendCap need c e)
                askRoom (a6*(<-typeInfo e).bytes)
                let old<-ak size l (.slice b l c)
                let new<-appended
                let rest:=bw (<-zeroValue e).cells (a6-need)
                pure (.slice (I (<-newRow e (old++new++rest))) need a6):Sem J) (do
              let size<-sizeOf e
              let zeros<-match ts[1]? with
                |some aC=>do pure ((<-underlying aC) matches .int _)
                |none=>pure bb
              let n <- if zeros then do
                  let l:=IntKind.i64.wrap (<-asInt X)
                  if l<0 then bn (.error "makeslice: len out of range")
                  if l*(<-typeInfo e).bytes > 2 ^ 48 then
                    let made<-choose (.extern "append.ofMake.carriedOut" 2)
                    bn (.error (if made==1 then "makeslice: len out of range" else "growslice: len out of range"))
                  pure l.L
                else e6 X
              let appended:Sem (Array J) :=
                if !zeros then ak size n X
                else if n*size=0 then pure #[]
                else do pure (bw (<-zeroValue e).cells n)
              let need:=l+n
              if need<=c then
                let new<-appended
                if let I a:=B then fA (a.add (l*size)) new.LK
                pure (.slice B need c)
              else
                if(need:Int) > IntKind.i64.max/\(zeros\/(<-typeInfo e).bytes=0) then bn (.error "growslice: len out of range")
                if eb need c*(<-typeInfo e).bytes > 2 ^ 48 then(if zeros then bn (.error "growslice: len out of range") else do
                  if !(<-c0 size l n B X) then mark .noRoom
                  bh (.resourceLimit "append: a slice or a string whose bytes no memory bears"))
                let a6<-choose (.appendCap need c e)
                askRoom (a6*(<-typeInfo e).bytes)
                let old<-ak size l (.slice B l c)
                let new<-appended
                let rest:=bw (<-zeroValue e).cells (a6-need)
                pure (.slice (I (<-newRow e (old++new++rest))) need a6):Sem J) (λEf v V=>Ee S Ef v V):=by
            intro Ef b B l c zX ob hs;refine Ea (aK _) ?_;rintro aY size _ aD rfl;have hx2:=(hx.LT zX).LT aD;have hs2:=hs.LT aD;have aJ:Jl aY b B\/l=0/\c=0:=ob.imp (·.LT aD) λh=>h;dsimp only;rcases h1:ts[1]? with _|xt
            all_goals first
              |refine Ea (R:=λ_ (a A:Bool)=>a=bb/\A=bb) (Eb ⟨rfl,rfl⟩) ?_
              | (refine Ea (aj _) ?_
                 rintro aT d _ aF ⟨rfl, hd⟩;replace hx2 := hx2.LT aF;replace hs2 := hs2.LT aF;replace aJ : Jl aT b B ∨ l = 0 ∧ c = 0 := aJ.imp (·.LT aF) fun h => h
                 refine Ea (R := fun _ (a A : Bool) => a = bb ∧ A = bb) (Eb (by cases d with
                   | int k => exact AS hd (hni xt k h1)
                   |_=>exact⟨rfl,rfl⟩)) ?_)
            all_goals
              rintro aZ z Z aG ⟨rfl,rfl⟩;simp only[Bj,if_false,Bool.not_false,if_true,false_or];have hx3:=hx2.LT aG;have hs3:=hs2.LT aG;refine Ea (tR hx3) ?_;rintro aQ n _ aH ⟨rfl,aR⟩;replace hx3:=hx3.LT aH;replace hs3:=hs3.LT aH;have aL:Jl aQ b B\/l=0/\c=0:=aJ.imp (λh=>(h.LT aG).LT aH) λh=>h;by_cases hn:l+n<=c
              · simp only[AP hn]
                obtain aL|⟨rfl,rfl⟩:=aL
                · refine Ea (eR _ _ hx3 aR) ?_
                  intro aB y Y a7 hy;cases aL with
                  |none=>exact Eb (.Hb _ _)
                  |some aS =>
                    refine Ea (gV ((aS.LT a7).add _) hy.LK 0) ?_;intro aM _ _ aA _;exact Eb (((aS.LT a7).LT aA).sl _ _)
                · obtain rfl:n=0:=by omega
                  refine Ea (kI size hx3) ?_
                  · rintro aB _ _ a7 ⟨rfl,rfl⟩
                    have hs5:=hs3.LT a7;cases b with
                    |none=>cases B with
                      |none=>exact Eb hs5
                      |some B=>cases hs5
                    |some b=>cases B with
                      |none=>cases hs5
                      |some B=>exact Eb hs5
              · simp only[AN hn]
                have fin : ∀ aB : Ey, aQ.le aB -> Eo P S Ck G aB (do
                    let a6<-choose (.appendCap (l+n) c e)
                    askRoom (a6*(<-typeInfo e).bytes)
                    let old<-ak size l (.slice b l c)
                    let new<-ak size n x
                    let rest:=bw (<-zeroValue e).cells (a6-(l+n))
                    pure (.slice (I (<-newRow e (old++new++rest))) (l+n) a6):Sem J) (do
                    let a6<-choose (.appendCap (l+n) c e)
                    askRoom (a6*(<-typeInfo e).bytes)
                    let old<-ak size l (.slice B l c)
                    let new<-ak size n X
                    let rest:=bw (<-zeroValue e).cells (a6-(l+n))
                    pure (.slice (I (<-newRow e (old++new++rest))) (l+n) a6):Sem J) (λEf v V=>Ee S Ef v V):=by
                  intro aB a7;refine Ea (fH _) ?_;rintro aM nc _ aA rfl;refine Ea (bm _) ?_;rintro β7 info _ aU ⟨rfl,_⟩;refine Ea (jH _) ?_;intro β8 _ _ aV _;have l8:=Ey.le_trans (Ey.le_trans (Ey.le_trans a7 aA) aU) aV;refine Ea (eR _ _ (hs3.LT l8) λx e=>by injection e) ?_;intro β9 y Y aW hy;refine Ea (eR _ _ ((hx3.LT l8).LT aW) aR) ?_;intro βa y' Y' aX hy'
                  refine Ea (cJ hze) ?_;rintro βb z _ aN ⟨rfl,hzv⟩;have aO:Ei S βb (bw z.cells (nc-(l+n))) (bw z.cells (nc-(l+n))):=ie hzv.cells _;refine Ea (fK e ((((hy.LT aX).LT aN).append (hy'.LT aN)).append aO)) ?_;intro βc r R' _ hr;exact Eb (hr.sl _ _)
                refine Ea (bm _) ?_;rintro aB info _ a7 ⟨rfl,_⟩;by_cases zu:((l+n:Nat):Int) > IntKind.i64.max/\info.bytes=0
                · simp only[AP zu]
                  exact Ea (R:=λ_ _ _=>False) (ay _ trivial) (λ_ _ _ _ h=>h.S)
                · simp only[AN zu]
                  refine Ea (bm _) ?_;rintro aM aP _ aA ⟨rfl,_⟩;by_cases zr:eb (l+n) c*aP.bytes > 2 ^ 48
                  · simp only[AP zr]
                    refine Ig λw es=>?_;exact nQ size l n b x _ (by intro g e;cases e) _ w es
                  · simp only[AN zr]
                    exact fin aM (Ey.le_trans a7 aA)
          cases hs with
          |Hb l c=>exact tail a8 br br l c a8.le_refl (.inl .none) (.Hb _ _)
          |slice o s l c hb=>exact tail a8 (I _) (I _) l c a8.le_refl (.inl (.some (Fh.mk (a:=⟨_,o,s⟩) (A:=⟨_,o,s⟩) hb rfl rfl))) (.slice _ _ _ _ hb)
          |Fq h0=>exact tail a8 (I _) (I _) 0 0 a8.le_refl (.inr ⟨rfl,rfl⟩) (.Fq h0)
          |_=>exact Eg
        |_=>exact λ_ _ _ _ _ _ _ _=>trivial
def yg (ts:Array U)(t:U)(hc:∀t e d,ts[0]?=I t->P.a.LH t≠I (.chan e d)){a A:Array J}(h:Ei S β a A):Eo P S Ck G β (gg ts t a) (gg ts t A) (λEf v V=>Ee S Ef v V):=by
 unfold gg;cases ht:ts[0]? with
 |none=>exact Eg
 |some t0 =>
  cases ha:a[0]? with
  |none=>exact Eg
  |some x =>
   obtain⟨X,hX,hr⟩:=h.get? ha;rw[hX];refine Ea (aj _) ?_;rintro a6 d _ zX ⟨rfl,hd⟩;replace hr:=hr.LT zX;cases d with
   |string=>cases hr with
    |string s=>exact Eb (.int _ _)
    |_=>exact Eg
   |array n e=>exact Eb (.int _ _)
   |pointer e =>
    refine Ea (aj _) ?_;rintro a7 d _ zX ⟨rfl,_⟩;cases d with
    |array n e=>exact Eb (.int _ _)
    |_=>exact λ_ _ _ _ _ _ _ _=>trivial
   |slice e=>cases hr with
    |Hb l c=>exact Eb (.int _ _)
    |slice o s l c hb=>exact Eb (.int _ _)
    |Fq _=>exact Eb (.int _ _)
    |_=>exact Eg
   |map k e=>cases hr with
    |Hp=>exact Eb (.int _ _)
    |_=>exact Eg
   |chan e dir=>exact AS hd (hc _ _ _ ht)
   |_=>exact λ_ _ _ _ _ _ _ _=>trivial
def yh (ts:Array U)(t:U)(hc:∀t e d,ts[0]?=I t->P.a.LH t≠I (.chan e d)){a A:Array J}(h:Ei S β a A):Eo P S Ck G β (gl ts t a) (gl ts t A) (λEf v V=>Ee S Ef v V):=by
 unfold gl;cases ht:ts[0]? with
 |none=>exact Eg
 |some t0 =>
  cases ha:a[0]? with
  |none=>exact Eg
  |some x =>
   obtain⟨X,hX,hr⟩:=h.get? ha;rw[hX];refine Ea (aj _) ?_;rintro a6 d _ zX ⟨rfl,hd⟩;replace hr:=hr.LT zX;cases d with
   |array n e=>exact Eb (.int _ _)
   |pointer e =>
    refine Ea (aj _) ?_;rintro a7 d _ zX ⟨rfl,_⟩;cases d with
    |array n e=>exact Eb (.int _ _)
    |_=>exact λ_ _ _ _ _ _ _ _=>trivial
   |slice e=>cases hr with
    |Hb l c=>exact Eb (.int _ _)
    |slice o s l c hb=>exact Eb (.int _ _)
    |Fq _=>exact Eb (.int _ _)
    |_=>exact Eg
   |chan e dir=>exact AS hd (hc _ _ _ ht)
   |_=>exact λ_ _ _ _ _ _ _ _=>trivial
def pN {v V:J}(h:Ee S β v V)(i:Nat):Eo P S Ck G β (fu v i) (fu V i) (λEf v V=>Ee S Ef v V):=by
 cases h with
 |tuple h1 h2 =>
  rename_i x X;unfold fu;dsimp only;cases hx:x[i]? with
  |none=>exact Eg
  |some v=>obtain⟨V,hV,hr⟩:=(Ei.mk h1 h2).get? hx;rw[hV];exact Eb hr
 |_=>exact Eg
def tS (t:U)(hz:ci P.a t=bc):Eo P S Ck G β (lA t bc (.tuple #[])) (lA t bc (.tuple #[])) (λEf v V=>Ee S Ef v V):=by
 refine Ea (cJ hz) ?_;rintro a7 z _ a6 ⟨rfl,hz⟩;refine Ea (ib t hz) ?_;intro a8 a A _ ha;exact Eb ha.ptr
def yi (t:U){v V:J}(h:Ee S β v V):Eo P S Ck G β (mA t v) (mA t V) (λEf v V=>Ee S Ef v V):=by
 refine Ea (ib t h) ?_;intro a6 a A _ ha;exact Eb ha.ptr
def rx (t:U){v V:J}(h:Ee S β v V):Eo P S Ck G β (k7 t v) (k7 t V) (λEf v V=>Ee S Ef v V):=by
 refine Ea (cZ h) ?_;intro a6 a A _ ha;exact jF t ha
def pO (t:U){v V x X:J}(h:Ee S β v V)(hx:Ee S β x X):Eo P S Ck G β (k5 t v x) (k5 t V X) (λ_ _ _=>True):=by
 refine Ea (cZ h) ?_;intro a6 a A zX ha;exact nO t ha (hx.LT zX)
end
def H4 (P:b5)(t:U):Bool:=match P.LH t with
 |some (.int _)|some .bool|some .string=>bc
 |_=>bb
def EK.LT (P:EK)(t:U):P.b.LT t=P.a.LT t:=rfl
def EK.bytesOf (P:EK)(t:U):P.b.bytesOf t=P.a.bytesOf t:=rfl
def EK.depth (P:EK):P.b.depth=P.a.depth:=rfl
def EK.byteOfCell (P:EK)(d:Nat):∀t off,byteOfCell P.b d t off=byteOfCell P.a d t off:=by
 induction d with
 |zero=>exact λ_ _=>rfl
 |succ d ih =>
  have e:dy P.b d=dy P.a d:=funext λt=>funext λo=>ih t o;intro t off;unfold dy;rw[e]
  rfl
def EK.cellOfByte (P:EK)(d:Nat):∀t off,cellOfByte P.b d t off=cellOfByte P.a d t off:=by
 induction d with
 |zero=>exact λ_ _=>rfl
 |succ d ih =>
  have e:dS P.b d=dS P.a d:=funext λt=>funext λo=>ih t o;intro t off;unfold dS;rw[e]
  rfl
def EK.cellAtBytes (P:EK)(d:Nat)(e:U)(c o:Nat)(n:Int):cellAtBytes P.b d e c o n=cellAtBytes P.a d e c o n:=by
 have e1:dy P.b d=dy P.a d:=funext λt=>funext λo=>P.byteOfCell d t o;have e2:dS P.b d=dS P.a d:=funext λt=>funext λo=>P.cellOfByte d t o;unfold Go.cellAtBytes;rw[e1,e2]
 rfl
section
variable {P:EK} {S:FO} {Ck:eF->Prop} {G:Nat} {β:Ey}
def nR {b B:Nat}(h:β b B):Eo P S Ck G β (eC b) (eC B) (λEf x X=>match x,X with|none,br=>True|some (a,l),I (A,L)=>Fh Ef a A/\l=L|_,_=>False):=by
 cases hh:S.LH b with
 |false =>
  refine Ea (lf h hh) ?_;rintro aC s _ zX rfl;cases s with
  |some x=>exact Eb trivial
  |none =>
   refine Ea (fI (zX _ _ h) hh) ?_;intro aD o O _ ho;cases ho with
   |number o s l hb=>exact Eb ⟨⟨hb,rfl,rfl⟩,rfl⟩
   |_=>exact Eb trivial
 |true =>
  intro w W n hw ht a7 a6 _;obtain⟨h1,aA,aB⟩:=hw.Ge b B h hh;have e1:(eC b).L P.a w a7=(.ok br w,a7.LE ⟨.obj b,bb,bb⟩):=by
   unfold eC;rw[ai];have e:(shape b).L P.a w a7=(.ok br w,a7):=by
    show(df (w.T b) w,a7)=_;unfold cE;rw[h1]
   rw[e];dsimp only;simp only[CZ,Bj,if_false];rw[ai];have e:(getObj b).L P.a w a7=(.ok (.coro br) w,a7.LE ⟨.obj b,bb,bb⟩):=by simp only[b7,bk,h1];rfl
   rw[e]
   rfl
  cases a8:S.LH.Fg with
  |true =>
   have h2:=aB a8;have e2:(eC B).L P.b W a6=(.ok br W,a6.LE ⟨.obj B,bb,bb⟩):=by
    unfold eC;rw[ai];have e:(shape B).L P.b W a6=(.ok br W,a6):=by
     show(df (W.T B) W,a6)=_;unfold cE;rw[h2]
    rw[e];dsimp only;simp only[CZ,Bj,if_false];rw[ai];have e:(getObj B).L P.b W a6=(.ok (.coro br) W,a6.LE ⟨.obj B,bb,bb⟩):=by simp only[b7,bk,h2];rfl
    rw[e]
    rfl
   rw[e1,e2];exact⟨β,br,W,[⟨.obj B,bb,bb⟩],by simp,trivial,{ Fin.refl hw with evs:=λh=>by rw[a8] at h;cases h }⟩
  |false =>
  obtain⟨c,t,f,h2⟩:=aA a8;have e2:(eC B).L P.b W a6=(.ok br W,a6):=by
   unfold eC;rw[ai];have e:(shape B).L P.b W a6=(.ok (I (t,c.size)) W,a6):=by
    show(df (W.T B) W,a6)=_;unfold cE;rw[h2]
   rw[e]
   rfl
  rw[e1,e2];exact⟨β,br,W,[],by simp,trivial,Fin.refl hw⟩
def ig {b B:Nat}(h:β b B):Eo P S Ck G β (viewAt b) (viewAt B) (λ_ x X=>x=br/\X=br):=by
 cases hh:S.LH b with
 |false =>
  refine Ea (lf h hh) ?_;rintro aC s _ zX rfl;cases s with
  |some x=>exact Eb ⟨rfl,rfl⟩
  |none =>
   refine Ea (fI (zX _ _ h) hh) ?_;intro aD o O _ ho;cases ho<;>exact Eb ⟨rfl,rfl⟩
 |true =>
  intro w W n hw ht a7 a6 _;obtain⟨h1,aA,aB⟩:=hw.Ge b B h hh;have e1:(viewAt b).L P.a w a7=(.ok br w,a7.LE ⟨.obj b,bb,bb⟩):=by
   unfold viewAt;rw[ai];have e:(shape b).L P.a w a7=(.ok br w,a7):=by
    show(df (w.T b) w,a7)=_;unfold cE;rw[h1]
   rw[e];dsimp only;simp only[CZ,Bj,if_false];rw[ai];have e:(getObj b).L P.a w a7=(.ok (.coro br) w,a7.LE ⟨.obj b,bb,bb⟩):=by simp only[b7,bk,h1];rfl
   rw[e]
   rfl
  cases a8:S.LH.Fg with
  |true =>
   have h2:=aB a8;have e2:(viewAt B).L P.b W a6=(.ok br W,a6.LE ⟨.obj B,bb,bb⟩):=by
    unfold viewAt;rw[ai];have e:(shape B).L P.b W a6=(.ok br W,a6):=by
     show(df (W.T B) W,a6)=_;unfold cE;rw[h2]
    rw[e];dsimp only;simp only[CZ,Bj,if_false];rw[ai];have e:(getObj B).L P.b W a6=(.ok (.coro br) W,a6.LE ⟨.obj B,bb,bb⟩):=by simp only[b7,bk,h2];rfl
    rw[e]
    rfl
   rw[e1,e2];exact⟨β,br,W,[⟨.obj B,bb,bb⟩],by simp,⟨rfl,rfl⟩,{ Fin.refl hw with evs:=λh=>by rw[a8] at h;cases h }⟩
  |false =>
  obtain⟨c,t,f,h2⟩:=aA a8;have e2:(viewAt B).L P.b W a6=(.ok br W,a6):=by
   unfold viewAt;rw[ai];have e:(shape B).L P.b W a6=(.ok (I (t,c.size)) W,a6):=by
    show(df (W.T B) W,a6)=_;unfold cE;rw[h2]
   rw[e]
   rfl
  rw[e1,e2];exact⟨β,br,W,[],by simp,⟨rfl,rfl⟩,Fin.refl hw⟩
def du {a A:bW}(h:Fh β a A):Eo P S Ck G β (b6 a) (b6 A) (λEf x X=>Fh Ef x.1 X.1/\x.2=X.2):=by
 refine Ea (nR h.LE) ?_;intro a6 x X zX hx;cases x with
 |none=>cases X with
  |none=>exact Eb ⟨h.LT zX,rfl⟩
  |some _=>exact hx.S
 |some x=>cases X with
  |none=>exact hx.S
  |some X=>exact Eb hx
def ry {a A:bW}(h:Fh β a A):Eo P S Ck G β (noView a) (noView A) (λ_ _ _=>True):=by
 refine Ea (ig h.LE) ?_;rintro a6 _ _ zX ⟨rfl,rfl⟩;exact Eb trivial
def rz {a A:bW}(h:Fh β a A):Eo P S Ck G β (byteOf a) (byteOf A) (λ_ x X=>x=X):=by
 unfold byteOf;rw[<-h.spot,<-h.off];cases a.spot with
 |some s=>exact Eb rfl
 |none =>
  refine Ea aU ?_;rintro a8 p p' zX ⟨hp,aA⟩;subst p p';simp only[EK.LT,EK.bytesOf,EK.depth,EK.byteOfCell];refine Ea (ry (h.LT zX)) ?_;rintro aB _ _ a6 _;refine Ea (jd (a6 _ _ (zX _ _ h.LE))) ?_;rintro aC s _ a7 (rfl|rfl)
  rotate_left
  .exact λ_ _ _ _ _ _ _ _=>trivial
  cases s with
  |none=>exact λ_ _ _ _ _ _ _ _=>trivial
  |some x =>
   obtain⟨e,n⟩:=x;dsimp only;by_cases h0:P.a.LT e=0
   .simp only[AP h0];exact Eb rfl
   .simp only[AN h0];split
    .exact Eb rfl
    .exact Eg
def ii (ts:Array U)(t:U){v V x X:J}(hv:Ee S β v V)(hx:Ee S β x X):Eo P S Ck G β (bA ts t #[v,x]) (bA ts t #[V,X]) (λEf y Y=>∃a A,y=.S (I a)/\Y=.S (I A)/\Fh Ef a A):=by
 unfold bA;have tail:∀(p Q:Option bW),Jl β p Q->Ee S β (.S p) (.S Q)->Eo P S Ck G β (bA ts t #[.S p,x]) (bA ts t #[.S Q,X]) (λEf y Y=>∃a A,y=.S (I a)/\Y=.S (I A)/\Fh Ef a A):=by
  intro p Q hp hpv;refine Ea (fk hx) ?_;rintro aA n _ a6 rfl;dsimp only
  have rest : Eo P S Ck G aA (do
    if n<0 then bh (.unsafePointer "Add: a move by a count below zero")
    let I a:=p|unsupported (.unsafePointer "Add")
    let I (e,cells)<-shape a.LE|unsupported (.unsafePointer "Add")
    let P<-program
    match cellAtBytes P P.depth e (cells / P.LT e) a.off n with
    |some off=>pure (.S (I { a with off }))
    |none=>bh (.unsafePointer "Add"):Sem J) (do
    if n<0 then bh (.unsafePointer "Add: a move by a count below zero")
    let I a:=Q|unsupported (.unsafePointer "Add")
    let I (e,cells)<-shape a.LE|unsupported (.unsafePointer "Add")
    let P<-program
    match cellAtBytes P P.depth e (cells / P.LT e) a.off n with
    |some off=>pure (.S (I { a with off }))
    |none=>bh (.unsafePointer "Add"):Sem J) (λEf y Y=>∃a A,y=.S (I a)/\Y=.S (I A)/\Fh Ef a A):=by
   dsimp only;by_cases h0:n<0
   .simp only[AP h0];exact λ_ _ _ _ _ _ _ _=>by intro g e;cases e
   .simp only[AN h0];cases hp with
    |none=>exact λ_ _ _ _ _ _ _ _=>by intro g e;cases e
    |some ha =>
     rename_i a A;dsimp only;refine Ea (jd (a6 _ _ ha.LE)) ?_;rintro aB s _ a7 (rfl|rfl)
     rotate_left
     .exact λ_ _ _ _ _ _ _ _=>by intro g e;cases e
     cases s with
     |none=>exact λ_ _ _ _ _ _ _ _=>by intro g e;cases e
     |some x =>
      obtain⟨e,c⟩:=x;refine Ea aU ?_;rintro aC p _ a8 ⟨rfl,rfl⟩;rw[<-ha.off,EK.cellAtBytes,EK.depth,EK.LT];split
      .exact Eb ⟨_,_,rfl,rfl,⟨a8 _ _ (a7 _ _ (a6 _ _ ha.LE)),rfl,ha.spot⟩⟩
      .exact λ_ _ _ _ _ _ _ _=>by intro g e;cases e
  by_cases h0:n=0
  .simp only[AP h0];cases hp with
   |none=>exact λ_ _ _ _ _ _ _ _=>by intro g e;cases e
   |some ha =>
    dsimp only;refine Ea (ig (a6 _ _ ha.LE)) ?_;rintro aB _ _ a7 ⟨rfl,rfl⟩;exact Eb ⟨_,_,rfl,rfl,(ha.LT a6).LT a7⟩
  .simp only[AN h0];exact rest
 cases hv with
 |Hy=>exact tail br br .none .Hy
 |ptr o s hb=>exact tail (I _) (I _) (.some (Fh.mk (a:=⟨_,o,s⟩) (A:=⟨_,o,s⟩) hb rfl rfl)) (.ptr o s hb)
 |_=>exact Eg
def _root_.Go.EB.Eo.ptr {m M:Sem J}(h:Eo P S Ck G β m M (λEf y Y=>∃a A,y=.S (I a)/\Y=.S (I A)/\Fh Ef a A)):Eo P S Ck G β m M (λEf a A=>Ee S Ef a A) :=
 vP h (by rintro Ef _ _ _ ⟨a,A,rfl,rfl,h⟩;exact h.ptr)
def nS {a A:bW}(h:Fh β a A)(l:Bool):Eo P S Ck G β (kp a l) (kp A l) (λEf x X=>Ee S Ef x X):=by
 have ho:Fb S Ck β (.number a l) (.number A l):=by
  obtain⟨b,o,s⟩:=a;obtain⟨B,O,s'⟩:=A;obtain⟨h1,h2,h3⟩:=h;cases h2;cases h3;exact .number _ _ _ h1
 refine Ea (jE ho (λi=>ho.id i (by simp))) ?_;rintro a6 b B _ ⟨hb,_⟩;exact Eb (.ptr _ _ hb)
def ck (t:U){v V x X:J}(hv:Ee S β v V)(hx:Ee S β x X):Eo P S Ck G β (eT t v x) (eT t V X) (λEf a A=>Ee S Ef a A):=by
 unfold eT;refine Ea (aj _) ?_;rintro a8 d _ a6 ⟨rfl,_⟩;dsimp only
 have main : Eo P S Ck G a8 (do
   let .S (I n):=v|Builtin.unsafeAdd_ #[] t #[v,x]
   let (a,lost)<-b6 n
   match<-bA #[] t #[.S (I a),x] with
   |.S (I b)=>kp b lost
   |v=>pure v:Sem J) (do
   let .S (I n):=V|Builtin.unsafeAdd_ #[] t #[V,X]
   let (a,lost)<-b6 n
   match<-bA #[] t #[.S (I a),X] with
   |.S (I b)=>kp b lost
   |v=>pure v:Sem J) (λEf a A=>Ee S Ef a A):=by
  replace hx:=hx.LT a6;replace hv:=hv.LT a6;have h0:=(ii (P:=P) (Ck:=Ck) (G:=G) #[] t hv hx).ptr;cases hv with
  |ptr o s hb =>
   refine Ea (du (Fh.mk (a:=⟨_,o,s⟩) (A:=⟨_,o,s⟩) hb rfl rfl)) ?_;rintro aB ⟨a,l⟩ ⟨A,L⟩ a7 ⟨ha,hl⟩;cases hl;refine Ea (ii #[] t ha.ptr (hx.LT a7)) ?_;rintro aC _ _ aA ⟨a',A',rfl,rfl,ha'⟩;exact nS ha' l
  |_=>exact h0
 cases d with
 |unsafePointer=>exact λ_ _ _ _ _ _ _ _=>by intro g e;cases e
 |_=>exact main
def pP (k:eG){a A:bW}(h:Fh β a A)(n:Int):Eo P S Ck G β (fW k a n) (fW k A n) (λEf a A=>Ee S Ef a A):=by
 refine Ea (jd h.LE) ?_;rintro a8 s _ a6 (rfl|rfl)
 rotate_left
 .exact λ_ _ _ _ _ _ _ _=>by intro g e;cases e
 cases s with
 |none=>exact λ_ _ _ _ _ _ _ _=>by intro g e;cases e
 |some x =>
  obtain⟨e,c⟩:=x;refine Ea (bm _) ?_;rintro aA i _ a7 ⟨rfl,_⟩;dsimp only;split
  .exact λ_ _ _ _ _ _ _ _=>by intro g e;cases e
  .refine Ea (rz ((h.LT a6).LT a7)) ?_;rintro aB b _ _ rfl;exact Eb (.int _ _)
def mB (hG:P.a.globals.size<=G){a A b B:bW}(ha:Fh β a A):Eo P S Ck G β (dn a b) (dn A B) (λ_ _ _=>False):=by
 intro w W n hw ht a6 a7 hb;have h1:=(hw.FH.lo ha.LE).1;have e:(dn a b).L P.a w a6=(.halt (.unsupported .L) w,a6):=by
  unfold dn;rw[ai];have e:program.L P.a w a6=(.ok P.a w,a6):=rfl;rw[e];dsimp only;rw[AP (by simp;right;omega)]
  rfl
 rw[e];intro g e;cases e
end
section
variable {P:EK} {S:FO} {Ck:eF->Prop} {G:Nat} {β:Ey}
def IG {t:U}(h:H4 P.a t=bc):(∃k,P.a.LH t=I (.int k))\/P.a.LH t=I .bool\/P.a.LH t=I .string:=by
 unfold H4 at h;cases hd:P.a.LH t with
 |none=>rw[hd] at h;cases h
 |some d =>
  rw[hd] at h;cases d with
  |int k=>exact .inl ⟨k,rfl⟩
  |bool=>exact .inr (.inl rfl)
  |string=>exact .inr (.inr rfl)
  |_=>cases h
def lg (hG:P.a.globals.size<=G)(m:Nat){t:U}(h:H4 P.a t=bc){v V x X:J}(hv:Ee S β v V)(hx:Ee S β x X):Eo P S Ck G β (cu (m+1) t v x) (cu (m+1) t V X) (λ_ a A=>a=A):=by
 unfold cu;refine Ea (aj _) ?_;rintro a7 d _ zX ⟨rfl,hd⟩;replace hv:=hv.LT zX;replace hx:=hx.LT zX;obtain⟨k,e⟩|e|e:=IG h
 .rw[e] at hd;cases hd;cases hv with
  |int k a=>cases hx with
   |int k' b =>
    dsimp only;split
    .exact Eb rfl
    .exact Eg
   |ptr o s hb =>
    by_cases h0:a=0
    .subst h0;exact Eb rfl
    .refine Ig λw es=>⟨.L,w,es,?_,by intro g e;cases e⟩;cases a with
     |ofNat n=>cases n with
      |zero=>exact AS rfl h0
      |succ n=>rfl
     |negSucc n=>rfl
   |Hy=>exact Ig λw es=>⟨.L,w,es,rfl,by intro g e;cases e⟩
   |_=>exact Eg
  |ptr o s hb=>cases hx with
   |int k' b =>
    by_cases h0:b=0
    .subst h0;exact Eb rfl
    .refine Ig λw es=>⟨.L,w,es,?_,by intro g e;cases e⟩;cases b with
     |ofNat n=>cases n with
      |zero=>exact AS rfl h0
      |succ n=>rfl
     |negSucc n=>rfl
   |ptr o' s' hb' =>
    have h1:Fh a7 ⟨_,o,s⟩ ⟨_,o,s⟩:=Fh.mk hb rfl rfl;have h2:Fh a7 ⟨_,o',s'⟩ ⟨_,o',s'⟩:=Fh.mk hb' rfl rfl;refine Ea (du h1) ?_;rintro aH ⟨p,_⟩ ⟨p',_⟩ aC ⟨hp,_⟩;refine Ea (du (h2.LT aC)) ?_;rintro aD ⟨q,_⟩ ⟨q',_⟩ a6 ⟨hq,_⟩;intro w W n hw ht a8 aA aB;have hp:=hp.LT a6;have l1:G<=p.LE/\G<=p'.LE:=(hw.FH.lo hp.LE);have l2:G<=q.LE/\G<=q'.LE:=(hw.FH.lo hq.LE)
    clear a6;have e1:(p==q)=(p'==q'):=by
     obtain⟨b,o,s⟩:=p;obtain⟨B,O,t'⟩:=p';obtain⟨b',o',s'⟩:=q;obtain⟨B',O',t''⟩:=q';obtain⟨a1,a2,a3⟩:=hp;obtain⟨b1,b2,b3⟩:=hq;cases a2;cases a3;cases b2;cases b3;rw[Bool.eq_iff_iff];simp only[beq_iff_eq,Addr.mk.injEq];constructor
     .rintro⟨rfl,r⟩;exact⟨hw.FH.fn a1 b1,r⟩
     .rintro⟨rfl,r⟩;exact⟨hw.FH.inj a1 b1,r⟩
    refine(?_:Eo P S Ck G aD _ _ _) w W n hw ht a8 aA aB;clear aB a8 aA ht n;refine Ea aU ?_;rintro aI pr pr' aF ⟨aJ,hpr'⟩;subst pr pr';have n1:¬(p.LE==q.LE&&decide (p.LE<P.a.globals.size))=true:=by simp only[AY,beq_iff_eq,decide_eq_true_eq];omega
    have n2:¬(p'.LE==q'.LE&&decide (p'.LE<P.b.globals.size))=true:=by rw[show P.b.globals=P.a.globals from rfl];simp only[AY,beq_iff_eq,decide_eq_true_eq];omega
    simp only[AN n1,AN n2];refine Ea (bm _) ?_;rintro aK i _ aG ⟨rfl,_⟩;split
    .rw[e1];split
     .exact Eb rfl
     .exact Ej (by intro g e;cases e)
    .exact Ej (by intro g e;cases e)
   |_=>exact Ig λw es=>⟨.L,w,es,rfl,by intro g e;cases e⟩
  |Hy=>cases hx<;>exact Ig λw es=>⟨.L,w,es,rfl,by intro g e;cases e⟩
  |_=>cases hx<;>first|exact Eg|exact Ig λw es=>⟨.L,w,es,rfl,by intro g e;cases e⟩
 .rw[e] at hd;cases hd;cases hv with
  |bool a=>cases hx with
   |bool b=>exact Eb rfl
   |_=>exact Eg
  |_=>exact Eg
 .rw[e] at hd;cases hd;cases hv with
  |string a=>cases hx with
   |string b=>exact Eb rfl
   |_=>exact Eg
  |_=>exact Eg
def mC (hG:P.a.globals.size<=G){t:U}(h:H4 P.a t=bc){v V x X:J}(hv:Ee S β v V)(hx:Ee S β x X):Eo P S Ck G β (dr t v x) (dr t V X) (λ_ a A=>a=A) :=
 lg hG 9999 h hv hx
def oT {m:Sem J}(h:(∃v,(∀(S:FO) (β:Ey),Ee S β v v)/\m=pure v)\/(∃s,m=stuck s)\/(∃u,m=bh u/\∀g,u≠.initOrder g)\/(∃s,m=bn (.error s))) :
  Eo P S Ck G β m m (λEf a A=>Ee S Ef a A):=by
 obtain⟨v,h,rfl⟩|⟨s,rfl⟩|⟨u,rfl,h⟩|⟨s,rfl⟩:=h
 .exact Eb (h _ _)
 .exact Eg
 .exact Ej h
 .exact ay _ trivial
def Ju (op:jk)(t:U)(k k':eG)(a b:Int):Eo P S Ck G β (binOp op t (.int k a) (.int k' b)) (binOp op t (.int k a) (.int k' b)) (λEf a A=>Ee S Ef a A):=by
  refine oT ?_;have iv:∀(k:eG) (n:Int),(∀(S:FO) (β:Ey),Ee S β (.int k n) (.int k n)):=λk n _ _=>.int _ _;have bv:∀(b:Bool),(∀(S:FO) (β:Ey),Ee S β (.bool b) (.bool b)):=λb _ _=>.bool _;cases op with
  | shl => unfold binOp Op.shift; dsimp only; split
           · exact .inr (.inr (.inr ⟨_, rfl⟩))
           · exact .inl ⟨_,iv _ _,rfl⟩
  | shr => unfold binOp Op.shift; dsimp only; split
           · exact .inr (.inr (.inr ⟨_, rfl⟩))
           · exact .inl ⟨_,iv _ _,rfl⟩
  | quo => unfold binOp Op.intDiv; dsimp only; split
           · exact .inr (.inl ⟨_, rfl⟩)
           · split
             · exact .inr (.inr (.inr ⟨_, rfl⟩))
             · exact .inl ⟨_,iv _ _,rfl⟩
  | rem => unfold binOp Op.intDiv; dsimp only; split
           · exact .inr (.inl ⟨_, rfl⟩)
           · split
             · exact .inr (.inr (.inr ⟨_, rfl⟩))
             · exact .inl ⟨_,iv _ _,rfl⟩
  |add|sub|mul|and|or|xor|andNot =>
    unfold binOp;dsimp only;split
    · exact .inr (.inl ⟨_,rfl⟩)
    · exact .inl ⟨_,iv _ _,rfl⟩
  |eql|neq|lss|leq|gtr|geq =>
    unfold binOp;dsimp only;split
    · exact .inr (.inl ⟨_,rfl⟩)
    · exact .inl ⟨_,bv _,rfl⟩
def fL (op:jk)(x y:ByteArray):Eo P S Ck G β (eV op x y) (eV op x y) (λEf a A=>Ee S Ef a A):=by
  refine oT ?_;have bv:∀(b:Bool),(∀(S:FO) (β:Ey),Ee S β (.bool b) (.bool b)):=λb _ _=>.bool _;cases op with
  | add => unfold eV; dsimp only; split
           · exact .inr (.inr (.inl ⟨_, rfl, by intro g e; cases e⟩))
           · exact .inl ⟨_,λ_ _=>.string _,rfl⟩
  |eql|neq|lss|leq|gtr|geq=>exact .inl ⟨_,bv _,rfl⟩
  |_=>exact .inr (.inl ⟨_,rfl⟩)
def li {t:U}(h:H4 P.a t=bc){v V x X:J}(hv:Ee S β v V)(hx:Ee S β x X):Eo P S Ck G β (do if(<-underlying t) matches .unsafePointer then movedPointer t v x else eT t v x) (do if(<-underlying t) matches .unsafePointer then movedPointer t V X else eT t V X) (λEf a A=>Ee S Ef a A):=by
 refine Ea (aj _) ?_;rintro a6 d _ zX ⟨rfl,hd⟩;have:=ck (P:=P) (Ck:=Ck) (G:=G) t (hv.LT zX) (hx.LT zX);rcases IG h with⟨k,e⟩|e|e<;>(rw[e] at hd;cases hd;exact this)
def ij (hG:P.a.globals.size<=G){a A b B:bW}(ha:Fh β a A)(hb:Fh β b B)(f F:Nat×Nat->Sem J):Eo P S Ck G β (do let x<-b6 a;let y<-b6 b;(dn x.1 y.1) >>= f) (do let x<-b6 A;let y<-b6 B;(dn x.1 y.1) >>= F) (λEf a A=>Ee S Ef a A):=by
 refine Ea (du ha) ?_;rintro a8 ⟨p,_⟩ ⟨p',_⟩ a6 ⟨hp,_⟩;refine Ea (du (hb.LT a6)) ?_;rintro aA ⟨q,_⟩ ⟨q',_⟩ a7 ⟨hq,_⟩;exact Ea (mB hG (hp.LT a7)) (λ_ _ _ _ h=>h.S)
def MN (k:eG){a A:bW}(ha:Fh β a A)(n:Int):Eo P S Ck G β (do fW k (<-b6 a).1 n) (do fW k (<-b6 A).1 n) (λEf a A=>Ee S Ef a A):=by
 refine Ea (du ha) ?_;rintro a7 ⟨p,_⟩ ⟨p',_⟩ a6 ⟨hp,_⟩;exact pP k hp n
def zO (P:EK){α:Type}(m:Sem α):Prop:=∀w es,(∃s w' es',m.L P.a w es=(.halt (.stuck s) w',es'))\/∃u w' es',m.L P.a w es=(.halt (.unsupported u) w',es')/\∀g,u≠.initOrder g
def GC {α H2:Type}{m:Sem α}{M:Sem H2}{R:Ey->α->H2->Prop}(h:zO P m):Eo P S Ck G β m M R:=by
 intro w W n hw ht a6 a7 hb;obtain⟨s,w',es',e⟩|⟨u,w',es',e,hu⟩:=h w a6
 .rw[e];trivial
 .rw[e];exact hu
def zO.bind {α γ:Type}{m:Sem α}(h:zO P m)(k:α->Sem γ):zO P (m >>= k):=by
 intro w es;rw[ai];obtain⟨s,w',es',e⟩|⟨u,w',es',e,hu⟩:=h w es
 .rw[e];exact .inl ⟨s,w',es',rfl⟩
 .rw[e];exact .inr ⟨u,w',es',rfl,hu⟩
def jI {t:U}(h:H4 P.a t=bc){v V x X:J}(hv:Ee S β v V)(hx:Ee S β x X)(hu:v=hole\/x=hole):zO P (dr t v x):=by
 intro w es;have hr:∀d,P.a.LH t=I d->(underlying t).L P.a w es=(.ok d w,es):=λd e=>by
  unfold underlying;rw[ai];show(match(P.a.LH t) with|some d=>pure d|none=>stuck _:Sem l4).L P.a w es=_;rw[e];rfl
 show(∃s w' es',(cu (9999+1) t v x).L P.a w es=_)\/∃u w' es',(cu (9999+1) t v x).L P.a w es=_/\_;unfold cu;rw[ai];rcases IG h with⟨k,e⟩|e|e<;>rw[hr _ e]<;>obtain rfl|rfl:=hu
 .cases hx<;>first|exact .inl ⟨_,_,_,rfl⟩|exact .inr ⟨.L,_,_,rfl,by intro g e;cases e⟩
 .cases hv<;>first|exact .inl ⟨_,_,_,rfl⟩|exact .inr ⟨.L,_,_,rfl,by intro g e;cases e⟩
 .cases hx<;>first|exact .inl ⟨_,_,_,rfl⟩|exact .inr ⟨.L,_,_,rfl,by intro g e;cases e⟩
 .cases hv<;>first|exact .inl ⟨_,_,_,rfl⟩|exact .inr ⟨.L,_,_,rfl,by intro g e;cases e⟩
 .cases hx<;>first|exact .inl ⟨_,_,_,rfl⟩|exact .inr ⟨.L,_,_,rfl,by intro g e;cases e⟩
 .cases hv<;>first|exact .inl ⟨_,_,_,rfl⟩|exact .inr ⟨.L,_,_,rfl,by intro g e;cases e⟩
def binOp_eql {t:U}{V X:J}(h1:∀k a k' b,V=.int k a->X=.int k' b->False)(h2:∀k a k' b,V=.float k a->X=.float k' b->False)(h3:∀k a b k' c d,V=.complex k a b->X=.complex k' c d->False)(h4:∀a b,V=.string a->X=.string b->False) :
  binOp .eql t V X=(do pure (.bool (<-dr t V X)))/\binOp .neq t V X=(do pure (.bool (!(<-dr t V X)))):=by
 constructor
 all_goals
  rw[binOp.eq_def];split
  all_goals first|contradiction|rfl|(exfalso;first|exact h1 _ _ _ _ rfl rfl|exact h2 _ _ _ _ rfl rfl|exact h3 _ _ _ _ _ _ rfl rfl|exact h4 _ _ rfl rfl)
def tT (hG:P.a.globals.size<=G)(op:jk){t:U}(h:H4 P.a t=bc){v V x X:J}(hv:Ee S β v V)(hx:Ee S β x X):Eo P S Ck G β (binOp op t v x) (binOp op t V X) (λEf a A=>Ee S Ef a A):=by
 have he:Eo P S Ck G β (do pure (.bool (<-dr t v x)):Sem J) (do pure (.bool (<-dr t V X))) (λEf a A=>Ee S Ef a A) :=
  Ea (mC hG h hv hx) (by rintro a6 b _ _ rfl;exact Eb (.bool _))
 have hn:Eo P S Ck G β (do pure (.bool (!(<-dr t v x))):Sem J) (do pure (.bool (!(<-dr t V X)))) (λEf a A=>Ee S Ef a A) :=
  Ea (mC hG h hv hx) (by rintro a6 b _ _ rfl;exact Eb (.bool _))
 have mk:∀ {b B:Nat} (o:Nat) (s:Option Nat),β b B->Fh β ⟨b,o,s⟩ ⟨B,o,s⟩:=λo s h=>⟨h,rfl,rfl⟩;rw[binOp.eq_def op t v x];split
 .cases hv;cases hx;exact Ju .shl t _ _ _ _
 .cases hv;cases hx;exact Ju .shr t _ _ _ _
 .rename_i k a k' b n1 n2;cases hv;cases hx;have:=Ju (P:=P) (S:=S) (Ck:=Ck) (G:=G) (β:=β) op t k k' a b;cases op with
  |shl=>exact(n1 rfl).S
  |shr=>exact(n2 rfl).S
  |_=>exact this
 .cases hv
 .cases hv
 .cases hv;cases hx
  have e:∀x y,binOp op t (.string x) (.string y)=eV op x y:=λx y=>by cases op<;>rfl
  rw[e];exact fL _ _ _
 .rename_i n1 n2 n3 n4;by_cases hu:v=hole\/x=hole
  .exact GC ((jI h hv hx hu).bind _)
  rw[(binOp_eql (t:=t) (V:=V) (X:=X) ?_ ?_ ?_ ?_).1]
  .exact he
  .rintro k a k' b rfl rfl;cases hv with
   |int=>cases hx with
    |int=>exact n1 _ _ _ _ rfl rfl
    |blank _ _=>exact hu (.inr rfl)
   |blank _ _=>exact hu (.inl rfl)
  .rintro k a k' b rfl rfl;cases hv;exact hu (.inl rfl)
  .rintro k a k' b c d rfl rfl;cases hv;exact hu (.inl rfl)
  .rintro a b rfl rfl;cases hv with
   |string=>cases hx with
    |string=>exact n4 _ _ rfl rfl
    |blank _ _=>exact hu (.inr rfl)
   |blank _ _=>exact hu (.inl rfl)
 .rename_i n1 n2 n3 n4;by_cases hu:v=hole\/x=hole
  .exact GC ((jI h hv hx hu).bind _)
  rw[(binOp_eql (t:=t) (V:=V) (X:=X) ?_ ?_ ?_ ?_).2]
  .exact hn
  .rintro k a k' b rfl rfl;cases hv with
   |int=>cases hx with
    |int=>exact n1 _ _ _ _ rfl rfl
    |blank _ _=>exact hu (.inr rfl)
   |blank _ _=>exact hu (.inl rfl)
  .rintro k a k' b rfl rfl;cases hv;exact hu (.inl rfl)
  .rintro k a k' b c d rfl rfl;cases hv;exact hu (.inl rfl)
  .rintro a b rfl rfl;cases hv with
   |string=>cases hx with
    |string=>exact n4 _ _ rfl rfl
    |blank _ _=>exact hu (.inr rfl)
   |blank _ _=>exact hu (.inl rfl)
 .cases hx
  cases hv with
  |Hy=>exact li h .Hy (.int _ _)
  |ptr o s hb=>exact li h (.ptr o s hb) (.int _ _)
 .cases hv
  cases hx with
  |Hy=>exact ck _ .Hy (.int _ _)
  |ptr o s hb=>exact ck _ (.ptr o s hb) (.int _ _)
 .cases hx
  cases hv with
  |Hy=>exact ck _ .Hy (.int _ _)
  |ptr o s hb=>exact ck _ (.ptr o s hb) (.int _ _)
 .cases hv with
  |ptr o s hb=>cases hx with
   |ptr o' s' hb'=>exact ij hG (mk o s hb) (mk o' s' hb') _ _
 .cases hv with
  |ptr o s hb=>cases hx with
   |ptr o' s' hb'=>exact ij hG (mk o s hb) (mk o' s' hb') _ _
 .cases hv with
  |ptr o s hb=>cases hx with
   |ptr o' s' hb'=>exact ij hG (mk o s hb) (mk o' s' hb') _ _
 .cases hv with
  |ptr o s hb=>cases hx with
   |ptr o' s' hb'=>exact ij hG (mk o s hb) (mk o' s' hb') _ _
 .cases hv with
  |ptr o s hb=>cases hx with
   |ptr o' s' hb'=>exact ij hG (mk o s hb) (mk o' s' hb') _ _
 .cases hv with
  |ptr o s hb=>cases hx;exact MN _ (mk o s hb) _
 .cases hv with
  |ptr o s hb=>cases hx;exact MN _ (mk o s hb) _
 .cases hv
  cases hx with
  |ptr o s hb=>exact MN _ (mk o s hb) _
 .exact Ej (u:=.L) (by intro g e;cases e)
 .exact Ej (u:=.L) (by intro g e;cases e)
 .exact Eg
end
inductive Iz (S:FO)(Ck:eF->Prop)(β:Ey):Next->Next->Prop
 |value {v V:J}:Ee S β v V->Iz S Ck β (.value v) (.value V)
 |skip:Iz S Ck β .skip .skip
 |enter {f:ed} {a A:Array J}:S.fn f->Ei S β a A->Iz S Ck β (.enter f a) (.enter f A)
 |round {l L:Nat} {f:ed} {x X:Array J} {AG bo:eF}:β l L->S.LH l=bb/\S.fr f->Ei S β x X->Ck AG->Ck bo->Iz S Ck β (.round l f x AG bo) (.round L f X AG bo)
 |defer {d D:ek}:FY S β d D->Iz S Ck β (.defer d) (.defer D)
section
variable {P:EK} {S:FO} {Ck:eF->Prop} {G:Nat} {β:Ey}
def KI {p:b5}{t:U}{d:l4}(e:p.LH t=I d)(w:bD)(es:Array eH):(underlying t).L p w es=(.ok d w,es):=by
 unfold underlying;rw[ai];have e2:program.L p w es=(.ok p w,es):=rfl;rw[e2];dsimp only;rw[e]
 rfl
def dg {p:b5}(hp:∀t,p.LH t=P.a.LH t){t:U}(h:H4 P.a t=bc)(n:Nat)(v x:J)(w:bD)(es:Array eH):(bs (n+1) t v x).L p w es=(.ok bb w,es):=by
 unfold bs;rw[ai];rcases IG h with⟨k,e⟩|e|e<;>(rw[KI ((hp t).trans e)];rfl)
def iU {p:b5}(hp:∀t,p.LH t=P.a.LH t)(op:jk){t:U}(h:H4 P.a t=bc)(xo yo:gB)(v x:J)(w:bD)(es:Array eH):(eqGuard op t xo yo v x).L p w es=(.ok () w,es):=by
  unfold eqGuard;cases op<;>try rfl
  all_goals
    rw[AN (by simp)];split
    · cases xo <;> cases yo <;> first
        |rfl
        | (rw [AN (by simp), ai, show cf = 9999 + 1 from rfl, dg hp h]
           rfl)
    · rw[ai]
      have e2:program.L p w es=(.ok p w,es):=rfl;rw[e2];dsimp only;rw[ai,e2];dsimp only;split
      · rfl
      · rw[ai,show cf=9999+1 from rfl,dg hp h]
        rfl
    · rfl
def pQ (op:jk){t:U}(h:H4 P.a t=bc)(xo yo:gB)(v x V X:J):Eo P S Ck G β (eqGuard op t xo yo v x) (eqGuard op t xo yo V X) (λ_ _ _=>True):=by
 intro w W n hw ht a6 a7 hb;rw[iU (λ_=>rfl) op h,iU P.LH op h];exact⟨β,(),W,[],by simp,trivial,Fin.refl hw⟩
def tU (op:UnOp){v V:J}(hv:Ee S β v V):Eo P S Ck G β (Op.unary op v) (Op.unary op V) (λEf a A=>Ee S Ef a A):=by
 cases hv with
 |int k n=>cases op with
  |neg=>exact Eb (.int _ _)
  |xor=>exact Eb (.int _ _)
  |_=>exact Eg
 |bool b=>cases op with
  |not=>exact Eb (.bool _)
  |_=>exact Eg
 |ptr o s hb=>cases op with
  |neg=>exact Ej (u:=.L) (by intro g e;cases e)
  |xor=>exact Ej (u:=.L) (by intro g e;cases e)
  |_=>exact Eg
 |_=>cases op<;>exact Eg
def il (P:b5)(s d:U):Bool:=match P.LH s,P.LH d with
 |some (.int _),I (.int _)=>bc
 |_,_=>bb
def pR {s d:U}(h:il P.a s d=bc){v V:J}(hv:Ee S β v V):Eo P S Ck G β (convert s d v) (convert s d V) (λEf a A=>Ee S Ef a A):=by
 refine Ea (aj _) ?_;rintro a7 a _ zX ⟨rfl,h1⟩;refine Ea (aj _) ?_;rintro a8 b _ a6 ⟨rfl,h2⟩;unfold il at h;rw[h1,h2] at h;cases a with
 |int k=>cases b with
  |int k'=>cases hv with
   |int k n=>exact Eb (.int _ _)
   |ptr o s hb=>exact Ej (u:=.L) (by intro g e;cases e)
   |_=>exact Ig λw es=>⟨_,w,es,rfl,by intro g e;cases e⟩
  |_=>cases h
 |_=>cases b<;>cases h
def vS {v V x X:J}(hv:Ee S β v V)(hx:Ee S β x X):Eo P S Ck G β (k8 v x) (k8 V X) (λEf a A=>Ee S Ef a A):=by
 cases hv with
 |int k n=>cases hx with
  |int k' m=>exact Eb (.int _ _)
  |ptr o s hb=>exact Ej (u:=.L) (by intro g e;cases e)
  |_=>exact Eg
 |string a=>cases hx with
  |string b =>
   refine Ea (fL _ _ _) ?_;intro a6 c C _ hc;refine Ea (gZ hc) ?_;rintro a7 c _ _ rfl;exact Eb (.string _)
  |ptr o s hb=>exact Ej (u:=.L) (by intro g e;cases e)
  |_=>exact Eg
 |ptr o s hb=>exact Ej (u:=.L) (by intro g e;cases e)
 |_=>cases hx<;>first|exact Eg|exact Ej (u:=.L) (by intro g e;cases e)
def vT {v V x X:J}(hv:Ee S β v V)(hx:Ee S β x X):Eo P S Ck G β (k9 v x) (k9 V X) (λEf a A=>Ee S Ef a A):=by
 cases hv with
 |int k n=>cases hx with
  |int k' m=>exact Eb (.int _ _)
  |ptr o s hb=>exact Ej (u:=.L) (by intro g e;cases e)
  |_=>exact Eg
 |string a=>cases hx with
  |string b =>
   refine Ea (fL _ _ _) ?_;intro a6 c C _ hc;refine Ea (gZ hc) ?_;rintro a7 c _ _ rfl;exact Eb (.string _)
  |ptr o s hb=>exact Ej (u:=.L) (by intro g e;cases e)
  |_=>exact Eg
 |ptr o s hb=>exact Ej (u:=.L) (by intro g e;cases e)
 |_=>cases hx<;>first|exact Eg|exact Ej (u:=.L) (by intro g e;cases e)
def im {f:J->J->Sem J}(hf:∀β v V x X,Ee S β v V->Ee S β x X->Eo P S Ck G β (f v x) (f V X) (λEf a A=>Ee S Ef a A)) :
  ∀ {l L:List J} {v V:J} {β:Ey},Fj (Ee S β) l L->Ee S β v V->Eo P S Ck G β (l.foldlM f v) (L.foldlM f V) (λEf a A=>Ee S Ef a A)
 |[],_,_,_,_,h,hv=>by cases h;exact Eb hv
 |x::l,_,_,_,_,h,hv=>by
  cases h with
  |cons hx hl =>
   simp only[List.foldlM_cons];refine Ea (hf _ _ _ _ _ hv hx) ?_;intro a6 y Y zX hy;exact im hf (hl.LT λ_ _=>Ee.LT zX) hy
def yj (ts:Array U)(t:U){a A:Array J}(h:Ei S β a A):Eo P S Ck G β (gR ts t a) (gR ts t A) (λEf v V=>Ee S Ef v V):=by
 unfold gR;have:=h.LK;revert this;generalize a.LK=l;generalize A.LK=L;intro hl;cases hl with
 |nil=>exact Eg
 |cons hx hl=>exact im (λβ v V x X=>vS) hl hx
def yk (ts:Array U)(t:U){a A:Array J}(h:Ei S β a A):Eo P S Ck G β (gU ts t a) (gU ts t A) (λEf v V=>Ee S Ef v V):=by
 unfold gU;have:=h.LK;revert this;generalize a.LK=l;generalize A.LK=L;intro hl;cases hl with
 |nil=>exact Eg
 |cons hx hl=>exact im (λβ v V x X=>vT) hl hx
end
def cx (P:b5):Nat->U->Bool
 |0,_=>bb
 |d+1,t=>H4 P t||match P.LH t with
  |some (.struct fs)=>fs.all λf=>cx P d f.type
  |some (.array _ e)=>cx P d e
  |some (.slice _)=>bc
  |_=>bb
def EK.LE (P:EK)(d:Nat):P.b.LE d=P.a.LE d:=by
 induction d with
 |zero=>rfl
 |succ d ih =>
  funext t u;unfold Program.alikeButTags;rw[ih]
  rfl
def EK.LB (P:EK)(t:U):P.b.LB t=P.a.LB t:=by
 unfold Program.stoodInHeld Program.stoodInAs;rw[EK.LE,show P.b.depth=P.a.depth from rfl]
 rfl
def EK.LK (P:EK)(d:Nat):P.b.LK d=P.a.LK d:=by
 induction d with
 |zero=>rfl
 |succ d ih =>
  funext t;unfold Program.eqGuardType;rw[ih]
  rfl
section
variable {P:EK} {S:FO} {Ck:eF->Prop} {G:Nat} {β:Ey}
def fl {γ σ:Type}{f F:γ->σ->Sem (ForInStep σ)}:∀(l:List γ) (s:σ) (β:Ey),(∀x∈l,∀s Ef,β.le Ef->Eo P S Ck G Ef (f x s) (F x s) (λ_ a A=>a=A)) ->
  Eo P S Ck G β (forIn l s f) (forIn l s F) (λ_ a A=>a=A)
 |[],s,β,_=>by
  simp only[List.forIn_nil];exact Eb rfl
 |x::l,s,β,h=>by
  simp only[List.forIn_cons];refine Ea (h x (by simp) s β β.le_refl) ?_;rintro a7 a _ zX rfl;cases a with
  |done b=>exact Eb rfl
  |yield b=>exact fl l b a7 λy hy s Ef a6=>h y (by simp[hy]) s Ef (Ey.le_trans zX a6)
def fM (hG:P.a.globals.size<=G):∀(n k:Nat) {t:U} (β:Ey),cx P.a k t=bc->∀ {v V x X:J},Ee S β v V->Ee S β x X->Eo P S Ck G β (cu n t v x) (cu n t V X) (λ_ a A=>a=A)
 |0,_,_,_,_,_,_,_,_,_,_=>Ej (by intro g e;cases e)
 |_+1,0,_,_,h,_,_,_,_,_,_=>by cases h
 |n+1,k+1,t,β,h,v,V,x,X,hv,hx=>by
  by_cases hc:H4 P.a t=bc
  .exact lg hG n hc hv hx
  .unfold cx at h;rw[e5.2 hc,fx] at h;unfold cu;refine Ea (aj _) ?_;rintro aB d _ zX ⟨rfl,hd⟩;replace hv:=hv.LT zX;replace hx:=hx.LT zX;rw[hd] at h;cases d with
   |struct fs =>
    simp only[Bl] at h;cases hv with
    |agg h1 h2 =>
     cases hx with
     |agg h3 h4 =>
      rename_i a A b B;have ha:Ei S aB a A:=⟨h1,h2⟩;have hb:Ei S aB b B:=⟨h3,h4⟩;refine Ea aU ?_;rintro aG p p' a6 ⟨hp,aJ⟩;subst p p';rw[EK.LB];split
      .exact Ea (R:=λ_ _ _=>False) (Ej (by intro g e;cases e)) (λ_ _ _ _ h=>h.S)
      .refine Ea (R:=λ_ a A=>a=A) ?_ ?_
       .rw[<-Dq,<-Dq];refine fl _ _ _ λf hf s aC a7=>?_;split
        .refine Ea (cD _ ((ha.LT a6).LT a7) _) ?_;intro aH p1 P1 a8 Jj;refine Ea (cD _ (((hb.LT a6).LT a7).LT a8) _) ?_;intro aD p2 P2 aA aF;refine Ea (fM hG n k aD (h f (by simpa using hf)) (Jj.LT aA) aF) ?_;rintro aI r _ _ rfl;cases r<;>exact Eb rfl
        .exact Eb rfl
       .rintro aC ⟨a,_⟩ _ _ rfl;cases a<;>exact Eb rfl
     |_=>exact Eg
    |_=>first|exact Eg|(cases hx<;>exact Eg)
   |array len e =>
    cases hv with
    |agg h1 h2 =>
     cases hx with
     |agg h3 h4 =>
      rename_i a A b B;have ha:Ei S aB a A:=⟨h1,h2⟩;have hb:Ei S aB b B:=⟨h3,h4⟩;refine Ea (aK _) ?_;rintro aG m _ a6 rfl;refine Ea (R:=λ_ a A=>a=A) ?_ ?_
      .simp only[cF];refine fl _ _ _ λf hf s aC a7=>?_;refine Ea (cD _ ((ha.LT a6).LT a7) _) ?_;intro aH p1 P1 a8 Jj;refine Ea (cD _ (((hb.LT a6).LT a7).LT a8) _) ?_;intro aD p2 P2 aA aF;refine Ea (fM hG n k aD h (Jj.LT aA) aF) ?_;rintro aI r _ _ rfl;cases r<;>exact Eb rfl
      .rintro aC ⟨a,_⟩ _ _ rfl;cases a<;>exact Eb rfl
     |_=>exact Eg
    |_=>first|exact Eg|(cases hx<;>exact Eg)
   |slice e =>
    cases hv with
    |Hb l c=>cases hx<;>first|exact Eb rfl|exact Eg
    |slice o s l c hb=>cases hx<;>first|exact Eb rfl|exact Eg
    |Fq _=>cases hx<;>first|exact Eb rfl|exact Eg
    |_=>first|exact Eg|(cases hx<;>exact Eg)
   |_=>cases h
def dh:∀(n k:Nat) {t:U} (β:Ey),cx P.a k t=bc->∀ {v V x X:J},Ee S β v V->Ee S β x X->Eo P S Ck G β (bs n t v x) (bs n t V X) (λ_ a A=>a=A)
 |0,_,_,_,_,_,_,_,_,_,_=>Ej (by intro g e;cases e)
 |_+1,0,_,_,h,_,_,_,_,_,_=>by cases h
 |n+1,k+1,t,β,h,v,V,x,X,hv,hx=>by
  by_cases hc:H4 P.a t=bc
  .intro w W m hw ht aI aJ hb;rw[dg (P:=P) (λ_=>rfl) hc,dg P.LH hc];exact⟨β,bb,W,[],by simp,rfl,Fin.refl hw⟩
  .unfold cx at h;rw[e5.2 hc,fx] at h;unfold bs;refine Ea (aj _) ?_;rintro aA d _ zX ⟨rfl,hd⟩;replace hv:=hv.LT zX;replace hx:=hx.LT zX;rw[hd] at h;cases d with
   |struct fs =>
    simp only[Bl] at h;cases hv with
    |agg h1 h2 =>
     cases hx with
     |agg h3 h4 =>
      rename_i a A b B;have ha:Ei S aA a A:=⟨h1,h2⟩;have hb:Ei S aA b B:=⟨h3,h4⟩;refine Ea (R:=λ_ a A=>a=A) ?_ ?_
      .rw[<-Dq,<-Dq];refine fl _ _ _ λf hf s aB a6=>?_;split
       .refine Ea (cD _ (ha.LT a6) _) ?_;intro aG p1 P1 a7 Jj;refine Ea (cD _ ((hb.LT a6).LT a7) _) ?_;intro aC p2 P2 a8 aD;refine Ea (dh n k aC (h f (by simpa using hf)) (Jj.LT a8) aD) ?_;rintro aH r _ _ rfl;cases r<;>exact Eb rfl
       .exact Eb rfl
      .rintro aB ⟨a,_⟩ _ _ rfl;cases a<;>exact Eb rfl
     |blank _ hX=>cases X<;>first|exact Eb rfl|(cases hX;done)
     |_=>exact Eb rfl
    |blank _ hV=>cases V<;>first|exact Eb rfl|(cases hV;done)|(cases hx<;>exact Eb rfl)
    |_=>first|exact Eb rfl|(cases hx<;>exact Eb rfl)
   |array len e =>
    cases hv with
    |agg h1 h2 =>
     cases hx with
     |agg h3 h4 =>
      rename_i a A b B;have ha:Ei S aA a A:=⟨h1,h2⟩;have hb:Ei S aA b B:=⟨h3,h4⟩;refine Ea (aK _) ?_;rintro aL m _ aF rfl;refine Ea (R:=λ_ a A=>a=A) ?_ ?_
      .simp only[cF];refine fl _ _ _ λf hf s aB a6=>?_;refine Ea (cD _ ((ha.LT aF).LT a6) _) ?_;intro aG p1 P1 a7 Jj;refine Ea (cD _ (((hb.LT aF).LT a6).LT a7) _) ?_;intro aC p2 P2 a8 aD;refine Ea (dh n k aC h (Jj.LT a8) aD) ?_;rintro aH r _ _ rfl;cases r<;>exact Eb rfl
      .rintro aB ⟨a,_⟩ _ _ rfl;cases a<;>exact Eb rfl
     |blank _ hX=>cases X<;>first|exact Eb rfl|(cases hX;done)
     |_=>exact Eb rfl
    |blank _ hV=>cases V<;>first|exact Eb rfl|(cases hV;done)|(cases hx<;>exact Eb rfl)
    |_=>first|exact Eb rfl|(cases hx<;>exact Eb rfl)
   |slice e=>exact Eb rfl
   |_=>cases h
def nT (n k:Nat){t:U}(h:cx P.a k t=bc){v V x X:J}(hv:Ee S β v V)(hx:Ee S β x X)(hu:v=hole\/x=hole):zO P (cu (n+1) t v x):=by
 intro w es;have hr:∀d,P.a.LH t=I d->(underlying t).L P.a w es=(.ok d w,es):=λd e=>by
  unfold underlying;rw[ai];show(match(P.a.LH t) with|some d=>pure d|none=>stuck _:Sem l4).L P.a w es=_;rw[e];rfl
 cases k with
 |zero=>cases h
 |succ k =>
  unfold cu;rw[ai];unfold cx at h;by_cases hc:H4 P.a t=bc
  .rcases IG hc with⟨k,e⟩|e|e<;>rw[hr _ e]<;>obtain rfl|rfl:=hu
   .cases hx<;>first|exact .inl ⟨_,_,_,rfl⟩|exact .inr ⟨.L,_,_,rfl,by intro g e;cases e⟩
   .cases hv<;>first|exact .inl ⟨_,_,_,rfl⟩|exact .inr ⟨.L,_,_,rfl,by intro g e;cases e⟩
   .cases hx<;>first|exact .inl ⟨_,_,_,rfl⟩|exact .inr ⟨.L,_,_,rfl,by intro g e;cases e⟩
   .cases hv<;>first|exact .inl ⟨_,_,_,rfl⟩|exact .inr ⟨.L,_,_,rfl,by intro g e;cases e⟩
   .cases hx<;>first|exact .inl ⟨_,_,_,rfl⟩|exact .inr ⟨.L,_,_,rfl,by intro g e;cases e⟩
   .cases hv<;>first|exact .inl ⟨_,_,_,rfl⟩|exact .inr ⟨.L,_,_,rfl,by intro g e;cases e⟩
  .rw[e5.2 hc,fx] at h;cases hd:P.a.LH t with
   |none=>rw[hd] at h;cases h
   |some d =>
    rw[hd] at h;rw[hr _ hd];cases d with
    |struct fs =>
     obtain rfl|rfl:=hu
     .cases hx<;>exact .inl ⟨_,_,_,rfl⟩
     .cases hv<;>exact .inl ⟨_,_,_,rfl⟩
    |array l e =>
     obtain rfl|rfl:=hu
     .cases hx<;>exact .inl ⟨_,_,_,rfl⟩
     .cases hv<;>exact .inl ⟨_,_,_,rfl⟩
    |slice e =>
     obtain rfl|rfl:=hu
     .cases hx<;>exact .inl ⟨_,_,_,rfl⟩
     .cases hv<;>exact .inl ⟨_,_,_,rfl⟩
    |_=>cases h
def pS {op:jk}(ho:op=.eql\/op=.neq){k:Nat}{t:U}(h:cx P.a k t=bc){xo yo:gB}{v V x X:J}(hv:Ee S β v V)(hx:Ee S β x X)(hu:v=hole\/x=hole):zO P (do eqGuard op t xo yo v x;binOp op t v x):=by
 have z1:eqGuard op t xo yo v x=pure ():=by
  unfold eqGuard;rcases ho with rfl|rfl<;>(rw[AN (by simp)];rcases hu with rfl|rfl<;>first|(cases x<;>rfl)|(cases v<;>rfl))
 have z2:(do eqGuard op t xo yo v x;binOp op t v x)=binOp op t v x:=by rw[z1];rfl
 rw[z2];have h1:=binOp_eql (t:=t) (V:=v) (X:=x) (λk a k' b e1 e2=>by subst e1 e2;rcases hu with h|h<;>cases h) (λk a k' b e1 e2=>by subst e1 e2;rcases hu with h|h<;>cases h) (λk a b k' c d e1 e2=>by subst e1 e2;rcases hu with h|h<;>cases h) (λa b e1 e2=>by subst e1 e2;rcases hu with h|h<;>cases h);have hd:zO P (dr t v x):=nT 9999 k h hv hx hu;obtain rfl|rfl:=ho
 .rw[h1.1];exact hd.bind _
 .rw[h1.2];exact hd.bind _
def nU (op:jk){k:Nat}{t:U}(h:cx P.a k t=bc)(xo yo:gB){v V x X:J}(hv:Ee S β v V)(hx:Ee S β x X)(hu:¬(v=hole\/x=hole)):Eo P S Ck G β (eqGuard op t xo yo v x) (eqGuard op t xo yo V X) (λ_ _ _=>True):=by
  have fin:∀(Ef:Ey),β.le Ef->Eo P S Ck G Ef (do if<-bs cf t v x then bh (.noEntry "binop/eql: two nil values of an interface type with methods, in a part of a struct or an array"):Sem Unit) (do if<-bs cf t V X then bh (.noEntry "binop/eql: two nil values of an interface type with methods, in a part of a struct or an array")) (λ_ _ _=>True):=by
    intro Ef zX;refine Ea (dh _ k Ef h (hv.LT zX) (hx.LT zX)) ?_;rintro a6 a _ _ rfl;cases a with
    |true=>exact Ej (by intro g e;cases e)
    |false=>exact Eb trivial
  have a7:Eo P S Ck G β (do if<-bs cf t v x then bh (.noEntry "binop/eql: two nil values of an interface type with methods, neither of them the literal nil"):Sem Unit) (do if<-bs cf t V X then bh (.noEntry "binop/eql: two nil values of an interface type with methods, neither of them the literal nil")) (λ_ _ _=>True):=by
    refine Ea (dh _ k β h hv hx) ?_;rintro a6 a _ _ rfl;cases a with
    |true=>exact Ej (by intro g e;cases e)
    |false=>exact Eb trivial
  have key : Eo P S Ck G β (match v, x with
      |.nilIface,.nilIface=>do
        if(xo matches .const _)||(yo matches .const _) then return
        if<-bs cf t v x then bh (.noEntry "binop/eql: two nil values of an interface type with methods, neither of them the literal nil")
      |.agg _,.agg _=>do
        if !(<-program).LK (<-program).depth t then return
        if<-bs cf t v x then bh (.noEntry "binop/eql: two nil values of an interface type with methods, in a part of a struct or an array")
      |_,_=>(pure ():Sem Unit)) (match V,X with
      |.nilIface,.nilIface=>do
        if(xo matches .const _)||(yo matches .const _) then return
        if<-bs cf t V X then bh (.noEntry "binop/eql: two nil values of an interface type with methods, neither of them the literal nil")
      |.agg _,.agg _=>do
        if !(<-program).LK (<-program).depth t then return
        if<-bs cf t V X then bh (.noEntry "binop/eql: two nil values of an interface type with methods, in a part of a struct or an array")
      |_,_=>(pure ():Sem Unit)) (λ_ _ _=>True):=by
    cases hv with
    |nilIface=>cases hx with
      |nilIface=>cases xo<;>cases yo<;>first|exact Eb trivial|exact a7
      |blank _ _=>exact AS (.inr rfl) hu
      |_=>exact Eb trivial
    |agg h1 h2=>cases hx with
      |agg h3 h4 =>
        dsimp only;refine Ea aU ?_;rintro a6 p p' a8 ⟨hp,aB⟩;subst p p';refine Ea aU ?_;rintro aC p p' aA ⟨hp,aB⟩;subst p p';rw[show P.b.depth=P.a.depth from rfl,EK.LK];by_cases hb:(!P.a.LK P.a.depth t)=bc
        · simp only[AP hb]
          exact Eb trivial
        · simp only[AN hb]
          exact fin aC (Ey.le_trans a8 aA)
      |blank _ _=>exact AS (.inr rfl) hu
      |_=>exact Eb trivial
    |blank _ _=>exact AS (.inl rfl) hu
    |_=>first|exact Eb trivial|(cases hx<;>exact Eb trivial)
  unfold eqGuard;cases op<;>first
    |exact Eb trivial
    | (rw [AN (by simp)]
       exact key)
def rB (hG:P.a.globals.size<=G){op:jk}(ho:op=.eql\/op=.neq){k:Nat}{t:U}(h:cx P.a k t=bc){v V x X:J}(hv:Ee S β v V)(hx:Ee S β x X)(hu:¬(v=hole\/x=hole)):Eo P S Ck G β (binOp op t v x) (binOp op t V X) (λEf a A=>Ee S Ef a A):=by
 by_cases hi:∃k a k' b,v=.int k a/\x=.int k' b
 .obtain⟨k1,a,k2,b,rfl,rfl⟩:=hi;cases hv;cases hx;exact Ju op t _ _ _ _
 .by_cases hs:∃a b,v=.string a/\x=.string b
  .obtain⟨a,b,rfl,rfl⟩:=hs;cases hv;cases hx;have e:∀x y,binOp op t (.string x) (.string y)=eV op x y:=λx y=>by cases op<;>rfl
   rw[e];exact fL _ _ _
  .have h1:=binOp_eql (t:=t) (V:=v) (X:=x) (λk a k' b e1 e2=>hi ⟨k,a,k',b,e1,e2⟩) (λk a k' b e1 e2=>by subst e1;cases hv) (λk a b k' c d e1 e2=>by subst e1;cases hv) (λa b e1 e2=>hs ⟨a,b,e1,e2⟩);have h2:=binOp_eql (t:=t) (V:=V) (X:=X) (λk a k' b e1 e2=>by subst e1 e2;cases hv<;>first|exact hu (.inl rfl)|(cases hx<;>first|exact hu (.inr rfl)|exact hi ⟨_,_,_,_,rfl,rfl⟩)) (λk a k' b e1 e2=>by subst e1;cases hv;exact hu (.inl rfl)) (λk a b k' c d e1 e2=>by subst e1;cases hv;exact hu (.inl rfl)) (λa b e1 e2=>by subst e1 e2;cases hv<;>first|exact hu (.inl rfl)|(cases hx<;>first|exact hu (.inr rfl)|exact hs ⟨_,_,rfl,rfl⟩))
   obtain rfl|rfl:=ho
   .rw[h1.1,h2.1];exact Ea (fM hG _ k β h hv hx) (by rintro a6 b _ _ rfl;exact Eb (.bool _))
   .rw[h1.2,h2.2];exact Ea (fM hG _ k β h hv hx) (by rintro a6 b _ _ rfl;exact Eb (.bool _))
end
def oU (w:bD):w.sys .env=(.strings w.os.env,w):=by
 unfold mm;have:eo .env w.os=.done (.strings w.os.env,w.os):=by
  unfold eo
  rfl
 rw[this]
 rfl
section
variable {P:EK} {S:FO} {Ck:eF->Prop} {G:Nat} {β:Ey}
def yl:Eo P S Ck G β (sys .env) (sys .env) (λ_ a A=>a=A/\∃l,a=.strings l):=by
 intro w W n hw ht a6 a7 _;have e1:(sys .env).L P.a w a6=(.ok (.strings w.os.env) w,a6.LE ⟨.output,bc,bb⟩):=by
  show(Sem.sys .env .pure).L P.a w a6=_;simp only[bk,oU]
 have e2:(sys .env).L P.b W a7=(.ok (.strings W.os.env) W,a7.LE ⟨.output,bc,bb⟩):=by
  show(Sem.sys .env .pure).L P.b W a7=_;simp only[bk,oU]
 rw[e1,e2];exact⟨β,.strings W.os.env,W,[⟨.output,bc,bb⟩],by simp,⟨by rw[hw.env],_,rfl⟩,{ Fin.refl hw with evs:=λ_ E hE=>by cases CD.1 hE;exact .out }⟩
def nV {α H2:Type}{R:Ey->α->H2->Prop}:Eo P S Ck G β (bn .panicNil:Sem α) (bn .panicNil:Sem H2) R:=by
 refine Ea aU ?_;rintro a6 p p' _ ⟨rfl,rfl⟩;dsimp only;refine Ea (R:=λ_ a A=>a=A) ?_ ?_
 .show Eo P S Ck G a6 (elemOf P.a.rt.panicNilError) (elemOf P.a.rt.panicNilError) _;unfold elemOf;refine Ea (aj _) ?_;rintro a7 d _ _ ⟨rfl,_⟩;cases d with
  |pointer e=>exact Eb rfl
  |_=>exact Eg
 .rintro a7 e _ _ rfl;refine Ea (ib e (.agg rfl (by simp))) ?_;rintro a8 ⟨b,o,s⟩ ⟨B,o',s'⟩ _ ⟨h1,h2,h3⟩;cases h2;cases h3;exact dj (.iface _ (.ptr _ _ h1))
def pT {v V:J}(hv:Ee S β v V):Eo P S Ck G β (js v) (js V) (λEf a A=>Ee S Ef a A):=by
 cases hv with
 |iface t r=>exact dj (.iface t r)
 |nilIface =>
  unfold js Instr.panicnil;refine Ea (R:=λ_ a A=>a=A) ?_ ?_
  .refine Ea yl ?_;rintro a6 a _ _ ⟨rfl,l,rfl⟩;dsimp only;refine Ea aU ?_;rintro a7 p p' _ ⟨rfl,rfl⟩;exact Eb rfl
  .rintro a6 a _ _ rfl;split
   .exact dj .nilIface
   .exact nV
 |_=>exact Eg
end
structure KD (P:EK)(S:FO)(Ck:eF->Prop)(G:Nat):Prop where
 big:P.a.info? big=br
 call:∀f,S.fn f->∀(β:Ey) (a A:Array J),Ei S β a A->Eo P S Ck G β (kq f a) (kq f A) (Iz S Ck)
section
variable {P:EK} {S:FO} {Ck:eF->Prop} {G:Nat} {β:Ey}
def ca {f:ed} {fn:Func} (hf:P.a.L[f]?=I fn) {Hq:Func} (hf':P.fs[f]?=I Hq) (hn:fn.name ≠ "runtime.NumGoroutine") (a6:Hq.name ≠ "runtime.NumGoroutine") (hb:fn.body.isSome) (hb':Hq.body.isSome) (hS:S.fn f) {a A:Array J} (h:Ei S β a A) :
  Eo P S Ck G β (kq f a) (kq f A) (Iz S Ck):=by
 refine Ea aU ?_;rintro a7 p p' zX ⟨hp,a8⟩;subst p p';rw[hf,show P.b.L[f]?=I Hq from hf'];have h1:fn.body.L=false:=by cases hx:fn.body with
  |none=>rw[hx] at hb;cases hb
  |some _=>rfl
 have h2:Hq.body.L=false:=by cases hx:Hq.body with
  |none=>rw[hx] at hb';cases hb'
  |some _=>rfl
 simp only[beq_iff_eq,hn,a6,if_false,h1,h2,Bj];exact Eb (.enter hS (h.LT zX))
def rC:∀ {l:List Tmp} {m M:List J} {x X:Array J},Fj (Ee S β) m M->Ei S β x X ->
  Ei S β ((l.zip m).foldl (λtmps (p:Tmp×J)=>tmps.L p.1 p.2) x) ((l.zip M).foldl (λtmps (p:Tmp×J)=>tmps.L p.1 p.2) X)
 |[],_,_,_,_,_,hx=>by simpa using hx
 |t::l,_,_,_,_,h,hx=>by
  cases h with
  |nil=>simpa using hx
  |cons hv hr =>
   simp only[List.zip_cons_cons,B1];exact rC hr (hx.Lo _ hv)
def dK {l L:Nat}(h:β l L)(hh:S.LH l=bb):Eo P S Ck G β (k6 l) (k6 L) (λEf r R=>r.state=R.state/\r.pending=R.pending/\(S.fr r.fn/\∀c,r.pending=I c->Ck c)/\r.fn=R.fn/\Ei S Ef r.tmps R.tmps/\r.params=R.params/\r.assign=R.assign/\r.body=R.body/\Ck r.assign/\Ck r.body/\Ef r.defers R.defers/\S.LH r.defers=bb):=by
 refine Ea (fI h hh) ?_;intro a6 o O _ ho;cases ho with
 |loop hp ha hb hx hd hk=>exact Eb ⟨rfl,rfl,hp,rfl,hx,rfl,rfl,rfl,ha,hb,hd,hk⟩
 |_=>exact λ_ _ _ _ _ _ _ _=>trivial
def tV {l L:Nat}(h:β l L)(hh:S.LH l=bb){a A:Array J}(ha:Ei S β a A):Eo P S Ck G β (l5 l a) (l5 L A) (Iz S Ck):=by
 refine Ea (dK h hh) ?_;rintro a6 ⟨st,pe,fn,x,ps,AG,bo,d⟩ ⟨JD,pe',Hq,X,ps',as',bo',D⟩ zX ⟨h1,h2,h3,h4,h5,h6,h7,h8,h9,h10,h11,a7⟩;cases h1;cases h2;cases h4;cases h6;cases h7;cases h8;dsimp only at *;rw[ha.size];split
 .exact λ_ _ _ _ _ _ _ _=>trivial
 .refine Eb (.round (zX _ _ h) ⟨hh,h3.1⟩ ?_ h9 h10);have:=rC (l:=ps.LK) (ha.LT zX).LK h5;rw[<-Dp,<-Dp];simpa using this
def lj (P:b5)(ts:Array U)(b:Builtin):Prop:=match b with
 |.append=>(∀e s,ts[0]?=I s->P.LH s=I (.slice e)->ci P e=bc)/\(∀x k,ts[1]?=I x->P.LH x≠I (.int k))
 |.len|.cap=>∀t e d,ts[0]?=I t->P.LH t≠I (.chan e d)
 |.min|.max=>True
 |_=>False
def pU (b:Builtin)(ts:Array U)(t:U)(cs:Array Bool)
  (hb:lj P.a ts b) {a A:Array J} (h:Ei S β a A):Eo P S Ck G β (builtin b ts t cs a) (builtin b ts t cs A) (Iz S Ck):=by
 have v:∀ {m M:Sem J},Eo P S Ck G β m M (λEf a A=>Ee S Ef a A)->Eo P S Ck G β (do pure (.value (<-m)):Sem Next) (do pure (.value (<-M))) (Iz S Ck):=by
  intro m M hm;refine Ea hm ?_;intro a6 x X _ hx;exact Eb (.value hx)
 cases b with
 |append=>exact v (rv ts t hb.1 hb.2 h)
 |len=>exact v (yg ts t hb h)
 |cap=>exact v (yh ts t hb h)
 |min=>exact v (yj ts t h)
 |max=>exact v (yk ts t h)
 |_=>exact hb.S
def lm (hb:P.a.info? big=br):zO P (typeInfo big):=λw es=>by
 have e2:program.L P.a w es=(.ok P.a w,es):=rfl;refine .inl ⟨?_,w,es,?_⟩
 rotate_left
 .unfold typeInfo;rw[ai,e2];dsimp only;rw[hb]
  rfl
def zO.prog {γ:Type}{k:b5->Sem γ}(h:zO P (k P.a)):zO P (program >>= k):=λw es=>by
 rw[ai];exact h w es
def nW (hb:P.a.info? big=br)(n:Nat)(v:J)(s:String):zO P (method n big v s):=by
 cases n with
 |zero=>exact λw es=>.inr ⟨_,_,_,rfl,by intro g e;cases e⟩
 |succ n=>exact(lm hb).bind _
def mb (hb:P.a.info? big=br)(n:Nat)(v:J)(s:String){γ:Type}(k:Option Bool->Sem γ)(hk:∃u,k br=bh u/\∀g,u≠.initOrder g):zO P (nilAhead n big v s >>= k):=by
 cases n with
 |zero =>
  obtain⟨u,h1,h2⟩:=hk;intro w es;rw[ai];have e:(nilAhead 0 big v s).L P.a w es=(.ok br w,es):=rfl;rw[e];dsimp only;rw[h1];exact .inr ⟨u,w,es,rfl,h2⟩
 |succ n=>exact((lm hb).bind _).bind k
def iV (hb:P.a.info? big=br)(a:Array J):zO P (invoke (hd a).target (hd a).args):=by
 unfold hd invoke;have e:(#[Value.iface big undef]++a)[0]?=I (.iface big undef):=by rw[Dh (by decide)];rfl
 dsimp only;rw[e];unfold callMethod;dsimp only;exact zO.prog ((nW hb _ _ _).bind _)
def io (hS:KD P S Ck G){d D:ek}(h:FY S β d D):Eo P S Ck G β (invoke d.target d.args) (invoke D.target D.args) (Iz S Ck):=by
 cases h with
 |fn hf hc ha=>cases hf with
  |func hs=>exact hS.call _ hs β _ _ (ha.append hc)
  |yield hl hk=>exact tV hl hk ha
 |nil ha=>exact ay .nilDeref trivial
 |collected h _=>exact Eg
 |E8 a A h1 h2 h3=>subst h2;exact GC (iV hS.big a)
def gD {f F:J}(hf:Ee S β f F){a A:Array J}(ha:Ei S β a A):Eo P S Ck G β (Deferred.ofValue f a) (Deferred.ofValue F A) (λEf d D=>FY S Ef d D):=by
 cases hf with
 |func hf h1 a1 h2 a2=>exact Eb (.fn hf ⟨h2,a2⟩ (Ei.append ⟨h1,a1⟩ ha))
 |nilFunc=>exact Eb (.nil ha)
 |@E8 n x c h=>exact Eb (.E8 a A ha rfl (h.imp (λh=>by cases h;rfl) λh=>⟨h,n,c,x,rfl⟩))
 |_=>exact Eg
def ah (SB:ed->Bool):gB->Bool
 |.tmp _=>bc
 |.const v=>plain 8 v
 |.global _=>bb
 |.func f=>SB f
def Nj (SB:ed->Bool):Option gB->Bool
 |some x=>ah SB x
 |none=>bc
def bQ (P:b5)(SB:ed->Bool)(c:Call):Bool:=c.args.all (ah SB)&&match c.L with
 |.value f=>ah SB f
 |.invoke ..=>bb
 |.builtin .append =>
  (match c.argTypes[0]? with
   |some s=>match P.LH s with
    |some (.slice e)=>ci P e
    |_=>bc
   |none=>bc) &&
  (match c.argTypes[1]? with
   |some x=>match P.LH x with
    |some (.int _)=>bb
    |_=>bc
   |none=>bc)
 |.builtin b=>b==.min||b==.max||((b==.len||b==.cap)&&match c.argTypes[0]? with
  |some t=>match P.LH t with
   |some (.chan _ _)=>bb
   |_=>bc
  |none=>bc)
def isEq:jk->Bool
 |.eql|.neq=>bc
 |_=>bb
def fN (P:b5)(t:U):Bool:=match P.LH t with
 |some (.slice e)=>ci P e
 |_=>bc
def NI (P:b5)(SB:ed->Bool)(o:Oper):Bool:=match o.op with
 |.move x|.assign x=>ah SB x
 |.pick c a b=>ah SB c&&ah SB a&&ah SB b
 |.LK t=>ci P t
 |.box _ x=>ah SB x
 |.build t ps=>ci P t&&ps.all (λp=>ah SB p.2)
 |.buildSlice t _ ps=>fN P t&&ps.all (λp=>ah SB p.2)
 |.load _ a=>ah SB a
 |.store _ a v=>ah SB a&&ah SB v
 |.nilCheck x=>ah SB x&&(P.info? big).L
 |.binOp op t x y _=>(H4 P t||(isEq op&&cx P 12 t))&&ah SB x&&ah SB y
 |.makeInterface _ x|.panic x=>ah SB x
 |.unOp _ _ x=>ah SB x
 |.convert s d x=>il P s d&&ah SB x
 |.makeFunc fn fs cs=>(match fn with|.func f=>SB f|_=>bb)&&fs.all (ah SB)&&cs.all (ah SB)
 |.makeSlice t l c=>fN P t&&ah SB l&&ah SB c
 |.slice _ x l h m=>ah SB x&&Nj SB l&&Nj SB h&&Nj SB m
 |.fieldAddr s x i=>kH P s i&&ah SB x
 |.field _ x _=>ah SB x
 |.indexAddr _ x i=>ah SB x&&ah SB i
 |.index _ x i=>ah SB x&&ah SB i
 |.extract x _=>ah SB x
 |.call c|.defer c=>bQ P SB c
 |_=>bb
end
end Go.EB
