/- Parts of the proof. -/
import Derived.Test.YtjcgijifamcggaaGreatChecked
import Derived.WalkKit
import Derived.WalkSpells
import Derived.WalkLawsBesides
import Derived.StepT
import Derived.RunT
import Derived.Runnable
import Derived.Below
import Derived.Laws.OwnMore
import Derived.Deep.AppendLies
import Derived.Deep.Draws
import Derived.Lib.Hide
import Derived.Laws.EntriesVeiled
import Derived.Deep.RegionWith
set_option linter.all false
set_option maxHeartbeats 800000
set_option maxRecDepth 1000000
namespace Go
def xm:=@Array.getElem?_eq_some_iff
def xp:=@Nat.le_refl
def xq:=@List.getElem?_eq_getElem
def xx:=@Nat.lt_of_lt_of_le
def xz:=@List.not_mem_nil
def xC:=@List.mem_cons
def xD:=@Array.getElem?_eq_getElem
def xF:=@List.size_toArray
def xG:=@Bool.and_eq_true
def xH:=@List.length_cons
def xI:=@Nat.le_trans
def xK:=@List.length_nil
def xM:=@Nat.zero_add
def xP:=@Bool.false_eq_true
def xQ:=@Nat.zero_le
def xR:=@Array.all_eq_true_iff_forall_mem
def xS:=@List.getElem?_eq_some_iff
def xT:=@List.eq_nil_of_length_eq_zero
def xU:=@List.mem_map
def xV:=@Bool.or_eq_true
def xW:=@Option.map_eq_some_iff
def xX:=@Array.getElem?_setIfInBounds_ne
def xY:=@Array.mem_of_getElem?
def xZ:=@List.take_of_length_le
def ya:=@Array.empty_append
def yb:=@List.mem_range
def yd:=@List.getElem?_toArray
def ye:=@List.length_map
def yf:=@Nat.lt_or_ge
def yg:=@Nat.eq_zero_or_pos
def yh:=@Array.getElem?_modify
def yj:=@Array.replicate_succ
def yk:=@Array.replicate_zero
def yl:=@Array.getElem?_map
def ym:=@List.append_toArray
def yn:=@List.getElem_mem
def yp:=@Option.bind_some
def yq:=@Array.getD_eq_getD_getElem?
def yr:=@Array.getElem?_replicate
def yu:=@List.all_eq_true
def yv:=@List.getElem?_append_right
def yw:=@List.getElem?_map
def yx:=@List.push_toArray
def yy:=@Nat.pow_le_pow_right
def yz:=@List.getElem?_append_left
def yB:=@Nat.lt_or_eq_of_le
def yC:=@Option.map_some
def yD:=@List.mem_append
def yE:=@List.map_cons
def yF:=@List.cons_append
def yG:=@Bool.not_eq_true'
def yH:=@List.map_nil
def yI:=@List.nil_append
def yJ:=@List.mem_toArray
def yK:=@Array.getElem?_setIfInBounds
def yL:=@List.mem_cons_self
def yM:=@List.mem_of_getElem?
def yN:=@Bool.false_and
def yO:=@List.getElem?_eq_none
def yP:=@Nat.le_of_eq
def yQ:=@List.length_take
def yR:=@List.filter_append
def yT:=@List.mem_singleton
def yU:=@List.mem_cons_of_mem
def yV:=@Bool.and_false
def yW:=@Nat.le_of_lt_succ
def yX:=@List.mem_filter
def yY:=@Array.getElem?_push
def yZ:=@Array.getElem?_eq_none
def zb:=@List.length_filter_le
def zc:=@Bool.not_eq_false'
def zd:=@List.length_append
def ze:=@Bool.or_eq_false_iff
def zf:=@List.map_append
def zg:=@Nat.not_lt_zero
def zh:=@List.take_add_one
def zi:=@List.append_assoc
def zj:=@Array.getElem?_setIfInBounds_self_of_lt
def zk:=@List.take_length
def zm:=@Option.isSome_none
def zn:=@List.range_succ
def zo:=@Int.toNat_natCast
def zp:=@List.mem_of_mem_take
def zq:=@List.getElem?_set_ne
def zr:=@List.map_toArray
def zt:=@List.getElem_map
def zu:=@Nat.add_assoc
def zv:=@List.append_nil
def zw:=@List.foldl_cons
def zx:=@List.getElem?_take
def zy:=@Nat.le_succ_of_le
def zz:=@List.filter_congr
def zA:=@Array.getElem?_mapIdx
def zB:=@Array.getElem?_append
def zC:=@List.mem_iff_getElem
def zE:=@List.ext_getElem
def zF:=@Bool.or_false
def zG:=@Bool.true_and
def zH:=@Nat.pow_le_pow_left
def zI:=@List.drop_eq_getElem_cons
def zJ:=@Array.mapM_eq_mapM_toList
def zK:=@Nat.le_add_left
def zL:=@List.find?_eq_none
def zM:=@Array.foldl_toList
def zN:=@Array.forIn_toList
def zO:=@List.getElem_range
def zP:=@Nat.ne_of_lt
def zR:=@Array.getElem_ofFn
def zS:=@List.pairwise_cons
def zT:=@List.map_map
end Go

namespace Go.Proofs.YtjcgijifamcggaaGreat
open Go.RowKit
def ee {p q:Program}(h:p.toTables=q.toTables)(t:TypeId)(w:World):Sem.run p (typeInfo t) w=Sem.run q (typeInfo t) w:=by
 simp only[typeInfo,Sem.run_bind,run_program,Result.andThen,h];cases Tables.info? q.toTables t<;>rfl
def j6 {p q:Program}(h:p.toTables=q.toTables)(t:TypeId):p.underlying t=q.underlying t:=by simp only[Program.underlying,h]
def mS {p q:Program}(h:p.toTables=q.toTables)(t:TypeId)(w:World):Sem.run p (underlying t) w=Sem.run q (underlying t) w:=by
 simp only[underlying,Sem.run_bind,run_program,Result.andThen,j6 h];cases q.underlying t<;>rfl
def po {p q:Program}(h:p.toTables=q.toTables)(t:TypeId)(w:World):Sem.run p (isAgg t) w=Sem.run q (isAgg t) w:=by
 unfold isAgg;rw[Sem.run_bind,Sem.run_bind,mS h t w];generalize (underlying t).run q w=r;cases r with
 |ok d w1=>cases d<;>simp only[Result.andThen,Sem.run_pure]
 |halt _ _=>simp only[Result.andThen]
def nJ {p q:Program}(h:p.toTables=q.toTables)(t:TypeId)(w:World):Sem.run p (Go.sizeOf t) w=Sem.run q (Go.sizeOf t) w:=by
 unfold Go.sizeOf;rw[Sem.run_bind,Sem.run_bind,ee h t w];generalize (Go.typeInfo t).run q w=r;cases r with
 |ok d w1=>simp only[Result.andThen,Sem.run_pure]
 |halt _ _=>simp only[Result.andThen]
def kJ {p q:Program}(h:p.toTables=q.toTables)(t:TypeId)(w:World):Sem.run p (zeroValue t) w=Sem.run q (zeroValue t) w:=by
 unfold zeroValue;rw[Sem.run_bind,Sem.run_bind,ee h t w];generalize (Go.typeInfo t).run q w=r;cases r with
 |ok i w1 =>
  simp only[Result.andThen];cases i.zero with
  |some v2=>simp only[Sem.run_pure]
  |none=>simp[unsupported]
 |halt _ _=>simp only[Result.andThen]
def GH (i:FuncId):Bool:=i==58||i==92||i==93||i==94||i==95||i==3
noncomputable def casBody (x y:Int):Code:=.seq (.region 0 #[{ dst:=some 2,op:=.fieldAddr 130 (.tmp 0) 1,type:=0,pos := "",after:=#[],guard:=none },{ dst:=some 1,op:=.call { callee:=.value (.func 149),args:=#[.tmp 2,.const (.int .i32 x),.const (.int .i32 y)],argTypes:=#[216,21,21] },type:=4,pos := "",after:=#[{ on:=0,ground:=.data }],guard:=none }] false)
 (.cond (.tmp 1) .ret (.refuse "held"))
noncomputable def O1 (i:FuncId)(f:Func):Func:=if i==11||GH i then { f with body:=some (.refuse "put aside") } else if i==98 then { f with body:=some (casBody 0 1) } else if i==99 then { f with body:=some (casBody 1 0) } else f
def MS (p:Program)(g:Nat->Func->Func):Program:=⟨p.toTables,p.funcs.mapIdx g⟩
def pq (p:Program)(g:Nat->Func->Func)(i:Nat):(MS p g).funcs[i]?=(p.funcs[i]?).map (g i):=by
 show(p.funcs.mapIdx g)[i]?=_;rw[zA]
def pt (p:Program)(g:Nat->Func->Func):(MS p g).toTables=p.toTables:=rfl
def kK {p:Program}{g:Nat->Func->Func}{n:Nat}(h:p.globals.size=n):(MS p g).globals.size=n:=h
noncomputable def AG:Program:=MS Tryz.prog O1
def Sq.get (i:Nat):AG.funcs[i]?=(Tryz.prog.funcs[i]?).map (O1 i):=by rw[AG];exact pq _ _ _
def Sq.fn {i:Nat}{f:Func}(h:Tryz.prog.funcs[i]?=some f)(hi:(i==11||GH i||i==98||i==99)=false):AG.funcs[i]?=some f:=by
 rw[Sq.get,h];simp only[ze] at hi;simp only[yC,O1,hi.1.1.1,hi.1.1.2,hi.1.2,hi.2,Bool.or_self,xP,if_false]
def Sq.put {i:Nat}{f:Func}(h:Tryz.prog.funcs[i]?=some f)(hi:(i != 11&&GH i)=true):AG.funcs[i]?=some { f with body:=some (.refuse "put aside") }:=by
 rw[Sq.get,h];simp only[xG,bne_iff_ne,ne_eq] at hi;have h9:(i==11)=false:=by simpa using hi.1
 simp only[yC,O1,h9,hi.2,Bool.or_true,if_true]
def Ax:AG.funcs[11]?=some { Tryz.f11 with body:=some (.refuse "put aside") }:=by
 rw[Sq.get,Tryz.func11];rfl
noncomputable def An:Func:={ Tryz.f98 with body:=some (casBody 0 1) }
noncomputable def Aj:Func:={ Tryz.f99 with body:=some (casBody 1 0) }
def Sq.f98:AG.funcs[98]?=some An:=by
 rw[Sq.get,Tryz.func98];rfl
def Sq.f99:AG.funcs[99]?=some Aj:=by
 rw[Sq.get,Tryz.func99];rfl
def Ao:An.ntmps=6:=rfl
def Am:Aj.ntmps=6:=rfl
def zZ:AG.toTables=Tryz.prog.toTables:=by rw[AG];exact pt _ _
@[go_sem] theorem Sq.typeInfo (t:TypeId)(w:World):Sem.run AG (typeInfo t) w=Sem.run Tryz.prog (typeInfo t) w:=ee zZ t w
@[go_sem] theorem Sq.run (t:TypeId)(w:World):Sem.run AG (underlying t) w=Sem.run Tryz.prog (underlying t) w:=mS zZ t w
@[go_sem] theorem zW (t:TypeId)(w:World):Sem.run AG (isAgg t) w=Sem.run Tryz.prog (isAgg t) w:=po zZ t w
@[go_sem] theorem Sq.sizeOf (t:TypeId)(w:World):Sem.run AG (Go.sizeOf t) w=Sem.run Tryz.prog (Go.sizeOf t) w:=nJ zZ t w
@[go_sem] theorem Sq.zeroValue (t:TypeId)(w:World):Sem.run AG (Go.zeroValue t) w=Sem.run Tryz.prog (Go.zeroValue t) w:=kJ zZ t w
@[go_sem] theorem Sq.underlying (t:TypeId):AG.underlying t=Tryz.prog.underlying t:=j6 zZ t
@[go_sem] theorem Sq.globals_size:AG.globals.size=0:=(by rw[AG];exact kK Tryz.globals_size)
def ab {P:Program} {i:Nat} {f:Func} (h:P.funcs[i]?=some f) (hn:(f.name == "runtime.NumGoroutine")=false:=by decide +kernel) (hb:f.body.isSome=true:=by rfl) (args:Array Value) (w:World):Sem.run P (callFunc i args) w=.ok (.enter i args) w:=by
 have Vy:¬f.name = "runtime.NumGoroutine":=by simpa using hn
 have hb':f.body≠none:=Option.isSome_iff_ne_none.1 hb;simp[callFunc,h,Vy,hb']
def Sq.func14:=Sq.fn Tryz.func14 rfl
@[go_sem] def Sq.call14:=ab Sq.func14
def Sq.func4:=Sq.fn Tryz.func4 rfl
@[go_sem] def Sq.call4:=ab Sq.func4
def Sq.func29:=Sq.fn Tryz.func29 rfl
@[go_sem] def Sq.call29:=ab Sq.func29
def Sq.func13:=Sq.fn Tryz.func13 rfl
@[go_sem] def Sq.call13:=ab Sq.func13
def Sq.func7:=Sq.fn Tryz.func7 rfl
@[go_sem] def Sq.call7:=ab Sq.func7
def Sq.func8:=Sq.fn Tryz.func8 rfl
@[go_sem] def Sq.call8:=ab Sq.func8
def Sq.func33:=Sq.fn Tryz.func33 rfl
@[go_sem] def Sq.call33:=ab Sq.func33
def Sq.func36:=Sq.fn Tryz.func36 rfl
@[go_sem] def Sq.call36:=ab Sq.func36
def Sq.func28:=Sq.fn Tryz.func28 rfl
def Sq.func73:=Sq.fn Tryz.func73 rfl
@[go_sem] def Sq.call73:=ab Sq.func73
def Sq.func6:=Sq.fn Tryz.func6 rfl
@[go_sem] def Sq.call6:=ab Sq.func6
def Sq.func12:=Sq.fn Tryz.func12 rfl
@[go_sem] def Sq.call12:=ab Sq.func12
def Sq.func31:=Sq.fn Tryz.func31 rfl
@[go_sem] def Sq.call31:=ab Sq.func31
def Sq.func34:=Sq.fn Tryz.func34 rfl
@[go_sem] def Sq.call34:=ab Sq.func34
def Sq.func35:=Sq.fn Tryz.func35 rfl
@[go_sem] def Sq.call35:=ab Sq.func35
def Sq.func37:=Sq.fn Tryz.func37 rfl
@[go_sem] def Sq.call37:=ab Sq.func37
def Sq.func38:=Sq.fn Tryz.func38 rfl
@[go_sem] def Sq.call38:=ab Sq.func38
def Sq.func39:=Sq.fn Tryz.func39 rfl
@[go_sem] def Sq.call39:=ab Sq.func39
def Sq.func57:=Sq.fn Tryz.func57 rfl
@[go_sem] def Sq.call57:=ab Sq.func57
def Sq.func40:=Sq.fn Tryz.func40 rfl
@[go_sem] def Sq.call40:=ab Sq.func40
def Sq.func59:=Sq.fn Tryz.func59 rfl
def Sq.func60:=Sq.fn Tryz.func60 rfl
@[go_sem] def Sq.call60:=ab Sq.func60
def Sq.func61:=Sq.fn Tryz.func61 rfl
def Sq.func65:=Sq.fn Tryz.func65 rfl
@[go_sem] def Sq.call65:=ab Sq.func65
def Sq.func67:=Sq.fn Tryz.func67 rfl
def Sq.func68:=Sq.fn Tryz.func68 rfl
@[go_sem] def Sq.call68:=ab Sq.func68
def Sq.func26:=Sq.fn Tryz.func26 rfl
@[go_sem] def Sq.call26:=ab Sq.func26
def Sq.func16:=Sq.fn Tryz.func16 rfl
@[go_sem] def Sq.call16:=ab Sq.func16
def Sq.func17:=Sq.fn Tryz.func17 rfl
@[go_sem] def Sq.call17:=ab Sq.func17
def Sq.func18:=Sq.fn Tryz.func18 rfl
@[go_sem] def Sq.call18:=ab Sq.func18
def Sq.func19:=Sq.fn Tryz.func19 rfl
@[go_sem] def Sq.call19:=ab Sq.func19
def Sq.func20:=Sq.fn Tryz.func20 rfl
@[go_sem] def Sq.call20:=ab Sq.func20
def Sq.func21:=Sq.fn Tryz.func21 rfl
@[go_sem] def Sq.call21:=ab Sq.func21
def Sq.func22:=Sq.fn Tryz.func22 rfl
@[go_sem] def Sq.call22:=ab Sq.func22
def Sq.func23:=Sq.fn Tryz.func23 rfl
@[go_sem] def Sq.call23:=ab Sq.func23
def Sq.func24:=Sq.fn Tryz.func24 rfl
@[go_sem] def Sq.call24:=ab Sq.func24
def Sq.func25:=Sq.fn Tryz.func25 rfl
@[go_sem] def Sq.call25:=ab Sq.func25
def Sq.func69:=Sq.fn Tryz.func69 rfl
@[go_sem] def Sq.call69:=ab Sq.func69
def Sq.func70:=Sq.fn Tryz.func70 rfl
@[go_sem] def Sq.call70:=ab Sq.func70
def Sq.func71:=Sq.fn Tryz.func71 rfl
@[go_sem] def Sq.call71:=ab Sq.func71
def Sq.func49:=Sq.fn Tryz.func49 rfl
@[go_sem] def Sq.call49:=ab Sq.func49
def Sq.func53:=Sq.fn Tryz.func53 rfl
@[go_sem] def Sq.call53:=ab Sq.func53
def Sq.func41:=Sq.fn Tryz.func41 rfl
@[go_sem] def Sq.call41:=ab Sq.func41
def Sq.func42:=Sq.fn Tryz.func42 rfl
@[go_sem] def Sq.call42:=ab Sq.func42
def Sq.func15:=Sq.fn Tryz.func15 rfl
@[go_sem] def Sq.call15:=ab Sq.func15
def Sq.func72:=Sq.fn Tryz.func72 rfl
@[go_sem] def Sq.call72:=ab Sq.func72
def Sq.func96:=Sq.fn Tryz.func96 rfl
def Sq.func97:=Sq.fn Tryz.func97 rfl
def Sq.func50:=Sq.fn Tryz.func50 rfl
@[go_sem] def Sq.call50:=ab Sq.func50
def Sq.func98:AG.funcs[98]?=some An:=Sq.f98
@[go_sem] def Sq.call98:=ab Sq.func98
def Sq.func99:AG.funcs[99]?=some Aj:=Sq.f99
@[go_sem] def Sq.call99:=ab Sq.func99
def Sq.func43:=Sq.fn Tryz.func43 rfl
@[go_sem] def Sq.call43:=ab Sq.func43
def Sq.func44:=Sq.fn Tryz.func44 rfl
@[go_sem] def Sq.call44:=ab Sq.func44
def Sq.func45:=Sq.fn Tryz.func45 rfl
def Sq.func46:=Sq.fn Tryz.func46 rfl
def Sq.func47:=Sq.fn Tryz.func47 rfl
@[go_sem] def Sq.call47:=ab Sq.func47
def Sq.func48:=Sq.fn Tryz.func48 rfl
@[go_sem] def AA:=ab Sq.func48
def Sq.func51:=Sq.fn Tryz.func51 rfl
@[go_sem] def Sq.call51:=ab Sq.func51
def Sq.func52:=Sq.fn Tryz.func52 rfl
@[go_sem] def Sq.call52:=ab Sq.func52
def Sq.func54:=Sq.fn Tryz.func54 rfl
@[go_sem] def Sq.call54:=ab Sq.func54
def Sq.func86:=Sq.fn Tryz.func86 rfl
@[go_sem] def Sq.call86:=ab Sq.func86
def Sq.func88:=Sq.fn Tryz.func88 rfl
@[go_sem] def Sq.call88:=ab Sq.func88
def Sq.func89:=Sq.fn Tryz.func89 rfl
@[go_sem] def Sq.call89:=ab Sq.func89
def Sq.func90:=Sq.fn Tryz.func90 rfl
@[go_sem] def Sq.call90:=ab Sq.func90
def Sq.func91:=Sq.fn Tryz.func91 rfl
@[go_sem] def Sq.call91:=ab Sq.func91
def Sq.func100:=Sq.fn Tryz.func100 rfl
@[go_sem] def Sq.call100:=ab Sq.func100
def Sq.func101:=Sq.fn Tryz.func101 rfl
@[go_sem] def Sq.call101:=ab Sq.func101
def Sq.func87:=Sq.fn Tryz.func87 rfl
@[go_sem] def Sq.call87:=ab Sq.func87
def Sq.func74:=Sq.fn Tryz.func74 rfl
def Sq.func75:=Sq.fn Tryz.func75 rfl
def Sq.func76:=Sq.fn Tryz.func76 rfl
def Sq.func77:=Sq.fn Tryz.func77 rfl
def Sq.func78:=Sq.fn Tryz.func78 rfl
def Sq.func79:=Sq.fn Tryz.func79 rfl
def Sq.func80:=Sq.fn Tryz.func80 rfl
def Sq.func81:=Sq.fn Tryz.func81 rfl
def Sq.func82:=Sq.fn Tryz.func82 rfl
def Sq.func83:=Sq.fn Tryz.func83 rfl
def Sq.func84:=Sq.fn Tryz.func84 rfl
def Sq.func85:=Sq.fn Tryz.func85 rfl
def Sq.func107:=Sq.fn Tryz.func107 rfl
@[go_sem] def Sq.call107:=ab Sq.func107
def Sq.func136:=Sq.fn Tryz.func136 rfl
@[go_sem] def Sq.call136:=ab Sq.func136
def Sq.func137:=Sq.fn Tryz.func137 rfl
@[go_sem] def Sq.call137:=ab Sq.func137
def Sq.func138:=Sq.fn Tryz.func138 rfl
@[go_sem] def Sq.call138:=ab Sq.func138
def Sq.func139:=Sq.fn Tryz.func139 rfl
@[go_sem] def Sq.call139:=ab Sq.func139
def Sq.func149:=Sq.fn Tryz.func149 rfl
def Sq.func102:=Sq.fn Tryz.func102 rfl
def Sq.func103:=Sq.fn Tryz.func103 rfl
def Sq.func104:=Sq.fn Tryz.func104 rfl
def Sq.func105:=Sq.fn Tryz.func105 rfl
def Sq.func106:=Sq.fn Tryz.func106 rfl
def Sq.func108:=Sq.fn Tryz.func108 rfl
def Sq.func109:=Sq.fn Tryz.func109 rfl
def Sq.func110:=Sq.fn Tryz.func110 rfl
def Sq.func111:=Sq.fn Tryz.func111 rfl
def Sq.func112:=Sq.fn Tryz.func112 rfl
def Sq.func113:=Sq.fn Tryz.func113 rfl
def Sq.func114:=Sq.fn Tryz.func114 rfl
def Sq.func115:=Sq.fn Tryz.func115 rfl
def Sq.func153:=Sq.fn Tryz.func153 rfl
@[go_sem] def Sq.call153:=ab Sq.func153
def Sq.func140:=Sq.fn Tryz.func140 rfl
def Sq.func141:=Sq.fn Tryz.func141 rfl
def Sq.func142:=Sq.fn Tryz.func142 rfl
def Sq.func143:=Sq.fn Tryz.func143 rfl
def Sq.func154:=Sq.fn Tryz.func154 rfl
def Sq.underlying22:AG.underlying 22=some (.slice 3):=(Sq.underlying 22).trans Tryz.underlying22
def Sq.underlying29:AG.underlying 29=some (.slice 22):=(Sq.underlying 29).trans Tryz.underlying29
def Sq.underlying25:AG.underlying 25=some (.slice 58):=(Sq.underlying 25).trans Tryz.underlying25
def Sq.underlying99:AG.underlying 99=some (.slice 50):=(Sq.underlying 99).trans Tryz.underlying99
def Sq.func5:=Sq.fn Tryz.func5 rfl
@[go_sem] def Sq.call5:=ab Sq.func5
def Sq.func9:=Sq.fn Tryz.func9 rfl
@[go_sem] def Sq.call9:=ab Sq.func9
def Sq.func10:=Sq.fn Tryz.func10 rfl
@[go_sem] def Sq.call10:=ab Sq.func10
def Sq.func27:=Sq.fn Tryz.func27 rfl
@[go_sem] def Sq.call27:=ab Sq.func27
def Sq.func55:=Sq.fn Tryz.func55 rfl
@[go_sem] def Sq.call55:=ab Sq.func55
def Sq.func56:=Sq.fn Tryz.func56 rfl
@[go_sem] def Sq.call56:=ab Sq.func56
end Go.Proofs.YtjcgijifamcggaaGreat
namespace Go.Bl
structure Bw where
 a:Program
 fs:Array Func
def Bw.b (P:Bw):Program:={ P.a with funcs:=P.fs }
def Bw.underlying (P:Bw)(t:TypeId):P.b.underlying t=P.a.underlying t:=rfl
def AC (P:Bw)(t:TypeId):P.b.info? t=P.a.info? t:=rfl
abbrev Bc:=Nat->Nat->Prop
structure Bc.B8 (G:Nat)(β:Bc):Prop where
 fn:∀ {b B B'},β b B->β b B'->B=B'
 inj:∀ {b b' B},β b B->β b' B->b=b'
 lo:∀ {b B},β b B->G<=b/\G<=B
def Bc.le (β AQ:Bc):Prop:=∀b B,β b B->AQ b B
def Bc.le_refl (β:Bc):β.le β:=λ_ _ h=>h
def Bc.le_trans {a b c:Bc}(h:a.le b)(h':b.le c):a.le c:=λ_ _ x=>h' _ _ (h _ _ x)
structure Hid where
 at_:Nat->Bool
 BX:Bool
 bl:Bool
instance:CoeFun Hid (λ_=>Nat->Bool):=⟨Hid.at_⟩
structure CF where
 fn:FuncId->Prop
 hid:Hid
 fr:FuncId->Prop
inductive FE (S:CF)(β:Bc):Fn->Fn->Prop
 |func {f:FuncId}:S.fn f->FE S β (.func f) (.func f)
 |yield {l L:Nat}:β l L->S.hid l=false->FE S β (.yield l) (.yield L)
def hole:Value:=.chan (some 0)
def big:TypeId:=1000000000
def hm:Value:=.func (.method "") #[.iface big undef] #[]
def hd (a:Array Value):Deferred:=⟨.fn (.method "") #[],#[.iface big undef]++a⟩
def mT:Value->Bool
 |.agg _|.tuple _|.pointer none|.nilIface|.nilFunc|.bool _|.int _ _|.string _|.func (.method _) _ _=>false
 |_=>true
inductive AO (S:CF)(β:Bc):Value->Value->Prop
 |bool (b:Bool):AO S β (.bool b) (.bool b)
 |int (k:IntKind) (n:Int):AO S β (.int k n) (.int k n)
 |string (s:ByteArray):AO S β (.string s) (.string s)
 |EI:AO S β (.pointer none) (.pointer none)
 |ptr {b B:Nat} (o:Nat) (s:Option Nat):β b B->AO S β (.pointer (some ⟨b,o,s⟩)) (.pointer (some ⟨B,o,s⟩))
 |Ei (l c:Nat):AO S β (.slice none l c) (.slice none l c)
 |slice {b B:Nat} (o:Nat) (s:Option Nat) (l c:Nat):β b B->AO S β (.slice (some ⟨b,o,s⟩) l c) (.slice (some ⟨B,o,s⟩) l c)
 | func {f F : Fn} {x X c C : Array Value} : FE S β f F -> x.size = X.size -> (∀ (i : Nat) (v V : Value), x[i]? = some v -> X[i]? = some V -> AO S β v V) ->
   c.size=C.size->(∀(i:Nat) (v V:Value),c[i]?=some v->C[i]?=some V->AO S β v V)->AO S β (.func f x c) (.func F X C)
 |nilFunc:AO S β .nilFunc .nilFunc
 |Et:AO S β (.map none) (.map none)
 |DY:AO S β (.chan none) (.chan none)
 |nilIface:AO S β .nilIface .nilIface
 |iface (t:TypeId) {v V:Value}:AO S β v V->AO S β (.iface t v) (.iface t V)
 |agg {x X:Array Value}:x.size=X.size->(∀(i:Nat) (v V:Value),x[i]?=some v->X[i]?=some V->AO S β v V)->AO S β (.agg x) (.agg X)
 |tuple {x X:Array Value}:x.size=X.size->(∀(i:Nat) (v V:Value),x[i]?=some v->X[i]?=some V->AO S β v V)->AO S β (.tuple x) (.tuple X)
 |blank {V:Value}:(V=hole\/S.hid.bl=true)->mT V=true->AO S β hole V
 |BP {n:String} {x c:Array Value}:(Value.func (.method n) x c=hm\/S.hid.bl=true)->AO S β hm (.func (.method n) x c)
 |Cf {a A:Addr}:(A=a\/S.hid.bl=true)->AO S β (.slice (some a) 0 0) (.slice (some A) 0 0)
structure AU (S:CF)(β:Bc)(x X:Array Value):Prop where
 size:x.size=X.size
 at_:∀(i:Nat) (v V:Value),x[i]?=some v->X[i]?=some V->AO S β v V
section
variable {S:CF} {β AQ:Bc}
def FE.mono (h:β.le AQ){f F:Fn}(r:FE S β f F):FE S AQ f F:=by
 cases r with
 |func s=>exact .func s
 |yield l k=>exact .yield (h _ _ l) k
def AO.mono (h:β.le AQ){v V:Value}(r:AO S β v V):AO S AQ v V:=by
 induction r with
 |bool b=>exact .bool b
 |int k n=>exact .int k n
 |string s=>exact .string s
 |EI=>exact .EI
 |ptr o s hb=>exact .ptr o s (h _ _ hb)
 |Ei l c=>exact .Ei l c
 |slice o s l c hb=>exact .slice o s l c (h _ _ hb)
 |func hf h1 _ h2 _ i1 i2=>exact .func (hf.mono h) h1 i1 h2 i2
 |nilFunc=>exact .nilFunc
 |Et=>exact .Et
 |DY=>exact .DY
 |nilIface=>exact .nilIface
 |iface t _ ih=>exact .iface t ih
 |agg h1 _ i1=>exact .agg h1 i1
 |tuple h1 _ i1=>exact .tuple h1 i1
 |blank h1 h2=>exact .blank h1 h2
 |BP h1=>exact .BP h1
 |Cf h1=>exact .Cf h1
def AU.mono (h:β.le AQ){x X:Array Value}(r:AU S β x X):AU S AQ x X:=⟨r.size,λi v V a b=>(r.at_ i v V a b).mono h⟩
def AU.agg {x X:Array Value}(r:AU S β x X):AO S β (.agg x) (.agg X):=.agg r.size r.at_
def AU.tuple {x X:Array Value}(r:AU S β x X):AO S β (.tuple x) (.tuple X):=.tuple r.size r.at_
def AO.undef (S:CF)(β:Bc):AO S β undef undef:=.tuple rfl (by simp)
def Aa:AU S β #[] #[]:=⟨rfl,by simp⟩
def AU.get? {x X:Array Value}(r:AU S β x X){i:Nat}{v:Value}(h:x[i]?=some v):∃V,X[i]?=some V/\AO S β v V:=by
 have hi:i<X.size:=by rw[<-r.size];exact(xm.1 h).1
 exact⟨X[i],xD hi,r.at_ i v _ h (xD hi)⟩
def AU.get_none {x X:Array Value}(r:AU S β x X){i:Nat}(h:x[i]?=none):X[i]?=none:=by
 rw[Array.getElem?_eq_none_iff] at h ⊢;rw[<-r.size];exact h
def AU.getD {x X:Array Value}(r:AU S β x X)(i:Nat){d D:Value}(hd:AO S β d D):AO S β (x.getD i d) (X.getD i D):=by
 rw[yq,yq];cases h:x[i]? with
 |none=>rw[r.get_none h];exact hd
 |some v=>obtain⟨V,hV,hr⟩:=r.get? h;rw[hV];exact hr
def AU.push {x X:Array Value}(r:AU S β x X){v V:Value}(h:AO S β v V):AU S β (x.push v) (X.push V):=by
 refine⟨by simp[r.size],λi a A ha hA=>?_⟩;rw[yY] at ha hA;rw[r.size] at ha;split at ha
 .rw[if_pos ‹_›] at hA;cases ha;cases hA;exact h
 .rw[if_neg ‹_›] at hA;exact r.at_ i a A ha hA
def AU.append {x X y Y:Array Value}(r:AU S β x X)(s:AU S β y Y):AU S β (x++y) (X++Y):=by
 refine⟨by simp[r.size,s.size],λi a A ha hA=>?_⟩;rw[zB] at ha hA;rw[r.size] at ha;split at ha
 .rw[if_pos ‹_›] at hA;exact r.at_ i a A ha hA
 .rw[if_neg ‹_›] at hA;exact s.at_ _ a A ha hA
def AU.one {v V:Value}(h:AO S β v V):AU S β #[v] #[V]:=by simpa using Aa.push h
def AU.extract {x X:Array Value}(r:AU S β x X)(a b:Nat):AU S β (x.extract a b) (X.extract a b):=by
 refine⟨by simp[r.size],λi v V hv hV=>?_⟩;rw[Array.getElem?_extract] at hv hV;rw[r.size] at hv;split at hv
 .rw[if_pos ‹_›] at hV;exact r.at_ _ v V hv hV
 .cases hv
def AU.set {x X:Array Value}(r:AU S β x X)(i:Nat){v V:Value}(h:AO S β v V):AU S β (x.setIfInBounds i v) (X.setIfInBounds i V):=by
 refine⟨by simp[r.size],λj a A ha hA=>?_⟩;rw[yK] at ha hA;rw[r.size] at ha;split at ha
 .rw[if_pos ‹_›] at hA;split at ha
  .rw[if_pos ‹_›] at hA;cases ha;cases hA;exact h
  .cases ha
 .rw[if_neg ‹_›] at hA;exact r.at_ j a A ha hA
def AU.replicate {v V:Value}(h:AO S β v V)(n:Nat):AU S β (Array.replicate n v) (Array.replicate n V):=by
 refine⟨by simp,λi a A ha hA=>?_⟩;rw[yr] at ha hA;split at ha
 .rw[if_pos ‹_›] at hA;cases ha;cases hA;exact h
 .cases ha
def AU.map {α:Type}(l:Array α){f F:α->Value}(h:∀x∈l,AO S β (f x) (F x)):AU S β (l.map f) (l.map F):=by
 refine⟨by simp,λi a A ha hA=>?_⟩;rw[yl] at ha hA;cases hx:l[i]? with
 |none=>rw[hx] at ha;cases ha
 |some x =>
  rw[hx] at ha hA;cases ha;cases hA;exact h x (xY hx)
def AO.cells {v V:Value}(r:AO S β v V):AU S β v.cells V.cells:=by
 cases r with
 |agg h1 h2=>exact⟨h1,h2⟩
 |bool b=>exact AU.one (.bool b)
 |int k n=>exact AU.one (.int k n)
 |string s=>exact AU.one (.string s)
 |EI=>exact AU.one .EI
 |ptr o s hb=>exact AU.one (.ptr o s hb)
 |Ei l c=>exact AU.one (.Ei l c)
 |slice o s l c hb=>exact AU.one (.slice o s l c hb)
 |func hf h1 a1 h2 a2=>exact AU.one (.func hf h1 a1 h2 a2)
 |nilFunc=>exact AU.one .nilFunc
 |Et=>exact AU.one .Et
 |DY=>exact AU.one .DY
 |nilIface=>exact AU.one .nilIface
 |iface t r=>exact AU.one (.iface t r)
 |tuple h1 a1=>exact AU.one (.tuple h1 a1)
 |blank h1 h2 =>
  rw[show V.cells=#[V] by cases V<;>first|rfl|cases h2];exact AU.one (.blank h1 h2)
 |BP h1=>exact AU.one (.BP h1)
 |Cf h1=>exact AU.one (.Cf h1)
end
inductive CM (S:CF)(β:Bc):Deferred->Deferred->Prop
 |fn {f F:Fn} {c C a A:Array Value}:FE S β f F->AU S β c C->AU S β a A->CM S β ⟨.fn f c,a⟩ ⟨.fn F C,A⟩
 |nil {a A:Array Value}:AU S β a A->CM S β ⟨.nil,a⟩ ⟨.nil,A⟩
 |collected {r R:Nat}:β r R->S.hid r=false->CM S β ⟨.collected r,#[]⟩ ⟨.collected R,#[]⟩
 |BP {d D:Deferred} (a A:Array Value):AU S β a A->d=hd a->(D=hd A\/(S.hid.bl=true/\∃n c x,D=⟨.fn (.method n) c,x++A⟩))->CM S β d D
inductive B4 {α:Type}(R:α->α->Prop):List α->List α->Prop
 |nil:B4 R [] []
 |cons {a A:α} {l L:List α}:R a A->B4 R l L->B4 R (a::l) (A::L)
def B4.mono {α:Type}{R R':α->α->Prop}(h:∀a A,R a A->R' a A){l L:List α}(r:B4 R l L):B4 R' l L:=by
 induction r with
 |nil=>exact .nil
 |cons a _ ih=>exact .cons (h _ _ a) ih
def B4.append {α:Type}{R:α->α->Prop}{l L m M:List α}(r:B4 R l L)(s:B4 R m M):B4 R (l++m) (L++M):=by
 induction r with
 |nil=>exact s
 |cons a _ ih=>exact .cons a ih
def CM.mono {S:CF}{β AQ:Bc}(h:β.le AQ){d D:Deferred}(r:CM S β d D):CM S AQ d D:=by
 cases r with
 |fn f c a=>exact .fn (f.mono h) (c.mono h) (a.mono h)
 |nil a=>exact .nil (a.mono h)
 |collected r k=>exact .collected (h _ _ r) k
 |BP a A h1 h2 h3=>exact .BP a A (h1.mono h) h2 h3
inductive BS (S:CF)(Ck:Code->Prop)(β:Bc):Obj->Obj->Prop
 |cells {c C:Array Value} {t:TypeId} {f F:Nat×Nat}:AU S β c C->(∀i,F.1<=i->i<F.2->f.1<=i/\i<f.2)->BS S Ck β (.cells c t f) (.cells C t F)
 | loop {st : LoopState} {pe : Option Code} {fn : FuncId} {x X : Array Value} {ps : Array Tmp} {xi bo : Code} {d D : Nat} :
   (S.fr fn/\∀c,pe=some c->Ck c)->Ck xi->Ck bo->AU S β x X->β d D->S.hid d=false->BS S Ck β (.loop ⟨st,pe,fn,x,ps,xi,bo,d⟩) (.loop ⟨st,pe,fn,X,ps,xi,bo,D⟩)
 |number {b B:Nat} (o:Nat) (s:Option Nat) (lost:Bool):β b B->BS S Ck β (.number ⟨b,o,s⟩ lost) (.number ⟨B,o,s⟩ lost)
 |taken:BS S Ck β (.deferred none) (.deferred none)
 |defs {l L:List Deferred}:B4 (CM S β) l L->BS S Ck β (.deferred (some l)) (.deferred (some L))
def BS.mono {S:CF}{Ck:Code->Prop}{β AQ:Bc}(h:β.le AQ){o O:Obj}(r:BS S Ck β o O):BS S Ck AQ o O:=by
 cases r with
 |cells a f=>exact .cells (a.mono h) f
 |loop p a b x d k=>exact .loop p a b (x.mono h) (h _ _ d) k
 |number o s l hb=>exact .number o s l (h _ _ hb)
 |taken=>exact .taken
 |defs l=>exact .defs (l.mono λ_ _=>CM.mono h)
def Bc.O3 (β:Bc):Prop:=∀b B,β b B->b=B
def JE (H:Hid)(β:Bc):Prop:=H.bl=false/\β.O3
def FE.id {S:CF}{β:Bc}(h:β.O3){f F:Fn}(r:FE S β f F):f=F:=by
 cases r with
 |func _=>rfl
 |yield hl _=>rw[h _ _ hl]
def AO.id {S:CF}{β:Bc}(h:JE S.hid β){v V:Value}(r:AO S β v V):v=V:=by
 have arr:∀(x X:Array Value),x.size=X.size->(∀(i:Nat) (v V:Value),x[i]?=some v->X[i]?=some V->v=V)->x=X:=λx X hs ha=>by
  refine Array.ext hs λi h1 h2=>?_;exact ha i _ _ (xD h1) (xD h2)
 induction r with
 |ptr o s hb=>rw[h.2 _ _ hb]
 |slice o s l c hb=>rw[h.2 _ _ hb]
 |func hf h1 _ h2 _ i1 i2=>rw[hf.id h.2,arr _ _ h1 i1,arr _ _ h2 i2]
 |iface t _ ih=>rw[ih]
 |agg h1 _ i1=>rw[arr _ _ h1 i1]
 |tuple h1 _ i1=>rw[arr _ _ h1 i1]
 |blank h1 _=>exact h1.elim Eq.symm λh1=>by rw[h.1] at h1;cases h1
 |BP h1=>exact h1.elim Eq.symm λh1=>by rw[h.1] at h1;cases h1
 |Cf h1=>exact h1.elim (λe=>by rw[e]) λh1=>by rw[h.1] at h1;cases h1
 |_=>rfl
def AU.id {S:CF}{β:Bc}(h:JE S.hid β){x X:Array Value}(r:AU S β x X):x=X :=
 Array.ext r.size λi h1 h2=>(r.at_ i _ _ (xD h1) (xD h2)).id h
def B4.id {α:Type}{R:α->α->Prop}(h:∀a A,R a A->a=A){l L:List α}(r:B4 R l L):l=L:=by
 induction r with
 |nil=>rfl
 |cons ha _ ih=>rw[h _ _ ha,ih]
def CM.id {S:CF}{β:Bc}(h:JE S.hid β){d D:Deferred}(r:CM S β d D):d=D:=by
 cases r with
 |fn f c a=>rw[f.id h.2,c.id h,a.id h]
 |nil a=>rw[a.id h]
 |collected r _=>rw[h.2 _ _ r]
 |BP a A h1 h2 h3 =>
  rw[h2,h1.id h];exact h3.elim Eq.symm λh1=>by have:=h1.1;rw[h.1] at this;cases this
def BS.id {S:CF}{Ck:Code->Prop}{β:Bc}(h:JE S.hid β){o O:Obj}(r:BS S Ck β o O)(hn:∀c t f,o≠.cells c t f):o=O:=by
 cases r with
 |cells=>exact absurd rfl (hn _ _ _)
 |loop p a b x d k=>rw[x.id h,h.2 _ _ d]
 |number o s l hb=>rw[h.2 _ _ hb]
 |taken=>rfl
 |defs l=>rw[l.id λ_ _=>CM.id h]
structure BF (S:CF)(Ck:Code->Prop)(G:Nat)(β:Bc)(w W:World):Prop where
 Cn:β.B8 G
 room:G<=w.heap.size/\G<=W.heap.size
 CQ:∀b B,β b B->S.hid b=false->∃o O,w.heap[b]?=some o/\W.heap[B]?=some O/\BS S Ck β o O
 Db:∀b B,β b B->S.hid b=true->w.heap[b]?=some (.coro none)/\(S.hid.BX=false->∃c t f,W.heap[B]?=some (.cells c t f))/\(S.hid.BX=true->W.heap[B]?=some (.coro none))
 old:∀b,S.hid b=true->b<w.heap.size
 env:w.os.env=W.os.env
def ID (n:Nat)(w W:World):Prop:=∀i,i<n->∀q,w.tape (w.drawn+i) q=W.tape (W.drawn+i) q
inductive MOk:Mark->Prop
 |extern (f:FuncId):MOk (.extern f)
 |noRoom:MOk .noRoom
def Cr:Obj->Nat
 |.cells c _ _=>c.size+3
 |.coro none=>1
 |_=>2
inductive XQ (β:Bc)(w:World):Event->Prop
 |cell {a A:Addr} {wr sy:Bool}:β a.block A.block->a.off=A.off->(∃n,(w.heap[a.block]?).map Cr=some (n+3)/\a.off<n)->(wr=true->w.frozen? a=false)->XQ β w ⟨.cell A,wr,sy⟩
 |obj {r R:Nat} {wr sy:Bool}:β r R->(w.heap[r]?).map Cr=some 2->XQ β w ⟨.obj R,wr,sy⟩
 |mark {M:Mark} {wr sy:Bool}:MOk M->XQ β w ⟨.mark M,wr,sy⟩
 |out {wr sy:Bool}:XQ β w ⟨.output,wr,sy⟩
structure Fin (S:CF)(Ck:Code->Prop)(G:Nat)(β AQ:Bc)(w W w' W':World)(ES:List Event):Prop where
 le:β.le AQ
 rel:BF S Ck G AQ w' W'
 tape:w'.tape=w.tape
 TAPE:W'.tape=W.tape
 drawn:w.drawn<=w'.drawn
 draws:W'.drawn+w.drawn=W.drawn+w'.drawn
 os:w'.os=w.os
 OS:W'.os=W.os
 out:w'.output=w.output
 OUT:W'.output=W.output
 size:w.heap.size<=w'.heap.size
 SIZE:W.heap.size<=W'.heap.size
 new:∀b B,AQ b B->β b B\/(w.heap.size<=b/\W.heap.size<=B)
 NEW:∀B,W.heap.size<=B->B<W'.heap.size->∃b,AQ b B
 frozen:∀a:Addr,a.block<w.heap.size->w'.frozen? a=w.frozen? a
 KEPT:∀B,B<W.heap.size->(∀b,¬β b B)->W'.heap[B]?=W.heap[B]?
 ro:∀b B c t f,β b B->w.heap[b]?=some (.cells c t f)->(∀i,i<c.size->f.1<=i/\i<f.2)->w'.heap[b]?=w.heap[b]?/\W'.heap[B]?=W.heap[B]?
 kind:∀b,b<w.heap.size->(w'.heap[b]?).map Cr=(w.heap[b]?).map Cr
 evs:S.hid.BX=false->∀E∈ES,XQ AQ w' E
 same:JE S.hid β->w.heap=W.heap->JE S.hid AQ/\w'.heap=W'.heap
 hk:∀b B,β b B->S.hid b=true->W'.heap[B]?=W.heap[B]?
section
variable {S:CF} {Ck:Code->Prop} {G:Nat} {β AQ YY:Bc} {w W w' W' w'' W'':World} {ES ES':List Event}
def BF.lt (h:BF S Ck G β w W){b B:Nat}(hb:β b B):b<w.heap.size/\B<W.heap.size:=by
 cases hh:S.hid b with
 |false =>
  obtain⟨o,O,h1,h2,_⟩:=h.CQ b B hb hh;exact⟨(xm.1 h1).1,(xm.1 h2).1⟩
 |true =>
  obtain⟨h1,h2,h3⟩:=h.Db b B hb hh;refine⟨(xm.1 h1).1,?_⟩;cases ht:S.hid.BX with
  |false=>obtain⟨c,t,f,h2⟩:=h2 ht;exact(xm.1 h2).1
  |true=>exact(xm.1 (h3 ht)).1
def Fin.refl (h:BF S Ck G β w W):Fin S Ck G β β w W w W [] where
 le:=β.le_refl
 rel:=h
 tape:=rfl
 TAPE:=rfl
 drawn:=xp _
 draws:=rfl
 os:=rfl
 OS:=rfl
 out:=rfl
 OUT:=rfl
 size:=xp _
 SIZE:=xp _
 new:=λ_ _ h=>.inl h
 NEW:=λB h1 h2=>absurd h2 (by omega)
 frozen:=λ_ _=>rfl
 KEPT:=λ_ _ _=>rfl
 ro:=λ_ _ _ _ _ _ _ _=>⟨rfl,rfl⟩
 kind:=λ_ _=>rfl
 evs:=by simp
 same:=λh e=>⟨h,e⟩
 hk:=λ_ _ _ _=>rfl
def Fin.trans (h:Fin S Ck G β AQ w W w' W' ES)(k:Fin S Ck G AQ YY w' W' w'' W'' ES'):Fin S Ck G β YY w W w'' W'' (ES++ES') where
 le:=Bc.le_trans h.le k.le
 rel:=k.rel
 tape:=k.tape.trans h.tape
 TAPE:=k.TAPE.trans h.TAPE
 drawn:=xI h.drawn k.drawn
 draws:=by have:=h.draws;have:=k.draws;omega
 os:=k.os.trans h.os
 OS:=k.OS.trans h.OS
 out:=k.out.trans h.out
 OUT:=k.OUT.trans h.OUT
 size:=xI h.size k.size
 SIZE:=xI h.SIZE k.SIZE
 new:=λb B hb=>by
  rcases k.new b B hb with h1|⟨h1,h2⟩
  .exact h.new b B h1
  .exact .inr ⟨xI h.size h1,xI h.SIZE h2⟩
 NEW:=λB h1 h2=>by
  by_cases hB:B<W'.heap.size
  .obtain⟨b,hb⟩:=h.NEW B h1 hB;exact⟨b,k.le _ _ hb⟩
  .exact k.NEW B (by omega) h2
 frozen:=λa ha=>(k.frozen a (xx ha h.size)).trans (h.frozen a ha)
 KEPT:=λB hB hn=>by
  refine(k.KEPT B (xx hB h.SIZE) (λb hb=>?_)).trans (h.KEPT B hB hn);rcases h.new b B hb with h1|⟨_,h2⟩
  .exact hn b h1
  .omega
 ro:=λb B c t f hb hc hf=>by
  obtain⟨e1,e2⟩:=h.ro b B c t f hb hc hf;obtain⟨k1,k2⟩:=k.ro b B c t f (h.le _ _ hb) (e1.trans hc) hf;exact⟨k1.trans e1,k2.trans e2⟩
 kind:=λb hb=>(k.kind b (xx hb h.size)).trans (h.kind b hb)
 evs:=λht E hE=>by
  rcases yD.1 hE with hE|hE
  .have:=h.evs ht E hE;cases this with
   |cell hb ho hc hw =>
    have hl:=(h.rel.lt hb).1;exact .cell (k.le _ _ hb) ho (let ⟨n,h1,h2⟩:=hc;⟨n,(k.kind _ hl).trans h1,h2⟩) (λe=>(k.frozen _ hl).trans (hw e))
   |obj hr hc=>exact .obj (k.le _ _ hr) ((k.kind _ (h.rel.lt hr).1).trans hc)
   |mark hm=>exact .mark hm
   |out=>exact .out
  .exact k.evs ht E hE
 same:=λi e=>let ⟨a,b⟩:=h.same i e;k.same a b
 hk:=λb B hb hh=>(k.hk b B (h.le _ _ hb) hh).trans (h.hk b B hb hh)
def ID.rest {n:Nat}(h:ID n w W)(k:Fin S Ck G β AQ w W w' W' ES):ID (n-(w'.drawn-w.drawn)) w' W':=by
 intro i hi q;have h1:=k.drawn;have h2:=k.draws;have:=h (w'.drawn-w.drawn+i) (by omega) q;rw[k.tape,k.TAPE];rw[show w.drawn+(w'.drawn-w.drawn+i)=w'.drawn+i from by omega,show W.drawn+(w'.drawn-w.drawn+i)=W'.drawn+i from by omega] at this;exact this
end
def world {α:Type}:Result α->World
 |.ok _ w=>w
 |.halt _ w=>w
def pu {α:Type}:∀(a:Ask α) (w:World),w.drawn<=(w.ask a).2.drawn:=by
 intro a
 induction a with
 |done a=>intro w;exact xp _
 |ask what range k ih =>
  intro w;simp only[World.ask];split
  .exact ih _ _
  .exact xI (Nat.le_succ w.drawn) (ih _ { w with drawn:=w.drawn+1 })
def NB (w:World)(c:Sys):w.drawn<=(w.sys c).2.drawn:=by
 have h:=pu (Kernel.perform c w.os) w;unfold World.sys;generalize w.ask (Kernel.perform c w.os)=r at h;obtain⟨⟨r,os⟩,w'⟩:=r;cases r<;>first|exact h|exact xp _
def iX {p:Program}{w w':World}{at_ k:Addr}{u:TypeId}{v:Value}{b:Bool}{l:List Addr}(h:w.viewStore p at_ u k v b=.ok (w',l)):w'.drawn=w.drawn:=by
 unfold World.viewStore at h;simp only[bind,Except.bind,pure,Except.pure] at h
 repeat' (split at h)
 all_goals first|(cases h;rfl)|cases h
def jE {p:Program}{w w':World}{a:Addr}{v:Value}{b:Bool}{l:List Addr}(h:w.farStore p a v b=.ok (w',l)):w'.drawn=w.drawn:=by
 unfold World.farStore at h;split at h
 .split at h
  .rename_i r hr;cases h;exact iX hr
  .cases h
 .cases h
def cY {α:Type}(P:Program)(md:Mode)(a:Addr)(v:Value)(k:Sem α)(w:World)(es:Array Event)(h1:∀x,v≠.agg x)(h2:∀x,v≠.tuple x) :
  (Sem.store md a v k).runT P w es=match w.cell? a with
   |some _=>if w.frozen? a then(.halt (.unsupported (.unsafePointer "a write to bytes that a string shares")) w,es)
     else k.runT P (w.setCell a v) (es.push ⟨.cell a,true,md==.atomic⟩)
   | none => match w.farStore P a v (md == .atomic) with
     |.ok (w,SZ)=>k.runT P w (es++SZ.toArray.map (⟨.cell ·,true,md==.atomic⟩))
     |.error h=>(.halt h w,es):=by
 cases v<;>first|exact absurd rfl (h1 _)|exact absurd rfl (h2 _)|rfl
def Cy {α:Type}(P:Program)(m:Sem α):∀(w:World) (es:Array Event),w.drawn<=(world (m.runT P w es).1).drawn:=by
 induction m with
 |pure a=>intro w es;exact xp _
 |load md a k ih =>
  intro w es;simp only[Sem.runT];split
  .exact ih _ _ _
  .split
   .exact ih _ _ _
   .exact xp _
 |store md a v k ih =>
  intro w es;by_cases h1:∃x,v=.agg x
  .obtain⟨x,rfl⟩:=h1;exact xp _
  by_cases h2:∃x,v=.tuple x
  .obtain⟨x,rfl⟩:=h2;exact xp _
  rw[cY P md a v k w es (λx e=>h1 ⟨x,e⟩) (λx e=>h2 ⟨x,e⟩)];split
  .split
   .exact xp _
   .exact ih (w.setCell a v) _
  .split
   .rename_i w' l hw;have:=jE hw;exact xI (yP this.symm) (ih _ _)
   .exact xp _
 |new o k ih=>intro w es;exact ih _ { w with heap:=w.heap.push o } _
 |shape r k ih=>intro w es;exact ih _ _ _
 |freeze a n k ih=>intro w es;exact xI (by unfold World.freeze;split<;>exact xp _) (ih _ _)
 |frozen a k ih=>intro w es;exact ih _ _ _
 |getObj r k ih =>
  intro w es;simp only[Sem.runT];split
  .exact xp _
  .exact ih _ _ _
  .exact xp _
 |setObj r o k ih =>
  intro w es;simp only[Sem.runT];split
  .exact xp _
  .exact ih { w with heap:=w.heap.setIfInBounds r o } _
  .exact xp _
 |choose q k ih =>
  intro w es;simp only[Sem.runT];split
  .exact ih _ _ _
  .exact xI (Nat.le_succ w.drawn) (ih _ { w with drawn:=w.drawn+1 } _)
 |sys c k ih=>intro w es;exact xI (NB w c) (ih _ _ _)
 |program k ih=>intro w es;exact ih _ _ _
 |mark m k ih=>intro w es;exact ih _ _
 |halt h=>intro w es;exact xp _
def ah {α γ:Type}(P:Program)(m:Sem α)(k:α->Sem γ):∀(w:World) (es:Array Event),(m >>= k).runT P w es =
  match m.runT P w es with
  |(.ok a w',es')=>(k a).runT P w' es'
  |(.halt h w',es')=>(.halt h w',es'):=by
 induction m with
 |pure a=>intro w es;rfl
 |load md a k' ih =>
  intro w es;show((Sem.load md a λv=>(k' v) >>= k)).runT P w es=_;simp only[Sem.runT];split
  .exact ih _ _ _
  .split
   .exact ih _ _ _
   .rfl
 |store md a v k' ih =>
  intro w es;show((Sem.store md a v (k' >>= k))).runT P w es=_;by_cases h1:∃x,v=.agg x
  .obtain⟨x,rfl⟩:=h1;rfl
  by_cases h2:∃x,v=.tuple x
  .obtain⟨x,rfl⟩:=h2;rfl
  rw[cY P md a v _ w es (λx e=>h1 ⟨x,e⟩) (λx e=>h2 ⟨x,e⟩),cY P md a v _ w es (λx e=>h1 ⟨x,e⟩) (λx e=>h2 ⟨x,e⟩)];split
  .split
   .rfl
   .exact ih _ _
  .split
   .exact ih _ _
   .rfl
 |new o k' ih=>intro w es;exact ih _ _ _
 |shape r k' ih=>intro w es;exact ih _ _ _
 |freeze a n k' ih=>intro w es;exact ih _ _
 |frozen a k' ih=>intro w es;exact ih _ _ _
 |getObj r k' ih =>
  intro w es;show((Sem.getObj r λv=>(k' v) >>= k)).runT P w es=_;simp only[Sem.runT];split
  .rfl
  .exact ih _ _ _
  .rfl
 |setObj r o k' ih =>
  intro w es;show((Sem.setObj r o (k' >>= k))).runT P w es=_;simp only[Sem.runT];split
  .rfl
  .exact ih _ _
  .rfl
 |choose q k' ih =>
  intro w es;show((Sem.choose q λv=>(k' v) >>= k)).runT P w es=_;simp only[Sem.runT];split
  .exact ih _ _ _
  .exact ih _ _ _
 |sys c k' ih=>intro w es;exact ih _ _ _
 |program k' ih=>intro w es;exact ih _ _ _
 |mark m k' ih=>intro w es;exact ih _ _
 |halt h=>intro w es;rfl
end Go.Bl
namespace Go.Sq
structure BH where
 heads:Int
 DC:Int
 most:Int
 off:List Int
instance:Inhabited BH:=⟨⟨0,0,0,[]⟩⟩
structure AW where
 AK:List Int
 AH:List BH
def AW.h (c:AW)(i:Nat):BH:=c.AH[i]?.getD default
def F7:List Int->List Int->Int
 |[],[]=>0
 |[],_::_=>-1
 |_::_,[]=>1
 |a::l,b::m=>if a<b then -1 else if b<a then 1 else F7 l m
def kY (l:List Int):F7 [] l=if l.length=0 then 0 else -1:=by cases l<;>simp[F7]
def pv (l:List Int)(h:0<l.length):F7 l []=1:=by cases l with
 |nil=>simp at h
 |cons a l=>rfl
def pw (l m:List Int)(k:Nat)(h1:k<l.length)(h2:k<m.length):F7 (l.drop k) (m.drop k)=if l[k]?.getD 0<m[k]?.getD 0 then -1 else if m[k]?.getD 0<l[k]?.getD 0 then 1 else F7 (l.drop (k+1)) (m.drop (k+1)):=by
 rw[zI h1,zI h2,xq h1,xq h2]
 rfl
def dq (a b:Int):Int:=if a<b then -1 else if b<a then 1 else 0
def aS {α:Type}(d:α)(l:List α)(k:Nat)(h:k<l.length):l.take (k+1)=l.take k++[l[k]?.getD d]:=by
 rw[zh,xq h];rfl
def kZ (l:List Int)(k:Nat)(h:k<l.length):(l.take (k+1)).sum=(l.take k).sum+l[k]?.getD 0:=by
 rw[aS 0 l k h,List.sum_append];simp
def EG (a b:Int)(l:List Int)(h:∀x∈l,a<=x/\x<=b):l.length*a<=l.sum/\l.sum<=l.length*b:=by
 induction l with
 |nil=>simp
 |cons x l ih =>
  obtain⟨h1,h2⟩:=ih λy hy=>h y (yU _ hy);obtain⟨h3,h4⟩:=h x yL;simp only[xH,List.sum_cons,Int.natCast_add,Int.natCast_one,Int.add_mul,Int.one_mul] at *;omega
def Dq (l:List Int)(k:Nat)(h:k<l.length):l[k]?.getD 0∈l:=by
 rw[xq h];exact yn h
structure AW.Ok (c:AW):Prop where
 n1:1<=c.AK.length
 n5:c.AK.length<=5
 need:∀x∈c.AK,0<=x/\x<=12
 h1:1<=c.AH.length
 h4:c.AH.length<=4
 heads:∀h∈c.AH,1<=h.heads/\h.heads<=40
 DC:∀h∈c.AH,1<=h.DC/\h.DC<=5
 most:∀h∈c.AH,0<=h.most/\h.most<=5
 off:∀h∈c.AH,h.off.length<=5/\∀x∈h.off,0<=x/\x<c.AK.length
def AW.GI (c:AW){i:Nat}(hi:i<c.AH.length):c.h i∈c.AH:=by
 unfold AW.h;rw[xq hi];exact yn hi
def below (x k:Nat):List Int:=((List.range k).filter x.testBit).map (λn:Nat=>(n:Int))
def wl (x:Nat):List Int:=below x 4
def Kg {x:Nat}{z:Int}(h:z∈wl x):∃n:Nat,z=n/\n<4/\x.testBit n=true:=by
 unfold wl below at h;simp only[xU,yX,yb] at h;obtain⟨n,⟨h1,h2⟩,rfl⟩:=h;exact⟨n,rfl,h1,h2⟩
def bM (x:Nat):(wl x).length<=4:=by
 unfold wl below;rw[ye];exact xI (zb _ _) (by simp)
def AW.has (c:AW)(x:Nat):Prop:=x<2 ^ c.AH.length
def iY {x n m:Nat}(h:x<2 ^ m)(hb:x.testBit n=true):n<m:=by
 rcases yf n m with h1|h1
 .exact h1
 .rw[Nat.testBit_lt_two_pow (xx h (yy (by omega) h1))] at hb;cases hb
def z8 {c:AW}(h4:c.AH.length<=4){x:Nat}(hx:c.has x):x<16:=xx hx (yy (by omega) h4)
def MT {c:AW}{x:Nat}(hx:c.has x){k:Nat}(hk:k<(wl x).length):∃n:Nat,(wl x)[k]?.getD 0=n/\n<c.AH.length/\n<4/\x.testBit n=true:=by
 obtain⟨n,h1,h2,h3⟩:=Kg (Dq _ k hk);exact⟨n,h1,iY hx h3,h2,h3⟩
def AW.DC (c:AW)(x:Nat):Int:=((wl x).map λh=>(c.h h.toNat).DC).sum
def AW.IE (c:AW)(x:Nat):List Int:=(wl x).map λh=>(c.h h.toNat).DC
def AW.I6 (c:AW)(x:Nat):(c.IE x).length=(wl x).length:=ye ..
def AW.S0 (c:AW){x k n:Nat}(hk:k<(wl x).length)(hn:(wl x)[k]?.getD 0=n):(c.IE x)[k]?.getD 0=(c.h n).DC:=by
 unfold AW.IE;rw[yw];rw[xq hk] at hn ⊢;simp only[Option.getD_some] at hn;simp[hn]
def As (c:AW)(x:Nat):c.DC x=(c.IE x).sum:=rfl
def MU (c:AW){x:Nat}(hx:c.has x)(hd:∀h∈c.AH,1<=h.DC/\h.DC<=5)(k:Nat):0<=((c.IE x).take k).sum/\((c.IE x).take k).sum<=20:=by
 have hb:=EG 0 5 ((c.IE x).take k) λy hy=>by
  obtain⟨z,hz,rfl⟩:=xU.1 (zp hy);obtain⟨n,rfl,_,h3⟩:=Kg hz;have:=hd _ (c.GI (iY hx h3));simp only[zo];omega
 have hl:((c.IE x).take k).length<=4:=by
  rw[yQ,c.I6];have:=bM x;omega
 omega
def DZ (r:Nat->Nat)(n:Nat):Nat->Nat
 |0=>0
 |k+1=>DZ r n k+if(r k).testBit n then 1 else 0
def px (r:Nat->Nat)(n k:Nat):DZ r n k<=k:=by
 induction k with
 |zero=>exact xp _
 |succ k ih=>simp only[DZ];split<;>omega
def YZ (c:AW)(night n:Nat):Bool:=decide ((night:Int)∈(c.h n).off)
def cZ (r:Nat->Nat)(night n:Nat):Bool:=decide (0<night)&&(r (night-1)).testBit n
def ge (c:AW)(r:Nat->Nat)(night n:Nat):Bool:=decide ((c.h n).most<=(DZ r n night:Int))
def I7 (c:AW)(r:Nat->Nat)(night:Nat):Nat->Nat->Bool
 |0,n=>YZ c night n
 |1,n=>cZ r night n
 |_,n=>ge c r night n
def breaks (c:AW)(r:Nat->Nat)(night i:Nat):Option Int:=(wl (r night)).find? λh=>I7 c r night i h.toNat
def AW.need (c:AW)(night:Nat):Int:=c.AK[night]?.getD 0
def Bq (c:AW)(r:Nat->Nat)(night:Nat):Int×Int×Int :=
 match breaks c r night 0 with
 |some h=>(1,night,h)
 |none=>match breaks c r night 1 with
  |some h=>(2,night,h)
  |none=>match breaks c r night 2 with
   |some h=>(3,night,h)
   |none=>if c.DC (r night)<c.need night then(4,night,-1) else(0,-1,-1)
def fG {l:List Int}{p:Int->Bool}{k:Nat}(hk:k<l.length)(hn:(l.take k).find? p=none)(hp:p (l[k]?.getD 0)=true):l.find? p=some (l[k]?.getD 0):=by
 have e:l.find? p=(l.take k++l.drop k).find? p:=by rw[List.take_append_drop]
 rw[e,List.find?_append,hn,zI hk,List.find?_cons];rw[xq hk] at hp ⊢;simp only[Option.getD_some] at hp ⊢;simp only[hp,Option.none_or]
def gf {l:List Int}{p:Int->Bool}{k:Nat}(hk:k<l.length)(hn:(l.take k).find? p=none)(hp:p (l[k]?.getD 0)=false):(l.take (k+1)).find? p=none:=by
 rw[aS 0 l k hk,List.find?_append,hn];simp[hp]
def BV (n lo hi:Int):Int:=if n<lo then 7 else if hi<n then 6 else 0
def Ep (l:List Int)(n:Int)(i:Nat):Int:=if 0<=l[i]?.getD 0/\l[i]?.getD 0<=n-1 then(if 0<i/\l[i]?.getD 0<=l[i-1]?.getD 0 then 5 else 0) else 3
def bz (l:List Int):Int:=(l.find? (· != 0)).getD 0
def De (l:List Int)(n:Int):Int:=bz ((List.range l.length).map (Ep l n))
def Ej (x lo hi:Int):Bool:=decide (lo<=x)&&decide (x<=hi)
def Dv (n:Int)(h:BH):Int:=if Ej h.heads 1 40&&Ej h.DC 1 5&&Ej h.most 0 5 then De h.off n else 1
def Bi (c:AW):Int :=
 if BV c.AK.length 1 5≠0 then BV c.AK.length 1 5 else if(c.AK.all λx=>Ej x 0 12)=false then 1
 else if BV c.AH.length 1 4≠0 then BV c.AH.length 1 4 else bz (c.AH.map (Dv c.AK.length))
def dx {l:List Int}(h:∀x∈l,x=0):bz l=0:=by
 unfold bz;rw[zL.2 λx hx=>by simp[h x hx]];rfl
def cy {l:List Int}{k:Nat}(hk:k<l.length)(hn:∀i,i<k->l[i]?.getD 0=0)(hp:l[k]?.getD 0≠0):bz l=l[k]?.getD 0:=by
 unfold bz;rw[fG hk (zL.2 λx hx=>?_) (by simpa using hp)]
 .rfl
 .obtain⟨i,hi,rfl⟩:=List.mem_take_iff_getElem.1 hx;have:=hn i (by omega);rw[xq (by omega)] at this;simpa using this
def fj {l:List Int}(hn:∀i,i<l.length->l[i]?.getD 0=0):bz l=0:=dx λx hx=>by
 obtain⟨i,hi,rfl⟩:=zC.1 hx;have:=hn i hi;rw[xq hi] at this;simpa using this
def lb {l:List Int}{n:Int}{k:Nat}(hk:k<l.length)(hn:∀i,i<k->Ep l n i=0)(hp:Ep l n k≠0):De l n=Ep l n k:=by
 have e:∀i,i<l.length->((List.range l.length).map (Ep l n))[i]?.getD 0=Ep l n i:=λi hi=>by simp[hi]
 unfold De;rw[cy (k:=k) (by simpa using hk) (λi hi=>by rw[e i (by omega)];exact hn i hi) (by rw[e k hk];exact hp),e k hk]
def py {l:List Int}{n:Int}(hn:∀i,i<l.length->Ep l n i=0):De l n=0:=by
 unfold De;exact fj λi hi=>by
  have hi':i<l.length:=by simpa using hi
  simp[hi',hn i hi']
end Go.Sq
namespace Go
def xl{p:Prop}(h:p):RowKit.Hid p:=h
end Go
namespace Go.Sq
open Go.RowKit
structure Gr (w w':World):Prop where
 below:Below w.heap.size w w'
 drawn:w.drawn<=w'.drawn
def Gr.refl (w:World):Gr w w:=⟨Below.refl _ _,xp _⟩
def Gr.trans {a b c:World}(h:Gr a b)(k:Gr b c):Gr a c:=⟨h.below.trans (k.below.mono h.below.size),xI h.drawn k.drawn⟩
def Gr.size {w w':World}(h:Gr w w'):w.heap.size<=w'.heap.size:=h.below.size
def Gr.alloc {w w':World}(h:Gr w w')(o:Obj):Gr w (w'.alloc o):=⟨h.below.alloc h.size o,h.drawn⟩
def Gr.drew {w w':World}(h:Gr w w'):Gr w w'.drew:=⟨h.below.drew,zy h.drawn⟩
def Gr.drewN {w w':World}(h:Gr w w')(n:Nat):Gr w (w'.drewN n):=⟨⟨h.below.os,h.below.tape,h.below.output,h.below.size,h.below.block⟩,xI h.drawn (Nat.le_add_right _ _)⟩
def Gr.setCell {w w':World}(h:Gr w w'){p:Addr}(hp:w.heap.size<=p.block)(v:Value):Gr w (w'.setCell p v):=⟨h.below.setCell hp v,h.drawn⟩
def Gr.grown {w w' w1:World}(h:Gr w w'){row:Option Nat}(hg:w'.grownBy w1 row)(hd:w'.drawn<=w1.drawn)(hr:∀k,row=some k->w.heap.size<=k):Gr w w1 :=
 ⟨h.below.grown hg h.size hr,xI h.drawn hd⟩
def Gr.cell {w w':World}(h:Gr w w'){p:Addr}(hp:p.block<w.heap.size):w'.cell? p=w.cell? p:=h.below.cell hp
def Gr.frozen {w w':World}(h:Gr w w'){p:Addr}(hp:p.block<w.heap.size):w'.frozen? p=w.frozen? p:=h.below.frozen hp
def RI (w:World)(B:Nat)(A:Option Addr)(l:List Int):Prop :=
 l≠[]->∃b o,A=some ⟨b,o,none⟩/\b<B/\∀i x,l[i]?=some x->w.cell? ⟨b,o+i,none⟩=some (.int .i64 x)
def RI.nil {w:World}{B:Nat}{A:Option Addr}:RI w B A []:=λh=>absurd rfl h
def RI.keep {w w':World}{B:Nat}{A:Option Addr}{l:List Int}(h:RI w B A l)(hk:∀b o,b<B->w'.cell? ⟨b,o,none⟩=w.cell? ⟨b,o,none⟩):RI w' B A l:=λhn=>by
 obtain⟨b,o,e,hb,hc⟩:=h hn;exact⟨b,o,e,hb,λi x hx=>(hk _ _ hb).trans (hc i x hx)⟩
def RI.gr {w w':World}{B:Nat}{A:Option Addr}{l:List Int}(h:RI w B A l)(hB:B<=w.heap.size)(hg:Gr w w'):RI w' B A l:=h.keep λ_ _ hb=>hg.cell (xx hb hB)
def RI.more {w:World}{B B':Nat}{A:Option Addr}{l:List Int}(h:RI w B A l)(hB:B<=B'):RI w B' A l:=λhn=>by
 obtain⟨b,o,e,hb,hc⟩:=h hn;exact⟨b,o,e,by omega,hc⟩
def RI.at_ {w:World}{B:Nat}{A:Option Addr}{l:List Int}(h:RI w B A l){k:Nat}(hk:k<l.length):∃b o,A=some ⟨b,o,none⟩/\b<B/\w.cell? ⟨b,o+k,none⟩=some (.int .i64 (l[k]?.getD 0)):=by
 obtain⟨b,o,e,hb,hc⟩:=h (λe=>by subst e;simp at hk);exact⟨b,o,e,hb,by rw[xq hk];exact hc k _ (xq hk)⟩
def zY {w:World}{base:Nat}{v:Value}{l:List Int}(h:w.ownsRow base 3 1 v l.length (l.map (Value.int .i64))):∃A c,v=.slice A l.length c/\RI w w.heap.size A l:=by
 rcases h.2 with⟨rfl,h0⟩|⟨g,cap,cur,rfl,_,hg,_⟩
 .have:l.length=0:=by simpa using h0
  have:l=[]:=xT this;subst this;exact⟨none,0,rfl,.nil⟩
 .refine⟨_,cap,rfl,λ_=>⟨g,0,rfl,(xm.1 hg).1,λi x hx=>?_⟩⟩;have:=h.cells (g:=g) rfl i (.int .i64 x) (by rw[yw,hx];rfl);have e:(⟨g,0,none⟩:Addr).add i=⟨g,0+i,none⟩:=by unfold Addr.add;split<;>simp_all
  rwa [e] at this
def L3 (w:World)(B b o:Nat)(h:BH):Prop :=
 w.cell? ⟨b,o,none⟩=some (.int .i64 h.heads)/\w.cell? ⟨b,o+1,none⟩=some (.int .i64 h.DC)/\w.cell? ⟨b,o+2,none⟩=some (.int .i64 h.most) /\
  ∃A c,w.cell? ⟨b,o+3,none⟩=some (.slice A h.off.length c)/\RI w B A h.off
def Dr (w:World)(B:Nat)(A:Option Addr)(l:List BH):Prop :=
 l≠[]->∃b o,A=some ⟨b,o,none⟩/\b<B/\∀i h,l[i]?=some h->L3 w B b (o+i*4) h
def L3.keep {w w':World}{B b o:Nat}{h:BH}(ha:L3 w B b o h)(hb:b<B)(hk:∀b o,b<B->w'.cell? ⟨b,o,none⟩=w.cell? ⟨b,o,none⟩):L3 w' B b o h:=by
 obtain⟨h1,h2,h3,A,c,h4,h5⟩:=ha;exact⟨(hk _ _ hb).trans h1,(hk _ _ hb).trans h2,(hk _ _ hb).trans h3,A,c,(hk _ _ hb).trans h4,h5.keep hk⟩
def Dr.keep {w w':World}{B:Nat}{A:Option Addr}{l:List BH}(h:Dr w B A l)(hk:∀b o,b<B->w'.cell? ⟨b,o,none⟩=w.cell? ⟨b,o,none⟩):Dr w' B A l:=λhn=>by
 obtain⟨b,o,e,hb,hc⟩:=h hn;exact⟨b,o,e,hb,λi h hi=>(hc i h hi).keep hb hk⟩
def Dr.at_ {w:World}{B:Nat}{A:Option Addr}{c:AW}(h:Dr w B A c.AH){i:Nat}(hi:i<c.AH.length):∃b o,A=some ⟨b,o,none⟩/\b<B/\L3 w B b (o+i*4) (c.h i):=by
 obtain⟨b,o,e,hb,hc⟩:=h (λe=>by rw[e] at hi;simp at hi);exact⟨b,o,e,hb,hc i _ (by unfold AW.h;rw[xq hi];rfl)⟩
structure CY (w:World)(B cb:Nat)(c:AW)(nA hA:Option Addr)(nc hc:Nat):Prop where
 lt:cb<B
 c0:w.cell? ⟨cb,0,none⟩=some (.slice nA c.AK.length nc)
 c1:w.cell? ⟨cb,1,none⟩=some (.slice hA c.AH.length hc)
 AK:RI w B nA c.AK
 Ct:Dr w B hA c.AH
def CY.keep {w w':World}{B cb:Nat}{c:AW}{nA hA:Option Addr}{nc hc:Nat}(h:CY w B cb c nA hA nc hc)(hk:∀b o,b<B->w'.cell? ⟨b,o,none⟩=w.cell? ⟨b,o,none⟩):CY w' B cb c nA hA nc hc :=
 ⟨h.lt,(hk _ _ h.lt).trans h.c0,(hk _ _ h.lt).trans h.c1,h.AK.keep hk,h.Ct.keep hk⟩
def CY.gr {w w':World}{B cb:Nat}{c:AW}{nA hA:Option Addr}{nc hc:Nat}(h:CY w B cb c nA hA nc hc)(hB:B<=w.heap.size)(hg:Gr w w'):CY w' B cb c nA hA nc hc :=
 h.keep λ_ _ hb=>hg.cell (xx hb hB)
def Ec (w:World)(B br:Nat)(r:Nat->Nat):Prop:=br<B/\∀i,i<5->w.cell? ⟨br,i,none⟩=some (.int .u8 (r i))
def Ec.keep {w w':World}{B br:Nat}{r:Nat->Nat}(h:Ec w B br r)(hk:∀b o,b<B->w'.cell? ⟨b,o,none⟩=w.cell? ⟨b,o,none⟩):Ec w' B br r:=⟨h.1,λi hi=>(hk _ _ h.1).trans (h.2 i hi)⟩
def Ec.gr {w w':World}{B br:Nat}{r:Nat->Nat}(h:Ec w B br r)(hB:B<=w.heap.size)(hg:Gr w w'):Ec w' B br r:=h.keep λ_ _ hb=>hg.cell (xx hb hB)
def L3.more {w:World}{B B' b o:Nat}{h:BH}(ha:L3 w B b o h)(hB:B<=B'):L3 w B' b o h:=by
 obtain⟨h1,h2,h3,A,c,h4,h5⟩:=ha;exact⟨h1,h2,h3,A,c,h4,h5.more hB⟩
def Dr.more {w:World}{B B':Nat}{A:Option Addr}{l:List BH}(h:Dr w B A l)(hB:B<=B'):Dr w B' A l:=λhn=>by
 obtain⟨b,o,e,hb,hc⟩:=h hn;exact⟨b,o,e,xx hb hB,λi h hi=>(hc i h hi).more hB⟩
def CY.more {w:World}{B B' cb:Nat}{c:AW}{nA hA:Option Addr}{nc hc:Nat}(h:CY w B cb c nA hA nc hc)(hB:B<=B'):CY w B' cb c nA hA nc hc :=
 ⟨xx h.lt hB,h.c0,h.c1,h.AK.more hB,h.Ct.more hB⟩
def Ec.more {w:World}{B B' br:Nat}{r:Nat->Nat}(h:Ec w B br r)(hB:B<=B'):Ec w B' br r:=⟨xx h.1 hB,h.2⟩
def CY.on {w w':World}{cb:Nat}{c:AW}{nA hA:Option Addr}{nc hc:Nat}(h:CY w w.heap.size cb c nA hA nc hc)(hg:Gr w w'):CY w' w'.heap.size cb c nA hA nc hc:=(h.gr (xp _) hg).more hg.size
def Ec.on {w w':World}{br:Nat}{r:Nat->Nat}(h:Ec w w.heap.size br r)(hg:Gr w w'):Ec w' w'.heap.size br r:=(h.gr (xp _) hg).more hg.size
def O4 {w:World}{B:Nat}{u0 u1 u2:Value}(h0:w.cell? ⟨B,0,none⟩=some u0)(h1:w.cell? ⟨B,1,none⟩=some u1)(h2:w.cell? ⟨B,2,none⟩=some u2) :
  (∀v,(w.setCell ⟨B,0,none⟩ v).cell? ⟨B,0,none⟩=some v)/\(∀u v,((w.setCell ⟨B,0,none⟩ u).setCell ⟨B,1,none⟩ v).cell? ⟨B,1,none⟩=some v) /\
   ∀u x v,(((w.setCell ⟨B,0,none⟩ u).setCell ⟨B,1,none⟩ x).setCell ⟨B,2,none⟩ v).cell? ⟨B,2,none⟩=some v:=by
 have e1:∀u,(w.setCell ⟨B,0,none⟩ u).cell? ⟨B,1,none⟩=some u1:=λu=>by rw[World.cell?_setCell_other _ _ _ _ (by simp)];exact h1
 have e2:∀u x,((w.setCell ⟨B,0,none⟩ u).setCell ⟨B,1,none⟩ x).cell? ⟨B,2,none⟩=some u2:=λu x=>by rw[World.cell?_setCell_other _ _ _ _ (by simp),World.cell?_setCell_other _ _ _ _ (by simp)];exact h2
 exact⟨λv=>World.cell?_setCell_same _ _ _ h0,λu v=>World.cell?_setCell_same _ _ _ (e1 u),λu x v=>World.cell?_setCell_same _ _ _ (e2 u x)⟩
def av {k:IntKind}{a b:Int}(h:a=b):Ending.returned (.int k a)=.returned (.int k b):=by rw[h]
def aH {a b:Bool}(h:a=b):Ending.returned (.bool a)=.returned (.bool b):=by rw[h]
variable {P:Program}
def Bx {w:World}{ops:Array Oper}{rest:List Oper}{o:Oper}{a:Act}{Q:Exit->Act->World->Prop}(hgd:o.guard=none)(s x:Operand)(t:TypeId)
  (ho:o.op=.call { callee:=.builtin .append,args:=#[s,x],argTypes:=#[t,t] })
  (base:Nat) (e:TypeId) (i:TypeInfo) (z:Value) (size bytes:Nat) (ht:P.underlying t=some (.slice e)) (hi:P.info? e=some i) (hz:i.zero=some z)
  (hsize:i.size=size) (hby:i.bytes=bytes) (hzs:z.cells.size=size) (hsz:0<size)
  (v:Value) (n:Nat) (xs:List Value) (hs:a.eval s=v) (hown:w.ownsRow base e size v n xs)
  (ad:Addr) (m c:Nat) (news:List Value) (hx:a.eval x=.slice (some ad) m c) (hl:news.length=m*size) (hnews:∀j u,news[j]?=some u->w.cell? (ad.add j)=some u) (h1:∀u∈news,u.oneCell'=true)
  (h63:n+m<=maxLen) (hbytes:(n+m)*bytes<=140737488355328) (hbase:base<=w.heap.size)
  (h:∀v' w',w'.ownsRow base e size v' (n+m) (xs++news)->w.grownBy w' v.ownBlock->w.drawn<=w'.drawn->wpList P ops Q rest (a.put o.dst v') w'):wpList P ops Q (o::rest) a w:=by
 refine wpList_plain hgd λK hK=>?_;obtain⟨v',w',hr,h2,h3,h4⟩:=run_append_own (P:=P) w base t o.type e i z size bytes ht hi hz hsize hby hzs hsz v n xs hown ad m c news hl hnews h1 h63 hbytes hbase;have hd:=Go.Bl.Cy P (Builtin.append_ #[t,t] o.type #[v,.slice (some ad) m c]) w #[];rw[Sem.runT_fst,hr] at hd;unfold Oper.wp execOp;simp only[ho,resolve,invoke,builtin,Sem.run_bind,Sem.run_pure,Result.andThen_ok,zr,yE,yH,hs,hx,hr]
 exact hK _ _ (h v' w' h2 h3 hd)
def xu:=@World.cell?_alloc_at
def xB:=@World.cell?_setCell_other
def xE:=@Below.heap_setCell
def xJ:=@World.cell?_setCell_same
def xN:=@World.cell?_of_block
def xO:=@World.cell?_alloc_past
def x9:=@World.ownsRow_nil
def yi:=@World.frozen?_alloc_at
def yt:=@World.frozen?_setCell
def yS:=@World.frozen?_alloc_past
def za:=@Below.heap_alloc
def zl:=@World.frozen?_of_block
def zD:=@World.size_alloc
def zQ:=@World.ownsRow_made
end Go.Sq

namespace Go.Proofs.YtjcgijifamcggaaGreat
open Go.RowKit Go.Sq
def tt:∀x:Fin 16,∀h:Fin 4,(bits BinOp.and IntKind.u8 ((x.val:Int) / 2 ^ h.val) 1==1)=x.val.testBit h.val:=by decide
def iZ (x h:Nat)(w:World)(hx:x<16)(hh:h<4):Calls AG 87 #[.int .u8 x,.int .i64 h] w λe w'=>e=.returned (.bool (x.testBit h))/\w=w':=by
 go_enter Sq.func87,Tryz.ntmps87;go_wp2;go_ret;have:=tt ⟨x,hx⟩ ⟨h,hh⟩;refine⟨?_,rfl⟩;show Ending.returned (.bool _)=_;rw[this]
def nK (x k:Nat):below x (k+1)=below x k++if x.testBit k then[(k:Int)] else[]:=by
 unfold below;rw[zn,yR,zf];cases h:x.testBit k<;>simp[h]
def rq (x k:Nat):(below x k).length<=k:=by
 unfold below;rw[ye];exact xI (zb _ _) (by simp)
def Ac:(AG.info? 3).map (λi=>(i.zero,i.size,i.bytes))=some (some (.int .i64 0),1,8):=by
 rw[zZ];kernel_rfl
def gh (x:Nat)(w:World)(hx:x<16):Calls AG 50 #[.int .u8 x] w λe w' =>
  ∃v,e=.returned v/\w'.ownsRow w.heap.size 3 1 v (wl x).length ((wl x).map (Value.int .i64))/\Gr w w':=by
 obtain⟨i0,hi,hz0,hz1,hz2⟩:=info_parts Ac;go_enter Sq.func50,Tryz.ntmps50;go_wp2;go_loopw [3,5] (λv i wr=>∃k:Nat,k<=4/\i=.int .i64 k/\wr.ownsRow w.heap.size 3 1 v (below x k).length ((below x k).map (Value.int .i64))/\Gr w wr) (λ_ i _=>4-(intOf i).toNat)
 case atStart=>exact⟨0,by omega,rfl,x9 w _ _ _,Gr.refl w⟩
 case round =>
  obtain⟨k,hk,rfl,hown,hgr⟩:=hrel;have hle:=rq x k;have hs:=nK x k;by_cases hlt:k<4
  .have hw:=hgr.size;cases hb:x.testBit k with
   |true =>
    have HS:Hid (below x (k+1)=below x k++[(k:Int)]):=by rw[hs,hb];rfl
    have hc:Calls AG 87 #[.int .u8 x,.int .i64 k] wr λe w'=>e=.returned (.bool true)/\wr=w':=by rw[<-hb];exact iZ x k wr hx hlt
    clear hs hb;go_wp2_with (first|(go_at_call 87;refine hc.mono ?_;rintro e w' ⟨rfl,rfl⟩)|(at_builtin;refine Bx rfl _ _ 22 rfl w.heap.size 3 i0 (.int .i64 0) 1 8 Sq.underlying22 hi hz0 hz1 hz2 rfl (by decide) _ _ _ rfl (hown.alloc _) ⟨wr.heap.size,0,none⟩ 1 1 [.int .i64 k] rfl rfl ?c1 ?c2 ?c3 ?c4 ?c5 ?_))
    case c1 =>
     intro j u hj
     match j,hj with
     |0,hj=>simp at hj;subst hj;simp[Addr.add]
    case c2=>intro u hu;simp at hu;subst hu;rfl
    case c3=>unfold maxLen;omega
    case c4=>omega
    case c5=>simp;omega
    intro v' w1 hown' hgrow hd;have R:w1.ownsRow w.heap.size 3 1 v' (below x (k+1)).length ((below x (k+1)).map (Value.int .i64))/\Gr w w1 :=
     ⟨by rw[HS.out];simpa using hown',(hgr.alloc _).grown hgrow hd λj hj=>(hown.lt j hj).1⟩
    clear hown' hgrow hown hgr HS hd;go_wp2;go_roundw
    case rel=>exact⟨k+1,by omega,by go_num,R.1,R.2⟩
    case measure=>simp[intOf];omega
   |false =>
    have HS:=xl (show below x (k+1)=below x k by rw[hs,hb];simp);have hc:Calls AG 87 #[.int .u8 x,.int .i64 k] wr λe w'=>e=.returned (.bool false)/\wr=w':=by rw[<-hb];exact iZ x k wr hx hlt
    clear hs hb;go_wp2_with (go_at_call 87;refine hc.mono ?_;rintro e w' ⟨rfl,rfl⟩);go_roundw
    case rel=>exact⟨k+1,by omega,by go_num,by rw[HS.out];exact hown,hgr⟩
    case measure=>simp[intOf];omega
  .have:k=4:=by omega
   subst this;go_wp2;go_ret;exact⟨_,rfl,hown,hgr⟩
end Go.Proofs.YtjcgijifamcggaaGreat
