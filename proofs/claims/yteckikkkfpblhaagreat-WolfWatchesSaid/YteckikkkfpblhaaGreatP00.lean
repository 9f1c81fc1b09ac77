/- Parts of the proof. -/
import Derived.Test.YteckikkkfpblhaaGreatChecked
import Derived.WalkKit
import Derived.WalkSpells
import Derived.WalkLawsBesides
import Derived.StepT
import Derived.RunT
import Derived.Runnable
import Derived.Below
import Derived.Laws.OwnMore
import Derived.Deep.AppendLies
import Derived.Deep.Draws
import Derived.Lib.Hide
import Derived.Laws.EntriesVeiled
import Derived.Deep.RegionWith
set_option linter.all false
set_option maxHeartbeats 800000
set_option maxRecDepth 1000000
namespace Go
def xg:=@Array.getElem?_eq_some_iff
def xh:=@Nat.le_refl
def xi:=@List.getElem?_eq_getElem
def xl:=@Nat.lt_of_lt_of_le
def xm:=@List.not_mem_nil
def xp:=@Array.getElem?_eq_getElem
def xu:=@List.mem_cons
def xx:=@Nat.le_trans
def xz:=@List.length_cons
def xB:=@List.size_toArray
def xC:=@Bool.and_eq_true
def xF:=@List.length_nil
def xG:=@Nat.zero_add
def xJ:=@Bool.false_eq_true
def xK:=@Nat.zero_le
def xL:=@List.getElem?_eq_some_iff
def xM:=@Array.all_eq_true_iff_forall_mem
def xN:=@List.take_of_length_le
def xO:=@Bool.or_eq_true
def xP:=@Array.mem_of_getElem?
def xQ:=@Option.map_eq_some_iff
def xR:=@Array.getElem?_setIfInBounds_ne
def xS:=@Array.empty_append
def xT:=@List.getElem?_toArray
def xU:=@List.eq_nil_of_length_eq_zero
def xV:=@Nat.eq_zero_or_pos
def xW:=@List.mem_map
def xY:=@List.all_eq_true
def x9:=@List.mem_range
def ya:=@Array.getElem?_modify
def yb:=@List.getElem_mem
def yd:=@Option.bind_some
def ye:=@Array.getElem?_map
def yf:=@Nat.lt_or_eq_of_le
def yh:=@Nat.lt_or_ge
def yi:=@Array.replicate_succ
def yj:=@Array.replicate_zero
def yk:=@Array.getElem?_replicate
def yl:=@Nat.le_of_eq
def ym:=@List.mem_append
def yn:=@List.append_toArray
def yp:=@List.getElem?_map
def yq:=@Option.map_some
def yr:=@Nat.not_lt_zero
def yt:=@List.cons_append
def yu:=@Array.getD_eq_getD_getElem?
def yv:=@List.push_toArray
def yw:=@Bool.not_eq_true'
def yx:=@List.getElem?_append_right
def yy:=@List.mem_toArray
def yz:=@List.getElem?_append_left
def yB:=@Nat.le_of_lt_succ
def yC:=@Bool.false_and
def yD:=@List.nil_append
def yE:=@List.mem_cons_self
def yG:=@List.mem_singleton
def yH:=@Array.getElem?_setIfInBounds
def yI:=@List.mem_of_getElem?
def yJ:=@Bool.and_false
def yK:=@List.length_map
def yL:=@Array.getElem?_push
def yM:=@Array.getElem?_eq_none
def yN:=@Bool.true_and
def yO:=@List.getD_eq_getElem?_getD
def yQ:=@Bool.not_eq_false'
def yR:=@Bool.or_eq_false_iff
def yS:=@List.mem_cons_of_mem
def yT:=@List.mem_iff_getElem
def yU:=@Array.getElem?_setIfInBounds_self_of_lt
def yW:=@Option.isSome_none
def yX:=@List.getElem?_take
def yY:=@List.mem_filter
def yZ:=@List.range_succ
def za:=@List.mem_of_mem_take
def zb:=@List.getElem?_range
def zc:=@List.map_cons
def zd:=@Nat.add_assoc
def ze:=@List.pairwise_cons
def zf:=@List.take_add_one
def zg:=@Nat.le_succ_of_le
def zh:=@Array.getElem?_mapIdx
def zi:=@Array.getElem?_append
def zj:=@List.length_filter_le
def zk:=@List.map_nil
def zl:=@Nat.pow_le_pow_right
def zm:=@List.map_toArray
def zo:=@Array.getElem?_append_left
def zp:=@Bool.or_false
def zq:=@List.drop_eq_getElem_cons
def zr:=@List.map_append
def zt:=@Array.mapM_eq_mapM_toList
def zu:=@Nat.le_add_left
def zv:=@List.find?_eq_none
def zw:=@List.filter_append
def zx:=@Array.foldl_toList
def zy:=@Array.forIn_toList
def zz:=@Nat.ne_of_lt
def zB:=@Array.getElem_ofFn
end Go

namespace Go.Proofs.Ao
open Go.RowKit
def ep {p q:Program}(h:p.toTables=q.toTables)(t:TypeId)(w:World):Sem.run p (typeInfo t) w=Sem.run q (typeInfo t) w:=by
 simp only[typeInfo,Sem.run_bind,run_program,Result.andThen,h];cases Tables.info? q.toTables t<;>rfl
def kr {p q:Program}(h:p.toTables=q.toTables)(t:TypeId):p.underlying t=q.underlying t:=by simp only[Program.underlying,h]
def ny {p q:Program}(h:p.toTables=q.toTables)(t:TypeId)(w:World):Sem.run p (underlying t) w=Sem.run q (underlying t) w:=by
 simp only[underlying,Sem.run_bind,run_program,Result.andThen,kr h];cases q.underlying t<;>rfl
def pM {p q:Program}(h:p.toTables=q.toTables)(t:TypeId)(w:World):Sem.run p (isAgg t) w=Sem.run q (isAgg t) w:=by
 unfold isAgg;rw[Sem.run_bind,Sem.run_bind,ny h t w];generalize (underlying t).run q w=r;cases r with
 |ok d w1=>cases d<;>simp only[Result.andThen,Sem.run_pure]
 |halt _ _=>simp only[Result.andThen]
def og {p q:Program}(h:p.toTables=q.toTables)(t:TypeId)(w:World):Sem.run p (Go.sizeOf t) w=Sem.run q (Go.sizeOf t) w:=by
 unfold Go.sizeOf;rw[Sem.run_bind,Sem.run_bind,ep h t w];generalize (Go.typeInfo t).run q w=r;cases r with
 |ok d w1=>simp only[Result.andThen,Sem.run_pure]
 |halt _ _=>simp only[Result.andThen]
def kY {p q:Program}(h:p.toTables=q.toTables)(t:TypeId)(w:World):Sem.run p (zeroValue t) w=Sem.run q (zeroValue t) w:=by
 unfold zeroValue;rw[Sem.run_bind,Sem.run_bind,ep h t w];generalize (Go.typeInfo t).run q w=r;cases r with
 |ok i w1 =>
  simp only[Result.andThen];cases i.zero with
  |some v2=>simp only[Sem.run_pure]
  |none=>simp[unsupported]
 |halt _ _=>simp only[Result.andThen]
def GN (i:FuncId):Bool:=i==39||i==73||i==74||i==75||i==76||i==3
noncomputable def casBody (x y:Int):Code:=.seq (.region 0 #[{ dst:=some 2,op:=.fieldAddr 99 (.tmp 0) 1,type:=0,pos := "",after:=#[],guard:=none },{ dst:=some 1,op:=.call { callee:=.value (.func 140),args:=#[.tmp 2,.const (.int .i32 x),.const (.int .i32 y)],argTypes:=#[203,21,21] },type:=4,pos := "",after:=#[{ on:=0,ground:=.data }],guard:=none }] false)
 (.cond (.tmp 1) .ret (.refuse "held"))
noncomputable def OX (i:FuncId)(f:Func):Func:=if i==6||GN i then { f with body:=some (.refuse "put aside") } else if i==79 then { f with body:=some (casBody 0 1) } else if i==80 then { f with body:=some (casBody 1 0) } else f
def MG (p:Program)(g:Nat->Func->Func):Program:=⟨p.toTables,p.funcs.mapIdx g⟩
def pN (p:Program)(g:Nat->Func->Func)(i:Nat):(MG p g).funcs[i]?=(p.funcs[i]?).map (g i):=by
 show(p.funcs.mapIdx g)[i]?=_;rw[zh]
def pO (p:Program)(g:Nat->Func->Func):(MG p g).toTables=p.toTables:=rfl
def kZ {p:Program}{g:Nat->Func->Func}{n:Nat}(h:p.globals.size=n):(MG p g).globals.size=n:=h
noncomputable def An:Program:=MG Tryz.prog OX
def Sq.get (i:Nat):An.funcs[i]?=(Tryz.prog.funcs[i]?).map (OX i):=by rw[An];exact pN _ _ _
def Sq.fn {i:Nat}{f:Func}(h:Tryz.prog.funcs[i]?=some f)(hi:(i==6||GN i||i==79||i==80)=false):An.funcs[i]?=some f:=by
 rw[Sq.get,h];simp only[yR] at hi;simp only[yq,OX,hi.1.1.1,hi.1.1.2,hi.1.2,hi.2,Bool.or_self,xJ,if_false]
def Sq.put {i:Nat}{f:Func}(h:Tryz.prog.funcs[i]?=some f)(hi:(i != 6&&GN i)=true):An.funcs[i]?=some { f with body:=some (.refuse "put aside") }:=by
 rw[Sq.get,h];simp only[xC,bne_iff_ne,ne_eq] at hi;have h9:(i==6)=false:=by simpa using hi.1
 simp only[yq,OX,h9,hi.2,Bool.or_true,if_true]
def Ae:An.funcs[6]?=some { Tryz.f6 with body:=some (.refuse "put aside") }:=by
 rw[Sq.get,Tryz.func6];rfl
noncomputable def zV:Func:={ Tryz.f79 with body:=some (casBody 0 1) }
noncomputable def zS:Func:={ Tryz.f80 with body:=some (casBody 1 0) }
def Sq.f79:An.funcs[79]?=some zV:=by
 rw[Sq.get,Tryz.func79];rfl
def Sq.f80:An.funcs[80]?=some zS:=by
 rw[Sq.get,Tryz.func80];rfl
def zW:zV.ntmps=6:=rfl
def zU:zS.ntmps=6:=rfl
def zJ:An.toTables=Tryz.prog.toTables:=by rw[An];exact pO _ _
@[go_sem] theorem Sq.typeInfo (t:TypeId)(w:World):Sem.run An (typeInfo t) w=Sem.run Tryz.prog (typeInfo t) w:=ep zJ t w
@[go_sem] theorem Sq.run (t:TypeId)(w:World):Sem.run An (underlying t) w=Sem.run Tryz.prog (underlying t) w:=ny zJ t w
@[go_sem] theorem zE (t:TypeId)(w:World):Sem.run An (isAgg t) w=Sem.run Tryz.prog (isAgg t) w:=pM zJ t w
@[go_sem] theorem Sq.sizeOf (t:TypeId)(w:World):Sem.run An (Go.sizeOf t) w=Sem.run Tryz.prog (Go.sizeOf t) w:=og zJ t w
@[go_sem] theorem Sq.zeroValue (t:TypeId)(w:World):Sem.run An (Go.zeroValue t) w=Sem.run Tryz.prog (Go.zeroValue t) w:=kY zJ t w
@[go_sem] theorem Sq.underlying (t:TypeId):An.underlying t=Tryz.prog.underlying t:=kr zJ t
@[go_sem] theorem Sq.globals_size:An.globals.size=0:=(by rw[An];exact kZ Tryz.globals_size)
def ae {P:Program} {i:Nat} {f:Func} (h:P.funcs[i]?=some f) (hn:(f.name == "runtime.NumGoroutine")=false:=by decide +kernel) (hb:f.body.isSome=true:=by rfl) (args:Array Value) (w:World):Sem.run P (callFunc i args) w=.ok (.enter i args) w:=by
 have R9:¬f.name = "runtime.NumGoroutine":=by simpa using hn
 have hb':f.body≠none:=Option.isSome_iff_ne_none.1 hb;simp[callFunc,h,R9,hb']
def Sq.func4:=Sq.fn Tryz.func4 rfl
def Sq.func8:=Sq.fn Tryz.func8 rfl
def Sq.func7:=Sq.fn Tryz.func7 rfl
def Sq.func10:=Sq.fn Tryz.func10 rfl
def Sq.func18:=Sq.fn Tryz.func18 rfl
@[go_sem] def Sq.call18:=ae Sq.func18
def Sq.func17:=Sq.fn Tryz.func17 rfl
def Sq.func5:=Sq.fn Tryz.func5 rfl
def Sq.func28:=Sq.fn Tryz.func28 rfl
@[go_sem] def Sq.call28:=ae Sq.func28
def Sq.func11:=Sq.fn Tryz.func11 rfl
def Sq.func22:=Sq.fn Tryz.func22 rfl
@[go_sem] def Sq.call22:=ae Sq.func22
def Sq.func23:=Sq.fn Tryz.func23 rfl
@[go_sem] def Sq.call23:=ae Sq.func23
def Sq.func16:=Sq.fn Tryz.func16 rfl
@[go_sem] def Sq.call16:=ae Sq.func16
def Sq.func71:=Sq.fn Tryz.func71 rfl
@[go_sem] def Sq.call71:=ae Sq.func71
def Sq.func67:=Sq.fn Tryz.func67 rfl
@[go_sem] def Sq.call67:=ae Sq.func67
def Sq.func9:=Sq.fn Tryz.func9 rfl
def Sq.func12:=Sq.fn Tryz.func12 rfl
def Sq.func13:=Sq.fn Tryz.func13 rfl
def Sq.func14:=Sq.fn Tryz.func14 rfl
def Sq.func15:=Sq.fn Tryz.func15 rfl
def Sq.func20:=Sq.fn Tryz.func20 rfl
@[go_sem] def Sq.call20:=ae Sq.func20
def Sq.func24:=Sq.fn Tryz.func24 rfl
@[go_sem] def Sq.call24:=ae Sq.func24
def Sq.func25:=Sq.fn Tryz.func25 rfl
@[go_sem] def Sq.call25:=ae Sq.func25
def Sq.func26:=Sq.fn Tryz.func26 rfl
@[go_sem] def Sq.call26:=ae Sq.func26
def Sq.func27:=Sq.fn Tryz.func27 rfl
@[go_sem] def Sq.call27:=ae Sq.func27
def Sq.func29:=Sq.fn Tryz.func29 rfl
@[go_sem] def Sq.call29:=ae Sq.func29
def Sq.func31:=Sq.fn Tryz.func31 rfl
@[go_sem] def Sq.call31:=ae Sq.func31
def Sq.func38:=Sq.fn Tryz.func38 rfl
@[go_sem] def Sq.call38:=ae Sq.func38
def Sq.func40:=Sq.fn Tryz.func40 rfl
def Sq.func41:=Sq.fn Tryz.func41 rfl
@[go_sem] def Sq.call41:=ae Sq.func41
def Sq.func42:=Sq.fn Tryz.func42 rfl
def Sq.func33:=Sq.fn Tryz.func33 rfl
@[go_sem] def Sq.call33:=ae Sq.func33
def Sq.func36:=Sq.fn Tryz.func36 rfl
@[go_sem] def Sq.call36:=ae Sq.func36
def Sq.func46:=Sq.fn Tryz.func46 rfl
def Sq.func47:=Sq.fn Tryz.func47 rfl
@[go_sem] def Sq.call47:=ae Sq.func47
def Sq.func48:=Sq.fn Tryz.func48 rfl
@[go_sem] def Sq.call48:=ae Sq.func48
def Sq.func37:=Sq.fn Tryz.func37 rfl
@[go_sem] def Sq.call37:=ae Sq.func37
def Sq.func62:=Sq.fn Tryz.func62 rfl
@[go_sem] def Sq.call62:=ae Sq.func62
def Sq.func32:=Sq.fn Tryz.func32 rfl
@[go_sem] def Sq.call32:=ae Sq.func32
def Sq.func49:=Sq.fn Tryz.func49 rfl
@[go_sem] def Sq.call49:=ae Sq.func49
def Sq.func50:=Sq.fn Tryz.func50 rfl
@[go_sem] def Sq.call50:=ae Sq.func50
def Sq.func51:=Sq.fn Tryz.func51 rfl
@[go_sem] def Sq.call51:=ae Sq.func51
def Sq.func52:=Sq.fn Tryz.func52 rfl
@[go_sem] def Sq.call52:=ae Sq.func52
def Sq.func53:=Sq.fn Tryz.func53 rfl
@[go_sem] def Sq.call53:=ae Sq.func53
def Sq.func54:=Sq.fn Tryz.func54 rfl
@[go_sem] def Sq.call54:=ae Sq.func54
def Sq.func55:=Sq.fn Tryz.func55 rfl
@[go_sem] def Sq.call55:=ae Sq.func55
def Sq.func56:=Sq.fn Tryz.func56 rfl
@[go_sem] def Sq.call56:=ae Sq.func56
def Sq.func34:=Sq.fn Tryz.func34 rfl
@[go_sem] def Sq.call34:=ae Sq.func34
def Sq.func93:=Sq.fn Tryz.func93 rfl
@[go_sem] def Sq.call93:=ae Sq.func93
def Sq.func57:=Sq.fn Tryz.func57 rfl
@[go_sem] def Sq.call57:=ae Sq.func57
def Sq.func58:=Sq.fn Tryz.func58 rfl
@[go_sem] def Sq.call58:=ae Sq.func58
def Sq.func59:=Sq.fn Tryz.func59 rfl
@[go_sem] def Sq.call59:=ae Sq.func59
def Sq.func60:=Sq.fn Tryz.func60 rfl
@[go_sem] def Sq.call60:=ae Sq.func60
def Sq.func72:=Sq.fn Tryz.func72 rfl
@[go_sem] def Sq.call72:=ae Sq.func72
def Sq.func63:=Sq.fn Tryz.func63 rfl
@[go_sem] def Sq.call63:=ae Sq.func63
def Sq.func64:=Sq.fn Tryz.func64 rfl
@[go_sem] def Sq.call64:=ae Sq.func64
def Sq.func68:=Sq.fn Tryz.func68 rfl
@[go_sem] def Sq.call68:=ae Sq.func68
def Sq.func69:=Sq.fn Tryz.func69 rfl
@[go_sem] def Sq.call69:=ae Sq.func69
def Sq.func30:=Sq.fn Tryz.func30 rfl
@[go_sem] def Sq.call30:=ae Sq.func30
def Sq.func35:=Sq.fn Tryz.func35 rfl
@[go_sem] def Sq.call35:=ae Sq.func35
def Sq.func61:=Sq.fn Tryz.func61 rfl
@[go_sem] def Sq.call61:=ae Sq.func61
def Sq.func77:=Sq.fn Tryz.func77 rfl
def Sq.func78:=Sq.fn Tryz.func78 rfl
def Sq.func66:=Sq.fn Tryz.func66 rfl
@[go_sem] def Sq.call66:=ae Sq.func66
def Sq.func79:An.funcs[79]?=some zV:=Sq.f79
@[go_sem] def Sq.call79:=ae Sq.func79
def Sq.func80:An.funcs[80]?=some zS:=Sq.f80
@[go_sem] def Sq.call80:=ae Sq.func80
def Sq.func65:=Sq.fn Tryz.func65 rfl
@[go_sem] def Sq.call65:=ae Sq.func65
def Sq.func81:=Sq.fn Tryz.func81 rfl
@[go_sem] def Sq.call81:=ae Sq.func81
def Sq.func82:=Sq.fn Tryz.func82 rfl
def Sq.func83:=Sq.fn Tryz.func83 rfl
def Sq.func84:=Sq.fn Tryz.func84 rfl
@[go_sem] def Sq.call84:=ae Sq.func84
def Sq.func85:=Sq.fn Tryz.func85 rfl
@[go_sem] def Ah:=ae Sq.func85
def Sq.func86:=Sq.fn Tryz.func86 rfl
@[go_sem] def Sq.call86:=ae Sq.func86
def Sq.func87:=Sq.fn Tryz.func87 rfl
@[go_sem] def Sq.call87:=ae Sq.func87
def Sq.func88:=Sq.fn Tryz.func88 rfl
@[go_sem] def Sq.call88:=ae Sq.func88
def Sq.func70:=Sq.fn Tryz.func70 rfl
@[go_sem] def Sq.call70:=ae Sq.func70
def Sq.func89:=Sq.fn Tryz.func89 rfl
@[go_sem] def Sq.call89:=ae Sq.func89
def Sq.func94:=Sq.fn Tryz.func94 rfl
@[go_sem] def Sq.call94:=ae Sq.func94
def Sq.func95:=Sq.fn Tryz.func95 rfl
@[go_sem] def Sq.call95:=ae Sq.func95
def Sq.func96:=Sq.fn Tryz.func96 rfl
@[go_sem] def Sq.call96:=ae Sq.func96
def Sq.func97:=Sq.fn Tryz.func97 rfl
@[go_sem] def Sq.call97:=ae Sq.func97
def Sq.func90:=Sq.fn Tryz.func90 rfl
@[go_sem] def Sq.call90:=ae Sq.func90
def Sq.func91:=Sq.fn Tryz.func91 rfl
@[go_sem] def Sq.call91:=ae Sq.func91
def Sq.func92:=Sq.fn Tryz.func92 rfl
@[go_sem] def Sq.call92:=ae Sq.func92
def Sq.func118:=Sq.fn Tryz.func118 rfl
def Sq.func119:=Sq.fn Tryz.func119 rfl
def Sq.func120:=Sq.fn Tryz.func120 rfl
def Sq.func121:=Sq.fn Tryz.func121 rfl
def Sq.func122:=Sq.fn Tryz.func122 rfl
def Sq.func123:=Sq.fn Tryz.func123 rfl
def Sq.func124:=Sq.fn Tryz.func124 rfl
def Sq.func125:=Sq.fn Tryz.func125 rfl
def Sq.func126:=Sq.fn Tryz.func126 rfl
def Sq.func127:=Sq.fn Tryz.func127 rfl
def Sq.func128:=Sq.fn Tryz.func128 rfl
def Sq.func129:=Sq.fn Tryz.func129 rfl
def Sq.func130:=Sq.fn Tryz.func130 rfl
@[go_sem] def Sq.call130:=ae Sq.func130
def Sq.func131:=Sq.fn Tryz.func131 rfl
@[go_sem] def Sq.call131:=ae Sq.func131
def Sq.func132:=Sq.fn Tryz.func132 rfl
@[go_sem] def Sq.call132:=ae Sq.func132
def Sq.func133:=Sq.fn Tryz.func133 rfl
@[go_sem] def Sq.call133:=ae Sq.func133
def Sq.func134:=Sq.fn Tryz.func134 rfl
@[go_sem] def Sq.call134:=ae Sq.func134
def Sq.func140:=Sq.fn Tryz.func140 rfl
def Sq.func144:=Sq.fn Tryz.func144 rfl
def Sq.func145:=Sq.fn Tryz.func145 rfl
def Sq.func146:=Sq.fn Tryz.func146 rfl
def Sq.func147:=Sq.fn Tryz.func147 rfl
def Sq.func148:=Sq.fn Tryz.func148 rfl
def Sq.func149:=Sq.fn Tryz.func149 rfl
def Sq.func150:=Sq.fn Tryz.func150 rfl
def Sq.func151:=Sq.fn Tryz.func151 rfl
def Sq.func152:=Sq.fn Tryz.func152 rfl
def Sq.func153:=Sq.fn Tryz.func153 rfl
def Sq.func154:=Sq.fn Tryz.func154 rfl
def Sq.func155:=Sq.fn Tryz.func155 rfl
def Sq.func156:=Sq.fn Tryz.func156 rfl
def Sq.func157:=Sq.fn Tryz.func157 rfl
@[go_sem] def Sq.call157:=ae Sq.func157
def Sq.func165:=Sq.fn Tryz.func165 rfl
def Sq.func166:=Sq.fn Tryz.func166 rfl
def Sq.func167:=Sq.fn Tryz.func167 rfl
def Sq.func168:=Sq.fn Tryz.func168 rfl
def Sq.func169:=Sq.fn Tryz.func169 rfl
def Sq.underlying22:An.underlying 22=some (.slice 3):=(Sq.underlying 22).trans Tryz.underlying22
def Sq.underlying26:An.underlying 26=some (.slice 22):=(Sq.underlying 26).trans Tryz.underlying26
def Sq.underlying23:An.underlying 23=some (.slice 46):=(Sq.underlying 23).trans Tryz.underlying23
def Sq.underlying125:An.underlying 125=some (.slice 70):=(Sq.underlying 125).trans Tryz.underlying125
end Go.Proofs.Ao
namespace Go.AW
structure Ba where
 a:Program
 fs:Array Func
def Ba.b (P:Ba):Program:={ P.a with funcs:=P.fs }
def Ba.underlying (P:Ba)(t:TypeId):P.b.underlying t=P.a.underlying t:=rfl
def Aj (P:Ba)(t:TypeId):P.b.info? t=P.a.info? t:=rfl
abbrev AO:=Nat->Nat->Prop
structure AO.BO (G:Nat)(β:AO):Prop where
 fn:∀ {b B B'},β b B->β b B'->B=B'
 inj:∀ {b b' B},β b B->β b' B->b=b'
 lo:∀ {b B},β b B->G<=b/\G<=B
def AO.le (β Ax:AO):Prop:=∀b B,β b B->Ax b B
def AO.le_refl (β:AO):β.le β:=λ_ _ h=>h
def AO.le_trans {a b c:AO}(h:a.le b)(h':b.le c):a.le c:=λ_ _ x=>h' _ _ (h _ _ x)
structure Hid where
 at_:Nat->Bool
 BA:Bool
 bl:Bool
instance:CoeFun Hid (λ_=>Nat->Bool):=⟨Hid.at_⟩
structure Cb where
 fn:FuncId->Prop
 hid:Hid
 fr:FuncId->Prop
inductive Fe (S:Cb)(β:AO):Fn->Fn->Prop
 |func {f:FuncId}:S.fn f->Fe S β (.func f) (.func f)
 |yield {l L:Nat}:β l L->S.hid l=false->Fe S β (.yield l) (.yield L)
def hole:Value:=.chan (some 0)
def big:TypeId:=1000000000
def hm:Value:=.func (.method "") #[.iface big undef] #[]
def hd (a:Array Value):Deferred:=⟨.fn (.method "") #[],#[.iface big undef]++a⟩
def nz:Value->Bool
 |.agg _|.tuple _|.pointer none|.nilIface|.nilFunc|.bool _|.int _ _|.string _|.func (.method _) _ _=>false
 |_=>true
inductive Aw (S:Cb)(β:AO):Value->Value->Prop
 |bool (b:Bool):Aw S β (.bool b) (.bool b)
 |int (k:IntKind) (n:Int):Aw S β (.int k n) (.int k n)
 |string (s:ByteArray):Aw S β (.string s) (.string s)
 |Eh:Aw S β (.pointer none) (.pointer none)
 |ptr {b B:Nat} (o:Nat) (s:Option Nat):β b B->Aw S β (.pointer (some ⟨b,o,s⟩)) (.pointer (some ⟨B,o,s⟩))
 |DF (l c:Nat):Aw S β (.slice none l c) (.slice none l c)
 |slice {b B:Nat} (o:Nat) (s:Option Nat) (l c:Nat):β b B->Aw S β (.slice (some ⟨b,o,s⟩) l c) (.slice (some ⟨B,o,s⟩) l c)
 | func {f F : Fn} {x X c C : Array Value} : Fe S β f F -> x.size = X.size -> (∀ (i : Nat) (v V : Value), x[i]? = some v -> X[i]? = some V -> Aw S β v V) ->
   c.size=C.size->(∀(i:Nat) (v V:Value),c[i]?=some v->C[i]?=some V->Aw S β v V)->Aw S β (.func f x c) (.func F X C)
 |nilFunc:Aw S β .nilFunc .nilFunc
 |DY:Aw S β (.map none) (.map none)
 |Dl:Aw S β (.chan none) (.chan none)
 |nilIface:Aw S β .nilIface .nilIface
 |iface (t:TypeId) {v V:Value}:Aw S β v V->Aw S β (.iface t v) (.iface t V)
 |agg {x X:Array Value}:x.size=X.size->(∀(i:Nat) (v V:Value),x[i]?=some v->X[i]?=some V->Aw S β v V)->Aw S β (.agg x) (.agg X)
 |tuple {x X:Array Value}:x.size=X.size->(∀(i:Nat) (v V:Value),x[i]?=some v->X[i]?=some V->Aw S β v V)->Aw S β (.tuple x) (.tuple X)
 |blank {V:Value}:(V=hole\/S.hid.bl=true)->nz V=true->Aw S β hole V
 |Bt {n:String} {x c:Array Value}:(Value.func (.method n) x c=hm\/S.hid.bl=true)->Aw S β hm (.func (.method n) x c)
 |BP {a A:Addr}:(A=a\/S.hid.bl=true)->Aw S β (.slice (some a) 0 0) (.slice (some A) 0 0)
structure AA (S:Cb)(β:AO)(x X:Array Value):Prop where
 size:x.size=X.size
 at_:∀(i:Nat) (v V:Value),x[i]?=some v->X[i]?=some V->Aw S β v V
section
variable {S:Cb} {β Ax:AO}
def Fe.mono (h:β.le Ax){f F:Fn}(r:Fe S β f F):Fe S Ax f F:=by
 cases r with
 |func s=>exact .func s
 |yield l k=>exact .yield (h _ _ l) k
def Aw.mono (h:β.le Ax){v V:Value}(r:Aw S β v V):Aw S Ax v V:=by
 induction r with
 |bool b=>exact .bool b
 |int k n=>exact .int k n
 |string s=>exact .string s
 |Eh=>exact .Eh
 |ptr o s hb=>exact .ptr o s (h _ _ hb)
 |DF l c=>exact .DF l c
 |slice o s l c hb=>exact .slice o s l c (h _ _ hb)
 |func hf h1 _ h2 _ i1 i2=>exact .func (hf.mono h) h1 i1 h2 i2
 |nilFunc=>exact .nilFunc
 |DY=>exact .DY
 |Dl=>exact .Dl
 |nilIface=>exact .nilIface
 |iface t _ ih=>exact .iface t ih
 |agg h1 _ i1=>exact .agg h1 i1
 |tuple h1 _ i1=>exact .tuple h1 i1
 |blank h1 h2=>exact .blank h1 h2
 |Bt h1=>exact .Bt h1
 |BP h1=>exact .BP h1
def AA.mono (h:β.le Ax){x X:Array Value}(r:AA S β x X):AA S Ax x X:=⟨r.size,λi v V a b=>(r.at_ i v V a b).mono h⟩
def AA.agg {x X:Array Value}(r:AA S β x X):Aw S β (.agg x) (.agg X):=.agg r.size r.at_
def AA.tuple {x X:Array Value}(r:AA S β x X):Aw S β (.tuple x) (.tuple X):=.tuple r.size r.at_
def Aw.undef (S:Cb)(β:AO):Aw S β undef undef:=.tuple rfl (by simp)
def zK:AA S β #[] #[]:=⟨rfl,by simp⟩
def AA.get? {x X:Array Value}(r:AA S β x X){i:Nat}{v:Value}(h:x[i]?=some v):∃V,X[i]?=some V/\Aw S β v V:=by
 have hi:i<X.size:=by rw[<-r.size];exact(xg.1 h).1
 exact⟨X[i],xp hi,r.at_ i v _ h (xp hi)⟩
def AA.get_none {x X:Array Value}(r:AA S β x X){i:Nat}(h:x[i]?=none):X[i]?=none:=by
 rw[Array.getElem?_eq_none_iff] at h ⊢;rw[<-r.size];exact h
def AA.getD {x X:Array Value}(r:AA S β x X)(i:Nat){d D:Value}(hd:Aw S β d D):Aw S β (x.getD i d) (X.getD i D):=by
 rw[yu,yu];cases h:x[i]? with
 |none=>rw[r.get_none h];exact hd
 |some v=>obtain⟨V,hV,hr⟩:=r.get? h;rw[hV];exact hr
def AA.push {x X:Array Value}(r:AA S β x X){v V:Value}(h:Aw S β v V):AA S β (x.push v) (X.push V):=by
 refine⟨by simp[r.size],λi a A ha hA=>?_⟩;rw[yL] at ha hA;rw[r.size] at ha;split at ha
 .rw[if_pos ‹_›] at hA;cases ha;cases hA;exact h
 .rw[if_neg ‹_›] at hA;exact r.at_ i a A ha hA
def AA.append {x X y Y:Array Value}(r:AA S β x X)(s:AA S β y Y):AA S β (x++y) (X++Y):=by
 refine⟨by simp[r.size,s.size],λi a A ha hA=>?_⟩;rw[zi] at ha hA;rw[r.size] at ha;split at ha
 .rw[if_pos ‹_›] at hA;exact r.at_ i a A ha hA
 .rw[if_neg ‹_›] at hA;exact s.at_ _ a A ha hA
def AA.one {v V:Value}(h:Aw S β v V):AA S β #[v] #[V]:=by simpa using zK.push h
def AA.extract {x X:Array Value}(r:AA S β x X)(a b:Nat):AA S β (x.extract a b) (X.extract a b):=by
 refine⟨by simp[r.size],λi v V hv hV=>?_⟩;rw[Array.getElem?_extract] at hv hV;rw[r.size] at hv;split at hv
 .rw[if_pos ‹_›] at hV;exact r.at_ _ v V hv hV
 .cases hv
def AA.set {x X:Array Value}(r:AA S β x X)(i:Nat){v V:Value}(h:Aw S β v V):AA S β (x.setIfInBounds i v) (X.setIfInBounds i V):=by
 refine⟨by simp[r.size],λj a A ha hA=>?_⟩;rw[yH] at ha hA;rw[r.size] at ha;split at ha
 .rw[if_pos ‹_›] at hA;split at ha
  .rw[if_pos ‹_›] at hA;cases ha;cases hA;exact h
  .cases ha
 .rw[if_neg ‹_›] at hA;exact r.at_ j a A ha hA
def AA.replicate {v V:Value}(h:Aw S β v V)(n:Nat):AA S β (Array.replicate n v) (Array.replicate n V):=by
 refine⟨by simp,λi a A ha hA=>?_⟩;rw[yk] at ha hA;split at ha
 .rw[if_pos ‹_›] at hA;cases ha;cases hA;exact h
 .cases ha
def AA.map {α:Type}(l:Array α){f F:α->Value}(h:∀x∈l,Aw S β (f x) (F x)):AA S β (l.map f) (l.map F):=by
 refine⟨by simp,λi a A ha hA=>?_⟩;rw[ye] at ha hA;cases hx:l[i]? with
 |none=>rw[hx] at ha;cases ha
 |some x =>
  rw[hx] at ha hA;cases ha;cases hA;exact h x (xP hx)
def Aw.cells {v V:Value}(r:Aw S β v V):AA S β v.cells V.cells:=by
 cases r with
 |agg h1 h2=>exact⟨h1,h2⟩
 |bool b=>exact AA.one (.bool b)
 |int k n=>exact AA.one (.int k n)
 |string s=>exact AA.one (.string s)
 |Eh=>exact AA.one .Eh
 |ptr o s hb=>exact AA.one (.ptr o s hb)
 |DF l c=>exact AA.one (.DF l c)
 |slice o s l c hb=>exact AA.one (.slice o s l c hb)
 |func hf h1 a1 h2 a2=>exact AA.one (.func hf h1 a1 h2 a2)
 |nilFunc=>exact AA.one .nilFunc
 |DY=>exact AA.one .DY
 |Dl=>exact AA.one .Dl
 |nilIface=>exact AA.one .nilIface
 |iface t r=>exact AA.one (.iface t r)
 |tuple h1 a1=>exact AA.one (.tuple h1 a1)
 |blank h1 h2 =>
  rw[show V.cells=#[V] by cases V<;>first|rfl|cases h2];exact AA.one (.blank h1 h2)
 |Bt h1=>exact AA.one (.Bt h1)
 |BP h1=>exact AA.one (.BP h1)
end
inductive Cl (S:Cb)(β:AO):Deferred->Deferred->Prop
 |fn {f F:Fn} {c C a A:Array Value}:Fe S β f F->AA S β c C->AA S β a A->Cl S β ⟨.fn f c,a⟩ ⟨.fn F C,A⟩
 |nil {a A:Array Value}:AA S β a A->Cl S β ⟨.nil,a⟩ ⟨.nil,A⟩
 |collected {r R:Nat}:β r R->S.hid r=false->Cl S β ⟨.collected r,#[]⟩ ⟨.collected R,#[]⟩
 |Bt {d D:Deferred} (a A:Array Value):AA S β a A->d=hd a->(D=hd A\/(S.hid.bl=true/\∃n c x,D=⟨.fn (.method n) c,x++A⟩))->Cl S β d D
inductive BJ {α:Type}(R:α->α->Prop):List α->List α->Prop
 |nil:BJ R [] []
 |cons {a A:α} {l L:List α}:R a A->BJ R l L->BJ R (a::l) (A::L)
def BJ.mono {α:Type}{R R':α->α->Prop}(h:∀a A,R a A->R' a A){l L:List α}(r:BJ R l L):BJ R' l L:=by
 induction r with
 |nil=>exact .nil
 |cons a _ ih=>exact .cons (h _ _ a) ih
def BJ.append {α:Type}{R:α->α->Prop}{l L m M:List α}(r:BJ R l L)(s:BJ R m M):BJ R (l++m) (L++M):=by
 induction r with
 |nil=>exact s
 |cons a _ ih=>exact .cons a ih
def Cl.mono {S:Cb}{β Ax:AO}(h:β.le Ax){d D:Deferred}(r:Cl S β d D):Cl S Ax d D:=by
 cases r with
 |fn f c a=>exact .fn (f.mono h) (c.mono h) (a.mono h)
 |nil a=>exact .nil (a.mono h)
 |collected r k=>exact .collected (h _ _ r) k
 |Bt a A h1 h2 h3=>exact .Bt a A (h1.mono h) h2 h3
inductive Bw (S:Cb)(Ck:Code->Prop)(β:AO):Obj->Obj->Prop
 |cells {c C:Array Value} {t:TypeId} {f F:Nat×Nat}:AA S β c C->(∀i,F.1<=i->i<F.2->f.1<=i/\i<f.2)->Bw S Ck β (.cells c t f) (.cells C t F)
 | loop {st : LoopState} {pe : Option Code} {fn : FuncId} {x X : Array Value} {ps : Array Tmp} {xd bo : Code} {d D : Nat} :
   (S.fr fn/\∀c,pe=some c->Ck c)->Ck xd->Ck bo->AA S β x X->β d D->S.hid d=false->Bw S Ck β (.loop ⟨st,pe,fn,x,ps,xd,bo,d⟩) (.loop ⟨st,pe,fn,X,ps,xd,bo,D⟩)
 |number {b B:Nat} (o:Nat) (s:Option Nat) (lost:Bool):β b B->Bw S Ck β (.number ⟨b,o,s⟩ lost) (.number ⟨B,o,s⟩ lost)
 |taken:Bw S Ck β (.deferred none) (.deferred none)
 |defs {l L:List Deferred}:BJ (Cl S β) l L->Bw S Ck β (.deferred (some l)) (.deferred (some L))
def Bw.mono {S:Cb}{Ck:Code->Prop}{β Ax:AO}(h:β.le Ax){o O:Obj}(r:Bw S Ck β o O):Bw S Ck Ax o O:=by
 cases r with
 |cells a f=>exact .cells (a.mono h) f
 |loop p a b x d k=>exact .loop p a b (x.mono h) (h _ _ d) k
 |number o s l hb=>exact .number o s l (h _ _ hb)
 |taken=>exact .taken
 |defs l=>exact .defs (l.mono λ_ _=>Cl.mono h)
def AO.OY (β:AO):Prop:=∀b B,β b B->b=B
def Jo (H:Hid)(β:AO):Prop:=H.bl=false/\β.OY
def Fe.id {S:Cb}{β:AO}(h:β.OY){f F:Fn}(r:Fe S β f F):f=F:=by
 cases r with
 |func _=>rfl
 |yield hl _=>rw[h _ _ hl]
def Aw.id {S:Cb}{β:AO}(h:Jo S.hid β){v V:Value}(r:Aw S β v V):v=V:=by
 have arr:∀(x X:Array Value),x.size=X.size->(∀(i:Nat) (v V:Value),x[i]?=some v->X[i]?=some V->v=V)->x=X:=λx X hs ha=>by
  refine Array.ext hs λi h1 h2=>?_;exact ha i _ _ (xp h1) (xp h2)
 induction r with
 |ptr o s hb=>rw[h.2 _ _ hb]
 |slice o s l c hb=>rw[h.2 _ _ hb]
 |func hf h1 _ h2 _ i1 i2=>rw[hf.id h.2,arr _ _ h1 i1,arr _ _ h2 i2]
 |iface t _ ih=>rw[ih]
 |agg h1 _ i1=>rw[arr _ _ h1 i1]
 |tuple h1 _ i1=>rw[arr _ _ h1 i1]
 |blank h1 _=>exact h1.elim Eq.symm λh1=>by rw[h.1] at h1;cases h1
 |Bt h1=>exact h1.elim Eq.symm λh1=>by rw[h.1] at h1;cases h1
 |BP h1=>exact h1.elim (λe=>by rw[e]) λh1=>by rw[h.1] at h1;cases h1
 |_=>rfl
def AA.id {S:Cb}{β:AO}(h:Jo S.hid β){x X:Array Value}(r:AA S β x X):x=X :=
 Array.ext r.size λi h1 h2=>(r.at_ i _ _ (xp h1) (xp h2)).id h
def BJ.id {α:Type}{R:α->α->Prop}(h:∀a A,R a A->a=A){l L:List α}(r:BJ R l L):l=L:=by
 induction r with
 |nil=>rfl
 |cons ha _ ih=>rw[h _ _ ha,ih]
def Cl.id {S:Cb}{β:AO}(h:Jo S.hid β){d D:Deferred}(r:Cl S β d D):d=D:=by
 cases r with
 |fn f c a=>rw[f.id h.2,c.id h,a.id h]
 |nil a=>rw[a.id h]
 |collected r _=>rw[h.2 _ _ r]
 |Bt a A h1 h2 h3 =>
  rw[h2,h1.id h];exact h3.elim Eq.symm λh1=>by have:=h1.1;rw[h.1] at this;cases this
def Bw.id {S:Cb}{Ck:Code->Prop}{β:AO}(h:Jo S.hid β){o O:Obj}(r:Bw S Ck β o O)(hn:∀c t f,o≠.cells c t f):o=O:=by
 cases r with
 |cells=>exact absurd rfl (hn _ _ _)
 |loop p a b x d k=>rw[x.id h,h.2 _ _ d]
 |number o s l hb=>rw[h.2 _ _ hb]
 |taken=>rfl
 |defs l=>rw[l.id λ_ _=>Cl.id h]
structure Bg (S:Cb)(Ck:Code->Prop)(G:Nat)(β:AO)(w W:World):Prop where
 B6:β.BO G
 room:G<=w.heap.size/\G<=W.heap.size
 Cq:∀b B,β b B->S.hid b=false->∃o O,w.heap[b]?=some o/\W.heap[B]?=some O/\Bw S Ck β o O
 CG:∀b B,β b B->S.hid b=true->w.heap[b]?=some (.coro none)/\(S.hid.BA=false->∃c t f,W.heap[B]?=some (.cells c t f))/\(S.hid.BA=true->W.heap[B]?=some (.coro none))
 old:∀b,S.hid b=true->b<w.heap.size
 env:w.os.env=W.os.env
def Im (n:Nat)(w W:World):Prop:=∀i,i<n->∀q,w.tape (w.drawn+i) q=W.tape (W.drawn+i) q
inductive MOk:Mark->Prop
 |extern (f:FuncId):MOk (.extern f)
 |noRoom:MOk .noRoom
def B8:Obj->Nat
 |.cells c _ _=>c.size+3
 |.coro none=>1
 |_=>2
inductive Xq (β:AO)(w:World):Event->Prop
 |cell {a A:Addr} {wr sy:Bool}:β a.block A.block->a.off=A.off->(∃n,(w.heap[a.block]?).map B8=some (n+3)/\a.off<n)->(wr=true->w.frozen? a=false)->Xq β w ⟨.cell A,wr,sy⟩
 |obj {r R:Nat} {wr sy:Bool}:β r R->(w.heap[r]?).map B8=some 2->Xq β w ⟨.obj R,wr,sy⟩
 |mark {M:Mark} {wr sy:Bool}:MOk M->Xq β w ⟨.mark M,wr,sy⟩
 |out {wr sy:Bool}:Xq β w ⟨.output,wr,sy⟩
structure Fin (S:Cb)(Ck:Code->Prop)(G:Nat)(β Ax:AO)(w W w' W':World)(ES:List Event):Prop where
 le:β.le Ax
 rel:Bg S Ck G Ax w' W'
 tape:w'.tape=w.tape
 TAPE:W'.tape=W.tape
 drawn:w.drawn<=w'.drawn
 draws:W'.drawn+w.drawn=W.drawn+w'.drawn
 os:w'.os=w.os
 OS:W'.os=W.os
 out:w'.output=w.output
 OUT:W'.output=W.output
 size:w.heap.size<=w'.heap.size
 SIZE:W.heap.size<=W'.heap.size
 new:∀b B,Ax b B->β b B\/(w.heap.size<=b/\W.heap.size<=B)
 NEW:∀B,W.heap.size<=B->B<W'.heap.size->∃b,Ax b B
 frozen:∀a:Addr,a.block<w.heap.size->w'.frozen? a=w.frozen? a
 KEPT:∀B,B<W.heap.size->(∀b,¬β b B)->W'.heap[B]?=W.heap[B]?
 ro:∀b B c t f,β b B->w.heap[b]?=some (.cells c t f)->(∀i,i<c.size->f.1<=i/\i<f.2)->w'.heap[b]?=w.heap[b]?/\W'.heap[B]?=W.heap[B]?
 kind:∀b,b<w.heap.size->(w'.heap[b]?).map B8=(w.heap[b]?).map B8
 evs:S.hid.BA=false->∀E∈ES,Xq Ax w' E
 same:Jo S.hid β->w.heap=W.heap->Jo S.hid Ax/\w'.heap=W'.heap
 hk:∀b B,β b B->S.hid b=true->W'.heap[B]?=W.heap[B]?
section
variable {S:Cb} {Ck:Code->Prop} {G:Nat} {β Ax Yi:AO} {w W w' W' w'' W'':World} {ES ES':List Event}
def Bg.lt (h:Bg S Ck G β w W){b B:Nat}(hb:β b B):b<w.heap.size/\B<W.heap.size:=by
 cases hh:S.hid b with
 |false =>
  obtain⟨o,O,h1,h2,_⟩:=h.Cq b B hb hh;exact⟨(xg.1 h1).1,(xg.1 h2).1⟩
 |true =>
  obtain⟨h1,h2,h3⟩:=h.CG b B hb hh;refine⟨(xg.1 h1).1,?_⟩;cases ht:S.hid.BA with
  |false=>obtain⟨c,t,f,h2⟩:=h2 ht;exact(xg.1 h2).1
  |true=>exact(xg.1 (h3 ht)).1
def Fin.refl (h:Bg S Ck G β w W):Fin S Ck G β β w W w W [] where
 le:=β.le_refl
 rel:=h
 tape:=rfl
 TAPE:=rfl
 drawn:=xh _
 draws:=rfl
 os:=rfl
 OS:=rfl
 out:=rfl
 OUT:=rfl
 size:=xh _
 SIZE:=xh _
 new:=λ_ _ h=>.inl h
 NEW:=λB h1 h2=>absurd h2 (by omega)
 frozen:=λ_ _=>rfl
 KEPT:=λ_ _ _=>rfl
 ro:=λ_ _ _ _ _ _ _ _=>⟨rfl,rfl⟩
 kind:=λ_ _=>rfl
 evs:=by simp
 same:=λh e=>⟨h,e⟩
 hk:=λ_ _ _ _=>rfl
def Fin.trans (h:Fin S Ck G β Ax w W w' W' ES)(k:Fin S Ck G Ax Yi w' W' w'' W'' ES'):Fin S Ck G β Yi w W w'' W'' (ES++ES') where
 le:=AO.le_trans h.le k.le
 rel:=k.rel
 tape:=k.tape.trans h.tape
 TAPE:=k.TAPE.trans h.TAPE
 drawn:=xx h.drawn k.drawn
 draws:=by have:=h.draws;have:=k.draws;omega
 os:=k.os.trans h.os
 OS:=k.OS.trans h.OS
 out:=k.out.trans h.out
 OUT:=k.OUT.trans h.OUT
 size:=xx h.size k.size
 SIZE:=xx h.SIZE k.SIZE
 new:=λb B hb=>by
  rcases k.new b B hb with h1|⟨h1,h2⟩
  .exact h.new b B h1
  .exact .inr ⟨xx h.size h1,xx h.SIZE h2⟩
 NEW:=λB h1 h2=>by
  by_cases hB:B<W'.heap.size
  .obtain⟨b,hb⟩:=h.NEW B h1 hB;exact⟨b,k.le _ _ hb⟩
  .exact k.NEW B (by omega) h2
 frozen:=λa ha=>(k.frozen a (xl ha h.size)).trans (h.frozen a ha)
 KEPT:=λB hB hn=>by
  refine(k.KEPT B (xl hB h.SIZE) (λb hb=>?_)).trans (h.KEPT B hB hn);rcases h.new b B hb with h1|⟨_,h2⟩
  .exact hn b h1
  .omega
 ro:=λb B c t f hb hc hf=>by
  obtain⟨e1,e2⟩:=h.ro b B c t f hb hc hf;obtain⟨k1,k2⟩:=k.ro b B c t f (h.le _ _ hb) (e1.trans hc) hf;exact⟨k1.trans e1,k2.trans e2⟩
 kind:=λb hb=>(k.kind b (xl hb h.size)).trans (h.kind b hb)
 evs:=λht E hE=>by
  rcases ym.1 hE with hE|hE
  .have:=h.evs ht E hE;cases this with
   |cell hb ho hc hw =>
    have hl:=(h.rel.lt hb).1;exact .cell (k.le _ _ hb) ho (let ⟨n,h1,h2⟩:=hc;⟨n,(k.kind _ hl).trans h1,h2⟩) (λe=>(k.frozen _ hl).trans (hw e))
   |obj hr hc=>exact .obj (k.le _ _ hr) ((k.kind _ (h.rel.lt hr).1).trans hc)
   |mark hm=>exact .mark hm
   |out=>exact .out
  .exact k.evs ht E hE
 same:=λi e=>let ⟨a,b⟩:=h.same i e;k.same a b
 hk:=λb B hb hh=>(k.hk b B (h.le _ _ hb) hh).trans (h.hk b B hb hh)
def Im.rest {n:Nat}(h:Im n w W)(k:Fin S Ck G β Ax w W w' W' ES):Im (n-(w'.drawn-w.drawn)) w' W':=by
 intro i hi q;have h1:=k.drawn;have h2:=k.draws;have:=h (w'.drawn-w.drawn+i) (by omega) q;rw[k.tape,k.TAPE];rw[show w.drawn+(w'.drawn-w.drawn+i)=w'.drawn+i from by omega,show W.drawn+(w'.drawn-w.drawn+i)=W'.drawn+i from by omega] at this;exact this
end
def world {α:Type}:Result α->World
 |.ok _ w=>w
 |.halt _ w=>w
def pP {α:Type}:∀(a:Ask α) (w:World),w.drawn<=(w.ask a).2.drawn:=by
 intro a
 induction a with
 |done a=>intro w;exact xh _
 |ask what range k ih =>
  intro w;simp only[World.ask];split
  .exact ih _ _
  .exact xx (Nat.le_succ w.drawn) (ih _ { w with drawn:=w.drawn+1 })
def Nw (w:World)(c:Sys):w.drawn<=(w.sys c).2.drawn:=by
 have h:=pP (Kernel.perform c w.os) w;unfold World.sys;generalize w.ask (Kernel.perform c w.os)=r at h;obtain⟨⟨r,os⟩,w'⟩:=r;cases r<;>first|exact h|exact xh _
def jg {p:Program}{w w':World}{at_ k:Addr}{u:TypeId}{v:Value}{b:Bool}{l:List Addr}(h:w.viewStore p at_ u k v b=.ok (w',l)):w'.drawn=w.drawn:=by
 unfold World.viewStore at h;simp only[bind,Except.bind,pure,Except.pure] at h
 repeat' (split at h)
 all_goals first|(cases h;rfl)|cases h
def jU {p:Program}{w w':World}{a:Addr}{v:Value}{b:Bool}{l:List Addr}(h:w.farStore p a v b=.ok (w',l)):w'.drawn=w.drawn:=by
 unfold World.farStore at h;split at h
 .split at h
  .rename_i r hr;cases h;exact jg hr
  .cases h
 .cases h
def dj {α:Type}(P:Program)(md:Mode)(a:Addr)(v:Value)(k:Sem α)(w:World)(es:Array Event)(h1:∀x,v≠.agg x)(h2:∀x,v≠.tuple x) :
  (Sem.store md a v k).runT P w es=match w.cell? a with
   |some _=>if w.frozen? a then(.halt (.unsupported (.unsafePointer "a write to bytes that a string shares")) w,es)
     else k.runT P (w.setCell a v) (es.push ⟨.cell a,true,md==.atomic⟩)
   | none => match w.farStore P a v (md == .atomic) with
     |.ok (w,SC)=>k.runT P w (es++SC.toArray.map (⟨.cell ·,true,md==.atomic⟩))
     |.error h=>(.halt h w,es):=by
 cases v<;>first|exact absurd rfl (h1 _)|exact absurd rfl (h2 _)|rfl
def Cr {α:Type}(P:Program)(m:Sem α):∀(w:World) (es:Array Event),w.drawn<=(world (m.runT P w es).1).drawn:=by
 induction m with
 |pure a=>intro w es;exact xh _
 |load md a k ih =>
  intro w es;simp only[Sem.runT];split
  .exact ih _ _ _
  .split
   .exact ih _ _ _
   .exact xh _
 |store md a v k ih =>
  intro w es;by_cases h1:∃x,v=.agg x
  .obtain⟨x,rfl⟩:=h1;exact xh _
  by_cases h2:∃x,v=.tuple x
  .obtain⟨x,rfl⟩:=h2;exact xh _
  rw[dj P md a v k w es (λx e=>h1 ⟨x,e⟩) (λx e=>h2 ⟨x,e⟩)];split
  .split
   .exact xh _
   .exact ih (w.setCell a v) _
  .split
   .rename_i w' l hw;have:=jU hw;exact xx (yl this.symm) (ih _ _)
   .exact xh _
 |new o k ih=>intro w es;exact ih _ { w with heap:=w.heap.push o } _
 |shape r k ih=>intro w es;exact ih _ _ _
 |freeze a n k ih=>intro w es;exact xx (by unfold World.freeze;split<;>exact xh _) (ih _ _)
 |frozen a k ih=>intro w es;exact ih _ _ _
 |getObj r k ih =>
  intro w es;simp only[Sem.runT];split
  .exact xh _
  .exact ih _ _ _
  .exact xh _
 |setObj r o k ih =>
  intro w es;simp only[Sem.runT];split
  .exact xh _
  .exact ih { w with heap:=w.heap.setIfInBounds r o } _
  .exact xh _
 |choose q k ih =>
  intro w es;simp only[Sem.runT];split
  .exact ih _ _ _
  .exact xx (Nat.le_succ w.drawn) (ih _ { w with drawn:=w.drawn+1 } _)
 |sys c k ih=>intro w es;exact xx (Nw w c) (ih _ _ _)
 |program k ih=>intro w es;exact ih _ _ _
 |mark m k ih=>intro w es;exact ih _ _
 |halt h=>intro w es;exact xh _
def aj {α γ:Type}(P:Program)(m:Sem α)(k:α->Sem γ):∀(w:World) (es:Array Event),(m >>= k).runT P w es =
  match m.runT P w es with
  |(.ok a w',es')=>(k a).runT P w' es'
  |(.halt h w',es')=>(.halt h w',es'):=by
 induction m with
 |pure a=>intro w es;rfl
 |load md a k' ih =>
  intro w es;show((Sem.load md a λv=>(k' v) >>= k)).runT P w es=_;simp only[Sem.runT];split
  .exact ih _ _ _
  .split
   .exact ih _ _ _
   .rfl
 |store md a v k' ih =>
  intro w es;show((Sem.store md a v (k' >>= k))).runT P w es=_;by_cases h1:∃x,v=.agg x
  .obtain⟨x,rfl⟩:=h1;rfl
  by_cases h2:∃x,v=.tuple x
  .obtain⟨x,rfl⟩:=h2;rfl
  rw[dj P md a v _ w es (λx e=>h1 ⟨x,e⟩) (λx e=>h2 ⟨x,e⟩),dj P md a v _ w es (λx e=>h1 ⟨x,e⟩) (λx e=>h2 ⟨x,e⟩)];split
  .split
   .rfl
   .exact ih _ _
  .split
   .exact ih _ _
   .rfl
 |new o k' ih=>intro w es;exact ih _ _ _
 |shape r k' ih=>intro w es;exact ih _ _ _
 |freeze a n k' ih=>intro w es;exact ih _ _
 |frozen a k' ih=>intro w es;exact ih _ _ _
 |getObj r k' ih =>
  intro w es;show((Sem.getObj r λv=>(k' v) >>= k)).runT P w es=_;simp only[Sem.runT];split
  .rfl
  .exact ih _ _ _
  .rfl
 |setObj r o k' ih =>
  intro w es;show((Sem.setObj r o (k' >>= k))).runT P w es=_;simp only[Sem.runT];split
  .rfl
  .exact ih _ _
  .rfl
 |choose q k' ih =>
  intro w es;show((Sem.choose q λv=>(k' v) >>= k)).runT P w es=_;simp only[Sem.runT];split
  .exact ih _ _ _
  .exact ih _ _ _
 |sys c k' ih=>intro w es;exact ih _ _ _
 |program k' ih=>intro w es;exact ih _ _ _
 |mark m k' ih=>intro w es;exact ih _ _
 |halt h=>intro w es;rfl
end Go.AW
namespace Go.Sq
structure Be where
 heads:Int
 CJ:Int
 most:Int
 off:List Int
instance:Inhabited Be:=⟨⟨0,0,0,[]⟩⟩
structure AD where
 Aq:List Int
 Ap:List Be
def AD.h (c:AD)(i:Nat):Be:=c.Ap[i]?.getD default
def FE:List Int->List Int->Int
 |[],[]=>0
 |[],_::_=>-1
 |_::_,[]=>1
 |a::l,b::m=>if a<b then -1 else if b<a then 1 else FE l m
def lA (l:List Int):FE [] l=if l.length=0 then 0 else -1:=by cases l<;>simp[FE]
def pQ (l:List Int)(h:0<l.length):FE l []=1:=by cases l with
 |nil=>simp at h
 |cons a l=>rfl
def pR (l m:List Int)(k:Nat)(h1:k<l.length)(h2:k<m.length):FE (l.drop k) (m.drop k)=if l[k]?.getD 0<m[k]?.getD 0 then -1 else if m[k]?.getD 0<l[k]?.getD 0 then 1 else FE (l.drop (k+1)) (m.drop (k+1)):=by
 rw[zq h1,zq h2,xi h1,xi h2]
 rfl
def dC (a b:Int):Int:=if a<b then -1 else if b<a then 1 else 0
def bm {α:Type}(d:α)(l:List α)(k:Nat)(h:k<l.length):l.take (k+1)=l.take k++[l[k]?.getD d]:=by
 rw[zf,xi h];rfl
def lB (l:List Int)(k:Nat)(h:k<l.length):(l.take (k+1)).sum=(l.take k).sum+l[k]?.getD 0:=by
 rw[bm 0 l k h,List.sum_append];simp
def Eg (a b:Int)(l:List Int)(h:∀x∈l,a<=x/\x<=b):l.length*a<=l.sum/\l.sum<=l.length*b:=by
 induction l with
 |nil=>simp
 |cons x l ih =>
  obtain⟨h1,h2⟩:=ih λy hy=>h y (yS _ hy);obtain⟨h3,h4⟩:=h x yE;simp only[xz,List.sum_cons,Int.natCast_add,Int.natCast_one,Int.add_mul,Int.one_mul] at *;omega
def Dd (l:List Int)(k:Nat)(h:k<l.length):l[k]?.getD 0∈l:=by
 rw[xi h];exact yb h
structure AD.Ok (c:AD):Prop where
 n1:1<=c.Aq.length
 n5:c.Aq.length<=5
 need:∀x∈c.Aq,0<=x/\x<=12
 h1:1<=c.Ap.length
 h4:c.Ap.length<=4
 heads:∀h∈c.Ap,1<=h.heads/\h.heads<=40
 CJ:∀h∈c.Ap,1<=h.CJ/\h.CJ<=5
 most:∀h∈c.Ap,0<=h.most/\h.most<=5
 off:∀h∈c.Ap,h.off.length<=5/\∀x∈h.off,0<=x/\x<c.Aq.length
def AD.FH (c:AD){i:Nat}(hi:i<c.Ap.length):c.h i∈c.Ap:=by
 unfold AD.h;rw[xi hi];exact yb hi
def below (x k:Nat):List Int:=((List.range k).filter x.testBit).map (λn:Nat=>(n:Int))
def wl (x:Nat):List Int:=below x 4
def JW {x:Nat}{z:Int}(h:z∈wl x):∃n:Nat,z=n/\n<4/\x.testBit n=true:=by
 unfold wl below at h;simp only[xW,yY,x9] at h;obtain⟨n,⟨h1,h2⟩,rfl⟩:=h;exact⟨n,rfl,h1,h2⟩
def cG (x:Nat):(wl x).length<=4:=by
 unfold wl below;rw[yK];exact xx (zj _ _) (by simp)
def AD.has (c:AD)(x:Nat):Prop:=x<2 ^ c.Ap.length
def jh {x n m:Nat}(h:x<2 ^ m)(hb:x.testBit n=true):n<m:=by
 rcases yh n m with h1|h1
 .exact h1
 .rw[Nat.testBit_lt_two_pow (xl h (zl (by omega) h1))] at hb;cases hb
def zI {c:AD}(h4:c.Ap.length<=4){x:Nat}(hx:c.has x):x<16:=xl hx (zl (by omega) h4)
def MH {c:AD}{x:Nat}(hx:c.has x){k:Nat}(hk:k<(wl x).length):∃n:Nat,(wl x)[k]?.getD 0=n/\n<c.Ap.length/\n<4/\x.testBit n=true:=by
 obtain⟨n,h1,h2,h3⟩:=JW (Dd _ k hk);exact⟨n,h1,jh hx h3,h2,h3⟩
def AD.CJ (c:AD)(x:Nat):Int:=((wl x).map λh=>(c.h h.toNat).CJ).sum
def AD.Io (c:AD)(x:Nat):List Int:=(wl x).map λh=>(c.h h.toNat).CJ
def AD.IJ (c:AD)(x:Nat):(c.Io x).length=(wl x).length:=yK ..
def AD.SD (c:AD){x k n:Nat}(hk:k<(wl x).length)(hn:(wl x)[k]?.getD 0=n):(c.Io x)[k]?.getD 0=(c.h n).CJ:=by
 unfold AD.Io;rw[yp];rw[xi hk] at hn ⊢;simp only[Option.getD_some] at hn;simp[hn]
def z8 (c:AD)(x:Nat):c.CJ x=(c.Io x).sum:=rfl
def MJ (c:AD){x:Nat}(hx:c.has x)(hd:∀h∈c.Ap,1<=h.CJ/\h.CJ<=5)(k:Nat):0<=((c.Io x).take k).sum/\((c.Io x).take k).sum<=20:=by
 have hb:=Eg 0 5 ((c.Io x).take k) λy hy=>by
  obtain⟨z,hz,rfl⟩:=xW.1 (za hy);obtain⟨n,rfl,_,h3⟩:=JW hz;have:=hd _ (c.FH (jh hx h3));simp only[Int.toNat_natCast];omega
 have hl:((c.Io x).take k).length<=4:=by
  rw[List.length_take,c.IJ];have:=cG x;omega
 omega
def Ei (r:Nat->Nat)(n:Nat):Nat->Nat
 |0=>0
 |k+1=>Ei r n k+if(r k).testBit n then 1 else 0
def pS (r:Nat->Nat)(n k:Nat):Ei r n k<=k:=by
 induction k with
 |zero=>exact xh _
 |succ k ih=>simp only[Ei];split<;>omega
def Yj (c:AD)(night n:Nat):Bool:=decide ((night:Int)∈(c.h n).off)
def fw (r:Nat->Nat)(night n:Nat):Bool:=decide (0<night)&&(r (night-1)).testBit n
def pT (c:AD)(r:Nat->Nat)(night n:Nat):Bool:=decide ((c.h n).most<=(Ei r n night:Int))
def IK (c:AD)(r:Nat->Nat)(night:Nat):Nat->Nat->Bool
 |0,n=>Yj c night n
 |1,n=>fw r night n
 |_,n=>pT c r night n
def breaks (c:AD)(r:Nat->Nat)(night i:Nat):Option Int:=(wl (r night)).find? λh=>IK c r night i h.toNat
def AD.need (c:AD)(night:Nat):Int:=c.Aq[night]?.getD 0
def CY (c:AD)(r:Nat->Nat)(night:Nat):Int×Int×Int :=
 match breaks c r night 0 with
 |some h=>(1,night,h)
 |none=>match breaks c r night 1 with
  |some h=>(2,night,h)
  |none=>match breaks c r night 2 with
   |some h=>(3,night,h)
   |none=>if c.CJ (r night)<c.need night then(4,night,-1) else(0,-1,-1)
def fM {l:List Int}{p:Int->Bool}{k:Nat}(hk:k<l.length)(hn:(l.take k).find? p=none)(hp:p (l[k]?.getD 0)=true):l.find? p=some (l[k]?.getD 0):=by
 have e:l.find? p=(l.take k++l.drop k).find? p:=by rw[List.take_append_drop]
 rw[e,List.find?_append,hn,zq hk,List.find?_cons];rw[xi hk] at hp ⊢;simp only[Option.getD_some] at hp ⊢;simp only[hp,Option.none_or]
def gv {l:List Int}{p:Int->Bool}{k:Nat}(hk:k<l.length)(hn:(l.take k).find? p=none)(hp:p (l[k]?.getD 0)=false):(l.take (k+1)).find? p=none:=by
 rw[bm 0 l k hk,List.find?_append,hn];simp[hp]
def Bb (n lo hi:Int):Int:=if n<lo then 7 else if hi<n then 6 else 0
def CL (l:List Int)(n:Int)(i:Nat):Int:=if 0<=l[i]?.getD 0/\l[i]?.getD 0<=n-1 then(if 0<i/\l[i]?.getD 0<=l[i-1]?.getD 0 then 5 else 0) else 3
def bE (l:List Int):Int:=(l.find? (· != 0)).getD 0
def B1 (l:List Int)(n:Int):Int:=bE ((List.range l.length).map (CL l n))
def C2 (x lo hi:Int):Bool:=decide (lo<=x)&&decide (x<=hi)
def Cm (n:Int)(h:Be):Int:=if C2 h.heads 1 40&&C2 h.CJ 1 5&&C2 h.most 0 5 then B1 h.off n else 1
def AK (c:AD):Int :=
 if Bb c.Aq.length 1 5≠0 then Bb c.Aq.length 1 5 else if(c.Aq.all λx=>C2 x 0 12)=false then 1
 else if Bb c.Ap.length 1 4≠0 then Bb c.Ap.length 1 4 else bE (c.Ap.map (Cm c.Aq.length))
def iH {l:List Int}(h:∀x∈l,x=0):bE l=0:=by
 unfold bE;rw[zv.2 λx hx=>by simp[h x hx]];rfl
def aV {l:List Int}{k:Nat}(hk:k<l.length)(hn:∀i,i<k->l[i]?.getD 0=0)(hp:l[k]?.getD 0≠0):bE l=l[k]?.getD 0:=by
 unfold bE;rw[fM hk (zv.2 λx hx=>?_) (by simpa using hp)]
 .rfl
 .obtain⟨i,hi,rfl⟩:=List.mem_take_iff_getElem.1 hx;have:=hn i (by omega);rw[xi (by omega)] at this;simpa using this
def cV {l:List Int}(hn:∀i,i<l.length->l[i]?.getD 0=0):bE l=0:=iH λx hx=>by
 obtain⟨i,hi,rfl⟩:=yT.1 hx;have:=hn i hi;rw[xi hi] at this;simpa using this
def fN {l:List Int}{n:Int}{k:Nat}(hk:k<l.length)(hn:∀i,i<k->CL l n i=0)(hp:CL l n k≠0):B1 l n=CL l n k:=by
 have e:∀i,i<l.length->((List.range l.length).map (CL l n))[i]?.getD 0=CL l n i:=λi hi=>by simp[hi]
 unfold B1;rw[aV (k:=k) (by simpa using hk) (λi hi=>by rw[e i (by omega)];exact hn i hi) (by rw[e k hk];exact hp),e k hk]
def ku {l:List Int}{n:Int}(hn:∀i,i<l.length->CL l n i=0):B1 l n=0:=by
 unfold B1;exact cV λi hi=>by
  have hi':i<l.length:=by simpa using hi
  simp[hi',hn i hi']
end Go.Sq
namespace Go
def xf{p:Prop}(h:p):RowKit.Hid p:=h
end Go
namespace Go.Sq
open Go.RowKit
structure Gr (w w':World):Prop where
 below:Below w.heap.size w w'
 drawn:w.drawn<=w'.drawn
def Gr.refl (w:World):Gr w w:=⟨Below.refl _ _,xh _⟩
def Gr.trans {a b c:World}(h:Gr a b)(k:Gr b c):Gr a c:=⟨h.below.trans (k.below.mono h.below.size),xx h.drawn k.drawn⟩
def Gr.size {w w':World}(h:Gr w w'):w.heap.size<=w'.heap.size:=h.below.size
def Gr.alloc {w w':World}(h:Gr w w')(o:Obj):Gr w (w'.alloc o):=⟨h.below.alloc h.size o,h.drawn⟩
def Gr.drew {w w':World}(h:Gr w w'):Gr w w'.drew:=⟨h.below.drew,zg h.drawn⟩
def Gr.drewN {w w':World}(h:Gr w w')(n:Nat):Gr w (w'.drewN n):=⟨⟨h.below.os,h.below.tape,h.below.output,h.below.size,h.below.block⟩,xx h.drawn (Nat.le_add_right _ _)⟩
def Gr.setCell {w w':World}(h:Gr w w'){p:Addr}(hp:w.heap.size<=p.block)(v:Value):Gr w (w'.setCell p v):=⟨h.below.setCell hp v,h.drawn⟩
def Gr.grown {w w' w1:World}(h:Gr w w'){row:Option Nat}(hg:w'.grownBy w1 row)(hd:w'.drawn<=w1.drawn)(hr:∀k,row=some k->w.heap.size<=k):Gr w w1 :=
 ⟨h.below.grown hg h.size hr,xx h.drawn hd⟩
def Gr.cell {w w':World}(h:Gr w w'){p:Addr}(hp:p.block<w.heap.size):w'.cell? p=w.cell? p:=h.below.cell hp
def Gr.frozen {w w':World}(h:Gr w w'){p:Addr}(hp:p.block<w.heap.size):w'.frozen? p=w.frozen? p:=h.below.frozen hp
def RI (w:World)(B:Nat)(A:Option Addr)(l:List Int):Prop :=
 l≠[]->∃b o,A=some ⟨b,o,none⟩/\b<B/\∀i x,l[i]?=some x->w.cell? ⟨b,o+i,none⟩=some (.int .i64 x)
def RI.nil {w:World}{B:Nat}{A:Option Addr}:RI w B A []:=λh=>absurd rfl h
def RI.keep {w w':World}{B:Nat}{A:Option Addr}{l:List Int}(h:RI w B A l)(hk:∀b o,b<B->w'.cell? ⟨b,o,none⟩=w.cell? ⟨b,o,none⟩):RI w' B A l:=λhn=>by
 obtain⟨b,o,e,hb,hc⟩:=h hn;exact⟨b,o,e,hb,λi x hx=>(hk _ _ hb).trans (hc i x hx)⟩
def RI.gr {w w':World}{B:Nat}{A:Option Addr}{l:List Int}(h:RI w B A l)(hB:B<=w.heap.size)(hg:Gr w w'):RI w' B A l:=h.keep λ_ _ hb=>hg.cell (xl hb hB)
def RI.more {w:World}{B B':Nat}{A:Option Addr}{l:List Int}(h:RI w B A l)(hB:B<=B'):RI w B' A l:=λhn=>by
 obtain⟨b,o,e,hb,hc⟩:=h hn;exact⟨b,o,e,by omega,hc⟩
def RI.at_ {w:World}{B:Nat}{A:Option Addr}{l:List Int}(h:RI w B A l){k:Nat}(hk:k<l.length):∃b o,A=some ⟨b,o,none⟩/\b<B/\w.cell? ⟨b,o+k,none⟩=some (.int .i64 (l[k]?.getD 0)):=by
 obtain⟨b,o,e,hb,hc⟩:=h (λe=>by subst e;simp at hk);exact⟨b,o,e,hb,by rw[xi hk];exact hc k _ (xi hk)⟩
def zG {w:World}{base:Nat}{v:Value}{l:List Int}(h:w.ownsRow base 3 1 v l.length (l.map (Value.int .i64))):∃A c,v=.slice A l.length c/\RI w w.heap.size A l:=by
 rcases h.2 with⟨rfl,h0⟩|⟨g,cap,cur,rfl,_,hg,_⟩
 .have:l.length=0:=by simpa using h0
  have:l=[]:=xU this;subst this;exact⟨none,0,rfl,.nil⟩
 .refine⟨_,cap,rfl,λ_=>⟨g,0,rfl,(xg.1 hg).1,λi x hx=>?_⟩⟩;have:=h.cells (g:=g) rfl i (.int .i64 x) (by rw[yp,hx];rfl);have e:(⟨g,0,none⟩:Addr).add i=⟨g,0+i,none⟩:=by unfold Addr.add;split<;>simp_all
  rwa [e] at this
def Kt (w:World)(B b o:Nat)(h:Be):Prop :=
 w.cell? ⟨b,o,none⟩=some (.int .i64 h.heads)/\w.cell? ⟨b,o+1,none⟩=some (.int .i64 h.CJ)/\w.cell? ⟨b,o+2,none⟩=some (.int .i64 h.most) /\
  ∃A c,w.cell? ⟨b,o+3,none⟩=some (.slice A h.off.length c)/\RI w B A h.off
def BG (w:World)(B:Nat)(A:Option Addr)(l:List Be):Prop :=
 l≠[]->∃b o,A=some ⟨b,o,none⟩/\b<B/\∀i h,l[i]?=some h->Kt w B b (o+i*4) h
def Kt.keep {w w':World}{B b o:Nat}{h:Be}(ha:Kt w B b o h)(hb:b<B)(hk:∀b o,b<B->w'.cell? ⟨b,o,none⟩=w.cell? ⟨b,o,none⟩):Kt w' B b o h:=by
 obtain⟨h1,h2,h3,A,c,h4,h5⟩:=ha;exact⟨(hk _ _ hb).trans h1,(hk _ _ hb).trans h2,(hk _ _ hb).trans h3,A,c,(hk _ _ hb).trans h4,h5.keep hk⟩
def BG.keep {w w':World}{B:Nat}{A:Option Addr}{l:List Be}(h:BG w B A l)(hk:∀b o,b<B->w'.cell? ⟨b,o,none⟩=w.cell? ⟨b,o,none⟩):BG w' B A l:=λhn=>by
 obtain⟨b,o,e,hb,hc⟩:=h hn;exact⟨b,o,e,hb,λi h hi=>(hc i h hi).keep hb hk⟩
def BG.at_ {w:World}{B:Nat}{A:Option Addr}{c:AD}(h:BG w B A c.Ap){i:Nat}(hi:i<c.Ap.length):∃b o,A=some ⟨b,o,none⟩/\b<B/\Kt w B b (o+i*4) (c.h i):=by
 obtain⟨b,o,e,hb,hc⟩:=h (λe=>by rw[e] at hi;simp at hi);exact⟨b,o,e,hb,hc i _ (by unfold AD.h;rw[xi hi];rfl)⟩
structure Cn (w:World)(B cb:Nat)(c:AD)(nA hA:Option Addr)(nc hc:Nat):Prop where
 lt:cb<B
 c0:w.cell? ⟨cb,0,none⟩=some (.slice nA c.Aq.length nc)
 c1:w.cell? ⟨cb,1,none⟩=some (.slice hA c.Ap.length hc)
 Aq:RI w B nA c.Aq
 CM:BG w B hA c.Ap
def Cn.keep {w w':World}{B cb:Nat}{c:AD}{nA hA:Option Addr}{nc hc:Nat}(h:Cn w B cb c nA hA nc hc)(hk:∀b o,b<B->w'.cell? ⟨b,o,none⟩=w.cell? ⟨b,o,none⟩):Cn w' B cb c nA hA nc hc :=
 ⟨h.lt,(hk _ _ h.lt).trans h.c0,(hk _ _ h.lt).trans h.c1,h.Aq.keep hk,h.CM.keep hk⟩
def Cn.gr {w w':World}{B cb:Nat}{c:AD}{nA hA:Option Addr}{nc hc:Nat}(h:Cn w B cb c nA hA nc hc)(hB:B<=w.heap.size)(hg:Gr w w'):Cn w' B cb c nA hA nc hc :=
 h.keep λ_ _ hb=>hg.cell (xl hb hB)
def DR (w:World)(B br:Nat)(r:Nat->Nat):Prop:=br<B/\∀i,i<5->w.cell? ⟨br,i,none⟩=some (.int .u8 (r i))
def DR.keep {w w':World}{B br:Nat}{r:Nat->Nat}(h:DR w B br r)(hk:∀b o,b<B->w'.cell? ⟨b,o,none⟩=w.cell? ⟨b,o,none⟩):DR w' B br r:=⟨h.1,λi hi=>(hk _ _ h.1).trans (h.2 i hi)⟩
def DR.gr {w w':World}{B br:Nat}{r:Nat->Nat}(h:DR w B br r)(hB:B<=w.heap.size)(hg:Gr w w'):DR w' B br r:=h.keep λ_ _ hb=>hg.cell (xl hb hB)
def Kt.more {w:World}{B B' b o:Nat}{h:Be}(ha:Kt w B b o h)(hB:B<=B'):Kt w B' b o h:=by
 obtain⟨h1,h2,h3,A,c,h4,h5⟩:=ha;exact⟨h1,h2,h3,A,c,h4,h5.more hB⟩
def BG.more {w:World}{B B':Nat}{A:Option Addr}{l:List Be}(h:BG w B A l)(hB:B<=B'):BG w B' A l:=λhn=>by
 obtain⟨b,o,e,hb,hc⟩:=h hn;exact⟨b,o,e,xl hb hB,λi h hi=>(hc i h hi).more hB⟩
def Cn.more {w:World}{B B' cb:Nat}{c:AD}{nA hA:Option Addr}{nc hc:Nat}(h:Cn w B cb c nA hA nc hc)(hB:B<=B'):Cn w B' cb c nA hA nc hc :=
 ⟨xl h.lt hB,h.c0,h.c1,h.Aq.more hB,h.CM.more hB⟩
def DR.more {w:World}{B B' br:Nat}{r:Nat->Nat}(h:DR w B br r)(hB:B<=B'):DR w B' br r:=⟨xl h.1 hB,h.2⟩
def Cn.on {w w':World}{cb:Nat}{c:AD}{nA hA:Option Addr}{nc hc:Nat}(h:Cn w w.heap.size cb c nA hA nc hc)(hg:Gr w w'):Cn w' w'.heap.size cb c nA hA nc hc:=(h.gr (xh _) hg).more hg.size
def DR.on {w w':World}{br:Nat}{r:Nat->Nat}(h:DR w w.heap.size br r)(hg:Gr w w'):DR w' w'.heap.size br r:=(h.gr (xh _) hg).more hg.size
def OZ {w:World}{B:Nat}{u0 u1 u2:Value}(h0:w.cell? ⟨B,0,none⟩=some u0)(h1:w.cell? ⟨B,1,none⟩=some u1)(h2:w.cell? ⟨B,2,none⟩=some u2) :
  (∀v,(w.setCell ⟨B,0,none⟩ v).cell? ⟨B,0,none⟩=some v)/\(∀u v,((w.setCell ⟨B,0,none⟩ u).setCell ⟨B,1,none⟩ v).cell? ⟨B,1,none⟩=some v) /\
   ∀u x v,(((w.setCell ⟨B,0,none⟩ u).setCell ⟨B,1,none⟩ x).setCell ⟨B,2,none⟩ v).cell? ⟨B,2,none⟩=some v:=by
 have e1:∀u,(w.setCell ⟨B,0,none⟩ u).cell? ⟨B,1,none⟩=some u1:=λu=>by rw[World.cell?_setCell_other _ _ _ _ (by simp)];exact h1
 have e2:∀u x,((w.setCell ⟨B,0,none⟩ u).setCell ⟨B,1,none⟩ x).cell? ⟨B,2,none⟩=some u2:=λu x=>by rw[World.cell?_setCell_other _ _ _ _ (by simp),World.cell?_setCell_other _ _ _ _ (by simp)];exact h2
 exact⟨λv=>World.cell?_setCell_same _ _ _ h0,λu v=>World.cell?_setCell_same _ _ _ (e1 u),λu x v=>World.cell?_setCell_same _ _ _ (e2 u x)⟩
def ao {k:IntKind}{a b:Int}(h:a=b):Ending.returned (.int k a)=.returned (.int k b):=by rw[h]
def ap {a b:Bool}(h:a=b):Ending.returned (.bool a)=.returned (.bool b):=by rw[h]
variable {P:Program}
def Bh {w:World}{ops:Array Oper}{rest:List Oper}{o:Oper}{a:Act}{Q:Exit->Act->World->Prop}(hgd:o.guard=none)(s x:Operand)(t:TypeId)
  (ho:o.op=.call { callee:=.builtin .append,args:=#[s,x],argTypes:=#[t,t] })
  (base:Nat) (e:TypeId) (i:TypeInfo) (z:Value) (size bytes:Nat) (ht:P.underlying t=some (.slice e)) (hi:P.info? e=some i) (hz:i.zero=some z)
  (hsize:i.size=size) (hby:i.bytes=bytes) (hzs:z.cells.size=size) (hsz:0<size)
  (v:Value) (n:Nat) (xs:List Value) (hs:a.eval s=v) (hown:w.ownsRow base e size v n xs)
  (ad:Addr) (m c:Nat) (news:List Value) (hx:a.eval x=.slice (some ad) m c) (hl:news.length=m*size) (hnews:∀j u,news[j]?=some u->w.cell? (ad.add j)=some u) (h1:∀u∈news,u.oneCell'=true)
  (h63:n+m<=maxLen) (hbytes:(n+m)*bytes<=140737488355328) (hbase:base<=w.heap.size)
  (h:∀v' w',w'.ownsRow base e size v' (n+m) (xs++news)->w.grownBy w' v.ownBlock->w.drawn<=w'.drawn->wpList P ops Q rest (a.put o.dst v') w'):wpList P ops Q (o::rest) a w:=by
 refine wpList_plain hgd λK hK=>?_;obtain⟨v',w',hr,h2,h3,h4⟩:=run_append_own (P:=P) w base t o.type e i z size bytes ht hi hz hsize hby hzs hsz v n xs hown ad m c news hl hnews h1 h63 hbytes hbase;have hd:=Go.AW.Cr P (Builtin.append_ #[t,t] o.type #[v,.slice (some ad) m c]) w #[];rw[Sem.runT_fst,hr] at hd;unfold Oper.wp execOp;simp only[ho,resolve,invoke,builtin,Sem.run_bind,Sem.run_pure,Result.andThen_ok,zm,zc,zk,hs,hx,hr]
 exact hK _ _ (h v' w' h2 h3 hd)
def xj:=@World.cell?_alloc_at
def xq:=@World.cell?_setCell_other
def xD:=@Below.heap_setCell
def xE:=@World.cell?_setCell_same
def xH:=@World.cell?_of_block
def xI:=@World.cell?_alloc_past
def xX:=@World.frozen?_alloc_at
def xZ:=@World.ownsRow_nil
def yg:=@World.frozen?_setCell
def yF:=@World.frozen?_alloc_past
def yP:=@Below.heap_alloc
def yV:=@World.frozen?_of_block
def zn:=@World.size_alloc
def zA:=@World.ownsRow_made
end Go.Sq

namespace Go.Proofs.Ao
open Go.RowKit Go.Sq
def tv:∀x:Fin 16,∀h:Fin 4,(bits BinOp.and IntKind.u8 ((x.val:Int) / 2 ^ h.val) 1==1)=x.val.testBit h.val:=by decide
def ji (x h:Nat)(w:World)(hx:x<16)(hh:h<4):Calls An 92 #[.int .u8 x,.int .i64 h] w λe w'=>e=.returned (.bool (x.testBit h))/\w=w':=by
 go_enter Sq.func92,Tryz.ntmps92;go_wp2;go_ret;have:=tv ⟨x,hx⟩ ⟨h,hh⟩;refine⟨?_,rfl⟩;show Ending.returned (.bool _)=_;rw[this]
def oh (x k:Nat):below x (k+1)=below x k++if x.testBit k then[(k:Int)] else[]:=by
 unfold below;rw[yZ,zw,zr];cases h:x.testBit k<;>simp[h]
def rC (x k:Nat):(below x k).length<=k:=by
 unfold below;rw[yK];exact xx (zj _ _) (by simp)
def zN:(An.info? 3).map (λi=>(i.zero,i.size,i.bytes))=some (some (.int .i64 0),1,8):=by
 rw[zJ];kernel_rfl
def fy (x:Nat)(w:World)(hx:x<16):Calls An 66 #[.int .u8 x] w λe w' =>
  ∃v,e=.returned v/\w'.ownsRow w.heap.size 3 1 v (wl x).length ((wl x).map (Value.int .i64))/\Gr w w':=by
 obtain⟨i0,hi,hz0,hz1,hz2⟩:=info_parts zN;go_enter Sq.func66,Tryz.ntmps66;go_wp2;go_loopw [3,5] (λv i wr=>∃k:Nat,k<=4/\i=.int .i64 k/\wr.ownsRow w.heap.size 3 1 v (below x k).length ((below x k).map (Value.int .i64))/\Gr w wr) (λ_ i _=>4-(intOf i).toNat)
 case atStart=>exact⟨0,by omega,rfl,xZ w _ _ _,Gr.refl w⟩
 case round =>
  obtain⟨k,hk,rfl,hown,hgr⟩:=hrel;have hle:=rC x k;have hs:=oh x k;by_cases hlt:k<4
  .have hw:=hgr.size;cases hb:x.testBit k with
   |true =>
    have HS:Hid (below x (k+1)=below x k++[(k:Int)]):=by rw[hs,hb];rfl
    have hc:Calls An 92 #[.int .u8 x,.int .i64 k] wr λe w'=>e=.returned (.bool true)/\wr=w':=by rw[<-hb];exact ji x k wr hx hlt
    clear hs hb;go_wp2_with (first|(go_at_call 92;refine hc.mono ?_;rintro e w' ⟨rfl,rfl⟩)|(at_builtin;refine Bh rfl _ _ 22 rfl w.heap.size 3 i0 (.int .i64 0) 1 8 Sq.underlying22 hi hz0 hz1 hz2 rfl (by decide) _ _ _ rfl (hown.alloc _) ⟨wr.heap.size,0,none⟩ 1 1 [.int .i64 k] rfl rfl ?c1 ?c2 ?c3 ?c4 ?c5 ?_))
    case c1 =>
     intro j u hj
     match j,hj with
     |0,hj=>simp at hj;subst hj;simp[Addr.add]
    case c2=>intro u hu;simp at hu;subst hu;rfl
    case c3=>unfold maxLen;omega
    case c4=>omega
    case c5=>simp;omega
    intro v' w1 hown' hgrow hd;have R:w1.ownsRow w.heap.size 3 1 v' (below x (k+1)).length ((below x (k+1)).map (Value.int .i64))/\Gr w w1 :=
     ⟨by rw[HS.out];simpa using hown',(hgr.alloc _).grown hgrow hd λj hj=>(hown.lt j hj).1⟩
    clear hown' hgrow hown hgr HS hd;go_wp2;go_roundw
    case rel=>exact⟨k+1,by omega,by go_num,R.1,R.2⟩
    case measure=>simp[intOf];omega
   |false =>
    have HS:=xf (show below x (k+1)=below x k by rw[hs,hb];simp);have hc:Calls An 92 #[.int .u8 x,.int .i64 k] wr λe w'=>e=.returned (.bool false)/\wr=w':=by rw[<-hb];exact ji x k wr hx hlt
    clear hs hb;go_wp2_with (go_at_call 92;refine hc.mono ?_;rintro e w' ⟨rfl,rfl⟩);go_roundw
    case rel=>exact⟨k+1,by omega,by go_num,by rw[HS.out];exact hown,hgr⟩
    case measure=>simp[intOf];omega
  .have:k=4:=by omega
   subst this;go_wp2;go_ret;exact⟨_,rfl,hown,hgr⟩
end Go.Proofs.Ao
