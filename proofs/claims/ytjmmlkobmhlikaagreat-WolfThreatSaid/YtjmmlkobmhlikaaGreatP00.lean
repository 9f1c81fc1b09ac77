/- Parts of the proof. -/
import Derived.Test.YtjmmlkobmhlikaaGreatChecked
import Derived.WalkKit
import Derived.WalkSpells
import Derived.WalkLawsBesides
import Derived.StepT
import Derived.RunT
import Derived.Runnable
set_option linter.all false
namespace Go.Proofs.YtjmmlkobmhlikaaGreat
open Go.RowKit
def fC {p q:Program}(h:p.toTables=q.toTables)(t:TypeId)(w:World):Sem.run p (typeInfo t) w=Sem.run q (typeInfo t) w:=by
 simp only[typeInfo,Sem.run_bind,run_program,Result.andThen,h]
 cases Tables.info? q.toTables t<;>rfl
def jo {p q:Program}(h:p.toTables=q.toTables)(t:TypeId):p.underlying t=q.underlying t:=by simp only[Program.underlying,h]
def lR {p q:Program}(h:p.toTables=q.toTables)(t:TypeId)(w:World):Sem.run p (underlying t) w=Sem.run q (underlying t) w:=by
 simp only[underlying,Sem.run_bind,run_program,Result.andThen,jo h]
 cases q.underlying t<;>rfl
def nR {p q:Program}(h:p.toTables=q.toTables)(t:TypeId)(w:World):Sem.run p (isAgg t) w=Sem.run q (isAgg t) w:=by
 unfold isAgg
 rw[Sem.run_bind,Sem.run_bind,lR h t w]
 generalize (underlying t).run q w=r
 cases r with
 |ok d w1=>cases d<;>simp only[Result.andThen,Sem.run_pure]
 |halt _ _=>simp only[Result.andThen]
def mw {p q:Program}(h:p.toTables=q.toTables)(t:TypeId)(w:World):Sem.run p (Go.sizeOf t) w=Sem.run q (Go.sizeOf t) w:=by
 unfold Go.sizeOf
 rw[Sem.run_bind,Sem.run_bind,fC h t w]
 generalize (Go.typeInfo t).run q w=r
 cases r with
 |ok d w1=>simp only[Result.andThen,Sem.run_pure]
 |halt _ _=>simp only[Result.andThen]
def jM {p q:Program}(h:p.toTables=q.toTables)(t:TypeId)(w:World):Sem.run p (zeroValue t) w=Sem.run q (zeroValue t) w:=by
 unfold zeroValue
 rw[Sem.run_bind,Sem.run_bind,fC h t w]
 generalize (Go.typeInfo t).run q w=r
 cases r with
 |ok i w1 =>
  simp only[Result.andThen]
  cases i.zero with
  |some v2=>simp only[Sem.run_pure]
  |none=>simp[unsupported]
 |halt _ _=>simp only[Result.andThen]
def sqPut (i:FuncId):Bool:=i==39||i==67||i==68||i==69||i==70||i==3
noncomputable def casBody (x y:Int):Code:=.seq (.region 0 #[{ dst:=some 2,op:=.fieldAddr 113 (.tmp 0) 1,type:=0,pos := "",after:=#[],guard:=none },{ dst:=some 1,op:=.call { callee:=.value (.func 126),args:=#[.tmp 2,.const (.int .i32 x),.const (.int .i32 y)],argTypes:=#[199,21,21] },type:=4,pos := "",after:=#[{ on:=0,ground:=.data }],guard:=none }] false)
 (.cond (.tmp 1) .ret (.refuse "held"))
noncomputable def sqFn (i:FuncId)(f:Func):Func:=if i==13||sqPut i then { f with body:=some (.refuse "put aside") } else if i==73 then { f with body:=some (casBody 0 1) } else if i==74 then { f with body:=some (casBody 1 0) } else f
def mapFn (p:Program)(g:Nat->Func->Func):Program:=⟨p.toTables,p.funcs.mapIdx g⟩
def nS (p:Program)(g:Nat->Func->Func)(i:Nat):(mapFn p g).funcs[i]?=(p.funcs[i]?).map (g i):=by
 show(p.funcs.mapIdx g)[i]?=_
 rw[Array.getElem?_mapIdx]
def nT (p:Program)(g:Nat->Func->Func):(mapFn p g).toTables=p.toTables:=rfl
def jN {p:Program}{g:Nat->Func->Func}{n:Nat}(h:p.globals.size=n):(mapFn p g).globals.size=n:=h
noncomputable def uZ:Program:=mapFn Tryz.prog sqFn
def Sq.get (i:Nat):uZ.funcs[i]?=(Tryz.prog.funcs[i]?).map (sqFn i):=by rw[uZ];exact nS _ _ _
def Sq.fn {i:Nat}{f:Func}(h:Tryz.prog.funcs[i]?=some f)(hi:(i==13||sqPut i||i==73||i==74)=false):uZ.funcs[i]?=some f:=by
 rw[Sq.get,h]
 simp only[Bool.or_eq_false_iff] at hi
 simp only[Option.map_some,sqFn,hi.1.1.1,hi.1.1.2,hi.1.2,hi.2,Bool.or_self,Bool.false_eq_true,if_false]
def Sq.put {i:Nat}{f:Func}(h:Tryz.prog.funcs[i]?=some f)(hi:(i != 13&&sqPut i)=true):uZ.funcs[i]?=some { f with body:=some (.refuse "put aside") }:=by
 rw[Sq.get,h]
 simp only[Bool.and_eq_true,bne_iff_ne,ne_eq] at hi
 have h9:(i==13)=false:=by simpa using hi.1
 simp only[Option.map_some,sqFn,h9,hi.2,Bool.or_true,if_true]
def uQ:uZ.funcs[13]?=some { Tryz.f13 with body:=some (.refuse "put aside") }:=by
 rw[Sq.get,Tryz.func13];rfl
noncomputable def uF:Func:={ Tryz.f73 with body:=some (casBody 0 1) }
noncomputable def uC:Func:={ Tryz.f74 with body:=some (casBody 1 0) }
def Sq.f73:uZ.funcs[73]?=some uF:=by
 rw[Sq.get,Tryz.func73];rfl
def Sq.f74:uZ.funcs[74]?=some uC:=by
 rw[Sq.get,Tryz.func74];rfl
def uG:uF.ntmps=6:=rfl
def uE:uC.ntmps=6:=rfl
def ur:uZ.toTables=Tryz.prog.toTables:=by rw[uZ];exact nT _ _
@[go_sem] theorem Sq.run (t:TypeId)(w:World):Sem.run uZ (underlying t) w=Sem.run Tryz.prog (underlying t) w:=lR ur t w
@[go_sem] theorem ul (t:TypeId)(w:World):Sem.run uZ (isAgg t) w=Sem.run Tryz.prog (isAgg t) w:=nR ur t w
@[go_sem] theorem Sq.sizeOf (t:TypeId)(w:World):Sem.run uZ (Go.sizeOf t) w=Sem.run Tryz.prog (Go.sizeOf t) w:=mw ur t w
@[go_sem] theorem Sq.zeroValue (t:TypeId)(w:World):Sem.run uZ (Go.zeroValue t) w=Sem.run Tryz.prog (Go.zeroValue t) w:=jM ur t w
@[go_sem] theorem Sq.underlying (t:TypeId):uZ.underlying t=Tryz.prog.underlying t:=jo ur t
@[go_sem] theorem Sq.globals_size:uZ.globals.size=0:=(by rw[uZ];exact jN Tryz.globals_size)
def ah {P:Program} {i:Nat} {f:Func} (h:P.funcs[i]?=some f) (hn:(f.name == "runtime.NumGoroutine")=false) (hb:f.body.isSome=true) (args:Array Value) (w:World):Sem.run P (callFunc i args) w=.ok (.enter i args) w:=by
 have hn':¬f.name = "runtime.NumGoroutine":=by simpa using hn
 have hb':f.body≠none:=Option.isSome_iff_ne_none.1 hb
 simp[callFunc,h,hn',hb']
def Sq.func5:uZ.funcs[5]?=some Tryz.f5:=Sq.fn Tryz.func5 rfl
@[go_sem] theorem Sq.call5 (args:Array Value)(w:World):Sem.run uZ (callFunc 5 args) w=.ok (.enter 5 args) w:=ah Sq.func5 (by decide +kernel) rfl args w
def Sq.func4:uZ.funcs[4]?=some Tryz.f4:=Sq.fn Tryz.func4 rfl
@[go_sem] theorem Sq.call4 (args:Array Value)(w:World):Sem.run uZ (callFunc 4 args) w=.ok (.enter 4 args) w:=ah Sq.func4 (by decide +kernel) rfl args w
def Sq.func29:uZ.funcs[29]?=some Tryz.f29:=Sq.fn Tryz.func29 rfl
@[go_sem] theorem Sq.call29 (args:Array Value)(w:World):Sem.run uZ (callFunc 29 args) w=.ok (.enter 29 args) w:=ah Sq.func29 (by decide +kernel) rfl args w
def Sq.func7:uZ.funcs[7]?=some Tryz.f7:=Sq.fn Tryz.func7 rfl
@[go_sem] theorem Sq.call7 (args:Array Value)(w:World):Sem.run uZ (callFunc 7 args) w=.ok (.enter 7 args) w:=ah Sq.func7 (by decide +kernel) rfl args w
def Sq.func25:uZ.funcs[25]?=some Tryz.f25:=Sq.fn Tryz.func25 rfl
@[go_sem] theorem Sq.call25 (args:Array Value)(w:World):Sem.run uZ (callFunc 25 args) w=.ok (.enter 25 args) w:=ah Sq.func25 (by decide +kernel) rfl args w
def Sq.func26:uZ.funcs[26]?=some Tryz.f26:=Sq.fn Tryz.func26 rfl
@[go_sem] theorem Sq.call26 (args:Array Value)(w:World):Sem.run uZ (callFunc 26 args) w=.ok (.enter 26 args) w:=ah Sq.func26 (by decide +kernel) rfl args w
def Sq.func30:uZ.funcs[30]?=some Tryz.f30:=Sq.fn Tryz.func30 rfl
@[go_sem] theorem Sq.call30 (args:Array Value)(w:World):Sem.run uZ (callFunc 30 args) w=.ok (.enter 30 args) w:=ah Sq.func30 (by decide +kernel) rfl args w
def Sq.func63:uZ.funcs[63]?=some Tryz.f63:=Sq.fn Tryz.func63 rfl
@[go_sem] theorem Sq.call63 (args:Array Value)(w:World):Sem.run uZ (callFunc 63 args) w=.ok (.enter 63 args) w:=ah Sq.func63 (by decide +kernel) rfl args w
def Sq.func6:uZ.funcs[6]?=some Tryz.f6:=Sq.fn Tryz.func6 rfl
@[go_sem] theorem Sq.call6 (args:Array Value)(w:World):Sem.run uZ (callFunc 6 args) w=.ok (.enter 6 args) w:=ah Sq.func6 (by decide +kernel) rfl args w
def Sq.func12:uZ.funcs[12]?=some Tryz.f12:=Sq.fn Tryz.func12 rfl
@[go_sem] theorem Sq.call12 (args:Array Value)(w:World):Sem.run uZ (callFunc 12 args) w=.ok (.enter 12 args) w:=ah Sq.func12 (by decide +kernel) rfl args w
def Sq.func23:uZ.funcs[23]?=some Tryz.f23:=Sq.fn Tryz.func23 rfl
@[go_sem] theorem Sq.call23 (args:Array Value)(w:World):Sem.run uZ (callFunc 23 args) w=.ok (.enter 23 args) w:=ah Sq.func23 (by decide +kernel) rfl args w
def Sq.func27:uZ.funcs[27]?=some Tryz.f27:=Sq.fn Tryz.func27 rfl
@[go_sem] theorem Sq.call27 (args:Array Value)(w:World):Sem.run uZ (callFunc 27 args) w=.ok (.enter 27 args) w:=ah Sq.func27 (by decide +kernel) rfl args w
def Sq.func28:uZ.funcs[28]?=some Tryz.f28:=Sq.fn Tryz.func28 rfl
@[go_sem] theorem Sq.call28 (args:Array Value)(w:World):Sem.run uZ (callFunc 28 args) w=.ok (.enter 28 args) w:=ah Sq.func28 (by decide +kernel) rfl args w
def Sq.func8:uZ.funcs[8]?=some Tryz.f8:=Sq.fn Tryz.func8 rfl
@[go_sem] theorem Sq.call8 (args:Array Value)(w:World):Sem.run uZ (callFunc 8 args) w=.ok (.enter 8 args) w:=ah Sq.func8 (by decide +kernel) rfl args w
def Sq.func9:uZ.funcs[9]?=some Tryz.f9:=Sq.fn Tryz.func9 rfl
@[go_sem] theorem Sq.call9 (args:Array Value)(w:World):Sem.run uZ (callFunc 9 args) w=.ok (.enter 9 args) w:=ah Sq.func9 (by decide +kernel) rfl args w
def Sq.func14:uZ.funcs[14]?=some Tryz.f14:=Sq.fn Tryz.func14 rfl
@[go_sem] theorem Sq.call14 (args:Array Value)(w:World):Sem.run uZ (callFunc 14 args) w=.ok (.enter 14 args) w:=ah Sq.func14 (by decide +kernel) rfl args w
def Sq.func31:uZ.funcs[31]?=some Tryz.f31:=Sq.fn Tryz.func31 rfl
@[go_sem] theorem Sq.call31 (args:Array Value)(w:World):Sem.run uZ (callFunc 31 args) w=.ok (.enter 31 args) w:=ah Sq.func31 (by decide +kernel) rfl args w
def Sq.func40:uZ.funcs[40]?=some Tryz.f40:=Sq.fn Tryz.func40 rfl
def Sq.func41:uZ.funcs[41]?=some Tryz.f41:=Sq.fn Tryz.func41 rfl
@[go_sem] theorem Sq.call41 (args:Array Value)(w:World):Sem.run uZ (callFunc 41 args) w=.ok (.enter 41 args) w:=ah Sq.func41 (by decide +kernel) rfl args w
def Sq.func42:uZ.funcs[42]?=some Tryz.f42:=Sq.fn Tryz.func42 rfl
def Sq.func46:uZ.funcs[46]?=some Tryz.f46:=Sq.fn Tryz.func46 rfl
@[go_sem] theorem Sq.call46 (args:Array Value)(w:World):Sem.run uZ (callFunc 46 args) w=.ok (.enter 46 args) w:=ah Sq.func46 (by decide +kernel) rfl args w
def Sq.func48:uZ.funcs[48]?=some Tryz.f48:=Sq.fn Tryz.func48 rfl
def Sq.func49:uZ.funcs[49]?=some Tryz.f49:=Sq.fn Tryz.func49 rfl
@[go_sem] theorem Sq.call49 (args:Array Value)(w:World):Sem.run uZ (callFunc 49 args) w=.ok (.enter 49 args) w:=ah Sq.func49 (by decide +kernel) rfl args w
def Sq.func50:uZ.funcs[50]?=some Tryz.f50:=Sq.fn Tryz.func50 rfl
@[go_sem] theorem Sq.call50 (args:Array Value)(w:World):Sem.run uZ (callFunc 50 args) w=.ok (.enter 50 args) w:=ah Sq.func50 (by decide +kernel) rfl args w
def Sq.func16:uZ.funcs[16]?=some Tryz.f16:=Sq.fn Tryz.func16 rfl
@[go_sem] theorem Sq.call16 (args:Array Value)(w:World):Sem.run uZ (callFunc 16 args) w=.ok (.enter 16 args) w:=ah Sq.func16 (by decide +kernel) rfl args w
def Sq.func17:uZ.funcs[17]?=some Tryz.f17:=Sq.fn Tryz.func17 rfl
@[go_sem] theorem Sq.call17 (args:Array Value)(w:World):Sem.run uZ (callFunc 17 args) w=.ok (.enter 17 args) w:=ah Sq.func17 (by decide +kernel) rfl args w
def Sq.func19:uZ.funcs[19]?=some Tryz.f19:=Sq.fn Tryz.func19 rfl
@[go_sem] theorem Sq.call19 (args:Array Value)(w:World):Sem.run uZ (callFunc 19 args) w=.ok (.enter 19 args) w:=ah Sq.func19 (by decide +kernel) rfl args w
def Sq.func51:uZ.funcs[51]?=some Tryz.f51:=Sq.fn Tryz.func51 rfl
@[go_sem] theorem Sq.call51 (args:Array Value)(w:World):Sem.run uZ (callFunc 51 args) w=.ok (.enter 51 args) w:=ah Sq.func51 (by decide +kernel) rfl args w
def Sq.func52:uZ.funcs[52]?=some Tryz.f52:=Sq.fn Tryz.func52 rfl
@[go_sem] theorem Sq.call52 (args:Array Value)(w:World):Sem.run uZ (callFunc 52 args) w=.ok (.enter 52 args) w:=ah Sq.func52 (by decide +kernel) rfl args w
def Sq.func53:uZ.funcs[53]?=some Tryz.f53:=Sq.fn Tryz.func53 rfl
@[go_sem] theorem Sq.call53 (args:Array Value)(w:World):Sem.run uZ (callFunc 53 args) w=.ok (.enter 53 args) w:=ah Sq.func53 (by decide +kernel) rfl args w
def Sq.func54:uZ.funcs[54]?=some Tryz.f54:=Sq.fn Tryz.func54 rfl
@[go_sem] theorem Sq.call54 (args:Array Value)(w:World):Sem.run uZ (callFunc 54 args) w=.ok (.enter 54 args) w:=ah Sq.func54 (by decide +kernel) rfl args w
def Sq.func55:uZ.funcs[55]?=some Tryz.f55:=Sq.fn Tryz.func55 rfl
@[go_sem] theorem Sq.call55 (args:Array Value)(w:World):Sem.run uZ (callFunc 55 args) w=.ok (.enter 55 args) w:=ah Sq.func55 (by decide +kernel) rfl args w
def Sq.func56:uZ.funcs[56]?=some Tryz.f56:=Sq.fn Tryz.func56 rfl
@[go_sem] theorem Sq.call56 (args:Array Value)(w:World):Sem.run uZ (callFunc 56 args) w=.ok (.enter 56 args) w:=ah Sq.func56 (by decide +kernel) rfl args w
def Sq.func57:uZ.funcs[57]?=some Tryz.f57:=Sq.fn Tryz.func57 rfl
@[go_sem] theorem Sq.call57 (args:Array Value)(w:World):Sem.run uZ (callFunc 57 args) w=.ok (.enter 57 args) w:=ah Sq.func57 (by decide +kernel) rfl args w
def Sq.func58:uZ.funcs[58]?=some Tryz.f58:=Sq.fn Tryz.func58 rfl
@[go_sem] theorem Sq.call58 (args:Array Value)(w:World):Sem.run uZ (callFunc 58 args) w=.ok (.enter 58 args) w:=ah Sq.func58 (by decide +kernel) rfl args w
def Sq.func59:uZ.funcs[59]?=some Tryz.f59:=Sq.fn Tryz.func59 rfl
@[go_sem] theorem Sq.call59 (args:Array Value)(w:World):Sem.run uZ (callFunc 59 args) w=.ok (.enter 59 args) w:=ah Sq.func59 (by decide +kernel) rfl args w
def Sq.func60:uZ.funcs[60]?=some Tryz.f60:=Sq.fn Tryz.func60 rfl
@[go_sem] theorem Sq.call60 (args:Array Value)(w:World):Sem.run uZ (callFunc 60 args) w=.ok (.enter 60 args) w:=ah Sq.func60 (by decide +kernel) rfl args w
def Sq.func61:uZ.funcs[61]?=some Tryz.f61:=Sq.fn Tryz.func61 rfl
@[go_sem] theorem Sq.call61 (args:Array Value)(w:World):Sem.run uZ (callFunc 61 args) w=.ok (.enter 61 args) w:=ah Sq.func61 (by decide +kernel) rfl args w
def Sq.func66:uZ.funcs[66]?=some Tryz.f66:=Sq.fn Tryz.func66 rfl
@[go_sem] theorem Sq.call66 (args:Array Value)(w:World):Sem.run uZ (callFunc 66 args) w=.ok (.enter 66 args) w:=ah Sq.func66 (by decide +kernel) rfl args w
def Sq.func18:uZ.funcs[18]?=some Tryz.f18:=Sq.fn Tryz.func18 rfl
@[go_sem] theorem Sq.call18 (args:Array Value)(w:World):Sem.run uZ (callFunc 18 args) w=.ok (.enter 18 args) w:=ah Sq.func18 (by decide +kernel) rfl args w
def Sq.func32:uZ.funcs[32]?=some Tryz.f32:=Sq.fn Tryz.func32 rfl
@[go_sem] theorem Sq.call32 (args:Array Value)(w:World):Sem.run uZ (callFunc 32 args) w=.ok (.enter 32 args) w:=ah Sq.func32 (by decide +kernel) rfl args w
def Sq.func15:uZ.funcs[15]?=some Tryz.f15:=Sq.fn Tryz.func15 rfl
@[go_sem] theorem Sq.call15 (args:Array Value)(w:World):Sem.run uZ (callFunc 15 args) w=.ok (.enter 15 args) w:=ah Sq.func15 (by decide +kernel) rfl args w
def Sq.func62:uZ.funcs[62]?=some Tryz.f62:=Sq.fn Tryz.func62 rfl
@[go_sem] theorem Sq.call62 (args:Array Value)(w:World):Sem.run uZ (callFunc 62 args) w=.ok (.enter 62 args) w:=ah Sq.func62 (by decide +kernel) rfl args w
def Sq.func71:uZ.funcs[71]?=some Tryz.f71:=Sq.fn Tryz.func71 rfl
def Sq.func72:uZ.funcs[72]?=some Tryz.f72:=Sq.fn Tryz.func72 rfl
def Sq.func64:uZ.funcs[64]?=some Tryz.f64:=Sq.fn Tryz.func64 rfl
@[go_sem] theorem Sq.call64 (args:Array Value)(w:World):Sem.run uZ (callFunc 64 args) w=.ok (.enter 64 args) w:=ah Sq.func64 (by decide +kernel) rfl args w
def Sq.func73:uZ.funcs[73]?=some uF:=Sq.f73
@[go_sem] theorem Sq.call73 (args:Array Value)(w:World):Sem.run uZ (callFunc 73 args) w=.ok (.enter 73 args) w:=ah Sq.func73 (by decide +kernel) rfl args w
def Sq.func74:uZ.funcs[74]?=some uC:=Sq.f74
@[go_sem] theorem Sq.call74 (args:Array Value)(w:World):Sem.run uZ (callFunc 74 args) w=.ok (.enter 74 args) w:=ah Sq.func74 (by decide +kernel) rfl args w
def Sq.func33:uZ.funcs[33]?=some Tryz.f33:=Sq.fn Tryz.func33 rfl
@[go_sem] theorem Sq.call33 (args:Array Value)(w:World):Sem.run uZ (callFunc 33 args) w=.ok (.enter 33 args) w:=ah Sq.func33 (by decide +kernel) rfl args w
def Sq.func75:uZ.funcs[75]?=some Tryz.f75:=Sq.fn Tryz.func75 rfl
@[go_sem] theorem Sq.call75 (args:Array Value)(w:World):Sem.run uZ (callFunc 75 args) w=.ok (.enter 75 args) w:=ah Sq.func75 (by decide +kernel) rfl args w
def Sq.func76:uZ.funcs[76]?=some Tryz.f76:=Sq.fn Tryz.func76 rfl
def Sq.func77:uZ.funcs[77]?=some Tryz.f77:=Sq.fn Tryz.func77 rfl
def Sq.func78:uZ.funcs[78]?=some Tryz.f78:=Sq.fn Tryz.func78 rfl
@[go_sem] theorem Sq.call78 (args:Array Value)(w:World):Sem.run uZ (callFunc 78 args) w=.ok (.enter 78 args) w:=ah Sq.func78 (by decide +kernel) rfl args w
def Sq.func79:uZ.funcs[79]?=some Tryz.f79:=Sq.fn Tryz.func79 rfl
@[go_sem] theorem uR (args:Array Value)(w:World):Sem.run uZ (callFunc 79 args) w=.ok (.enter 79 args) w:=ah Sq.func79 (by decide +kernel) rfl args w
def Sq.func80:uZ.funcs[80]?=some Tryz.f80:=Sq.fn Tryz.func80 rfl
@[go_sem] theorem Sq.call80 (args:Array Value)(w:World):Sem.run uZ (callFunc 80 args) w=.ok (.enter 80 args) w:=ah Sq.func80 (by decide +kernel) rfl args w
def Sq.func81:uZ.funcs[81]?=some Tryz.f81:=Sq.fn Tryz.func81 rfl
@[go_sem] theorem Sq.call81 (args:Array Value)(w:World):Sem.run uZ (callFunc 81 args) w=.ok (.enter 81 args) w:=ah Sq.func81 (by decide +kernel) rfl args w
def Sq.func82:uZ.funcs[82]?=some Tryz.f82:=Sq.fn Tryz.func82 rfl
@[go_sem] theorem Sq.call82 (args:Array Value)(w:World):Sem.run uZ (callFunc 82 args) w=.ok (.enter 82 args) w:=ah Sq.func82 (by decide +kernel) rfl args w
def Sq.func83:uZ.funcs[83]?=some Tryz.f83:=Sq.fn Tryz.func83 rfl
@[go_sem] theorem Sq.call83 (args:Array Value)(w:World):Sem.run uZ (callFunc 83 args) w=.ok (.enter 83 args) w:=ah Sq.func83 (by decide +kernel) rfl args w
def Sq.func85:uZ.funcs[85]?=some Tryz.f85:=Sq.fn Tryz.func85 rfl
@[go_sem] theorem Sq.call85 (args:Array Value)(w:World):Sem.run uZ (callFunc 85 args) w=.ok (.enter 85 args) w:=ah Sq.func85 (by decide +kernel) rfl args w
def Sq.func86:uZ.funcs[86]?=some Tryz.f86:=Sq.fn Tryz.func86 rfl
@[go_sem] theorem Sq.call86 (args:Array Value)(w:World):Sem.run uZ (callFunc 86 args) w=.ok (.enter 86 args) w:=ah Sq.func86 (by decide +kernel) rfl args w
def Sq.func87:uZ.funcs[87]?=some Tryz.f87:=Sq.fn Tryz.func87 rfl
@[go_sem] theorem Sq.call87 (args:Array Value)(w:World):Sem.run uZ (callFunc 87 args) w=.ok (.enter 87 args) w:=ah Sq.func87 (by decide +kernel) rfl args w
def Sq.func35:uZ.funcs[35]?=some Tryz.f35:=Sq.fn Tryz.func35 rfl
@[go_sem] theorem Sq.call35 (args:Array Value)(w:World):Sem.run uZ (callFunc 35 args) w=.ok (.enter 35 args) w:=ah Sq.func35 (by decide +kernel) rfl args w
def Sq.func21:uZ.funcs[21]?=some Tryz.f21:=Sq.fn Tryz.func21 rfl
@[go_sem] theorem Sq.call21 (args:Array Value)(w:World):Sem.run uZ (callFunc 21 args) w=.ok (.enter 21 args) w:=ah Sq.func21 (by decide +kernel) rfl args w
def Sq.func20:uZ.funcs[20]?=some Tryz.f20:=Sq.fn Tryz.func20 rfl
@[go_sem] theorem Sq.call20 (args:Array Value)(w:World):Sem.run uZ (callFunc 20 args) w=.ok (.enter 20 args) w:=ah Sq.func20 (by decide +kernel) rfl args w
def Sq.func84:uZ.funcs[84]?=some Tryz.f84:=Sq.fn Tryz.func84 rfl
@[go_sem] theorem Sq.call84 (args:Array Value)(w:World):Sem.run uZ (callFunc 84 args) w=.ok (.enter 84 args) w:=ah Sq.func84 (by decide +kernel) rfl args w
def Sq.func108:uZ.funcs[108]?=some Tryz.f108:=Sq.fn Tryz.func108 rfl
def Sq.func109:uZ.funcs[109]?=some Tryz.f109:=Sq.fn Tryz.func109 rfl
def Sq.func110:uZ.funcs[110]?=some Tryz.f110:=Sq.fn Tryz.func110 rfl
def Sq.func111:uZ.funcs[111]?=some Tryz.f111:=Sq.fn Tryz.func111 rfl
def Sq.func112:uZ.funcs[112]?=some Tryz.f112:=Sq.fn Tryz.func112 rfl
def Sq.func113:uZ.funcs[113]?=some Tryz.f113:=Sq.fn Tryz.func113 rfl
def Sq.func114:uZ.funcs[114]?=some Tryz.f114:=Sq.fn Tryz.func114 rfl
def Sq.func115:uZ.funcs[115]?=some Tryz.f115:=Sq.fn Tryz.func115 rfl
def Sq.func116:uZ.funcs[116]?=some Tryz.f116:=Sq.fn Tryz.func116 rfl
def Sq.func117:uZ.funcs[117]?=some Tryz.f117:=Sq.fn Tryz.func117 rfl
def Sq.func118:uZ.funcs[118]?=some Tryz.f118:=Sq.fn Tryz.func118 rfl
def Sq.func119:uZ.funcs[119]?=some Tryz.f119:=Sq.fn Tryz.func119 rfl
def Sq.func120:uZ.funcs[120]?=some Tryz.f120:=Sq.fn Tryz.func120 rfl
@[go_sem] theorem Sq.call120 (args:Array Value)(w:World):Sem.run uZ (callFunc 120 args) w=.ok (.enter 120 args) w:=ah Sq.func120 (by decide +kernel) rfl args w
def Sq.func37:uZ.funcs[37]?=some Tryz.f37:=Sq.fn Tryz.func37 rfl
@[go_sem] theorem Sq.call37 (args:Array Value)(w:World):Sem.run uZ (callFunc 37 args) w=.ok (.enter 37 args) w:=ah Sq.func37 (by decide +kernel) rfl args w
def Sq.func38:uZ.funcs[38]?=some Tryz.f38:=Sq.fn Tryz.func38 rfl
@[go_sem] theorem Sq.call38 (args:Array Value)(w:World):Sem.run uZ (callFunc 38 args) w=.ok (.enter 38 args) w:=ah Sq.func38 (by decide +kernel) rfl args w
def Sq.func34:uZ.funcs[34]?=some Tryz.f34:=Sq.fn Tryz.func34 rfl
@[go_sem] theorem Sq.call34 (args:Array Value)(w:World):Sem.run uZ (callFunc 34 args) w=.ok (.enter 34 args) w:=ah Sq.func34 (by decide +kernel) rfl args w
def Sq.func36:uZ.funcs[36]?=some Tryz.f36:=Sq.fn Tryz.func36 rfl
@[go_sem] theorem Sq.call36 (args:Array Value)(w:World):Sem.run uZ (callFunc 36 args) w=.ok (.enter 36 args) w:=ah Sq.func36 (by decide +kernel) rfl args w
def Sq.func126:uZ.funcs[126]?=some Tryz.f126:=Sq.fn Tryz.func126 rfl
def Sq.func130:uZ.funcs[130]?=some Tryz.f130:=Sq.fn Tryz.func130 rfl
def Sq.func131:uZ.funcs[131]?=some Tryz.f131:=Sq.fn Tryz.func131 rfl
def Sq.func132:uZ.funcs[132]?=some Tryz.f132:=Sq.fn Tryz.func132 rfl
def Sq.func133:uZ.funcs[133]?=some Tryz.f133:=Sq.fn Tryz.func133 rfl
def Sq.func134:uZ.funcs[134]?=some Tryz.f134:=Sq.fn Tryz.func134 rfl
def Sq.func135:uZ.funcs[135]?=some Tryz.f135:=Sq.fn Tryz.func135 rfl
def Sq.func136:uZ.funcs[136]?=some Tryz.f136:=Sq.fn Tryz.func136 rfl
def Sq.func137:uZ.funcs[137]?=some Tryz.f137:=Sq.fn Tryz.func137 rfl
def Sq.func138:uZ.funcs[138]?=some Tryz.f138:=Sq.fn Tryz.func138 rfl
def Sq.func139:uZ.funcs[139]?=some Tryz.f139:=Sq.fn Tryz.func139 rfl
def Sq.func140:uZ.funcs[140]?=some Tryz.f140:=Sq.fn Tryz.func140 rfl
def Sq.func141:uZ.funcs[141]?=some Tryz.f141:=Sq.fn Tryz.func141 rfl
def Sq.func142:uZ.funcs[142]?=some Tryz.f142:=Sq.fn Tryz.func142 rfl
def Sq.func65:uZ.funcs[65]?=some Tryz.f65:=Sq.fn Tryz.func65 rfl
@[go_sem] theorem Sq.call65 (args:Array Value)(w:World):Sem.run uZ (callFunc 65 args) w=.ok (.enter 65 args) w:=ah Sq.func65 (by decide +kernel) rfl args w
def Sq.func150:uZ.funcs[150]?=some Tryz.f150:=Sq.fn Tryz.func150 rfl
def Sq.func151:uZ.funcs[151]?=some Tryz.f151:=Sq.fn Tryz.func151 rfl
def Sq.func152:uZ.funcs[152]?=some Tryz.f152:=Sq.fn Tryz.func152 rfl
def Sq.func153:uZ.funcs[153]?=some Tryz.f153:=Sq.fn Tryz.func153 rfl
def Sq.func154:uZ.funcs[154]?=some Tryz.f154:=Sq.fn Tryz.func154 rfl
def Sq.underlying22:uZ.underlying 22=some (.slice 3):=(Sq.underlying 22).trans Tryz.underlying22
def Sq.underlying29:uZ.underlying 29=some (.slice 22):=(Sq.underlying 29).trans Tryz.underlying29
def Sq.underlying25:uZ.underlying 25=some (.slice 53):=(Sq.underlying 25).trans Tryz.underlying25
def Sq.underlying136:uZ.underlying 136=some (.slice 58):=(Sq.underlying 136).trans Tryz.underlying136
def Sq.func11:uZ.funcs[11]?=some Tryz.f11:=Sq.fn Tryz.func11 rfl
@[go_sem] theorem Sq.call11 (args:Array Value)(w:World):Sem.run uZ (callFunc 11 args) w=.ok (.enter 11 args) w:=ah Sq.func11 (by decide +kernel) rfl args w
def Sq.func10:uZ.funcs[10]?=some Tryz.f10:=Sq.fn Tryz.func10 rfl
@[go_sem] theorem Sq.call10 (args:Array Value)(w:World):Sem.run uZ (callFunc 10 args) w=.ok (.enter 10 args) w:=ah Sq.func10 (by decide +kernel) rfl args w
end Go.Proofs.YtjmmlkobmhlikaaGreat
namespace Go.Iso
structure Two where
 a:Program
 fs:Array Func
def Two.b (P:Two):Program:={ P.a with funcs:=P.fs }
def Two.underlying (P:Two)(t:TypeId):P.b.underlying t=P.a.underlying t:=rfl
def uX (P:Two)(t:TypeId):P.b.info? t=P.a.info? t:=rfl
abbrev Bij:=Nat->Nat->Prop
structure Bij.Fine (G:Nat)(β:Bij):Prop where
 fn:∀ {b B B'},β b B->β b B'->B=B'
 inj:∀ {b b' B},β b B->β b' B->b=b'
 lo:∀ {b B},β b B->G<=b/\G<=B
def Bij.le (β β':Bij):Prop:=∀b B,β b B->β' b B
def Bij.le_refl (β:Bij):β.le β:=λ_ _ h=>h
def Bij.le_trans {a b c:Bij}(h:a.le b)(h':b.le c):a.le c:=λ_ _ x=>h' _ _ (h _ _ x)
structure Hid where
 at_:Nat->Bool
 twin:Bool
 bl:Bool
instance:CoeFun Hid (λ_=>Nat->Bool):=⟨Hid.at_⟩
structure Par where
 fn:FuncId->Prop
 hid:Hid
 fr:FuncId->Prop
inductive FRel (S:Par)(β:Bij):Fn->Fn->Prop
 |func {f:FuncId}:S.fn f->FRel S β (.func f) (.func f)
 |yield {l L:Nat}:β l L->S.hid l=false->FRel S β (.yield l) (.yield L)
def hole:Value:=.chan (some 0)
def big:TypeId:=1000000000
def hm:Value:=.func (.method "") #[.iface big undef] #[]
def hd (a:Array Value):Deferred:=⟨.fn (.method "") #[],#[.iface big undef]++a⟩
def lS:Value->Bool
 |.agg _|.tuple _|.pointer none|.nilIface|.nilFunc|.bool _|.int _ _|.string _|.func (.method _) _ _=>false
 |_=>true
inductive VRel (S:Par)(β:Bij):Value->Value->Prop
 |bool (b:Bool):VRel S β (.bool b) (.bool b)
 |int (k:IntKind) (n:Int):VRel S β (.int k n) (.int k n)
 |string (s:ByteArray):VRel S β (.string s) (.string s)
 |nilp:VRel S β (.pointer none) (.pointer none)
 |ptr {b B:Nat} (o:Nat) (s:Option Nat):β b B->VRel S β (.pointer (some ⟨b,o,s⟩)) (.pointer (some ⟨B,o,s⟩))
 |nils (l c:Nat):VRel S β (.slice none l c) (.slice none l c)
 |slice {b B:Nat} (o:Nat) (s:Option Nat) (l c:Nat):β b B->VRel S β (.slice (some ⟨b,o,s⟩) l c) (.slice (some ⟨B,o,s⟩) l c)
 | func {f F : Fn} {x X c C : Array Value} : FRel S β f F -> x.size = X.size -> (∀ (i : Nat) (v V : Value), x[i]? = some v -> X[i]? = some V -> VRel S β v V) ->
   c.size=C.size->(∀(i:Nat) (v V:Value),c[i]?=some v->C[i]?=some V->VRel S β v V)->VRel S β (.func f x c) (.func F X C)
 |nilFunc:VRel S β .nilFunc .nilFunc
 |nilMap:VRel S β (.map none) (.map none)
 |nilChan:VRel S β (.chan none) (.chan none)
 |nilIface:VRel S β .nilIface .nilIface
 |iface (t:TypeId) {v V:Value}:VRel S β v V->VRel S β (.iface t v) (.iface t V)
 |agg {x X:Array Value}:x.size=X.size->(∀(i:Nat) (v V:Value),x[i]?=some v->X[i]?=some V->VRel S β v V)->VRel S β (.agg x) (.agg X)
 |tuple {x X:Array Value}:x.size=X.size->(∀(i:Nat) (v V:Value),x[i]?=some v->X[i]?=some V->VRel S β v V)->VRel S β (.tuple x) (.tuple X)
 |blank {V:Value}:(V=hole\/S.hid.bl=true)->lS V=true->VRel S β hole V
 |blankM {n:String} {x c:Array Value}:(Value.func (.method n) x c=hm\/S.hid.bl=true)->VRel S β hm (.func (.method n) x c)
structure AsRel (S:Par)(β:Bij)(x X:Array Value):Prop where
 size:x.size=X.size
 at_:∀(i:Nat) (v V:Value),x[i]?=some v->X[i]?=some V->VRel S β v V
section
variable {S:Par} {β β':Bij}
def FRel.mono (h:β.le β'){f F:Fn}(r:FRel S β f F):FRel S β' f F:=by
 cases r with
 |func s=>exact .func s
 |yield l k=>exact .yield (h _ _ l) k
def VRel.mono (h:β.le β'){v V:Value}(r:VRel S β v V):VRel S β' v V:=by
 induction r with
 |bool b=>exact .bool b
 |int k n=>exact .int k n
 |string s=>exact .string s
 |nilp=>exact .nilp
 |ptr o s hb=>exact .ptr o s (h _ _ hb)
 |nils l c=>exact .nils l c
 |slice o s l c hb=>exact .slice o s l c (h _ _ hb)
 |func hf h1 _ h2 _ i1 i2=>exact .func (hf.mono h) h1 i1 h2 i2
 |nilFunc=>exact .nilFunc
 |nilMap=>exact .nilMap
 |nilChan=>exact .nilChan
 |nilIface=>exact .nilIface
 |iface t _ ih=>exact .iface t ih
 |agg h1 _ i1=>exact .agg h1 i1
 |tuple h1 _ i1=>exact .tuple h1 i1
 |blank h1 h2=>exact .blank h1 h2
 |blankM h1=>exact .blankM h1
def AsRel.mono (h:β.le β'){x X:Array Value}(r:AsRel S β x X):AsRel S β' x X:=⟨r.size,λi v V a b=>(r.at_ i v V a b).mono h⟩
def AsRel.agg {x X:Array Value}(r:AsRel S β x X):VRel S β (.agg x) (.agg X):=.agg r.size r.at_
def AsRel.tuple {x X:Array Value}(r:AsRel S β x X):VRel S β (.tuple x) (.tuple X):=.tuple r.size r.at_
def VRel.undef (S:Par)(β:Bij):VRel S β undef undef:=.tuple rfl (by simp)
def uw:AsRel S β #[] #[]:=⟨rfl,by simp⟩
def AsRel.get? {x X:Array Value}(r:AsRel S β x X){i:Nat}{v:Value}(h:x[i]?=some v):∃V,X[i]?=some V/\VRel S β v V:=by
 have hi:i<X.size:=by rw[<-r.size];exact(Array.getElem?_eq_some_iff.1 h).1
 exact⟨X[i],Array.getElem?_eq_getElem hi,r.at_ i v _ h (Array.getElem?_eq_getElem hi)⟩
def AsRel.get_none {x X:Array Value}(r:AsRel S β x X){i:Nat}(h:x[i]?=none):X[i]?=none:=by
 rw[Array.getElem?_eq_none_iff] at h ⊢
 rw[<-r.size];exact h
def AsRel.getD {x X:Array Value}(r:AsRel S β x X)(i:Nat){d D:Value}(hd:VRel S β d D):VRel S β (x.getD i d) (X.getD i D):=by
 rw[Array.getD_eq_getD_getElem?,Array.getD_eq_getD_getElem?]
 cases h:x[i]? with
 |none=>rw[r.get_none h];exact hd
 |some v=>obtain⟨V,hV,hr⟩:=r.get? h;rw[hV];exact hr
def AsRel.push {x X:Array Value}(r:AsRel S β x X){v V:Value}(h:VRel S β v V):AsRel S β (x.push v) (X.push V):=by
 refine⟨by simp[r.size],λi a A ha hA=>?_⟩
 rw[Array.getElem?_push] at ha hA
 rw[r.size] at ha
 split at ha
 ·rw[if_pos ‹_›] at hA;cases ha;cases hA;exact h
 ·rw[if_neg ‹_›] at hA;exact r.at_ i a A ha hA
def AsRel.append {x X y Y:Array Value}(r:AsRel S β x X)(s:AsRel S β y Y):AsRel S β (x++y) (X++Y):=by
 refine⟨by simp[r.size,s.size],λi a A ha hA=>?_⟩
 rw[Array.getElem?_append] at ha hA
 rw[r.size] at ha
 split at ha
 ·rw[if_pos ‹_›] at hA;exact r.at_ i a A ha hA
 ·rw[if_neg ‹_›] at hA;exact s.at_ _ a A ha hA
def AsRel.one {v V:Value}(h:VRel S β v V):AsRel S β #[v] #[V]:=by simpa using uw.push h
def AsRel.extract {x X:Array Value}(r:AsRel S β x X)(a b:Nat):AsRel S β (x.extract a b) (X.extract a b):=by
 refine⟨by simp[r.size],λi v V hv hV=>?_⟩
 rw[Array.getElem?_extract] at hv hV
 rw[r.size] at hv
 split at hv
 ·rw[if_pos ‹_›] at hV;exact r.at_ _ v V hv hV
 ·cases hv
def AsRel.set {x X:Array Value}(r:AsRel S β x X)(i:Nat){v V:Value}(h:VRel S β v V):AsRel S β (x.setIfInBounds i v) (X.setIfInBounds i V):=by
 refine⟨by simp[r.size],λj a A ha hA=>?_⟩
 rw[Array.getElem?_setIfInBounds] at ha hA
 rw[r.size] at ha
 split at ha
 ·rw[if_pos ‹_›] at hA
  split at ha
  ·rw[if_pos ‹_›] at hA;cases ha;cases hA;exact h
  ·cases ha
 ·rw[if_neg ‹_›] at hA;exact r.at_ j a A ha hA
def AsRel.replicate {v V:Value}(h:VRel S β v V)(n:Nat):AsRel S β (Array.replicate n v) (Array.replicate n V):=by
 refine⟨by simp,λi a A ha hA=>?_⟩
 rw[Array.getElem?_replicate] at ha hA
 split at ha
 ·rw[if_pos ‹_›] at hA;cases ha;cases hA;exact h
 ·cases ha
def AsRel.map {α:Type}(l:Array α){f F:α->Value}(h:∀x∈l,VRel S β (f x) (F x)):AsRel S β (l.map f) (l.map F):=by
 refine⟨by simp,λi a A ha hA=>?_⟩
 rw[Array.getElem?_map] at ha hA
 cases hx:l[i]? with
 |none=>rw[hx] at ha;cases ha
 |some x =>
  rw[hx] at ha hA
  cases ha;cases hA
  exact h x (Array.mem_of_getElem? hx)
def VRel.cells {v V:Value}(r:VRel S β v V):AsRel S β v.cells V.cells:=by
 cases r with
 |agg h1 h2=>exact⟨h1,h2⟩
 |bool b=>exact AsRel.one (.bool b)
 |int k n=>exact AsRel.one (.int k n)
 |string s=>exact AsRel.one (.string s)
 |nilp=>exact AsRel.one .nilp
 |ptr o s hb=>exact AsRel.one (.ptr o s hb)
 |nils l c=>exact AsRel.one (.nils l c)
 |slice o s l c hb=>exact AsRel.one (.slice o s l c hb)
 |func hf h1 a1 h2 a2=>exact AsRel.one (.func hf h1 a1 h2 a2)
 |nilFunc=>exact AsRel.one .nilFunc
 |nilMap=>exact AsRel.one .nilMap
 |nilChan=>exact AsRel.one .nilChan
 |nilIface=>exact AsRel.one .nilIface
 |iface t r=>exact AsRel.one (.iface t r)
 |tuple h1 a1=>exact AsRel.one (.tuple h1 a1)
 |blank h1 h2 =>
  rw[show V.cells=#[V] by cases V<;>first|rfl|cases h2]
  exact AsRel.one (.blank h1 h2)
 |blankM h1=>exact AsRel.one (.blankM h1)
end
inductive DRel (S:Par)(β:Bij):Deferred->Deferred->Prop
 |fn {f F:Fn} {c C a A:Array Value}:FRel S β f F->AsRel S β c C->AsRel S β a A->DRel S β ⟨.fn f c,a⟩ ⟨.fn F C,A⟩
 |nil {a A:Array Value}:AsRel S β a A->DRel S β ⟨.nil,a⟩ ⟨.nil,A⟩
 |collected {r R:Nat}:β r R->S.hid r=false->DRel S β ⟨.collected r,#[]⟩ ⟨.collected R,#[]⟩
 |blankM {d D:Deferred} (a A:Array Value):AsRel S β a A->d=hd a->(D=hd A\/(S.hid.bl=true/\∃n c x,D=⟨.fn (.method n) c,x++A⟩))->DRel S β d D
inductive LRel {α:Type}(R:α->α->Prop):List α->List α->Prop
 |nil:LRel R [] []
 |cons {a A:α} {l L:List α}:R a A->LRel R l L->LRel R (a::l) (A::L)
def LRel.mono {α:Type}{R R':α->α->Prop}(h:∀a A,R a A->R' a A){l L:List α}(r:LRel R l L):LRel R' l L:=by
 induction r with
 |nil=>exact .nil
 |cons a _ ih=>exact .cons (h _ _ a) ih
def LRel.append {α:Type}{R:α->α->Prop}{l L m M:List α}(r:LRel R l L)(s:LRel R m M):LRel R (l++m) (L++M):=by
 induction r with
 |nil=>exact s
 |cons a _ ih=>exact .cons a ih
def DRel.mono {S:Par}{β β':Bij}(h:β.le β'){d D:Deferred}(r:DRel S β d D):DRel S β' d D:=by
 cases r with
 |fn f c a=>exact .fn (f.mono h) (c.mono h) (a.mono h)
 |nil a=>exact .nil (a.mono h)
 |collected r k=>exact .collected (h _ _ r) k
 |blankM a A h1 h2 h3=>exact .blankM a A (h1.mono h) h2 h3
inductive ORel (S:Par)(Ck:Code->Prop)(β:Bij):Obj->Obj->Prop
 |cells {c C:Array Value} {t:TypeId} {f F:Nat×Nat}:AsRel S β c C->(∀i,F.1<=i->i<F.2->f.1<=i/\i<f.2)->ORel S Ck β (.cells c t f) (.cells C t F)
 | loop {st : LoopState} {pe : Option Code} {fn : FuncId} {x X : Array Value} {ps : Array Tmp} {ug bo : Code} {d D : Nat} :
   (S.fr fn/\∀c,pe=some c->Ck c)->Ck ug->Ck bo->AsRel S β x X->β d D->S.hid d=false->ORel S Ck β (.loop ⟨st,pe,fn,x,ps,ug,bo,d⟩) (.loop ⟨st,pe,fn,X,ps,ug,bo,D⟩)
 |number {b B:Nat} (o:Nat) (s:Option Nat) (lost:Bool):β b B->ORel S Ck β (.number ⟨b,o,s⟩ lost) (.number ⟨B,o,s⟩ lost)
 |taken:ORel S Ck β (.deferred none) (.deferred none)
 |defs {l L:List Deferred}:LRel (DRel S β) l L->ORel S Ck β (.deferred (some l)) (.deferred (some L))
def ORel.mono {S:Par}{Ck:Code->Prop}{β β':Bij}(h:β.le β'){o O:Obj}(r:ORel S Ck β o O):ORel S Ck β' o O:=by
 cases r with
 |cells a f=>exact .cells (a.mono h) f
 |loop p a b x d k=>exact .loop p a b (x.mono h) (h _ _ d) k
 |number o s l hb=>exact .number o s l (h _ _ hb)
 |taken=>exact .taken
 |defs l=>exact .defs (l.mono λ_ _=>DRel.mono h)
def Bij.isId (β:Bij):Prop:=∀b B,β b B->b=B
def IdB (H:Hid)(β:Bij):Prop:=H.bl=false/\β.isId
def FRel.id {S:Par}{β:Bij}(h:β.isId){f F:Fn}(r:FRel S β f F):f=F:=by
 cases r with
 |func _=>rfl
 |yield hl _=>rw[h _ _ hl]
def VRel.id {S:Par}{β:Bij}(h:IdB S.hid β){v V:Value}(r:VRel S β v V):v=V:=by
 have arr:∀(x X:Array Value),x.size=X.size->(∀(i:Nat) (v V:Value),x[i]?=some v->X[i]?=some V->v=V)->x=X:=λx X hs ha=>by
  refine Array.ext hs λi h1 h2=>?_
  exact ha i _ _ (Array.getElem?_eq_getElem h1) (Array.getElem?_eq_getElem h2)
 induction r with
 |ptr o s hb=>rw[h.2 _ _ hb]
 |slice o s l c hb=>rw[h.2 _ _ hb]
 |func hf h1 _ h2 _ i1 i2=>rw[hf.id h.2,arr _ _ h1 i1,arr _ _ h2 i2]
 |iface t _ ih=>rw[ih]
 |agg h1 _ i1=>rw[arr _ _ h1 i1]
 |tuple h1 _ i1=>rw[arr _ _ h1 i1]
 |blank h1 _=>exact h1.elim Eq.symm λh1=>by rw[h.1] at h1;cases h1
 |blankM h1=>exact h1.elim Eq.symm λh1=>by rw[h.1] at h1;cases h1
 |_=>rfl
def AsRel.id {S:Par}{β:Bij}(h:IdB S.hid β){x X:Array Value}(r:AsRel S β x X):x=X :=
 Array.ext r.size λi h1 h2=>(r.at_ i _ _ (Array.getElem?_eq_getElem h1) (Array.getElem?_eq_getElem h2)).id h
def LRel.id {α:Type}{R:α->α->Prop}(h:∀a A,R a A->a=A){l L:List α}(r:LRel R l L):l=L:=by
 induction r with
 |nil=>rfl
 |cons ha _ ih=>rw[h _ _ ha,ih]
def DRel.id {S:Par}{β:Bij}(h:IdB S.hid β){d D:Deferred}(r:DRel S β d D):d=D:=by
 cases r with
 |fn f c a=>rw[f.id h.2,c.id h,a.id h]
 |nil a=>rw[a.id h]
 |collected r _=>rw[h.2 _ _ r]
 |blankM a A h1 h2 h3 =>
  rw[h2,h1.id h]
  exact h3.elim Eq.symm λh1=>by have:=h1.1;rw[h.1] at this;cases this
def ORel.id {S:Par}{Ck:Code->Prop}{β:Bij}(h:IdB S.hid β){o O:Obj}(r:ORel S Ck β o O)(hn:∀c t f,o≠.cells c t f):o=O:=by
 cases r with
 |cells=>exact absurd rfl (hn _ _ _)
 |loop p a b x d k=>rw[x.id h,h.2 _ _ d]
 |number o s l hb=>rw[h.2 _ _ hb]
 |taken=>rfl
 |defs l=>rw[l.id λ_ _=>DRel.id h]
structure WRel (S:Par)(Ck:Code->Prop)(G:Nat)(β:Bij)(w W:World):Prop where
 fine:β.Fine G
 room:G<=w.heap.size/\G<=W.heap.size
 objs:∀b B,β b B->S.hid b=false->∃o O,w.heap[b]?=some o/\W.heap[B]?=some O/\ORel S Ck β o O
 hids:∀b B,β b B->S.hid b=true->w.heap[b]?=some (.coro none)/\(S.hid.twin=false->∃c t f,W.heap[B]?=some (.cells c t f))/\(S.hid.twin=true->W.heap[B]?=some (.coro none))
 old:∀b,S.hid b=true->b<w.heap.size
 env:w.os.env=W.os.env
def TRel (n:Nat)(w W:World):Prop:=∀i,i<n->∀q,w.tape (w.drawn+i) q=W.tape (W.drawn+i) q
inductive MOk:Mark->Prop
 |extern (f:FuncId):MOk (.extern f)
 |noRoom:MOk .noRoom
def kindOf:Obj->Nat
 |.cells c _ _=>c.size+3
 |.coro none=>1
 |_=>2
inductive EOk (β:Bij)(w:World):Event->Prop
 |cell {a A:Addr} {wr sy:Bool}:β a.block A.block->a.off=A.off->(∃n,(w.heap[a.block]?).map kindOf=some (n+3)/\a.off<n)->(wr=true->w.frozen? a=false)->EOk β w ⟨.cell A,wr,sy⟩
 |obj {r R:Nat} {wr sy:Bool}:β r R->(w.heap[r]?).map kindOf=some 2->EOk β w ⟨.obj R,wr,sy⟩
 |mark {M:Mark} {wr sy:Bool}:MOk M->EOk β w ⟨.mark M,wr,sy⟩
 |out {wr sy:Bool}:EOk β w ⟨.output,wr,sy⟩
structure Fin (S:Par)(Ck:Code->Prop)(G:Nat)(β β':Bij)(w W w' W':World)(ES:List Event):Prop where
 le:β.le β'
 rel:WRel S Ck G β' w' W'
 tape:w'.tape=w.tape
 TAPE:W'.tape=W.tape
 drawn:w.drawn<=w'.drawn
 draws:W'.drawn+w.drawn=W.drawn+w'.drawn
 os:w'.os=w.os
 OS:W'.os=W.os
 out:w'.output=w.output
 OUT:W'.output=W.output
 size:w.heap.size<=w'.heap.size
 SIZE:W.heap.size<=W'.heap.size
 new:∀b B,β' b B->β b B\/(w.heap.size<=b/\W.heap.size<=B)
 NEW:∀B,W.heap.size<=B->B<W'.heap.size->∃b,β' b B
 frozen:∀a:Addr,a.block<w.heap.size->w'.frozen? a=w.frozen? a
 KEPT:∀B,B<W.heap.size->(∀b,¬β b B)->W'.heap[B]?=W.heap[B]?
 ro:∀b B c t f,β b B->w.heap[b]?=some (.cells c t f)->(∀i,i<c.size->f.1<=i/\i<f.2)->w'.heap[b]?=w.heap[b]?/\W'.heap[B]?=W.heap[B]?
 kind:∀b,b<w.heap.size->(w'.heap[b]?).map kindOf=(w.heap[b]?).map kindOf
 evs:S.hid.twin=false->∀E∈ES,EOk β' w' E
 same:IdB S.hid β->w.heap=W.heap->IdB S.hid β'/\w'.heap=W'.heap
 hk:∀b B,β b B->S.hid b=true->W'.heap[B]?=W.heap[B]?
section
variable {S:Par} {Ck:Code->Prop} {G:Nat} {β β' β'':Bij} {w W w' W' w'' W'':World} {ES ES':List Event}
def WRel.lt (h:WRel S Ck G β w W){b B:Nat}(hb:β b B):b<w.heap.size/\B<W.heap.size:=by
 cases hh:S.hid b with
 |false =>
  obtain⟨o,O,h1,h2,_⟩:=h.objs b B hb hh
  exact⟨(Array.getElem?_eq_some_iff.1 h1).1,(Array.getElem?_eq_some_iff.1 h2).1⟩
 |true =>
  obtain⟨h1,h2,h3⟩:=h.hids b B hb hh
  refine⟨(Array.getElem?_eq_some_iff.1 h1).1,?_⟩
  cases ht:S.hid.twin with
  |false=>obtain⟨c,t,f,h2⟩:=h2 ht;exact(Array.getElem?_eq_some_iff.1 h2).1
  |true=>exact(Array.getElem?_eq_some_iff.1 (h3 ht)).1
def Fin.refl (h:WRel S Ck G β w W):Fin S Ck G β β w W w W [] where
 le:=β.le_refl
 rel:=h
 tape:=rfl
 TAPE:=rfl
 drawn:=Nat.le_refl _
 draws:=rfl
 os:=rfl
 OS:=rfl
 out:=rfl
 OUT:=rfl
 size:=Nat.le_refl _
 SIZE:=Nat.le_refl _
 new:=λ_ _ h=>.inl h
 NEW:=λB h1 h2=>absurd h2 (by omega)
 frozen:=λ_ _=>rfl
 KEPT:=λ_ _ _=>rfl
 ro:=λ_ _ _ _ _ _ _ _=>⟨rfl,rfl⟩
 kind:=λ_ _=>rfl
 evs:=by simp
 same:=λh e=>⟨h,e⟩
 hk:=λ_ _ _ _=>rfl
def Fin.trans (h:Fin S Ck G β β' w W w' W' ES)(k:Fin S Ck G β' β'' w' W' w'' W'' ES'):Fin S Ck G β β'' w W w'' W'' (ES++ES') where
 le:=Bij.le_trans h.le k.le
 rel:=k.rel
 tape:=k.tape.trans h.tape
 TAPE:=k.TAPE.trans h.TAPE
 drawn:=Nat.le_trans h.drawn k.drawn
 draws:=by have:=h.draws;have:=k.draws;omega
 os:=k.os.trans h.os
 OS:=k.OS.trans h.OS
 out:=k.out.trans h.out
 OUT:=k.OUT.trans h.OUT
 size:=Nat.le_trans h.size k.size
 SIZE:=Nat.le_trans h.SIZE k.SIZE
 new:=λb B hb=>by
  rcases k.new b B hb with h1|⟨h1,h2⟩
  ·exact h.new b B h1
  ·exact .inr ⟨Nat.le_trans h.size h1,Nat.le_trans h.SIZE h2⟩
 NEW:=λB h1 h2=>by
  by_cases hB:B<W'.heap.size
  ·obtain⟨b,hb⟩:=h.NEW B h1 hB
   exact⟨b,k.le _ _ hb⟩
  ·exact k.NEW B (by omega) h2
 frozen:=λa ha=>(k.frozen a (Nat.lt_of_lt_of_le ha h.size)).trans (h.frozen a ha)
 KEPT:=λB hB hn=>by
  refine(k.KEPT B (Nat.lt_of_lt_of_le hB h.SIZE) (λb hb=>?_)).trans (h.KEPT B hB hn)
  rcases h.new b B hb with h1|⟨_,h2⟩
  ·exact hn b h1
  ·omega
 ro:=λb B c t f hb hc hf=>by
  obtain⟨e1,e2⟩:=h.ro b B c t f hb hc hf
  obtain⟨k1,k2⟩:=k.ro b B c t f (h.le _ _ hb) (e1.trans hc) hf
  exact⟨k1.trans e1,k2.trans e2⟩
 kind:=λb hb=>(k.kind b (Nat.lt_of_lt_of_le hb h.size)).trans (h.kind b hb)
 evs:=λht E hE=>by
  rcases List.mem_append.1 hE with hE|hE
  ·have:=h.evs ht E hE
   cases this with
   |cell hb ho hc hw =>
    have hl:=(h.rel.lt hb).1
    exact .cell (k.le _ _ hb) ho (let ⟨n,h1,h2⟩:=hc;⟨n,(k.kind _ hl).trans h1,h2⟩) (λe=>(k.frozen _ hl).trans (hw e))
   |obj hr hc=>exact .obj (k.le _ _ hr) ((k.kind _ (h.rel.lt hr).1).trans hc)
   |mark hm=>exact .mark hm
   |out=>exact .out
  ·exact k.evs ht E hE
 same:=λi e=>let ⟨a,b⟩:=h.same i e;k.same a b
 hk:=λb B hb hh=>(k.hk b B (h.le _ _ hb) hh).trans (h.hk b B hb hh)
def TRel.rest {n:Nat}(h:TRel n w W)(k:Fin S Ck G β β' w W w' W' ES):TRel (n-(w'.drawn-w.drawn)) w' W':=by
 intro i hi q
 have h1:=k.drawn
 have h2:=k.draws
 have:=h (w'.drawn-w.drawn+i) (by omega) q
 rw[k.tape,k.TAPE]
 rw[show w.drawn+(w'.drawn-w.drawn+i)=w'.drawn+i from by omega,show W.drawn+(w'.drawn-w.drawn+i)=W'.drawn+i from by omega] at this
 exact this
end
def world {α:Type}:Result α->World
 |.ok _ w=>w
 |.halt _ w=>w
def nU {α:Type}:∀(a:Ask α) (w:World),w.drawn<=(w.ask a).2.drawn:=by
 intro a
 induction a with
 |done a=>intro w;exact Nat.le_refl _
 |ask what range k ih =>
  intro w
  simp only[World.ask]
  split
  ·exact ih _ _
  ·exact Nat.le_trans (Nat.le_succ w.drawn) (ih _ { w with drawn:=w.drawn+1 })
def sys_drawn (w:World)(c:Sys):w.drawn<=(w.sys c).2.drawn:=by
 have h:=nU (Kernel.perform c w.os) w
 unfold World.sys
 generalize w.ask (Kernel.perform c w.os)=r at h
 obtain⟨⟨r,os⟩,w'⟩:=r
 cases r<;>first|exact h|exact Nat.le_refl _
def ix {p:Program}{w w':World}{at_ k:Addr}{u:TypeId}{v:Value}{b:Bool}{l:List Addr}(h:w.viewStore p at_ u k v b=.ok (w',l)):w'.drawn=w.drawn:=by
 unfold World.viewStore at h
 simp only[bind,Except.bind,pure,Except.pure] at h
 repeat' (split at h)
 all_goals first|(cases h;rfl)|cases h
def i5 {p:Program}{w w':World}{a:Addr}{v:Value}{b:Bool}{l:List Addr}(h:w.farStore p a v b=.ok (w',l)):w'.drawn=w.drawn:=by
 unfold World.farStore at h
 split at h
 ·split at h
  ·rename_i r hr
   cases h
   exact ix hr
  ·cases h
 ·cases h
def cN {α:Type}(P:Program)(md:Mode)(a:Addr)(v:Value)(k:Sem α)(w:World)(es:Array Event)(h1:∀x,v≠.agg x)(h2:∀x,v≠.tuple x) :
  (Sem.store md a v k).runT P w es=match w.cell? a with
   |some _=>if w.frozen? a then(.halt (.unsupported (.unsafePointer "a write to bytes that a string shares")) w,es)
     else k.runT P (w.setCell a v) (es.push ⟨.cell a,true,md==.atomic⟩)
   | none => match w.farStore P a v (md == .atomic) with
     |.ok (w,touched)=>k.runT P w (es++touched.toArray.map (⟨.cell ·,true,md==.atomic⟩))
     |.error h=>(.halt h w,es):=by
 cases v<;>first|exact absurd rfl (h1 _)|exact absurd rfl (h2 _)|rfl
def drawn_mono {α:Type}(P:Program)(m:Sem α):∀(w:World) (es:Array Event),w.drawn<=(world (m.runT P w es).1).drawn:=by
 induction m with
 |pure a=>intro w es;exact Nat.le_refl _
 |load md a k ih =>
  intro w es
  simp only[Sem.runT]
  split
  ·exact ih _ _ _
  ·split
   ·exact ih _ _ _
   ·exact Nat.le_refl _
 |store md a v k ih =>
  intro w es
  by_cases h1:∃x,v=.agg x
  ·obtain⟨x,rfl⟩:=h1;exact Nat.le_refl _
  by_cases h2:∃x,v=.tuple x
  ·obtain⟨x,rfl⟩:=h2;exact Nat.le_refl _
  rw[cN P md a v k w es (λx e=>h1 ⟨x,e⟩) (λx e=>h2 ⟨x,e⟩)]
  split
  ·split
   ·exact Nat.le_refl _
   ·exact ih (w.setCell a v) _
  ·split
   ·rename_i w' l hw
    have:=i5 hw
    exact Nat.le_trans (Nat.le_of_eq this.symm) (ih _ _)
   ·exact Nat.le_refl _
 |new o k ih=>intro w es;exact ih _ { w with heap:=w.heap.push o } _
 |shape r k ih=>intro w es;exact ih _ _ _
 |freeze a n k ih=>intro w es;exact Nat.le_trans (by unfold World.freeze;split<;>exact Nat.le_refl _) (ih _ _)
 |frozen a k ih=>intro w es;exact ih _ _ _
 |getObj r k ih =>
  intro w es
  simp only[Sem.runT]
  split
  ·exact Nat.le_refl _
  ·exact ih _ _ _
  ·exact Nat.le_refl _
 |setObj r o k ih =>
  intro w es
  simp only[Sem.runT]
  split
  ·exact Nat.le_refl _
  ·exact ih { w with heap:=w.heap.setIfInBounds r o } _
  ·exact Nat.le_refl _
 |choose q k ih =>
  intro w es
  simp only[Sem.runT]
  split
  ·exact ih _ _ _
  ·exact Nat.le_trans (Nat.le_succ w.drawn) (ih _ { w with drawn:=w.drawn+1 } _)
 |sys c k ih=>intro w es;exact Nat.le_trans (sys_drawn w c) (ih _ _ _)
 |program k ih=>intro w es;exact ih _ _ _
 |mark m k ih=>intro w es;exact ih _ _
 |halt h=>intro w es;exact Nat.le_refl _
def aj {α γ:Type}(P:Program)(m:Sem α)(k:α->Sem γ):∀(w:World) (es:Array Event),(m >>= k).runT P w es =
  match m.runT P w es with
  |(.ok a w',es')=>(k a).runT P w' es'
  |(.halt h w',es')=>(.halt h w',es'):=by
 induction m with
 |pure a=>intro w es;rfl
 |load md a k' ih =>
  intro w es
  show((Sem.load md a λv=>(k' v) >>= k)).runT P w es=_
  simp only[Sem.runT]
  split
  ·exact ih _ _ _
  ·split
   ·exact ih _ _ _
   ·rfl
 |store md a v k' ih =>
  intro w es
  show((Sem.store md a v (k' >>= k))).runT P w es=_
  by_cases h1:∃x,v=.agg x
  ·obtain⟨x,rfl⟩:=h1;rfl
  by_cases h2:∃x,v=.tuple x
  ·obtain⟨x,rfl⟩:=h2;rfl
  rw[cN P md a v _ w es (λx e=>h1 ⟨x,e⟩) (λx e=>h2 ⟨x,e⟩),cN P md a v _ w es (λx e=>h1 ⟨x,e⟩) (λx e=>h2 ⟨x,e⟩)]
  split
  ·split
   ·rfl
   ·exact ih _ _
  ·split
   ·exact ih _ _
   ·rfl
 |new o k' ih=>intro w es;exact ih _ _ _
 |shape r k' ih=>intro w es;exact ih _ _ _
 |freeze a n k' ih=>intro w es;exact ih _ _
 |frozen a k' ih=>intro w es;exact ih _ _ _
 |getObj r k' ih =>
  intro w es
  show((Sem.getObj r λv=>(k' v) >>= k)).runT P w es=_
  simp only[Sem.runT]
  split
  ·rfl
  ·exact ih _ _ _
  ·rfl
 |setObj r o k' ih =>
  intro w es
  show((Sem.setObj r o (k' >>= k))).runT P w es=_
  simp only[Sem.runT]
  split
  ·rfl
  ·exact ih _ _
  ·rfl
 |choose q k' ih =>
  intro w es
  show((Sem.choose q λv=>(k' v) >>= k)).runT P w es=_
  simp only[Sem.runT]
  split
  ·exact ih _ _ _
  ·exact ih _ _ _
 |sys c k' ih=>intro w es;exact ih _ _ _
 |program k' ih=>intro w es;exact ih _ _ _
 |mark m k' ih=>intro w es;exact ih _ _
 |halt h=>intro w es;rfl
end Go.Iso
namespace Go.Sq
structure Herder where
 heads:Int
 dogs:Int
 most:Int
 off:List Int
instance:Inhabited Herder:=⟨⟨0,0,0,[]⟩⟩
structure Camp where
 needs:List Int
 herders:List Herder
def Camp.h (c:Camp)(i:Nat):Herder:=c.herders[i]?.getD default
def cmpL:List Int->List Int->Int
 |[],[]=>0
 |[],_::_=>-1
 |_::_,[]=>1
 |a::l,b::m=>if a<b then -1 else if b<a then 1 else cmpL l m
def j7 (l:List Int):cmpL [] l=if l.length=0 then 0 else -1:=by cases l<;>simp[cmpL]
def nV (l:List Int)(h:0<l.length):cmpL l []=1:=by cases l with
 |nil=>simp at h
 |cons a l=>rfl
def nW (l m:List Int)(k:Nat)(h1:k<l.length)(h2:k<m.length):cmpL (l.drop k) (m.drop k)=if l[k]?.getD 0<m[k]?.getD 0 then -1 else if m[k]?.getD 0<l[k]?.getD 0 then 1 else cmpL (l.drop (k+1)) (m.drop (k+1)):=by
 rw[List.drop_eq_getElem_cons h1,List.drop_eq_getElem_cons h2,List.getElem?_eq_getElem h1,List.getElem?_eq_getElem h2]
 rfl
def cZ (a b:Int):Int:=if a<b then -1 else if b<a then 1 else 0
def bf {α:Type}(d:α)(l:List α)(k:Nat)(h:k<l.length):l.take (k+1)=l.take k++[l[k]?.getD d]:=by
 rw[List.take_add_one,List.getElem?_eq_getElem h];rfl
def gY (l:List Int)(k:Nat)(h:k<l.length):(l.take (k+1)).sum=(l.take k).sum+l[k]?.getD 0:=by
 rw[bf 0 l k h,List.sum_append];simp
def sum_bound (a b:Int)(l:List Int)(h:∀x∈l,a<=x/\x<=b):l.length*a<=l.sum/\l.sum<=l.length*b:=by
 induction l with
 |nil=>simp
 |cons x l ih =>
  obtain⟨h1,h2⟩:=ih λy hy=>h y (List.mem_cons_of_mem _ hy)
  obtain⟨h3,h4⟩:=h x List.mem_cons_self
  simp only[List.length_cons,List.sum_cons,Int.natCast_add,Int.natCast_one,Int.add_mul,Int.one_mul] at *
  omega
def mem_get (l:List Int)(k:Nat)(h:k<l.length):l[k]?.getD 0∈l:=by
 rw[List.getElem?_eq_getElem h];exact List.getElem_mem h
structure Camp.Ok (c:Camp):Prop where
 n1:1<=c.needs.length
 n5:c.needs.length<=5
 need:∀x∈c.needs,0<=x/\x<=12
 h1:1<=c.herders.length
 h4:c.herders.length<=4
 heads:∀h∈c.herders,1<=h.heads/\h.heads<=40
 dogs:∀h∈c.herders,1<=h.dogs/\h.dogs<=5
 most:∀h∈c.herders,0<=h.most/\h.most<=5
 off:∀h∈c.herders,h.off.length<=5/\∀x∈h.off,0<=x/\x<c.needs.length
def Camp.h_mem (c:Camp){i:Nat}(hi:i<c.herders.length):c.h i∈c.herders:=by
 unfold Camp.h
 rw[List.getElem?_eq_getElem hi];exact List.getElem_mem hi
def below (x k:Nat):List Int:=((List.range k).filter x.testBit).map (λn:Nat=>(n:Int))
def wl (x:Nat):List Int:=below x 4
def wl_mem {x:Nat}{z:Int}(h:z∈wl x):∃n:Nat,z=n/\n<4/\x.testBit n=true:=by
 unfold wl below at h
 simp only[List.mem_map,List.mem_filter,List.mem_range] at h
 obtain⟨n,⟨h1,h2⟩,rfl⟩:=h
 exact⟨n,rfl,h1,h2⟩
def cO (x:Nat):(wl x).length<=4:=by
 unfold wl below
 rw[List.length_map]
 exact Nat.le_trans (List.length_filter_le _ _) (by simp)
def Camp.has (c:Camp)(x:Nat):Prop:=x<2 ^ c.herders.length
def j8 {x n m:Nat}(h:x<2 ^ m)(hb:x.testBit n=true):n<m:=by
 rcases Nat.lt_or_ge n m with h1|h1
 ·exact h1
 ·rw[Nat.testBit_lt_two_pow (Nat.lt_of_lt_of_le h (Nat.pow_le_pow_right (by omega) h1))] at hb;cases hb
def us {c:Camp}(h4:c.herders.length<=4){x:Nat}(hx:c.has x):x<16:=Nat.lt_of_lt_of_le hx (Nat.pow_le_pow_right (by omega) h4)
def wl_at {c:Camp}{x:Nat}(hx:c.has x){k:Nat}(hk:k<(wl x).length):∃n:Nat,(wl x)[k]?.getD 0=n/\n<c.herders.length/\n<4/\x.testBit n=true:=by
 obtain⟨n,h1,h2,h3⟩:=wl_mem (mem_get _ k hk)
 exact⟨n,h1,j8 hx h3,h2,h3⟩
def Camp.dogs (c:Camp)(x:Nat):Int:=((wl x).map λh=>(c.h h.toNat).dogs).sum
def Camp.dogL (c:Camp)(x:Nat):List Int:=(wl x).map λh=>(c.h h.toNat).dogs
def Camp.dogL_len (c:Camp)(x:Nat):(c.dogL x).length=(wl x).length:=List.length_map ..
def Camp.dogL_at (c:Camp){x k n:Nat}(hk:k<(wl x).length)(hn:(wl x)[k]?.getD 0=n):(c.dogL x)[k]?.getD 0=(c.h n).dogs:=by
 unfold Camp.dogL
 rw[List.getElem?_map]
 rw[List.getElem?_eq_getElem hk] at hn ⊢
 simp only[Option.getD_some] at hn
 simp[hn]
def uL (c:Camp)(x:Nat):c.dogs x=(c.dogL x).sum:=rfl
def dogs_bd (c:Camp){x:Nat}(hx:c.has x)(hd:∀h∈c.herders,1<=h.dogs/\h.dogs<=5)(k:Nat):0<=((c.dogL x).take k).sum/\((c.dogL x).take k).sum<=20:=by
 have hb:=sum_bound 0 5 ((c.dogL x).take k) λy hy=>by
  obtain⟨z,hz,rfl⟩:=List.mem_map.1 (List.mem_of_mem_take hy)
  obtain⟨n,rfl,_,h3⟩:=wl_mem hz
  have:=hd _ (c.h_mem (j8 hx h3))
  simp only[Int.toNat_natCast]
  omega
 have hl:((c.dogL x).take k).length<=4:=by
  rw[List.length_take,c.dogL_len];have:=cO x;omega
 omega
def oftenN (r:Nat->Nat)(n:Nat):Nat->Nat
 |0=>0
 |k+1=>oftenN r n k+if(r k).testBit n then 1 else 0
def nX (r:Nat->Nat)(n k:Nat):oftenN r n k<=k:=by
 induction k with
 |zero=>exact Nat.le_refl _
 |succ k ih=>simp only[oftenN];split<;>omega
def offB (c:Camp)(night n:Nat):Bool:=decide ((night:Int)∈(c.h n).off)
def eK (r:Nat->Nat)(night n:Nat):Bool:=decide (0<night)&&(r (night-1)).testBit n
def nY (c:Camp)(r:Nat->Nat)(night n:Nat):Bool:=decide ((c.h n).most<=(oftenN r n night:Int))
def ruleB (c:Camp)(r:Nat->Nat)(night:Nat):Nat->Nat->Bool
 |0,n=>offB c night n
 |1,n=>eK r night n
 |_,n=>nY c r night n
def breaks (c:Camp)(r:Nat->Nat)(night i:Nat):Option Int:=(wl (r night)).find? λh=>ruleB c r night i h.toNat
def Camp.need (c:Camp)(night:Nat):Int:=c.needs[night]?.getD 0
def lapseOf (c:Camp)(r:Nat->Nat)(night:Nat):Int×Int×Int :=
 match breaks c r night 0 with
 |some h=>(1,night,h)
 |none=>match breaks c r night 1 with
  |some h=>(2,night,h)
  |none=>match breaks c r night 2 with
   |some h=>(3,night,h)
   |none=>if c.dogs (r night)<c.need night then(4,night,-1) else(0,-1,-1)
def eZ {l:List Int}{p:Int->Bool}{k:Nat}(hk:k<l.length)(hn:(l.take k).find? p=none)(hp:p (l[k]?.getD 0)=true):l.find? p=some (l[k]?.getD 0):=by
 have e:l.find? p=(l.take k++l.drop k).find? p:=by rw[List.take_append_drop]
 rw[e,List.find?_append,hn,List.drop_eq_getElem_cons hk,List.find?_cons]
 rw[List.getElem?_eq_getElem hk] at hp ⊢
 simp only[Option.getD_some] at hp ⊢
 simp only[hp,Option.none_or]
def fD {l:List Int}{p:Int->Bool}{k:Nat}(hk:k<l.length)(hn:(l.take k).find? p=none)(hp:p (l[k]?.getD 0)=false):(l.take (k+1)).find? p=none:=by
 rw[bf 0 l k hk,List.find?_append,hn]
 simp[hp]
def manyE (n lo hi:Int):Int:=if n<lo then 7 else if hi<n then 6 else 0
def ascAt (l:List Int)(n:Int)(i:Nat):Int:=if 0<=l[i]?.getD 0/\l[i]?.getD 0<=n-1 then(if 0<i/\l[i]?.getD 0<=l[i-1]?.getD 0 then 5 else 0) else 3
def bj (l:List Int):Int:=(l.find? (· != 0)).getD 0
def ascE (l:List Int)(n:Int):Int:=bj ((List.range l.length).map (ascAt l n))
def inR (x lo hi:Int):Bool:=decide (lo<=x)&&decide (x<=hi)
def herdE (n:Int)(h:Herder):Int:=if inR h.heads 1 40&&inR h.dogs 1 5&&inR h.most 0 5 then ascE h.off n else 1
def checkE (c:Camp):Int :=
 if manyE c.needs.length 1 5≠0 then manyE c.needs.length 1 5 else if(c.needs.all λx=>inR x 0 12)=false then 1
 else if manyE c.herders.length 1 4≠0 then manyE c.herders.length 1 4 else bj (c.herders.map (herdE c.needs.length))
def dg {l:List Int}(h:∀x∈l,x=0):bj l=0:=by
 unfold bj
 rw[List.find?_eq_none.2 λx hx=>by simp[h x hx]];rfl
def cg {l:List Int}{k:Nat}(hk:k<l.length)(hn:∀i,i<k->l[i]?.getD 0=0)(hp:l[k]?.getD 0≠0):bj l=l[k]?.getD 0:=by
 unfold bj
 rw[eZ hk (List.find?_eq_none.2 λx hx=>?_) (by simpa using hp)]
 ·rfl
 ·obtain⟨i,hi,rfl⟩:=List.mem_take_iff_getElem.1 hx
  have:=hn i (by omega)
  rw[List.getElem?_eq_getElem (by omega)] at this
  simpa using this
def eD {l:List Int}(hn:∀i,i<l.length->l[i]?.getD 0=0):bj l=0:=dg λx hx=>by
 obtain⟨i,hi,rfl⟩:=List.mem_iff_getElem.1 hx
 have:=hn i hi
 rw[List.getElem?_eq_getElem hi] at this
 simpa using this
def j9 {l:List Int}{n:Int}{k:Nat}(hk:k<l.length)(hn:∀i,i<k->ascAt l n i=0)(hp:ascAt l n k≠0):ascE l n=ascAt l n k:=by
 have e:∀i,i<l.length->((List.range l.length).map (ascAt l n))[i]?.getD 0=ascAt l n i:=λi hi=>by simp[hi]
 unfold ascE
 rw[cg (k:=k) (by simpa using hk) (λi hi=>by rw[e i (by omega)];exact hn i hi) (by rw[e k hk];exact hp),e k hk]
def nZ {l:List Int}{n:Int}(hn:∀i,i<l.length->ascAt l n i=0):ascE l n=0:=by
 unfold ascE
 exact eD λi hi=>by
  have hi':i<l.length:=by simpa using hi
  simp[hi',hn i hi']
end Go.Sq
