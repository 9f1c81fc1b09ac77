/- Parts of the proof. -/
import Derived.Test.YtgicaeombogkcaaGreatChecked
import Derived.WalkKit
import Derived.WalkSpells
import Derived.WalkLawsBesides
import Derived.StepT
import Derived.RunT
import Derived.Runnable
set_option linter.all false
namespace Go.Proofs.YtgicaeombogkcaaGreat
open Go.RowKit
theorem fd {p q:Program} (h:p.toTables=q.toTables) (t:TypeId) (w:World):Sem.run p (typeInfo t) w=Sem.run q (typeInfo t) w:=by
 simp only [typeInfo,Sem.run_bind,run_program,Result.andThen,h]
 cases Tables.info? q.toTables t<;>rfl
theorem iT {p q:Program} (h:p.toTables=q.toTables) (t:TypeId):p.underlying t=q.underlying t:=by simp only [Program.underlying,h]
theorem lf {p q:Program} (h:p.toTables=q.toTables) (t:TypeId) (w:World):Sem.run p (underlying t) w=Sem.run q (underlying t) w:=by
 simp only [underlying,Sem.run_bind,run_program,Result.andThen,iT h]
 cases q.underlying t<;>rfl
theorem mW {p q:Program} (h:p.toTables=q.toTables) (t:TypeId) (w:World):Sem.run p (isAgg t) w=Sem.run q (isAgg t) w:=by
 unfold isAgg
 rw [Sem.run_bind,Sem.run_bind,lf h t w]
 generalize (underlying t).run q w=r
 cases r with
 | ok d w1=>cases d<;>simp only [Result.andThen,Sem.run_pure]
 | halt _ _=>simp only [Result.andThen]
theorem lT {p q:Program} (h:p.toTables=q.toTables) (t:TypeId) (w:World):Sem.run p (Go.sizeOf t) w=Sem.run q (Go.sizeOf t) w:=by
 unfold Go.sizeOf
 rw [Sem.run_bind,Sem.run_bind,fd h t w]
 generalize (Go.typeInfo t).run q w=r
 cases r with
 | ok d w1=>simp only [Result.andThen,Sem.run_pure]
 | halt _ _=>simp only [Result.andThen]
theorem jn {p q:Program} (h:p.toTables=q.toTables) (t:TypeId) (w:World):Sem.run p (zeroValue t) w=Sem.run q (zeroValue t) w:=by
 unfold zeroValue
 rw [Sem.run_bind,Sem.run_bind,fd h t w]
 generalize (Go.typeInfo t).run q w=r
 cases r with
 | ok i w1 =>
  simp only [Result.andThen]
  cases i.zero with
  | some v2=>simp only [Sem.run_pure]
  | none=>simp [unsupported]
 | halt _ _=>simp only [Result.andThen]
def sqPut (i:Nat):Bool:=i==49||i==91||i==92||i==93||i==94||i==3||i==4||i==5||i==6||i==7
noncomputable def casBody (x y:Int):Code:=.seq (.region 0 #[{ dst:=some 2,op:=.fieldAddr 104 (.tmp 0) 1,type:=0,pos := "",after:=#[],guard:=none },{ dst:=some 1,op:=.call { callee:=.value (.func 162),args:=#[.tmp 2,.const (.int .i32 x),.const (.int .i32 y)],argTypes:=#[218,21,21] },type:=4,pos := "",after:=#[{ on:=0,ground:=.data }],guard:=none }] false)
 (.cond (.tmp 1) .ret (.refuse "held"))
noncomputable def sqFn (i:Nat) (f:Func):Func:=if i==9||sqPut i then { f with body:=some (.refuse "put aside") } else if i==99 then { f with body:=some (casBody 0 1) } else if i==100 then { f with body:=some (casBody 1 0) } else f
def mapFn (p:Program) (g:Nat->Func->Func):Program:=⟨p.toTables,p.funcs.mapIdx g⟩
theorem mX (p:Program) (g:Nat->Func->Func) (i:Nat):(mapFn p g).funcs[i]?=(p.funcs[i]?).map (g i):=by
 show (p.funcs.mapIdx g)[i]?=_
 rw [Array.getElem?_mapIdx]
theorem mY (p:Program) (g:Nat->Func->Func):(mapFn p g).toTables=p.toTables:=rfl
theorem jo {p:Program} {g:Nat->Func->Func} {n:Nat} (h:p.globals.size=n):(mapFn p g).globals.size=n:=h
noncomputable def Sq.prog:Program:=mapFn Tryz.prog sqFn
theorem Sq.get (i:Nat):Sq.prog.funcs[i]?=(Tryz.prog.funcs[i]?).map (sqFn i):=by rw [Sq.prog];exact mX _ _ _
theorem Sq.fn {i:Nat} {f:Func} (h:Tryz.prog.funcs[i]?=some f) (hi:(i==9||sqPut i||i==99||i==100)=false):Sq.prog.funcs[i]?=some f:=by
 rw [Sq.get,h]
 simp only [Bool.or_eq_false_iff] at hi
 simp only [Option.map_some,sqFn,hi.1.1.1,hi.1.1.2,hi.1.2,hi.2,Bool.or_self,Bool.false_eq_true,if_false]
theorem Sq.put {i:Nat} {f:Func} (h:Tryz.prog.funcs[i]?=some f) (hi:(i != 9&&sqPut i)=true):Sq.prog.funcs[i]?=some { f with body:=some (.refuse "put aside") }:=by
 rw [Sq.get,h]
 simp only [Bool.and_eq_true,bne_iff_ne,ne_eq] at hi
 have h9:(i==9)=false:=by simpa using hi.1
 simp only [Option.map_some,sqFn,h9,hi.2,Bool.or_true,if_true]
theorem Sq.w9:Sq.prog.funcs[9]?=some { Tryz.f9 with body:=some (.refuse "put aside") }:=by
 rw [Sq.get,Tryz.func9];rfl
noncomputable def Sq.F99:Func:={ Tryz.f99 with body:=some (casBody 0 1) }
noncomputable def Sq.F100:Func:={ Tryz.f100 with body:=some (casBody 1 0) }
theorem Sq.f99:Sq.prog.funcs[99]?=some Sq.F99:=by
 rw [Sq.get,Tryz.func99];rfl
theorem Sq.f100:Sq.prog.funcs[100]?=some Sq.F100:=by
 rw [Sq.get,Tryz.func100];rfl
theorem Sq.nt99:Sq.F99.ntmps=6:=rfl
theorem Sq.nt100:Sq.F100.ntmps=6:=rfl
theorem Sq.tab:Sq.prog.toTables=Tryz.prog.toTables:=by rw [Sq.prog];exact mY _ _
@[go_sem] theorem Sq.run (t:TypeId) (w:World):Sem.run Sq.prog (underlying t) w=Sem.run Tryz.prog (underlying t) w:=lf Sq.tab t w
@[go_sem] theorem Sq.isAgg (t:TypeId) (w:World):Sem.run Sq.prog (isAgg t) w=Sem.run Tryz.prog (isAgg t) w:=mW Sq.tab t w
@[go_sem] theorem Sq.sizeOf (t:TypeId) (w:World):Sem.run Sq.prog (Go.sizeOf t) w=Sem.run Tryz.prog (Go.sizeOf t) w:=lT Sq.tab t w
@[go_sem] theorem Sq.zeroValue (t:TypeId) (w:World):Sem.run Sq.prog (Go.zeroValue t) w=Sem.run Tryz.prog (Go.zeroValue t) w:=jn Sq.tab t w
@[go_sem] theorem Sq.underlying (t:TypeId):Sq.prog.underlying t=Tryz.prog.underlying t:=iT Sq.tab t
@[go_sem] theorem Sq.globals_size:Sq.prog.globals.size=0:=(by rw [Sq.prog];exact jo Tryz.globals_size)
theorem ag {P:Program} {i:Nat} {f:Func} (h:P.funcs[i]?=some f) (hn:(f.name == "runtime.NumGoroutine")=false) (hb:f.body.isSome=true) (args:Array Value) (w:World):Sem.run P (callFunc i args) w=.ok (.enter i args) w:=by
 have hn':¬ f.name = "runtime.NumGoroutine":=by simpa using hn
 have hb':f.body≠none:=Option.isSome_iff_ne_none.1 hb
 simp [callFunc,h,hn',hb']
theorem Sq.func10:Sq.prog.funcs[10]?=some Tryz.f10:=Sq.fn Tryz.func10 rfl
@[go_sem] theorem Sq.call10 (args:Array Value) (w:World):Sem.run Sq.prog (callFunc 10 args) w=.ok (.enter 10 args) w:=ag Sq.func10 (by decide +kernel) rfl args w
theorem Sq.func11:Sq.prog.funcs[11]?=some Tryz.f11:=Sq.fn Tryz.func11 rfl
@[go_sem] theorem Sq.call11 (args:Array Value) (w:World):Sem.run Sq.prog (callFunc 11 args) w=.ok (.enter 11 args) w:=ag Sq.func11 (by decide +kernel) rfl args w
theorem Sq.func17:Sq.prog.funcs[17]?=some Tryz.f17:=Sq.fn Tryz.func17 rfl
@[go_sem] theorem Sq.call17 (args:Array Value) (w:World):Sem.run Sq.prog (callFunc 17 args) w=.ok (.enter 17 args) w:=ag Sq.func17 (by decide +kernel) rfl args w
theorem Sq.func21:Sq.prog.funcs[21]?=some Tryz.f21:=Sq.fn Tryz.func21 rfl
@[go_sem] theorem Sq.call21 (args:Array Value) (w:World):Sem.run Sq.prog (callFunc 21 args) w=.ok (.enter 21 args) w:=ag Sq.func21 (by decide +kernel) rfl args w
theorem Sq.func23:Sq.prog.funcs[23]?=some Tryz.f23:=Sq.fn Tryz.func23 rfl
@[go_sem] theorem Sq.call23 (args:Array Value) (w:World):Sem.run Sq.prog (callFunc 23 args) w=.ok (.enter 23 args) w:=ag Sq.func23 (by decide +kernel) rfl args w
theorem Sq.func25:Sq.prog.funcs[25]?=some Tryz.f25:=Sq.fn Tryz.func25 rfl
@[go_sem] theorem Sq.call25 (args:Array Value) (w:World):Sem.run Sq.prog (callFunc 25 args) w=.ok (.enter 25 args) w:=ag Sq.func25 (by decide +kernel) rfl args w
theorem Sq.func27:Sq.prog.funcs[27]?=some Tryz.f27:=Sq.fn Tryz.func27 rfl
@[go_sem] theorem Sq.call27 (args:Array Value) (w:World):Sem.run Sq.prog (callFunc 27 args) w=.ok (.enter 27 args) w:=ag Sq.func27 (by decide +kernel) rfl args w
theorem Sq.func31:Sq.prog.funcs[31]?=some Tryz.f31:=Sq.fn Tryz.func31 rfl
@[go_sem] theorem Sq.call31 (args:Array Value) (w:World):Sem.run Sq.prog (callFunc 31 args) w=.ok (.enter 31 args) w:=ag Sq.func31 (by decide +kernel) rfl args w
theorem Sq.func33:Sq.prog.funcs[33]?=some Tryz.f33:=Sq.fn Tryz.func33 rfl
@[go_sem] theorem Sq.call33 (args:Array Value) (w:World):Sem.run Sq.prog (callFunc 33 args) w=.ok (.enter 33 args) w:=ag Sq.func33 (by decide +kernel) rfl args w
theorem Sq.func34:Sq.prog.funcs[34]?=some Tryz.f34:=Sq.fn Tryz.func34 rfl
@[go_sem] theorem Sq.call34 (args:Array Value) (w:World):Sem.run Sq.prog (callFunc 34 args) w=.ok (.enter 34 args) w:=ag Sq.func34 (by decide +kernel) rfl args w
theorem Sq.func36:Sq.prog.funcs[36]?=some Tryz.f36:=Sq.fn Tryz.func36 rfl
@[go_sem] theorem Sq.call36 (args:Array Value) (w:World):Sem.run Sq.prog (callFunc 36 args) w=.ok (.enter 36 args) w:=ag Sq.func36 (by decide +kernel) rfl args w
theorem Sq.func38:Sq.prog.funcs[38]?=some Tryz.f38:=Sq.fn Tryz.func38 rfl
@[go_sem] theorem Sq.call38 (args:Array Value) (w:World):Sem.run Sq.prog (callFunc 38 args) w=.ok (.enter 38 args) w:=ag Sq.func38 (by decide +kernel) rfl args w
theorem Sq.func39:Sq.prog.funcs[39]?=some Tryz.f39:=Sq.fn Tryz.func39 rfl
@[go_sem] theorem Sq.call39 (args:Array Value) (w:World):Sem.run Sq.prog (callFunc 39 args) w=.ok (.enter 39 args) w:=ag Sq.func39 (by decide +kernel) rfl args w
theorem Sq.func40:Sq.prog.funcs[40]?=some Tryz.f40:=Sq.fn Tryz.func40 rfl
@[go_sem] theorem Sq.call40 (args:Array Value) (w:World):Sem.run Sq.prog (callFunc 40 args) w=.ok (.enter 40 args) w:=ag Sq.func40 (by decide +kernel) rfl args w
theorem Sq.func41:Sq.prog.funcs[41]?=some Tryz.f41:=Sq.fn Tryz.func41 rfl
@[go_sem] theorem Sq.call41 (args:Array Value) (w:World):Sem.run Sq.prog (callFunc 41 args) w=.ok (.enter 41 args) w:=ag Sq.func41 (by decide +kernel) rfl args w
theorem Sq.func42:Sq.prog.funcs[42]?=some Tryz.f42:=Sq.fn Tryz.func42 rfl
@[go_sem] theorem Sq.call42 (args:Array Value) (w:World):Sem.run Sq.prog (callFunc 42 args) w=.ok (.enter 42 args) w:=ag Sq.func42 (by decide +kernel) rfl args w
theorem Sq.func43:Sq.prog.funcs[43]?=some Tryz.f43:=Sq.fn Tryz.func43 rfl
@[go_sem] theorem Sq.call43 (args:Array Value) (w:World):Sem.run Sq.prog (callFunc 43 args) w=.ok (.enter 43 args) w:=ag Sq.func43 (by decide +kernel) rfl args w
theorem Sq.func44:Sq.prog.funcs[44]?=some Tryz.f44:=Sq.fn Tryz.func44 rfl
@[go_sem] theorem Sq.call44 (args:Array Value) (w:World):Sem.run Sq.prog (callFunc 44 args) w=.ok (.enter 44 args) w:=ag Sq.func44 (by decide +kernel) rfl args w
theorem Sq.func45:Sq.prog.funcs[45]?=some Tryz.f45:=Sq.fn Tryz.func45 rfl
@[go_sem] theorem Sq.call45 (args:Array Value) (w:World):Sem.run Sq.prog (callFunc 45 args) w=.ok (.enter 45 args) w:=ag Sq.func45 (by decide +kernel) rfl args w
theorem Sq.func46:Sq.prog.funcs[46]?=some Tryz.f46:=Sq.fn Tryz.func46 rfl
@[go_sem] theorem Sq.call46 (args:Array Value) (w:World):Sem.run Sq.prog (callFunc 46 args) w=.ok (.enter 46 args) w:=ag Sq.func46 (by decide +kernel) rfl args w
theorem Sq.func48:Sq.prog.funcs[48]?=some Tryz.f48:=Sq.fn Tryz.func48 rfl
@[go_sem] theorem Sq.call48 (args:Array Value) (w:World):Sem.run Sq.prog (callFunc 48 args) w=.ok (.enter 48 args) w:=ag Sq.func48 (by decide +kernel) rfl args w
theorem Sq.func50:Sq.prog.funcs[50]?=some Tryz.f50:=Sq.fn Tryz.func50 rfl
theorem Sq.func51:Sq.prog.funcs[51]?=some Tryz.f51:=Sq.fn Tryz.func51 rfl
@[go_sem] theorem Sq.call51 (args:Array Value) (w:World):Sem.run Sq.prog (callFunc 51 args) w=.ok (.enter 51 args) w:=ag Sq.func51 (by decide +kernel) rfl args w
theorem Sq.func52:Sq.prog.funcs[52]?=some Tryz.f52:=Sq.fn Tryz.func52 rfl
theorem Sq.func55:Sq.prog.funcs[55]?=some Tryz.f55:=Sq.fn Tryz.func55 rfl
@[go_sem] theorem Sq.call55 (args:Array Value) (w:World):Sem.run Sq.prog (callFunc 55 args) w=.ok (.enter 55 args) w:=ag Sq.func55 (by decide +kernel) rfl args w
theorem Sq.func57:Sq.prog.funcs[57]?=some Tryz.f57:=Sq.fn Tryz.func57 rfl
@[go_sem] theorem Sq.call57 (args:Array Value) (w:World):Sem.run Sq.prog (callFunc 57 args) w=.ok (.enter 57 args) w:=ag Sq.func57 (by decide +kernel) rfl args w
theorem Sq.func59:Sq.prog.funcs[59]?=some Tryz.f59:=Sq.fn Tryz.func59 rfl
theorem Sq.func60:Sq.prog.funcs[60]?=some Tryz.f60:=Sq.fn Tryz.func60 rfl
@[go_sem] theorem Sq.call60 (args:Array Value) (w:World):Sem.run Sq.prog (callFunc 60 args) w=.ok (.enter 60 args) w:=ag Sq.func60 (by decide +kernel) rfl args w
theorem Sq.func61:Sq.prog.funcs[61]?=some Tryz.f61:=Sq.fn Tryz.func61 rfl
@[go_sem] theorem Sq.call61 (args:Array Value) (w:World):Sem.run Sq.prog (callFunc 61 args) w=.ok (.enter 61 args) w:=ag Sq.func61 (by decide +kernel) rfl args w
theorem Sq.func63:Sq.prog.funcs[63]?=some Tryz.f63:=Sq.fn Tryz.func63 rfl
@[go_sem] theorem Sq.call63 (args:Array Value) (w:World):Sem.run Sq.prog (callFunc 63 args) w=.ok (.enter 63 args) w:=ag Sq.func63 (by decide +kernel) rfl args w
theorem Sq.func64:Sq.prog.funcs[64]?=some Tryz.f64:=Sq.fn Tryz.func64 rfl
@[go_sem] theorem Sq.call64 (args:Array Value) (w:World):Sem.run Sq.prog (callFunc 64 args) w=.ok (.enter 64 args) w:=ag Sq.func64 (by decide +kernel) rfl args w
theorem Sq.func65:Sq.prog.funcs[65]?=some Tryz.f65:=Sq.fn Tryz.func65 rfl
@[go_sem] theorem Sq.call65 (args:Array Value) (w:World):Sem.run Sq.prog (callFunc 65 args) w=.ok (.enter 65 args) w:=ag Sq.func65 (by decide +kernel) rfl args w
theorem Sq.func66:Sq.prog.funcs[66]?=some Tryz.f66:=Sq.fn Tryz.func66 rfl
@[go_sem] theorem Sq.call66 (args:Array Value) (w:World):Sem.run Sq.prog (callFunc 66 args) w=.ok (.enter 66 args) w:=ag Sq.func66 (by decide +kernel) rfl args w
theorem Sq.func67:Sq.prog.funcs[67]?=some Tryz.f67:=Sq.fn Tryz.func67 rfl
@[go_sem] theorem Sq.call67 (args:Array Value) (w:World):Sem.run Sq.prog (callFunc 67 args) w=.ok (.enter 67 args) w:=ag Sq.func67 (by decide +kernel) rfl args w
theorem Sq.func68:Sq.prog.funcs[68]?=some Tryz.f68:=Sq.fn Tryz.func68 rfl
@[go_sem] theorem Sq.call68 (args:Array Value) (w:World):Sem.run Sq.prog (callFunc 68 args) w=.ok (.enter 68 args) w:=ag Sq.func68 (by decide +kernel) rfl args w
theorem Sq.func69:Sq.prog.funcs[69]?=some Tryz.f69:=Sq.fn Tryz.func69 rfl
@[go_sem] theorem Sq.call69 (args:Array Value) (w:World):Sem.run Sq.prog (callFunc 69 args) w=.ok (.enter 69 args) w:=ag Sq.func69 (by decide +kernel) rfl args w
theorem Sq.func70:Sq.prog.funcs[70]?=some Tryz.f70:=Sq.fn Tryz.func70 rfl
@[go_sem] theorem Sq.call70 (args:Array Value) (w:World):Sem.run Sq.prog (callFunc 70 args) w=.ok (.enter 70 args) w:=ag Sq.func70 (by decide +kernel) rfl args w
theorem Sq.func71:Sq.prog.funcs[71]?=some Tryz.f71:=Sq.fn Tryz.func71 rfl
@[go_sem] theorem Sq.call71 (args:Array Value) (w:World):Sem.run Sq.prog (callFunc 71 args) w=.ok (.enter 71 args) w:=ag Sq.func71 (by decide +kernel) rfl args w
theorem Sq.func72:Sq.prog.funcs[72]?=some Tryz.f72:=Sq.fn Tryz.func72 rfl
@[go_sem] theorem Sq.call72 (args:Array Value) (w:World):Sem.run Sq.prog (callFunc 72 args) w=.ok (.enter 72 args) w:=ag Sq.func72 (by decide +kernel) rfl args w
theorem Sq.func77:Sq.prog.funcs[77]?=some Tryz.f77:=Sq.fn Tryz.func77 rfl
@[go_sem] theorem Sq.call77 (args:Array Value) (w:World):Sem.run Sq.prog (callFunc 77 args) w=.ok (.enter 77 args) w:=ag Sq.func77 (by decide +kernel) rfl args w
theorem Sq.func78:Sq.prog.funcs[78]?=some Tryz.f78:=Sq.fn Tryz.func78 rfl
@[go_sem] theorem Sq.call78 (args:Array Value) (w:World):Sem.run Sq.prog (callFunc 78 args) w=.ok (.enter 78 args) w:=ag Sq.func78 (by decide +kernel) rfl args w
theorem Sq.func79:Sq.prog.funcs[79]?=some Tryz.f79:=Sq.fn Tryz.func79 rfl
@[go_sem] theorem Sq.call79 (args:Array Value) (w:World):Sem.run Sq.prog (callFunc 79 args) w=.ok (.enter 79 args) w:=ag Sq.func79 (by decide +kernel) rfl args w
theorem Sq.func80:Sq.prog.funcs[80]?=some Tryz.f80:=Sq.fn Tryz.func80 rfl
@[go_sem] theorem Sq.call80 (args:Array Value) (w:World):Sem.run Sq.prog (callFunc 80 args) w=.ok (.enter 80 args) w:=ag Sq.func80 (by decide +kernel) rfl args w
theorem Sq.func82:Sq.prog.funcs[82]?=some Tryz.f82:=Sq.fn Tryz.func82 rfl
@[go_sem] theorem Sq.call82 (args:Array Value) (w:World):Sem.run Sq.prog (callFunc 82 args) w=.ok (.enter 82 args) w:=ag Sq.func82 (by decide +kernel) rfl args w
theorem Sq.func84:Sq.prog.funcs[84]?=some Tryz.f84:=Sq.fn Tryz.func84 rfl
@[go_sem] theorem Sq.call84 (args:Array Value) (w:World):Sem.run Sq.prog (callFunc 84 args) w=.ok (.enter 84 args) w:=ag Sq.func84 (by decide +kernel) rfl args w
theorem Sq.func85:Sq.prog.funcs[85]?=some Tryz.f85:=Sq.fn Tryz.func85 rfl
@[go_sem] theorem Sq.call85 (args:Array Value) (w:World):Sem.run Sq.prog (callFunc 85 args) w=.ok (.enter 85 args) w:=ag Sq.func85 (by decide +kernel) rfl args w
theorem Sq.func88:Sq.prog.funcs[88]?=some Tryz.f88:=Sq.fn Tryz.func88 rfl
@[go_sem] theorem Sq.call88 (args:Array Value) (w:World):Sem.run Sq.prog (callFunc 88 args) w=.ok (.enter 88 args) w:=ag Sq.func88 (by decide +kernel) rfl args w
theorem Sq.func90:Sq.prog.funcs[90]?=some Tryz.f90:=Sq.fn Tryz.func90 rfl
@[go_sem] theorem Sq.call90 (args:Array Value) (w:World):Sem.run Sq.prog (callFunc 90 args) w=.ok (.enter 90 args) w:=ag Sq.func90 (by decide +kernel) rfl args w
theorem Sq.func95:Sq.prog.funcs[95]?=some Tryz.f95:=Sq.fn Tryz.func95 rfl
theorem Sq.func96:Sq.prog.funcs[96]?=some Tryz.f96:=Sq.fn Tryz.func96 rfl
theorem Sq.func98:Sq.prog.funcs[98]?=some Tryz.f98:=Sq.fn Tryz.func98 rfl
@[go_sem] theorem Sq.call98 (args:Array Value) (w:World):Sem.run Sq.prog (callFunc 98 args) w=.ok (.enter 98 args) w:=ag Sq.func98 (by decide +kernel) rfl args w
theorem Sq.func99:Sq.prog.funcs[99]?=some Sq.F99:=Sq.f99
@[go_sem] theorem Sq.call99 (args:Array Value) (w:World):Sem.run Sq.prog (callFunc 99 args) w=.ok (.enter 99 args) w:=ag Sq.func99 (by decide +kernel) rfl args w
theorem Sq.func100:Sq.prog.funcs[100]?=some Sq.F100:=Sq.f100
@[go_sem] theorem Sq.call100 (args:Array Value) (w:World):Sem.run Sq.prog (callFunc 100 args) w=.ok (.enter 100 args) w:=ag Sq.func100 (by decide +kernel) rfl args w
theorem Sq.func101:Sq.prog.funcs[101]?=some Tryz.f101:=Sq.fn Tryz.func101 rfl
@[go_sem] theorem Sq.call101 (args:Array Value) (w:World):Sem.run Sq.prog (callFunc 101 args) w=.ok (.enter 101 args) w:=ag Sq.func101 (by decide +kernel) rfl args w
theorem Sq.func102:Sq.prog.funcs[102]?=some Tryz.f102:=Sq.fn Tryz.func102 rfl
@[go_sem] theorem Sq.call102 (args:Array Value) (w:World):Sem.run Sq.prog (callFunc 102 args) w=.ok (.enter 102 args) w:=ag Sq.func102 (by decide +kernel) rfl args w
theorem Sq.func103:Sq.prog.funcs[103]?=some Tryz.f103:=Sq.fn Tryz.func103 rfl
theorem Sq.func104:Sq.prog.funcs[104]?=some Tryz.f104:=Sq.fn Tryz.func104 rfl
theorem Sq.func105:Sq.prog.funcs[105]?=some Tryz.f105:=Sq.fn Tryz.func105 rfl
@[go_sem] theorem Sq.call105 (args:Array Value) (w:World):Sem.run Sq.prog (callFunc 105 args) w=.ok (.enter 105 args) w:=ag Sq.func105 (by decide +kernel) rfl args w
theorem Sq.func106:Sq.prog.funcs[106]?=some Tryz.f106:=Sq.fn Tryz.func106 rfl
@[go_sem] theorem Sq.call106 (args:Array Value) (w:World):Sem.run Sq.prog (callFunc 106 args) w=.ok (.enter 106 args) w:=ag Sq.func106 (by decide +kernel) rfl args w
theorem Sq.func107:Sq.prog.funcs[107]?=some Tryz.f107:=Sq.fn Tryz.func107 rfl
@[go_sem] theorem Sq.call107 (args:Array Value) (w:World):Sem.run Sq.prog (callFunc 107 args) w=.ok (.enter 107 args) w:=ag Sq.func107 (by decide +kernel) rfl args w
theorem Sq.func108:Sq.prog.funcs[108]?=some Tryz.f108:=Sq.fn Tryz.func108 rfl
@[go_sem] theorem Sq.call108 (args:Array Value) (w:World):Sem.run Sq.prog (callFunc 108 args) w=.ok (.enter 108 args) w:=ag Sq.func108 (by decide +kernel) rfl args w
theorem Sq.func109:Sq.prog.funcs[109]?=some Tryz.f109:=Sq.fn Tryz.func109 rfl
@[go_sem] theorem Sq.call109 (args:Array Value) (w:World):Sem.run Sq.prog (callFunc 109 args) w=.ok (.enter 109 args) w:=ag Sq.func109 (by decide +kernel) rfl args w
theorem Sq.func111:Sq.prog.funcs[111]?=some Tryz.f111:=Sq.fn Tryz.func111 rfl
@[go_sem] theorem Sq.call111 (args:Array Value) (w:World):Sem.run Sq.prog (callFunc 111 args) w=.ok (.enter 111 args) w:=ag Sq.func111 (by decide +kernel) rfl args w
theorem Sq.func112:Sq.prog.funcs[112]?=some Tryz.f112:=Sq.fn Tryz.func112 rfl
@[go_sem] theorem Sq.call112 (args:Array Value) (w:World):Sem.run Sq.prog (callFunc 112 args) w=.ok (.enter 112 args) w:=ag Sq.func112 (by decide +kernel) rfl args w
theorem Sq.func113:Sq.prog.funcs[113]?=some Tryz.f113:=Sq.fn Tryz.func113 rfl
@[go_sem] theorem Sq.call113 (args:Array Value) (w:World):Sem.run Sq.prog (callFunc 113 args) w=.ok (.enter 113 args) w:=ag Sq.func113 (by decide +kernel) rfl args w
theorem Sq.func114:Sq.prog.funcs[114]?=some Tryz.f114:=Sq.fn Tryz.func114 rfl
@[go_sem] theorem Sq.call114 (args:Array Value) (w:World):Sem.run Sq.prog (callFunc 114 args) w=.ok (.enter 114 args) w:=ag Sq.func114 (by decide +kernel) rfl args w
theorem Sq.func115:Sq.prog.funcs[115]?=some Tryz.f115:=Sq.fn Tryz.func115 rfl
@[go_sem] theorem Sq.call115 (args:Array Value) (w:World):Sem.run Sq.prog (callFunc 115 args) w=.ok (.enter 115 args) w:=ag Sq.func115 (by decide +kernel) rfl args w
theorem Sq.func117:Sq.prog.funcs[117]?=some Tryz.f117:=Sq.fn Tryz.func117 rfl
@[go_sem] theorem Sq.call117 (args:Array Value) (w:World):Sem.run Sq.prog (callFunc 117 args) w=.ok (.enter 117 args) w:=ag Sq.func117 (by decide +kernel) rfl args w
theorem Sq.func118:Sq.prog.funcs[118]?=some Tryz.f118:=Sq.fn Tryz.func118 rfl
@[go_sem] theorem Sq.call118 (args:Array Value) (w:World):Sem.run Sq.prog (callFunc 118 args) w=.ok (.enter 118 args) w:=ag Sq.func118 (by decide +kernel) rfl args w
theorem Sq.func137:Sq.prog.funcs[137]?=some Tryz.f137:=Sq.fn Tryz.func137 rfl
@[go_sem] theorem Sq.call137 (args:Array Value) (w:World):Sem.run Sq.prog (callFunc 137 args) w=.ok (.enter 137 args) w:=ag Sq.func137 (by decide +kernel) rfl args w
theorem Sq.func140:Sq.prog.funcs[140]?=some Tryz.f140:=Sq.fn Tryz.func140 rfl
theorem Sq.func141:Sq.prog.funcs[141]?=some Tryz.f141:=Sq.fn Tryz.func141 rfl
theorem Sq.func142:Sq.prog.funcs[142]?=some Tryz.f142:=Sq.fn Tryz.func142 rfl
theorem Sq.func143:Sq.prog.funcs[143]?=some Tryz.f143:=Sq.fn Tryz.func143 rfl
theorem Sq.func144:Sq.prog.funcs[144]?=some Tryz.f144:=Sq.fn Tryz.func144 rfl
theorem Sq.func145:Sq.prog.funcs[145]?=some Tryz.f145:=Sq.fn Tryz.func145 rfl
theorem Sq.func146:Sq.prog.funcs[146]?=some Tryz.f146:=Sq.fn Tryz.func146 rfl
theorem Sq.func147:Sq.prog.funcs[147]?=some Tryz.f147:=Sq.fn Tryz.func147 rfl
theorem Sq.func148:Sq.prog.funcs[148]?=some Tryz.f148:=Sq.fn Tryz.func148 rfl
theorem Sq.func149:Sq.prog.funcs[149]?=some Tryz.f149:=Sq.fn Tryz.func149 rfl
theorem Sq.func150:Sq.prog.funcs[150]?=some Tryz.f150:=Sq.fn Tryz.func150 rfl
theorem Sq.func151:Sq.prog.funcs[151]?=some Tryz.f151:=Sq.fn Tryz.func151 rfl
theorem Sq.func152:Sq.prog.funcs[152]?=some Tryz.f152:=Sq.fn Tryz.func152 rfl
@[go_sem] theorem Sq.call152 (args:Array Value) (w:World):Sem.run Sq.prog (callFunc 152 args) w=.ok (.enter 152 args) w:=ag Sq.func152 (by decide +kernel) rfl args w
theorem Sq.func153:Sq.prog.funcs[153]?=some Tryz.f153:=Sq.fn Tryz.func153 rfl
@[go_sem] theorem Sq.call153 (args:Array Value) (w:World):Sem.run Sq.prog (callFunc 153 args) w=.ok (.enter 153 args) w:=ag Sq.func153 (by decide +kernel) rfl args w
theorem Sq.func154:Sq.prog.funcs[154]?=some Tryz.f154:=Sq.fn Tryz.func154 rfl
@[go_sem] theorem Sq.call154 (args:Array Value) (w:World):Sem.run Sq.prog (callFunc 154 args) w=.ok (.enter 154 args) w:=ag Sq.func154 (by decide +kernel) rfl args w
theorem Sq.func155:Sq.prog.funcs[155]?=some Tryz.f155:=Sq.fn Tryz.func155 rfl
@[go_sem] theorem Sq.call155 (args:Array Value) (w:World):Sem.run Sq.prog (callFunc 155 args) w=.ok (.enter 155 args) w:=ag Sq.func155 (by decide +kernel) rfl args w
theorem Sq.func156:Sq.prog.funcs[156]?=some Tryz.f156:=Sq.fn Tryz.func156 rfl
@[go_sem] theorem Sq.call156 (args:Array Value) (w:World):Sem.run Sq.prog (callFunc 156 args) w=.ok (.enter 156 args) w:=ag Sq.func156 (by decide +kernel) rfl args w
theorem Sq.func162:Sq.prog.funcs[162]?=some Tryz.f162:=Sq.fn Tryz.func162 rfl
theorem Sq.func166:Sq.prog.funcs[166]?=some Tryz.f166:=Sq.fn Tryz.func166 rfl
theorem Sq.func167:Sq.prog.funcs[167]?=some Tryz.f167:=Sq.fn Tryz.func167 rfl
theorem Sq.func168:Sq.prog.funcs[168]?=some Tryz.f168:=Sq.fn Tryz.func168 rfl
theorem Sq.func169:Sq.prog.funcs[169]?=some Tryz.f169:=Sq.fn Tryz.func169 rfl
theorem Sq.func170:Sq.prog.funcs[170]?=some Tryz.f170:=Sq.fn Tryz.func170 rfl
theorem Sq.func171:Sq.prog.funcs[171]?=some Tryz.f171:=Sq.fn Tryz.func171 rfl
theorem Sq.func172:Sq.prog.funcs[172]?=some Tryz.f172:=Sq.fn Tryz.func172 rfl
theorem Sq.func173:Sq.prog.funcs[173]?=some Tryz.f173:=Sq.fn Tryz.func173 rfl
theorem Sq.func174:Sq.prog.funcs[174]?=some Tryz.f174:=Sq.fn Tryz.func174 rfl
theorem Sq.func175:Sq.prog.funcs[175]?=some Tryz.f175:=Sq.fn Tryz.func175 rfl
theorem Sq.func176:Sq.prog.funcs[176]?=some Tryz.f176:=Sq.fn Tryz.func176 rfl
theorem Sq.func177:Sq.prog.funcs[177]?=some Tryz.f177:=Sq.fn Tryz.func177 rfl
theorem Sq.func178:Sq.prog.funcs[178]?=some Tryz.f178:=Sq.fn Tryz.func178 rfl
theorem Sq.func179:Sq.prog.funcs[179]?=some Tryz.f179:=Sq.fn Tryz.func179 rfl
@[go_sem] theorem Sq.call179 (args:Array Value) (w:World):Sem.run Sq.prog (callFunc 179 args) w=.ok (.enter 179 args) w:=ag Sq.func179 (by decide +kernel) rfl args w
theorem Sq.func187:Sq.prog.funcs[187]?=some Tryz.f187:=Sq.fn Tryz.func187 rfl
theorem Sq.func188:Sq.prog.funcs[188]?=some Tryz.f188:=Sq.fn Tryz.func188 rfl
theorem Sq.func189:Sq.prog.funcs[189]?=some Tryz.f189:=Sq.fn Tryz.func189 rfl
theorem Sq.func190:Sq.prog.funcs[190]?=some Tryz.f190:=Sq.fn Tryz.func190 rfl
theorem Sq.func191:Sq.prog.funcs[191]?=some Tryz.f191:=Sq.fn Tryz.func191 rfl
theorem Sq.underlying22:Sq.prog.underlying 22=some (.slice 3):=(Sq.underlying 22).trans Tryz.underlying22
theorem Sq.underlying36:Sq.prog.underlying 36=some (.slice 22):=(Sq.underlying 36).trans Tryz.underlying36
theorem Sq.underlying23:Sq.prog.underlying 23=some (.slice 54):=(Sq.underlying 23).trans Tryz.underlying23
theorem Sq.underlying147:Sq.prog.underlying 147=some (.slice 89):=(Sq.underlying 147).trans Tryz.underlying147
end Go.Proofs.YtgicaeombogkcaaGreat
namespace Go.Iso
structure Two where
 a:Program
 fs:Array Func
def Two.b (P:Two):Program:={ P.a with funcs:=P.fs }
theorem Two.underlying (P:Two) (t:TypeId):P.b.underlying t=P.a.underlying t:=rfl
theorem Two.info (P:Two) (t:TypeId):P.b.info? t=P.a.info? t:=rfl
abbrev Bij:=Nat->Nat->Prop
structure Bij.Fine (G:Nat) (β:Bij):Prop where
 fn:∀ {b B B'},β b B->β b B'->B=B'
 inj:∀ {b b' B},β b B->β b' B->b=b'
 lo:∀ {b B},β b B->G<=b∧G<=B
def Bij.le (β β':Bij):Prop:=∀ b B,β b B->β' b B
theorem Bij.le_refl (β:Bij):β.le β:=fun _ _ h=>h
theorem Bij.le_trans {a b c:Bij} (h:a.le b) (h':b.le c):a.le c:=fun _ _ x=>h' _ _ (h _ _ x)
structure Hid where
 at_:Nat->Bool
 twin:Bool
 bl:Bool
instance:CoeFun Hid (fun _=>Nat->Bool):=⟨Hid.at_⟩
structure Par where
 fn:FuncId->Prop
 hid:Hid
 fr:FuncId->Prop
inductive FRel (S:Par) (β:Bij):Fn->Fn->Prop
 | func {f:FuncId}:S.fn f->FRel S β (.func f) (.func f)
 | yield {l L:Nat}:β l L->S.hid l=false->FRel S β (.yield l) (.yield L)
def hole:Value:=.chan (some 0)
def big:TypeId:=1000000000
def hm:Value:=.func (.method "") #[.iface big undef] #[]
def hd (a:Array Value):Deferred:=⟨.fn (.method "") #[],#[.iface big undef]++a⟩
def lg:Value->Bool
 | .agg _ | .tuple _ | .pointer none | .nilIface | .nilFunc | .bool _ | .int _ _ | .string _ | .func (.method _) _ _=>false
 | _=>true
inductive VRel (S:Par) (β:Bij):Value->Value->Prop
 | bool (b:Bool):VRel S β (.bool b) (.bool b)
 | int (k:IntKind) (n:Int):VRel S β (.int k n) (.int k n)
 | string (s:ByteArray):VRel S β (.string s) (.string s)
 | nilp:VRel S β (.pointer none) (.pointer none)
 | ptr {b B:Nat} (o:Nat) (s:Option Nat):β b B->VRel S β (.pointer (some ⟨b,o,s⟩)) (.pointer (some ⟨B,o,s⟩))
 | nils (l c:Nat):VRel S β (.slice none l c) (.slice none l c)
 | slice {b B:Nat} (o:Nat) (s:Option Nat) (l c:Nat):β b B->VRel S β (.slice (some ⟨b,o,s⟩) l c) (.slice (some ⟨B,o,s⟩) l c)
 | func {f F : Fn} {x X c C : Array Value} : FRel S β f F -> x.size = X.size -> (∀ (i : Nat) (v V : Value), x[i]? = some v -> X[i]? = some V -> VRel S β v V) ->
   c.size=C.size->(∀ (i:Nat) (v V:Value),c[i]?=some v->C[i]?=some V->VRel S β v V)->VRel S β (.func f x c) (.func F X C)
 | nilFunc:VRel S β .nilFunc .nilFunc
 | nilMap:VRel S β (.map none) (.map none)
 | nilChan:VRel S β (.chan none) (.chan none)
 | nilIface:VRel S β .nilIface .nilIface
 | iface (t:TypeId) {v V:Value}:VRel S β v V->VRel S β (.iface t v) (.iface t V)
 | agg {x X:Array Value}:x.size=X.size->(∀ (i:Nat) (v V:Value),x[i]?=some v->X[i]?=some V->VRel S β v V)->VRel S β (.agg x) (.agg X)
 | tuple {x X:Array Value}:x.size=X.size->(∀ (i:Nat) (v V:Value),x[i]?=some v->X[i]?=some V->VRel S β v V)->VRel S β (.tuple x) (.tuple X)
 | blank {V:Value}:(V=hole∨S.hid.bl=true)->lg V=true->VRel S β hole V
 | blankM {n:String} {x c:Array Value}:(Value.func (.method n) x c=hm∨S.hid.bl=true)->VRel S β hm (.func (.method n) x c)
structure AsRel (S:Par) (β:Bij) (x X:Array Value):Prop where
 size:x.size=X.size
 at_:∀ (i:Nat) (v V:Value),x[i]?=some v->X[i]?=some V->VRel S β v V
section
variable {S:Par} {β β':Bij}
theorem FRel.mono (h:β.le β') {f F:Fn} (r:FRel S β f F):FRel S β' f F:=by
 cases r with
 | func s=>exact .func s
 | yield l k=>exact .yield (h _ _ l) k
theorem VRel.mono (h:β.le β') {v V:Value} (r:VRel S β v V):VRel S β' v V:=by
 induction r with
 | bool b=>exact .bool b
 | int k n=>exact .int k n
 | string s=>exact .string s
 | nilp=>exact .nilp
 | ptr o s hb=>exact .ptr o s (h _ _ hb)
 | nils l c=>exact .nils l c
 | slice o s l c hb=>exact .slice o s l c (h _ _ hb)
 | func hf h1 _ h2 _ i1 i2=>exact .func (hf.mono h) h1 i1 h2 i2
 | nilFunc=>exact .nilFunc
 | nilMap=>exact .nilMap
 | nilChan=>exact .nilChan
 | nilIface=>exact .nilIface
 | iface t _ ih=>exact .iface t ih
 | agg h1 _ i1=>exact .agg h1 i1
 | tuple h1 _ i1=>exact .tuple h1 i1
 | blank h1 h2=>exact .blank h1 h2
 | blankM h1=>exact .blankM h1
theorem AsRel.mono (h:β.le β') {x X:Array Value} (r:AsRel S β x X):AsRel S β' x X:=⟨r.size,fun i v V a b=>(r.at_ i v V a b).mono h⟩
theorem AsRel.agg {x X:Array Value} (r:AsRel S β x X):VRel S β (.agg x) (.agg X):=.agg r.size r.at_
theorem AsRel.tuple {x X:Array Value} (r:AsRel S β x X):VRel S β (.tuple x) (.tuple X):=.tuple r.size r.at_
theorem VRel.undef (S:Par) (β:Bij):VRel S β undef undef:=.tuple rfl (by simp)
theorem AsRel.empty:AsRel S β #[] #[]:=⟨rfl,by simp⟩
theorem AsRel.get? {x X:Array Value} (r:AsRel S β x X) {i:Nat} {v:Value} (h:x[i]?=some v):∃ V,X[i]?=some V∧VRel S β v V:=by
 have hi:i<X.size:=by rw [<- r.size];exact (Array.getElem?_eq_some_iff.1 h).1
 exact ⟨X[i],Array.getElem?_eq_getElem hi,r.at_ i v _ h (Array.getElem?_eq_getElem hi)⟩
theorem AsRel.get_none {x X:Array Value} (r:AsRel S β x X) {i:Nat} (h:x[i]?=none):X[i]?=none:=by
 rw [Array.getElem?_eq_none_iff] at h ⊢
 rw [<- r.size];exact h
theorem AsRel.getD {x X:Array Value} (r:AsRel S β x X) (i:Nat) {d D:Value} (hd:VRel S β d D):VRel S β (x.getD i d) (X.getD i D):=by
 rw [Array.getD_eq_getD_getElem?,Array.getD_eq_getD_getElem?]
 cases h:x[i]? with
 | none=>rw [r.get_none h];exact hd
 | some v=>obtain ⟨V,hV,hr⟩:=r.get? h;rw [hV];exact hr
theorem AsRel.push {x X:Array Value} (r:AsRel S β x X) {v V:Value} (h:VRel S β v V):AsRel S β (x.push v) (X.push V):=by
 refine ⟨by simp [r.size],fun i a A ha hA=>?_⟩
 rw [Array.getElem?_push] at ha hA
 rw [r.size] at ha
 split at ha
 ·rw [if_pos ‹_›] at hA;cases ha;cases hA;exact h
 ·rw [if_neg ‹_›] at hA;exact r.at_ i a A ha hA
theorem AsRel.append {x X y Y:Array Value} (r:AsRel S β x X) (s:AsRel S β y Y):AsRel S β (x++y) (X++Y):=by
 refine ⟨by simp [r.size,s.size],fun i a A ha hA=>?_⟩
 rw [Array.getElem?_append] at ha hA
 rw [r.size] at ha
 split at ha
 ·rw [if_pos ‹_›] at hA;exact r.at_ i a A ha hA
 ·rw [if_neg ‹_›] at hA;exact s.at_ _ a A ha hA
theorem AsRel.one {v V:Value} (h:VRel S β v V):AsRel S β #[v] #[V]:=by simpa using AsRel.empty.push h
theorem AsRel.extract {x X:Array Value} (r:AsRel S β x X) (a b:Nat):AsRel S β (x.extract a b) (X.extract a b):=by
 refine ⟨by simp [r.size],fun i v V hv hV=>?_⟩
 rw [Array.getElem?_extract] at hv hV
 rw [r.size] at hv
 split at hv
 ·rw [if_pos ‹_›] at hV;exact r.at_ _ v V hv hV
 ·cases hv
theorem AsRel.set {x X:Array Value} (r:AsRel S β x X) (i:Nat) {v V:Value} (h:VRel S β v V):AsRel S β (x.setIfInBounds i v) (X.setIfInBounds i V):=by
 refine ⟨by simp [r.size],fun j a A ha hA=>?_⟩
 rw [Array.getElem?_setIfInBounds] at ha hA
 rw [r.size] at ha
 split at ha
 ·rw [if_pos ‹_›] at hA
  split at ha
  ·rw [if_pos ‹_›] at hA;cases ha;cases hA;exact h
  ·cases ha
 ·rw [if_neg ‹_›] at hA;exact r.at_ j a A ha hA
theorem AsRel.replicate {v V:Value} (h:VRel S β v V) (n:Nat):AsRel S β (Array.replicate n v) (Array.replicate n V):=by
 refine ⟨by simp,fun i a A ha hA=>?_⟩
 rw [Array.getElem?_replicate] at ha hA
 split at ha
 ·rw [if_pos ‹_›] at hA;cases ha;cases hA;exact h
 ·cases ha
theorem AsRel.map {α:Type} (l:Array α) {f F:α->Value} (h:∀ x∈l,VRel S β (f x) (F x)):AsRel S β (l.map f) (l.map F):=by
 refine ⟨by simp,fun i a A ha hA=>?_⟩
 rw [Array.getElem?_map] at ha hA
 cases hx:l[i]? with
 | none=>rw [hx] at ha;cases ha
 | some x =>
  rw [hx] at ha hA
  cases ha;cases hA
  exact h x (Array.mem_of_getElem? hx)
theorem VRel.cells {v V:Value} (r:VRel S β v V):AsRel S β v.cells V.cells:=by
 cases r with
 | agg h1 h2=>exact ⟨h1,h2⟩
 | bool b=>exact AsRel.one (.bool b)
 | int k n=>exact AsRel.one (.int k n)
 | string s=>exact AsRel.one (.string s)
 | nilp=>exact AsRel.one .nilp
 | ptr o s hb=>exact AsRel.one (.ptr o s hb)
 | nils l c=>exact AsRel.one (.nils l c)
 | slice o s l c hb=>exact AsRel.one (.slice o s l c hb)
 | func hf h1 a1 h2 a2=>exact AsRel.one (.func hf h1 a1 h2 a2)
 | nilFunc=>exact AsRel.one .nilFunc
 | nilMap=>exact AsRel.one .nilMap
 | nilChan=>exact AsRel.one .nilChan
 | nilIface=>exact AsRel.one .nilIface
 | iface t r=>exact AsRel.one (.iface t r)
 | tuple h1 a1=>exact AsRel.one (.tuple h1 a1)
 | blank h1 h2 =>
  rw [show V.cells=#[V] by cases V<;>first | rfl | cases h2]
  exact AsRel.one (.blank h1 h2)
 | blankM h1=>exact AsRel.one (.blankM h1)
end
inductive DRel (S:Par) (β:Bij):Deferred->Deferred->Prop
 | fn {f F:Fn} {c C a A:Array Value}:FRel S β f F->AsRel S β c C->AsRel S β a A->DRel S β ⟨.fn f c,a⟩ ⟨.fn F C,A⟩
 | nil {a A:Array Value}:AsRel S β a A->DRel S β ⟨.nil,a⟩ ⟨.nil,A⟩
 | collected {r R:Nat}:β r R->S.hid r=false->DRel S β ⟨.collected r,#[]⟩ ⟨.collected R,#[]⟩
 | blankM {d D:Deferred} (a A:Array Value):AsRel S β a A->d=hd a->(D=hd A∨(S.hid.bl=true∧∃ n c x,D=⟨.fn (.method n) c,x++A⟩))->DRel S β d D
inductive LRel {α:Type} (R:α->α->Prop):List α->List α->Prop
 | nil:LRel R [] []
 | cons {a A:α} {l L:List α}:R a A->LRel R l L->LRel R (a :: l) (A :: L)
theorem LRel.mono {α:Type} {R R':α->α->Prop} (h:∀ a A,R a A->R' a A) {l L:List α} (r:LRel R l L):LRel R' l L:=by
 induction r with
 | nil=>exact .nil
 | cons a _ ih=>exact .cons (h _ _ a) ih
theorem LRel.append {α:Type} {R:α->α->Prop} {l L m M:List α} (r:LRel R l L) (s:LRel R m M):LRel R (l++m) (L++M):=by
 induction r with
 | nil=>exact s
 | cons a _ ih=>exact .cons a ih
theorem DRel.mono {S:Par} {β β':Bij} (h:β.le β') {d D:Deferred} (r:DRel S β d D):DRel S β' d D:=by
 cases r with
 | fn f c a=>exact .fn (f.mono h) (c.mono h) (a.mono h)
 | nil a=>exact .nil (a.mono h)
 | collected r k=>exact .collected (h _ _ r) k
 | blankM a A h1 h2 h3=>exact .blankM a A (h1.mono h) h2 h3
inductive ORel (S:Par) (Ck:Code->Prop) (β:Bij):Obj->Obj->Prop
 | cells {c C:Array Value} {t:TypeId} {f F:Nat×Nat}:AsRel S β c C->(∀ i,F.1<=i->i<F.2->f.1<=i∧i<f.2)->ORel S Ck β (.cells c t f) (.cells C t F)
 | loop {st : LoopState} {pe : Option Code} {fn : FuncId} {x X : Array Value} {ps : Array Tmp} {s5 bo : Code} {d D : Nat} :
   (S.fr fn∧∀ c,pe=some c->Ck c)->Ck s5->Ck bo->AsRel S β x X->β d D->S.hid d=false->ORel S Ck β (.loop ⟨st,pe,fn,x,ps,s5,bo,d⟩) (.loop ⟨st,pe,fn,X,ps,s5,bo,D⟩)
 | number {b B:Nat} (o:Nat) (s:Option Nat) (lost:Bool):β b B->ORel S Ck β (.number ⟨b,o,s⟩ lost) (.number ⟨B,o,s⟩ lost)
 | taken:ORel S Ck β (.deferred none) (.deferred none)
 | defs {l L:List Deferred}:LRel (DRel S β) l L->ORel S Ck β (.deferred (some l)) (.deferred (some L))
theorem ORel.mono {S:Par} {Ck:Code->Prop} {β β':Bij} (h:β.le β') {o O:Obj} (r:ORel S Ck β o O):ORel S Ck β' o O:=by
 cases r with
 | cells a f=>exact .cells (a.mono h) f
 | loop p a b x d k=>exact .loop p a b (x.mono h) (h _ _ d) k
 | number o s l hb=>exact .number o s l (h _ _ hb)
 | taken=>exact .taken
 | defs l=>exact .defs (l.mono fun _ _=>DRel.mono h)
def Bij.isId (β:Bij):Prop:=∀ b B,β b B->b=B
def IdB (H:Hid) (β:Bij):Prop:=H.bl=false∧β.isId
theorem FRel.id {S:Par} {β:Bij} (h:β.isId) {f F:Fn} (r:FRel S β f F):f=F:=by
 cases r with
 | func _=>rfl
 | yield hl _=>rw [h _ _ hl]
theorem VRel.id {S:Par} {β:Bij} (h:IdB S.hid β) {v V:Value} (r:VRel S β v V):v=V:=by
 have arr:∀ (x X:Array Value),x.size=X.size->(∀ (i:Nat) (v V:Value),x[i]?=some v->X[i]?=some V->v=V)->x=X:=fun x X hs ha=>by
  refine Array.ext hs fun i h1 h2=>?_
  exact ha i _ _ (Array.getElem?_eq_getElem h1) (Array.getElem?_eq_getElem h2)
 induction r with
 | ptr o s hb=>rw [h.2 _ _ hb]
 | slice o s l c hb=>rw [h.2 _ _ hb]
 | func hf h1 _ h2 _ i1 i2=>rw [hf.id h.2,arr _ _ h1 i1,arr _ _ h2 i2]
 | iface t _ ih=>rw [ih]
 | agg h1 _ i1=>rw [arr _ _ h1 i1]
 | tuple h1 _ i1=>rw [arr _ _ h1 i1]
 | blank h1 _=>exact h1.elim Eq.symm fun h1=>by rw [h.1] at h1;cases h1
 | blankM h1=>exact h1.elim Eq.symm fun h1=>by rw [h.1] at h1;cases h1
 | _=>rfl
theorem AsRel.id {S:Par} {β:Bij} (h:IdB S.hid β) {x X:Array Value} (r:AsRel S β x X):x=X :=
 Array.ext r.size fun i h1 h2=>(r.at_ i _ _ (Array.getElem?_eq_getElem h1) (Array.getElem?_eq_getElem h2)).id h
theorem LRel.id {α:Type} {R:α->α->Prop} (h:∀ a A,R a A->a=A) {l L:List α} (r:LRel R l L):l=L:=by
 induction r with
 | nil=>rfl
 | cons ha _ ih=>rw [h _ _ ha,ih]
theorem DRel.id {S:Par} {β:Bij} (h:IdB S.hid β) {d D:Deferred} (r:DRel S β d D):d=D:=by
 cases r with
 | fn f c a=>rw [f.id h.2,c.id h,a.id h]
 | nil a=>rw [a.id h]
 | collected r _=>rw [h.2 _ _ r]
 | blankM a A h1 h2 h3 =>
  rw [h2,h1.id h]
  exact h3.elim Eq.symm fun h1=>by have:=h1.1;rw [h.1] at this;cases this
theorem ORel.id {S:Par} {Ck:Code->Prop} {β:Bij} (h:IdB S.hid β) {o O:Obj} (r:ORel S Ck β o O) (hn:∀ c t f,o≠.cells c t f):o=O:=by
 cases r with
 | cells=>exact absurd rfl (hn _ _ _)
 | loop p a b x d k=>rw [x.id h,h.2 _ _ d]
 | number o s l hb=>rw [h.2 _ _ hb]
 | taken=>rfl
 | defs l=>rw [l.id fun _ _=>DRel.id h]
structure WRel (S:Par) (Ck:Code->Prop) (G:Nat) (β:Bij) (w W:World):Prop where
 fine:β.Fine G
 room:G<=w.heap.size∧G<=W.heap.size
 objs:∀ b B,β b B->S.hid b=false->∃ o O,w.heap[b]?=some o∧W.heap[B]?=some O∧ORel S Ck β o O
 hids:∀ b B,β b B->S.hid b=true->w.heap[b]?=some (.coro none)∧(S.hid.twin=false->∃ c t f,W.heap[B]?=some (.cells c t f))∧(S.hid.twin=true->W.heap[B]?=some (.coro none))
 old:∀ b,S.hid b=true->b<w.heap.size
 env:w.os.env=W.os.env
def TRel (n:Nat) (w W:World):Prop:=∀ i,i<n->∀ q,w.tape (w.drawn+i) q=W.tape (W.drawn+i) q
inductive MOk:Mark->Prop
 | extern (f:FuncId):MOk (.extern f)
 | noRoom:MOk .noRoom
def kindOf:Obj->Nat
 | .cells c _ _=>c.size+3
 | .coro none=>1
 | _=>2
inductive EOk (β:Bij) (w:World):Event->Prop
 | cell {a A:Addr} {wr sy:Bool}:β a.block A.block->a.off=A.off->(∃ n,(w.heap[a.block]?).map kindOf=some (n+3)∧a.off<n)->(wr=true->w.frozen? a=false)->EOk β w ⟨.cell A,wr,sy⟩
 | obj {r R:Nat} {wr sy:Bool}:β r R->(w.heap[r]?).map kindOf=some 2->EOk β w ⟨.obj R,wr,sy⟩
 | mark {M:Mark} {wr sy:Bool}:MOk M->EOk β w ⟨.mark M,wr,sy⟩
 | out {wr sy:Bool}:EOk β w ⟨.output,wr,sy⟩
structure Fin (S:Par) (Ck:Code->Prop) (G:Nat) (β β':Bij) (w W w' W':World) (ES:List Event):Prop where
 le:β.le β'
 rel:WRel S Ck G β' w' W'
 tape:w'.tape=w.tape
 TAPE:W'.tape=W.tape
 drawn:w.drawn<=w'.drawn
 draws:W'.drawn+w.drawn=W.drawn+w'.drawn
 os:w'.os=w.os
 OS:W'.os=W.os
 out:w'.output=w.output
 OUT:W'.output=W.output
 size:w.heap.size<=w'.heap.size
 SIZE:W.heap.size<=W'.heap.size
 new:∀ b B,β' b B->β b B∨(w.heap.size<=b∧W.heap.size<=B)
 NEW:∀ B,W.heap.size<=B->B<W'.heap.size->∃ b,β' b B
 frozen:∀ a:Addr,a.block<w.heap.size->w'.frozen? a=w.frozen? a
 KEPT:∀ B,B<W.heap.size->(∀ b,¬ β b B)->W'.heap[B]?=W.heap[B]?
 ro:∀ b B c t f,β b B->w.heap[b]?=some (.cells c t f)->(∀ i,i<c.size->f.1<=i∧i<f.2)->w'.heap[b]?=w.heap[b]?∧W'.heap[B]?=W.heap[B]?
 kind:∀ b,b<w.heap.size->(w'.heap[b]?).map kindOf=(w.heap[b]?).map kindOf
 evs:S.hid.twin=false->∀ E∈ES,EOk β' w' E
 same:IdB S.hid β->w.heap=W.heap->IdB S.hid β'∧w'.heap=W'.heap
 hk:∀ b B,β b B->S.hid b=true->W'.heap[B]?=W.heap[B]?
section
variable {S:Par} {Ck:Code->Prop} {G:Nat} {β β' β'':Bij} {w W w' W' w'' W'':World} {ES ES':List Event}
theorem WRel.lt (h:WRel S Ck G β w W) {b B:Nat} (hb:β b B):b<w.heap.size∧B<W.heap.size:=by
 cases hh:S.hid b with
 | false =>
  obtain ⟨o,O,h1,h2,_⟩:=h.objs b B hb hh
  exact ⟨(Array.getElem?_eq_some_iff.1 h1).1,(Array.getElem?_eq_some_iff.1 h2).1⟩
 | true =>
  obtain ⟨h1,h2,h3⟩:=h.hids b B hb hh
  refine ⟨(Array.getElem?_eq_some_iff.1 h1).1,?_⟩
  cases ht:S.hid.twin with
  | false=>obtain ⟨c,t,f,h2⟩:=h2 ht;exact (Array.getElem?_eq_some_iff.1 h2).1
  | true=>exact (Array.getElem?_eq_some_iff.1 (h3 ht)).1
theorem Fin.refl (h:WRel S Ck G β w W):Fin S Ck G β β w W w W [] where
 le:=β.le_refl
 rel:=h
 tape:=rfl
 TAPE:=rfl
 drawn:=Nat.le_refl _
 draws:=rfl
 os:=rfl
 OS:=rfl
 out:=rfl
 OUT:=rfl
 size:=Nat.le_refl _
 SIZE:=Nat.le_refl _
 new:=fun _ _ h=>.inl h
 NEW:=fun B h1 h2=>absurd h2 (by omega)
 frozen:=fun _ _=>rfl
 KEPT:=fun _ _ _=>rfl
 ro:=fun _ _ _ _ _ _ _ _=>⟨rfl,rfl⟩
 kind:=fun _ _=>rfl
 evs:=by simp
 same:=fun h e=>⟨h,e⟩
 hk:=fun _ _ _ _=>rfl
theorem Fin.trans (h:Fin S Ck G β β' w W w' W' ES) (k:Fin S Ck G β' β'' w' W' w'' W'' ES'):Fin S Ck G β β'' w W w'' W'' (ES++ES') where
 le:=Bij.le_trans h.le k.le
 rel:=k.rel
 tape:=k.tape.trans h.tape
 TAPE:=k.TAPE.trans h.TAPE
 drawn:=Nat.le_trans h.drawn k.drawn
 draws:=by have:=h.draws;have:=k.draws;omega
 os:=k.os.trans h.os
 OS:=k.OS.trans h.OS
 out:=k.out.trans h.out
 OUT:=k.OUT.trans h.OUT
 size:=Nat.le_trans h.size k.size
 SIZE:=Nat.le_trans h.SIZE k.SIZE
 new:=fun b B hb=>by
  rcases k.new b B hb with h1 | ⟨h1,h2⟩
  ·exact h.new b B h1
  ·exact .inr ⟨Nat.le_trans h.size h1,Nat.le_trans h.SIZE h2⟩
 NEW:=fun B h1 h2=>by
  by_cases hB:B<W'.heap.size
  ·obtain ⟨b,hb⟩:=h.NEW B h1 hB
   exact ⟨b,k.le _ _ hb⟩
  ·exact k.NEW B (by omega) h2
 frozen:=fun a ha=>(k.frozen a (Nat.lt_of_lt_of_le ha h.size)).trans (h.frozen a ha)
 KEPT:=fun B hB hn=>by
  refine (k.KEPT B (Nat.lt_of_lt_of_le hB h.SIZE) (fun b hb=>?_)).trans (h.KEPT B hB hn)
  rcases h.new b B hb with h1 | ⟨_,h2⟩
  ·exact hn b h1
  ·omega
 ro:=fun b B c t f hb hc hf=>by
  obtain ⟨e1,e2⟩:=h.ro b B c t f hb hc hf
  obtain ⟨k1,k2⟩:=k.ro b B c t f (h.le _ _ hb) (e1.trans hc) hf
  exact ⟨k1.trans e1,k2.trans e2⟩
 kind:=fun b hb=>(k.kind b (Nat.lt_of_lt_of_le hb h.size)).trans (h.kind b hb)
 evs:=fun ht E hE=>by
  rcases List.mem_append.1 hE with hE | hE
  ·have:=h.evs ht E hE
   cases this with
   | cell hb ho hc hw =>
    have hl:=(h.rel.lt hb).1
    exact .cell (k.le _ _ hb) ho (let ⟨n,h1,h2⟩:=hc;⟨n,(k.kind _ hl).trans h1,h2⟩) (fun e=>(k.frozen _ hl).trans (hw e))
   | obj hr hc=>exact .obj (k.le _ _ hr) ((k.kind _ (h.rel.lt hr).1).trans hc)
   | mark hm=>exact .mark hm
   | out=>exact .out
  ·exact k.evs ht E hE
 same:=fun i e=>let ⟨a,b⟩:=h.same i e;k.same a b
 hk:=fun b B hb hh=>(k.hk b B (h.le _ _ hb) hh).trans (h.hk b B hb hh)
theorem TRel.rest {n:Nat} (h:TRel n w W) (k:Fin S Ck G β β' w W w' W' ES):TRel (n - (w'.drawn - w.drawn)) w' W':=by
 intro i hi q
 have h1:=k.drawn
 have h2:=k.draws
 have:=h (w'.drawn - w.drawn+i) (by omega) q
 rw [k.tape,k.TAPE]
 rw [show w.drawn+(w'.drawn - w.drawn+i)=w'.drawn+i from by omega,show W.drawn+(w'.drawn - w.drawn+i)=W'.drawn+i from by omega] at this
 exact this
end
def world {α:Type}:Result α->World
 | .ok _ w=>w
 | .halt _ w=>w
theorem mZ {α:Type}:∀ (a:Ask α) (w:World),w.drawn<=(w.ask a).2.drawn:=by
 intro a
 induction a with
 | done a=>intro w;exact Nat.le_refl _
 | ask what range k ih =>
  intro w
  simp only [World.ask]
  split
  ·exact ih _ _
  ·exact Nat.le_trans (Nat.le_succ w.drawn) (ih _ { w with drawn:=w.drawn+1 })
theorem sys_drawn (w:World) (c:Sys):w.drawn<=(w.sys c).2.drawn:=by
 have h:=mZ (Kernel.perform c w.os) w
 unfold World.sys
 generalize w.ask (Kernel.perform c w.os)=r at h
 obtain ⟨⟨r,os⟩,w'⟩:=r
 cases r<;>first | exact h | exact Nat.le_refl _
theorem gK {p:Program} {w w':World} {at_ k:Addr} {u:TypeId} {v:Value} {b:Bool} {l:List Addr} (h:w.viewStore p at_ u k v b=.ok (w',l)):w'.drawn=w.drawn:=by
 unfold World.viewStore at h
 simp only [bind,Except.bind,pure,Except.pure] at h
 repeat' (split at h)
 all_goals first | (cases h;rfl) | cases h
theorem iD {p:Program} {w w':World} {a:Addr} {v:Value} {b:Bool} {l:List Addr} (h:w.farStore p a v b=.ok (w',l)):w'.drawn=w.drawn:=by
 unfold World.farStore at h
 split at h
 ·split at h
  ·rename_i r hr
   cases h
   exact gK hr
  ·cases h
 ·cases h
theorem cz {α:Type} (P:Program) (md:Mode) (a:Addr) (v:Value) (k:Sem α) (w:World) (es:Array Event) (h1:∀ x,v≠.agg x) (h2:∀ x,v≠.tuple x) :
  (Sem.store md a v k).runT P w es=match w.cell? a with
   | some _=>if w.frozen? a then (.halt (.unsupported (.unsafePointer "a write to bytes that a string shares")) w,es)
     else k.runT P (w.setCell a v) (es.push ⟨.cell a,true,md==.atomic⟩)
   | none => match w.farStore P a v (md == .atomic) with
     | .ok (w,touched)=>k.runT P w (es++touched.toArray.map (⟨.cell ·,true,md==.atomic⟩))
     | .error h=>(.halt h w,es):=by
 cases v<;>first | exact absurd rfl (h1 _) | exact absurd rfl (h2 _) | rfl
theorem drawn_mono {α:Type} (P:Program) (m:Sem α):∀ (w:World) (es:Array Event),w.drawn<=(world (m.runT P w es).1).drawn:=by
 induction m with
 | pure a=>intro w es;exact Nat.le_refl _
 | load md a k ih =>
  intro w es
  simp only [Sem.runT]
  split
  ·exact ih _ _ _
  ·split
   ·exact ih _ _ _
   ·exact Nat.le_refl _
 | store md a v k ih =>
  intro w es
  by_cases h1:∃ x,v=.agg x
  ·obtain ⟨x,rfl⟩:=h1;exact Nat.le_refl _
  by_cases h2:∃ x,v=.tuple x
  ·obtain ⟨x,rfl⟩:=h2;exact Nat.le_refl _
  rw [cz P md a v k w es (fun x e=>h1 ⟨x,e⟩) (fun x e=>h2 ⟨x,e⟩)]
  split
  ·split
   ·exact Nat.le_refl _
   ·exact ih (w.setCell a v) _
  ·split
   ·rename_i w' l hw
    have:=iD hw
    exact Nat.le_trans (Nat.le_of_eq this.symm) (ih _ _)
   ·exact Nat.le_refl _
 | new o k ih=>intro w es;exact ih _ { w with heap:=w.heap.push o } _
 | shape r k ih=>intro w es;exact ih _ _ _
 | freeze a n k ih=>intro w es;exact Nat.le_trans (by unfold World.freeze;split<;>exact Nat.le_refl _) (ih _ _)
 | frozen a k ih=>intro w es;exact ih _ _ _
 | getObj r k ih =>
  intro w es
  simp only [Sem.runT]
  split
  ·exact Nat.le_refl _
  ·exact ih _ _ _
  ·exact Nat.le_refl _
 | setObj r o k ih =>
  intro w es
  simp only [Sem.runT]
  split
  ·exact Nat.le_refl _
  ·exact ih { w with heap:=w.heap.setIfInBounds r o } _
  ·exact Nat.le_refl _
 | choose q k ih =>
  intro w es
  simp only [Sem.runT]
  split
  ·exact ih _ _ _
  ·exact Nat.le_trans (Nat.le_succ w.drawn) (ih _ { w with drawn:=w.drawn+1 } _)
 | sys c k ih=>intro w es;exact Nat.le_trans (sys_drawn w c) (ih _ _ _)
 | program k ih=>intro w es;exact ih _ _ _
 | mark m k ih=>intro w es;exact ih _ _
 | halt h=>intro w es;exact Nat.le_refl _
theorem aj {α γ:Type} (P:Program) (m:Sem α) (k:α->Sem γ):∀ (w:World) (es:Array Event),(m >>= k).runT P w es =
  match m.runT P w es with
  | (.ok a w',es')=>(k a).runT P w' es'
  | (.halt h w',es')=>(.halt h w',es'):=by
 induction m with
 | pure a=>intro w es;rfl
 | load md a k' ih =>
  intro w es
  show ((Sem.load md a fun v=>(k' v) >>= k)).runT P w es=_
  simp only [Sem.runT]
  split
  ·exact ih _ _ _
  ·split
   ·exact ih _ _ _
   ·rfl
 | store md a v k' ih =>
  intro w es
  show ((Sem.store md a v (k' >>= k))).runT P w es=_
  by_cases h1:∃ x,v=.agg x
  ·obtain ⟨x,rfl⟩:=h1;rfl
  by_cases h2:∃ x,v=.tuple x
  ·obtain ⟨x,rfl⟩:=h2;rfl
  rw [cz P md a v _ w es (fun x e=>h1 ⟨x,e⟩) (fun x e=>h2 ⟨x,e⟩),cz P md a v _ w es (fun x e=>h1 ⟨x,e⟩) (fun x e=>h2 ⟨x,e⟩)]
  split
  ·split
   ·rfl
   ·exact ih _ _
  ·split
   ·exact ih _ _
   ·rfl
 | new o k' ih=>intro w es;exact ih _ _ _
 | shape r k' ih=>intro w es;exact ih _ _ _
 | freeze a n k' ih=>intro w es;exact ih _ _
 | frozen a k' ih=>intro w es;exact ih _ _ _
 | getObj r k' ih =>
  intro w es
  show ((Sem.getObj r fun v=>(k' v) >>= k)).runT P w es=_
  simp only [Sem.runT]
  split
  ·rfl
  ·exact ih _ _ _
  ·rfl
 | setObj r o k' ih =>
  intro w es
  show ((Sem.setObj r o (k' >>= k))).runT P w es=_
  simp only [Sem.runT]
  split
  ·rfl
  ·exact ih _ _
  ·rfl
 | choose q k' ih =>
  intro w es
  show ((Sem.choose q fun v=>(k' v) >>= k)).runT P w es=_
  simp only [Sem.runT]
  split
  ·exact ih _ _ _
  ·exact ih _ _ _
 | sys c k' ih=>intro w es;exact ih _ _ _
 | program k' ih=>intro w es;exact ih _ _ _
 | mark m k' ih=>intro w es;exact ih _ _
 | halt h=>intro w es;rfl
end Go.Iso
namespace Go.Sq
structure Herder where
 heads:Int
 dogs:Int
 most:Int
 off:List Int
instance:Inhabited Herder:=⟨⟨0,0,0,[]⟩⟩
structure Camp where
 needs:List Int
 herders:List Herder
def Camp.h (c:Camp) (i:Nat):Herder:=c.herders[i]?.getD default
def cmpL:List Int->List Int->Int
 | [],[]=>0
 | [],_ :: _=>-1
 | _ :: _,[]=>1
 | a :: l,b :: m=>if a<b then -1 else if b<a then 1 else cmpL l m
theorem jE (l:List Int):cmpL [] l=if l.length=0 then 0 else -1:=by cases l<;>simp [cmpL]
theorem m7 (l:List Int) (h:0<l.length):cmpL l []=1:=by cases l with
 | nil=>simp at h
 | cons a l=>rfl
theorem m8 (l m:List Int) (k:Nat) (h1:k<l.length) (h2:k<m.length):cmpL (l.drop k) (m.drop k)=if l[k]?.getD 0<m[k]?.getD 0 then -1 else if m[k]?.getD 0<l[k]?.getD 0 then 1 else cmpL (l.drop (k+1)) (m.drop (k+1)):=by
 rw [List.drop_eq_getElem_cons h1,List.drop_eq_getElem_cons h2,List.getElem?_eq_getElem h1,List.getElem?_eq_getElem h2]
 rfl
def cN (a b:Int):Int:=if a<b then -1 else if b<a then 1 else 0
theorem aU {α:Type} (d:α) (l:List α) (k:Nat) (h:k<l.length):l.take (k+1)=l.take k++[l[k]?.getD d]:=by
 rw [List.take_add_one,List.getElem?_eq_getElem h];rfl
theorem gt (l:List Int) (k:Nat) (h:k<l.length):(l.take (k+1)).sum=(l.take k).sum+l[k]?.getD 0:=by
 rw [aU 0 l k h,List.sum_append];simp
theorem sum_bound (a b:Int) (l:List Int) (h:∀ x∈l,a<=x∧x<=b):l.length*a<=l.sum∧l.sum<=l.length*b:=by
 induction l with
 | nil=>simp
 | cons x l ih =>
  obtain ⟨h1,h2⟩:=ih fun y hy=>h y (List.mem_cons_of_mem _ hy)
  obtain ⟨h3,h4⟩:=h x List.mem_cons_self
  simp only [List.length_cons,List.sum_cons,Int.natCast_add,Int.natCast_one,Int.add_mul,Int.one_mul] at *
  omega
theorem mem_get (l:List Int) (k:Nat) (h:k<l.length):l[k]?.getD 0∈l:=by
 rw [List.getElem?_eq_getElem h];exact List.getElem_mem h
structure Camp.Ok (c:Camp):Prop where
 n1:1<=c.needs.length
 n5:c.needs.length<=5
 need:∀ x∈c.needs,0<=x∧x<=12
 h1:1<=c.herders.length
 h4:c.herders.length<=4
 heads:∀ h∈c.herders,1<=h.heads∧h.heads<=40
 dogs:∀ h∈c.herders,1<=h.dogs∧h.dogs<=5
 most:∀ h∈c.herders,0<=h.most∧h.most<=5
 off:∀ h∈c.herders,h.off.length<=5∧∀ x∈h.off,0<=x∧x<c.needs.length
theorem Camp.h_mem (c:Camp) {i:Nat} (hi:i<c.herders.length):c.h i∈c.herders:=by
 unfold Camp.h
 rw [List.getElem?_eq_getElem hi];exact List.getElem_mem hi
def below (x k:Nat):List Int:=((List.range k).filter x.testBit).map (fun n:Nat=>(n:Int))
def wl (x:Nat):List Int:=below x 4
theorem wl_mem {x:Nat} {z:Int} (h:z∈wl x):∃ n:Nat,z=n∧n<4∧x.testBit n=true:=by
 unfold wl below at h
 simp only [List.mem_map,List.mem_filter,List.mem_range] at h
 obtain ⟨n,⟨h1,h2⟩,rfl⟩:=h
 exact ⟨n,rfl,h1,h2⟩
theorem bQ (x:Nat):(wl x).length<=4:=by
 unfold wl below
 rw [List.length_map]
 exact Nat.le_trans (List.length_filter_le _ _) (by simp)
def Camp.has (c:Camp) (x:Nat):Prop:=x<2 ^ c.herders.length
theorem gL {x n m:Nat} (h:x<2 ^ m) (hb:x.testBit n=true):n<m:=by
 rcases Nat.lt_or_ge n m with h1 | h1
 ·exact h1
 ·rw [Nat.testBit_lt_two_pow (Nat.lt_of_lt_of_le h (Nat.pow_le_pow_right (by omega) h1))] at hb;cases hb
theorem Camp.lt16 {c:Camp} (h4:c.herders.length<=4) {x:Nat} (hx:c.has x):x<16:=Nat.lt_of_lt_of_le hx (Nat.pow_le_pow_right (by omega) h4)
theorem wl_at {c:Camp} {x:Nat} (hx:c.has x) {k:Nat} (hk:k<(wl x).length):∃ n:Nat,(wl x)[k]?.getD 0=n∧n<c.herders.length∧n<4∧x.testBit n=true:=by
 obtain ⟨n,h1,h2,h3⟩:=wl_mem (mem_get _ k hk)
 exact ⟨n,h1,gL hx h3,h2,h3⟩
def Camp.dogs (c:Camp) (x:Nat):Int:=((wl x).map fun h=>(c.h h.toNat).dogs).sum
def Camp.dogL (c:Camp) (x:Nat):List Int:=(wl x).map fun h=>(c.h h.toNat).dogs
theorem Camp.dogL_len (c:Camp) (x:Nat):(c.dogL x).length=(wl x).length:=List.length_map ..
theorem Camp.dogL_at (c:Camp) {x k n:Nat} (hk:k<(wl x).length) (hn:(wl x)[k]?.getD 0=n):(c.dogL x)[k]?.getD 0=(c.h n).dogs:=by
 unfold Camp.dogL
 rw [List.getElem?_map]
 rw [List.getElem?_eq_getElem hk] at hn ⊢
 simp only [Option.getD_some] at hn
 simp [hn]
theorem Camp.dogs_eq (c:Camp) (x:Nat):c.dogs x=(c.dogL x).sum:=rfl
theorem dogs_bd (c:Camp) {x:Nat} (hx:c.has x) (hd:∀ h∈c.herders,1<=h.dogs∧h.dogs<=5) (k:Nat):0<=((c.dogL x).take k).sum∧((c.dogL x).take k).sum<=20:=by
 have hb:=sum_bound 0 5 ((c.dogL x).take k) fun y hy=>by
  obtain ⟨z,hz,rfl⟩:=List.mem_map.1 (List.mem_of_mem_take hy)
  obtain ⟨n,rfl,_,h3⟩:=wl_mem hz
  have:=hd _ (c.h_mem (gL hx h3))
  simp only [Int.toNat_natCast]
  omega
 have hl:((c.dogL x).take k).length<=4:=by
  rw [List.length_take,c.dogL_len];have:=bQ x;omega
 omega
def oftenN (r:Nat->Nat) (n:Nat):Nat->Nat
 | 0=>0
 | k+1=>oftenN r n k+if (r k).testBit n then 1 else 0
theorem m9 (r:Nat->Nat) (n k:Nat):oftenN r n k<=k:=by
 induction k with
 | zero=>exact Nat.le_refl _
 | succ k ih=>simp only [oftenN];split<;>omega
def offB (c:Camp) (night n:Nat):Bool:=decide ((night:Int)∈(c.h n).off)
def ef (r:Nat->Nat) (night n:Nat):Bool:=decide (0<night)&&(r (night - 1)).testBit n
def na (c:Camp) (r:Nat->Nat) (night n:Nat):Bool:=decide ((c.h n).most<=(oftenN r n night:Int))
def ruleB (c:Camp) (r:Nat->Nat) (night:Nat):Nat->Nat->Bool
 | 0,n=>offB c night n
 | 1,n=>ef r night n
 | _,n=>na c r night n
def breaks (c:Camp) (r:Nat->Nat) (night i:Nat):Option Int:=(wl (r night)).find? fun h=>ruleB c r night i h.toNat
def Camp.need (c:Camp) (night:Nat):Int:=c.needs[night]?.getD 0
def lapseOf (c:Camp) (r:Nat->Nat) (night:Nat):Int×Int×Int :=
 match breaks c r night 0 with
 | some h=>(1,night,h)
 | none=>match breaks c r night 1 with
  | some h=>(2,night,h)
  | none=>match breaks c r night 2 with
   | some h=>(3,night,h)
   | none=>if c.dogs (r night)<c.need night then (4,night,-1) else (0,-1,-1)
theorem ey {l:List Int} {p:Int->Bool} {k:Nat} (hk:k<l.length) (hn:(l.take k).find? p=none) (hp:p (l[k]?.getD 0)=true):l.find? p=some (l[k]?.getD 0):=by
 have e:l.find? p=(l.take k++l.drop k).find? p:=by rw [List.take_append_drop]
 rw [e,List.find?_append,hn,List.drop_eq_getElem_cons hk,List.find?_cons]
 rw [List.getElem?_eq_getElem hk] at hp ⊢
 simp only [Option.getD_some] at hp ⊢
 simp only [hp,Option.none_or]
theorem fe {l:List Int} {p:Int->Bool} {k:Nat} (hk:k<l.length) (hn:(l.take k).find? p=none) (hp:p (l[k]?.getD 0)=false):(l.take (k+1)).find? p=none:=by
 rw [aU 0 l k hk,List.find?_append,hn]
 simp [hp]
def manyE (n lo hi:Int):Int:=if n<lo then 7 else if hi<n then 6 else 0
def ascAt (l:List Int) (n:Int) (i:Nat):Int:=if 0<=l[i]?.getD 0∧l[i]?.getD 0<=n - 1 then (if 0<i∧l[i]?.getD 0<=l[i - 1]?.getD 0 then 5 else 0) else 3
def be (l:List Int):Int:=(l.find? (· != 0)).getD 0
def ascE (l:List Int) (n:Int):Int:=be ((List.range l.length).map (ascAt l n))
def inR (x lo hi:Int):Bool:=decide (lo<=x)&&decide (x<=hi)
def herdE (n:Int) (h:Herder):Int:=if inR h.heads 1 40&&inR h.dogs 1 5&&inR h.most 0 5 then ascE h.off n else 1
def checkE (c:Camp):Int :=
 if manyE c.needs.length 1 5≠0 then manyE c.needs.length 1 5 else if (c.needs.all fun x=>inR x 0 12)=false then 1
 else if manyE c.herders.length 1 4≠0 then manyE c.herders.length 1 4 else be (c.herders.map (herdE c.needs.length))
theorem dX {l:List Int} (h:∀ x∈l,x=0):be l=0:=by
 unfold be
 rw [List.find?_eq_none.2 fun x hx=>by simp [h x hx]];rfl
theorem bZ {l:List Int} {k:Nat} (hk:k<l.length) (hn:∀ i,i<k->l[i]?.getD 0=0) (hp:l[k]?.getD 0≠0):be l=l[k]?.getD 0:=by
 unfold be
 rw [ey hk (List.find?_eq_none.2 fun x hx=>?_) (by simpa using hp)]
 ·rfl
 ·obtain ⟨i,hi,rfl⟩:=List.mem_take_iff_getElem.1 hx
  have:=hn i (by omega)
  rw [List.getElem?_eq_getElem (by omega)] at this
  simpa using this
theorem dY {l:List Int} (hn:∀ i,i<l.length->l[i]?.getD 0=0):be l=0:=dX fun x hx=>by
 obtain ⟨i,hi,rfl⟩:=List.mem_iff_getElem.1 hx
 have:=hn i hi
 rw [List.getElem?_eq_getElem hi] at this
 simpa using this
theorem jF {l:List Int} {n:Int} {k:Nat} (hk:k<l.length) (hn:∀ i,i<k->ascAt l n i=0) (hp:ascAt l n k≠0):ascE l n=ascAt l n k:=by
 have e:∀ i,i<l.length->((List.range l.length).map (ascAt l n))[i]?.getD 0=ascAt l n i:=fun i hi=>by simp [hi]
 unfold ascE
 rw [bZ (k:=k) (by simpa using hk) (fun i hi=>by rw [e i (by omega)];exact hn i hi) (by rw [e k hk];exact hp),e k hk]
theorem nd {l:List Int} {n:Int} (hn:∀ i,i<l.length->ascAt l n i=0):ascE l n=0:=by
 unfold ascE
 exact dY fun i hi=>by
  have hi':i<l.length:=by simpa using hi
  simp [hi',hn i hi']
end Go.Sq
