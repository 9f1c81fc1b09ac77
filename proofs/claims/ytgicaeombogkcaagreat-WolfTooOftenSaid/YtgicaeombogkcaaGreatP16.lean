/- Parts of the proof. -/
import Derived.Test.YtgicaeombogkcaaGreatP02
import Derived.Test.YtgicaeombogkcaaGreatP09
import Derived.Test.YtgicaeombogkcaaGreatP15
import Derived.Test.YtgicaeombogkcaaGreatP14
import Derived.Test.YtgicaeombogkcaaGreatP07
import Derived.Test.YtgicaeombogkcaaGreatP01
import Derived.Conc.DeferLaws
import Derived.Outline
set_option linter.all false
set_option maxHeartbeats 3200000
set_option maxRecDepth 1000000
namespace Go.Proofs.YtgicaeombogkcaaGreat
open Go.RowKit Go.Iso Go.Co Go.Conc Go.Sq
theorem step_collected {P:Program} {main:Bool} {b:Frame} {a:Act} {todo:List Item} {cs:List Frame} {w:World} {D:Nat} {l ds:List Deferred} {x:Array Value} (hd:a.defers={ target:=.collected D,args:=x } :: ds) (hD:w.heap[D]?=some (.deferred (some l))) :
  ∃ es,stepG P main (Go.Conc.G { b.at a todo with mode:=.returning } cs) w=.go (Go.Conc.G { b.at ⟨a.tmps,l++ds⟩ todo with mode:=.returning } cs) { w with heap:=w.heap.setIfInBounds D (.deferred none) } es:=by
 have hr:(Instr.takeDeferred D).run P w=.ok l { w with heap:=w.heap.setIfInBounds D (.deferred none) }:=by
  simp [Instr.takeDeferred,getObj,setObj,Sem.run,hD,Result.andThen]
 exact ⟨seen P b.fn ((Instr.takeDeferred D).events P w #[]),by simp [Go.Conc.G,stepG,unwind,Frame.at,hd,hr,GStep.after]⟩
noncomputable abbrev fT (b2 b3 b4 r:Nat):Array Value:=(cA b2 b3 b4 r).tmps
theorem r7:codeOk Sq.prog SBx false true k92=true:=by kernel_rfl
theorem j4 {BB:FuncId->Bool} (hL:Looks BB) {T0 K0:Nat->Prop} {b2 b3 b4 r:Nat} {H:Hid} (hn:H.bl=false) {Ψ:World->Prop} {w:World} (hk:K0 b2∧K0 b3∧K0 b4∧K0 r) (hh:∀ b,K0 b->H b=true->H.twin=true∧w.heap[b]?=some (.coro none)) (hol:∀ b,H b=true->b<w.heap.size)
  (hobj:∀ b,K0 b->H b=false->∃ o,w.heap[b]?=some o∧ORel (SP SBx H) (CK Sq.prog SBx false) (idOn K0) o o)
  (hwp:∀ τ d,k92.wp Sq.prog (fun e a' w'=>(e=.normal∨e=.ret)∧(e=.normal∧Ψ w'∧∃ D,a'.defers=[{ target:=.collected D,args:=#[] },dDone b4]∧¬ T0 D∧w'.heap[D]?=some (.deferred (some [])))) (cA b2 b3 b4 r) (on w τ d))
  (hΨ:∀ W W',Ψ W->(∀ b,T0 b->W'.heap[b]?=W.heap[b]?)->Ψ W') :
  KTr Tryz.prog BB (KidQ Tryz.prog b4 Ψ) 0 (Go.Conc.G (Frame.enter Tryz.prog 92 (bi b2 b3 b4 r) .deferred) [bad]) w:=by
 have hB:BB (baseD 92).fn=true:=hL.sub 92 (by decide)
 have hQ:∀ g w W,Same w W->KidQ Tryz.prog b4 Ψ g w->KidQ Tryz.prog b4 Ψ g W:=by
  rintro g w W s ⟨c,e1,e2,e3,e4,e5,e6⟩
  exact ⟨c,e1,e2,e3,e4,e5,hΨ w W e6 fun b _=>by rw [s.1]⟩
 rw [enter_atD _ Tryz.func92 rfl]
 have e0:(bi b2 b3 b4 r++Array.replicate (Tryz.f92.ntmps - (bi b2 b3 b4 r).size) undef)=fT b2 b3 b4 r:=by
  rw [Tryz.ntmps92];rfl
 rw [e0]
 refine aa hQ hB (by kernel_rfl) fun τ d=>?_
 rw [stepG_seq]
 simp only [goes_go]
 refine ⟨hcsM _ _,w,Same.on_,?_⟩
 refine aa hQ hB (by kernel_rfl) fun τ d=>?_
 rw [stepG_region]
 simp only [goes_go,List.size_toArray,List.length_cons,List.length_nil,Nat.reduceAdd,Nat.zero_add,List.range,List.range.loop]
 refine ⟨hcsM _ _,w,Same.on_,?_⟩
 refine aa hQ hB (by kernel_rfl) fun τ d=>?_
 rw [stepG_defer rfl rfl (by decide) rfl]
 simp only [goes_go]
 refine ⟨hcsM _ _,w,Same.on_,?_⟩
 refine aa hQ hB (by kernel_rfl) fun τ d=>?_
 rw [stepG_region_end]
 simp only [goes_go]
 refine ⟨hcsM _ _,w,Same.on_,?_⟩
 have eA:∀ o:Option Tmp,o=none->(Act.put ⟨fT b2 b3 b4 r,dcall 93 (#[Operand.tmp 0].map (Act.mk (fT b2 b3 b4 r) []).eval) :: []⟩ o undef)=cA b2 b3 b4 r:=by
  rintro o rfl
  simp [Act.put,fT,cA,dcall,dDone,Act.eval]
 have hI:∀ v∈[Value.pointer (some ⟨b4,0,none⟩),.pointer (some ⟨b2,0,none⟩),.pointer (some ⟨r,0,none⟩),.pointer (some ⟨b3,0,none⟩),undef,undef,undef,undef,undef,undef,undef,undef],InK SBx H K0 v:=fun v hv=>by
  simp only [List.mem_cons,List.not_mem_nil,or_false] at hv
  rcases hv with rfl | rfl | rfl | rfl | rfl | rfl | rfl | rfl | rfl | rfl | rfl | rfl
  ·exact InK.ptr hk.2.2.1 _ _
  ·exact InK.ptr hk.1 _ _
  ·exact InK.ptr hk.2.2.2 _ _
  ·exact InK.ptr hk.2.1 _ _
  all_goals exact InK.undef
 have hfr:FrRel Sq.prog SBx H false (idOn K0) ((baseD 92).at (cA b2 b3 b4 r) [.code k92]) ((baseD 92).at (cA b2 b3 b4 r) [.code k92]):=by
  refine ⟨rfl,allIn hI,.cons (.code r7) .nil,.cons ?_ .nil,.run,rfl,⟨(by show CallKind.deferred≠.early;decide),(by show SBx 92=true;decide)⟩,.none⟩
  refine .fn (.func (.inr (by decide))) (allIn (l:=[]) (by simp)) (allIn (l:=[.pointer (some ⟨b4,0,none⟩)]) fun v hv=>?_)
  simp only [List.mem_cons,List.not_mem_nil,or_false] at hv
  subst hv
  exact InK.ptr hk.2.2.1 _ _
 have hseg:=(rS (H:=H) hL hn).seg (b:=baseD 92) (a:=cA b2 b3 b4 r) (c:=k92) (k:=[]) (C:=bad) (cs:=[]) (Q:=KidQ Tryz.prog b4 Ψ) (w:=w) (K0:=K0) hfr (fun _ _=>Nat.zero_le _) (Nat.zero_le _) hh hol
  hobj (fun s h=>by cases h) (fun _ _ _ _ _ _ _ _ _ _ _ h=>by cases h) (.inr ⟨_,_,Sq.put Tryz.func92 rfl,rfl⟩) hQ
  (N:=fun e a' w'=>e=.normal∧Ψ w'∧∃ D,a'.defers=[{ target:=.collected D,args:=#[] },dDone b4]∧¬ T0 D∧w'.heap[D]?=some (.deferred (some []))) hwp ?_ (fun a' w' todo h _=>by cases h.1)
 ·have e9:=eA (#[({ dst:=none,op:=Op.defer { callee:=Callee.value (Operand.func 93),args:=#[Operand.tmp 0],argTypes:=#[146] },type:=0,pos := "wolf.go:243",after:=#[],guard:=none }:Oper)][0].dst) rfl
  rw [e9]
  exact hseg
 ·rintro a' w' ⟨_,hΨ1,D,hd,hD,hDw⟩
  show KTr Tryz.prog BB (KidQ Tryz.prog b4 Ψ) 0 _ w'
  refine aa hQ hB (by kernel_rfl) fun τ d=>?_
  rw [stepG_end]
  simp only [goes_go]
  refine ⟨hcsM _ _,w',Same.on_,?_⟩
  refine cP hQ hB (by kernel_rfl) fun τ d=>?_
  obtain ⟨es,e1⟩:=step_collected (P:=Tryz.prog) (main:=true) (b:=baseD 92) (todo:=[]) (cs:=[bad]) (w:=on w' τ d) hd hDw
  rw [e1]
  simp only [goes_go]
  refine ⟨hcsM _ _,{ w' with heap:=w'.heap.setIfInBounds D (.deferred none) },⟨rfl,rfl,rfl⟩,?_⟩
  refine cP hQ hB (by kernel_rfl) fun τ d=>?_
  rw [stepG_unwind_enter (f:=93) (args:=#[.pointer (some ⟨b4,0,none⟩)]) (ds:=[]) rfl Tryz.func93 (by kernel_rfl) rfl]
  simp only [goes_go]
  refine ⟨hcsM _ _,{ w' with heap:=w'.heap.setIfInBounds D (.deferred none) },⟨rfl,rfl,rfl⟩,.fin ?_⟩
  rw [<- enter_atD _ Tryz.func93 rfl]
  exact ⟨_,rfl,rfl,rfl,rfl,rfl,hΨ w' _ hΨ1 fun b hb=>Array.getElem?_setIfInBounds_ne (fun e:D=b=>hD (by rw [e];exact hb))⟩
open Go.RowKit Go.Iso Go.Co Go.Conc
def syl:List Nat:=[7,9,10,11,21,33,34,36,38,39,40,44,45,46,55,63,88,17,23,25,27,31,41,42,43,48,52,57,61,64,65,66,67,68,69,70,71,72,77,78,79,80,82,84,85,90,96,98,99,100,101,102,103,104,105,106,107,108,109,111,112,113,114,115,117,118,137,140,141,142,143,144,145,146,147,148,149,150,151,152,153,154,155,156,162,166,167,168,169,170,171,172,173,174,175,176,177,178,179,187,188,189,190,191]
def SBy (f:FuncId):Bool:=syl.contains f
def puty (f:FuncId):Bool:=f==99||f==100||f==7||f==9
def BCy (f:FuncId):Bool:=SBy f&&!puty f
theorem iM {p:Nat->Bool} (h:syl.all p=true):∀ f,SBy f=true->p f=true:=fun f hf=>(List.all_eq_true.1 h) f (by simpa [SBy] using hf)
theorem nT:syl.all (fun f=>fnOk Sq.prog SBy false f||extB f)=true:=by kernel_rfl
theorem fnOk_y (f:FuncId) (h:SBy f=true):fnOk Sq.prog SBy false f=true∨extB f=true:=by
 have:=iM nT f h
 simpa using this
theorem ql {P:Two} (f:FuncId) (hf:aB SBy f=true):BarOk P f:=by
 have h:SBy 92=false:=by decide
 unfold aB at hf
 rw [h,Bool.false_and,Bool.and_false] at hf
 cases hf
theorem sT (H:Hid):Lib (Two.of Sq.prog) SBy H false SBy 0:=lz (fun f hf=>(fnOk_y f hf).imp_right fun h=>jD h ⟨Sq.fn Tryz.func95 rfl,Sq.fn Tryz.func96 rfl,Sq.fn Tryz.func162 rfl⟩) ql ⟨Nat.le_of_eq Sq.globals_size,Sq.bigF⟩
theorem pF:syl.all (fun f=>puty f||!(f==9||sqPut f||f==99||f==100))=true:=by kernel_rfl
theorem sU (H:Hid):Lib PW SBy H false BCy 0:=by
 refine fS (fun f hf=>?_) (fun f hf hb=>?_) (fun f hf=>?_) ql ⟨Nat.le_of_eq Sq.globals_size,Sq.bigF⟩
 ·simp only [BCy,Bool.and_eq_true,Bool.not_eq_true'] at hf
  rcases fnOk_y f hf.1 with h | h
  ·refine .inl ⟨h,iK ?_⟩
   have:=iM pF f hf.1
   simpa [hf.2] using this
  ·exact .inr (jD h ⟨Tryz.func95,Tryz.func96,Tryz.func162⟩)
 ·simp only [BCy,hf,Bool.true_and,Bool.not_eq_false',puty,Bool.or_eq_true,beq_iff_eq] at hb
  rcases hb with ((rfl | rfl) | rfl) | rfl
  ·exact ⟨_,_,Sq.f99,Tryz.func99,rfl,by show Tryz.f99.name≠_;decide,by decide,rfl,rfl⟩
  ·exact ⟨_,_,Sq.f100,Tryz.func100,rfl,by show Tryz.f100.name≠_;decide,by decide,rfl,rfl⟩
  ·exact ⟨_,_,Sq.put Tryz.func7 rfl,Tryz.func7,rfl,by show Tryz.f7.name≠_;decide,by decide,rfl,rfl⟩
  ·exact ⟨_,_,Sq.w9,Tryz.func9,rfl,by show Tryz.f9.name≠_;decide,by decide,rfl,rfl⟩
 ·simp only [BCy,Bool.and_eq_true] at hf
  exact hf.1
structure LooksY (BB:FuncId->Bool):Prop where
 sub:∀ f,SBy f=true->BB f=true
 h138:BB 138=true
 h139:BB 139=true
theorem lD {BB:FuncId->Bool} (hL:LooksY BB) {f:FuncId} (h:f=99∨f=100):Locks PW BB f:=by
 rcases h with rfl | rfl
 ·obtain ⟨r,o1,o2,s,hp⟩:=patch_x 99 Sq.F99 0 1 Sq.f99 rfl (by rw [Sq.nt99];decide) rfl
  exact ⟨0,1,_,r,o1,o2,s,Tryz.f99,hp,i6 (hL.sub 99 (by decide)) hL.h138,Tryz.func99,rfl⟩
 ·obtain ⟨r,o1,o2,s,hp⟩:=patch_x 100 Sq.F100 1 0 Sq.f100 rfl (by rw [Sq.nt100];decide) rfl
  exact ⟨1,0,_,r,o1,o2,s,Tryz.f100,hp,gh (hL.sub 100 (by decide)) hL.h139,Tryz.func100,rfl⟩
theorem da {BB:FuncId->Bool} {H:Hid} (hL:LooksY BB) (hn:H.bl=false:=by rfl):BothK PW SBy BCy BB H 0:=by
 refine ⟨sT _,sU _,fun f hf hb=>?_,hL.sub,hn⟩
 rcases hf with hf | hf
 ·simp only [BCy,hf,Bool.true_and,Bool.not_eq_false',puty,Bool.or_eq_true,beq_iff_eq] at hb
  rcases hb with ((rfl | rfl) | rfl) | rfl
  ·exact .inr (lD hL (.inl rfl))
  ·exact .inr (lD hL (.inr rfl))
  ·exact .inl ⟨_,_,Sq.put Tryz.func7 rfl,rfl⟩
  ·exact .inl ⟨_,_,Sq.w9,rfl⟩
 ·have h:SBy 92=false:=by decide
  unfold aB at hf
  rw [h,Bool.false_and,Bool.and_false] at hf
  cases hf
def sll:List Nat:=[67,82,98,102,112,113,114,115,137]
def SBl (f:FuncId):Bool:=sll.contains f
theorem iN {p:Nat->Bool} (h:sll.all p=true):∀ f,SBl f=true->p f=true:=fun f hf=>(List.all_eq_true.1 h) f (by simpa [SBl] using hf)
theorem bar_l {P:Two} (f:FuncId) (hf:aB SBl f=true):BarOk P f:=by
 have h:SBl 92=false:=by decide
 unfold aB at hf
 rw [h,Bool.false_and,Bool.and_false] at hf
 cases hf
theorem nU:sll.all (fun f=>fnOk Sq.prog SBl false f&&!(f==9||sqPut f||f==99||f==100))=true:=by kernel_rfl
theorem r8 {BB:FuncId->Bool} (hb:∀ f,SBl f=true->BB f=true):Both PW SBl SBl BB 0:=by
 have h1:∀ f,SBl f=true->fnOk Sq.prog SBl false f=true:=fun f hf=>by
  have:=iN nU f hf
  simp only [Bool.and_eq_true] at this
  exact this.1
 have h2:∀ f,SBl f=true->PW.fs[f]?=PW.a.funcs[f]?:=fun f hf=>by
  have:=iN nU f hf
  simp only [Bool.and_eq_true,Bool.not_eq_true'] at this
  exact iK this.2
 refine ⟨rR h1 bar_l ⟨Nat.le_of_eq Sq.globals_size,Sq.bigF⟩,qF h1 h2 (fun f hf hb=>by rw [hf] at hb;cases hb) (fun _ h=>h) bar_l ⟨Nat.le_of_eq Sq.globals_size,Sq.bigF⟩,fun f hf hb=>?_,hb⟩
 rcases hf with hf | hf
 ·rw [hf] at hb;cases hb
 ·have h:SBl 92=false:=by decide
  unfold aB at hf
  rw [h,Bool.false_and,Bool.and_false] at hf
  cases hf
end Go.Proofs.YtgicaeombogkcaaGreat
namespace Go.Co
open Go.Iso Go.Conc Go.ConcN
section
variable {P:Two} {SB BB:FuncId->Bool} {lets:Bool} {Gn:Nat} {H:Hid} {T:List Frame} {β:Bij}
theorem stop_any {f:FuncId} {fa fb:Func} {c:Code} (h1:P.a.funcs[f]?=some fa) (h2:P.b.funcs[f]?=some fb) (h3:fa.body=some c) (h4:codeOk P.a SB lets true c=false) (hn:fb.ntmps=fa.ntmps)
  {args:Array Value} (hsz:args.size<=fa.ntmps) {k:CallKind} {F:Frame} (h:TopRel P SB H lets BB β (Frame.enter P.a f args k) F):∃ ARGS,F=Frame.enter P.b f ARGS k∧AsRel (SP SB H) β args ARGS:=by
 generalize hF:Frame.enter P.a f args k=fr at h
 cases h with
 | on h =>
  exfalso
  have ht:=h.todo
  rw [<- hF] at ht
  simp only [Frame.enter,h1,h3,Option.bind_some,Option.getD_some] at ht
  generalize F.todo=X at ht
  cases ht with
  | cons hi _ =>
   cases hi with
   | code hc =>
    simp only [Option.isNone_none] at hc
    rw [h4] at hc;cases hc
 | @stop f' a A k' _ _ _ ha =>
  have e1:f=f':=congrArg Frame.fn hF
  have e2:k=k':=congrArg Frame.kind hF
  subst e1 e2
  have e3:args++Array.replicate (fa.ntmps - args.size) undef=a++Array.replicate (fa.ntmps - a.size) undef:=by
   have:=congrArg Frame.tmps hF
   simpa [Frame.enter,h1] using this
  have hs:=congrArg Array.size e3
  simp only [Array.size_append,Array.size_replicate] at hs
  have hA:=ha.size
  have asz:a.size<=fa.ntmps:=by omega
  have all:AsRel (SP SB H) β (args++Array.replicate (fa.ntmps - args.size) undef) (A++Array.replicate (fa.ntmps - A.size) undef):=by
   rw [e3,<- hA]
   exact ha.append (AsRel.replicate (VRel.undef _ _) _)
  refine ⟨(A++Array.replicate (fa.ntmps - A.size) undef).extract 0 args.size,?_,?_⟩
  ·have e4 : A ++ Array.replicate (fa.ntmps - A.size) undef = (A ++ Array.replicate (fa.ntmps - A.size) undef).extract 0 args.size ++ Array.replicate (fa.ntmps - ((A ++ Array.replicate (fa.ntmps - A.size) undef).extract 0 args.size).size) undef := by
    have hlen:((A++Array.replicate (fa.ntmps - A.size) undef).extract 0 args.size).size=args.size:=by simp;omega
    rw [hlen]
    generalize hX:A++Array.replicate (fa.ntmps - A.size) undef=X at all hlen ⊢
    have hXs:X.size=fa.ntmps:=by rw [<- hX];simp;omega
    apply Array.ext (by simp;omega)
    intro i i1 i2
    by_cases hi:i<args.size
    ·rw [Array.getElem_append_left (by rw [hlen];exact hi)]
     simp
    ·rw [Array.getElem_append_right (by rw [hlen];omega)]
     simp only [Array.getElem_replicate]
     have:=all.at_ i undef X[i] (by rw [Array.getElem?_append_right (by omega),Array.getElem?_replicate,if_pos (by omega)]) (Array.getElem?_eq_getElem i1)
     exact Det.undef _ this
   simp only [Frame.enter,h2,Option.map_some,Option.getD_some,hn]
   rw [<- e4]
  ·have:=all.extract 0 args.size
   have e5:(args++Array.replicate (fa.ntmps - args.size) undef).extract 0 args.size=args:=by simp
   rwa [e5] at this
theorem nV {S:Par} {Ck:Code->Prop} {w w1 W:World} (h:WRel S Ck Gn β w W) (hs:w1.heap.size=w.heap.size) (ho:w1.os=w.os)
  (hb:∀ b:Nat,w1.heap[b]?=w.heap[b]?∨∃ (c:Array Value) (t:TypeId) (f f1:Nat×Nat),w.heap[b]?=some (.cells c t f)∧w1.heap[b]?=some (.cells c t f1)∧∀ i,f.1<=i->i<f.2->f1.1<=i∧i<f1.2):WRel S Ck Gn β w1 W:=by
 refine ⟨h.fine,by rw [hs];exact h.room,fun b B hbB hh=>?_,fun b B hbB hh=>?_,fun b hh=>by rw [hs];exact h.old b hh,by rw [ho];exact h.env⟩
 ·obtain ⟨o,O,e1,e2,e3⟩:=h.objs b B hbB hh
  rcases hb b with e | ⟨c,t,f,f1,q1,q2,q3⟩
  ·exact ⟨o,O,e.trans e1,e2,e3⟩
  ·rw [q1] at e1
   cases e1
   exact ⟨_,O,q2,e2,ORel.froz e3 q3⟩
 ·obtain ⟨e1,e2,e3⟩:=h.hids b B hbB hh
  rcases hb b with e | ⟨c,t,f,f1,q1,q2,q3⟩
  ·exact ⟨e.trans e1,e2,e3⟩
  ·rw [q1] at e1;cases e1
end
theorem ce {P:Program} {K:Nat} {m1:Machine} {t1:Trace}:∀ {N:Nat} {m:Machine} {t:Trace},runNT P N m t=(.next m1,t1)->runNT P (N+K) m t=runNT P K m1 t1:=by
 intro N
 induction N with
 | zero=>intro m t h;simp only [runNT,Prod.mk.injEq,Stepped.next.injEq] at h;obtain ⟨rfl,rfl⟩:=h;rw [Nat.zero_add]
 | succ N ih =>
  intro m t h
  rw [show N+1+K=(N+K)+1 by omega]
  have e : ∀ n, runNT P (n + 1) m t = match stepT P m with
    | (.next m,ops)=>runNT P n m (t++ops)
    | (e,ops)=>(e,t++ops):=fun _=>rfl
  rw [e] at h ⊢
  rcases hs:stepT P m with ⟨s,ops⟩
  rw [hs] at h
  cases s with
  | next m'=>exact ih h
  | ended o w=>simp at h
theorem lE {P:Program} {m m':Machine} {t:Trace} {ops:Array MemOp} (h:stepT P m=(.next m',ops)):runNT P 1 m t=(.next m',t++ops):=by
 unfold runNT;rw [h];rfl
end Go.Co
namespace Go.Proofs.YtgicaeombogkcaaGreat
open Go.RowKit Go.Iso Go.Co Go.Conc Go.ConcN
open Go.ConcR (WgAt wgBlock)
section
variable {SB SB0 BB SB' BB':FuncId->Bool} {lets':Bool} {kx tl:Nat->Bool} {Kc:Nat->Prop} {Ok:World->Prop} {cb sb n c:Nat} {f:Fn} {fx fc:Array Value} {sets kind:Nat->Int} {tpOf:Nat->Bool} {oK oE:Nat->Obj}
 {Dead:Nat->Prop} {Kp:Keep} {x:Lone} {A:Goroutine} {W:World}
abbrev eArgs (cb:Nat) (f:Fn) (fx fc:Array Value):Array Value:=#[.pointer (some ⟨cb,0,none⟩),.func f fx fc]
noncomputable def inner (kx tl:Nat->Bool) (cb:Nat) (f:Fn) (fx fc:Array Value) (x:Lone) (A:Goroutine):Lone :=
 ⟨Go.Iso.gor (Frame.enter Tryz.prog 49 (eArgs cb f fx fc) .normal) [bad],(sink kx tl x.w).alloc (.coro none),hidE tl x.w,cut (fun b=>kx b=true∨tl b=true) x.β,A.callers⟩
theorem ic:((sink kx tl x.w).alloc (.coro none)).heap.size=x.w.heap.size+1:=by rw [ax,cZ]
theorem fH {b:Nat} (hb:b<x.w.heap.size):((sink kx tl x.w).alloc (.coro none)).heap[b]?=(sink kx tl x.w).heap[b]?:=by
 rw [av,cZ,if_neg (by omega)]
theorem inner_start (I:EachIn SB SB0 BB x.w kx tl Kc Ok cb sb n c f fx fc sets kind tpOf oK oE) (lib:∀ H,Lib PP SB H true BB 0) {cE:Code} (hcE:Tryz.f49.body=some cE) (hbar:codeOk Tryz.prog SB' lets' true cE=false)
  (ht:Tw PP SB' BB' lets' 0 Dead Kp x A W) (hH:∀ b,x.H b=false) {fr:Frame} {cs:List Frame} (hg:x.g=bF PP 49 (eArgs cb f fx fc) fr cs) :
  GLike PP SB BB true (inner kx tl cb f fx fc x A) A∧WLike PP SB true 0 (inner kx tl cb f fx fc x A) W∧(∀ b,tl b=true->Ro (inner kx tl cb f fx fc x A).w b∨(inner kx tl cb f fx fc x A).H b=true)∧∀ b,kx b=true->Ro (inner kx tl cb f fx fc x A).w b:=by
 have htop:=ht.gl.top
 rw [hg] at htop
 obtain ⟨ARGS,eA,hargs⟩:=stop_any (fa:=Tryz.f49) (fb:=Tryz.f49) Tryz.func49 Tryz.func49 hcE hbar rfl (by rw [Tryz.ntmps49];simp) htop
 have hin:AsRel (SP SB (hidE tl x.w)) (idOn fun b=>kx b=true∨tl b=true) (eArgs cb f fx fc) (eArgs cb f fx fc):=allIn fun v hv=>by
  simp only [List.mem_cons,List.not_mem_nil,or_false] at hv
  rcases hv with rfl | rfl
  ·exact .ptr (.inl I.ks.1) _ _
  ·exact I.hp1 _
 refine ⟨⟨?_,.base,⟨rfl,ht.gl.status.2⟩,⟨rfl,ht.gl.dying.2⟩,⟨rfl,ht.gl.offers.2⟩⟩,⟨⟨fun h1 h2=>ht.wl.fine.fn h1.2 h2.2,fun h1 h2=>ht.wl.fine.inj h1.2 h2.2,fun _=>⟨Nat.zero_le _,Nat.zero_le _⟩⟩,⟨Nat.zero_le _,Nat.zero_le _⟩,?_,?_,?_,?_⟩,fun b hb=>.inr (by simp [inner,hb]),fun b hb=>?_⟩
 ·rw [eA];exact enter_rel (P:=PP) (lib _) (.inl I.s49) (hargs.cut (fun _=>rfl) hin) .normal (by decide)
 ·rintro b B ⟨hk,hb⟩ hh
  have hh':(tl b||b==x.w.heap.size)=false:=hh
  simp only [Bool.or_eq_false_iff] at hh'
  have hkx:kx b=true:=hk.resolve_right (by simp [hh'.1])
  obtain ⟨e1,l,t,g,e2,e3,e4⟩:=I.kxs b hkx
  obtain ⟨o,O,q1,q2,q3⟩:=ht.wl.objs b B hb (hH b)
  rw [e2] at q1;cases q1
  have hlt:=I.lt (.inl hkx)
  cases q3 with
  | cells a z =>
   refine ⟨_,_,(fH hlt).trans (ek e2 hkx e1),q2,.cells (a.cut (fun _=>rfl) (allIn fun v hv=>e4 v hv _)) fun i h1 h2=>?_⟩
   obtain ⟨z1,z2⟩:=z i h1 h2
   exact ⟨Nat.zero_le _,by simpa using e3 i z1 z2⟩
 ·rintro b B ⟨hk,hb⟩ hh
  have hlt:=I.lt hk
  have hh':(tl b||b==x.w.heap.size)=true:=hh
  have htl:tl b=true:=by
   simp only [Bool.or_eq_true,beq_iff_eq] at hh'
   exact hh'.resolve_right (by omega)
  refine ⟨(fH hlt).trans (iL hlt htl),fun _=>?_,fun h=>by cases h⟩
  obtain ⟨e1,⟨l,t,g,e2,e3⟩,_⟩:=I.tls b htl
  obtain ⟨o,O,q1,q2,q3⟩:=ht.wl.objs b B hb (hH b)
  rw [e1,e2] at q1;cases q1
  cases q3 with
  | cells a z=>exact ⟨_,_,_,q2⟩
 ·intro b hb
  have hb':(tl b||b==x.w.heap.size)=true:=hb
  show b<((sink kx tl x.w).alloc (.coro none)).heap.size
  rw [ic]
  simp only [Bool.or_eq_true,beq_iff_eq] at hb'
  rcases hb' with h | h
  ·have:=I.lt (.inr h);omega
  ·omega
 ·exact ht.wl.env
 ·obtain ⟨e1,l,t,g,e2,e3,e4⟩:=I.kxs b hb
  exact ⟨_,_,_,(fH (I.lt (.inl hb))).trans (ek e2 hb e1),fun i hi=>⟨Nat.zero_le _,hi⟩⟩
theorem at_rel {p:Program} {H:Hid} {lets:Bool} {β:Bij} {g:FuncId} {a:Act} {ops:Array Oper} {l:List Nat} {k:List Item} {F:Frame} (h:FrRel p SB H lets β ((base g).at a (.inRegion ops l :: k)) F) :
  ∃ (a':Act) (K:List Item),F=(base g).at a' (.inRegion ops l :: K):=by
 obtain ⟨h1,h2,h3,h4,h5,h6,h7,h8⟩:=h
 obtain ⟨f1,f2,f3,f4,f5,f6,f7⟩:=F
 dsimp only [Frame.at,base] at h1 h2 h3 h4 h5 h6 h7 h8
 subst h1 h6
 cases h5
 cases h8
 cases h3 with
 | cons hi _ =>
  cases hi
  exact ⟨⟨f2,f4⟩,_,rfl⟩
noncomputable abbrev gA (cb b2 b3:Nat) (p1:Value):Act:=⟨#[.pointer (some ⟨cb,0,none⟩),p1,.pointer (some ⟨b2,0,none⟩),.pointer (some ⟨b3,0,none⟩),undef,undef,undef,undef,undef,undef,undef,undef,undef,undef,undef,undef,undef,undef,undef,undef,undef,undef,undef,undef,undef,undef,undef],[]⟩
noncomputable abbrev kA:List Item:=[.code (.seq (.seq (.region 2 o2 false) (.block 0 (.loop eL))) (.region 10 o10 false))]
def boxed (w:World) (cb:Nat) (p1:Value):World:=(w.alloc (.cells #[.pointer (some ⟨cb,0,none⟩)] 80)).alloc (.cells #[p1] 93)
def QA (cb:Nat) (p1:Value) (w0:World) (g:Goroutine) (w:World):Prop:=g=G ((base 49).at (gA cb w0.heap.size (w0.heap.size+1) p1) (.inRegion o1 [0] :: kA)) [bad]∧Same (boxed w0 cb p1) w
theorem group_made {P:Two} {lets:Bool} (hBB:BB 49=true) {x:Lone} {a:Goroutine} {W:World} {cb b2 b3 b4:Nat} {p1:Value} (hg:x.g=G ((base 49).at (gA cb b2 b3 p1) (.inRegion o1 [0] :: kA)) [bad]) (hgl:GLike P SB BB lets x a)
  {β:Bij} (hle:x.β.le β) (hb4:β b4 W.heap.size) :
  ∃ a',stepG Tryz.prog true a W=.go a' (W.alloc (.cells #[.int .u64 0,.int .u32 0] 146)) #[]∧GLike P SB BB lets ⟨G ((base 49).at ((gA cb b2 b3 p1).put (some 4) (.pointer (some ⟨b4,0,none⟩))) (.inRegion o1 [] :: kA)) [bad],x.w,x.H,β,x.T⟩ a':=by
 have htop:=hgl.top.on_of (by rw [hg];exact hBB)
 have hcs:=hgl.callers
 have ea:=fG hgl
 rw [hg] at htop hcs
 obtain ⟨A,K,eA⟩:=at_rel htop
 refine ⟨_,by rw [ea,eA];exact mt,?_⟩
 have hf:=aS (htop.mono hle) (v:=.pointer (some ⟨b4,0,none⟩)) (V:=.pointer (some ⟨W.heap.size,0,none⟩)) (.ptr 0 none hb4)
 rw [eA] at hf
 have e1:(o1[0]?).bind (·.dst)=some 4:=rfl
 change FrRel _ _ _ _ _ (((base 49).at (gA cb b2 b3 p1) (.inRegion o1 [0] :: kA)).finish _) _ at hf
 rw [Frame.finish_at,Frame.finish_at,e1] at hf
 exact ⟨.on hf,hcs.mono fun c C h=>h.mono hle,⟨rfl,rfl⟩,⟨rfl,rfl⟩,⟨rfl,rfl⟩⟩
theorem qQ {cb:Nat} {p1:Value} {w0:World} (g:Goroutine) (w W:World) (h:Same w W) (q:QA cb p1 w0 g w):QA cb p1 w0 g W:=⟨q.1,q.2.trans h⟩
theorem mA (hB:BB 49=true) {w:World}:Runs Tryz.prog (Fine Tryz.prog BB) (QA cb (.func f fx fc) w) (Go.Iso.gor (Frame.enter Tryz.prog 49 (eArgs cb f fx fc) .normal) [bad]) w :=
 qI hB qQ (by simp) (.fin ⟨rfl,rfl,rfl,rfl⟩)
theorem aT (w:World) (p1:Value) (b:Nat):(startW kx tl w cb p1).heap[b]?=if b=w.heap.size+2 then some (.cells #[p1] 93 (0,1)) else if b=w.heap.size+1 then some (.cells #[.pointer (some ⟨cb,0,none⟩)] 80 (0,1)) else if b=w.heap.size then some (.coro none) else (sink kx tl w).heap[b]?:=by
 have z:=cZ kx tl w
 have g:∀ b,((((sink kx tl w).alloc (.coro none)).alloc (.cells #[.pointer (some ⟨cb,0,none⟩)] 80)).alloc (.cells #[p1] 93)).heap[b]?=if b=w.heap.size+2 then some (.cells #[p1] 93) else if b=w.heap.size+1 then some (.cells #[.pointer (some ⟨cb,0,none⟩)] 80) else if b=w.heap.size then some (.coro none) else (sink kx tl w).heap[b]?:=fun b=>by
  rw [av,ax,ax,av,ax,av,z]
 unfold startW
 by_cases h2:b=w.heap.size+2
 ·subst h2
  rw [if_pos rfl]
  exact cr (c:=#[p1]) (t:=93) (f:=(0,0)) (by rw [dH _ (by omega),g,if_pos rfl])
 ·rw [if_neg h2,dH _ h2]
  by_cases h1:b=w.heap.size+1
  ·subst h1
   rw [if_pos rfl]
   exact cr (c:=#[.pointer (some ⟨cb,0,none⟩)]) (t:=80) (f:=(0,0)) (by rw [g,if_neg (by omega),if_pos rfl])
  ·rw [if_neg h1,dH _ h1,g,if_neg h2,if_neg h1]
theorem cT (w:World) (p1:Value):(startW kx tl w cb p1).heap.size=w.heap.size+3:=by
 unfold startW
 rw [cd,cd,ax,ax,ax,cZ]
theorem nW (w:World) (p1:Value):(startW kx tl w cb p1).os=w.os:=by
 unfold startW
 rw [eK,eK];rfl
theorem mB (I:EachIn SB SB0 BB x.w kx tl Kc Ok cb sb n c f fx fc sets kind tpOf oK oE):Head SB (hidE tl x.w) 0 (kbE kx tl x.w) Ok (kbE kx tl x.w) (startW kx tl x.w cb (.func f fx fc)):=by
 have hk:∀ b,kx b=true∨tl b=true->b<x.w.heap.size:=fun b h=>I.lt h
 refine ⟨fun _ h=>h,fun b hb hh=>?_,fun b hb hh=>?_,fun _ _=>Nat.zero_le _,fun b hb=>?_,fun b hb=>?_,Nat.zero_le _,I.ok⟩
 ·have hh':(tl b||b==x.w.heap.size)=false:=hh
  simp only [Bool.or_eq_false_iff,beq_eq_false_iff_ne] at hh'
  rw [aT]
  unfold Ro
  rw [aT]
  rcases hb with h | h | h | h | h
  ·have hl:=hk b (.inl h)
   obtain ⟨e1,l,t,g,e2,e3,e4⟩:=I.kxs b h
   rw [if_neg (by omega),if_neg (by omega),if_neg (by omega),ek e2 h e1]
   exact ⟨⟨_,_,_,rfl,fun i hi=>⟨Nat.zero_le _,hi⟩⟩,_,rfl,.cells (allIn fun v hv=>(e4 v hv _).mono fun b hb=>hb.elim .inl fun h=>.inr (.inl h)) fun i h1 h2=>⟨h1,h2⟩⟩
  ·rw [hh'.1] at h;cases h
  ·exact absurd h hh'.2
  ·subst h
   rw [if_neg (by omega),if_pos rfl]
   exact ⟨⟨_,_,_,rfl,fun i hi=>⟨Nat.zero_le _,hi⟩⟩,_,rfl,.cells (allIn (l:=[_]) fun v hv=>by
    simp only [List.mem_cons,List.not_mem_nil,or_false] at hv
    subst hv
    exact .ptr (.inl I.ks.1) _ _) fun i h1 h2=>⟨h1,h2⟩⟩
  ·subst h
   rw [if_pos rfl]
   exact ⟨⟨_,_,_,rfl,fun i hi=>⟨Nat.zero_le _,hi⟩⟩,_,rfl,.cells (allIn (l:=[_]) fun v hv=>by
    simp only [List.mem_cons,List.not_mem_nil,or_false] at hv
    subst hv
    exact (I.hp1 _).mono fun b hb=>hb.elim .inl fun h=>.inr (.inl h)) fun i h1 h2=>⟨h1,h2⟩⟩
 ·have hh':(tl b||b==x.w.heap.size)=true:=hh
  simp only [Bool.or_eq_true,beq_iff_eq] at hh'
  rw [aT]
  rcases hh' with h | h
  ·have hl:=hk b (.inr h)
   rw [if_neg (by omega),if_neg (by omega),if_neg (by omega),iL hl h]
  ·subst h
   rw [if_neg (by omega),if_neg (by omega),if_pos rfl]
 ·rw [cT]
  rcases hb with h | h | h | h | h
  ·have:=hk b (.inl h);omega
  ·have:=hk b (.inr h);omega
  all_goals omega
 ·have hb':(tl b||b==x.w.heap.size)=true:=hb
  simp only [Bool.or_eq_true,beq_iff_eq] at hb'
  rw [cT]
  rcases hb' with h | h
  ·have:=hk b (.inr h);omega
  ·omega
def oF (tpn:Bool) (oK oE:Nat->Obj):Nat->Obj:=if tpn then oK else oE
theorem each_call {sl:Option (Nat×Nat)} {gs:Array Goroutine} {t:Trace} {q:Nat->Nat} (I:EachIn SB SB0 BB x.w kx tl Kc Ok cb sb n c f fx fc sets kind tpOf oK oE) (lib:∀ H,Lib PP SB H true BB 0) {cE:Code} (hcE:Tryz.f49.body=some cE) (hbar:codeOk Tryz.prog SB' lets' true cE=false)
  {L:Lib.WgLink} (Wl:Lib.WgLib Tryz.prog L) (h91:L.add=91) (h94:L.wait=94) (h93:L.done=93) (hT:L.tWg=146) (bA:Go.Co.Barred PP SB true L.add (Lib.addFn L)) (bW:Go.Co.Barred PP SB true L.wait (Lib.waitFn L)) (bD:Go.Co.Barred PP SB true L.done (Lib.doneFn L))
  (hb:Btw Tryz.prog Dead gs W t q) (ht:Tw PP SB' BB' lets' 0 Dead Kp x A W) (h0:gs[0]?=some A) {fr:Frame} {cs:List Frame} (hg:x.g=bF PP 49 (eArgs cb f fx fc) fr cs) (hc:dG fr) (hH:∀ b,x.H b=false)
  (hpair:∀ b,kx b=true∨tl b=true->∃ B,x.β b B) (hKp:∀ b B,x.β b B->tl b=true->¬ Kp.at_ B) (hbd:gs.size+n<=2147483647) :
  ∃ N m' t',runNT Tryz.prog N (crowd gs W sl) t=(.next m',t')∧∃ gs' W' sl' q' A' Dead',m'=crowd gs' W' sl'∧gs'[0]?=some A'∧gs'.size<=gs.size+n∧Btw Tryz.prog Dead' gs' W' t' q' ∧
   Tw PP SB' BB' lets' 0 Dead' Kp ⟨back fr cs,relay tl (oF (tpOf n) oK oE) x.w,x.H,x.β,x.T⟩ A' W'∧(W'.os=W.os∧W'.output=W.output)∧W.heap.size<=W'.heap.size∧∀ B,Dead' B->Dead B∨W.heap.size<=B:=by
 obtain ⟨s1,s2,s3,s4⟩:=inner_start I lib hcE hbar ht hH hg
 have hcs:=ht.gl.callers
 rw [hg] at hcs
 obtain ⟨FR,CS,eCS,r1,r2⟩:=callers_of hcs hc
 have noDead:∀ b B,x.β b B->¬ Dead B:=fun b B hb hd=>by have:=ht.dead b B hb hd;rw [hH] at this;cases this
 have xlt:∀ b B,x.β b B->b<x.w.heap.size∧B<W.heap.size:=fun b B h=>ht.wl.lt h
 have hkt:∀ b,kx b=true∨tl b=true->b<x.w.heap.size:=fun b h=>I.lt h
 have isz:((sink kx tl x.w).alloc (.coro none)).heap.size=x.w.heap.size+1:=ic
 have kx0:∀ b B,(inner kx tl cb f fx fc x A).β b B->(inner kx tl cb f fx fc x A).H b=true∨Ro (inner kx tl cb f fx fc x A).w b:=fun b B hb=>hb.1.elim (fun h=>.inr (s4 b h)) fun h=>.inl (by simp [inner,h])
 obtain ⟨N1,m1,t1,hr1,gs1,W1,sl1,q1,x1,a1,rfl,g1,z1,b1,tw1,Q1,eH1,eT1,le1,os1,sz1,sz1',new1⟩:=tree_beside (P:=PP) (SB:=SB) (BB:=BB) (lets:=true) (Gn:=0) (Dead:=Dead) (Kp:=⟨fun B=>B<W.heap.size,W,0⟩) lib
  (H:=hidE tl x.w) (T:=A.callers) (β:=cut (fun b=>kx b=true∨tl b=true) x.β) (Q:=QA cb (.func f fx fc) ((sink kx tl x.w).alloc (.coro none))) (os:=W.os) (ou:=W) (n:=gs.size) (b0:=x.w.heap.size+1) (B0:=W.heap.size) _ (crowd gs W sl) t
  ⟨gs,W,sl,q,inner kx tl cb f fx fc x A,A,rfl,h0,rfl,hb,⟨s1,s2,rfl,fun b B hb hd=>absurd hd (noDead b B hb.2),fun B hB=>⟨hB,rfl⟩,fun b B hb _=>kx0 b B hb⟩,mA I.hB,rfl,rfl,Bij.le_refl _,⟨rfl,rfl⟩,⟨Nat.le_refl _,Nat.le_of_eq isz.symm,fun b B h=>.inl h⟩,rfl⟩
 obtain ⟨Q1g,Q1w⟩:=Q1
 rw [isz] at Q1g
 obtain ⟨N2,m2,t2,hr2,gs2,d2,sl2,q2,st2,g2,z2,b2⟩:=main_turn (P:=PP) (sl:=sl1) b1 g1 tw1.gl.status.2
 obtain ⟨W2,hW2⟩:∃ W2,W2=W1.at d2:=⟨_,rfl⟩
 have tw2:=tw1.at d2
 rw [<- hW2] at st2 b2 tw2
 have W2h:W2.heap=W1.heap:=by rw [hW2];rfl
 have W2o:W2.os=W1.os∧W2.output=W1.output:=by rw [hW2];exact ⟨rfl,rfl⟩
 have old1:∀ b B,tl b=true->(x1.β b B↔x.β b B):=fun b B h=>by
  obtain ⟨B',hB'⟩:=hpair b (.inr h)
  have h1:=le1 b B' ⟨.inr h,hB'⟩
  exact ⟨fun h2=>by rw [tw1.wl.fine.fn h2 h1];exact hB',fun h2=>le1 b B ⟨.inr h,h2⟩⟩
 have none1:∀ B,¬ x1.β x.w.heap.size B:=fun B h=>by
  rcases new1 _ _ h with h | h
  ·have:=hkt _ h.1;omega
  ·omega
 have lt1:∀ b B,x1.β b B->B<W2.heap.size:=fun b B h=>by rw [W2h];exact (tw1.wl.lt h).2
 have lowB:∀ b B,x1.β b B->B<W.heap.size->x.β b B∧(kx b=true∨tl b=true):=fun b B h hB=>by
  rcases new1 _ _ h with h | h
  ·exact ⟨h.2,h.1⟩
  ·omega
 obtain ⟨β3,hβ3⟩:∃ β3,β3=more x1.β x.w.heap.size W2.heap.size:=⟨_,rfl⟩
 have le3:x1.β.le β3:=by rw [hβ3];exact lC _ _ _
 have cs3:∀ b B,β3 b B->x1.β b B∨(b=x.w.heap.size∧B=W2.heap.size):=fun b B h=>by rw [hβ3] at h;exact h
 have pair3:β3 x.w.heap.size W2.heap.size:=by rw [hβ3];exact .inr ⟨rfl,rfl⟩
 obtain ⟨A3,st3,gl3⟩:=group_made I.hB Q1g tw2.gl le3 pair3
 obtain ⟨W3,hW3⟩:∃ W3,W3=W2.alloc (.cells #[.int .u64 0,.int .u32 0] 146):=⟨_,rfl⟩
 rw [<- hW3] at st3
 have W3get:∀ B,B<W2.heap.size->W3.heap[B]?=W2.heap[B]?:=fun B h=>by rw [hW3,av,if_neg (by omega)]
 have W3size:W3.heap.size=W2.heap.size+1:=by rw [hW3,ax]
 have W3os:W3.os=W2.os∧W3.output=W2.output:=by rw [hW3];exact ⟨rfl,rfl⟩
 obtain ⟨gs3,hst3,z3,g3,lv3⟩:=b2.mute0 (P:=PP) (sl:=sl2) g2 st3
 have hr3:runNT Tryz.prog (N1+(N2+1)) (crowd gs W sl) t=(.next (crowd gs3 W3 sl2),t2):=by
  have e1:runNT Tryz.prog N1 (crowd gs W sl) t=(.next (crowd gs1 W1 sl1),t1):=hr1
  have e2:runNT Tryz.prog N2 (crowd gs1 W1 sl1) t1=(.next m2,t2):=hr2
  have e3:stepT Tryz.prog m2=(.next (crowd gs3 W3 sl2),#[]):=st2.trans hst3
  rw [ce e1,ce e2,lE e3,Array.append_empty]
 have wl3:WRel (SP SB (hidE tl x.w)) (CK Tryz.prog SB true) 0 β3 (startW kx tl x.w cb (.func f fx fc)) W3:=by
  have e1:WRel (SP SB (hidE tl x.w)) (CK Tryz.prog SB true) 0 x1.β x1.w W2:=by have:=tw2.wl;rw [WLike,eH1] at this;exact this
  have bx:∀ b,x1.w.heap[b]?=if b=x.w.heap.size+2 then some (.cells #[.func f fx fc] 93) else if b=x.w.heap.size+1 then some (.cells #[.pointer (some ⟨cb,0,none⟩)] 80) else if b=x.w.heap.size then some (.coro none) else (sink kx tl x.w).heap[b]?:=fun b=>by
   rw [Q1w.1,boxed,av,ax,isz,av,isz,av,cZ]
  have e2:=nS (c:=#[.int .u64 0,.int .u32 0]) (ty:=146) (f:=(0,0)) e1 (b:=x.w.heap.size) none1 (by simp) rfl (by rw [bx,if_neg (by omega),if_neg (by omega),if_pos rfl]) (Nat.zero_le _)
  rw [<- hβ3] at e2
  rw [hW3]
  refine nV e2 ?_ ?_ fun b=>?_
  ·rw [cT,Q1w.1,boxed,ax,ax,isz]
  ·rw [nW,Q1w.2.1];rfl
  ·rw [aT,bx]
   by_cases h2:b=x.w.heap.size+2
   ·rw [if_pos h2,if_pos h2];exact .inr ⟨_,_,_,_,rfl,rfl,fun i h1 h2=>by simp at h2⟩
   ·rw [if_neg h2,if_neg h2]
    by_cases h1:b=x.w.heap.size+1
    ·rw [if_pos h1,if_pos h1];exact .inr ⟨_,_,_,_,rfl,rfl,fun i h1 h2=>by simp at h2⟩
    ·rw [if_neg h1,if_neg h1];exact .inl rfl
 obtain ⟨Toy,hToy⟩:∃ Toy:Nat->Prop,Toy=fun B=>∃ b,tl b=true∧x.β b B:=⟨_,rfl⟩
 obtain ⟨Pr,hPr⟩:∃ Pr:Bij,Pr=cut (kbE kx tl x.w) β3:=⟨_,rfl⟩
 have toyLt:∀ B,Toy B->B<W.heap.size:=fun B h=>by rw [hToy] at h;obtain ⟨b,_,h⟩:=h;exact (xlt _ _ h).2
 have W23:W2.heap.size=W1.heap.size:=by rw [W2h]
 have n0:∀ b,kx b=true∨tl b=true->b≠x.w.heap.size:=fun b h e=>by have:=hkt b h;omega
 have old3:∀ b B,tl b=true->(β3 b B↔x.β b B):=fun b B h=>⟨fun h3=>by
  rcases cs3 b B h3 with h4 | h4
  ·exact (old1 b B h).1 h4
  ·exact absurd h4.1 (n0 b (.inr h)),fun h3=>le3 _ _ ((old1 b B h).2 h3)⟩
 have toyHid:∀ b B,β3 b B->Toy B->tl b=true:=fun b B h hB=>by
  have hlt:=toyLt B hB
  rw [hToy] at hB
  obtain ⟨b',h1,h2⟩:=hB
  rcases cs3 b B h with h4 | h4
  ·have h5:=(lowB b B h4 hlt).1
   rw [ht.wl.fine.inj h5 h2];exact h1
  ·omega
 have C:=I.ctx (β:=x.β) (Pr:=Pr) (T:=A.callers) (Toy:=Toy) (Wg:=W2.heap.size) lib Wl h93 hT bD (fun b B h1 h2=>by rw [hPr] at h1;rw [hToy];exact ⟨b,h2,(old3 b B h2).1 h1.2⟩)
  (fun b h=>by obtain ⟨B,hB⟩:=hpair b (.inr h);exact ⟨B,by rw [hPr];exact ⟨.inr (.inl h),(old3 b B h).2 hB⟩⟩) (fun b B h=>by rw [hPr] at h;exact h.1) (by rw [hPr];exact ⟨.inr (.inr (.inl rfl)),pair3⟩) (fun h=>by have:=toyLt _ h;omega)
  (fun b B h=>by rw [hPr];exact ⟨fun h1=>(old3 b B h).1 h1.2,fun h1=>⟨.inr (.inl h),(old3 b B h).2 h1⟩⟩)
 have hd0:=mB I
 have sw:∀ b,b<x.w.heap.size+3->(startW kx tl x.w cb (.func f fx fc)).heap[b]?≠none:=fun b hb=>by rw [Ne,Array.getElem?_eq_none_iff,cT];omega
 have scr : ScrR PP SB BB true 0 146 W2.heap.size Toy (ToyW x.β tl oK) (ToyW x.β tl oE) 91 94 x.w.heap.size Pr A.callers (FnE BB tl x.w (tpOf n)) n true (hidE tl x.w)
   (G ((base 49).at ((gA cb (x.w.heap.size+1) (x.w.heap.size+1+1) (.func f fx fc)).put (some 4) (.pointer (some ⟨x.w.heap.size,0,none⟩))) (.inRegion o1 [] :: kA)) [bad]) (startW kx tl x.w cb (.func f fx fc)):=by
  obtain ⟨e1,v,e2⟩:=I.hold _ I.ok
  refine qJ I.hB (ct C.fins n) (by simp) (I.box2 _ I.ok) e1 e2 ?_
  have:=pC C (fun b B h=>by rw [hPr] at h;exact h.1) n 0 (by omega) (kbE kx tl x.w) _ hd0 undef undef undef (.pointer (some ⟨cb,0,none⟩)) (.pointer (some ⟨cb,0,none⟩)) (.pointer (some ⟨cb,2,none⟩)) undef undef undef undef undef undef undef undef undef undef undef undef undef (fun v hv=>by
   simp only [List.mem_cons,List.not_mem_nil,or_false] at hv
   rcases hv with rfl | rfl | rfl | rfl | rfl | rfl | rfl | rfl | rfl | rfl | rfl<;>first | exact VRel.undef _ _ | exact .ptr (.inl I.ks.1) _ _)
  rw [I.tp0] at this
  exact this
 have keep1:=tw2.keep
 have Wold:∀ B,B<W.heap.size->W3.heap[B]?=W.heap[B]?:=fun B hB=>by
  obtain ⟨h1,h2⟩:=keep1 B hB
  rw [W3get B h1];exact h2
 have W3osW:W3.os=W.os∧W3.output=W.output:=⟨W3os.1.trans (W2o.1.trans os1.1),W3os.2.trans (W2o.2.trans os1.2)⟩
 obtain ⟨x3,hx3⟩:∃ x3:Lone,x3=⟨G ((base 49).at ((gA cb (x.w.heap.size+1) (x.w.heap.size+1+1) (.func f fx fc)).put (some 4) (.pointer (some ⟨x.w.heap.size,0,none⟩))) (.inRegion o1 [] :: kA)) [bad],startW kx tl x.w cb (.func f fx fc),hidE tl x.w,β3,A.callers⟩:=⟨_,rfl⟩
 have gl3':GLike PP SB BB true x3 A3:=by rw [hx3];rw [eH1,eT1] at gl3;exact gl3
 have b3:x3.β=β3:=by rw [hx3]
 have H3:x3.H=hidE tl x.w:=by rw [hx3]
 have wg3:∀ b,β3 b W2.heap.size->(hidE tl x.w).at_ b=true:=fun b hb=>by
  rcases cs3 _ _ hb with h | h
  ·have:=lt1 _ _ h;omega
  ·simp [h.1]
 have nd3:∀ b B,β3 b B->¬ Dead B:=fun b B hb hd=>by
  rcases cs3 _ _ hb with h | h
  ·have h1:=tw2.dead b B h hd
   rw [eH1] at h1
   simp only [Bool.or_eq_true,beq_iff_eq] at h1
   rcases h1 with h1 | rfl
   ·exact noDead b B ((old1 b B h1).1 h) hd
   ·exact none1 _ h
  ·have:=b2.low B hd;omega
 have keepx3:∀ b B,β3 b B->B<W.heap.size->(hidE tl x.w).at_ b=true∨Ro (startW kx tl x.w cb (.func f fx fc)) b:=fun b B hb hB=>by
  rcases cs3 _ _ hb with h | h
  ·rcases (lowB b B h hB).2 with h | h
   ·have hl:=hkt b (.inl h)
    obtain ⟨q1,l,ty,g,q2,q3,q4⟩:=I.kxs b h
    refine .inr ?_
    unfold Ro
    rw [aT,if_neg (by omega),if_neg (by omega),if_neg (by omega),ek q2 h q1]
    exact ⟨_,_,_,rfl,fun i hi=>⟨Nat.zero_le _,hi⟩⟩
   ·exact .inl (by simp [h])
  ·exact .inl (by simp [h.1])
 have toys3:ToyW x.β tl oK W3:=fun b B hb h=>by
  obtain ⟨o,O,p1,p2,p3⟩:=ht.wl.objs b B hb (hH b)
  obtain ⟨q1,q2,_⟩:=I.tls b h
  rw [q1] at p1;cases p1
  exact ⟨O,(Wold B (xlt b B hb).2).trans p2,fun S Ck β'=>q2.rel p3⟩
 obtain ⟨μ,hinv⟩:=begin_group (P:=PP) (SB:=SB) (BB:=BB) (lets:=true) (Gn:=0) (ty:=146) (Wg:=W2.heap.size) (Dead:=Dead) (Toy:=Toy) (Kp:=⟨fun B=>B<W.heap.size∧¬ Toy B,W,gs.size+n⟩) (Ψ0:=ToyW x.β tl oK) (Ψ2:=ToyW x.β tl oE) (fA:=91) (fW:=94) (wl:=x.w.heap.size) (Pr:=Pr) (T:=A.callers) (Fn:=FnE BB tl x.w (tpOf n))
  (gs:=gs3) (W:=W3) (t:=t2) (q:=q2) (sl:=sl2) (x:=x3) (a:=A3) (tp:=true) (k:=n) lv3 b2.past b2.quiet (fun i op h=>by rw [z3];exact b2.gs_ i op h) b2.low (by show W3.heap[W2.heap.size]?=_;rw [hW3,av,if_pos rfl];rfl) g3
  gl3' (by rw [hx3];exact wl3) (by rw [H3]) (by rw [hx3]) (fun b B h=>by rw [hPr] at h;rw [b3];exact h.2) (fun b hb=>by rw [b3] at hb;rw [H3];exact wg3 b hb) (fun b B hb=>by rw [b3] at hb;exact nd3 b B hb) (fun b B hb hB=>by rw [b3] at hb;rw [H3];simp [toyHid b B hb hB])
  (fun B hB=>⟨⟨by have:=toyLt B hB;omega,fun hd=>by rw [hToy] at hB;obtain ⟨b,_,h⟩:=hB;exact noDead _ _ h hd⟩,fun h=>h.2 hB,by have:=toyLt B hB;omega⟩)
  (fun B hB=>⟨by have:=hB.1;omega,by have:=hB.1;omega,Wold B hB.1⟩) (fun b B hb hB=>by rw [b3] at hb;have:=keepx3 b B hb hB.1;rw [hx3];exact this) W3osW ⟨fun _=>toys3,fun h=>(by cases h)⟩ (by rw [hx3];exact scr) (by simp only;omega)
 have tzK:ao Toy (ToyW x.β tl oK):=fun W W' hW h b B h1 h2=>by
  obtain ⟨O,h3,h4⟩:=h b B h1 h2
  exact ⟨O,(hW B (by rw [hToy];exact ⟨b,h2,h1⟩)).trans h3,h4⟩
 have tzE:ao Toy (ToyW x.β tl oE):=fun W W' hW h b B h1 h2=>by
  obtain ⟨O,h3,h4⟩:=h b B h1 h2
  exact ⟨O,(hW B (by rw [hToy];exact ⟨b,h2,h1⟩)).trans h3,h4⟩
 have hA:=addIn (P:=PP) (SB:=SB) (BB:=BB) (lets:=true) (Gn:=0) (Wg:=W2.heap.size) (T:=A.callers) (L:=L) Wl bA x.w.heap.size
 have hW:=rY (P:=PP) (SB:=SB) (BB:=BB) (lets:=true) (Gn:=0) (Wg:=W2.heap.size) (T:=A.callers) (L:=L) Wl bW x.w.heap.size
 rw [hT,h91] at hA
 rw [hT,h94] at hW
 obtain ⟨N4,m4,t4,hr4,hfin⟩:=join (by rw [hPr];exact ⟨.inr (.inr (.inl rfl)),pair3⟩) lib (fun f fn h _=>h) tzK tzE hA hW hinv
 obtain ⟨gs4,W4,sl4,x4,a4,tp4,q4,rfl,g4,lv4,past4,quiet4,gsb4,fini4,wl4,tw4,wg4,dead4,toy4,keep4,wgl4,dl4,t0_4,t2_4,os4,ou4,bd4,keepx4⟩:=past_of_fin hfin
 obtain ⟨e4,eH4,r4⟩:=fini4.fin
 have W4lt:∀ B,B<W.heap.size->B<W4.heap.size:=fun B h=>by omega
 have b4:Btw Tryz.prog (fun B=>Dead B∨B=W2.heap.size) gs4 W4 t4 q4:=⟨lv4,past4,quiet4,gsb4,fun B hB=>hB.elim (dl4 B) fun h=>h▸wgl4⟩
 have tw4':Tw PP SB BB true 0 (fun B=>Dead B∨B=W2.heap.size) ⟨fun B=>B<W.heap.size,W4,0⟩ x4 a4 W4:=⟨fini4.gl,wl4,tw4,fun b B hb hd=>hd.elim (fun h=>absurd h (dead4 b B hb)) fun h=>wg4 b (h▸hb),fun B hB=>⟨W4lt B hB,rfl⟩,fun b B hb hB=>by
  by_cases hty:Toy B
  ·exact .inl (toy4 b B hb hty)
  ·exact keepx4 b B hb ⟨hB,hty⟩⟩
 obtain ⟨N5,m5,t5,hr5,gs5,W5,sl5,q5,x5,a5,rfl,g5,z5,b5,tw5,Q5,eH5,eT5,le5,os5,sz5,sz5',new5⟩:=tree_beside (P:=PP) (SB:=SB) (BB:=BB) (lets:=true) (Gn:=0) (Kp:=⟨fun B=>B<W.heap.size,W4,0⟩) lib
  (H:=x4.H) (T:=x4.T) (β:=x4.β) (Q:=Iso.Left Tryz.prog 49 fun v _=>v=.tuple #[]) (os:=W4.os) (ou:=W4) (n:=gs4.size) (b0:=0) (B0:=W4.heap.size) _ (crowd gs4 W4 sl4) t4
  ⟨gs4,W4,sl4,q4,x4,a4,rfl,g4,rfl,b4,tw4',r4,rfl,rfl,Bij.le_refl _,⟨rfl,rfl⟩,⟨Nat.le_refl _,Nat.zero_le _,fun b B h=>.inl h⟩,rfl⟩
 obtain ⟨N6,m6,t6,hr6,gs6,d6,sl6,q6,st6,g6,z6,b6⟩:=main_turn (P:=PP) (sl:=sl5) b5 g5 tw5.gl.status.2
 have tw6:=tw5.at d6
 have hgl5:GRel PP SB x5.H true BB (FR :: CS) x5.β x5.g a5:=by
  have:=tw5.gl
  rw [GLike,eT5,fini4.t,eCS] at this
  exact this
 obtain ⟨v,w0,w1,V,W7,ES,β7,_,hv,_,st7,hV,fin7⟩:=leave (P:=PP) (lib x5.H) (main2:=true) Q5 I.hB hgl5 tw6.wl
 subst hv
 have eV:V=.tuple #[]:=by
  cases hV with
  | @tuple _ X h1 _ =>
   have:X=#[]:=by simpa using h1.symm
   rw [this]
 subst eV
 obtain ⟨gs7,ops7,hst7,z7,g7,b7⟩:=b6.fin (P:=PP) (SB:=SB) (lets:=true) (Gn:=0) (x:=x5) tw5.tw tw6.dead g6 st7 fin7 sl6
 obtain ⟨keep7,_⟩:=keep_fin (P:=PP) (SB:=SB) (lets:=true) (Gn:=0) (x:=x5) fin7 tw6.keep tw6.keepx
 have hrun:runNT Tryz.prog ((N1+(N2+1))+(N4+(N5+(N6+1)))) (crowd gs W sl) t=(.next (crowd gs7 W7 sl6),t6++ops7):=by
  have e4:runNT Tryz.prog N4 (crowd gs3 W3 sl2) t2=(.next (crowd gs4 W4 sl4),t4):=hr4
  have e5:runNT Tryz.prog N5 (crowd gs4 W4 sl4) t4=(.next (crowd gs5 W5 sl5),t5):=hr5
  have e6:runNT Tryz.prog N6 (crowd gs5 W5 sl5) t5=(.next m6,t6):=hr6
  have e7:stepT Tryz.prog m6=(.next (crowd gs7 W7 sl6),ops7):=st6.trans hst7
  rw [ce hr3,ce e4,ce e5,ce e6,lE e7]
 have W7old:∀ B,B<W.heap.size->B<W7.heap.size∧W7.heap[B]?=W4.heap[B]?:=fun B hB=>keep7 B hB
 have W7plain:∀ B,B<W.heap.size->¬ Toy B->W7.heap[B]?=W.heap[B]?:=fun B hB hT=>(W7old B hB).2.trans (keep4 B ⟨hB,hT⟩)
 have W5s:W5.heap.size<=W7.heap.size:=fin7.SIZE
 have toyF:∀ b B,x.β b B->tl b=true->∃ O,W7.heap[B]?=some O∧∀ (S:Par) (Ck:Code->Prop) (β':Bij),ORel S Ck β' (oF (tpOf n) oK oE b) O:=fun b B hb h=>by
  have hE:=(W7old B (xlt b B hb).2).2
  rw [hE]
  cases htp:tpOf n with
  | true=>exact t0_4 (by rw [e4];exact htp) b B hb h
  | false=>exact t2_4 (by rw [e4];exact htp) b B hb h
 have notToy:∀ b B,x.β b B->tl b=false->¬ Toy B:=fun b B hb h hT=>by
  rw [hToy] at hT
  obtain ⟨b',h1,h2⟩:=hT
  rw [ht.wl.fine.inj hb h2] at h
  rw [h] at h1;cases h1
 have os7:W7.os=W.os∧W7.output=W.output:=⟨fin7.OS.trans (os5.1.trans os4),fin7.OUT.trans (os5.2.trans ou4)⟩
 refine ⟨_,_,_,hrun,gs7,W7,sl6,q6,_,_,rfl,g7,?_,b7,⟨gE (x:=⟨back fr cs,relay tl (oF (tpOf n) oK oE) x.w,x.H,x.β,x.T⟩) r1 r2,⟨ht.wl.fine,⟨Nat.zero_le _,Nat.zero_le _⟩,fun b B hb hh=>?_,fun b B hb hh=>?_,fun b hh=>?_,?_⟩,ht.tw,fun b B hb hd=>?_,fun B hB=>?_,fun b B hb hB=>?_⟩,os7,by omega,fun B hB=>hB.imp id fun h=>by rw [h];omega⟩
 ·rw [z7,z6,z5];exact bd4
 ·have hl:=(xlt b B hb).1
  rw [bm _ _ _ _ hl]
  cases h:tl b with
  | true =>
   obtain ⟨O,h1,h2⟩:=toyF b B hb h
   exact ⟨_,O,rfl,h1,h2 _ _ _⟩
  | false =>
   obtain ⟨o,O,p1,p2,p3⟩:=ht.wl.objs b B hb (hH b)
   exact ⟨o,O,p1,(W7plain B (xlt b B hb).2 (notToy b B hb h)).trans p2,p3⟩
 ·have hh':x.H b=true:=hh
  rw [hH] at hh';cases hh'
 ·have hh':x.H b=true:=hh
  rw [hH] at hh';cases hh'
 ·show x.w.os.env=W7.os.env
  rw [os7.1];exact ht.wl.env
 ·rcases hd with hd | hd
  ·exact absurd hd (noDead b B hb)
  ·have:=(xlt b B hb).2
   omega
 ·obtain ⟨k1,k2⟩:=ht.keep B hB
  refine ⟨(W7old B k1).1,(W7plain B k1 fun hT=>?_).trans k2⟩
  rw [hToy] at hT
  obtain ⟨b,h1,h2⟩:=hT
  exact hKp b B h2 h1 hB
 ·rcases ht.keepx b B hb hB with h | ⟨c',t',f',h1,h2⟩
  ·exact .inl h
  ·refine .inr ⟨c',t',f',?_,h2⟩
   show (relay tl _ x.w).heap[b]?=_
   rw [bm _ _ _ _ (xlt b B hb).1]
   cases h:tl b with
   | true=>exact absurd hB (hKp b B hb h)
   | false=>exact h1
end
open Go.RowKit Go.Sq
theorem bp (a b c:Int) (w:World):Calls Sq.prog 65 #[.int .i64 a,.int .i64 b,.int .i64 c] w fun e w'=>e=.returned (.bool (inR a b c))∧w=w':=by
 by_cases h1:b<=a
 ·by_cases h2:a<=c
  ·have HS:=Lib.hid (show inR a b c=true by simp [inR,h1,h2])
   go_enter Sq.func65,Tryz.ntmps65
   go_wp2
   go_ret
   exact ⟨aA HS.out.symm,rfl⟩
  ·have HS:=Lib.hid (show inR a b c=false by simp [inR];omega)
   go_enter Sq.func65,Tryz.ntmps65
   go_wp2
   go_ret
   exact ⟨aA HS.out.symm,rfl⟩
 ·have HS:=Lib.hid (show inR a b c=false by simp [inR];omega)
  go_enter Sq.func65,Tryz.ntmps65
  go_wp2
  go_ret
  exact ⟨aA HS.out.symm,rfl⟩
theorem fI (n lo hi:Int) (w:World):Calls Sq.prog 84 #[.int .i64 n,.int .i64 lo,.int .i64 hi] w fun e w'=>e=.returned (.int .i64 (manyE n lo hi))∧w=w':=by
 by_cases h1:n<lo
 ·have HS:=Lib.hid (show manyE n lo hi=7 by simp [manyE,h1])
  go_enter Sq.func84,Tryz.ntmps84
  go_wp2
  go_ret
  exact ⟨ap HS.out.symm,rfl⟩
 ·by_cases h2:hi<n
  ·have HS:=Lib.hid (show manyE n lo hi=6 by simp [manyE,h1,h2])
   go_enter Sq.func84,Tryz.ntmps84
   go_wp2
   go_ret
   exact ⟨ap HS.out.symm,rfl⟩
  ·have HS:=Lib.hid (show manyE n lo hi=0 by simp [manyE,h1,h2])
   go_enter Sq.func84,Tryz.ntmps84
   go_wp2
   go_ret
   exact ⟨ap HS.out.symm,rfl⟩
theorem gi (A:Option Addr) (c:Nat) (l:List Int) (n:Int) (w:World) (B:Nat) (h:RI w B A l) (hl:l.length<=4611686018427387904) (hn0:0<=n) (hn:n<=4611686018427387904) :
  Calls Sq.prog 85 #[.slice A l.length c,.int .i64 n] w fun e w'=>e=.returned (.int .i64 (ascE l n))∧w=w':=by
 have HR:=Lib.hid h
 clear h
 go_enter Sq.func85,Tryz.ntmps85
 go_wp2
 go_loop [9] (fun i=>∃ k:Nat,k<=l.length∧i=.int .i64 k∧∀ j,j<k->ascAt l n j=0) (fun i=>l.length - (intOf i).toNat)
 case atStart=>exact ⟨0,by omega,rfl,fun j hj=>absurd hj (Nat.not_lt_zero _)⟩
 case round =>
  obtain ⟨k,hk,rfl,hz⟩:=hrel
  have HZ:=Lib.hid hz
  clear hz
  by_cases hlt:k<l.length
  ·obtain ⟨b,o,rfl,hb,hc⟩:=HR.out.at_ hlt
   have HA:Hid (ascAt l n k=if 0<=l[k]?.getD 0∧l[k]?.getD 0<=n - 1 then (if 0<k∧l[k]?.getD 0<=l[k - 1]?.getD 0 then 5 else 0) else 3):=Lib.hid rfl
   by_cases hr:0<=l[k]?.getD 0∧l[k]?.getD 0<=n - 1
   ·have HI : Hid (Calls Sq.prog 65 #[.int .i64 (l[k]?.getD 0), .int .i64 0, .int .i64 (n - 1)] w fun e w' => e = .returned (.bool true) ∧ w = w') := Lib.hid (by
     have:=bp (l[k]?.getD 0) 0 (n - 1) w
     rwa [show inR (l[k]?.getD 0) 0 (n - 1)=true by simp [inR,hr.1,hr.2]] at this)
    rcases Nat.eq_zero_or_pos k with h0 | h0
    ·subst h0
     have HS:=Lib.hid (show ascAt l n 0=0 by rw [HA.out,if_pos hr,if_neg (by omega)])
     clear HA hr
     simp only [Nat.add_zero] at hc
     generalize l[0]?.getD 0=x at hc HI
     go_wp2_with (go_at_call 65;refine HI.out.mono ?_;rintro e w' ⟨rfl,rfl⟩)
     go_round
     case rel=>exact ⟨1,by omega,by go_num,fun j hj=>by
      have:j=0:=by omega
      subst this;exact HS.out⟩
     case measure=>simp [intOf];omega
    ·obtain ⟨m,rfl⟩:∃ m,k=m+1:=⟨k - 1,by omega⟩
     have hc':w.cell? ⟨b,o+m,none⟩=some (.int .i64 (l[m]?.getD 0)):=by
      obtain ⟨b',o',e,_,h⟩:=HR.out.at_ (k:=m) (by omega)
      simp only [Option.some.injEq,Addr.mk.injEq] at e
      obtain ⟨rfl,rfl,_⟩:=e
      exact h
     by_cases hle:l[m+1]?.getD 0<=l[m]?.getD 0
     ·have HS := Lib.hid (show ascE l n = 5 by
       have e:ascAt l n (m+1)=5:=by rw [HA.out,if_pos hr,if_pos ⟨h0,hle⟩]
       rw [jF hlt HZ.out (by rw [e];decide),e])
      clear HA hr
      generalize l[m+1]?.getD 0=x at hc HI hle
      generalize l[m]?.getD 0=y at hc' hle
      go_wp2_with (go_at_call 65;refine HI.out.mono ?_;rintro e w' ⟨rfl,rfl⟩)
      go_ret
      exact ⟨ap HS.out.symm,rfl⟩
     ·have HS:=Lib.hid (show ascAt l n (m+1)=0 by rw [HA.out,if_pos hr,if_neg (fun h=>hle h.2)])
      clear HA hr
      generalize l[m+1]?.getD 0=x at hc HI hle
      generalize l[m]?.getD 0=y at hc' hle
      go_wp2_with (go_at_call 65;refine HI.out.mono ?_;rintro e w' ⟨rfl,rfl⟩)
      go_round
      case rel=>exact ⟨m+1+1,by omega,by go_num,fun j hj=>by
       rcases Nat.lt_or_eq_of_le (Nat.le_of_lt_succ hj) with h | rfl
       ·exact HZ.out j h
       ·exact HS.out⟩
      case measure=>simp [intOf];omega
   ·have HI : Hid (Calls Sq.prog 65 #[.int .i64 (l[k]?.getD 0), .int .i64 0, .int .i64 (n - 1)] w fun e w' => e = .returned (.bool false) ∧ w = w') := Lib.hid (by
     have:=bp (l[k]?.getD 0) 0 (n - 1) w
     rwa [show inR (l[k]?.getD 0) 0 (n - 1)=false by simp [inR];omega] at this)
    have HS:=Lib.hid (show ascE l n=3 by
     have e:ascAt l n k=3:=by rw [HA.out,if_neg hr]
     rw [jF hlt HZ.out (by rw [e];decide),e])
    clear HA hr
    generalize l[k]?.getD 0=x at hc HI
    go_wp2_with (go_at_call 65;refine HI.out.mono ?_;rintro e w' ⟨rfl,rfl⟩)
    go_ret
    exact ⟨ap HS.out.symm,rfl⟩
  ·have HS:=Lib.hid (show ascE l n=0 from nd fun i hi=>HZ.out i (by omega))
   have:k=l.length:=by omega
   clear HZ
   go_wp2
   go_ret
   exact ⟨ap HS.out.symm,rfl⟩
open Go.RowKit Go.Sq
def campV (nA hA:Option Addr) (c:Camp) (nc hc:Nat):Value:=.agg #[.slice nA c.needs.length nc,.slice hA c.herders.length hc]
theorem mC {c:Camp} (h1:manyE c.needs.length 1 5=0) (h2:(c.needs.all fun x=>inR x 0 12)=true) (h3:manyE c.herders.length 1 4=0):checkE c=be (c.herders.map (herdE c.needs.length)):=by
 simp [checkE,h1,h2,h3]
theorem du (c:Camp) (n:Int) {i:Nat} (hi:i<c.herders.length):(c.herders.map (herdE n))[i]?.getD 0=herdE n (c.h i):=by
 unfold Camp.h
 simp [hi]
theorem qR (nA hA:Option Addr) (nc hc:Nat) (c:Camp) (w:World) (B:Nat) (hB:B<=w.heap.size) (hn:RI w B nA c.needs) (hh:HsAt w B hA c.herders) (hl1:c.needs.length<=4611686018427387904) (hl2:c.herders.length<=4611686018427387904)
  (hlo:∀ h∈c.herders,h.off.length<=4611686018427387904) :
  Calls Sq.prog 31 #[campV nA hA c nc hc] w fun e w'=>e=.returned (.int .i64 (checkE c))∧Gr w w':=by
 have HN:=Lib.hid hn
 have HH:=Lib.hid hh
 have HLO:=Lib.hid hlo
 clear hn hh hlo
 unfold campV
 obtain ⟨W0,hW0⟩:∃ W0:World,W0=w.alloc (.cells #[.slice nA c.needs.length nc,.slice hA c.herders.length hc] 25):=⟨_,rfl⟩
 have HG0:Hid (Gr w W0):=Lib.hid (by rw [hW0];exact (Gr.refl w).alloc _)
 have HC:Hid (∀ W,Gr W0 W->W.cell? ⟨w.heap.size,0,none⟩=some (.slice nA c.needs.length nc)∧W.cell? ⟨w.heap.size,1,none⟩=some (.slice hA c.herders.length hc)):=Lib.hid fun W hg=>by
  rw [hg.cell (by show w.heap.size<_;rw [hW0];simp),hg.cell (by show w.heap.size<_;rw [hW0];simp),hW0,World.cell?_alloc_at _ _ _ _ rfl,World.cell?_alloc_at _ _ _ _ rfl]
  exact ⟨rfl,rfl⟩
 have hz0:W0.heap.size=w.heap.size+1:=by rw [hW0];simp
 by_cases hm1:manyE c.needs.length 1 5=0
 ·have HM:Hid (Calls Sq.prog 84 #[.int .i64 c.needs.length,.int .i64 1,.int .i64 5] (w.alloc (.cells #[.slice nA c.needs.length nc,.slice hA c.herders.length hc] 25)) fun e w'=>e=.returned (.int .i64 0)∧(w.alloc (.cells #[.slice nA c.needs.length nc,.slice hA c.herders.length hc] 25))=w'):=Lib.hid (by rw [<- hm1];exact fI _ _ _ _)
  have HM1:=Lib.hid hm1
  have HW:=Lib.hid hW0
  clear hm1 hW0
  go_enter Sq.func31,Tryz.ntmps31
  go_wp2_with (first | (go_at_call 84;refine HM.out.mono ?_;rintro e w' ⟨rfl,rfl⟩))
  rw [<- HW.out]
  clear HW HM
  obtain ⟨hc0,hc1⟩:=HC.out W0 (Gr.refl _)
  have HN0:=Lib.hid ((HN.out.gr hB HG0.out).more (B':=W0.heap.size) (by omega))
  go_loop [20] (fun i=>∃ k:Nat,k<=c.needs.length∧i=.int .i64 k∧∀ j,j<k->inR (c.needs[j]?.getD 0) 0 12=true) (fun i=>c.needs.length - (intOf i).toNat)
  case atStart=>exact ⟨0,by omega,rfl,fun j hj=>absurd hj (Nat.not_lt_zero _)⟩
  case round =>
   obtain ⟨k,hk,rfl,hz⟩:=hrel
   have HZ:=Lib.hid hz
   clear hz
   by_cases hlt:k<c.needs.length
   ·obtain ⟨b,o,rfl,hb,hcell⟩:=HN0.out.at_ hlt
    have hI:=bp (c.needs[k]?.getD 0) 0 12 W0
    cases hin:inR (c.needs[k]?.getD 0) 0 12 with
    | true =>
     rw [hin] at hI
     have HI:=Lib.hid hI
     have HIN:=Lib.hid hin
     clear hI hin
     generalize c.needs[k]?.getD 0=x at hcell HI
     go_wp2_with (go_at_call 65;refine HI.out.mono ?_;rintro e w' ⟨rfl,rfl⟩)
     go_round
     case rel=>exact ⟨k+1,by omega,by go_num,fun j hj=>by
      rcases Nat.lt_or_eq_of_le (Nat.le_of_lt_succ hj) with h | rfl
      ·exact HZ.out j h
      ·exact HIN.out⟩
     case measure=>simp [intOf];omega
    | false =>
     rw [hin] at hI
     have HI:=Lib.hid hI
     have HS:=Lib.hid (show checkE c=1 by
      have:(c.needs.all fun x=>inR x 0 12)=false:=by
       rw [List.all_eq_false]
       exact ⟨_,mem_get _ _ hlt,by simp [hin]⟩
      simp [checkE,HM1.out,this])
     clear hI hin
     generalize c.needs[k]?.getD 0=x at hcell HI
     go_wp2_with (go_at_call 65;refine HI.out.mono ?_;rintro e w' ⟨rfl,rfl⟩)
     go_ret
     exact ⟨ap HS.out.symm,HG0.out⟩
   ·have HA := Lib.hid (show (c.needs.all fun x => inR x 0 12) = true by
     rw [List.all_eq_true]
     intro x hx
     obtain ⟨j,hj,rfl⟩:=List.mem_iff_getElem.1 hx
     have:=HZ.out j (by omega)
     rwa [List.getElem?_eq_getElem hj] at this)
    have hkl:k=c.needs.length:=by omega
    clear HZ
    subst hkl
    have hM2:=fI c.herders.length 1 4 W0
    by_cases hm2:manyE c.herders.length 1 4=0
    ·rw [hm2] at hM2
     have HM:=Lib.hid hM2
     have HD:=Lib.hid (mC HM1.out HA.out hm2)
     clear hM2 hm2
     go_wp2_with (first | (go_at_call 84;refine HM.out.mono ?_;rintro e w' ⟨rfl,rfl⟩))
     go_loopw [38] (fun i wr=>∃ k:Nat,k<=c.herders.length∧i=.int .i64 k∧(∀ j,j<k->herdE c.needs.length (c.h j)=0)∧Gr W0 wr) (fun i _=>c.herders.length - (intOf i).toNat)
     case atStart=>exact ⟨0,by omega,rfl,fun j hj=>absurd hj (Nat.not_lt_zero _),Gr.refl _⟩
     case round =>
      obtain ⟨k,hk,rfl,hz,hgr⟩:=hrel
      have HZ:=Lib.hid hz
      have HG1:=Lib.hid hgr
      have HGW:=Lib.hid (HG0.out.trans hgr)
      obtain ⟨hd0,hd1⟩:=HC.out wr hgr
      have hsz:w.heap.size<wr.heap.size:=by have:=HG1.out.size;omega
      clear hz hgr
      by_cases hlt:k<c.herders.length
      ·have HH1:=Lib.hid (HH.out.keep fun b o hb=>HGW.out.cell (p:=⟨b,o,none⟩) (Nat.lt_of_lt_of_le hb hB))
       obtain ⟨b,o,rfl,hb,hat⟩:=HH1.out.at_ (c:=c) hlt
       obtain ⟨g0,g1,g2,A,ac,g3,hri⟩:=hat
       have HRI:=Lib.hid (hri.more (B':=wr.heap.size) (by omega))
       have hol:=HLO.out _ (c.h_mem hlt)
       have HF:=Lib.hid (du c c.needs.length hlt)
       have HIT:∀ x lo hi v,inR x lo hi=v->∀ W:World,Calls Sq.prog 65 #[.int .i64 x,.int .i64 lo,.int .i64 hi] W fun e w'=>e=.returned (.bool v)∧W=w':=fun x lo hi v h W=>by rw [<- h];exact bp _ _ _ _
       have HHIT:=Lib.hid HIT
       clear HIT hri
       cases t1:inR (c.h k).heads 1 40 with
       | false =>
        have HS:=Lib.hid (show checkE c=1 by
         have e:herdE c.needs.length (c.h k)=1:=by simp [herdE,t1]
         rw [HD.out,bZ (k:=k) (by simpa using hlt) (fun i hi=>by rw [du c _ (by omega)];exact HZ.out i hi) (by rw [HF.out,e];decide),HF.out,e])
        have HA:=Lib.hid (HHIT.out _ _ _ _ t1)
        clear t1
        go_wp2_with (first | (go_at_call 65;refine (HA.out _).mono ?_;rintro e w' ⟨rfl,rfl⟩))
        go_ret
        exact ⟨ap HS.out.symm,HGW.out.alloc _⟩
       | true =>
        have HA:=Lib.hid (HHIT.out _ _ _ _ t1)
        cases t2:inR (c.h k).dogs 1 5 with
        | false =>
         have HS:=Lib.hid (show checkE c=1 by
          have e:herdE c.needs.length (c.h k)=1:=by simp [herdE,t2]
          rw [HD.out,bZ (k:=k) (by simpa using hlt) (fun i hi=>by rw [du c _ (by omega)];exact HZ.out i hi) (by rw [HF.out,e];decide),HF.out,e])
         have HB2:=Lib.hid (HHIT.out _ _ _ _ t2)
         clear t1 t2
         go_wp2_with fail
         refine (HA.out _).mono ?_
         rintro e w' ⟨rfl,rfl⟩
         go_wp2_with fail
         refine (HB2.out _).mono ?_
         rintro e w' ⟨rfl,rfl⟩
         go_wp2
         go_ret
         exact ⟨ap HS.out.symm,HGW.out.alloc _⟩
        | true =>
         have HB2:=Lib.hid (HHIT.out _ _ _ _ t2)
         cases t3:inR (c.h k).most 0 5 with
         | false =>
          have HS:=Lib.hid (show checkE c=1 by
           have e:herdE c.needs.length (c.h k)=1:=by simp [herdE,t3]
           rw [HD.out,bZ (k:=k) (by simpa using hlt) (fun i hi=>by rw [du c _ (by omega)];exact HZ.out i hi) (by rw [HF.out,e];decide),HF.out,e])
          have HC3:=Lib.hid (HHIT.out _ _ _ _ t3)
          clear t1 t2 t3
          go_wp2_with fail
          refine (HA.out _).mono ?_
          rintro e w' ⟨rfl,rfl⟩
          go_wp2_with fail
          refine (HB2.out _).mono ?_
          rintro e w' ⟨rfl,rfl⟩
          go_wp2_with fail
          refine (HC3.out _).mono ?_
          rintro e w' ⟨rfl,rfl⟩
          go_wp2
          go_ret
          exact ⟨ap HS.out.symm,HGW.out.alloc _⟩
         | true =>
          have HC3:=Lib.hid (HHIT.out _ _ _ _ t3)
          have HE:=Lib.hid (show herdE c.needs.length (c.h k)=ascE (c.h k).off c.needs.length by simp [herdE,t1,t2,t3])
          have HAS:=Lib.hid (fun W (hg:Gr wr W)=>gi A ac (c.h k).off c.needs.length W wr.heap.size (HRI.out.gr (Nat.le_refl _) hg) hol (by omega) (by omega))
          have HGA:=Lib.hid (fun v=>HGW.out.alloc v)
          have hgr2:Hid (∀ v,Gr wr (wr.alloc v)):=Lib.hid fun v=>(Gr.refl wr).alloc v
          clear t1 t2 t3
          by_cases he:ascE (c.h k).off c.needs.length=0
          ·rw [he] at HAS
           have HE0:=Lib.hid (HE.out.trans he)
           clear he HE
           go_wp2_with fail
           refine (HA.out _).mono ?_
           rintro e w' ⟨rfl,rfl⟩
           go_wp2_with fail
           refine (HB2.out _).mono ?_
           rintro e w' ⟨rfl,rfl⟩
           go_wp2_with fail
           refine (HC3.out _).mono ?_
           rintro e w' ⟨rfl,rfl⟩
           go_wp2_with fail
           refine (HAS.out _ (hgr2.out _)).mono ?_
           rintro e w' ⟨rfl,rfl⟩
           go_wp2
           go_roundw
           case rel=>exact ⟨k+1,by omega,by go_num,fun j hj=>by
            rcases Nat.lt_or_eq_of_le (Nat.le_of_lt_succ hj) with h | rfl
            ·exact HZ.out j h
            ·exact HE0.out,HG1.out.alloc _⟩
           case measure=>simp [intOf];omega
          ·have HS := Lib.hid (show checkE c = ascE (c.h k).off c.needs.length by
            rw [HD.out,bZ (k:=k) (by simpa using hlt) (fun i hi=>by rw [du c _ (by omega)];exact HZ.out i hi) (by rw [HF.out,HE.out];exact he),HF.out,HE.out])
           have hne:((ascE (c.h k).off c.needs.length) != 0)=true:=by simpa using he
           clear HE he
           generalize ascE (c.h k).off c.needs.length=e0 at HAS HS hne
           go_wp2_with fail
           refine (HA.out _).mono ?_
           rintro e w' ⟨rfl,rfl⟩
           go_wp2_with fail
           refine (HB2.out _).mono ?_
           rintro e w' ⟨rfl,rfl⟩
           go_wp2_with fail
           refine (HC3.out _).mono ?_
           rintro e w' ⟨rfl,rfl⟩
           go_wp2_with fail
           refine (HAS.out _ (hgr2.out _)).mono ?_
           rintro e w' ⟨rfl,rfl⟩
           go_wp2
           go_ret
           exact ⟨ap HS.out.symm,HGW.out.alloc _⟩
      ·have HS := Lib.hid (show checkE c = 0 by
        rw [HD.out]
        exact dY fun i hi=>by
         rw [List.length_map] at hi
         rw [du c _ hi];exact HZ.out i (by omega))
       have hkl:k=c.herders.length:=by omega
       clear HZ
       subst hkl
       go_wp2
       go_ret
       exact ⟨ap HS.out.symm,HGW.out⟩
    ·have HS:=Lib.hid (show checkE c=manyE c.herders.length 1 4 by simp [checkE,HM1.out,HA.out,hm2])
     have HM:=Lib.hid hM2
     have hb:((manyE c.herders.length 1 4) != 0)=true:=by simpa using hm2
     clear hM2 hm2
     generalize manyE c.herders.length 1 4=e0 at HM hb HS
     go_wp2_with (first | (go_at_call 84;refine HM.out.mono ?_;rintro e w' ⟨rfl,rfl⟩))
     go_ret
     exact ⟨ap HS.out.symm,HG0.out⟩
 ·have HS:=Lib.hid (show checkE c=manyE c.needs.length 1 5 by simp [checkE,hm1])
  have HM:=Lib.hid (fI c.needs.length 1 5 W0)
  have hb:((manyE c.needs.length 1 5) != 0)=true:=by simpa using hm1
  rw [hW0] at HM
  generalize manyE c.needs.length 1 5=e0 at HM hb HS
  clear hm1 hW0
  go_enter Sq.func31,Tryz.ntmps31
  go_wp2_with (first | (go_at_call 84;refine HM.out.mono ?_;rintro e w' ⟨rfl,rfl⟩))
  go_ret
  exact ⟨ap HS.out.symm,(Gr.refl w).alloc _⟩
end Go.Proofs.YtgicaeombogkcaaGreat
