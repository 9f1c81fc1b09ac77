/- Parts of the proof. -/
import Derived.Test.YtgicaeombogkcaaGreatP16
import Derived.Test.YtgicaeombogkcaaGreatP01
import Derived.Test.YtgicaeombogkcaaGreatP17
import Derived.Test.YtgicaeombogkcaaGreatP18
import Derived.Test.YtgicaeombogkcaaGreatP14
import Derived.Test.YtgicaeombogkcaaGreatP07
import Derived.Conc.WgGenDone
import Derived.Conc.WgGenWait
set_option linter.all false
set_option maxRecDepth 100000
namespace Go.Proofs.YtgicaeombogkcaaGreat
open Go.RowKit Go.Iso Go.Co Go.Conc Go.Sq
abbrev Objs:=List (Nat×List Value×TypeId)
def hasB (o:Objs) (b:Nat):Bool:=o.any fun p=>p.1==b
theorem hasB_of {o:Objs} {b:Nat} (h:hasB o b=true):∃ p∈o,p.1=b:=by
 obtain ⟨p,h1,h2⟩:=List.any_eq_true.1 h
 exact ⟨p,h1,by simpa using h2⟩
theorem ip {o:Objs} {p:Nat×List Value×TypeId} (h:p∈o):hasB o p.1=true:=List.any_eq_true.2 ⟨p,h,by simp⟩
theorem aQ {o e:Objs} {b:Nat}:hasB (o++e) b=(hasB o b||hasB e b):=List.any_append ..
def scl:List Nat:=sbl++[91,93,94,138,139,163,164,165]
def SBc (f:FuncId):Bool:=scl.contains f
def BBc (f:FuncId):Bool:=SBc f&&!(f==91||f==93||f==94||f==163||f==165)
theorem lI:Looks BBc:=by
 refine ⟨fun f hf=>?_,by decide,by decide⟩
 have:sbl.all BBc=true:=by decide
 exact jT this f hf
theorem lJ:∀ f,SBl f=true->BBc f=true:=fun f hf=>by
 have:sll.all BBc=true:=by decide
 exact iN this f hf
def SeesO (W:World) (o:Objs):Prop:=∀ p∈o,∃ f,W.heap[p.1]?=some (.cells p.2.1.toArray p.2.2 f)
structure Setting (w:World) (co ex:Objs) (tb cb sb cap:Nat) (nA hA:Option Addr) (nc F:Nat) (fc:List Value) (oK oE:Obj):Prop where
 obj:∀ p∈co++ex,w.heap[p.1]?=some (.cells p.2.1.toArray p.2.2 (0,0))
 toy:w.heap[tb]?=some oK
 toyS:ScalObj oK∧ScalObj oE
 nt:hasB (co++ex) tb=false
 vco:∀ p∈co,∀ v∈p.2.1,∀ (SB:FuncId->Bool) (H:Hid),InK SB H (fun b=>hasB co b=true) v
 vex:∀ p∈ex,∀ v∈p.2.1,∀ (SB:FuncId->Bool) (H:Hid),SB 54=true->InK SB H (fun b=>hasB (co++ex) b=true) v
 vfc:∀ v∈fc,∀ (SB:FuncId->Bool) (H:Hid),InK SB H (fun b=>hasB (co++ex) b=true∨b=tb) v
 sF:SBx F=true∧SBc F=true
 cF:∀ (x:Array Value) (w:World),(callFunc F x).run Sq.prog w=.ok (.enter F x) w
 kcb:hasB co cb=true
 ksb:hasB co sb=true
 camp:∀ W:World,SeesO W co->CampK W (fun b=>hasB co b=true) cb wakeCamp (setsL 3) nA hA nc 3 sb cap
abbrev kxS (co ex:Objs):Nat->Bool:=hasB (co++ex)
abbrev tlS (tb:Nat):Nat->Bool:=fun b=>b==tb
def OkS (kx tl:Nat->Bool) (w:World) (cb:Nat) (p1:Value) (w':World):Prop:=∀ b,kbE kx tl w b->w'.heap[b]?=(startW kx tl w cb p1).heap[b]?
section
variable {w:World} {co ex:Objs} {tb cb sb cap:Nat} {nA hA:Option Addr} {nc F:Nat} {fc:List Value} {oK oE:Obj}
theorem Setting.lt (S:Setting w co ex tb cb sb cap nA hA nc F fc oK oE) {b:Nat} (h:kxS co ex b=true∨tlS tb b=true):b<w.heap.size:=by
 rcases h with h | h
 ·obtain ⟨p,h1,rfl⟩:=hasB_of h
  exact (Array.getElem?_eq_some_iff.1 (S.obj p h1)).1
 ·have:b=tb:=by simpa using h
  subst this
  exact (Array.getElem?_eq_some_iff.1 S.toy).1
theorem Setting.at_ (S:Setting w co ex tb cb sb cap nA hA nc F fc oK oE) {p1:Value} {w':World} (h:OkS (kxS co ex) (tlS tb) w cb p1 w') :
  (∀ p∈co++ex,w'.heap[p.1]?=some (.cells p.2.1.toArray p.2.2 (0,p.2.1.toArray.size)))∧w'.heap[tb]?=some (.coro none)∧w'.heap[w.heap.size]?=some (.coro none) ∧
   w'.heap[w.heap.size+1]?=some (.cells #[.pointer (some ⟨cb,0,none⟩)] 80 (0,1))∧w'.heap[w.heap.size+2]?=some (.cells #[p1] 93 (0,1)):=by
 refine ⟨fun p hp=>?_,?_,?_,?_,?_⟩
 ·have hk:kxS co ex p.1=true:=ip hp
  have hl:=S.lt (.inl hk)
  have ht:tlS tb p.1=false:=by
   cases hc:tlS tb p.1 with
   | false=>rfl
   | true =>
    have:p.1=tb:=by simpa using hc
    have h2:=S.nt
    rw [<- this] at h2
    rw [show hasB (co++ex) p.1=true from hk] at h2
    cases h2
  rw [h _ (.inl hk),aT,if_neg (by omega),if_neg (by omega),if_neg (by omega),ek (S.obj p hp) hk ht]
 ·have hl:=S.lt (b:=tb) (.inr (by simp))
  rw [h _ (.inr (.inl (by simp))),aT,if_neg (by omega),if_neg (by omega),if_neg (by omega),iL hl (by simp)]
 ·rw [h _ (.inr (.inr (.inl rfl))),aT,if_neg (by omega),if_neg (by omega),if_pos rfl]
 ·rw [h _ (.inr (.inr (.inr (.inl rfl)))),aT,if_neg (by omega),if_pos rfl]
 ·rw [h _ (.inr (.inr (.inr (.inr rfl)))),aT,if_pos rfl]
theorem cell_of {W:World} {b:Nat} {l:Array Value} {t:TypeId} {f:Nat×Nat} (h:W.heap[b]?=some (.cells l t f)) (i:Nat):W.cell? ⟨b,i,none⟩=l[i]?:=by
 unfold World.cell?
 simp only [h]
 rfl
theorem Setting.sees (S:Setting w co ex tb cb sb cap nA hA nc F fc oK oE) {p1:Value} {w':World} (h:OkS (kxS co ex) (tlS tb) w cb p1 w'):SeesO w' (co++ex):=fun p hp=>⟨_,(S.at_ h).1 p hp⟩
theorem SeesO.left {W:World} {o e:Objs} (h:SeesO W (o++e)):SeesO W o:=fun p hp=>h p (List.mem_append_left _ hp)
theorem sH:∀ i:Nat,i<8->IntKind.i64.wrap ((i:Int)+1)=((i+1:Nat):Int):=by decide
theorem sI (i:Nat) (hi:i<8):(setsL 3)[i]?=some (setW i):=by
 have:∀ i,i<8->(setsL 3)[i]?=some (setW i):=by decide
 exact this i hi
theorem iQ (x:Nat) (j:Nat) (hj:j<5):(#[.int .u8 (x:Int),.int .u8 0,.int .u8 0,.int .u8 0,.int .u8 0]:Array Value)[j]?=some (.int .u8 (firstR x j:Nat)):=by
 match j,hj with
 | 0,_=>rfl
 | 1,_=>rfl
 | 2,_=>rfl
 | 3,_=>rfl
 | 4,_=>rfl
theorem Setting.lapse (S:Setting w co ex tb cb sb cap nA hA nc F fc oK oE) {p1:Value} {w':World} (h:OkS (kxS co ex) (tlS tb) w cb p1 w') (i:Nat) (hi:i<8) (τ:Tape) (d:Nat) :
  Calls Sq.prog 82 #[.pointer (some ⟨cb,0,none⟩),.pointer (some ⟨w'.heap.size,0,none⟩),.int .i64 0] (on (w'.alloc (first (setW i))) τ d) (fun e w2=>∃ v,e=.returned v∧((∃ y1 y2,v=.agg #[.int .i64 (kindW i),.int .i64 y1,.int .i64 y2])∧Ext (w'.alloc (first (setW i))) w2)):=by
 have hold:∀ b,b<w'.heap.size->(on (w'.alloc (first (setW i))) τ d).heap[b]?=w'.heap[b]?:=fun b hb=>heap_alloc_old w' _ hb
 have hs:SeesO (on (w'.alloc (first (setW i))) τ d) co:=fun p hp=>by
  obtain ⟨f,hf⟩:=(S.sees h).left p hp
  exact ⟨f,(hold _ (Array.getElem?_eq_some_iff.1 hf).1).trans hf⟩
 have hr:RosAt (on (w'.alloc (first (setW i))) τ d) (on (w'.alloc (first (setW i))) τ d).heap.size w'.heap.size (firstR (setW i)):=by
  refine ⟨by show _<(w'.alloc _).heap.size;rw [ax];omega,fun j hj=>?_⟩
  exact (cell_of (W:=w'.alloc (first (setW i))) (l:=#[.int .u8 (setW i:Int),.int .u8 0,.int .u8 0,.int .u8 0,.int .u8 0]) (t:=91) (f:=(0,0)) (eM w' (setW i)) j).trans (iQ _ j hj)
 refine (lk cb w'.heap.size 0 wakeCamp (firstR (setW i)) _ (S.camp _ hs).campP hr (Camp.Ok.of fU) (by decide) (eQ i hi)).mono ?_
 rintro e w2 ⟨rfl,hg⟩
 exact ⟨_,rfl,⟨_,_,rfl⟩,hg.size,fun b hb=>hg.below.block b hb,hg.below.os⟩
theorem iR {o:Obj} (h:ScalObj o) {S:Par} {Ck:Code->Prop} {β:Bij}:ORel S Ck β o o:=by
 obtain ⟨l,t,f,rfl,hl⟩:=h
 refine .cells ⟨rfl,fun i v V h1 h2=>?_⟩ fun i h1 h2=>⟨h1,h2⟩
 rw [h1] at h2
 cases h2
 cases hl v (List.mem_of_getElem? (by simpa using h1)) with
 | bool b=>exact .bool b
 | int k n=>exact .int k n
def kidK (co ex:Objs) (tb n r:Nat) (b:Nat):Prop:=hasB (co++ex) b=true∨b=tb∨b=n∨b=n+1∨b=n+2∨b=r
theorem ki (S:Setting w co ex tb cb sb cap nA hA nc F fc oK oE) {p1:Value} {w' W:World} (h:OkS (kxS co ex) (tlS tb) w cb p1 w') (hp1:∀ (H:Hid),InK SBx H (fun b=>hasB (co++ex) b=true∨b=tb) p1) {x:Nat} {r:Nat} (hr:w'.heap[r]?=some (.cells #[.int .u8 (x:Int),.int .u8 0,.int .u8 0,.int .u8 0,.int .u8 0] 91 (0,5)))
  (hW:∀ b,b≠tb->W.heap[b]?=w'.heap[b]?) {H:Hid} (hH:∀ b,H b=false->b≠w.heap.size∧(b=tb->W.heap[tb]?=some oK)) :
  ∀ b,kidK co ex tb w.heap.size r b->H b=false->∃ o,W.heap[b]?=some o∧ORel (SP SBx H) (CK Sq.prog SBx false) (idOn (kidK co ex tb w.heap.size r)) o o:=by
 obtain ⟨a1,a2,a3,a4,a5⟩:=S.at_ h
 have nt:∀ b,hasB (co++ex) b=true->b≠tb:=fun b hb e=>by
  have:=S.nt
  rw [<- e,hb] at this
  cases this
 have htl:tb<w.heap.size:=S.lt (.inr (by simp))
 intro b hb hHb
 obtain ⟨h1,h2⟩:=hH b hHb
 by_cases hbt:b=tb
 ·subst hbt
  exact ⟨oK,h2 rfl,iR S.toyS.1⟩
 rcases hb with hb | hb | hb | hb | hb | hb
 ·obtain ⟨p,hp,rfl⟩:=hasB_of hb
  refine ⟨_,(hW _ hbt).trans (a1 p hp),.cells (allIn fun v hv=>?_) fun i z1 z2=>⟨z1,z2⟩⟩
  rcases List.mem_append.1 hp with hp | hp
  ·exact (S.vco p hp v hv SBx H).mono fun c hc=>.inl (by rw [aQ];simp [hc])
  ·exact (S.vex p hp v hv SBx H (by decide)).mono fun c hc=>.inl hc
 ·exact absurd hb hbt
 ·exact absurd hb h1
 ·subst hb
  refine ⟨_,(hW _ hbt).trans a4,.cells (allIn (l:=[.pointer (some ⟨cb,0,none⟩)]) fun v hv=>?_) fun i z1 z2=>⟨z1,z2⟩⟩
  simp only [List.mem_cons,List.not_mem_nil,or_false] at hv
  subst hv
  exact InK.ptr (.inl (by rw [aQ];simp [S.kcb])) _ _
 ·subst hb
  refine ⟨_,(hW _ hbt).trans a5,.cells (allIn (l:=[p1]) fun v hv=>?_) fun i z1 z2=>⟨z1,z2⟩⟩
  simp only [List.mem_cons,List.not_mem_nil,or_false] at hv
  subst hv
  exact (hp1 H).mono fun c hc=>hc.elim .inl fun h=>.inr (.inl h)
 ·subst hb
  refine ⟨_,(hW _ hbt).trans hr,.cells (allIn (l:=[.int .u8 (x:Int),.int .u8 0,.int .u8 0,.int .u8 0,.int .u8 0]) fun v hv=>?_) fun i z1 z2=>⟨z1,z2⟩⟩
  simp only [List.mem_cons,List.not_mem_nil,or_false] at hv
  rcases hv with rfl | rfl | rfl | rfl | rfl<;>exact VRel.int _ _
theorem qm (S:Setting w co ex tb cb sb cap nA hA nc F fc oK oE) (H:Hid):InK SBx H (fun b=>hasB (co++ex) b=true∨b=tb) (.func (.func F) #[] fc.toArray):=InK.func S.sF.1 fun v hv=>S.vfc v hv SBx H
theorem oc (S:Setting w co ex tb cb sb cap nA hA nc F fc oK oE) {w':World} (h:OkS (kxS co ex) (tlS tb) w cb (.func (.func F) #[] fc.toArray) w') {i:Nat} (hi:i<8) (hnone:walkL wakeCamp (setsL 3) 2 (firstR (setW i)) 1=[]) {r:Nat} (hrk:¬ kbE (kxS co ex) (tlS tb) w r)
  (hr:w'.heap[r]?=some (.cells #[.int .u8 (setW i:Int),.int .u8 0,.int .u8 0,.int .u8 0,.int .u8 0] 91 (0,5))) :
  KTr Tryz.prog BBc (KidQ Tryz.prog w.heap.size fun _=>True) 0 (Go.Conc.G (Frame.enter Tryz.prog 92 (bi (w.heap.size+1) (w.heap.size+2) w.heap.size r) .deferred) [bad]) w':=by
 obtain ⟨a1,a2,a3,a4,a5⟩:=S.at_ h
 have l2:w.heap.size+2<w'.heap.size:=(Array.getElem?_eq_some_iff.1 a5).1
 have ltb:tb<w.heap.size:=S.lt (.inr (by simp))
 have hid:∀ b,(⟨fun b=>b==w.heap.size||b==tb,true,false⟩:Hid) b=true->b=w.heap.size∨b=tb:=fun b hb=>by simpa using hb
 refine j4 (H:=⟨fun b=>b==w.heap.size||b==tb,true,false⟩) (T0:=fun _=>False) lI (hn:=rfl) (K0:=kidK co ex tb w.heap.size r) ⟨.inr (.inr (.inr (.inl rfl))),.inr (.inr (.inr (.inr (.inl rfl)))),.inr (.inr (.inl rfl)),.inr (.inr (.inr (.inr (.inr rfl))))⟩
  (fun b _ hb=>⟨rfl,by rcases hid b hb with rfl | rfl;exact a3;exact a2⟩) (fun b hb=>by rcases hid b hb with rfl | rfl<;>omega)
  (ki S h (qm S) hr (fun _ _=>rfl) fun b hb=>?_) (fun τ d=>?_) (fun _ _ _ _=>trivial)
 ·have hb':(b==w.heap.size||b==tb)=false:=hb
  simp only [Bool.or_eq_false_iff,beq_eq_false_iff_ne] at hb'
  exact ⟨hb'.1,fun e=>absurd e hb'.2⟩
 ·have := lm (T0 := fun _ => False) (K := fun b => hasB co b = true) (cb := cb) (c := wakeCamp) (sets := setsL 3) (b2 := w.heap.size + 1) (b3 := w.heap.size + 2) (b4 := w.heap.size) (rb := r) (F := F) (k := 2) (fc := fc.toArray) (r := firstR (setW i)) (w := on w' τ d)
   (Camp.Ok.of fU) gG (by decide) (S.camp (on w' τ d) (S.sees h).left) (fun _ hb=>hb.elim) (fun _ _ hb=>hb) (eQ i hi) (fun j hj=>by unfold firstR;rw [if_neg (by omega)]) rfl
   (cell_of (W:=on w' τ d) a4 0) (fun j hj=>(cell_of (W:=on w' τ d) hr j).trans (iQ _ j hj)) (cell_of (W:=on w' τ d) a5 0) ⟨l2,fun hb=>hb⟩
   (fun pre _=>pre=[]) (fun _ _ _ hp _=>hp) rfl S.cF (fun pre ρ W hpre _ _=>by
    rw [hnone] at hpre
    have:=hpre.length_le
    simp at this)
  refine Go.wp_mono this ?_
  rintro e a' w2 ⟨he,h1,_,D,h2,h3,h4⟩
  exact ⟨he,h1,trivial,D,h2,h3,h4⟩
theorem od (S:Setting w co ex tb cb sb cap nA hA nc F fc oK oE) {w':World} (h:OkS (kxS co ex) (tlS tb) w cb (.func (.func F) #[] fc.toArray) w') {i:Nat} (hi:i<8) {ρ0:Ros} (hone:walkL wakeCamp (setsL 3) 2 (firstR (setW i)) 1=[ρ0]) {r:Nat} (hrk:¬ kbE (kxS co ex) (tlS tb) w r)
  (hr:w'.heap[r]?=some (.cells #[.int .u8 (setW i:Int),.int .u8 0,.int .u8 0,.int .u8 0,.int .u8 0] 91 (0,5)))
  (hdo:∀ W:World,W.heap[tb]?=some oK->SeesO W ex->Calls Sq.prog F (#[rosV ρ0]++fc.toArray) W fun e W'=>e=.returned (.tuple #[])∧KT (fun b=>b=tb) W W'∧W'.heap[tb]?=some oE) :
  KTr Tryz.prog BBc (KidQ Tryz.prog w.heap.size fun w2=>∀ b,tlS tb b=true->w2.heap[b]?=some oE) 0 (Go.Conc.G (Frame.enter Tryz.prog 92 (bi (w.heap.size+1) (w.heap.size+2) w.heap.size r) .deferred) [bad]) (relay (tlS tb) (fun _=>oK) w'):=by
 obtain ⟨a1,a2,a3,a4,a5⟩:=S.at_ h
 have l2:w.heap.size+2<w'.heap.size:=(Array.getElem?_eq_some_iff.1 a5).1
 have ltb:tb<w.heap.size:=S.lt (.inr (by simp))
 obtain ⟨W0,hW0⟩:∃ W0,W0=relay (tlS tb) (fun _=>oK) w':=⟨_,rfl⟩
 have g0:∀ b,b<w'.heap.size->W0.heap[b]?=if tlS tb b then some oK else w'.heap[b]?:=fun b hb=>by rw [hW0];exact bm _ _ _ _ hb
 have gne:∀ b,b≠tb->W0.heap[b]?=w'.heap[b]?:=fun b hb=>by
  by_cases hl:b<w'.heap.size
  ·rw [g0 b hl,if_neg (by simpa using hb)]
  ·rw [Array.getElem?_eq_none (show W0.heap.size<=b by rw [hW0,bj];omega),Array.getElem?_eq_none (by omega)]
 have gtb:W0.heap[tb]?=some oK:=by rw [g0 tb (by omega),if_pos (by simp)]
 have gsz:W0.heap.size=w'.heap.size:=by rw [hW0,bj]
 rw [<- hW0]
 have nt:∀ b,hasB (co++ex) b=true->b≠tb:=fun b hb e=>by
  have:=S.nt
  rw [<- e,hb] at this
  cases this
 have rne:r≠tb:=fun e=>hrk (.inr (.inl (by simp [e])))
 have seesW:SeesO W0 (co++ex):=fun p hp=>⟨_,(gne _ (nt _ (ip hp))).trans (a1 p hp)⟩
 have hcoro:∀ b,kidK co ex tb w.heap.size r b->(⟨fun b=>b==w.heap.size,true,false⟩:Hid) b=true->(⟨fun b=>b==w.heap.size,true,false⟩:Hid).twin=true∧W0.heap[b]?=some (.coro none):=fun b _ hb=>by
  have e:b=w.heap.size:=by simpa using hb
  refine ⟨rfl,?_⟩
  rw [e,gne _ (by omega)]
  exact a3
 have hlow:∀ b,(⟨fun b=>b==w.heap.size,true,false⟩:Hid) b=true->b<W0.heap.size:=fun b hb=>by
  have e:b=w.heap.size:=by simpa using hb
  omega
 refine j4 (H:=⟨fun b=>b==w.heap.size,true,false⟩) (T0:=fun b=>b=tb) lI (hn:=rfl) (K0:=kidK co ex tb w.heap.size r) ⟨.inr (.inr (.inr (.inl rfl))),.inr (.inr (.inr (.inr (.inl rfl)))),.inr (.inr (.inl rfl)),.inr (.inr (.inr (.inr (.inr rfl))))⟩
  hcoro hlow
  (ki S h (qm S) hr gne fun b hb=>⟨by simpa using hb,fun _=>gtb⟩) (fun τ d=>?_) (fun W W' hW hk b hb=>?_)
 ·have := lm (T0 := fun b => b = tb) (K := fun b => hasB co b = true) (cb := cb) (c := wakeCamp) (sets := setsL 3) (b2 := w.heap.size + 1) (b3 := w.heap.size + 2) (b4 := w.heap.size) (rb := r) (F := F) (k := 2) (fc := fc.toArray) (r := firstR (setW i)) (w := on W0 τ d)
   (Camp.Ok.of fU) gG (by decide) (S.camp (on W0 τ d) seesW.left) (fun b hb=>by show b<W0.heap.size;omega) (fun b hb=>nt b (by rw [aQ];simp [hb])) (eQ i hi) (fun j hj=>by unfold firstR;rw [if_neg (by omega)]) rfl
   (cell_of (W:=on W0 τ d) ((gne _ (by omega)).trans a4) 0) (fun j hj=>(cell_of (W:=on W0 τ d) ((gne _ rne).trans hr) j).trans (iQ _ j hj)) (cell_of (W:=on W0 τ d) ((gne _ (by omega)).trans a5) 0) ⟨by show _<W0.heap.size;omega,by omega⟩
   (fun pre W=>W.heap[tb]?=some (if pre=[] then oK else oE)) (fun pre W W' hp hk=>(hk tb rfl).trans hp) gtb S.cF (fun pre ρ W hpre hkt hI=>by
    rw [hone] at hpre
    have hl:=hpre.length_le
    have hp:pre=[]:=by cases pre with
     | nil=>rfl
     | cons a l=>simp at hl
    subst hp
    have hρ:ρ=ρ0:=by
     obtain ⟨t,ht⟩:=hpre
     simp at ht
     exact ht.1
    subst hρ
    have hex:SeesO W ex:=fun p hp=>by
     obtain ⟨f,hf⟩:=seesW p (List.mem_append_right _ hp)
     have hl2:=(Array.getElem?_eq_some_iff.1 hf).1
     exact ⟨f,(hkt.block p.1 hl2 (by
      rintro (e | e)
      ·exact nt _ (ip (List.mem_append_right co hp)) e
      ·have e':W0.heap.size<=p.1:=e
       omega)).trans hf⟩
    refine (hdo W hI hex).mono ?_
    rintro e W' ⟨h1,h2,h3⟩
    exact ⟨h1,h2,h3⟩)
  refine Go.wp_mono this ?_
  rintro e a' w2 ⟨he,h1,hI,D,h2,h3,h4⟩
  rw [hone] at hI
  exact ⟨he,h1,fun b hb=>by
   have e:b=tb:=by simpa using hb
   rw [e];exact hI,D,h2,h3,h4⟩
 ·have e:b=tb:=by simpa using hb
  rw [e,hk tb rfl]
  exact hW tb (by simp)
end
open Go.RowKit Go.Iso Go.Co Go.Conc Go.Sq
theorem q8 {p:Nat->Bool} (h:scl.all p=true):∀ f,SBc f=true->p f=true:=fun f hf=>(List.all_eq_true.1 h) f (by simpa [SBc] using hf)
def extC (f:FuncId):Bool:=f==95||f==96||f==162||f==164
def offC (f:FuncId):Bool:=f==91||f==93||f==94||f==163||f==165
theorem se:scl.all (fun f=>fnOk Tryz.prog SBc true f||extC f||offC f)=true:=by kernel_rfl
theorem qo {f:FuncId} (h:extC f=true):ExtOk PP f:=by
 unfold extC at h
 simp only [Bool.or_eq_true,beq_iff_eq] at h
 rcases h with ((rfl | rfl) | rfl) | rfl
 ·exact ⟨Tryz.f95,_,Tryz.func95,Tryz.func95,by kernel_rfl,by kernel_rfl,by kernel_rfl,by kernel_rfl,.add .i64,by kernel_rfl⟩
 ·exact ⟨Tryz.f96,_,Tryz.func96,Tryz.func96,by kernel_rfl,by kernel_rfl,by kernel_rfl,by kernel_rfl,.load .i64,by kernel_rfl⟩
 ·exact ⟨Tryz.f162,_,Tryz.func162,Tryz.func162,by kernel_rfl,by kernel_rfl,by kernel_rfl,by kernel_rfl,.cas .i32 (by decide),by kernel_rfl⟩
 ·exact ⟨Tryz.f164,_,Tryz.func164,Tryz.func164,by kernel_rfl,by kernel_rfl,by kernel_rfl,by kernel_rfl,.add .i32,by kernel_rfl⟩
theorem sJ {P:Two} (f:FuncId) (hf:aB SBc f=true):BarOk P f:=by
 unfold aB at hf
 have h:SBc 93=true:=by decide
 rw [h,Bool.not_true,Bool.and_false,Bool.and_false] at hf
 cases hf
theorem lib_c (H:Hid):Lib PP SBc H true BBc 0:=by
 refine fS (fun f hf=>?_) (fun f hf hb=>?_) (fun f hf=>?_) sJ ⟨Nat.le_of_eq Tryz.globals_size,Tryz.bigF⟩
 ·simp only [BBc,Bool.and_eq_true,Bool.not_eq_true'] at hf
  have:=q8 se f hf.1
  have hoff:offC f=false:=hf.2
  simp only [hoff,Bool.or_false,Bool.or_eq_true] at this
  rcases this with h | h
  ·exact .inl ⟨h,rfl⟩
  ·exact .inr (qo h)
 ·simp only [BBc,hf,Bool.true_and,Bool.not_eq_false',Bool.or_eq_true,beq_iff_eq] at hb
  rcases hb with (((rfl | rfl) | rfl) | rfl) | rfl
  ·exact ⟨_,_,Tryz.func91,Tryz.func91,rfl,by decide,by decide,rfl,rfl⟩
  ·exact ⟨_,_,Tryz.func93,Tryz.func93,rfl,by decide,by decide,rfl,rfl⟩
  ·exact ⟨_,_,Tryz.func94,Tryz.func94,rfl,by decide,by decide,rfl,rfl⟩
  ·exact ⟨_,_,Tryz.func163,Tryz.func163,rfl,by decide,by decide,rfl,rfl⟩
  ·exact ⟨_,_,Tryz.func165,Tryz.func165,rfl,by decide,by decide,rfl,rfl⟩
 ·simp only [BBc,Bool.and_eq_true] at hf
  exact hf.1
open Go.RowKit Go.Iso Go.Co Go.Conc Go.Sq
section
variable {w:World} {co ex:Objs} {tb cb sb cap:Nat} {nA hA:Option Addr} {nc F:Nat} {fc:List Value} {oK oE:Obj}
theorem sK:codeOk Tryz.prog SBc true true (.region 9 o9 false)=true:=by kernel_rfl
theorem sf:codeOk Tryz.prog SBc true true (.region 10 o10 false)=true:=by kernel_rfl
theorem sL:codeOk Tryz.prog SBc true true eL=true:=by kernel_rfl
theorem sM:o8.all (bK Tryz.prog SBc true true)=true:=by kernel_rfl
theorem each_in (S:Setting w co ex tb cb sb cap nA hA nc F fc oK oE) {ρ0:Ros} (hone:walkL wakeCamp (setsL 3) 2 (firstR (setW 1)) 1=[ρ0])
  (hdo:∀ W:World,W.heap[tb]?=some oK->SeesO W ex->Calls Sq.prog F (#[rosV ρ0]++fc.toArray) W fun e W'=>e=.returned (.tuple #[])∧KT (fun b=>b=tb) W W'∧W'.heap[tb]?=some oE) :
  EachIn SBc SBl BBc w (kxS co ex) (tlS tb) (fun b=>hasB co b=true) (OkS (kxS co ex) (tlS tb) w cb (.func (.func F) #[] fc.toArray)) cb sb 8 cap (.func F) #[] fc.toArray (fun i=>(setW i:Int)) kindW (fun i=>decide (i<=1)) (fun _=>oK) (fun _=>oE) where
 hB:=by decide
 h93:=by decide
 s49:=by decide
 s92:=by decide
 L0:=r8 lJ
 b0:=lJ
 s82:=by decide
 todo:=fun H K=>.cons (.inRegion sM) (.cons (.inBlock 1) (.cons (.code sK) (.cons (.inLoop sL) (.cons (.inBlock 0) (.cons (.code sf) .nil)))))
 only:=fun w1 w2 h _ hok b hb=>(h b hb).trans (hok b hb)
 ok:=fun b hb=>rfl
 box2:=fun w' h=>cell_of (S.at_ h).2.2.2.1 0
 hold:=fun w' h=>⟨(S.camp w' (S.sees h).left).c2,_,(S.camp w' (S.sees h).left).c0⟩
 setsAt:=fun w' i h hi=>(S.camp w' (S.sees h).left).sets i _ (sI i hi)
 camp:=fun w' b h hb=>by
  obtain ⟨p,hp,rfl⟩:=hasB_of hb
  refine ⟨by show hasB (co++ex) p.1=true;rw [aQ];simp [hb],_,(S.at_ h).1 p (List.mem_append_left _ hp),.cells (allIn fun v hv=>S.vco p hp v hv SBl Hid.no) fun i z1 z2=>⟨z1,z2⟩⟩
 cK:=S.kcb
 ks:=⟨by show hasB (co++ex) cb=true;rw [aQ];simp [S.kcb],by show hasB (co++ex) sb=true;rw [aQ];simp [S.ksb]⟩
 kxs:=fun b hb=>by
  have ht:tlS tb b=false:=by
   cases hc:tlS tb b with
   | false=>rfl
   | true =>
    have e:b=tb:=by simpa using hc
    have h2:=S.nt
    rw [<- e] at h2
    rw [show hasB (co++ex) b=true from hb] at h2
    cases h2
  obtain ⟨p,hp,rfl⟩:=hasB_of hb
  refine ⟨ht,p.2.1,p.2.2,(0,0),S.obj p hp,fun i h1 h2=>absurd h2 (Nat.not_lt_zero _),fun v hv H=>?_⟩
  rcases List.mem_append.1 hp with hp | hp
  ·exact (S.vco p hp v hv SBc H).mono fun c hc=>.inl (by show hasB (co++ex) c=true;rw [aQ];simp [hc])
  ·exact (S.vex p hp v hv SBc H (by decide)).mono fun c hc=>.inl hc
 tls:=fun b hb=>by
  have e:b=tb:=by simpa using hb
  subst e
  exact ⟨S.toy,S.toyS⟩
 hp1:=fun H=>InK.func S.sF.2 fun v hv=>(S.vfc v hv SBc H).mono fun c hc=>hc.elim .inl fun h=>.inr (by simp [h])
 wrap:=sH
 lapse:=fun w' i h hi τ d=>S.lapse h i hi τ d
 tp0:=rfl
 tpk:=fun i hi hk=>by
  have h1:i≠1:=fun e=>hk ((wake_kind0 i hi).2 (.inl e))
  show decide (i+1<=1)=decide (i<=1)
  by_cases h0:i=0
  ·subst h0;rfl
  ·rw [decide_eq_false (by omega),decide_eq_false (by omega)]
 which:=fun i hi hk=>by
  rcases (wake_kind0 i hi).1 hk with rfl | rfl
  ·exact .inr ⟨rfl,rfl⟩
  ·exact .inl rfl
 plain:=fun i r w' hi hk ht h hrk hr=>by
  rcases (wake_kind0 i hi).1 hk with rfl | rfl
  ·cases ht
  ·exact oc S h hi mE hrk hr
 owner:=fun i r w' hi hk ht ht1 h hrk hr=>by
  rcases (wake_kind0 i hi).1 hk with rfl | rfl
  ·exact od S h hi hone hrk hr hdo
  ·cases ht
end
open Go.RowKit Go.Iso Go.Co Go.Conc Go.Sq
abbrev Lw:Go.Conc.Lib.WgLink:={ add:=91,done:=93,wait:=94,relMerge:=119,disable:=120,enable:=121,inBubble:=122,associate:=123,fatal:=124,uOr:=125,uAdd:=126,raceRead:=127,uLoad:=128,uStore:=129,disassociate:=130,semrelease:=131,acquire:=132,isAssociated:=133,uCas:=134,raceWrite:=135,semacquire:=136,orU64:=157,addU64:=158,loadU64:=159,storeU64:=160,casU64:=161,tWgP:=177,tUP:=179,tAssoc:=180,tWg:=146,tAU:=144,tU64:=76,tUint:=157,tU32:=100,tPU32:=184,tPAU:=210,tPU64:=212,tNoCopy:=99,tANoCopy:=84,tAlign64:=85 }
theorem wgLib:Go.Conc.Lib.WgLib Tryz.prog Lw :=
 ⟨Tryz.func91,Tryz.func93,Tryz.func94,Tryz.func119,Tryz.func120,Tryz.func121,Tryz.func122,Tryz.func123,Tryz.func124,Tryz.func125,Tryz.func126,Tryz.func127,Tryz.func128,Tryz.func129,Tryz.func130,Tryz.func131,Tryz.func132,Tryz.func133,Tryz.func134,Tryz.func135,Tryz.func136,Tryz.func157,Tryz.func158,Tryz.func159,Tryz.func160,Tryz.func161,Tryz.underlying177,Tryz.runUnderlying177,Tryz.sizeOf177,Tryz.isAgg177,Tryz.zeroValue177,Tryz.underlying179,Tryz.runUnderlying179,Tryz.sizeOf179,Tryz.isAgg179,Tryz.zeroValue179,Tryz.underlying180,Tryz.runUnderlying180,Tryz.sizeOf180,Tryz.isAgg180,Tryz.zeroValue180,Tryz.underlying146,Tryz.runUnderlying146,Tryz.sizeOf146,Tryz.isAgg146,Tryz.zeroValue146,Tryz.underlying144,Tryz.runUnderlying144,Tryz.sizeOf144,Tryz.isAgg144,Tryz.zeroValue144,Tryz.underlying76,Tryz.runUnderlying76,Tryz.sizeOf76,Tryz.isAgg76,Tryz.zeroValue76,Tryz.underlying157,Tryz.runUnderlying157,Tryz.sizeOf157,Tryz.isAgg157,Tryz.zeroValue157,Tryz.underlying100,Tryz.runUnderlying100,Tryz.sizeOf100,Tryz.isAgg100,Tryz.zeroValue100,Tryz.underlying184,Tryz.runUnderlying184,Tryz.sizeOf184,Tryz.isAgg184,Tryz.zeroValue184,Tryz.underlying210,Tryz.runUnderlying210,Tryz.sizeOf210,Tryz.isAgg210,Tryz.zeroValue210,Tryz.underlying212,Tryz.runUnderlying212,Tryz.sizeOf212,Tryz.isAgg212,Tryz.zeroValue212,Tryz.underlying0,Tryz.runUnderlying0,Tryz.sizeOf0,Tryz.isAgg0,Tryz.zeroValue0,Tryz.underlying3,Tryz.runUnderlying3,Tryz.sizeOf3,Tryz.isAgg3,Tryz.zeroValue3,Tryz.underlying4,Tryz.runUnderlying4,Tryz.sizeOf4,Tryz.isAgg4,Tryz.zeroValue4,Tryz.underlying9,Tryz.runUnderlying9,Tryz.sizeOf9,Tryz.isAgg9,Tryz.zeroValue9,Tryz.underlying20,Tryz.runUnderlying20,Tryz.sizeOf20,Tryz.isAgg20,Tryz.zeroValue20,Tryz.underlying21,Tryz.runUnderlying21,Tryz.sizeOf21,Tryz.isAgg21,Tryz.zeroValue21,(by kernel_rfl),(by kernel_rfl)⟩
theorem bar_add:Go.Co.Barred PP SBc true Lw.add (Go.Conc.Lib.addFn Lw):=⟨_,Tryz.func91,Tryz.func91,rfl,by kernel_rfl⟩
theorem bar_wait:Go.Co.Barred PP SBc true Lw.wait (Go.Conc.Lib.waitFn Lw):=⟨_,Tryz.func94,Tryz.func94,rfl,by kernel_rfl⟩
theorem bar_done:Go.Co.Barred PP SBc true Lw.done (Go.Conc.Lib.doneFn Lw):=⟨_,Tryz.func93,Tryz.func93,rfl,by kernel_rfl⟩
open Go.RowKit Go.Iso Go.Co Go.Conc Go.Sq
def herdL (bo:Nat):List Value:=[.int .i64 12,.int .i64 3,.int .i64 2,.slice none 0 0,.int .i64 6,.int .i64 2,.int .i64 2,.slice (some ⟨bo,0,none⟩) 1 1,.int .i64 6,.int .i64 1,.int .i64 1,.slice none 0 0]
def ownL (bn bh sb cap:Nat):List Value:=[.slice (some ⟨bn,0,none⟩) 3 3,.slice (some ⟨bh,0,none⟩) 3 3,.slice (some ⟨sb,0,none⟩) 8 cap]
def needL:List Value:=[.int .i64 3,.int .i64 2,.int .i64 4]
def campO (bn bo bh cb sb cap:Nat) (cur:List Value) (t:TypeId):Objs:=[(bn,needL,3),(bo,[.int .i64 0],3),(bh,herdL bo,54),(cb,ownL bn bh sb cap,149),(sb,cur,t)]
section
variable {bn bo bh cb sb cap:Nat} {cur:List Value} {t:TypeId}
theorem camp_has (b:Nat):hasB (campO bn bo bh cb sb cap cur t) b=true↔b=bn∨b=bo∨b=bh∨b=cb∨b=sb:=by
 simp only [hasB,campO,List.any_cons,List.any_nil,Bool.or_false,Bool.or_eq_true,beq_iff_eq]
 constructor
 ·rintro (h | h | h | h | h)<;>simp [h]
 ·rintro (h | h | h | h | h)<;>simp [h]
theorem lK {W:World} (h:SeesO W (campO bn bo bh cb sb cap cur t)) (hcur:∀ (i x:Nat),(setsL 3)[i]?=some x->cur[i]?=some (Value.int .u8 (x:Int))) :
  CampK W (fun b=>hasB (campO bn bo bh cb sb cap cur t) b=true) cb wakeCamp (setsL 3) (some ⟨bn,0,none⟩) (some ⟨bh,0,none⟩) 3 3 sb cap:=by
 obtain ⟨f1,h1⟩:=h (bn,needL,3) (by simp [campO])
 obtain ⟨f2,h2⟩:=h (bo,[.int .i64 0],3) (by simp [campO])
 obtain ⟨f3,h3⟩:=h (bh,herdL bo,54) (by simp [campO])
 obtain ⟨f4,h4⟩:=h (cb,ownL bn bh sb cap,149) (by simp [campO])
 obtain ⟨f5,h5⟩:=h (sb,cur,t) (by simp [campO])
 have hb:∀ i:Nat,W.cell? ⟨bh,i,none⟩=(herdL bo)[i]?:=fun i=>(cell_of h3 i).trans (by simp)
 have hn:RIK W (fun b=>hasB (campO bn bo bh cb sb cap cur t) b=true) (some ⟨bn,0,none⟩) [3,2,4]:=fun _=>by
  refine ⟨bn,0,rfl,(camp_has _).2 (by simp),fun i x hx=>?_⟩
  rw [cell_of h1]
  match i,hx with
  | 0,hx=>simp at hx;subst hx;rfl
  | 1,hx=>simp at hx;subst hx;rfl
  | 2,hx=>simp at hx;subst hx;rfl
  | k+3,hx=>simp at hx
 have ho:RIK W (fun b=>hasB (campO bn bo bh cb sb cap cur t) b=true) (some ⟨bo,0,none⟩) [0]:=fun _=>by
  refine ⟨bo,0,rfl,(camp_has _).2 (by simp),fun i x hx=>?_⟩
  rw [cell_of h2]
  match i,hx with
  | 0,hx=>simp at hx;subst hx;rfl
  | k+1,hx=>simp at hx
 have hnil:RIK W (fun b=>hasB (campO bn bo bh cb sb cap cur t) b=true) none []:=fun h=>absurd rfl h
 refine ⟨fun b hbk=>?_,(camp_has _).2 (by simp),cell_of h4 0,cell_of h4 1,cell_of h4 2,(camp_has _).2 (by simp),fun i x hx=>(cell_of h5 i).trans (by simpa using hcur i x hx),hn,fun _=>⟨bh,0,rfl,(camp_has _).2 (by simp),fun i x hx=>?_⟩⟩
 ·rcases (camp_has _).1 hbk with rfl | rfl | rfl | rfl | rfl
  ·exact (Array.getElem?_eq_some_iff.1 h1).1
  ·exact (Array.getElem?_eq_some_iff.1 h2).1
  ·exact (Array.getElem?_eq_some_iff.1 h3).1
  ·exact (Array.getElem?_eq_some_iff.1 h4).1
  ·exact (Array.getElem?_eq_some_iff.1 h5).1
 ·match i,hx with
  | 0,hx=>simp [wakeCamp,wakeC] at hx;subst hx;exact ⟨hb _,hb _,hb _,none,0,hb _,hnil⟩
  | 1,hx=>simp [wakeCamp,wakeC] at hx;subst hx;exact ⟨hb _,hb _,hb _,_,1,hb _,ho⟩
  | 2,hx=>simp [wakeCamp,wakeC] at hx;subst hx;exact ⟨hb _,hb _,hb _,none,0,hb _,hnil⟩
  | k+3,hx=>simp [wakeCamp,wakeC] at hx
theorem eR (hfl:∀ u∈cur,fJ u):∀ p∈campO bn bo bh cb sb cap cur t,∀ v∈p.2.1,∀ (SB:FuncId->Bool) (H:Hid),InK SB H (fun b=>hasB (campO bn bo bh cb sb cap cur t) b=true) v:=by
 intro p hp v hv SB H
 have snil:InK SB H (fun b=>hasB (campO bn bo bh cb sb cap cur t) b=true) (.slice none 0 0):=VRel.nils 0 0
 simp only [campO,List.mem_cons,List.not_mem_nil,or_false] at hp
 rcases hp with rfl | rfl | rfl | rfl | rfl
 ·simp only [needL,List.mem_cons,List.not_mem_nil,or_false] at hv
  rcases hv with rfl | rfl | rfl<;>exact VRel.int _ _
 ·simp only [List.mem_cons,List.not_mem_nil,or_false] at hv
  subst hv;exact VRel.int _ _
 ·simp only [herdL,List.mem_cons,List.not_mem_nil,or_false] at hv
  rcases hv with rfl | rfl | rfl | rfl | rfl | rfl | rfl | rfl | rfl | rfl | rfl | rfl<;>first | exact VRel.int _ _ | exact snil | exact InK.slice ((camp_has _).2 (by simp)) _ _ _ _
 ·simp only [ownL,List.mem_cons,List.not_mem_nil,or_false] at hv
  rcases hv with rfl | rfl | rfl<;>exact InK.slice ((camp_has _).2 (by simp)) _ _ _ _
 ·obtain ⟨x,rfl⟩:=hfl v hv
  exact VRel.int _ _
end
open Go.RowKit Go.Iso Go.Co Go.Conc Go.Sq
section
variable {bn bo bh cb sb cap:Nat} {cur:List Value} {t:TypeId} {w:World}
structure CampW (w:World) (bn bo bh cb sb cap:Nat) (cur:List Value) (t:TypeId):Prop where
 obj:∀ p∈campO bn bo bh cb sb cap cur t,w.heap[p.1]?=some (.cells p.2.1.toArray p.2.2 (0,0))
 sets:∀ (i x:Nat),(setsL 3)[i]?=some x->cur[i]?=some (Value.int .u8 (x:Int))
 flat:∀ u∈cur,fJ u
theorem CampW.keep {w':World} (h:CampW w bn bo bh cb sb cap cur t) (hk:∀ b,hasB (campO bn bo bh cb sb cap cur t) b=true->w'.heap[b]?=w.heap[b]?):CampW w' bn bo bh cb sb cap cur t :=
 ⟨fun p hp=>(hk _ (ip hp)).trans (h.obj p hp),h.sets,h.flat⟩
theorem CampW.lt (h:CampW w bn bo bh cb sb cap cur t) {b:Nat} (hb:hasB (campO bn bo bh cb sb cap cur t) b=true):b<w.heap.size:=by
 obtain ⟨p,hp,rfl⟩:=hasB_of hb
 exact (Array.getElem?_eq_some_iff.1 (h.obj p hp)).1
abbrev cntO (n:Int):Obj:=.cells #[.int .i64 n] 87 (0,0)
theorem cntS (n:Int):ScalObj (cntO n):=⟨[.int .i64 n],87,(0,0),rfl,fun v hv=>by
 simp only [List.mem_cons,List.not_mem_nil,or_false] at hv
 subst hv;exact .int _ _⟩
theorem set_count (h:CampW w bn bo bh cb sb cap cur t) {nb:Nat} (hn:w.heap[nb]?=some (cntO 0)) (hnk:hasB (campO bn bo bh cb sb cap cur t) nb=false) :
  Setting w (campO bn bo bh cb sb cap cur t) [] nb cb sb cap (some ⟨bn,0,none⟩) (some ⟨bh,0,none⟩) 3 50 [.pointer (some ⟨nb,0,none⟩)] (cntO 0) (cntO 1) where
 obj:=fun p hp=>h.obj p (by simpa using hp)
 toy:=hn
 toyS:=⟨cntS 0,cntS 1⟩
 nt:=by rw [List.append_nil];exact hnk
 vco:=eR h.flat
 vex:=fun p hp=>by cases hp
 vfc:=fun v hv SB H=>by
  simp only [List.mem_cons,List.not_mem_nil,or_false] at hv
  subst hv;exact InK.ptr (.inr rfl) _ _
 sF:=⟨by decide,by decide⟩
 cF:=fun x w=>by
  have h1:¬ Tryz.f50.name = "runtime.NumGoroutine":=by decide
  simp [callFunc,Sq.fn Tryz.func50 rfl,h1,Tryz.f50]
 kcb:=(camp_has _).2 (by simp)
 ksb:=(camp_has _).2 (by simp)
 camp:=fun W hW=>lK hW h.sets
theorem do_count (nb:Nat) {ex:Objs} (ρ:Ros) (W:World) (h:W.heap[nb]?=some (cntO 0)) (_:SeesO W ex) :
  Calls Sq.prog 50 (#[rosV ρ]++[Value.pointer (some ⟨nb,0,none⟩)].toArray) W fun e W'=>e=.returned (.tuple #[])∧KT (fun b=>b=nb) W W'∧W'.heap[nb]?=some (cntO 1) :=
 oX nb 0 1 ρ W h (by decide)
abbrev keepA (b:Bool) (r:Ros):Obj:=.cells (keepO 0 r b) 106 (0,0)
theorem keepS (b:Bool) (r:Ros):ScalObj (keepA b r):=⟨(keepO 0 r b).toList,106,(0,0),by simp [keepO],fun v hv=>by
 simp only [keepO,List.mem_cons,List.not_mem_nil,or_false] at hv
 rcases hv with rfl | rfl | rfl | rfl | rfl | rfl | rfl | rfl<;>first | exact .int _ _ | exact .bool _⟩
def bestX (xb qb cb:Nat):Objs:=[(xb,[.func (.func 54) #[] #[.pointer (some ⟨qb,0,none⟩)]],98),(qb,[.pointer (some ⟨cb,0,none⟩)],80)]
theorem set_best (h:CampW w bn bo bh cb sb cap cur t) {kb xb qb:Nat} {ρ:Ros} (hk:w.heap[kb]?=some (keepA false fun _=>0)) (hx:∀ p∈bestX xb qb cb,w.heap[p.1]?=some (.cells p.2.1.toArray p.2.2 (0,0)))
  (hnk:hasB (campO bn bo bh cb sb cap cur t++bestX xb qb cb) kb=false) :
  Setting w (campO bn bo bh cb sb cap cur t) (bestX xb qb cb) kb cb sb cap (some ⟨bn,0,none⟩) (some ⟨bh,0,none⟩) 3 59 [.pointer (some ⟨kb,0,none⟩),.pointer (some ⟨xb,0,none⟩)] (keepA false fun _=>0) (keepA true ρ) where
 obj:=fun p hp=>(List.mem_append.1 hp).elim (h.obj p) (hx p)
 toy:=hk
 toyS:=⟨keepS _ _,keepS _ _⟩
 nt:=hnk
 vco:=eR h.flat
 vex:=fun p hp v hv SB H h54=>by
  have hq:∀ b,(b=xb∨b=qb)->hasB (campO bn bo bh cb sb cap cur t++bestX xb qb cb) b=true:=fun b hb=>by
   rw [aQ]
   rcases hb with rfl | rfl<;>simp [hasB,bestX]
  simp only [bestX,List.mem_cons,List.not_mem_nil,or_false] at hp
  rcases hp with rfl | rfl
  ·simp only [List.mem_cons,List.not_mem_nil,or_false] at hv
   subst hv
   refine InK.func (l:=[.pointer (some ⟨qb,0,none⟩)]) h54 fun v hv=>?_
   simp only [List.mem_cons,List.not_mem_nil,or_false] at hv
   subst hv
   exact InK.ptr (hq _ (.inr rfl)) _ _
  ·simp only [List.mem_cons,List.not_mem_nil,or_false] at hv
   subst hv
   exact InK.ptr (by rw [aQ,(camp_has cb).2 (by simp),Bool.true_or]) _ _
 vfc:=fun v hv SB H=>by
  simp only [List.mem_cons,List.not_mem_nil,or_false] at hv
  rcases hv with rfl | rfl
  ·exact InK.ptr (.inr rfl) _ _
  ·exact InK.ptr (.inl (by rw [aQ];simp [hasB,bestX])) _ _
 sF:=⟨by decide,by decide⟩
 cF:=fun x w=>by
  have h1:¬ Tryz.f59.name = "runtime.NumGoroutine":=by decide
  simp [callFunc,Sq.fn Tryz.func59 rfl,h1,Tryz.f59]
 kcb:=(camp_has _).2 (by simp)
 ksb:=(camp_has _).2 (by simp)
 camp:=fun W hW=>lK hW h.sets
theorem do_best (kb xb qb cb:Nat) (ρ:Ros) (W:World) (h:W.heap[kb]?=some (keepA false fun _=>0)) (hs:SeesO W (bestX xb qb cb)) :
  Calls Sq.prog 59 (#[rosV ρ]++[Value.pointer (some ⟨kb,0,none⟩),.pointer (some ⟨xb,0,none⟩)].toArray) W fun e W'=>e=.returned (.tuple #[])∧KT (fun b=>b=kb) W W'∧W'.heap[kb]?=some (keepA true ρ):=by
 obtain ⟨f,hf⟩:=hs (xb,[.func (.func 54) #[] #[.pointer (some ⟨qb,0,none⟩)]],98) (by simp [bestX])
 exact qx kb xb ρ _ W (cell_of hf 0) (Array.getElem?_eq_some_iff.1 hf).1 h
end
end Go.Proofs.YtgicaeombogkcaaGreat
namespace Go.Co
open Go.Iso Go.Conc Go.ConcN
structure PastD (Shun:Loc->Prop) (B d:Nat) (t:Trace):Prop where
 calm:∀ said,¬ Race said t
 knows:∀ i x,touchAt t i=some x->x.loc.isMemory=true->Knows t 0 i∨(Shun x.loc∧x.kind=.atomic)
 handed:t.HandedOver
 deaf:Deaf t 0=d
 below:∀ op∈t,op.act.low B
section
variable {Shun:Loc->Prop} {B B' d d':Nat} {t u:Trace}
theorem PastD.of (h:Past Shun B t):PastD Shun B 0 t:=⟨h.clean,h.known,h.over,h.hears,h.seen⟩
theorem PastD.past (h:PastD Shun B 0 t):Past Shun B t:=⟨h.calm,h.knows,h.handed,h.deaf,h.below⟩
theorem PastD.mono (h:PastD Shun B d t) (hB:B<=B'):PastD Shun B' d t:=⟨h.calm,h.knows,h.handed,h.deaf,fun op hop=>MemAct.low_mono hB (h.below op hop)⟩
theorem low_app {t u:Trace} (ht:∀ op∈t,op.act.low B) (hu:∀ op∈u,op.act.low B):∀ op∈t++u,op.act.low B:=fun op hop=>(Array.mem_append.1 hop).elim (ht op) (hu op)
theorem PastD.own (h:PastD Shun B d t) {fn:FuncId} {pos:String} {es:Array Event} (hes:∀ e∈es,(∀ x,(MemAct.ofEvent e).touch?=some x->Shun x.loc->x.kind≠.plain)∧(MemAct.ofEvent e).low B) (hd:deafBehind d es=d'):PastD Shun B d' (t++MemOp.ofEvents 0 fn pos es):=by
 have hg:∀ op∈MemOp.ofEvents 0 fn pos es,op.g=0:=fun op hop=>by obtain ⟨e,_,rfl⟩:=Go.Conc.mem_ofEvents hop;rfl
 refine ⟨fun said=>noRace_append (h.calm said) hg fun i x hx op hop y hy hc=>?_,fun i x hx hm=>?_,handedOver_app h.handed fun op hop=>.inl (hg op hop),by rw [Deaf_own,h.deaf];exact hd,low_app h.below fun op hop=>by obtain ⟨e,he,rfl⟩:=Go.Conc.mem_ofEvents hop;exact (hes e he).2⟩
 ·obtain ⟨e,he,rfl⟩:=Go.Conc.mem_ofEvents hop
  rcases h.knows i x hx hc.2.1 with hk | ⟨s1,s2⟩
  ·exact hk
  ·exfalso
   have np:=(hes e he).1 y hy (hc.1▸s1)
   obtain ⟨_,_,_,hcase⟩:=hc
   rw [s2] at hcase
   rcases hcase with z | z | ⟨_,z,_⟩
   ·cases z
   ·exact np z
   ·cases z
 ·obtain ⟨z,hz,hzx⟩:=touch_of hx
  rcases getElem?_append_cases hz with ⟨_,hz'⟩ | ⟨_,hzu⟩
  ·exact (h.knows i x (by rw [touchAt_of hz'];exact hzx) hm).imp (·.app _) id
  ·have:=knows_own hz
   rw [hg z hzu] at this
   exact .inl this
theorem PastD.mute (h:PastD Shun B d t) {g:Nat} (hg:g≠0) {fn:FuncId} {pos:String} {es:Array Event} (hm:∀ e∈es,e.mute=true):PastD Shun B d (t++MemOp.ofEvents g fn pos es):=by
 have hu:∀ op∈MemOp.ofEvents g fn pos es,op.g=g∧op.act.touch?=none∧op.act.low B:=fun op hop=>by
  obtain ⟨e,he,rfl⟩:=Go.Conc.mem_ofEvents hop
  exact ⟨rfl,touch_mute (hm e he),low_mute (hm e he) B⟩
 refine ⟨fun said=>noRace_append (h.calm said) (fun op hop=>(hu op hop).1) fun i x _ op hop y hy _=>(by rw [(hu op hop).2.1] at hy;cases hy),fun i x hx hmm=>?_,handedOver_app h.handed fun op hop=>.inr (hu op hop).2.1,(Deaf_other t hg _ fun op hop=>(hu op hop).1).trans h.deaf,low_app h.below fun op hop=>(hu op hop).2.2⟩
 obtain ⟨z,hz,hzx⟩:=touch_of hx
 rcases getElem?_append_cases hz with ⟨_,hz'⟩ | ⟨_,hzu⟩
 ·exact (h.knows i x (by rw [touchAt_of hz'];exact hzx) hmm).imp (·.app _) id
 ·rw [(hu z hzu).2.1] at hzx;cases hzx
end
structure BtwD (P:Program) (Dead:Nat->Prop) (d:Nat) (gs:Array Goroutine) (W:World) (t:Trace) (q:Nat->Nat):Prop where
 lv:Leavers P t gs q
 past:PastD (DeadL Dead) W.heap.size d t
 quiet:Quiet (DeadL Dead) t
 gs_:∀ (i:Nat) (op:MemOp),t[i]?=some op->op.g<gs.size
 low:∀ B,Dead B->B<W.heap.size
theorem BtwD.of {P:Program} {Dead:Nat->Prop} {gs:Array Goroutine} {W:World} {t:Trace} {q:Nat->Nat} (h:Btw P Dead gs W t q):BtwD P Dead 0 gs W t q:=⟨h.lv,.of h.past,h.quiet,h.gs_,h.low⟩
theorem BtwD.btw {P:Program} {Dead:Nat->Prop} {gs:Array Goroutine} {W:World} {t:Trace} {q:Nat->Nat} (h:BtwD P Dead 0 gs W t q):Btw P Dead gs W t q:=⟨h.lv,h.past.past,h.quiet,h.gs_,h.low⟩
section
variable {P:Two} {SB BB:FuncId->Bool} {lets:Bool} {Gn:Nat} {Dead:Nat->Prop} {Kp:Keep} {dd:Nat}
theorem BtwD.at {gs:Array Goroutine} {W:World} {t:Trace} {q:Nat->Nat} (h:BtwD P.b Dead dd gs W t q) (d:Nat):BtwD P.b Dead dd gs (W.at d) t q:=⟨h.lv,h.past,h.quiet,h.gs_,h.low⟩
theorem BtwD.slip {gs:Array Goroutine} {W:World} {t:Trace} {q:Nat->Nat} (h:BtwD P.b Dead dd gs W t q) {i:Nat} {g a:Goroutine} (hpos:0<i) (hi:gs[i]?=some g) (hrun:g.status=.running) (h0:gs[0]?=some a) (ha:a.status=.running) (sl:Option (Nat×Nat)) :
  ∃ gs' t' q',runT P.b (crowd gs W sl) i=(.next (crowd gs' W sl),t')∧gs'.size=gs.size∧gs'[0]?=some a∧sumTo gs.size q'<sumTo gs.size q∧BtwD P.b Dead dd gs' W (t++t') q':=by
 have hq:=h.lv.old i g hpos hi
 have hi0:(i==0)=false:=by simp;omega
 have hlt:i<gs.size:=(Array.getElem?_eq_some_iff.1 hi).1
 cases hqi:q i with
 | zero=>rw [hqi] at hq;rw [hq.1] at hrun;cases hrun
 | succ k =>
  rw [hqi] at hq
  rcases hq with ⟨hf,_⟩ | ⟨_,g',es,hm,hstp,hq'⟩
  ·rw [hf] at hrun;cases hrun
  have hrunT:=runT_crowd_go (P:=P.b) (sl:=sl) (i:=i) hi (by rw [hi0];exact hstp W)
  have hsum:sumTo gs.size (upd q i k)+(k+1)=sumTo gs.size q+k:=by
   have:=sumTo_upd q k id hlt
   simpa [hqi] using this
  have hge:∀ op∈MemOp.ofEvents i g.frame.fn g.frame.place es,op.g=i:=fun op hop=>by obtain ⟨e,_,rfl⟩:=Go.Conc.mem_ofEvents hop;rfl
  refine ⟨_,_,upd q i k,hrunT,by simp,?_,by omega,⟨fun j x hj hx=>?_,fun j hj=>?_⟩,h.past.mute (by omega) hm,h.quiet.app fun op hop x hx hs=>?_,fun j op hop=>?_,h.low⟩
  ·have hne:i≠0:=by omega
   rw [Array.getElem?_setIfInBounds_ne hne,Array.getElem?_map,h0]
   simp [woken_run ha]
  ·by_cases hji:i=j
   ·subst hji
    rw [Array.getElem?_setIfInBounds_self_of_lt (by simpa using hlt)] at hx
    obtain rfl:=Option.some.inj hx
    rw [upd_same,Deaf_own]
    exact hq'
   ·rw [Array.getElem?_setIfInBounds_ne hji,Array.getElem?_map] at hx
    obtain ⟨y,hy,rfl⟩:=Option.map_eq_some_iff.1 hx
    have hqj:=h.lv.old j y hj hy
    rw [woken_quitsD hqj,upd_ne q k (Ne.symm hji),Deaf_other t hji _ hge]
    exact hqj
  ·rw [Deaf_other t (g':=i) (by simp at hj;omega) _ hge]
   exact h.lv.above j (by simpa using hj)
  ·obtain ⟨e,he,rfl⟩:=Go.Conc.mem_ofEvents hop
   rw [touch_mute (hm e he)] at hx;cases hx
  ·rcases getElem?_append_cases hop with ⟨_,hop'⟩ | ⟨_,hopu⟩
   ·simpa using h.gs_ j op hop'
   ·rw [hge op hopu];simpa using hlt
theorem BtwD.fin {gs:Array Goroutine} {W W':World} {t:Trace} {q:Nat->Nat} (h:BtwD P.b Dead dd gs W t q) {x:Lone} {a g2:Goroutine} {β':Bij} {w':World} {ES:Array Event} (htw:x.H.twin=false) (hdead:∀ b B,x.β b B->Dead B->x.H b=true)
  (h0:gs[0]?=some a) (e3:stepG P.b true a W=.go g2 W' ES) (f:FinOf P SB lets Gn x W β' w' W' ES.toList) (sl:Option (Nat×Nat)) :
  ∃ gs' t',runT P.b (crowd gs W sl) 0=(.next (crowd gs' W' sl),t')∧gs'.size=gs.size∧gs'[0]?=some g2∧BtwD P.b Dead dd gs' W' (t++t') q:=by
 have hES:ES.toList.toArray=ES:=by simp
 have hmk:=bU f htw
 rw [hES] at hmk
 have hlow:=dj f htw (k:=0) (fn:=a.frame.fn) (pos:=a.frame.place)
 rw [hES] at hlow
 have hge:∀ op∈MemOp.ofEvents 0 a.frame.fn a.frame.place ES,op.g=0:=fun op hop=>by obtain ⟨e,_,rfl⟩:=Go.Conc.mem_ofEvents hop;rfl
 have old:∀ b B,β' b B->B<W.heap.size->x.β b B:=fun b B hb hB=>(f.new b B hb).elim id fun h=>absurd h.2 (Nat.not_le.2 hB)
 have dead':∀ b B,β' b B->Dead B->x.H b=true:=fun b B hb hd=>hdead b B (old b B hb (h.low B hd)) hd
 have notDead:∀ e∈ES,∀ z,(MemAct.ofEvent e).touch?=some z->¬ DeadL Dead z.loc:=by
  intro e he z hz ⟨b,hb,hd⟩
  have hE:=f.evs htw e (by simpa using he)
  cases hE with
  | @cell a A wr sy hab _ hc _ =>
   have:z.loc=.cell A:=by simp [MemAct.ofEvent,MemAct.touch?] at hz;subst hz;rfl
   rw [this] at hb
   cases hb
   obtain ⟨n,hn,_⟩:=hc
   have:=(f.rel.hids _ _ hab (dead' _ _ hab hd)).1
   rw [this] at hn
   simp [kindOf] at hn
  | @obj r R wr sy _ _ =>
   have:z.loc=.obj R:=by cases wr<;>cases sy<;>simp [MemAct.ofEvent,MemAct.touch?] at hz<;>subst hz<;>rfl
   rw [this] at hb;cases hb
  | mark hm=>cases hm<;>simp [MemAct.ofEvent,MemAct.touch?] at hz
  | out =>
   have:z.loc=.output:=by simp [MemAct.ofEvent,MemAct.touch?] at hz;subst hz;rfl
   rw [this] at hb;cases hb
 have hlt:0<gs.size:=(Array.getElem?_eq_some_iff.1 h0).1
 refine ⟨_,_,runT_crowd_go (P:=P.b) (sl:=sl) (i:=0) h0 (by simpa using e3),by simp,by simp [hlt],
  ⟨⟨fun j y hj hy=>?_,fun j hj=>?_⟩,(h.past.mono f.SIZE).own (fun e he=>⟨fun z hz hs=>absurd hs (notDead e he z hz),?_⟩) (deafBehind_idle (fun e he=>⟨(hmk e he).1,(hmk e he).2.1⟩) dd),h.quiet.app fun op hop z hz hs=>?_,fun j op hop=>?_,fun B hB=>Nat.lt_of_lt_of_le (h.low B hB) f.SIZE⟩⟩
 ·have hne:0≠j:=by omega
  rw [Array.getElem?_setIfInBounds_ne hne,Array.getElem?_map] at hy
  obtain ⟨z,hz,rfl⟩:=Option.map_eq_some_iff.1 hy
  have hqj:=h.lv.old j z hj hz
  rw [woken_quitsD hqj,Deaf_other t (by omega) _ hge]
  exact hqj
 ·rw [Deaf_other t (g':=0) (by simp at hj;omega) _ hge]
  exact h.lv.above j (by simpa using hj)
 ·exact hlow { g:=0,fn:=a.frame.fn,pos:=a.frame.place,act:=.ofEvent e } (by rw [ofEvents_eq];exact Array.mem_map.2 ⟨e,he,rfl⟩)
 ·obtain ⟨e,he,rfl⟩:=Go.Conc.mem_ofEvents hop
  exact absurd hs (notDead e he z hz)
 ·rcases getElem?_append_cases hop with ⟨_,hop'⟩ | ⟨_,hopu⟩
  ·simpa using h.gs_ j op hop'
  ·rw [hge op hopu];simpa using hlt
theorem BtwD.spec {gs:Array Goroutine} {W:World} {t:Trace} {q:Nat->Nat} (h:BtwD P.b Dead dd gs W t q) {a g2:Goroutine} {β:Bij} {es ES:Array Event}
  (h0:gs[0]?=some a) (e3:stepG P.b true a W=.go g2 W ES) (e5:SpecEv β es ES) (e6:∀ e∈ES,∀ ad,e.loc=.mark (.acquire ad)∨e.loc=.mark (.releaseMerge ad)->ad.block<W.heap.size) (sl:Option (Nat×Nat)) :
  ∃ gs' t',runT P.b (crowd gs W sl) 0=(.next (crowd gs' W sl),t')∧gs'.size=gs.size∧gs'[0]?=some g2∧BtwD P.b Dead (deafBehind dd es) gs' W (t++t') q:=by
 have hmem:=e5.mem
 have hge:∀ op∈MemOp.ofEvents 0 a.frame.fn a.frame.place ES,op.g=0:=fun op hop=>by obtain ⟨e,_,rfl⟩:=Go.Conc.mem_ofEvents hop;rfl
 have hlt:0<gs.size:=(Array.getElem?_eq_some_iff.1 h0).1
 refine ⟨_,_,runT_crowd_go (P:=P.b) (sl:=sl) (i:=0) h0 (by simpa using e3),by simp,by simp [hlt],
  ⟨⟨fun j y hj hy=>?_,fun j hj=>?_⟩,h.past.own (fun e he=>⟨fun z hz hs=>?_,e5.low e6 e he⟩) (e5.deaf dd),h.quiet.app fun op hop z hz hs=>?_,fun j op hop=>?_,h.low⟩⟩
 ·have hne:0≠j:=by omega
  rw [Array.getElem?_setIfInBounds_ne hne,Array.getElem?_map] at hy
  obtain ⟨z,hz,rfl⟩:=Option.map_eq_some_iff.1 hy
  have hqj:=h.lv.old j z hj hz
  rw [woken_quitsD hqj,Deaf_other t (by omega) _ hge]
  exact hqj
 ·rw [Deaf_other t (g':=0) (by simp at hj;omega) _ hge]
  exact h.lv.above j (by simpa using hj)
 ·rw [(hmem e he).1] at hz;cases hz
 ·obtain ⟨e,he,rfl⟩:=Go.Conc.mem_ofEvents hop
  rw [(hmem e he).1] at hz;cases hz
 ·rcases getElem?_append_cases hop with ⟨_,hop'⟩ | ⟨_,hopu⟩
  ·simpa using h.gs_ j op hop'
  ·rw [hge op hopu];simpa using hlt
theorem ktree_beside (lib:∀ H,Lib P SB H lets BB Gn) (hmf:∀ (f:FuncId) (fn:Func),P.a.funcs[f]?=some fn->fn.body.isNone=true->P.fs[f]?=some fn) {H:Hid} {T:List Frame} {β:Bij} {Q:Goroutine->World->Prop} (hQB:∀ g w,Q g w->BB g.frame.fn=false∨∃ f R,Iso.Left P.a f R g w) {os:Os} {ou:World} {n b0 B0:Nat}:∀ (μ:Wm×Nat) (m:Machine) (t:Trace),
  (∃ gs W sl q x a d,m=crowd gs W sl∧gs[0]?=some a∧gs.size=n∧BtwD P.b Dead d gs W t q∧Tw P SB BB lets Gn Dead Kp x a W∧KTr P.a BB Q d x.g x.w∧x.H=H∧x.T=T∧β.le x.β∧(W.os=os∧W.output=ou.output)∧(B0<=W.heap.size∧b0<=x.w.heap.size∧∀ b B,x.β b B->β b B∨(b0<=b∧B0<=B))∧μ=(.tree Q (x.g,x.w),sumTo n q)) ->
  ∃ N m' t',runNT P.b N m t=(.next m',t')∧∃ gs W sl q x a,m'=crowd gs W sl∧gs[0]?=some a∧gs.size=n∧BtwD P.b Dead 0 gs W t' q∧Tw P SB BB lets Gn Dead Kp x a W∧Q x.g x.w∧x.H=H∧x.T=T∧β.le x.β∧(W.os=os∧W.output=ou.output)∧(B0<=W.heap.size∧b0<=x.w.heap.size∧∀ b B,x.β b B->β b B∨(b0<=b∧B0<=B)):=by
 have wf:WellFounded (Prod.Lex (WltA P.a) (·<·:Nat->Nat->Prop)):=(Prod.lex ⟨_,WltA.wf P.a⟩ Nat.lt_wfRel).wf
 refine hP (P:=P.b) wf (fun μ m t=>∃ gs W sl q x a d,m=crowd gs W sl∧gs[0]?=some a∧gs.size=n∧BtwD P.b Dead d gs W t q∧Tw P SB BB lets Gn Dead Kp x a W∧KTr P.a BB Q d x.g x.w∧x.H=H∧x.T=T∧β.le x.β∧(W.os=os∧W.output=ou.output)∧(B0<=W.heap.size∧b0<=x.w.heap.size∧∀ b B,x.β b B->β b B∨(b0<=b∧B0<=B))∧μ=(.tree Q (x.g,x.w),sumTo n q))
  (fun m t=>∃ gs W sl q x a,m=crowd gs W sl∧gs[0]?=some a∧gs.size=n∧BtwD P.b Dead 0 gs W t q∧Tw P SB BB lets Gn Dead Kp x a W∧Q x.g x.w∧x.H=H∧x.T=T∧β.le x.β∧(W.os=os∧W.output=ou.output)∧(B0<=W.heap.size∧b0<=x.w.heap.size∧∀ b B,x.β b B->β b B∨(b0<=b∧B0<=B))) ?_
 rintro μ m t ⟨gs,W,sl,q,x,a,d,rfl,h0,hn,hb,ht,hr,eH,eT,hle,hos,hsz,rfl⟩
 have hacc:=Wlt.accTree hr
 have harun:a.status=.running:=ht.gl.status.2
 have haw:∀ g∈gs,awake g:=by
  intro g hg
  obtain ⟨i,hi,rfl⟩:=Array.mem_iff_getElem.1 hg
  rcases Nat.eq_zero_or_pos i with rfl | hpos
  ·have:gs[0]=a:=by simpa [Array.getElem?_eq_getElem hi] using h0
   rw [this];exact awake_of (.inl harun)
  ·exact awake_of ((hb.lv.old i _ hpos (Array.getElem?_eq_getElem hi)).status.elim .inl fun x=>.inr (.inr x))
 by_cases hfin:d=0∧Q x.g x.w
 ·obtain ⟨rfl,hq⟩:=hfin
  exact .inl ⟨gs,W,sl,q,x,a,rfl,h0,hn,hb,ht,hq,eH,eT,hle,hos,hsz⟩
 refine .inr ?_
 obtain ⟨i,g,e,sl',hi,hg,hst⟩:=crowd_pick (P:=P.b) (w:=W) (sl:=sl) haw ⟨0,a,h0,harun⟩
 rcases Nat.eq_zero_or_pos i with rfl | hpos
 ·generalize hxg:x.g=gx at hr
  generalize hxw:x.w=wx at hr
  cases hr with
  | fin hq=>exact absurd ⟨rfl,by rw [hxg,hxw];exact hq⟩ hfin
  | next ng nw f1 f2 f3 =>
   subst hxg hxw
   have hq:¬ Q x.g x.w:=fun hq=>by
    rcases hQB _ _ hq with h | ⟨f,R,h⟩
    ·have:=f1.1;rw [h] at this;cases this
    ·obtain ⟨⟨es,e9⟩,n9⟩:=f2 x.w.tape x.w.drawn
     exact Iso.Left.last h (_,_) ⟨x.w.tape,x.w.drawn,es,e9,n9⟩
   have ht':=ht.at e
   have hb':=hb.at e
   obtain ⟨g',w',es,β',g2,W',ES,e1,e2,e3,e4,e5⟩:=follow_next (lib x.H) (main2:=true) f1 f2 ht'.gl ht'.wl
   have f:FinOf P SB lets Gn x (W.at e) β' w' W' ES.toList:=e5
   obtain ⟨gs',t',k1,k2,k3,k4⟩:=hb'.fin ht'.tw ht'.dead h0 e3 f sl'
   obtain ⟨k5,k6⟩:=keep_fin f ht'.keep ht'.keepx
   have dead':∀ b B,β' b B->Dead B->x.H b=true:=fun b B hb1 hd=>(f.new b B hb1).elim (fun h1=>ht.dead b B h1 hd) fun h1=>absurd h1.2 (Nat.not_le.2 (hb'.low B hd))
   obtain ⟨rfl,rfl⟩:=e2
   refine ⟨_,_,(.tree Q (ng (W.at e).tape (W.at e).drawn,nw (W.at e).tape (W.at e).drawn),sumTo n q),by rw [hst,k1],Prod.Lex.left _ _ ⟨.tree hq ⟨(W.at e).tape,(W.at e).drawn,es,e1,e4.callers.ne⟩,hacc⟩,gs',W',sl',q,⟨_,_,x.H,β',x.T⟩,g2,d,rfl,k3,k2.trans hn,k4,⟨e4,f.rel,ht.tw,dead',k5,k6⟩,f3 _ _,eH,eT,Bij.le_trans hle f.le,⟨f.OS.trans hos.1,f.OUT.trans hos.2⟩,⟨Nat.le_trans hsz.1 f.SIZE,Nat.le_trans hsz.2.1 f.size,fun b B hb1=>(f.new b B hb1).elim (hsz.2.2 b B) fun h=>.inr ⟨Nat.le_trans hsz.2.1 h.1,Nat.le_trans hsz.1 h.2⟩⟩,rfl⟩
  | @spec _ b a' ops i0 rest k cs _ o es v f1 f2 f3 f4 f5 f6 f7 =>
   subst hxw
   have hq:¬ Q x.g x.w:=fun hq=>by
    rcases hQB _ _ hq with this | ⟨f,R,w9,v9,fr,_,_,h9,_,hm,_⟩
    ·rw [hxg] at this;exact absurd f1 (by rw [show b.fn=(gor (b.at a' (.inRegion ops (i0 :: rest) :: k)) cs).frame.fn from rfl,this];decide)
    ·rw [hxg] at h9
     have e9:b.at a' (.inRegion ops (i0 :: rest) :: k)=fr:=congrArg Goroutine.frame h9
     rw [<- e9] at hm
     cases hm
   have ht':=ht.at e
   have hb':=hb.at e
   have hg0:GRel P SB x.H lets BB x.T x.β (gor (b.at a' (.inRegion ops (i0 :: rest) :: k)) cs) a:=hxg▸ht'.gl
   obtain ⟨g2,ES,e3,e4,e5,e6⟩:=spec_rel hmf (main2:=true) f1 hg0 ht'.wl f3 f4 f5 f6
   obtain ⟨gs',t',k1,k2,k3,k4⟩:=hb'.spec h0 e3 e5 e6 sl'
   refine ⟨_,_,(.tree Q (gor (b.at (a'.put o.dst v) (.inRegion ops rest :: k)) cs,on x.w (W.at e).tape (W.at e).drawn),sumTo n q),by rw [hst,k1],Prod.Lex.left _ _ ⟨.tree (by have:=hq;rwa [hxg] at this) ⟨(W.at e).tape,(W.at e).drawn,es,?_,f2⟩,by rw [hxg] at hacc;exact hacc⟩,gs',W.at e,sl',q,⟨gor (b.at (a'.put o.dst v) (.inRegion ops rest :: k)) cs,on x.w (W.at e).tape (W.at e).drawn,x.H,x.β,x.T⟩,g2,deafBehind d es,rfl,k3,k2.trans hn,k4,⟨e4,ht'.wl.same rfl rfl ht'.wl.env,ht.tw,ht.dead,ht'.keep,ht'.keepx⟩,f7 _ _,eH,eT,hle,hos,hsz,rfl⟩
   exact (f6.same Same.on_).step f3 f4 f5
 ·obtain ⟨gs',t',q',k1,k2,k3,k4,k5⟩:=(hb.at e).slip hpos hi hg h0 harun sl'
  exact ⟨_,_,(.tree Q (x.g,x.w),sumTo n q'),by rw [hst,k1],Prod.Lex.right _ (by rw [<- hn];exact k4),gs',W.at e,sl',q',x,a,d,rfl,k3,k2.trans hn,k5,ht.at e,hr,eH,eT,hle,hos,hsz,rfl⟩
end
end Go.Co
