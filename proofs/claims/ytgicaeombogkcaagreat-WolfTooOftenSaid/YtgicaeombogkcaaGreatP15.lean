/- Parts of the proof. -/
import Derived.Test.YtgicaeombogkcaaGreatP14
import Derived.Test.YtgicaeombogkcaaGreatP08
import Derived.Test.YtgicaeombogkcaaGreatP07
import Derived.Test.YtgicaeombogkcaaGreatP10
import Derived.Test.YtgicaeombogkcaaGreatP00
set_option linter.all false
set_option maxHeartbeats 4000000
set_option maxRecDepth 20000
namespace Go.Co
open Go.Iso Go.Conc Go.ConcN
theorem qM {p:Program} {m:Bool} {b:Frame} {a:Act} {ops:Array Oper} {i:Nat} {rest:List Nat} {o:Oper} {k:List Item} {cs:List Frame} {w:World} {f:FuncId} {cc:Array Value} {t:Tmp} (ho:ops[i]?=some o) (hop:o.op=.go { callee:=.value (.tmp t),args:=#[],argTypes:=#[] }) (hd:o.dst=none)
  (hw:Region.wanted o (yielded ops a.tmps)=true) (hk:b.kind≠.early) (ht:a.eval (.tmp t)=.func (.func f) #[] cc) :
  stepG p m (Go.Conc.G (b.at a (.inRegion ops (i :: rest) :: k)) cs) w=.spawn (Go.Conc.G (b.at a (.inRegion ops rest :: k)) cs) (born p ⟨.fn (.func f) cc,#[]⟩) w #[]:=by
 have h1:(execOp a.eval o).run p w=.ok (.spawn ⟨.fn (.func f) cc,#[]⟩) w:=by simp [execOp,resolve,hop,ht,Deferred.ofValue]
 have h2:(execOp a.eval o).events p w #[]=#[]:=by simp [execOp,resolve,hop,ht,Deferred.ofValue]
 rw [stepG_spawn ho hw hk h1 rfl]
 have h3:listed p b.fn a o w=#[]:=by unfold listed;rw [h2];exact seen_none _ _
 have h4:a.put o.dst undef=a:=by rw [hd];rfl
 rw [h3,h4]
section
variable {P:Two} {SB BB:FuncId->Bool} {lets:Bool} {Gn:Nat} {Wg:Nat} {Toy:Nat->Prop}
structure AtGoOp (P:Two) (SB BB:FuncId->Bool) (lets:Bool) (x:Lone) (G:Goroutine) (b:Frame) (a:Act) (ops:Array Oper) (i:Nat) (k:List Item) (f:FuncId) (cc:Array Value) (t:Tmp) (fn:Func) (c:Code):Prop where
 g:x.g=Go.Conc.G (b.at a (.inRegion ops [i] :: k)) [bad]
 bb:BB b.fn=true
 op:∃ o,ops[i]?=some o∧o.op=.go { callee:=.value (.tmp t),args:=#[],argTypes:=#[] }∧o.dst=none∧o.guard=none
 ke:b.kind≠.early
 ht:a.eval (.tmp t)=.func (.func f) #[] cc
 hf:P.a.funcs[f]?=some fn∧P.b.funcs[f]?=some fn∧(fn.name == "runtime.NumGoroutine")=false∧fn.body=some c
 sb:SB f=true
theorem kQ {o:Oper} (h:o.guard=none) (y:Nat->Option Bool):Region.wanted o y=true:=by
 unfold Region.wanted;rw [h]
theorem go_company {x:Lone} {G:Goroutine} {W:World} {b:Frame} {a:Act} {ops:Array Oper} {i:Nat} {k:List Item} {f:FuncId} {cc:Array Value} {t:Tmp} {fn:Func} {c:Code} (h:AtGoOp P SB BB lets x G b a ops i k f cc t fn c)
  (hg:GLike P SB BB lets x G) :
  ∃ G' CC,stepG P.b true G W=.spawn G' (born P.b ⟨.fn (.func f) CC,#[]⟩) W #[]∧GLike P SB BB lets { x with g:=Go.Conc.G (b.at a (.inRegion ops [] :: k)) [bad] } G'∧AsRel (SP SB x.H) x.β cc CC:=by
 obtain ⟨o,o1,o2,o3,o4⟩:=h.op
 have htop:=hg.top.on_of (by rw [h.g];exact h.bb)
 have hcs:=hg.callers
 rw [h.g] at htop hcs
 have hfr:FrRel P.a SB x.H lets x.β (b.at a (.inRegion ops [i] :: k)) G.frame:=htop
 obtain ⟨B,A,ops2,i2,rest2,K2,eFR⟩:=caller_of hfr ⟨rfl,rfl,ops,i,[],k,rfl⟩
 have hto:=hfr.todo
 rw [eFR] at hto
 have eops:ops2=ops∧i2 :: rest2=[i]:=by
  cases hto with
  | cons hi _=>cases hi;exact ⟨rfl,rfl⟩
 obtain ⟨rfl,e2⟩:=eops
 simp only [List.cons.injEq] at e2
 obtain ⟨rfl,rfl⟩:=e2
 have hev:VRel (SP SB x.H) x.β (a.eval (.tmp t)) (A.eval (.tmp t)):=by
  have:=hfr.tmps
  rw [eFR] at this
  exact this.getD t (VRel.undef _ _)
 rw [h.ht] at hev
 have:∃ CC,A.eval (.tmp t)=.func (.func f) #[] CC∧AsRel (SP SB x.H) x.β cc CC:=by
  generalize A.eval (.tmp t)=V at hev
  cases hev with
  | @func _ F _ X _ CC hF h1 _ h2 a2 =>
   cases hF with
   | func _ =>
    have:X=#[]:=by simpa using h1.symm
    exact ⟨CC,by rw [this],h2,a2⟩
 obtain ⟨CC,eC,hCC⟩:=this
 have hke:B.kind≠.early:=by
  have:=hfr.kind
  rw [eFR] at this
  have h2:b.kind=B.kind:=this
  rw [<- h2];exact h.ke
 have eG:G=Go.Conc.G G.frame G.callers:=fG hg
 have fin:=aS hfr (v:=undef) (V:=undef) (VRel.undef _ _)
 rw [eFR,Frame.finish_at,Frame.finish_at,o1] at fin
 simp only [Option.bind_some,o3] at fin
 refine ⟨Go.Conc.G (B.at A (.inRegion ops2 [] :: K2)) G.callers,CC,?_,⟨.on ?_,?_,⟨rfl,rfl⟩,⟨rfl,rfl⟩,⟨rfl,rfl⟩⟩,hCC⟩
 ·rw [eG,eFR]
  exact qM o1 o2 o3 (kQ o4 _) hke eC
 ·exact fin
 ·exact hcs
theorem split_plain (L:∀ H,Lib P SB H lets BB Gn) {x:Lone} {G:Goroutine} {W:World} {b:Frame} {a:Act} {ops:Array Oper} {i:Nat} {k:List Item} {f:FuncId} {cc:Array Value} {t:Tmp} {fn:Func} {c:Code} (h:AtGoOp P SB BB lets x G b a ops i k f cc t fn c)
  (hg:GLike P SB BB lets x G) (hw:WLike P SB lets Gn x W) (htw:x.H.twin=false) (hid:∀ b,x.β b Wg->x.H b=true) (toy:∀ b B,x.β b B->Toy B->x.H b=true) {tp:Bool} {wl:Bij} (hwl:∀ b B,wl b B->x.β b B)
  {K:Nat->Prop} {w1:World} (hcut:CutOk P.a SB lets x.H x.H K (Go.Conc.G (b.at a (.inRegion ops [] :: k)) [bad]) x.w w1) (hRo:∀ b,K b->x.H b=true∨Ro w1 b) (hcc:AsRel (SP SB x.H) (idOn K) cc cc) (hK:∀ b B,wl b B->K b) :
  ∃ G' child,stepG P.b true G W=.spawn G' child W #[] ∧
   Split P SB BB lets Gn Wg Toy x G' child W tp tp false ⟨Go.Conc.G (b.at a (.inRegion ops [] :: k)) [bad],w1,x.H,cut K x.β,x.T⟩ ⟨Go.Conc.G (Frame.enter P.a f cc .deferred) [bad],w1,x.H,cut K x.β,[ca P.b]⟩ wl:=by
 obtain ⟨G',CC,e1,e2,e3⟩:=go_company h (W:=W) hg
 obtain ⟨f1,f2,f3,f4⟩:=h.hf
 have hwc:=jQ hcut hw
 refine ⟨G',_,e1,?_,hwc,htw,⟨rfl,Go.Conc.G (Frame.enter P.b f CC .deferred) [ca P.b],fun W=>i7 f2 f3 f4 CC W,⟨enter_rel (L x.H) (.inl h.sb) (e3.cut id hcc) .deferred (by decide),.base,⟨rfl,rfl⟩,⟨rfl,rfl⟩,⟨rfl,rfl⟩⟩⟩,hwc,htw,fun b B h=>⟨hK b B h,hwl b B h⟩,
  fun b B hb=>⟨b,hb.2,fun hh=>⟨hh,fun _=>(hRo b hb.1).resolve_left (by rw [hh];simp)⟩⟩,fun b B hb=>.inl ⟨b,hb.2,fun hh=>⟨hh,fun _=>(hRo b hb.1).resolve_left (by rw [hh];simp)⟩⟩,fun b hb=>hid b hb.2,fun b hb=>hid b hb.2,fun b B hb=>toy b B hb.2,fun _ b B hb=>toy b B hb.2,?_,⟨fun e=>(by cases e),fun _=>rfl⟩⟩
 ·exact jP (g:=Go.Conc.G (b.at a (.inRegion ops [] :: k)) [bad]) h.bb hcut e2
 ·intro b1 b2 B h1 h2
  have:b1=b2:=hw.fine.inj h1.2 h2.2
  subst this
  rcases hRo b1 h1.1 with e | e
  ·exact .inl e
  ·exact .inr (.inr ⟨e,e⟩)
theorem qN (K:Nat->Prop) (β:Bij):cut K (cut K β)=cut K β:=by
 funext b B
 exact propext ⟨fun h=>h.2,fun h=>⟨h.1,h⟩⟩
def Hid.show (H:Hid) (tl:Nat->Bool):Hid:=⟨fun b=>H.at_ b&&!tl b,false,true⟩
theorem split_owner (L:∀ H,Lib P SB H lets BB Gn) {x:Lone} {G:Goroutine} {W:World} {b:Frame} {a:Act} {ops:Array Oper} {i:Nat} {k:List Item} {f:FuncId} {cc:Array Value} {t:Tmp} {fn:Func} {c:Code} (h:AtGoOp P SB BB lets x G b a ops i k f cc t fn c)
  (hg:GLike P SB BB lets x G) (hw:WLike P SB lets Gn x W) (htw:x.H.twin=false) (hid:∀ b,x.β b Wg->x.H b=true) (toy:∀ b B,x.β b B->Toy B->x.H b=true) {wl:Bij} (hwl:∀ b B,wl b B->x.β b B)
  {K:Nat->Prop} {w1 wk:World} (hcut:CutOk P.a SB lets x.H x.H K (Go.Conc.G (b.at a (.inRegion ops [] :: k)) [bad]) x.w w1) (hRo:∀ b,K b->x.H b=true∨Ro w1 b) (hK:∀ b B,wl b B->K b)
  {tl:Nat->Bool} (hcc:AsRel (SP SB (Hid.show x.H tl)) (idOn K) cc cc) (htl:∀ b B,x.β b B->tl b=true->Toy B) (htlH:∀ b,tl b=true->x.H b=true) (tnw:¬ Toy Wg)
  (hsz:w1.heap.size<=wk.heap.size∧wk.os=w1.os) (hold:∀ b,K b->tl b=false->wk.heap[b]?=w1.heap[b]?) (hob:∀ b o,K b->x.H b=false->w1.heap[b]?=some o->ORel (SP SB (Hid.show x.H tl)) (CK P.a SB lets) (idOn K) o o)
  (htoys:∀ b B,K b->tl b=true->x.β b B->∃ o O,wk.heap[b]?=some o∧W.heap[B]?=some O∧ORel (SP SB (Hid.show x.H tl)) (CK P.a SB lets) (cut K x.β) o O) (hlt:∀ b,x.H b=true->b<wk.heap.size) :
  ∃ G' child,stepG P.b true G W=.spawn G' child W #[] ∧
   Split P SB BB lets Gn Wg Toy x G' child W true false true ⟨Go.Conc.G (b.at a (.inRegion ops [] :: k)) [bad],w1,x.H,cut K x.β,x.T⟩ ⟨Go.Conc.G (Frame.enter P.a f cc .deferred) [bad],wk,Hid.show x.H tl,cut K x.β,[ca P.b]⟩ wl:=by
 obtain ⟨G',CC,e1,e2,e3⟩:=go_company h (W:=W) hg
 obtain ⟨f1,f2,f3,f4⟩:=h.hf
 have hwc:=jQ hcut hw
 have hH:∀ b,(Hid.show x.H tl) b=true↔x.H b=true∧tl b=false:=fun b=>by simp [Hid.show]
 have hHf:∀ b,(Hid.show x.H tl) b=false->x.H b=false∨tl b=true:=fun b hb=>by
  simp only [Hid.show,Bool.and_eq_false_iff,Bool.not_eq_false'] at hb
  exact hb
 have hRk:∀ b,K b->tl b=false->Ro w1 b->Ro wk b:=fun b hk ht ⟨c,t,z,h1,h2⟩=>⟨c,t,z,(hold b hk ht).trans h1,h2⟩
 have hwk:WRel (SP SB (Hid.show x.H tl)) (CK P.a SB lets) Gn (cut K x.β) wk W:=by
  refine ⟨hwc.fine,⟨Nat.le_trans hwc.room.1 hsz.1,hwc.room.2⟩,fun b B hb hh=>?_,fun b B hb hh=>?_,fun b hh=>hlt b ((hH b).1 hh).1,by rw [hsz.2];exact hwc.env⟩
  ·cases ht:tl b with
   | true=>exact htoys b B hb.1 ht hb.2
   | false =>
    have hx:x.H b=false:=(hHf b hh).resolve_right (by rw [ht];simp)
    obtain ⟨o,O,q1,q2,q3⟩:=hwc.objs b B hb hx
    refine ⟨o,O,(hold b hb.1 ht).trans q1,q2,?_⟩
    have:=q3.cut (fun _=>rfl) (hob b o hb.1 hx q1)
    rw [qN] at this
    exact this
  ·obtain ⟨q1,q2⟩:=(hH b).1 hh
   obtain ⟨r1,r2,_⟩:=hwc.hids b B hb q1
   exact ⟨(hold b hb.1 q2).trans r1,fun _=>r2 htw,fun e=>by cases e⟩
 refine ⟨G',_,e1,?_,hwc,htw,⟨rfl,Go.Conc.G (Frame.enter P.b f CC .deferred) [ca P.b],fun W=>i7 f2 f3 f4 CC W,⟨enter_rel (L (Hid.show x.H tl)) (.inl h.sb) (e3.cut (fun _=>rfl) hcc) .deferred (by decide),.base,⟨rfl,rfl⟩,⟨rfl,rfl⟩,⟨rfl,rfl⟩⟩⟩,hwk,rfl,fun b B h=>⟨hK b B h,hwl b B h⟩,
  fun b B hb=>⟨b,hb.2,fun hh=>⟨hh,fun _=>(hRo b hb.1).resolve_left (by rw [hh];simp)⟩⟩,fun b B hb=>?_,fun b hb=>hid b hb.2,fun b hb=>(hH b).2 ⟨hid b hb.2,?_⟩,fun b B hb=>toy b B hb.2,fun e=>(by cases e),?_,⟨fun _=>⟨rfl,rfl⟩,fun e=>(by cases e)⟩⟩
 ·exact jP (g:=Go.Conc.G (b.at a (.inRegion ops [] :: k)) [bad]) h.bb hcut e2
 ·cases ht:tl b with
  | true=>exact .inr ⟨rfl,htl b B hb.2 ht⟩
  | false =>
   refine .inl ⟨b,hb.2,fun hh=>?_⟩
   have hx:x.H b=false:=(hHf b hh).resolve_right (by rw [ht];simp)
   exact ⟨hx,fun _=>hRk b hb.1 ht ((hRo b hb.1).resolve_left (by rw [hx];simp))⟩
 ·cases ht:tl b with
  | false=>rfl
  | true=>exact absurd (htl b Wg hb.2 ht) tnw
 ·intro b1 b2 B h1 h2
  have:b1=b2:=hw.fine.inj h1.2 h2.2
  subst this
  rcases hRo b1 h1.1 with e | e
  ·exact .inl e
  ·cases ht:tl b1 with
   | true=>exact .inl (htlH b1 ht)
   | false=>exact .inr (.inr ⟨e,hRk b1 h1.1 ht e⟩)
end
open Go.Iso Go.Conc
abbrev InK (SB:FuncId->Bool) (H:Hid) (K:Nat->Prop) (v:Value):Prop:=VRel (SP SB H) (idOn K) v v
theorem allIn {SB:FuncId->Bool} {H:Hid} {K:Nat->Prop} {l:List Value} (h:∀ v∈l,InK SB H K v):AsRel (SP SB H) (idOn K) l.toArray l.toArray :=
 ⟨rfl,fun i v V h1 h2=>by
  rw [h1] at h2;cases h2
  exact h v (List.mem_of_getElem? (by simpa using h1))⟩
theorem InK.mono {SB:FuncId->Bool} {H:Hid} {K K':Nat->Prop} {v:Value} (h:InK SB H K v) (hk:∀ b,K b->K' b):InK SB H K' v :=
 VRel.mono (fun b B hb=>⟨hk b hb.1,hb.2⟩) h
theorem InK.ptr {SB:FuncId->Bool} {H:Hid} {K:Nat->Prop} {b:Nat} (hb:K b) (o:Nat) (s:Option Nat):InK SB H K (.pointer (some ⟨b,o,s⟩)):=VRel.ptr o s ⟨hb,rfl⟩
theorem InK.slice {SB:FuncId->Bool} {H:Hid} {K:Nat->Prop} {b:Nat} (hb:K b) (o:Nat) (s:Option Nat) (l c:Nat):InK SB H K (.slice (some ⟨b,o,s⟩) l c):=VRel.slice o s l c ⟨hb,rfl⟩
theorem InK.undef {SB:FuncId->Bool} {H:Hid} {K:Nat->Prop}:InK SB H K undef:=VRel.undef _ _
theorem InK.agg {SB:FuncId->Bool} {H:Hid} {K:Nat->Prop} {l:List Value} (h:∀ v∈l,InK SB H K v):InK SB H K (.agg l.toArray):=VRel.agg rfl (allIn h).at_
theorem InK.func {SB:FuncId->Bool} {H:Hid} {K:Nat->Prop} {f:FuncId} (hf:SB f=true) {l:List Value} (h:∀ v∈l,InK SB H K v):InK SB H K (.func (.func f) #[] l.toArray):=VRel.func (FRel.func (.inl hf)) rfl (fun i v V h1=>by simp at h1) rfl (allIn h).at_
def froze (w:World) (r:Nat):World:=match w.heap[r]? with
 | some (.cells c t _)=>{ w with heap:=w.heap.setIfInBounds r (.cells c t (0,c.size)) }
 | _=>w
theorem cd (w:World) (r:Nat):(froze w r).heap.size=w.heap.size:=by
 unfold froze;split<;>simp
theorem eK (w:World) (r:Nat):(froze w r).os=w.os:=by
 unfold froze;split<;>rfl
theorem dH (w:World) {r b:Nat} (h:b≠r):(froze w r).heap[b]?=w.heap[b]?:=by
 unfold froze
 split
 ·exact Array.getElem?_setIfInBounds_ne (Ne.symm h)
 ·rfl
theorem cr {w:World} {r:Nat} {c:Array Value} {t:TypeId} {f:Nat×Nat} (h:w.heap[r]?=some (.cells c t f)):(froze w r).heap[r]?=some (.cells c t (0,c.size)):=by
 unfold froze
 rw [h]
 exact Array.getElem?_setIfInBounds_self_of_lt (Array.getElem?_eq_some_iff.1 h).1
def Ext (w w':World):Prop:=w.heap.size<=w'.heap.size∧(∀ b,b<w.heap.size->w'.heap[b]?=w.heap[b]?)∧w'.os=w.os
theorem Ext.trans {a b c:World} (h:Ext a b) (k:Ext b c):Ext a c:=⟨Nat.le_trans h.1 k.1,fun x hx=>(k.2.1 x (Nat.lt_of_lt_of_le hx h.1)).trans (h.2.1 x hx),k.2.2.trans h.2.2⟩
theorem Ext.alloc (w:World) (o:Obj):Ext w (w.alloc o):=⟨by
 have:(w.alloc o).heap.size=w.heap.size+1:=Array.size_push _
 omega,fun b hb=>by
 have:(w.alloc o).heap[b]?=if b=w.heap.size then some o else w.heap[b]?:=Array.getElem?_push ..
 rw [this,if_neg (Nat.ne_of_lt hb)],rfl⟩
theorem Ext.same {a b:World} (h:Same a b):Ext a b:=⟨by rw [h.1];exact Nat.le_refl _,fun _ _=>by rw [h.1],h.2.1⟩
end Go.Co
namespace Go.Proofs.YtgicaeombogkcaaGreat
open Go.RowKit Go.Iso Go.Co Go.Conc
noncomputable abbrev T8:List Item:=[.inBlock 1,.code (.region 9 o9 false),.inLoop eL,.inBlock 0,.code (.region 10 o10 false)]
noncomputable abbrev qO (p1:Value) (b2 b3 b4 cb sb n c:Nat) (i:Nat) (v5 v6 v7 v8 v9 v10 v14 v15 v16 v17 v18 v19 v20 v21 v22 v23 v24 v25 v26:Value):Frame :=
 (base 49).at ⟨#[.pointer (some ⟨cb,0,none⟩),p1,.pointer (some ⟨b2,0,none⟩),.pointer (some ⟨b3,0,none⟩),.pointer (some ⟨b4,0,none⟩),v5,v6,v7,v8,v9,v10,.slice (some ⟨sb,0,none⟩) n c,.int .i64 n,.int .i64 i,v14,v15,v16,v17,v18,v19,v20,v21,v22,v23,v24,v25,v26],[]⟩ [.code eL,.inLoop eL,.inBlock 0,.code (.region 10 o10 false)]
section
variable {P:Two} {SB BB:FuncId->Bool} {lets:Bool} {Gn ty Wg:Nat} {Toy:Nat->Prop} {Ψ0 Ψ2:World->Prop} {fA fW:FuncId} {wl:Nat} {Pr:Bij} {T:List Frame} {Fn:Bool->Hid->Goroutine->World->Prop}
theorem pB :
  ∀ k {tp:Bool} {H:Hid} {g:Goroutine} {w:World},ScrQ P SB BB lets Gn ty Wg Toy Ψ0 Ψ2 fA fW wl Pr T Fn k tp H g w->ScrQ P SB BB lets Gn ty Wg Toy Ψ0 Ψ2 fA fW wl Pr T Fn (k+1) tp H g w:=by
 intro k
 induction k with
 | zero=>intro tp H g w h;exact .inl h
 | succ k ih =>
  rintro tp H g w (h | ⟨fr,cs,h1,h2,h3⟩)
  ·exact .inl h
  ·refine .inr ⟨fr,cs,h1,h2,h3.mono (fun _ _ x=>x) fun g w hq x G W e1 e2 e3 e4 e5 e6 e7 e8 e9 e10 e11=>?_⟩
   obtain ⟨G',child,x',xk,tp',o,wlk,Q,q1,q2,q3,q4,q5,q6,q7⟩:=hq x G W e1 e2 e3 e4 e5 e6 e7 e8 e9 e10 e11
   exact ⟨G',child,x',xk,tp',o,wlk,Q,q1,q2,q3,q4,q5.mono (fun _ _ x=>x) (fun _ _ x=>ih x),q6,q7⟩
theorem nQ {S:Bool->Hid->Goroutine->World->Prop} {tp:Bool} {H:Hid} (g:Goroutine) (w W:World) (s:Same w W) (hq:AtGo P SB BB lets Gn ty Wg Toy Ψ0 Ψ2 Pr T S tp H g w):AtGo P SB BB lets Gn ty Wg Toy Ψ0 Ψ2 Pr T S tp H g W:=fun x G W' e1 e2=>hq x G W' e1 (s.trans e2)
theorem ct (hF:∀ tp H g w W,Same w W->Fn tp H g w->Fn tp H g W):∀ k {tp:Bool} {H:Hid} (g:Goroutine) (w W:World),Same w W->ScrQ P SB BB lets Gn ty Wg Toy Ψ0 Ψ2 fA fW wl Pr T Fn k tp H g w->ScrQ P SB BB lets Gn ty Wg Toy Ψ0 Ψ2 fA fW wl Pr T Fn k tp H g W:=by
 have hW:∀ {tp:Bool} {H:Hid} {g:Goroutine} {w W:World},Same w W->fD P fW wl Fn tp H g w->fD P fW wl Fn tp H g W:=fun hs ⟨fr,cs,h1,h2,h3⟩=>⟨fr,cs,h1,h2,hF _ _ _ _ _ hs h3⟩
 intro k
 cases k with
 | zero=>exact fun g w W hs h=>hW hs h
 | succ k =>
  rintro tp H g w W hs (h | ⟨fr,cs,h1,h2,h3⟩)
  ·exact .inl (hW hs h)
  ·exact .inr ⟨fr,cs,h1,h2,h3.same (fun _ _ _ _ x=>x) (fun g w W s hq x G W' e1 e2=>hq x G W' e1 (s.trans e2)) hs⟩
end
structure Head (SB:FuncId->Bool) (H:Hid) (Gn:Nat) (Kb:Nat->Prop) (Ok:World->Prop) (K:Nat->Prop) (w:World):Prop where
 sub:∀ b,Kb b->K b
 base:∀ b,K b->H b=false->Ro w b∧∃ o,w.heap[b]?=some o∧ORel (SP SB H) (CK Tryz.prog SB true) (idOn K) o o
 hid:∀ b,K b->H b=true->w.heap[b]?=some (.coro none)
 lo:∀ b,K b->Gn<=b
 lt:∀ b,K b->b<w.heap.size
 old:∀ b,H b=true->b<w.heap.size
 room:Gn<=w.heap.size
 ok:Ok w
def dI (Kb:Nat->Prop) (Ok:World->Prop):Prop:=∀ w w':World,(∀ b,Kb b->w'.heap[b]?=w.heap[b]?)->w'.os=w.os->Ok w->Ok w'
section
variable {SB:FuncId->Bool} {H:Hid} {Gn:Nat} {Kb:Nat->Prop} {Ok:World->Prop} {K:Nat->Prop} {w w':World}
theorem Head.ext (h:Head SB H Gn Kb Ok K w) (hO:dI Kb Ok) (e:Ext w w'):Head SB H Gn Kb Ok K w':=by
 have same:∀ b,K b->w'.heap[b]?=w.heap[b]?:=fun b hb=>e.2.1 b (h.lt b hb)
 refine ⟨h.sub,fun b hb hh=>?_,fun b hb hh=>(same b hb).trans (h.hid b hb hh),h.lo,fun b hb=>Nat.lt_of_lt_of_le (h.lt b hb) e.1,fun b hb=>Nat.lt_of_lt_of_le (h.old b hb) e.1,Nat.le_trans h.room e.1,hO w w' (fun b hb=>same b (h.sub b hb)) e.2.2 h.ok⟩
 obtain ⟨⟨c,t,f,q1,q2⟩,o,q3,q4⟩:=h.base b hb hh
 exact ⟨⟨c,t,f,(same b hb).trans q1,q2⟩,o,(same b hb).trans q3,q4⟩
theorem Head.more (h:Head SB H Gn Kb Ok K w) (hO:dI Kb Ok) {r:Nat} (hr:¬ K r) (hH:H r=false) (hG:Gn<=r) {l:List Value} {t:TypeId} {f:Nat×Nat} (hc:w.heap[r]?=some (.cells l.toArray t f)) (hl:∀ v∈l,InK SB H (fun _=>False) v) :
  Head SB H Gn Kb Ok (fun b=>K b∨b=r) (froze w r):=by
 have ne:∀ b,K b->b≠r:=fun b hb e=>hr (e▸hb)
 have same:∀ b,K b->(froze w r).heap[b]?=w.heap[b]?:=fun b hb=>dH w (ne b hb)
 refine ⟨fun b hb=>.inl (h.sub b hb),fun b hb hh=>?_,fun b hb hh=>?_,fun b hb=>?_,fun b hb=>?_,fun b hb=>by rw [cd];exact h.old b hb,by rw [cd];exact h.room,hO w _ (fun b hb=>same b (h.sub b hb)) (eK w r) h.ok⟩
 ·rcases hb with hb | rfl
  ·obtain ⟨⟨c,t,f,q1,q2⟩,o,q3,q4⟩:=h.base b hb hh
   exact ⟨⟨c,t,f,(same b hb).trans q1,q2⟩,o,(same b hb).trans q3,q4.mono fun x y hxy=>⟨.inl hxy.1,hxy.2⟩⟩
  ·exact ⟨⟨_,_,_,cr hc,fun i hi=>⟨Nat.zero_le _,hi⟩⟩,_,cr hc,.cells (allIn fun v hv=>(hl v hv).mono fun _=>False.elim) fun i h1 h2=>⟨h1,h2⟩⟩
 ·rcases hb with hb | rfl
  ·exact (same b hb).trans (h.hid b hb hh)
  ·rw [hH] at hh;cases hh
 ·rcases hb with hb | rfl
  ·exact h.lo b hb
  ·exact hG
 ·rw [cd]
  rcases hb with hb | rfl
  ·exact h.lt b hb
  ·exact (Array.getElem?_eq_some_iff.1 hc).1
end
noncomputable abbrev PP:Two:=Two.of Tryz.prog
noncomputable abbrev PQ:Two:=⟨Sq.prog,Tryz.prog.funcs⟩
noncomputable abbrev sX:Code:=Tryz.f92.body.getD .skip
abbrev first (x:Int):Obj:=.cells #[.int .u8 x,.int .u8 0,.int .u8 0,.int .u8 0,.int .u8 0] 91
abbrev bi (b2 b3 b4 r:Nat):Array Value:=#[.pointer (some ⟨b4,0,none⟩),.pointer (some ⟨b2,0,none⟩),.pointer (some ⟨r,0,none⟩),.pointer (some ⟨b3,0,none⟩)]
structure GoAt (SB BB:FuncId->Bool) (H:Hid) (Gn Wg:Nat) (Toy:Nat->Prop) (Ψ0:World->Prop) (Pr:Bij) (T:List Frame) (Kb:Nat->Prop) (Ok:World->Prop) (b2 b3 b4:Nat) (x1:Int) (tp:Bool) (K:Nat->Prop) (a:Act) (r:Nat) (x:Lone) (X:Goroutine) (W:World):Prop where
 op:AtGoOp PP SB BB true x X (base 49) a o8 1 T8 92 (bi b2 b3 b4 r) 24 Tryz.f92 sX
 gl:GLike PP SB BB true x X
 wl:WLike PP SB true Gn x W
 h:x.H=H
 t:x.T=T
 pr:Pr.le x.β
 toys:tp=true->Ψ0 W
 toy:∀ b B,x.β b B->Toy B->x.H b=true
 wg:∀ b,x.β b Wg->x.H b=true
 tw:x.H.twin=false
 head:Head SB H Gn Kb Ok K x.w
 rb:x.w.heap[r]?=some (first x1)
 rK:¬ K r∧H r=false∧Gn<=r
 cut:CutOk Tryz.prog SB true H H (fun b=>K b∨b=r) (Go.Conc.G ((base 49).at a (.inRegion o8 [] :: T8)) [bad]) x.w (froze x.w r)
structure Ctx (SB SB0 BB:FuncId->Bool) (H:Hid) (Gn Wg:Nat) (Toy:Nat->Prop) (Ψ0 Ψ2:World->Prop) (Pr:Bij) (T:List Frame) (Fn:Bool->Hid->Goroutine->World->Prop) (Kb Kc:Nat->Prop) (Ok:World->Prop) (b2 b3 b4 cb sb n c:Nat) (p1:Value) (sets kind:Nat->Int) (tpOf:Nat->Bool):Prop where
 hB:BB 49=true
 s49:SB 49=true
 s92:SB 92=true
 L0:Both PQ SB0 SB0 BB Gn
 b0:∀ f,SB0 f=true->BB f=true
 s82:SB0 82=true
 todo:∀ K,LRel (IRel Tryz.prog SB H true true (idOn K)) (.inRegion o8 [] :: T8) (.inRegion o8 [] :: T8)
 twin:H.twin=false
 only:dI Kb Ok
 box2:∀ w,Ok w->w.cell? ⟨b2,0,none⟩=some (.pointer (some ⟨cb,0,none⟩))
 setsAt:∀ w i,Ok w->i<n->w.cell? ⟨sb,i,none⟩=some (.int .u8 (sets i))
 camp:∀ w b,Ok w->Kc b->Kb b∧∃ o,w.heap[b]?=some o∧ORel (SP SB0 Hid.no) (CK Sq.prog SB0 false) (idOn Kc) o o
 cK:Kc cb
 kb:Kb b2∧Kb b3∧Kb b4∧Kb cb∧Kb sb
 hp1:InK SB H Kb p1
 wrap:∀ i,i<n->IntKind.i64.wrap ((i:Int)+1)=((i+1:Nat):Int)
 lapse:∀ w i,Ok w->i<n->∀ τ d,Calls Sq.prog 82 #[.pointer (some ⟨cb,0,none⟩),.pointer (some ⟨w.heap.size,0,none⟩),.int .i64 0] (on (w.alloc (first (sets i))) τ d) (fun e w'=>∃ v,e=.returned v∧((∃ y1 y2,v=.agg #[.int .i64 (kind i),.int .i64 y1,.int .i64 y2])∧Ext (w.alloc (first (sets i))) w'))
 tpk:∀ i,i<n->kind i≠0->tpOf (i+1)=tpOf i
 fin:∀ (a:Act) (w:World),a.defers=[]->Ok w->Fn (tpOf n) H (Go.Conc.G (((base 49).at a [.inRegion o10 [0]]).finish (.tuple #[])) [bad]) w
 fins:∀ tp H g w W,Same w W->Fn tp H g w->Fn tp H g W
 go:∀ i,i<n->kind i=0->∀ (K:Nat->Prop) (a:Act) (r:Nat) (x:Lone) (X:Goroutine) (W:World),GoAt SB BB H Gn Wg Toy Ψ0 Pr T Kb Ok b2 b3 b4 (sets i) (tpOf i) K a r x X W ->
  ∃ (X' child:Goroutine) (xk:Lone) (o:Bool) (Pk:Bij) (Q:Goroutine->World->Prop),stepG Tryz.prog true X W=.spawn X' child W #[] ∧
   Split PP SB BB true Gn Wg Toy x X' child W (tpOf i) (tpOf (i+1)) o ⟨Go.Conc.G ((base 49).at a (.inRegion o8 [] :: T8)) [bad],froze x.w r,H,cut (fun b=>K b∨b=r) x.β,T⟩ xk Pk ∧
   bV PP SB BB true Gn 146 Wg Ψ2 Q xk.H xk.T Pk o∧(∀ g w,Q g w->BB g.frame.fn=false)∧KTr Tryz.prog BB Q 0 xk.g xk.w
theorem eM (w:World) (x:Int):(w.alloc (first x)).heap[w.heap.size]?=some (first x):=by rw [av,if_pos rfl]
section
variable {SB SB0 BB:FuncId->Bool} {H:Hid} {Gn Wg:Nat} {Toy:Nat->Prop} {Ψ0 Ψ2:World->Prop} {Pr:Bij} {T:List Frame} {Fn:Bool->Hid->Goroutine->World->Prop} {Kb Kc:Nat->Prop} {Ok:World->Prop} {b2 b3 b4 cb sb n c:Nat} {p1:Value} {sets kind:Nat->Int} {tpOf:Nat->Bool}
theorem pC (C:Ctx SB SB0 BB H Gn Wg Toy Ψ0 Ψ2 Pr T Fn Kb Kc Ok b2 b3 b4 cb sb n c p1 sets kind tpOf) (hPr:∀ b B,Pr b B->Kb b):∀ (m i:Nat),i+m=n->∀ (K:Nat->Prop) (w:World),Head SB H Gn Kb Ok K w ->
  ∀ (v5 v6 v7 v8 v9 v10 v14 v15 v16 v17 v18 v19 v20 v21 v22 v23 v24 v25 v26:Value),(∀ v∈[v5,v8,v9,v10,v20,v21,v22,v23,v24,v25,v26],InK SB H K v) ->
  Runs Tryz.prog (Fine Tryz.prog BB) (ScrQ PP SB BB true Gn 146 Wg Toy Ψ0 Ψ2 91 94 b4 Pr T Fn m (tpOf i) H) (Go.Conc.G (qO p1 b2 b3 b4 cb sb n c i v5 v6 v7 v8 v9 v10 v14 v15 v16 v17 v18 v19 v20 v21 v22 v23 v24 v25 v26) [bad]) w:=by
 intro m
 induction m with
 | zero =>
  intro i hi K w hd v5 v6 v7 v8 v9 v10 v14 v15 v16 v17 v18 v19 v20 v21 v22 v23 v24 v25 v26 hJ
  obtain rfl:i=n:=by omega
  refine rW (cb:=0) C.hB (ct C.fins _) (by simp) (Nat.lt_irrefl _) (.fin ?_)
  exact ⟨_,_,rfl,⟨rfl,rfl,_,_,_,_,rfl⟩,C.fin _ _ rfl hd.ok⟩
 | succ m ih =>
  intro i hi K w hd v5 v6 v7 v8 v9 v10 v14 v15 v16 v17 v18 v19 v20 v21 v22 v23 v24 v25 v26 hJ
  have hin:i<n:=by omega
  have l2:b2<w.heap.size:=hd.lt _ (hd.sub _ C.kb.1)
  have hr0:H w.heap.size=false:=by
   cases e:H w.heap.size with
   | false=>rfl
   | true=>exact absurd (hd.old _ e) (Nat.lt_irrefl _)
  refine rT C.hB (ct C.fins _) (by simp) hin (C.box2 w hd.ok) (C.setsAt w i hd.ok hin) l2 ?_
  refine C.L0.fn C.s82 C.s82 (K0:=fun b=>Kc b∨b=w.heap.size) (by simp) (fun b hb=>?_) (by rw [ax];exact Nat.le_succ_of_le hd.room) (allIn fun v hv=>?_) (fun b hb=>?_) (ct C.fins _) (C.lapse w i hd.ok hin) ?_
  ·rcases hb with hb | rfl
   ·exact hd.lo b (hd.sub b (C.camp w b hd.ok hb).1)
   ·exact hd.room
  ·simp only [List.mem_cons,List.not_mem_nil,or_false] at hv
   rcases hv with rfl | rfl | rfl
   ·exact InK.ptr (.inl C.cK) _ _
   ·exact InK.ptr (.inr rfl) _ _
   ·exact VRel.int _ _
  ·rcases hb with hb | rfl
   ·obtain ⟨h1,o,h2,h3⟩:=C.camp w b hd.ok hb
    have hlt:=hd.lt b (hd.sub b h1)
    exact ⟨o,by rw [av,if_neg (Nat.ne_of_lt hlt)];exact h2,h3.mono fun x y hxy=>⟨.inl hxy.1,hxy.2⟩⟩
   ·refine ⟨_,eM w (sets i),.cells (allIn (l:=[.int .u8 (sets i),.int .u8 0,.int .u8 0,.int .u8 0,.int .u8 0]) fun v hv=>?_) fun j h1 h2=>⟨h1,h2⟩⟩
    simp only [List.mem_cons,List.not_mem_nil,or_false] at hv
    rcases hv with rfl | rfl | rfl | rfl | rfl<;>exact VRel.int _ _
  ·rintro v w2 ⟨⟨y1,y2,rfl⟩,hE⟩
   have hE2:Ext w w2:=(Ext.alloc w _).trans hE
   have hd2:=hd.ext C.only hE2
   have e20:(o6[1]?.bind (·.dst))=some 20:=rfl
   rw [Frame.finish_at,e20]
   have jk:∀ y1 y2 k,InK SB H K (.agg #[.int .i64 k,.int .i64 y1,.int .i64 y2]):=fun y1 y2 k=>InK.agg (l:=[.int .i64 k,.int .i64 y1,.int .i64 y2]) fun v hv=>by
    simp only [List.mem_cons,List.not_mem_nil,or_false] at hv
    rcases hv with rfl | rfl | rfl<;>exact VRel.int _ _
   by_cases hk:kind i=0
   ·rw [hk]
    refine qL (cb:=0) (v20:=undef) C.hB (ct C.fins _) (by simp) (.fin (.inr ⟨_,_,rfl,⟨rfl,rfl,_,_,_,_,rfl⟩,?_⟩))
    have e23:(o7[0]?.bind (·.dst))=some 23:=rfl
    unfold back
    rw [Frame.finish_at,e23]
    refine rU (cb:=cb) (v24:=v24) (cs:=[bad]) C.hB nQ (by simp) (.fin ?_)
    intro x X W ex hs eH eT hpr gl wl h0 toy wg tw
    have hd3:=hd2.ext C.only (Ext.same hs)
    have hrK:¬ K w.heap.size:=fun h=>Nat.lt_irrefl _ (hd.lt _ h)
    have hrb:x.w.heap[w.heap.size]?=some (first (sets i)):=by
     rw [hs.1,hE.2.1 _ (by rw [ax];exact Nat.lt_succ_self _)]
     exact eM w _
    have int_:∀ v∈[Value.int .u8 (sets i),.int .u8 0,.int .u8 0,.int .u8 0,.int .u8 0],∀ K',InK SB H K' v:=fun v hv K'=>by
     simp only [List.mem_cons,List.not_mem_nil,or_false] at hv
     rcases hv with rfl | rfl | rfl | rfl | rfl<;>exact VRel.int _ _
    have hm:=hd3.more C.only hrK hr0 hd.room hrb fun v hv=>int_ v hv _
    have kb2:=hd.sub _ C.kb.1
    have kb3:=hd.sub _ C.kb.2.1
    have kb4:=hd.sub _ C.kb.2.2.1
    have kcb:=hd.sub _ C.kb.2.2.2.1
    have ksb:=hd.sub _ C.kb.2.2.2.2
    have toK:∀ v,InK SB H K v->InK SB H (fun b=>K b∨b=w.heap.size) v:=fun v hv=>hv.mono fun b hb=>.inl hb
    have clo:InK SB H (fun b=>K b∨b=w.heap.size) (.func (.func 92) #[] #[.pointer (some ⟨b4,0,none⟩),.pointer (some ⟨b2,0,none⟩),.pointer (some ⟨w.heap.size,0,none⟩),.pointer (some ⟨b3,0,none⟩)]):=InK.func C.s92 (l:=[.pointer (some ⟨b4,0,none⟩),.pointer (some ⟨b2,0,none⟩),.pointer (some ⟨w.heap.size,0,none⟩),.pointer (some ⟨b3,0,none⟩)]) fun v hv=>by
     simp only [List.mem_cons,List.not_mem_nil,or_false] at hv
     rcases hv with rfl | rfl | rfl | rfl
     ·exact InK.ptr (.inl kb4) _ _
     ·exact InK.ptr (.inl kb2) _ _
     ·exact InK.ptr (.inr rfl) _ _
     ·exact InK.ptr (.inl kb3) _ _
    have hga:GoAt SB BB H Gn Wg Toy Ψ0 Pr T Kb Ok b2 b3 b4 (sets i) (tpOf i) K _ w.heap.size x X W:={
     op:=⟨ex,C.hB,⟨_,rfl,rfl,rfl,rfl⟩,by decide,rfl,⟨Tryz.func92,Tryz.func92,by kernel_rfl,rfl⟩,C.s92⟩
     gl:=gl,wl:=wl,h:=eH,t:=eT,pr:=hpr,toys:=h0,toy:=toy,wg:=wg,tw:=tw,head:=hd3,rb:=hrb,rK:=⟨hrK,hr0,hd.room⟩
     cut:=by
      refine ⟨⟨rfl,allIn (l:=[_,_,_,_,_,_,_,_,_,_,_,_,_,_,_,_,_,_,_,_,_,_,_,_,_,_,_]) fun v hv=>?_,C.todo _,.nil,.run,rfl,⟨(by show CallKind.normal≠.early;decide),C.s49⟩,.none⟩,⟨[bad],.base⟩,fun b hb hh=>⟨hh,?_⟩,fun b hb hh=>⟨hm.hid b hb hh,.inl hh⟩,by rw [cd];exact Nat.le_refl _,hm.old,eK _ _,⟨C.twin,C.twin⟩,fun h=>h⟩
      ·simp only [List.mem_cons,List.not_mem_nil,or_false] at hv
       rcases hv with rfl | rfl | rfl | rfl | rfl | rfl | rfl | rfl | rfl | rfl | rfl | rfl | rfl | rfl | rfl | rfl | rfl | rfl | rfl | rfl | rfl | rfl | rfl | rfl | rfl | rfl | rfl
       ·exact InK.ptr (.inl kcb) _ _
       ·exact toK _ (C.hp1.mono hd.sub)
       ·exact InK.ptr (.inl kb2) _ _
       ·exact InK.ptr (.inl kb3) _ _
       ·exact InK.ptr (.inl kb4) _ _
       ·exact toK _ (hJ _ (by simp))
       ·exact VRel.int _ _
       ·exact InK.ptr (.inr rfl) _ _
       ·exact toK _ (hJ _ (by simp))
       ·exact toK _ (hJ _ (by simp))
       ·exact toK _ (hJ _ (by simp))
       ·exact InK.slice (.inl ksb) _ _ _ _
       ·exact VRel.int _ _
       ·exact VRel.int _ _
       ·exact VRel.bool _
       ·exact InK.ptr (.inl ksb) _ _
       ·exact VRel.int _ _
       ·exact VRel.int _ _
       ·exact InK.agg (l:=[.int .u8 (sets i),.int .u8 0,.int .u8 0,.int .u8 0,.int .u8 0]) fun v hv=>int_ v hv _
       ·exact InK.ptr (.inl kcb) _ _
       ·exact toK _ (jk _ _ _)
       ·exact VRel.int _ _
       ·exact VRel.bool _
       ·exact VRel.undef _ _
       ·exact clo
       ·exact toK _ (hJ _ (by simp))
       ·exact toK _ (hJ _ (by simp))
      ·obtain ⟨_,o,h2,h3⟩:=hm.base b hb hh
       refine ⟨o,h2,h3,?_⟩
       rcases hb with hb | rfl
       ·have hne:b≠w.heap.size:=fun e=>hrK (e▸hb)
        exact .inl (by rw [<- dH x.w hne];exact h2)
       ·rw [cr hrb] at h2
        cases h2
        exact .inr ⟨_,_,_,_,hrb,rfl,fun i h1 h2=>⟨Nat.zero_le _,by simp at h1 h2⟩⟩ }
    obtain ⟨X',child,xk,o,Pk,Q,g1,g2,g3,g4⟩:=C.go i hin hk K _ _ x X W hga
    refine ⟨X',child,_,xk,_,o,Pk,Q,g1,g2,rfl,fun b B h=>⟨.inl (hd.sub _ (hPr b B h)),hpr b B h⟩,?_,g3,g4⟩
    refine rV (cb:=cb) (v25:=v25) (cs:=[bad]) C.hB (ct C.fins _) (by simp) (C.wrap i hin) ?_
    refine ih (i+1) (by omega) _ _ hm _ _ _ _ _ _ _ _ _ _ _ _ _ _ _ _ _ _ _ fun v hv=>?_
    simp only [List.mem_cons,List.not_mem_nil,or_false] at hv
    rcases hv with rfl | rfl | rfl | rfl | rfl | rfl | rfl | rfl | rfl | rfl | rfl
    ·exact toK _ (hJ _ (by simp))
    ·exact toK _ (hJ _ (by simp))
    ·exact toK _ (hJ _ (by simp))
    ·exact toK _ (hJ _ (by simp))
    ·exact toK _ (jk _ _ _)
    ·exact VRel.int _ _
    ·exact VRel.bool _
    ·exact VRel.undef _ _
    ·exact clo
    ·exact VRel.int _ _
    ·exact toK _ (hJ _ (by simp))
   ·refine (qK (cb:=0) (v20:=undef) C.hB (ct C.fins _) (by simp) (C.wrap i hin) hk ?_).mono (fun _ _ h=>h) fun _ _ h=>pB _ h
    have:=ih (i+1) (by omega) K w2 hd2 v5 (.int .u8 (sets i)) (.pointer (some ⟨w.heap.size,0,none⟩)) v8 v9 v10 (.bool true) (.pointer (some ⟨sb,i,none⟩)) (.int .u8 (sets i)) (.int .u8 (sets i)) (.agg #[.int .u8 (sets i),.int .u8 0,.int .u8 0,.int .u8 0,.int .u8 0]) (.pointer (some ⟨cb,0,none⟩))
     (.agg #[.int .i64 (kind i),.int .i64 y1,.int .i64 y2]) (.int .i64 (kind i)) (.bool true) v23 v24 (.int .i64 ((i+1:Nat):Int)) v26 (fun v hv=>?_)
    ·rw [C.tpk i hin hk] at this
     exact this
    ·simp only [List.mem_cons,List.not_mem_nil,or_false] at hv
     rcases hv with rfl | rfl | rfl | rfl | rfl | rfl | rfl | rfl | rfl | rfl | rfl
     ·exact hJ _ (by simp)
     ·exact hJ _ (by simp)
     ·exact hJ _ (by simp)
     ·exact hJ _ (by simp)
     ·exact jk _ _ _
     ·exact VRel.int _ _
     ·exact VRel.bool _
     ·exact hJ _ (by simp)
     ·exact hJ _ (by simp)
     ·exact VRel.int _ _
     ·exact hJ _ (by simp)
end
end Go.Proofs.YtgicaeombogkcaaGreat
namespace Go.Co
open Go.Iso Go.Conc Go.ConcN
section
variable {SB:FuncId->Bool} {H H':Hid} {β:Bij}
theorem FRel.less (h:∀ b,H b=false->H' b=false) {f F:Fn} (r:FRel (SP SB H) β f F):FRel (SP SB H') β f F:=by
 cases r with
 | func s=>exact .func s
 | yield l k=>exact .yield l (h _ k)
theorem VRel.less (h:(∀ b,H b=false->H' b=false)∧(H.bl=true->H'.bl=true)) {v V:Value} (r:VRel (SP SB H) β v V):VRel (SP SB H') β v V:=by
 induction r with
 | bool b=>exact .bool b
 | int k n=>exact .int k n
 | string s=>exact .string s
 | nilp=>exact .nilp
 | ptr o s hb=>exact .ptr o s hb
 | nils l c=>exact .nils l c
 | slice o s l c hb=>exact .slice o s l c hb
 | func hf h1 _ h2 _ i1 i2=>exact .func (FRel.less h.1 hf) h1 i1 h2 i2
 | nilFunc=>exact .nilFunc
 | nilMap=>exact .nilMap
 | nilChan=>exact .nilChan
 | nilIface=>exact .nilIface
 | iface t _ ih=>exact .iface t ih
 | agg h1 _ i1=>exact .agg h1 i1
 | tuple h1 _ i1=>exact .tuple h1 i1
 | blank h1 h2=>exact .blank (h1.imp (fun h=>h) h.2) h2
 | blankM h1=>exact .blankM (h1.imp (fun h=>h) h.2)
theorem AsRel.less (h:(∀ b,H b=false->H' b=false)∧(H.bl=true->H'.bl=true)) {x X:Array Value} (r:AsRel (SP SB H) β x X):AsRel (SP SB H') β x X:=⟨r.size,fun i v V h1 h2=>VRel.less h (r.at_ i v V h1 h2)⟩
theorem DRel.less (h:(∀ b,H b=false->H' b=false)∧(H.bl=true->H'.bl=true)) {d D:Deferred} (r:DRel (SP SB H) β d D):DRel (SP SB H') β d D:=by
 cases r with
 | fn f c a=>exact .fn (FRel.less h.1 f) (AsRel.less h c) (AsRel.less h a)
 | nil a=>exact .nil (AsRel.less h a)
 | collected r k=>exact .collected r (h.1 _ k)
 | blankM a A h1 h2 h3=>exact .blankM a A (AsRel.less h h1) h2 (h3.imp (fun h=>h) fun x=>⟨h.2 x.1,x.2⟩)
theorem LRel.imp {α:Type} {R R':α->α->Prop} (h:∀ a A,R a A->R' a A) {l L:List α} (r:LRel R l L):LRel R' l L:=by
 induction r with
 | nil=>exact .nil
 | cons ha _ ih=>exact .cons (h _ _ ha) ih
theorem ORel.less (h:(∀ b,H b=false->H' b=false)∧(H.bl=true->H'.bl=true)) {Ck:Code->Prop} {o O:Obj} (r:ORel (SP SB H) Ck β o O):ORel (SP SB H') Ck β o O:=by
 cases r with
 | cells a f=>exact .cells (AsRel.less h a) f
 | loop p a b x d k=>exact .loop p a b (AsRel.less h x) d (h.1 _ k)
 | number o s l hb=>exact .number o s l hb
 | taken=>exact .taken
 | defs l=>exact .defs (LRel.imp (fun _ _=>DRel.less h) l)
end
def KidQ (p:Program) (b4:Nat) (Ψ:World->Prop) (g:Goroutine) (w:World):Prop :=
 ∃ c,g=gor (Frame.enter p 93 #[wgArg b4] .deferred) [c,bad]∧c.fn=92∧c.mode=.returning∧c.defers=[]∧c.kind=.deferred∧Ψ w
theorem nR {p:Program} {b4:Nat} {Ψ:World->Prop} {BB:FuncId->Bool} (h93:BB 93=false) {g:Goroutine} {w:World} (h:KidQ p b4 Ψ g w):BB g.frame.fn=false:=by
 obtain ⟨c,rfl,_⟩:=h
 exact h93
theorem r6 {c:Frame} (h:c.mode=.returning):c≠bad:=fun e=>by rw [e] at h;cases h
section
variable {P:Two} {SB BB:FuncId->Bool} {lets:Bool} {Gn ty Wg:Nat} {Ψ2:World->Prop}
theorem jZ {L:Lib.WgLink} (Wl:Lib.WgLib P.b L) (h93:L.done=93) (hbar:Barred P SB lets L.done (Lib.doneFn L)) {f92:Func} (hf:P.b.funcs[92]?=some f92) (hr:f92.results=#[]) {b4:Nat} {Ψ:World->Prop} {H:Hid} {Pk:Bij} (hPk:Pk b4 Wg) {o:Bool}
  (hΨ:o=true->∀ (x:Lone) (W:World),x.H=H->Pk.le x.β->WLike P SB lets Gn x W->Ψ x.w->Ψ2 W) :
  bV P SB BB lets Gn L.tWg Wg Ψ2 (KidQ P.a b4 Ψ) H [ca P.b] Pk o:=by
 rintro x g W hH hT hle ⟨c,e,c1,c2,c3,c4,c5⟩ hg hw hlive
 refine ⟨?_,fun ho=>hΨ ho x W hH hle hw c5⟩
 refine rZ Wl hbar (x:=x) (c:=c) (cs:=[bad]) (wl:=b4) (by rw [e,h93]) (r6 c2) (hle _ _ hPk) hg hw hlive fun C CS r1 r2=>?_
 have m:=r1.mode
 rw [c2] at m
 have hm:C.mode=.returning:=by
  generalize C.mode=M at m
  cases m;rfl
 have d:=r1.defers
 rw [c3] at d
 have hd:C.defers=[]:=by
  generalize C.defers=M at d
  cases d;rfl
 rw [hT] at r2
 have hcs:CS=[ca P.b]:=by
  generalize hbb:[bad]=BL at r2
  cases r2 with
  | base=>rfl
  | cons h1 h2=>cases hbb;exact absurd rfl h2.ne
 refine ⟨hm,2,?_⟩
 rw [hcs]
 exact nP (by rw [<- r1.fn,c1];exact hf) hr hm hd (by rw [<- r1.kind,c4])
end
end Go.Co
namespace Go.Proofs.YtgicaeombogkcaaGreat
open Go.RowKit Go.Iso Go.Co Go.Conc
section
variable {SB BB:FuncId->Bool} {H:Hid} {Gn Wg:Nat} {Toy:Nat->Prop} {Ψ0 Ψ2:World->Prop} {Pr:Bij} {T:List Frame} {Kb:Nat->Prop} {Ok:World->Prop} {b2 b3 b4:Nat} {x1:Int} {tp:Bool} {K:Nat->Prop} {a:Act} {r:Nat} {x:Lone} {X:Goroutine} {W:World}
theorem mz (x1:Int) (SB:FuncId->Bool) (H:Hid) (K:Nat->Prop):∀ v∈[Value.int .u8 x1,.int .u8 0,.int .u8 0,.int .u8 0,.int .u8 0],InK SB H K v:=fun v hv=>by
 simp only [List.mem_cons,List.not_mem_nil,or_false] at hv
 rcases hv with rfl | rfl | rfl | rfl | rfl<;>exact VRel.int _ _
theorem GoAt.moreHead (ga:GoAt SB BB H Gn Wg Toy Ψ0 Pr T Kb Ok b2 b3 b4 x1 tp K a r x X W) (hO:dI Kb Ok):Head SB H Gn Kb Ok (fun b=>K b∨b=r) (froze x.w r) :=
 ga.head.more hO ga.rK.1 ga.rK.2.1 ga.rK.2.2 ga.rb fun v hv=>mz x1 SB H _ v hv
theorem ib {H':Hid} (hk:K b2∧K b3∧K b4):AsRel (SP SB H') (idOn (fun b=>K b∨b=r)) (bi b2 b3 b4 r) (bi b2 b3 b4 r):=allIn fun v hv=>by
 simp only [List.mem_cons,List.not_mem_nil,or_false] at hv
 rcases hv with rfl | rfl | rfl | rfl
 ·exact InK.ptr (.inl hk.2.2) _ _
 ·exact InK.ptr (.inl hk.1) _ _
 ·exact InK.ptr (.inr rfl) _ _
 ·exact InK.ptr (.inl hk.2.1) _ _
theorem pD (lib:∀ H,Lib PP SB H true BB Gn) {L:Lib.WgLink} (Wl:Lib.WgLib Tryz.prog L) (h93:L.done=93) (hT:L.tWg=146) (hbar:Go.Co.Barred PP SB true L.done (Lib.doneFn L)) (hO:dI Kb Ok) (hkb:Kb b2∧Kb b3∧Kb b4) (hPr:Pr b4 Wg) (hPK:∀ b B,Pr b B->Kb b)
  (ga:GoAt SB BB H Gn Wg Toy Ψ0 Pr T Kb Ok b2 b3 b4 x1 tp K a r x X W)
  (h93b:BB 93=false) (kid:KTr Tryz.prog BB (KidQ Tryz.prog b4 fun _=>True) 0 (Go.Conc.G (Frame.enter Tryz.prog 92 (bi b2 b3 b4 r) .deferred) [bad]) (froze x.w r)) :
  ∃ (X' child:Goroutine) (xk:Lone) (o:Bool) (Pk:Bij) (Q:Goroutine->World->Prop),stepG Tryz.prog true X W=.spawn X' child W #[] ∧
   Split PP SB BB true Gn Wg Toy x X' child W tp tp o ⟨Go.Conc.G ((base 49).at a (.inRegion o8 [] :: T8)) [bad],froze x.w r,H,cut (fun b=>K b∨b=r) x.β,T⟩ xk Pk ∧
   bV PP SB BB true Gn 146 Wg Ψ2 Q xk.H xk.T Pk o∧(∀ g w,Q g w->BB g.frame.fn=false)∧KTr Tryz.prog BB Q 0 xk.g xk.w:=by
 have hm:=ga.moreHead hO
 have hH:=ga.h
 have ht:=ga.t
 subst hH ht
 obtain ⟨G',child,e1,e2⟩:=split_plain (Toy:=Toy) (tp:=tp) (wl:=Pr) lib ga.op ga.gl ga.wl ga.tw ga.wg ga.toy (fun b B h=>ga.pr b B h) ga.cut (fun b hb=>by
  cases e:x.H b with
  | true=>exact .inl rfl
  | false=>exact .inr (hm.base b hb e).1) (ib ⟨ga.head.sub _ hkb.1,ga.head.sub _ hkb.2.1,ga.head.sub _ hkb.2.2⟩) (fun b B h=>.inl (ga.head.sub _ (hPK b B h)))
 refine ⟨G',child,_,false,Pr,KidQ Tryz.prog b4 fun _=>True,e1,e2,?_,fun g w h=>nR h93b h,kid⟩
 have:=jZ (P:=PP) (Gn:=Gn) (Ψ2:=Ψ2) (BB:=BB) Wl h93 hbar (f92:=Tryz.f92) Tryz.func92 rfl (Ψ:=fun _=>True) (H:=x.H) (Pk:=Pr) hPr (o:=false) (fun e=>by cases e)
 rw [hT] at this
 exact this
def relay (tl:Nat->Bool) (oK:Nat->Obj) (w:World):World:={ w with heap:=w.heap.mapIdx fun b o=>if tl b then oK b else o }
theorem bj (tl:Nat->Bool) (oK:Nat->Obj) (w:World):(relay tl oK w).heap.size=w.heap.size:=by simp [relay]
theorem bm (tl:Nat->Bool) (oK:Nat->Obj) (w:World) (b:Nat) (hb:b<w.heap.size):(relay tl oK w).heap[b]?=if tl b then some (oK b) else w.heap[b]?:=by
 simp only [relay,Array.getElem?_mapIdx,Array.getElem?_eq_getElem hb,Option.map_some]
 split<;>rfl
theorem pE (lib:∀ H,Lib PP SB H true BB Gn) {L:Lib.WgLink} (Wl:Lib.WgLib Tryz.prog L) (h93:L.done=93) (hT:L.tWg=146) (hbar:Go.Co.Barred PP SB true L.done (Lib.doneFn L)) (hO:dI Kb Ok) (hkb:Kb b2∧Kb b3∧Kb b4) (hPr:Pr b4 Wg) (hPK:∀ b B,Pr b B->Kb b)
  (ga:GoAt SB BB H Gn Wg Toy Ψ0 Pr T Kb Ok b2 b3 b4 x1 true K a r x X W) {tl:Nat->Bool} {oK:Nat->Obj} (htl:∀ b B,Pr b B->tl b=true->Toy B) (htlP:∀ b,tl b=true->∃ B,Pr b B) (htlH:∀ b,tl b=true->H b=true) (tnw:¬ Toy Wg)
  (hΨ0:∀ W,Ψ0 W->∀ b B,Pr b B->tl b=true->∃ O,W.heap[B]?=some O∧∀ (S:Par) (Ck:Code->Prop) (β:Bij),ORel S Ck β (oK b) O) {Ψk:World->Prop}
  (hΨ2:∀ (x:Lone) (W:World),x.H=Hid.show H tl->Pr.le x.β->WLike PP SB true Gn x W->Ψk x.w->Ψ2 W)
  (h93b:BB 93=false) (kid:KTr Tryz.prog BB (KidQ Tryz.prog b4 Ψk) 0 (Go.Conc.G (Frame.enter Tryz.prog 92 (bi b2 b3 b4 r) .deferred) [bad]) (relay tl oK (froze x.w r))) :
  ∃ (X' child:Goroutine) (xk:Lone) (o:Bool) (Pk:Bij) (Q:Goroutine->World->Prop),stepG Tryz.prog true X W=.spawn X' child W #[] ∧
   Split PP SB BB true Gn Wg Toy x X' child W true false o ⟨Go.Conc.G ((base 49).at a (.inRegion o8 [] :: T8)) [bad],froze x.w r,H,cut (fun b=>K b∨b=r) x.β,T⟩ xk Pk ∧
   bV PP SB BB true Gn 146 Wg Ψ2 Q xk.H xk.T Pk o∧(∀ g w,Q g w->BB g.frame.fn=false)∧KTr Tryz.prog BB Q 0 xk.g xk.w:=by
 have hm:=ga.moreHead hO
 have hH:=ga.h
 have ht:=ga.t
 subst hH ht
 have lt:∀ b,(K b∨b=r)->b<(froze x.w r).heap.size:=hm.lt
 have pr:∀ b B,x.β b B->tl b=true->Pr b B:=fun b B hb h=>by
  obtain ⟨B',hB⟩:=htlP b h
  rw [ga.wl.fine.fn hb (ga.pr _ _ hB)];exact hB
 have kl:∀ b,tl b=true->(K b∨b=r):=fun b h=>let ⟨B,hB⟩:=htlP b h;.inl (ga.head.sub _ (hPK b B hB))
 have hob:∀ b o,(K b∨b=r)->x.H b=false->(froze x.w r).heap[b]?=some o->ORel (SP SB (Hid.show x.H tl)) (CK Tryz.prog SB true) (idOn fun b=>K b∨b=r) o o:=fun b o hb hh ho=>by
  obtain ⟨_,o',h1,h2⟩:=hm.base b hb hh
  rw [ho] at h1;cases h1
  exact ORel.less ⟨fun b hb=>by simp [Hid.show,hb],fun _=>rfl⟩ h2
 have hty:∀ b B,(K b∨b=r)->tl b=true->x.β b B->∃ o O,(relay tl oK (froze x.w r)).heap[b]?=some o∧W.heap[B]?=some O∧ORel (SP SB (Hid.show x.H tl)) (CK Tryz.prog SB true) (cut (fun b=>K b∨b=r) x.β) o O:=fun b B hb h hB=>by
  obtain ⟨O,h1,h2⟩:=hΨ0 W (ga.toys rfl) b B (pr b B hB h) h
  exact ⟨oK b,O,by rw [bm _ _ _ _ (lt b hb),if_pos h],h1,h2 _ _ _⟩
 obtain ⟨G',child,e1,e2⟩:=split_owner (Toy:=Toy) (wl:=Pr) (wk:=relay tl oK (froze x.w r)) (tl:=tl) lib ga.op ga.gl ga.wl ga.tw ga.wg ga.toy (fun b B h=>ga.pr b B h) ga.cut (fun b hb=>by
  cases e:x.H b with
  | true=>exact .inl rfl
  | false=>exact .inr (hm.base b hb e).1) (fun b B h=>.inl (ga.head.sub _ (hPK b B h))) (ib ⟨ga.head.sub _ hkb.1,ga.head.sub _ hkb.2.1,ga.head.sub _ hkb.2.2⟩)
  (fun b B hb h=>htl b B (pr b B hb h) h) htlH tnw ⟨by rw [bj];exact Nat.le_refl _,rfl⟩ (fun b hb h=>by rw [bm _ _ _ _ (lt b hb),if_neg (by simp [h])]) hob hty (fun b hh=>by rw [bj];exact hm.old b hh)
 refine ⟨G',child,_,true,Pr,KidQ Tryz.prog b4 Ψk,e1,e2,?_,fun g w h=>nR h93b h,kid⟩
 have:=jZ (P:=PP) (Gn:=Gn) (Ψ2:=Ψ2) (BB:=BB) Wl h93 hbar (f92:=Tryz.f92) Tryz.func92 rfl (Ψ:=Ψk) (H:=Hid.show x.H tl) (Pk:=Pr) hPr (o:=true) (fun _=>hΨ2)
 rw [hT] at this
 exact this
end
end Go.Proofs.YtgicaeombogkcaaGreat
namespace Go.Co
open Go.Iso Go.Conc Go.ConcN
section
variable {P:Program} {Dead:Nat->Prop}
theorem Btw.awake {gs:Array Goroutine} {W:World} {t:Trace} {q:Nat->Nat} (hb:Btw P Dead gs W t q) {a:Goroutine} (h0:gs[0]?=some a) (hrun:a.status=.running):∀ g∈gs,Go.Conc.awake g:=by
 intro g hg
 obtain ⟨i,hi,rfl⟩:=Array.mem_iff_getElem.1 hg
 rcases Nat.eq_zero_or_pos i with rfl | hpos
 ·have:gs[0]=a:=by simpa [Array.getElem?_eq_getElem hi] using h0
  rw [this];exact awake_of (.inl hrun)
 ·exact awake_of ((hb.lv.old i _ hpos (Array.getElem?_eq_getElem hi)).status.elim .inl fun x=>.inr (.inr x))
end
section
variable {P:Two} {SB BB:FuncId->Bool} {lets:Bool} {Gn:Nat} {Dead:Nat->Prop} {Kp:Keep}
theorem main_turn {gs:Array Goroutine} {W:World} {t:Trace} {q:Nat->Nat} {sl:Option (Nat×Nat)} {a:Goroutine} (hb:Btw P.b Dead gs W t q) (h0:gs[0]?=some a) (hrun:a.status=.running) :
  ∃ N m1 t1,runNT P.b N (crowd gs W sl) t=(.next m1,t1)∧∃ gs1 d sl1 q1,stepT P.b m1=runT P.b (crowd gs1 (W.at d) sl1) 0∧gs1[0]?=some a∧gs1.size=gs.size∧Btw P.b Dead gs1 (W.at d) t1 q1:=by
 refine hP (P:=P.b) (r:=(·<·:Nat->Nat->Prop)) Nat.lt_wfRel.wf (fun n m t=>∃ gs1 d sl1 q1,m=crowd gs1 (W.at d) sl1∧gs1[0]?=some a∧gs1.size=gs.size∧Btw P.b Dead gs1 (W.at d) t q1∧n=sumTo gs.size q1)
  (fun m1 t1=>∃ gs1 d sl1 q1,stepT P.b m1=runT P.b (crowd gs1 (W.at d) sl1) 0∧gs1[0]?=some a∧gs1.size=gs.size∧Btw P.b Dead gs1 (W.at d) t1 q1) ?_ (sumTo gs.size q) (crowd gs W sl) t ⟨gs,W.drawn,sl,q,rfl,h0,rfl,hb,rfl⟩
 rintro n m t ⟨gs1,d,sl1,q1,rfl,h01,hs1,hb1,rfl⟩
 obtain ⟨i,g,d',sl',hi,hg,hst⟩:=crowd_pick (P:=P.b) (w:=W.at d) (sl:=sl1) (hb1.awake h01 hrun) ⟨0,a,h01,hrun⟩
 rcases Nat.eq_zero_or_pos i with rfl | hpos
 ·exact .inl ⟨gs1,d',sl',q1,hst,h01,hs1,hb1.at d'⟩
 ·obtain ⟨gs',t',q',k1,k2,k3,k4,k5⟩:=(hb1.at d').slip hpos hi hg h01 hrun sl'
  exact .inr ⟨_,_,sumTo gs.size q',by rw [hst,k1];rfl,by rw [<- hs1];exact k4,gs',d',sl',q',rfl,k3,k2.trans hs1,k5,rfl⟩
theorem Btw.mute0 {gs:Array Goroutine} {W W':World} {t:Trace} {q:Nat->Nat} {sl:Option (Nat×Nat)} {a a':Goroutine} (hb:Btw P.b Dead gs W t q) (h0:gs[0]?=some a) (hgo:stepG P.b true a W=.go a' W' #[]) :
  ∃ gs',runT P.b (crowd gs W sl) 0=(.next (crowd gs' W' sl),#[])∧gs'.size=gs.size∧gs'[0]?=some a'∧Leavers P.b t gs' q:=by
 have hlt:0<gs.size:=(Array.getElem?_eq_some_iff.1 h0).1
 have hr:=runT_crowd_go (P:=P.b) (sl:=sl) (i:=0) h0 (by simpa using hgo)
 have e0:MemOp.ofEvents 0 a.frame.fn a.frame.place #[]=#[]:=by rw [ofEvents_eq];simp
 rw [e0] at hr
 refine ⟨_,hr,by simp,by simp [hlt],fun j y hj hy=>?_,fun j hj=>hb.lv.above j (by simpa using hj)⟩
 have hne:0≠j:=by omega
 rw [Array.getElem?_setIfInBounds_ne hne,Array.getElem?_map] at hy
 obtain ⟨z,hz,rfl⟩:=Option.map_eq_some_iff.1 hy
 have hqj:=hb.lv.old j z hj hz
 rw [woken_quitsD hqj]
 exact hqj
end
def more (β:Bij) (b B:Nat):Bij:=fun x y=>β x y∨(x=b∧y=B)
theorem lC (β:Bij) (b B:Nat):β.le (more β b B):=fun _ _ h=>.inl h
section
variable {P:Two} {SB BB:FuncId->Bool} {lets:Bool} {Gn:Nat} {H:Hid} {β:Bij} {w W:World}
theorem nS {Ck:Code->Prop} (h:WRel (SP SB H) Ck Gn β w W) {b:Nat} (hb:∀ B,¬ β b B) (hH:H b=true) (htw:H.twin=false) (hw:w.heap[b]?=some (.coro none)) (hG:Gn<=b) {c:Array Value} {ty:TypeId} {f:Nat×Nat} :
  WRel (SP SB H) Ck Gn (more β b W.heap.size) w (W.alloc (.cells c ty f)):=by
 have hlt:∀ x y,β x y->y<W.heap.size:=fun x y hxy=>by
  cases e:H x with
  | false=>obtain ⟨o,O,_,h2,_⟩:=h.objs x y hxy e;exact (Array.getElem?_eq_some_iff.1 h2).1
  | true=>obtain ⟨_,h2,_⟩:=h.hids x y hxy e;obtain ⟨c,t,f,h3⟩:=h2 htw;exact (Array.getElem?_eq_some_iff.1 h3).1
 have get:∀ y,(W.alloc (.cells c ty f)).heap[y]?=if y=W.heap.size then some (.cells c ty f) else W.heap[y]?:=fun y=>Array.getElem?_push ..
 have size:(W.alloc (.cells c ty f)).heap.size=W.heap.size+1:=Array.size_push _
 refine ⟨⟨?_,?_,?_⟩,⟨h.room.1,by rw [size];exact Nat.le_succ_of_le h.room.2⟩,fun x y hxy hh=>?_,fun x y hxy hh=>?_,h.old,h.env⟩
 ·rintro x y y' (h1 | ⟨rfl,rfl⟩) (h2 | ⟨h2,rfl⟩)
  ·exact h.fine.fn h1 h2
  ·subst h2;exact absurd h1 (hb _)
  ·exact absurd h2 (hb _)
  ·rfl
 ·rintro x x' y (h1 | ⟨rfl,rfl⟩) (h2 | ⟨rfl,h2⟩)
  ·exact h.fine.inj h1 h2
  ·have:=hlt _ _ h1;omega
  ·have:=hlt _ _ h2;omega
  ·rfl
 ·rintro x y (h1 | ⟨rfl,rfl⟩)
  ·exact h.fine.lo h1
  ·exact ⟨hG,h.room.2⟩
 ·rcases hxy with hxy | ⟨rfl,rfl⟩
  ·obtain ⟨o,O,h1,h2,h3⟩:=h.objs x y hxy hh
   exact ⟨o,O,h1,by rw [get,if_neg (Nat.ne_of_lt (hlt x y hxy))];exact h2,h3.mono (lC _ _ _)⟩
  ·have hh':H x=false:=hh
   rw [hH] at hh';cases hh'
 ·rcases hxy with hxy | ⟨rfl,rfl⟩
  ·obtain ⟨h1,h2,h3⟩:=h.hids x y hxy hh
   exact ⟨h1,fun e=>by rw [get,if_neg (Nat.ne_of_lt (hlt x y hxy))];exact h2 e,fun e=>by rw [get,if_neg (Nat.ne_of_lt (hlt x y hxy))];exact h3 e⟩
  ·exact ⟨hw,fun _=>⟨c,ty,f,by rw [get,if_pos rfl]⟩,fun e=>by have e':H.twin=true:=e;rw [htw] at e';cases e'⟩
end
end Go.Co
namespace Go.Proofs.YtgicaeombogkcaaGreat
open Go.RowKit Go.Iso Go.Co Go.Conc
def sink (kx tl:Nat->Bool) (w:World):World:={ w with heap:=w.heap.mapIdx fun b o=>if tl b then .coro none else if kx b then (match o with | .cells c t _=>.cells c t (0,c.size) | o=>o) else o }
theorem cZ (kx tl:Nat->Bool) (w:World):(sink kx tl w).heap.size=w.heap.size:=by simp [sink]
theorem iL {kx tl:Nat->Bool} {w:World} {b:Nat} (hb:b<w.heap.size) (h:tl b=true):(sink kx tl w).heap[b]?=some (.coro none):=by
 simp [sink,Array.getElem?_mapIdx,Array.getElem?_eq_getElem hb,h]
theorem ek {kx tl:Nat->Bool} {w:World} {b:Nat} {c:Array Value} {t:TypeId} {f:Nat×Nat} (hw:w.heap[b]?=some (.cells c t f)) (h:kx b=true) (h':tl b=false):(sink kx tl w).heap[b]?=some (.cells c t (0,c.size)):=by
 simp [sink,Array.getElem?_mapIdx,hw,h,h']
abbrev hidE (tl:Nat->Bool) (w:World):Hid:=⟨fun b=>tl b||b==w.heap.size,false,true⟩
abbrev kbE (kx tl:Nat->Bool) (w:World) (b:Nat):Prop:=kx b=true∨tl b=true∨b=w.heap.size∨b=w.heap.size+1∨b=w.heap.size+2
def startW (kx tl:Nat->Bool) (w:World) (cb:Nat) (p1:Value):World:=froze (froze ((((sink kx tl w).alloc (.coro none)).alloc (.cells #[.pointer (some ⟨cb,0,none⟩)] 80)).alloc (.cells #[p1] 93)) (w.heap.size+1)) (w.heap.size+2)
inductive Scal:Value->Prop
 | bool (b:Bool):Scal (.bool b)
 | int (k:IntKind) (n:Int):Scal (.int k n)
theorem Scal.rel {v V:Value} (h:Scal v) {S S':Par} {β β':Bij} (r:VRel S β v V):VRel S' β' v V:=by
 cases h with
 | bool b=>cases r;exact .bool b
 | int k n=>cases r;exact .int k n
def ScalObj (o:Obj):Prop:=∃ (l:List Value) (t:TypeId) (f:Nat×Nat),o=.cells l.toArray t f∧∀ v∈l,Scal v
theorem ScalObj.rel {o O:Obj} (h:ScalObj o) {S S':Par} {Ck Ck':Code->Prop} {β β':Bij} (r:ORel S Ck β o O):ORel S' Ck' β' o O:=by
 obtain ⟨l,t,f,rfl,hl⟩:=h
 cases r with
 | cells a z=>exact .cells ⟨a.size,fun i v V h1 h2=>(hl v (List.mem_of_getElem? (by simpa using h1))).rel (a.at_ i v V h1 h2)⟩ z
def ToyW (β:Bij) (tl:Nat->Bool) (oK:Nat->Obj) (W:World):Prop:=∀ b B,β b B->tl b=true->∃ O,W.heap[B]?=some O∧∀ (S:Par) (Ck:Code->Prop) (β':Bij),ORel S Ck β' (oK b) O
structure EachIn (SB SB0 BB:FuncId->Bool) (w:World) (kx tl:Nat->Bool) (Kc:Nat->Prop) (Ok:World->Prop) (cb sb n c:Nat) (f:Fn) (fx fc:Array Value) (sets kind:Nat->Int) (tpOf:Nat->Bool) (oK oE:Nat->Obj):Prop where
 hB:BB 49=true
 h93:BB 93=false
 s49:SB 49=true
 s92:SB 92=true
 L0:Both PQ SB0 SB0 BB 0
 b0:∀ f,SB0 f=true->BB f=true
 s82:SB0 82=true
 todo:∀ H K,LRel (IRel Tryz.prog SB H true true (idOn K)) (.inRegion o8 [] :: T8) (.inRegion o8 [] :: T8)
 only:dI (kbE kx tl w) Ok
 ok:Ok (startW kx tl w cb (.func f fx fc))
 box2:∀ w',Ok w'->w'.cell? ⟨w.heap.size+1,0,none⟩=some (.pointer (some ⟨cb,0,none⟩))
 hold:∀ w',Ok w'->w'.cell? ⟨cb,2,none⟩=some (.slice (some ⟨sb,0,none⟩) n c)∧∃ v,w'.cell? ⟨cb,0,none⟩=some v
 setsAt:∀ w' i,Ok w'->i<n->w'.cell? ⟨sb,i,none⟩=some (.int .u8 (sets i))
 camp:∀ w' b,Ok w'->Kc b->kx b=true∧∃ o,w'.heap[b]?=some o∧ORel (SP SB0 Hid.no) (CK Sq.prog SB0 false) (idOn Kc) o o
 cK:Kc cb
 ks:kx cb=true∧kx sb=true
 kxs:∀ b,kx b=true->tl b=false∧∃ (l:List Value) (t:TypeId) (g:Nat×Nat),w.heap[b]?=some (.cells l.toArray t g)∧(∀ i,g.1<=i->i<g.2->i<l.length)∧∀ v∈l,∀ H,InK SB H (fun b=>kx b=true∨tl b=true) v
 tls:∀ b,tl b=true->w.heap[b]?=some (oK b)∧ScalObj (oK b)∧ScalObj (oE b)
 hp1:∀ H,InK SB H (fun b=>kx b=true∨tl b=true) (.func f fx fc)
 wrap:∀ i,i<n->IntKind.i64.wrap ((i:Int)+1)=((i+1:Nat):Int)
 lapse:∀ w' i,Ok w'->i<n->∀ τ d,Calls Sq.prog 82 #[.pointer (some ⟨cb,0,none⟩),.pointer (some ⟨w'.heap.size,0,none⟩),.int .i64 0] (on (w'.alloc (first (sets i))) τ d) (fun e w2=>∃ v,e=.returned v∧((∃ y1 y2,v=.agg #[.int .i64 (kind i),.int .i64 y1,.int .i64 y2])∧Ext (w'.alloc (first (sets i))) w2))
 tp0:tpOf 0=true
 tpk:∀ i,i<n->kind i≠0->tpOf (i+1)=tpOf i
 which:∀ i,i<n->kind i=0->tpOf (i+1)=tpOf i∨(tpOf i=true∧tpOf (i+1)=false)
 plain:∀ i r w',i<n->kind i=0->tpOf (i+1)=tpOf i->Ok w'->¬ kbE kx tl w r->w'.heap[r]?=some (.cells #[.int .u8 (sets i),.int .u8 0,.int .u8 0,.int .u8 0,.int .u8 0] 91 (0,5)) ->
  KTr Tryz.prog BB (KidQ Tryz.prog w.heap.size fun _=>True) 0 (Go.Conc.G (Frame.enter Tryz.prog 92 (bi (w.heap.size+1) (w.heap.size+2) w.heap.size r) .deferred) [bad]) w'
 owner:∀ i r w',i<n->kind i=0->tpOf i=true->tpOf (i+1)=false->Ok w'->¬ kbE kx tl w r->w'.heap[r]?=some (.cells #[.int .u8 (sets i),.int .u8 0,.int .u8 0,.int .u8 0,.int .u8 0] 91 (0,5)) ->
  KTr Tryz.prog BB (KidQ Tryz.prog w.heap.size fun w2=>∀ b,tl b=true->w2.heap[b]?=some (oE b)) 0 (Go.Conc.G (Frame.enter Tryz.prog 92 (bi (w.heap.size+1) (w.heap.size+2) w.heap.size r) .deferred) [bad]) (relay tl oK w')
section
variable {SB SB0 BB:FuncId->Bool} {w:World} {kx tl:Nat->Bool} {Kc:Nat->Prop} {Ok:World->Prop} {cb sb n c:Nat} {f:Fn} {fx fc:Array Value} {sets kind:Nat->Int} {tpOf:Nat->Bool} {oK oE:Nat->Obj}
theorem EachIn.lt (I:EachIn SB SB0 BB w kx tl Kc Ok cb sb n c f fx fc sets kind tpOf oK oE) {b:Nat} (h:kx b=true∨tl b=true):b<w.heap.size:=by
 rcases h with h | h
 ·obtain ⟨_,_,_,_,h1,_⟩:=I.kxs b h
  exact (Array.getElem?_eq_some_iff.1 h1).1
 ·exact (Array.getElem?_eq_some_iff.1 (I.tls b h).1).1
def FnE (BB:FuncId->Bool) (tl:Nat->Bool) (w:World) (tp:Bool) (tp':Bool) (H:Hid) (g:Goroutine) (w':World):Prop:=tp'=tp∧H=hidE tl w∧Runs Tryz.prog (Fine Tryz.prog BB) (Iso.Left Tryz.prog 49 fun v _=>v=.tuple #[]) g w'
theorem qP {BB:FuncId->Bool} (hB:BB 49=true) {a:Act} {w':World} (hd:a.defers=[]):Runs Tryz.prog (Fine Tryz.prog BB) (Iso.Left Tryz.prog 49 fun v _=>v=.tuple #[]) (Go.Conc.G (((base 49).at a [.inRegion o10 [0]]).finish (.tuple #[])) [bad]) w' :=
 rX hB Iso.Left.same hd (by simp) fun a' ha'=>⟨w',.tuple #[],_,⟨rfl,rfl,rfl⟩,rfl,rfl,rfl,rfl,ha',rfl,Tryz.f49,Tryz.func49,results_none rfl _ _ _⟩
theorem EachIn.ctx (I:EachIn SB SB0 BB w kx tl Kc Ok cb sb n c f fx fc sets kind tpOf oK oE) (lib:∀ H,Lib PP SB H true BB 0) {L:Lib.WgLink} (Wl:Lib.WgLib Tryz.prog L) (h93:L.done=93) (hT:L.tWg=146) (hbar:Go.Co.Barred PP SB true L.done (Lib.doneFn L))
    {Wg:Nat} {β:Bij} {Pr:Bij} {T:List Frame} {Toy:Nat->Prop} (hToy:∀ b B,Pr b B->tl b=true->Toy B) (htlP:∀ b,tl b=true->∃ B,Pr b B) (hPK:∀ b B,Pr b B->kbE kx tl w b) (hPw:Pr w.heap.size Wg) (tnw:¬ Toy Wg) (hPβ:∀ b B,tl b=true->(Pr b B↔β b B)) :
    Ctx SB SB0 BB (hidE tl w) 0 Wg Toy (ToyW β tl oK) (ToyW β tl oE) Pr T (FnE BB tl w (tpOf n)) (kbE kx tl w) Kc Ok (w.heap.size+1) (w.heap.size+2) w.heap.size cb sb n c (.func f fx fc) sets kind tpOf:=by
  have hkb:kbE kx tl w (w.heap.size+1)∧kbE kx tl w (w.heap.size+2)∧kbE kx tl w w.heap.size:=⟨.inr (.inr (.inr (.inl rfl))),.inr (.inr (.inr (.inr rfl))),.inr (.inr (.inl rfl))⟩
  refine { hB := I.hB, s49 := I.s49, s92 := I.s92, L0 := I.L0, b0 := I.b0, s82 := I.s82, todo := fun K => I.todo _ K, twin := rfl, only := I.only, box2 := I.box2, setsAt := I.setsAt, camp := fun w' b h1 h2 => ?_, cK := I.cK,
           kb := ⟨hkb.1, hkb.2.1, hkb.2.2, .inl I.ks.1, .inl I.ks.2⟩, hp1 := ((I.hp1 _).mono fun b hb => hb.elim .inl fun h => .inr (.inl h)), wrap := I.wrap, lapse := I.lapse, tpk := I.tpk, fin := fun a w' hd _ => ⟨rfl, rfl, qP I.hB hd⟩,
           fins:=fun tp H g w1 W1 hs h=>⟨h.1,h.2.1,h.2.2.same (fun _ _ _ _ x=>x) Iso.Left.same hs⟩,go:=fun i hi hk K a r x X W ga=>?_ }
  · obtain ⟨h3,h4⟩:=I.camp w' b h1 h2
    exact ⟨.inl h3,h4⟩
  · have hm:=ga.moreHead I.only
    have hrk:¬ kbE kx tl w r:=fun h=>ga.rK.1 (ga.head.sub _ h)
    rcases I.which i hi hk with e | ⟨e1,e2⟩
    · rw [e]
      exact pD lib Wl h93 hT hbar I.only hkb hPw hPK ga I.h93 (I.plain i r _ hi hk e hm.ok hrk (cr ga.rb))
    · rw [e2]
      rw [e1] at ga ⊢
      refine pE (tl:=tl) (oK:=oK) (Ψk:=fun w2=>∀ b,tl b=true->w2.heap[b]?=some (oE b)) lib Wl h93 hT hbar I.only hkb hPw hPK ga hToy htlP (fun b h=>by simp [h]) tnw (fun W hW b B hb h=>hW b B ((hPβ b B h).1 hb) h) (fun x W hH hle hw hk b B hb h=>?_) I.h93 (I.owner i r _ hi hk e1 e2 hm.ok hrk (cr ga.rb))
      have hp:=hle b B ((hPβ b B h).2 hb)
      obtain ⟨o,O,h1,h2,h3⟩:=hw.objs b B hp (by rw [hH];simp [Hid.show,h])
      rw [hk b h] at h1;cases h1
      exact ⟨O,h2,fun S Ck β'=>(I.tls b h).2.2.rel h3⟩
end
end Go.Proofs.YtgicaeombogkcaaGreat
