/- What is proved: whatever the numbers, the law on those who watch too often answers true, and its argument reads as it did; its conditions are those of the given statement alone. -/
import Derived.Test.YtgicaeombogkcaaGreatP26
import Derived.Test.YtgicaeombogkcaaGreatP24
import Derived.Test.YtgicaeombogkcaaGreatP25
import Derived.Deep.RegionLaw
import Derived.Test.YtgicaeombogkcaaGreatRows
import Derived.Conc.HoldsTime
import Derived.Conc.LeavingOf
import Derived.ProofKit
set_option linter.all false
set_option maxHeartbeats 6400000
set_option maxRecDepth 1000000
namespace Go.Sq
open Go.RowKit
structure CO (w0:World) (hb B:Nat) (A:Option Addr) (cap:Nat) (l:List Int) (M base:Nat) (v:Value) (ns:List Int) (W:World):Prop where
 hand:Hand W hb B A cap l M
 qobj:W.heap[w0.heap.size+1]?=some (.cells #[v,.slice none 0 0] 25 (0,0))
 robj:W.heap[w0.heap.size]?=some (.cells #[.slice none 0 0,.slice none 0 0] 25 (0,0))
 own:W.ownsRow base 3 1 v ns.length (ns.map (Value.int .i64))
 kt:KT (·=hb) w0 W
 lt:hb<w0.heap.size
 bs:w0.heap.size+2<=base∧base<=W.heap.size
section
variable {w0 W W':World} {hb B:Nat} {A:Option Addr} {cap:Nat} {l:List Int} {M base:Nat} {v:Value} {ns:List Int}
theorem CO.drew (h:CO w0 hb B A cap l M base v ns W):CO w0 hb B A cap l M base v ns W.drew :=
 ⟨h.hand.gr (Gr.refl W).drew,h.qobj,h.robj,aH h.own fun _ _ _=>rfl,⟨h.kt.os,h.kt.tape,h.kt.output,Nat.le_succ_of_le h.kt.drawn,h.kt.size,h.kt.block⟩,h.lt,h.bs⟩
theorem CO.alloc (h:CO w0 hb B A cap l M base v ns W) (o:Obj):CO w0 hb B A cap l M base v ns (W.alloc o) :=
 ⟨h.hand.gr ((Gr.refl W).alloc o),(heap_alloc_old _ _ (Array.getElem?_eq_some_iff.1 h.qobj).1).trans h.qobj,(heap_alloc_old _ _ (Array.getElem?_eq_some_iff.1 h.robj).1).trans h.robj,h.own.alloc o,h.kt.trans (KT.of_gr ((Gr.refl W).alloc o)),h.lt,by have:=h.bs;simp;omega⟩
theorem CO.deal (h:CO w0 hb B A cap l M base v ns W) {M':Nat} (hh:Hand W' hb B A cap l M') (k:KT (·=hb) W W'):CO w0 hb B A cap l M' base v ns W' :=
 ⟨hh,(k.block _ (Array.getElem?_eq_some_iff.1 h.qobj).1 (by have:=h.lt;omega)).trans h.qobj,(k.block _ (Array.getElem?_eq_some_iff.1 h.robj).1 (by have:=h.lt;omega)).trans h.robj,kC h.own (by have:=h.lt;have:=h.bs;omega) k,h.kt.trans k,h.lt,by have:=h.bs;have:=k.size;omega⟩
theorem Hand.set {W:World} {hb B cap N:Nat} {A:Option Addr} {l:List Int} (h:Hand W hb B A cap l N) {p:Addr} (hp:hb<p.block) (x:Value):Hand (W.setCell p x) hb B A cap l N:=by
 obtain ⟨n,s,h1,h2⟩:=h.obj
 have hB:=h.apart
 exact ⟨⟨n,s,(Below.heap_setCell _ _ _ _ (by omega)).trans h1,h2⟩,h.nums.keep fun b o hb'=>World.cell?_of_block (Below.heap_setCell _ _ _ _ (by show b≠p.block;omega)),hB⟩
theorem KT.set {w0 W:World} {hb:Nat} (h:KT (·=hb) w0 W) {p:Addr} (hp:w0.heap.size<=p.block) (x:Value):KT (·=hb) w0 (W.setCell p x) :=
 ⟨h.os,h.tape,h.output,h.drawn,by have:=h.size;simpa [World.setCell] using this,fun b hb' hne=>(Below.heap_setCell _ _ _ _ (by omega)).trans (h.block b hb' hne)⟩
theorem CO.more (h:CO w0 hb B A cap l M base v ns W) {M':Nat} (hm:M<=M'):CO w0 hb B A cap l M' base v ns W:=⟨h.hand.more hm,h.qobj,h.robj,h.own,h.kt,h.lt,h.bs⟩
theorem CO.push (h:CO w0 hb B A cap l M base v ns W) {w6:World} {o:Obj} {v':Value} {z:Int} (hown:w6.ownsRow base 3 1 v' (ns++[z]).length ((ns++[z]).map (Value.int .i64))) (hg:(W.alloc o).grownBy w6 v.ownBlock) (hd:(W.alloc o).drawn<=w6.drawn) :
  CO w0 hb B A cap l M base v' (ns++[z]) (w6.setCell ⟨w0.heap.size+1,0,none⟩ v'):=by
 have hlt:=h.lt
 have hbs:=h.bs
 have hq:=(grown_old h.own hg (w0.heap.size+1) (by omega) (Array.getElem?_eq_some_iff.1 h.qobj).1).trans h.qobj
 have hr:=(grown_old h.own hg w0.heap.size (by omega) (Array.getElem?_eq_some_iff.1 h.robj).1).trans h.robj
 refine ⟨(cM h.hand h.own (by omega) hg).set (by show hb<w0.heap.size+1;omega) _,?_,(Below.heap_setCell _ _ _ _ (by simp)).trans hr,ownsRow_setCell_below hown (by show w0.heap.size+1<base;omega) _,(dN h.kt h.own (by omega) hg hd).set (by show _<=w0.heap.size+1;omega) _,hlt,hbs.1,by have:=eW hg;simp [World.setCell];omega⟩
 exact aE hq
theorem sV {W:World} {K:Nat->Prop} {a b:Int} (hK:K W.heap.size):RIK (W.alloc (.cells #[.int .i64 a,.int .i64 b] 3)) K (some ⟨W.heap.size,0,none⟩) [a,b]:=fun _=>⟨_,0,rfl,hK,fun i x hx=>by
 rw [World.cell?_alloc_at _ _ _ _ rfl]
 match i,hx with
 | 0,hx=>cases hx;rfl
 | 1,hx=>cases hx;rfl⟩
theorem sW {W:World} {K:Nat->Prop} {a:Int} (hK:K W.heap.size):RIK (W.alloc (.cells #[.int .i64 a] 3)) K (some ⟨W.heap.size,0,none⟩) [a]:=fun _=>⟨_,0,rfl,hK,fun i x hx=>by
 rw [World.cell?_alloc_at _ _ _ _ rfl]
 match i,hx with
 | 0,hx=>cases hx;rfl⟩
theorem CO.room (h:CO w0 hb B A cap l M base v ns W) (o:Obj):W.heap.size≠hb∧W.heap.size<(W.alloc o).heap.size:=by
 have:=h.hand.lt
 simp;omega
theorem CO.cell (h:CO w0 hb B A cap l M base v ns W):W.cell? ⟨w0.heap.size+1,0,none⟩=some v∧W.frozen? ⟨w0.heap.size+1,0,none⟩=false∧w0.heap.size+1<W.heap.size:=⟨(cell_of_heap h.qobj 0).1,(cell_of_heap h.qobj 0).2,(Array.getElem?_eq_some_iff.1 h.qobj).1⟩
theorem kD {W W':World} {K K':Nat->Prop} {A:Option Addr} {q:List Int} (h:RIK W K A q) (hk:∀ b,K b->K' b) (hc:∀ b o,K b->W'.cell? ⟨b,o,none⟩=W.cell? ⟨b,o,none⟩):RIK W' K' A q:=fun hn=>by
 obtain ⟨b,o,e,h1,h2⟩:=h hn
 exact ⟨b,o,e,hk b h1,fun i x hx=>(hc _ _ h1).trans (h2 i x hx)⟩
theorem qc {W W':World} {K K':Nat->Prop} {A:Option Addr} {q:List Herder} (h:HsAtK W K A q) (hk:∀ b,K b->K' b) (hc:∀ b o,K b->W'.cell? ⟨b,o,none⟩=W.cell? ⟨b,o,none⟩):HsAtK W' K' A q:=fun hn=>by
 obtain ⟨b,o,e,h1,h2⟩:=h hn
 refine ⟨b,o,e,hk b h1,fun i x hx=>?_⟩
 obtain ⟨k0,k1,k2,A',c,k3,k4⟩:=h2 i x hx
 exact ⟨(hc _ _ h1).trans k0,(hc _ _ h1).trans k1,(hc _ _ h1).trans k2,A',c,(hc _ _ h1).trans k3,kD k4 hk hc⟩
def fX (h:Herder) (y:Value):List Value:=[.int .i64 h.heads,.int .i64 h.dogs,.int .i64 h.most,y]
structure CP (w0:World) (hb B:Nat) (A:Option Addr) (cap:Nat) (l:List Int) (M base:Nat) (v:Value) (ns:List Int) (u:Value) (hs:List Herder) (xs:List Value) (W:World):Prop where
 hand:Hand W hb B A cap l M
 qobj:W.heap[w0.heap.size+1]?=some (.cells #[v,u] 25 (0,0))
 robj:W.heap[w0.heap.size]?=some (.cells #[.slice none 0 0,.slice none 0 0] 25 (0,0))
 own:W.ownsRow base 3 1 v ns.length (ns.map (Value.int .i64))
 herds:W.ownsRow base 54 4 u hs.length xs
 offs:∀ i h,hs[i]?=some h->∃ y,(∀ j,j<4->xs[i*4+j]?=(fX h y)[j]?)∧W.ownsRow base 3 1 y h.off.length (h.off.map (Value.int .i64))
 kt:KT (·=hb) w0 W
 lt:hb<w0.heap.size
 bs:w0.heap.size+2<=base∧base<=W.heap.size
variable {u:Value} {hs:List Herder} {xs:List Value}
theorem CO.cp (h:CO w0 hb B A cap l M base v ns W):CP w0 hb B A cap l M base v ns (.slice none 0 0) [] [] W :=
 ⟨h.hand,h.qobj,h.robj,h.own,World.ownsRow_nil _ _ _ _,fun i h hi=>by simp at hi,h.kt,h.lt,h.bs⟩
theorem CP.keep (h:CP w0 hb B A cap l M base v ns u hs xs W) {M':Nat} (hh:Hand W' hb B A cap l M') (hk:∀ b,b<W.heap.size->b≠hb->W'.heap[b]?=W.heap[b]?) (kt:KT (·=hb) w0 W') (hz:W.heap.size<=W'.heap.size):CP w0 hb B A cap l M' base v ns u hs xs W':=by
 have hlt:=h.lt
 have hbs:=h.bs
 have ok:∀ {e:TypeId} {sz n:Nat} {y:Value} {zs:List Value},W.ownsRow base e sz y n zs->W'.ownsRow base e sz y n zs:=fun ho=>aH ho fun g hg hl=>hk g hl (by have:=(ho.lt g hg).1;omega)
 refine ⟨hh,(hk _ (Array.getElem?_eq_some_iff.1 h.qobj).1 (by omega)).trans h.qobj,(hk _ (Array.getElem?_eq_some_iff.1 h.robj).1 (by omega)).trans h.robj,ok h.own,ok h.herds,fun i x hi=>?_,kt,hlt,by omega⟩
 obtain ⟨y,h1,h2⟩:=h.offs i x hi
 exact ⟨y,h1,ok h2⟩
theorem CP.deal (h:CP w0 hb B A cap l M base v ns u hs xs W) {M':Nat} (hh:Hand W' hb B A cap l M') (k:KT (·=hb) W W'):CP w0 hb B A cap l M' base v ns u hs xs W' :=
 h.keep hh (fun b hb' hne=>k.block b hb' hne) (h.kt.trans k) k.size
theorem CP.alloc (h:CP w0 hb B A cap l M base v ns u hs xs W) (o:Obj):CP w0 hb B A cap l M base v ns u hs xs (W.alloc o) :=
 h.keep (h.hand.gr ((Gr.refl W).alloc o)) (fun b hb' _=>heap_alloc_old _ _ hb') (h.kt.trans (KT.of_gr ((Gr.refl W).alloc o))) (by simp)
theorem CP.more (h:CP w0 hb B A cap l M base v ns u hs xs W) {M':Nat} (hm:M<=M'):CP w0 hb B A cap l M' base v ns u hs xs W:=⟨h.hand.more hm,h.qobj,h.robj,h.own,h.herds,h.offs,h.kt,h.lt,h.bs⟩
theorem CP.cell (h:CP w0 hb B A cap l M base v ns u hs xs W):W.cell? ⟨w0.heap.size+1,1,none⟩=some u∧W.frozen? ⟨w0.heap.size+1,1,none⟩=false∧w0.heap.size+1<W.heap.size:=⟨(cell_of_heap h.qobj 1).1,(cell_of_heap h.qobj 1).2,(Array.getElem?_eq_some_iff.1 h.qobj).1⟩
theorem CP.push (h:CP w0 hb B A cap l M base v ns u hs xs W) {w6:World} {o:Obj} {u' y:Value} {x:Herder} (hy:W.ownsRow base 3 1 y x.off.length (x.off.map (Value.int .i64))) (hown:w6.ownsRow base 54 4 u' (hs.length+1) (xs++fX x y)) (hg:(W.alloc o).grownBy w6 u.ownBlock) (hd:(W.alloc o).drawn<=w6.drawn) :
  CP w0 hb B A cap l M base v ns u' (hs++[x]) (xs++fX x y) (w6.setCell ⟨w0.heap.size+1,1,none⟩ u'):=by
 have hlt:=h.lt
 have hbs:=h.bs
 have hxl:xs.length=hs.length*4:=h.herds.1
 have hq:=(grown_old h.herds hg (w0.heap.size+1) (by omega) (Array.getElem?_eq_some_iff.1 h.qobj).1).trans h.qobj
 have hr:=(grown_old h.herds hg w0.heap.size (by omega) (Array.getElem?_eq_some_iff.1 h.robj).1).trans h.robj
 have ok:∀ {n:Nat} {z:Value} {zs:List Value},W.ownsRow base 3 1 z n zs->(w6.setCell ⟨w0.heap.size+1,1,none⟩ u').ownsRow base 3 1 z n zs:=fun ho=>aH ho fun g hg' hl =>
  (Below.heap_setCell _ _ _ _ (by have:=(ho.lt g hg').1;show g≠w0.heap.size+1;omega)).trans ((hg.block g (by simp;omega) (i9 (by decide) ho h.herds hg')).trans (heap_alloc_old _ _ hl))
 refine ⟨(cM h.hand h.herds (by omega) hg).set (by show hb<w0.heap.size+1;omega) _,?_,(Below.heap_setCell _ _ _ _ (by simp)).trans hr,ok h.own,?_,fun i z hi=>?_,(dN h.kt h.herds (by omega) hg hd).set (by show _<=w0.heap.size+1;omega) _,hlt,hbs.1,by have:=eW hg;simp [World.setCell];omega⟩
 ·exact aE hq
 ·rw [List.length_append]
  exact ownsRow_setCell_below hown (by show w0.heap.size+1<base;omega) _
 ·rcases Nat.lt_or_ge i hs.length with hi' | hi'
  ·rw [List.getElem?_append_left hi'] at hi
   obtain ⟨y',h1,h2⟩:=h.offs i z hi
   exact ⟨y',fun j hj=>by rw [List.getElem?_append_left (by omega)];exact h1 j hj,ok h2⟩
  ·have e : i = hs.length := by
    have:=(List.getElem?_eq_some_iff.1 hi).1
    simp at this;omega
   subst e
   rw [List.getElem?_append_right (Nat.le_refl _)] at hi
   simp at hi
   subst hi
   exact ⟨y,fun j hj=>by rw [List.getElem?_append_right (by omega),hxl];congr 1;omega,ok hy⟩
theorem CP.camp (h:CP w0 hb B A cap l M base v ns u hs xs W):∃ nA nc hA hc,v=.slice nA ns.length nc∧u=.slice hA hs.length hc∧RIK W (fun b=>base<=b∧b<W.heap.size) nA ns∧HsAtK W (fun b=>base<=b∧b<W.heap.size) hA hs:=by
 obtain ⟨nA,nc,e1,h1⟩:=RIK_of_own h.own
 rcases h.herds.2 with ⟨rfl,h0⟩ | ⟨g,hc,cur,rfl,hgb,hgo,_⟩
 ·have:hs=[]:=List.eq_nil_of_length_eq_zero h0
  subst this
  exact ⟨nA,nc,none,0,e1,rfl,h1,fun hn=>absurd rfl hn⟩
 ·refine ⟨nA,nc,some ⟨g,0,none⟩,hc,e1,rfl,h1,fun _=>⟨g,0,rfl,⟨hgb,(Array.getElem?_eq_some_iff.1 hgo).1⟩,fun i x hi=>?_⟩⟩
  obtain ⟨y,hj,ho⟩:=h.offs i x hi
  obtain ⟨A',c',rfl,hr⟩:=RIK_of_own ho
  have hcell:=h.herds.cells (g:=g) rfl
  have at_:∀ j z,j<4->(fX x (.slice A' x.off.length c'))[j]?=some z->W.cell? ⟨g,0+i*4+j,none⟩=some z:=fun j z hj4 hz=>by
   have:=hcell (i*4+j) z ((hj j hj4).trans hz)
   have e:(⟨g,0,none⟩:Addr).add (i*4+j)=⟨g,0+(i*4+j),none⟩:=by unfold Addr.add;split<;>simp_all
   rw [e,<- Nat.add_assoc] at this
   exact this
  exact ⟨at_ 0 _ (by omega) rfl,at_ 1 _ (by omega) rfl,at_ 2 _ (by omega) rfl,A',c',at_ 3 _ (by omega) rfl,hr⟩
end
end Go.Sq
namespace Go.Proofs.YtgicaeombogkcaaGreat
open Go.RowKit Go.Sq
theorem oS {w:World} {ops:Array Oper} {o:Oper} {a:Act} {K:Act->World->Prop} {Q:Exit->Act->World->Prop} {E:Prop} (hgd:o.guard=none) (h:Oper.wp Sq.prog o a w K Q):if Region.wanted o (yielded ops a.tmps)=true then Oper.wp Sq.prog o a w K Q else E:=by
 have hw:Region.wanted o (yielded ops a.tmps)=true:=by simp [Region.wanted,hgd]
 rw [if_pos hw];exact h
theorem mV {w:World} {ops:Array Oper} {o:Oper} {a:Act} {K:Act->World->Prop} {Q:Exit->Act->World->Prop} {E:Prop} (hgd:o.guard=none) (s x:Operand) (ho:o.op=.call { callee:=.builtin .append,args:=#[s,x],argTypes:=#[22,22] }) (hty:o.type=22)
  (base:Nat) (v:Value) (n:Nat) (xs:List Value) (hs:a.eval s=v) (hown:w.ownsRow base 3 1 v n xs) (y:Value) (h1:y.oneCell'=true) (hx:a.eval x=.slice (some ⟨w.heap.size,0,none⟩) 1 1) (hn:n<=1048576) (hbase:base<=w.heap.size)
  (h:∀ v' w',w'.ownsRow base 3 1 v' (n+1) (xs++[y])->(w.alloc (.cells #[y] 3)).grownBy w' v.ownBlock->(w.alloc (.cells #[y] 3)).drawn<=w'.drawn->K (a.put o.dst v') w') :
  if Region.wanted o (yielded ops a.tmps)=true then Oper.wp Sq.prog o a (w.alloc (.cells #[y] 3)) K Q else E:=by
 have hw:Region.wanted o (yielded ops a.tmps)=true:=by simp [Region.wanted,hgd]
 rw [if_pos hw]
 obtain ⟨i0,hi,hz0,hz1,hz2⟩:=info_parts Sq.info3
 obtain ⟨v',w',hr,h2,h3,h4⟩:=run_append_own (P:=Sq.prog) (w.alloc (.cells #[y] 3)) base 22 22 3 i0 _ 1 8 ((Sq.underlying 22).trans Tryz.underlying22) hi hz0 hz1 hz2 rfl (by decide) v n xs (hown.alloc _) ⟨w.heap.size,0,none⟩ 1 1 [y] rfl (fun j u hj=>by
  match j,hj with
  | 0,hj=>cases hj;rw [Addr.add_lit,World.cell?_alloc_at _ _ _ _ (by simp)];rfl) (fun u hu=>by simp at hu;subst hu;exact h1) (by unfold maxLen;omega) (by omega) (by simp;omega)
 have hd:=Go.Iso.drawn_mono Sq.prog (Builtin.append_ #[22,22] 22 #[v,.slice (some ⟨w.heap.size,0,none⟩) 1 1]) (w.alloc (.cells #[y] 3)) #[]
 rw [Sem.runT_fst,hr] at hd
 unfold Oper.wp execOp
 simp only [ho,resolve,invoke,builtin,Sem.run_bind,Sem.run_pure,Result.andThen_ok,List.map_toArray,List.map_cons,List.map_nil,hs,hx,hr,hty]
 exact h v' w' h2 h3 hd
theorem sP {w:World} {ops:Array Oper} {rest:List Oper} {o:Oper} {a:Act} {Q:Exit->Act->World->Prop} (hgd:o.guard=none) (s x:Operand) (ho:o.op=.call { callee:=.builtin .append,args:=#[s,x],argTypes:=#[23,23] })
  (base:Nat) (v:Value) (n:Nat) (xs:List Value) (hs:a.eval s=v) (hown:w.ownsRow base 54 4 v n xs) (ad:Addr) (c:Nat) (news:List Value) (hx:a.eval x=.slice (some ad) 1 c) (h4:news.length=4) (hc:∀ (j:Nat) (u:Value),news[j]?=some u->w.cell? (ad.add j)=some u) (h1:∀ u∈news,u.oneCell'=true)
  (hn:n<=1048576) (hbase:base<=w.heap.size) (h:∀ v' w',w'.ownsRow base 54 4 v' (n+1) (xs++news)->w.grownBy w' v.ownBlock->w.drawn<=w'.drawn->wpList Sq.prog ops Q rest (a.put o.dst v') w'):wpList Sq.prog ops Q (o :: rest) a w:=by
 obtain ⟨i0,hi,hz0,hz1,hz2⟩:=info_parts Sq.info54
 exact wpList_append_gr hgd s x 23 ho base 54 i0 _ 4 48 Sq.underlying23 hi hz0 hz1 hz2 rfl (by decide) v n xs hs hown ad 1 c news hx (by omega) hc h1 (by unfold maxLen;omega) (by omega) hbase h
theorem qd (hb B:Nat) (A:Option Addr) (cap:Nat) (l:List Int) (N:Nat) (w:World) (h:Hand w hb B A cap l N) (hN:N<=10000) :
  Calls Sq.prog 10 #[.pointer (some ⟨hb,0,none⟩),.int .i64 5,.int .i64 4] w fun e w'=>∃ c nA hA nc hc,e=.returned (campV nA hA c nc hc)∧c.Ok∧checkE c=0∧RIK w' (fun b=>w.heap.size<=b∧b<w'.heap.size) nA c.needs∧HsAtK w' (fun b=>w.heap.size<=b∧b<w'.heap.size) hA c.herders∧Hand w' hb B A cap l (N+1000)∧KH hb w w':=by
 obtain ⟨W0,hW0⟩:∃ W0:World,W0=(w.alloc (.cells #[.slice none 0 0,.slice none 0 0] 25)).alloc (.cells #[.slice none 0 0,.slice none 0 0] 25):=⟨_,rfl⟩
 have hg0:Gr w W0:=hW0▸((Gr.refl w).alloc _).alloc _
 have HZ0:Hid (W0.heap.size=w.heap.size+2):=Lib.hid (by rw [hW0];simp)
 have HH:=Lib.hid (h.gr hg0)
 have hlt:=h.lt
 have HW:=Lib.hid hW0
 have HG0:=Lib.hid hg0
 have HAM:=Lib.hid (dw hb B A cap l N 1 5 W0 (h.gr hg0) (by omega) (by omega) (by omega))
 have HCO0:Hid (CO w hb B A cap l N (w.heap.size+2) (.slice none 0 0) [] W0):=Lib.hid ⟨h.gr hg0,by rw [hW0];exact aK _ _ (by simp),by rw [hW0,heap_alloc_old _ _ (by simp)];exact heap_alloc_new _ _,World.ownsRow_nil _ _ _ _,⟨hg0.below.os,hg0.below.tape,hg0.below.output,hg0.drawn,hg0.size,fun b hb' _=>hg0.below.block b hb'⟩,hlt,by rw [hW0];simp⟩
 clear hW0 hg0 h
 go_enter Sq.func10,Tryz.ntmps10
 go_wp2_with fail
 rw [<- HW.out]
 refine HAM.out.mono ?_
 rintro e w1 ⟨⟨n,rfl,hn1,hn5⟩,hh,hkt⟩
 have HCO1:=Lib.hid (HCO0.out.deal hh hkt)
 clear hh hkt HAM
 go_wp2
 go_loopw [9] (fun i wr=>∃ k:Nat,k<=n∧i=.int .i64 k∧∃ v ns,CO w hb B A cap l (N+1+4*k) (w.heap.size+2) v ns wr∧ns.length=k∧∀ x∈ns,0<=x∧x<=12) (fun i _=>n - (intOf i).toNat)
 case atStart=>exact ⟨0,by omega,rfl,_,[],HCO1.out,rfl,fun x hx=>by simp at hx⟩
 case round =>
  obtain ⟨k,hk,rfl,v,ns,HCO,hnl,hns⟩:=hrel
  have HNS:=Lib.hid hns
  clear hns
  by_cases hlk:k<n
  ·obtain ⟨c0,f0,l0⟩:=HCO.drew.cell
   obtain ⟨c9,f9,l9⟩:=HCO.cell
   replace HCO:=Lib.hid HCO.drew
   go_wp2
   clear c9 f9 l9
   go_region_law (first
    | (refine mV (by rfl) _ _ (by rfl) (by rfl) (w.heap.size+2) _ _ _ (by rfl) HCO.out.own (.int .i64 z) rfl (by rfl) (by omega) HCO.out.bs.2 ?_;intro v' w6 hown6 hgrow6 hd6;clear c0 f0 l0;have hq6:=(grown_old HCO.out.own hgrow6 (w.heap.size+1) (by omega) (Array.getElem?_eq_some_iff.1 HCO.out.qobj).1).trans HCO.out.qobj;have c6:=(cell_of_heap hq6 0).1;have f6:=(cell_of_heap hq6 0).2;have hown7:w6.ownsRow (w.heap.size+2) 3 1 v' (ns++[z]).length ((ns++[z]).map (Value.int .i64)):=(by simpa using hown6);obtain ⟨A6,k6,hv6,_⟩:=RI.of_own hown7;subst hv6)
    | (refine oS (by rfl) ?_;go_simp;first
     | (go_at_call 21;refine (iz hb B A cap l _ _ _ HCO.out.hand (by omega) (by omega)).mono ?_;rintro e w' ⟨⟨q,rfl,hq⟩,hh,hkt⟩;replace HCO:=Lib.hid (HCO.out.deal hh hkt);clear c0 f0 l0 hh hkt;obtain ⟨c0,f0,l0⟩:=HCO.out.cell;dsimp only)
     | (go_at_call 45;refine (kB hb B A _ cap 2 l [_,_] _ _ _ (HCO.out.alloc _).hand (by omega) (by simp) (sV (HCO.out.room _))).mono ?_;rintro e w' ⟨⟨z,rfl,hz⟩,hh,hkt⟩;have hz12:0<=z∧z<=12:=(by simp only [List.mem_cons,List.not_mem_nil,or_false] at hz;omega);replace HCO:=Lib.hid ((HCO.out.alloc _).deal hh hkt);clear c0 f0 l0 hh hkt;have HZ:=Lib.hid hz12;obtain ⟨c0,f0,l0⟩:=HCO.out.cell;dsimp only)))
   all_goals
    have HCO9:=Lib.hid ((HCO.out.push hown7 hgrow6 hd6).more (M':=N+1+4*(k+1)) (by omega))
    have hl9:(ns++[z]).length=k+1:=by simp [hnl]
    rw [hl9] at HCO9
    have HNS9:Hid (∀ x∈ns++[z],0<=x∧x<=12):=Lib.hid fun x hx=>by
     rcases List.mem_append.1 hx with hx | hx
     ·exact HNS.out x hx
     ·simp only [List.mem_cons,List.not_mem_nil,or_false] at hx
      subst hx;exact HZ.out
    clear hown7 hgrow6 hd6 hown6 HCO c6 f6 hq6
    go_wp2
    go_roundw
    case rel=>exact ⟨k+1,by omega,by go_num,_,_,HCO9.out,hl9,HNS9.out⟩
    case measure=>simp [intOf];omega
  ·have hkn:k=n:=by omega
   subst hkn
   have HCP:=Lib.hid (HCO.cp.more (M':=N+30) (by omega))
   have HAM2:=Lib.hid (dw hb B A cap l (N+30) 1 4 wr HCP.out.hand (by omega) (by omega) (by omega))
   clear HCO
   go_wp2_with fail
   refine HAM2.out.mono ?_
   rintro e w2 ⟨⟨m,rfl,hm1,hm4⟩,hh,hkt⟩
   have HCP2:=Lib.hid (HCP.out.deal hh hkt)
   clear hh hkt HAM2 HCP
   go_wp2
   go_loopw [10] (fun i wr=>∃ j:Nat,j<=m∧i=.int .i64 j∧∃ u hs xs,CP w hb B A cap l (N+31+20*(m - j)) (w.heap.size+2) v ns u hs xs wr∧hs.length=m - j∧∀ h∈hs,herdE ns.length h=0) (fun i _=>(intOf i).toNat)
   case atStart=>exact ⟨m,by omega,rfl,_,[],[],HCP2.out.more (by omega),by simp,fun h hh=>by simp at hh⟩
   case round =>
    obtain ⟨wq,rfl⟩:∃ wq,wq=wr:=⟨_,rfl⟩
    obtain ⟨j,hj,rfl,u,hs,xs,hcp,hhl,hhs⟩:=hrel
    have HP:=Lib.hid hcp
    have HHS:=Lib.hid hhs
    clear hcp hhs
    by_cases hj0:0<j
    ·have HA1:=Lib.hid (dw hb B A cap l _ 1 6 wq HP.out.hand (by omega) (by omega) (by omega))
     go_wp2_with fail
     refine HA1.out.mono ?_
     rintro e v1 ⟨⟨a1,rfl,ha1,hb1⟩,hh,hkt⟩
     have HP1:=Lib.hid (HP.out.deal hh hkt)
     have HA2:=Lib.hid (dw hb B A cap l _ 1 40 v1 hh (by omega) (by omega) (by omega))
     clear hh hkt HA1
     go_wp2_with fail
     refine HA2.out.mono ?_
     rintro e v2 ⟨⟨a2,rfl,ha2,hb2⟩,hh,hkt⟩
     have HP2:=Lib.hid (HP1.out.deal hh hkt)
     have hhl2:=hh.lt
     have HA3:=Lib.hid (kB hb B A (some ⟨v2.heap.size,0,none⟩) cap 1 l [(a2:Int)] _ a1 (v2.alloc (.cells #[.int .i64 a2] 3)) (HP2.out.alloc _).hand (by omega) (by simp) (sW (by simp;omega)))
     clear hh hkt HA2
     go_wp2_with fail
     refine HA3.out.mono ?_
     rintro e v3 ⟨⟨a3,rfl,ha3⟩,hh,hkt⟩
     have h340:1<=a3∧a3<=40:=by simp only [List.mem_cons,List.not_mem_nil,or_false] at ha3;omega
     have HP3:=Lib.hid ((HP2.out.alloc _).deal hh hkt)
     have HA4:=Lib.hid (dw hb B A cap l _ 1 5 v3 hh (by omega) (by omega) (by omega))
     clear hh hkt HA3
     go_wp2_with fail
     refine HA4.out.mono ?_
     rintro e v4 ⟨⟨a4,rfl,ha4,hb4⟩,hh,hkt⟩
     have HP4:=Lib.hid (HP3.out.deal hh hkt)
     have HA5:=Lib.hid (dw hb B A cap l _ 0 3 v4 hh (by omega) (by omega) (by omega))
     clear hh hkt HA4
     go_wp2_with fail
     refine HA5.out.mono ?_
     rintro e v5 ⟨⟨a5,rfl,ha5,hb5⟩,hh,hkt⟩
     have HP5:=Lib.hid ((HP4.out.deal hh hkt).more (M':=N+31+20*(m - j)+5) (by omega))
     have hlt5:=hh.lt
     clear hh hkt HA5 HP HP1 HP2 HP3 HP4
     obtain ⟨vX,hvX⟩:∃ vX:World,vX=v5.alloc (.cells #[.int .i64 a3,.int .i64 a4,.int .i64 a5,.slice none 0 0] 54):=⟨_,rfl⟩
     have HX0:Hid (vX.heap[v5.heap.size]?=some (.cells #[.int .i64 a3,.int .i64 a4,.int .i64 a5,.slice none 0 0] 54 (0,0))):=Lib.hid (by rw [hvX];exact heap_alloc_new _ _)
     have HPX:=Lib.hid (hvX▸HP5.out.alloc (.cells #[.int .i64 a3,.int .i64 a4,.int .i64 a5,.slice none 0 0] 54))
     have HZX:Hid (vX.heap.size=v5.heap.size+1):=Lib.hid (by rw [hvX];simp)
     have HKX:Hid (KT (·=hb) v5 vX):=Lib.hid (hvX▸KT.of_gr ((Gr.refl v5).alloc _))
     have HVX:=Lib.hid hvX
     clear hvX
     go_wp2
     rw [<- HVX.out]
     go_loopw [12] (fun i wr=>∃ t:Nat,t<=k∧i=.int .i64 t∧∃ y p,KT (·=hb) v5 wr∧Hand wr hb B A cap l (N+31+20*(m - j)+5+t)∧wr.heap[v5.heap.size]?=some (.cells #[.int .i64 a3,.int .i64 a4,.int .i64 a5,y] 54 (0,0))∧wr.ownsRow (v5.heap.size+1) 3 1 y (chosen p t).length ((chosen p t).map (Value.int .i64))) (fun i _=>k - (intOf i).toNat)
     case atStart=>exact ⟨0,by omega,rfl,_,fun _=>false,HKX.out,HPX.out.hand,HX0.out,World.ownsRow_nil _ _ _ _⟩
     case round =>
      obtain ⟨t,ht,rfl,y,p,hkt,hh,hxo,hown⟩:=hrel
      have HK:=Lib.hid hkt
      have HO:=Lib.hid hown
      have HXO:=Lib.hid hxo
      have hzw:=hkt.size
      have hXl:=(Array.getElem?_eq_some_iff.1 hxo).1
      by_cases htk:t<k
      ·have HOD:=Lib.hid (oL hb B A cap l _ 1 6 wr hh (by omega) (by omega))
       clear hh hkt hown hxo
       go_wp2_with fail
       refine HOD.out.mono ?_
       rintro e w8 ⟨⟨bo,rfl⟩,hh,hkt⟩
       have hXne:v5.heap.size≠hb:=by omega
       have HK8:=Lib.hid (HK.out.trans hkt)
       have hown8:=kC HO.out (show hb<v5.heap.size+1 by omega) hkt
       have hx8:=(hkt.block _ hXl hXne).trans HXO.out
       have HX8:=Lib.hid hx8
       have c8:=(cell_of_heap hx8 3).1
       have f8:=(cell_of_heap hx8 3).2
       have hXl8:=(Array.getElem?_eq_some_iff.1 hx8).1
       have HH8:=Lib.hid hh
       have HO8:=Lib.hid hown8
       obtain ⟨p2,hp2⟩:∃ p2:Nat->Bool,p2=fun q=>if q=t then bo else p q:=⟨_,rfl⟩
       have HP:=Lib.hid (cW p2 t)
       have HPT:Hid (p2 t=bo):=Lib.hid (by rw [hp2];simp)
       have HP0:=Lib.hid (fP (p:=p2) (q:=p) (k:=t) fun i hi=>by rw [hp2];exact if_neg (by omega))
       clear hp2
       have hcl:=cL p t
       have hz8:=HK8.out.size
       have hZX:=HZX.out
       clear hkt hh HOD hx8
       obtain ⟨yA,yc,hyv,_⟩:=RI.of_own hown8
       subst hyv
       cases bo with
       | true =>
        clear hZX
        go_wp2_with (at_builtin;refine ij rfl _ _ rfl (v5.heap.size+1) _ _ _ rfl (hown8.alloc _) ⟨w8.heap.size,0,none⟩ 1 (.int .i64 t) rfl ?c1 rfl ?c2 ?c3 ?_)
        case c1=>first | (rw [Addr.add_lit,World.cell?_alloc_at _ _ _ _ (by simp)];rfl) | (rw [World.cell?_alloc_at _ _ _ _ (by simp)];rfl)
        case c2=>omega
        case c3=>simp;omega
        intro v' w9 hown' hgrow hd
        have hown9:w9.ownsRow (v5.heap.size+1) 3 1 v' (chosen p2 (t+1)).length ((chosen p2 (t+1)).map (Value.int .i64)):=by
         rw [HP.out,HP0.out,if_pos HPT.out];simpa using hown'
        obtain ⟨A9,c9,hv9,_⟩:=RI.of_own hown9
        subst hv9
        have hx9:=(grown_old HO8.out hgrow v5.heap.size (by omega) hXl8).trans HX8.out
        have d9:=(cell_of_heap hx9 3).1
        have g9:=(cell_of_heap hx9 3).2
        have hl9:(chosen p t).length+1=(chosen p2 (t+1)).length:=by rw [HP.out,HP0.out,if_pos HPT.out];simp
        have HK9:=Lib.hid ((dN HK8.out HO8.out (by omega) hgrow hd).set (p:=⟨v5.heap.size,3,none⟩) (Nat.le_refl _) (.slice A9 (chosen p2 (t+1)).length c9))
        have HH9:=Lib.hid (((cM HH8.out HO8.out (by omega) hgrow).set (p:=⟨v5.heap.size,3,none⟩) hlt5 (.slice A9 (chosen p2 (t+1)).length c9)).more (M:=N+31+20*(m - j)+5+(t+1)) (by omega))
        have HX9:=Lib.hid (aE (i:=3) (u:=.slice A9 (chosen p2 (t+1)).length c9) hx9)
        have HO9:=Lib.hid (ownsRow_setCell_below hown9 (show (⟨v5.heap.size,3,none⟩:Addr).block<v5.heap.size+1 from Nat.lt_succ_self _) (.slice A9 (chosen p2 (t+1)).length c9))
        clear hown' hgrow hd hown9 hown8 hx9
        go_wp2
        go_roundw
        case rel=>exact ⟨t+1,by omega,by go_num,_,_,HK9.out,HH9.out,HX9.out,HO9.out⟩
        case measure=>simp [intOf];omega
       | false =>
        have HO9:Hid (w8.ownsRow (v5.heap.size+1) 3 1 (.slice yA (chosen p t).length yc) (chosen p2 (t+1)).length ((chosen p2 (t+1)).map (Value.int .i64))):=Lib.hid (by
         rw [HP.out,HP0.out,if_neg (by rw [HPT.out];simp)];simpa using HO8.out)
        clear hown8
        go_wp2
        go_roundw
        case rel=>exact ⟨t+1,by omega,by go_num,_,_,HK8.out,HH8.out,HX8.out,HO9.out⟩
        case measure=>simp [intOf];omega
      ·have htk2:t=k:=by omega
       subst htk2
       have HH9:=Lib.hid hh
       obtain ⟨yA,yc,hyv,_⟩:=RI.of_own hown
       subst hyv
       have HPE:=Lib.hid (HP5.out.deal hh hkt)
       obtain ⟨cu,fu,lu⟩:=HPE.out.cell
       have x0:=(cell_of_heap hxo 0).1
       have x1:=(cell_of_heap hxo 1).1
       have x2:=(cell_of_heap hxo 2).1
       have x3:=(cell_of_heap hxo 3).1
       have hh54:=HPE.out.herds
       have HOE:=Lib.hid (dK hown (show w.heap.size+2<=v5.heap.size+1 by have:=HP5.out.bs;omega))
       clear hh hkt hown hxo
       go_wp2_with (at_builtin;refine sP rfl _ _ rfl (w.heap.size+2) _ _ _ rfl (hh54.alloc _) ⟨wr.heap.size,0,none⟩ 1 [.int .i64 a3,.int .i64 a4,.int .i64 a5,.slice yA (chosen p t).length yc] rfl rfl ?c1 ?c2 ?c3 ?c4 ?_)
       case c1 =>
        intro q z hq
        rw [Addr.add_lit,Nat.zero_add,World.cell?_alloc_at _ _ _ _ (by simp)]
        match q,hq with
        | 0,hq=>exact hq
        | 1,hq=>exact hq
        | 2,hq=>exact hq
        | 3,hq=>exact hq
        | q+4,hq=>simp at hq
       case c2=>intro z hz;simp at hz;rcases hz with rfl | rfl | rfl | rfl<;>rfl
       case c3=>omega
       case c4=>have:=HPE.out.bs.2;simp;omega
       intro u' w9 hown' hgrow hd
       obtain ⟨gU,cU,rfl,_,_⟩:=hown'.form (by omega)
       have HPN:=Lib.hid (HPE.out.push (x:=⟨a3,a4,a5,chosen p t⟩) HOE.out (by rw [hhl];exact hown') hgrow hd)
       have hq9:=(grown_old HPE.out.herds hgrow (w.heap.size+1) (by omega) (Array.getElem?_eq_some_iff.1 HPE.out.qobj).1).trans HPE.out.qobj
       have cq:=(cell_of_heap hq9 1).1
       have fq:=(cell_of_heap hq9 1).2
       have HHN:Hid (∀ h∈hs++[(⟨a3,a4,a5,chosen p t⟩:Herder)],herdE ns.length h=0):=Lib.hid fun h hh=>by
        rcases List.mem_append.1 hh with hh | hh
        ·exact HHS.out h hh
        ·simp only [List.mem_cons,List.not_mem_nil,or_false] at hh
         subst hh
         unfold herdE
         rw [if_pos (by simp [inR];omega),hnl]
         exact ji p t
       clear hown' hgrow hd hh54 hq9
       go_wp2
       go_roundw
       case rel=>exact ⟨j - 1,by omega,by go_num,_,_,_,HPN.out.more (by omega),by simp [hhl];omega,HHN.out⟩
       case measure=>simp [intOf];omega
    ·have hj00:j=0:=by omega
     subst hj00
     obtain ⟨nA,nc,hA,hc,rfl,rfl,hN1,hH1⟩:=HP.out.camp
     have HR1:=Lib.hid hN1
     have HR2:=Lib.hid hH1
     have q0:=(cell_of_heap HP.out.qobj 0).1
     have q1:=(cell_of_heap HP.out.qobj 1).1
     have r0:=(cell_of_heap HP.out.robj 0).1
     have r1:=(cell_of_heap HP.out.robj 1).1
     have g0:=(cell_of_heap HP.out.robj 0).2
     have g1:=(cell_of_heap HP.out.robj 1).2
     have HCE:Hid (checkE ⟨ns,hs⟩=0):=Lib.hid (by
      unfold checkE
      have e1:manyE (ns.length:Int) 1 5=0:=cg.2 (by omega)
      have e2:manyE (hs.length:Int) 1 4=0:=cg.2 (by omega)
      rw [if_neg (by simp [e1]),if_neg,if_neg (by simp [e2])]
      ·exact bt.2 fun x hx => by
        obtain ⟨h,hh,rfl⟩:=List.mem_map.1 hx
        exact HHS.out h hh
      ·have : (ns.all fun x => inR x 0 12) = true := List.all_eq_true.2 fun x hx => by
        have:=HNS.out x hx
        simp [inR];omega
       rw [this];simp)
     have hhm:hs.length=m:=by omega
     have HKF:Hid (KT (·=hb) w ((wq.setCell ⟨w.heap.size,0,none⟩ (.slice nA k nc)).setCell ⟨w.heap.size,1,none⟩ (.slice hA m hc))):=Lib.hid ((HP.out.kt.set (p:=⟨w.heap.size,0,none⟩) (Nat.le_refl _) _).set (p:=⟨w.heap.size,1,none⟩) (Nat.le_refl _) _)
     have HHF:Hid (Hand ((wq.setCell ⟨w.heap.size,0,none⟩ (.slice nA k nc)).setCell ⟨w.heap.size,1,none⟩ (.slice hA m hc)) hb B A cap l (N+1000)):=Lib.hid (((HP.out.hand.set (p:=⟨w.heap.size,0,none⟩) hlt _).set (p:=⟨w.heap.size,1,none⟩) hlt _).more (by omega))
     have HRF:Hid (RIK ((wq.setCell ⟨w.heap.size,0,none⟩ (.slice nA k nc)).setCell ⟨w.heap.size,1,none⟩ (.slice hA m hc)) (fun b=>w.heap.size<=b∧b<((wq.setCell ⟨w.heap.size,0,none⟩ (.slice nA k nc)).setCell ⟨w.heap.size,1,none⟩ (.slice hA m hc)).heap.size) nA ns):=Lib.hid (kD hN1 (fun b hb'=>⟨by omega,by have:=hb'.2;simpa [World.setCell] using this⟩) fun b o hb'=>(World.cell?_of_block (Below.heap_setCell _ _ _ _ (by show b≠w.heap.size;omega))).trans (World.cell?_of_block (Below.heap_setCell _ _ _ _ (by show b≠w.heap.size;omega))))
     have HRG:Hid (HsAtK ((wq.setCell ⟨w.heap.size,0,none⟩ (.slice nA k nc)).setCell ⟨w.heap.size,1,none⟩ (.slice hA m hc)) (fun b=>w.heap.size<=b∧b<((wq.setCell ⟨w.heap.size,0,none⟩ (.slice nA k nc)).setCell ⟨w.heap.size,1,none⟩ (.slice hA m hc)).heap.size) hA hs):=Lib.hid (qc hH1 (fun b hb'=>⟨by omega,by have:=hb'.2;simpa [World.setCell] using this⟩) fun b o hb'=>(World.cell?_of_block (Below.heap_setCell _ _ _ _ (by show b≠w.heap.size;omega))).trans (World.cell?_of_block (Below.heap_setCell _ _ _ _ (by show b≠w.heap.size;omega))))
     clear hN1 hH1
     go_wp2
     have s1:=World.cell?_setCell_same (wq.setCell ⟨w.heap.size,0,none⟩ (.slice nA k nc)) ⟨w.heap.size,1,none⟩ (.slice hA m hc) ((World.cell?_setCell_other wq ⟨w.heap.size,0,none⟩ ⟨w.heap.size,1,none⟩ (.slice nA k nc) (by simp)).trans r1)
     have s0:=(World.cell?_setCell_other (wq.setCell ⟨w.heap.size,0,none⟩ (.slice nA k nc)) ⟨w.heap.size,1,none⟩ ⟨w.heap.size,0,none⟩ (.slice hA m hc) (by simp)).trans (World.cell?_setCell_same wq ⟨w.heap.size,0,none⟩ (.slice nA k nc) r0)
     refine bodyPost_ret (v:=.agg #[.slice nA k nc,.slice hA m hc]) (by simp [results,Tryz.results10,go_sem,s0,s1]) rfl ⟨⟨ns,hs⟩,nA,hA,nc,hc,by rw [<- hnl,<- hhm];rfl,Camp.Ok.of HCE.out,HCE.out,HRF.out,HRG.out,HHF.out,HKF.out⟩
open Go.RowKit Go.Sq
open Go.Iso (bY iu gm)
theorem _root_.Go.Iso.goesTo_seq_k {P:Program} {l c r:Code} {N:Act->World->Prop} {a:Act} {w:World} (h:∀ K:Act->World->Prop,(∀ a w,bY P l r N a w->K a w)->c.wp P (Exit.then K fun _ _ _=>False) a w):bY P l (.seq c r) N a w :=
 iu (h _ fun _ _ h=>h)
def cSnd:Code->Code
 | .seq _ c=>c
 | c=>c
def cFst:Code->Code
 | .seq c _=>c
 | c=>c
def cDrop:Nat->Code->Code
 | 0,c=>c
 | n+1,c=>cDrop n (cSnd c)
noncomputable def aI:Code:=Tryz.f7.body.getD .skip
noncomputable def q7 (n:Nat):Code:=cFst (cDrop n aI)
noncomputable def iC:Code:=cDrop 10 aI
theorem qe:aI=.seq (q7 0) (.seq (q7 1) (.seq (q7 2) (.seq (q7 3) (.seq (q7 4) (.seq (q7 5) (.seq (q7 6) (.seq (q7 7) (.seq (q7 8) (.seq (q7 9) iC))))))))):=rfl
theorem _root_.Go.Sq.RI.on {w w':World} {A:Option Addr} {l:List Int} (h:RI w w.heap.size A l) (hg:Gr w w'):RI w' w'.heap.size A l:=(h.gr (Nat.le_refl _) hg).more hg.size
structure Made (c:Camp) (nA hA gA:Option Addr) (cb:Nat) (nc hc:Nat) (ls:List (List Int)) (W:World):Prop where
 lt:cb<W.heap.size
 c0:W.cell? ⟨cb,0,none⟩=some (.slice nA c.needs.length nc)
 c1:W.cell? ⟨cb,1,none⟩=some (.slice hA c.herders.length hc)
 needs:RI W W.heap.size nA c.needs
 herds:HsAt W W.heap.size hA c.herders
 grid:GrAt W W.heap.size gA ls
theorem Made.gr {c:Camp} {nA hA gA:Option Addr} {cb nc hc:Nat} {ls:List (List Int)} {W W':World} (h:Made c nA hA gA cb nc hc ls W) (hg:Gr W W'):Made c nA hA gA cb nc hc ls W' :=
 ⟨Nat.lt_of_lt_of_le h.lt hg.size,(hg.cell (p:=⟨cb,0,none⟩) h.lt).trans h.c0,(hg.cell (p:=⟨cb,1,none⟩) h.lt).trans h.c1,(h.needs.gr (Nat.le_refl _) hg).more hg.size,(h.herds.keep fun _ _ hb=>hg.cell hb).more hg.size,(h.grid.gr (Nat.le_refl _) hg).more hg.size⟩
theorem oT (A:Option Addr) (cap:Nat) (l:List Int) (w:World) (h:RI w w.heap.size A l) (tmps:Array Value) (ht:tmps=#[Value.slice A l.length cap]++Array.replicate 110 undef) :
  bY Sq.prog iC aI (fun a _=>a.tmps.size=111∧a.defers=[]) ⟨tmps,[]⟩ w:=by
 have HNH:=Lib.hid (oM A cap l w h)
 clear h
 rw [qe]
 subst ht
 simp only [Array.replicate_succ,Array.replicate_zero,List.push_toArray,List.append_toArray,List.nil_append,List.cons_append]
 refine Go.Iso.goesTo_seq_k fun K hK=>?_
 have ez:q7 0=cFst (cDrop 0 aI):=rfl
 simp only [cDrop,aI,Tryz.f7,Option.getD_some,cSnd,cFst] at ez
 rw [ez]
 clear ez
 go_wp2
 refine Go.Iso.goesTo_seq_k fun K hK=>?_
 have ez:q7 1=cFst (cDrop 1 aI):=rfl
 simp only [cDrop,aI,Tryz.f7,Option.getD_some,cSnd,cFst] at ez
 rw [ez]
 clear ez
 go_wp2_with fail
 refine HNH.out.mono ?_
 rintro e w1 ⟨rfl,hh1,hg1⟩
 have HCO:=Lib.hid (qd _ _ A cap l 0 w1 hh1 (by omega))
 have hlt1:=hh1.lt
 clear hh1 hg1 HNH
 go_wp2
 refine Go.Iso.goesTo_seq_k fun K hK=>?_
 have ez:q7 2=cFst (cDrop 2 aI):=rfl
 simp only [cDrop,aI,Tryz.f7,Option.getD_some,cSnd,cFst] at ez
 rw [ez]
 clear ez
 go_wp2_with fail
 refine HCO.out.mono ?_
 rintro e w2 ⟨c,nA,hA,nc,hc,rfl,hok,hck,hneed,hherd,hh2,hkh2⟩
 have HOK:=Lib.hid hok
 have HCK:=Lib.hid hck
 obtain ⟨W2,hW2⟩:∃ W2:World,W2=w2.alloc (.cells #[.slice nA c.needs.length nc,.slice hA c.herders.length hc] 25):=⟨_,rfl⟩
 have hz2:=hkh2.size
 have HN2:=Lib.hid hneed
 have HH2:=Lib.hid hherd
 have HZ2:Hid (W2.heap.size=w2.heap.size+1):=Lib.hid (by rw [hW2];simp)
 have HCB:Hid (W2.cell? ⟨w2.heap.size,0,none⟩=some (.slice nA c.needs.length nc)∧W2.cell? ⟨w2.heap.size,1,none⟩=some (.slice hA c.herders.length hc)):=Lib.hid (by
  rw [hW2,World.cell?_alloc_at _ _ _ _ rfl,World.cell?_alloc_at _ _ _ _ rfl];exact ⟨rfl,rfl⟩)
 have hgw2:Gr w2 W2:=hW2▸(Gr.refl w2).alloc _
 have HGW2:=Lib.hid hgw2
 have HRO:=Lib.hid (mQ _ _ A nA hA cap nc hc l 1000 c.needs.length c.herders.length W2 ((hh2.gr hgw2).more (by omega)) (by omega) (by have:=HOK.out.n5;omega) (by have:=HOK.out.h4;omega))
 have HW2:=Lib.hid hW2
 unfold campV
 clear HCO hneed hherd hh2 hkh2 hok hck hW2 hgw2
 go_wp2
 rw [<- HW2.out]
 obtain ⟨hcb0,hcb1⟩:=HCB.out
 refine Go.Iso.goesTo_seq_k fun K hK=>?_
 have ez:q7 3=cFst (cDrop 3 aI):=rfl
 simp only [cDrop,aI,Tryz.f7,Option.getD_some,cSnd,cFst] at ez
 rw [ez]
 clear ez
 have hbl:w2.heap.size<W2.heap.size:=by have:=HZ2.out;omega
 go_wp2_with fail
 refine HRO.out.mono ?_
 rintro e w4 ⟨v,ls,xs,rfl,hog,hll,hall,hh4,hkh4⟩
 obtain ⟨gA,gc,rfl,hgr4⟩:=hog.grAt
 have hmade:Made c nA hA gA w2.heap.size nc hc ls w4:=by
  have hsz:=hkh4.size
  have hz:=HZ2.out
  have hk:∀ b o,w1.heap.size<=b∧b<w2.heap.size->w4.cell? ⟨b,o,none⟩=w2.cell? ⟨b,o,none⟩:=fun b o hb=>(World.cell?_of_block (a:=⟨b,o,none⟩) (hkh4.block b (by omega) (by omega))).trans (HGW2.out.cell (p:=⟨b,o,none⟩) hb.2)
  exact ⟨by omega,(World.cell?_of_block (hkh4.block w2.heap.size hbl (by omega))).trans hcb0,(World.cell?_of_block (hkh4.block w2.heap.size hbl (by omega))).trans hcb1,(HN2.out.keep hk).ri fun b hb=>by omega,(HH2.out.keep hk).hs fun b hb=>by omega,hgr4⟩
 have HM:=Lib.hid hmade
 have HLL:=Lib.hid hll
 have HALL:=Lib.hid hall
 have HFO:=Lib.hid (oQ HCK.out hll hall)
 have HLX:Hid (∀ x∈ls,x.length<=4):=Lib.hid fun x hx=>by
  obtain ⟨p,rfl⟩:=hall x hx
  exact Nat.le_trans (cL _ _) HOK.out.h4
 have hn5:=HOK.out.n5
 have hm4:=HOK.out.h4
 have hm1:=HOK.out.h1
 have HOFF:Hid (∀ h∈c.herders,h.off.length<=4611686018427387904):=Lib.hid fun h hh=>Nat.le_trans (HOK.out.off h hh).1 (by omega)
 have HWD:=Lib.hid (oJ nA hA gA nc hc gc c ls w4 w4.heap.size (Nat.le_refl _) hmade.needs hmade.herds hmade.grid (by omega) (by omega) HOFF.out (by omega) (fun x hx=>Nat.le_trans (HLX.out x hx) (by omega)) HFO.out)
 have hb4:=hmade.lt
 have h40:=hmade.c0
 have h41:=hmade.c1
 unfold campV at HWD
 have hl5:ls.length<=5:=by omega
 clear HRO hll hog hall hh4 hkh4 hgr4 hmade hcb0 hcb1 hbl
 go_wp2
 refine Go.Iso.goesTo_seq_k fun K hK=>?_
 have ez:q7 4=cFst (cDrop 4 aI):=rfl
 simp only [cDrop,aI,Tryz.f7,Option.getD_some,cSnd,cFst] at ez
 rw [ez]
 clear ez
 go_wp2_with fail
 refine HWD.out.mono ?_
 rintro e w5 ⟨hg5,WA,wk,rfl,hw5⟩
 have HG5:=Lib.hid hg5
 have HW5:=Lib.hid hw5
 have HM5:=Lib.hid (HM.out.gr hg5)
 have HOT:=Lib.hid (mR nA hA gA nc hc gc c ls w5 w5.heap.size (Nat.le_refl _) HM5.out.needs HM5.out.herds HM5.out.grid (by omega) (by omega) HOFF.out (by omega) (fun x hx=>Nat.le_trans (HLX.out x hx) (by omega)) HFO.out)
 have hb5:=HM5.out.lt
 have h50:=HM5.out.c0
 have h51:=HM5.out.c1
 unfold campV at HOT
 clear HWD hg5 hw5 h40 h41 hb4
 go_wp2
 refine Go.Iso.goesTo_seq_k fun K hK=>?_
 have ez:q7 5=cFst (cDrop 5 aI):=rfl
 simp only [cDrop,aI,Tryz.f7,Option.getD_some,cSnd,cFst] at ez
 rw [ez]
 clear ez
 go_wp2_with fail
 refine HOT.out.mono ?_
 rintro e w6 ⟨hg6,OA,ok,rfl,ho6⟩
 have HW6:=Lib.hid (HW5.out.on hg6)
 have HM6:=Lib.hid (HM5.out.gr hg6)
 have HO6:=Lib.hid ho6
 have HEQ:=Lib.hid (jA HALL.out hm4)
 rw [HLL.out] at HEQ
 have HSZ:=Lib.hid (rH nA hA gA nc hc gc c.needs.length c.herders.length ls w6 w6.heap.size (Nat.le_refl _) HM6.out.grid hm4 (by omega) (fun x hx=>Nat.le_trans (HLX.out x hx) (by omega)))
 have hno:=jB HOK.out (rosOf ls)
 have HFM:=Lib.hid (fun i (hi:i<c.herders.length)=>jm (c:=c) (r:=rosOf ls) hi)
 have HF0:=Lib.hid (fun h0 i (hi:i<c.herders.length)=>mU (c:=c) (r:=rosOf ls) h0 hi)
 have HVL:=Lib.hid (watchesL_len (rosOf ls) c.needs.length c.herders.length)
 have HVI:=Lib.hid (fun x hx=>ee (r:=rosOf ls) (n:=c.needs.length) (m:=c.herders.length) x hx)
 have HVA:=Lib.hid (fun h (hh:h<c.herders.length)=>gp (r:=rosOf ls) (n:=c.needs.length) hh)
 have HWI:=Lib.hid (fun h=>ix (rosOf ls) c.needs.length h)
 obtain ⟨F,hF⟩:∃ F,F=oftenL c (rosOf ls):=⟨_,rfl⟩
 obtain ⟨V,hV⟩:∃ V,V=watchesL (rosOf ls) c.needs.length c.herders.length:=⟨_,rfl⟩
 obtain ⟨g,hg⟩:∃ g,g=wAt (rosOf ls) c.needs.length:=⟨_,rfl⟩
 rw [<- hF] at HO6 hno HFM HF0
 rw [<- hV] at HW6 HEQ HFM HF0 HVL HVI HVA
 rw [<- hg] at HFM HF0 HVA HWI
 rw [<- hF]
 obtain ⟨fz,hfl⟩:∃ fz:Unit->Nat,fz ()=F.length:=⟨fun _=>_,rfl⟩
 rw [<- hfl] at hno ⊢
 have HFL:=Lib.hid hfl
 have hb6:=HM6.out.lt
 have h60:=HM6.out.c0
 have h61:=HM6.out.c1
 clear HOT hg6 ho6 HW5 HM5 hF hV hg hfl h50 h51 hb5
 go_wp2
 refine Go.Iso.goesTo_seq_k fun K hK=>?_
 have ez:q7 6=cFst (cDrop 6 aI):=rfl
 simp only [cDrop,aI,Tryz.f7,Option.getD_some,cSnd,cFst] at ez
 rw [ez]
 clear ez
 go_wp2_with fail
 refine HSZ.out.mono ?_
 rintro e w7 ⟨hg7,SA,sk,rfl,hs7⟩
 have HM7:=Lib.hid (HM6.out.gr hg7)
 have HV7:=Lib.hid (HW6.out.on hg7)
 have hsm:=cJ WA SA wk sk V (ew ls c.herders.length) w7 w7.heap.size (Nat.le_refl _) HV7.out hs7 (by rw [HVL.out];omega) (by rw [iB];omega)
 rw [HVL.out,iB,<- HEQ.out,decide_eq_true rfl] at hsm
 have HSM:=Lib.hid hsm
 have HO7:=Lib.hid (HO6.out.on hg7)
 clear hsm hs7 hg7 HSZ h60 h61 hb6
 go_wp2_with fail
 refine HSM.out.mono ?_
 rintro e w8 ⟨rfl,hg8⟩
 have HM8:=Lib.hid (HM7.out.gr hg8)
 have HV8:=Lib.hid (HV7.out.on hg8)
 have HO8:=Lib.hid (HO7.out.on hg8)
 have hge:decide (((fz ()):Int) ≥ (c.herders.length:Int))=false:=decide_eq_false (by omega)
 have HTT:=Lib.hid (rG WA wk V w8 w8.heap.size HV8.out (by rw [HVL.out];omega) fun x hx=>by have:=HVI.out x hx;omega)
 have hsm:=oN HVI.out
 rw [HVL.out] at HTT hsm
 have hsb:0<=V.sum∧V.sum<=80:=⟨hsm.1,Int.le_trans hsm.2 (by
  have:(4*c.needs.length)*c.herders.length<=20*4:=Nat.mul_le_mul (by omega) hm4
  omega)⟩
 clear hg8 HSM hsm HV7 HO7 HM7
 go_wp2
 refine Go.Iso.goesTo_seq_k fun K hK=>?_
 have ez:q7 7=cFst (cDrop 7 aI):=rfl
 simp only [cDrop,aI,Tryz.f7,Option.getD_some,cSnd,cFst] at ez
 rw [ez]
 clear ez
 go_wp2_with fail
 refine HTT.out.mono ?_
 rintro e w' ⟨rfl,rfl⟩
 clear HTT
 go_wp2
 refine Go.Iso.goesTo_seq_k fun K hK=>?_
 have ez:q7 8=cFst (cDrop 8 aI):=rfl
 simp only [cDrop,aI,Tryz.f7,Option.getD_some,cSnd,cFst] at ez
 rw [ez]
 clear ez
 have hb8:=HM8.out.lt
 have h81:=HM8.out.c1
 generalize V.sum=all at hsb HFM HF0 ⊢
 go_wp2
 go_loop [10,12] (fun v i=>∃ k:Nat,k<=c.herders.length∧i=.int .i64 k∧v=.int .i64 (headsTo c k)) (fun _ i=>c.herders.length - (intOf i).toNat)
 case atStart=>exact ⟨0,by omega,rfl,rfl⟩
 case round =>
  obtain ⟨k,hk,rfl,rfl⟩:=hrel
  by_cases hltk:k<c.herders.length
  ·obtain ⟨b,o,rfl,hb,h0,_⟩:=HM8.out.herds.at_ hltk
   have HHT:Hid (headsTo c (k+1)=headsTo c k+(c.h k).heads):=Lib.hid rfl
   have hhk:=HOK.out.head hltk
   have hht:=dq HOK.out (show k<=_ by omega)
   generalize headsTo c k=y at HHT hht
   generalize (c.h k).heads=z at h0 HHT hhk
   go_wp2
   go_round
   case rel=>exact ⟨k+1,by omega,by go_num,congrArg (Value.int .i64) HHT.out.symm⟩
   case measure=>simp [intOf];omega
  ·have hkn:k=c.herders.length:=by omega
   subst hkn
   go_wp2
   refine Go.Iso.goesTo_seq_k fun K hK=>?_
   have ez:q7 9=cFst (cDrop 9 aI):=rfl
   simp only [cDrop,aI,Tryz.f7,Option.getD_some,cSnd,cFst] at ez
   rw [ez]
   clear ez
   have hht:=dq HOK.out (Nat.le_refl _)
   generalize headsTo c c.herders.length=hds at hht HFM HF0 ⊢
   have HVX:=Lib.hid hsb
   clear h81 hb8
   go_wp2
   go_loopw [13] (fun i wr=>∃ k:Nat,k<=c.herders.length∧i=.int .i64 k∧Gr w8 wr) (fun i _=>c.herders.length - (intOf i).toNat)
   case atStart=>exact ⟨0,by omega,rfl,.refl _⟩
   case round =>
    obtain ⟨k,hk,rfl,hgr⟩:=hrel
    have HMR:=Lib.hid (HM8.out.gr hgr)
    have HGR:=Lib.hid hgr
    by_cases hltk:k<c.herders.length
    ·obtain ⟨b,o,rfl,hb,h0,_⟩:=HMR.out.herds.at_ hltk
     obtain ⟨b',o',rfl,hb',hw'⟩:=HV8.out.on hgr (by intro e;have:=HVL.out;rw [e] at this;simp at this;omega)
     have hwk:=hw' k _ (HVA.out k hltk)
     have hwi:=HWI.out k
     have hfm:=HFM.out k hltk
     have hf0:=fun h=>HF0.out h k hltk
     have hhk:=HOK.out.head hltk
     have hbr:=HMR.out.lt
     have hr1:=HMR.out.c1
     generalize g k=y at hwk hwi hfm hf0
     generalize (c.h k).heads=z at h0 hfm hf0 hhk
     have hm1:0<=y*hds∧y*hds<=20*160:=⟨Int.mul_nonneg hwi.1 (by omega),Int.mul_le_mul (by omega) (by omega) (by omega) (by omega)⟩
     have hm2:0<=z*all∧z*all<=40*80:=⟨Int.mul_nonneg (by omega) hsb.1,Int.mul_le_mul (by omega) (by omega) (by omega) (by omega)⟩
     have hpl:∀ W,Gr w8 W->Calls Sq.prog 40 #[.slice OA (fz ()) ok,.int .i64 k] W fun e w'=>(∃ r:Int,e=.returned (.int .i64 r)∧(0<=r↔(k:Int)∈F))∧W=w':=fun W hg=>by
      rw [HFL.out]
      exact lQ OA ok F (k:Int) W W.heap.size (HO8.out.on hg) (by rw [<- HFL.out];omega)
     have HPL:=Lib.hid hpl
     clear hpl
     clear hgr hw' hwi hht hsb
     generalize hM1:y*hds=M1 at hfm hf0 hm1
     generalize hM2:z*all=M2 at hfm hf0 hm2
     by_cases hgt:M2<M1
     ·have hin:=hfm.2 hgt
      have hF1:1<=(fz ()):=by rw [HFL.out];exact List.length_pos_iff.2 fun e=>by rw [e] at hin;simp at hin
      have hd2:decide ((fz ())=0)=false:=decide_eq_false (by omega)
      have hd3:decide (((fz ()):Int)=0)=false:=decide_eq_false (by omega)
      have HIN:=Lib.hid hin
      have hd1:decide (M1 > M2)=true:=decide_eq_true hgt
      clear hfm hf0 hin
      go_wp2
      go_region
      all_goals
       go_wp2_with fail
       refine (HPL.out _ HGR.out.drew).mono ?_
       rintro e w' ⟨⟨r,rfl,hr⟩,rfl⟩
       have hr2:decide (r ≥ 0)=true:=decide_eq_true (hr.2 HIN.out)
       clear hr
       go_wp2
       go_roundw
       case rel=>exact ⟨k+1,by omega,by go_num,HGR.out.drew⟩
       case measure=>simp [intOf];omega
     ·have hnin:¬ (k:Int)∈F:=fun h=>hgt (hfm.1 h)
      have HIN:=Lib.hid hnin
      have hd1:decide (M1 > M2)=false:=decide_eq_false hgt
      by_cases hF:F=[]
      ·have he:=hf0 hF
       have hfz:(fz ())=0:=by rw [HFL.out,hF];rfl
       have hd2:decide ((fz ())=0)=true:=decide_eq_true hfz
       have hd3:decide (((fz ()):Int)=0)=true:=decide_eq_true (by omega)
       have hne:(M1 != M2)=false:=by simp [he]
       have HFZ:=Lib.hid hfz
       clear hfm hnin hf0 he hF hfz
       go_wp2
       go_region
       all_goals
        go_wp2_with fail
        refine (HPL.out _ HGR.out.drew).mono ?_
        rintro e w' ⟨⟨r,rfl,hr⟩,rfl⟩
        have hr2:decide (r ≥ 0)=false:=decide_eq_false fun h=>HIN.out (hr.1 h)
        clear hr
        go_wp2
        have hcz:((0:Nat):Int)=0:=rfl
        simp only [HFZ.out,hcz]
        go_roundw
        case rel=>exact ⟨k+1,by omega,by go_num,HGR.out.drew⟩
        case measure=>simp [intOf];omega
      ·have hF1:1<=(fz ()):=by rw [HFL.out];exact List.length_pos_iff.2 hF
       have hd2:decide ((fz ())=0)=false:=decide_eq_false (by omega)
       have hd3:decide (((fz ()):Int)=0)=false:=decide_eq_false (by omega)
       clear hfm hf0 hnin hF
       go_wp2
       go_region
       all_goals
        go_wp2_with fail
        refine (HPL.out _ HGR.out.drew).mono ?_
        rintro e w' ⟨⟨r,rfl,hr⟩,rfl⟩
        have hr2:decide (r ≥ 0)=false:=decide_eq_false fun h=>HIN.out (hr.1 h)
        clear hr
        go_wp2
        go_roundw
        case rel=>exact ⟨k+1,by omega,by go_num,HGR.out.drew⟩
        case measure=>simp [intOf];omega
    ·have hkn:k=c.herders.length:=by omega
     subst hkn
     go_wp2
     exact gm ⟨rfl,rfl⟩
open Go.RowKit Go.Iso Go.Co Go.Conc Go.ConcN Go.Sq
noncomputable def end7:LawEnd 7 iC where
 fn:=Tryz.f7
 r:=19
 o1:=(cOps (au iC)).getD 0 default
 o2:=(cOps (au iC)).getD 1 default
 d:=110
 t:=2
 n:=111
 hf:=Tryz.func7
 hl:=by kernel_rfl
 h1:=⟨by kernel_rfl,by kernel_rfl,#[],by kernel_rfl⟩
 h2:=⟨by kernel_rfl,by kernel_rfl,by kernel_rfl⟩
 hres:=by kernel_rfl
 hd:=by decide
 ht:=by decide
 plain:=⟨by kernel_rfl,by kernel_rfl⟩
 looked:=by decide
 hn:=Tryz.ntmps7
theorem qg:codeOk Sq.prog SBy false true aI=true:=by kernel_rfl
def numsK (A:Option Addr) (b:Nat):Bool:=match A with | some a=>b==a.block | none=>false
def numsC (A:Option Addr) (n:Nat) (_ i:Nat):Bool:=match A with | some a=>decide (a.off<=i)&&decide (i<a.off+n) | none=>false
theorem kE (b o n:Nat):(⟨b,o,none⟩:Addr).add n=⟨b,o+n,none⟩:=by
 unfold Addr.add
 split
 ·rename_i h
  first
   | (have h0:n=0:=h;subst h0;rfl)
   | (simp at h)
   | (simp at h;subst h;rfl)
 ·rfl
theorem law7_run {A:Option Addr} {len cap:Nat} {zs:List Int} {W:World} (hz:len<=zs.length) (hA:∀ a,A=some a->a.spot=none∧∃ C t f,W.heap[a.block]?=some (.cells C t f)) (hnil:A=none->len=0)
  (hcell:∀ a i,A=some a->i<zs.length->W.cell? (a.add i)=some (.int .i64 (zs.getD i 0))) :
  ∃ M last o w' t',runNT Tryz.prog (M+1) (solo (Go.Conc.G (Frame.enter Tryz.prog 7 #[.slice A len cap] .normal) []) W) #[]=(.ended o w',t')∧runN Tryz.prog M (solo (Go.Conc.G (Frame.enter Tryz.prog 7 #[.slice A len cap] .normal) []) W)=.next last∧step Tryz.prog last=.ended o w' ∧
   Go.Conc.Good Tryz.prog (fun v w'=>v=.bool true∧(w'.os=W.os∧w'.output=W.output)∧W.heap.size<=w'.heap.size∧∀ B,B<W.heap.size->w'.heap[B]?=W.heap[B]?) last o w' t':=by
 refine oI (K:=numsK A) (k:=numsC A zs.length) end7 (C:=aI) (by kernel_rfl) (by decide) (by decide) (by decide) qg (fun S b hb=>?_) (fun S=>?_) fun τ d=>?_
 ·cases A with
  | none=>cases hb
  | some a =>
   have e:b=a.block:=by simpa [numsK] using hb
   subst e
   obtain ⟨hs,C,t,f,h1⟩:=hA a rfl
   refine ⟨C,t,f,h1,fun i v hk hv=>?_⟩
   simp only [numsC,Bool.and_eq_true,decide_eq_true_eq] at hk
   have:=hcell a (i - a.off) rfl (by omega)
   obtain ⟨b,o,s⟩:=a
   dsimp only at hs h1 hk
   subst hs
   rw [kE] at this
   simp only [Option.isSome_none,Bool.false_eq_true,if_false,World.cell?,h1] at this
   rw [show o+(i - o)=i by omega,hv] at this
   cases this
   exact .int _ _
 ·cases A with
  | none=>exact .one (.nils _ _)
  | some a =>
   obtain ⟨b,o,s⟩:=a
   exact .one (.slice _ _ _ _ ⟨by simp [numsK],rfl⟩)
 ·have hlen:(zs.take len).length=len:=by simp [Nat.min_eq_left hz]
  have:=oT A cap (zs.take len) (on (aX (numsK A) (numsC A zs.length) W) τ d) (fun hne=>?_) _ rfl
  ·rw [hlen] at this
   have e1:end7.n=111:=rfl
   have e2:end7.n - (#[Value.slice A len cap]:Array Value).size=110:=rfl
   rw [e2,e1]
   exact this
  ·cases A with
   | none =>
    have:=hnil rfl
    subst this
    exact absurd rfl hne
   | some a =>
    obtain ⟨hs,C,t,f,h1⟩:=hA a rfl
    obtain ⟨b,o,s⟩:=a
    dsimp only at hs h1
    subst hs
    refine ⟨b,o,rfl,?_,fun i x hx=>?_⟩
    ·show b<(aX _ _ W).heap.size
     rw [kY]
     exact (Array.getElem?_eq_some_iff.1 h1).1
    ·have hi : i < len := by
      have:=(List.getElem?_eq_some_iff.1 hx).1
      omega
     have hi2:i<zs.length:=by omega
     show (aX _ _ W).cell? ⟨b,o+i,none⟩=_
     rw [kZ (fun _=>by simp [numsC];omega)]
     have:=hcell ⟨b,o,none⟩ i rfl hi2
     rw [kE] at this
     rw [this]
     rw [List.getElem?_take,if_pos hi,List.getElem?_eq_getElem hi2] at hx
     cases hx
     simp [List.getD_eq_getElem?_getD,List.getElem?_eq_getElem hi2]
open Go.ChangeShapes Go.WideShapes Go.ChangeAt Go.RowKit Go.Conc
theorem Tryz.own:ownKnob Tryz.prog.godebug=none:=by kernel_rfl
theorem Tryz.laidOut:laidOutB Tryz.prog=true:=by kernel_rfl
theorem Tryz.cells3:Tryz.prog.cellsOf 3=1:=by kernel_rfl
theorem has_cells {P:Program} {w:World} {r:Reach} {base:Nat} {t e:TypeId} {a:Addr} {len cap:Nat} (ht:P.underlying t=some (.slice e)) (h:Value.okWide P w r base t (.slice (some a) len cap)):a.spot=none∧∃ C ty f,w.heap[a.block]?=some (.cells C ty f):=by
 unfold Value.okWide at h
 rw [ht] at h
 dsimp only at h
 unfold Cell.okWide at h
 rw [ht] at h
 dsimp only at h
 unfold Cell.ok at h
 rw [ht] at h
 dsimp only at h
 obtain ⟨_,_,_,hs,row,cells,hsh,_⟩:=h
 refine ⟨hs,?_⟩
 unfold World.shape? at hsh
 cases ho:w.heap[a.block]? with
 | none=>rw [ho] at hsh;cases hsh
 | some o =>
  rw [ho] at hsh
  cases o with
  | cells C ty f=>exact ⟨C,ty,f,rfl⟩
  | _=>cases hsh
theorem eZ (os:Os) (started:os.Started) (H:Type) (enc:TypeId×Value->H) (F:Stop.Interp) :
  ReturnsInLeavingWide { calm:=true } Tryz.checked os 7 .any (Rows.wolfTooOftenSpec.pre6 enc Tryz.prog Tryz.f7 [] false) ((OpenSpec.ofChange Rows.wolfTooOftenSpec).postWith enc Tryz.prog Tryz.f7 F (outsideKept [.timePasses]) false true false):=by
 refine returnsInLeavingWide_of_change_time (C:=Tryz.checked) Tryz.own started Tryz.func7
  (ChangeSpec.witness6c (enc:=enc) (C:=Tryz.checked) ⟨#[],#[.slice none 0 0],[]⟩ 8 (by kernel_rfl) (by kernel_rfl) (by kernel_rfl) (by kernel_rfl)) ?_
 intro W base args ds gs before hval0 hW _ _ _
 have hval:∀ (j:Nat) t v,Tryz.f7.params[j]?=some t->args[j]?=some v->Value.okWide Tryz.prog W .any base t v:=hval0
 have hW':=hW
 obtain ⟨p,q,hA0,hV,rfl,_,_⟩:=hW
 have hA:DataW.TrodAll enc Tryz.prog W 0 (fun _=>true) true Tryz.f7.params.toList args.toList ds p:=hA0
 rw [Tryz.params7] at hA hval
 obtain ⟨v0,d0,rfl,rfl,h0⟩:=trodAll_one hA
 obtain ⟨rfl,rfl⟩:=trodVars_none hV
 have hv0:=hval 0 _ v0 rfl rfl
 obtain ⟨a0,len,cap,rfl⟩:=okWide_slice Tryz.underlying22 hv0
 have h0k:=h0
 obtain ⟨fuel,hf⟩:=h0
 clear hA0 hval0
 simp only [List.append_nil] at hW'
 have hlt:∀ x∈p,x.block<W.heap.size:=fun x hx=>by simpa using hW'.lt x hx
 have close : ∀ (zs : List Int), len <= zs.length -> (a0 = none -> len = 0) -> (∀ a i, a0 = some a -> i < zs.length -> W.cell? (a.add i) = some (.int .i64 (zs.getD i 0))) ->
   ∃ M last o w' t',runNT Tryz.checked.prog (M+1) (solo (G (Frame.enter Tryz.checked.prog 7 #[.slice a0 len cap] .normal) []) W) #[]=(.ended o w',t') ∧
    runN Tryz.checked.prog M (solo (G (Frame.enter Tryz.checked.prog 7 #[.slice a0 len cap] .normal) []) W)=.next last∧step Tryz.checked.prog last=.ended o w' ∧
    Conc.Good Tryz.checked.prog (fun v W'=>Rows.wolfTooOftenSpec.post enc Tryz.checked.prog Tryz.f7 false true false false W #[.slice a0 len cap] v { W' with os:=W.os }∧Go.ConcM.OsLater W.os W'.os) last o w' t':=by
  intro zs hz hnil hel
  obtain ⟨M,last,o,w',t',h1,h2,h3,h4⟩:=law7_run (cap:=cap) hz (fun a e=>by subst e;exact has_cells Tryz.underlying22 hv0) hnil hel
  refine ⟨M,last,o,w',t',h1,h2,h3,h4.mono fun v hF=>?_⟩
  obtain ⟨rfl,⟨e1,e2⟩,e3,e4⟩:=hF
  refine ⟨?_,by rw [e1];exact Go.ConcM.OsLater.refl _⟩
  have hbel:Below W.heap.size W { w' with os:=W.os,tape:=W.tape }:=⟨rfl,rfl,e2,e3,fun k hk=>e4 k hk⟩
  have hfr:=hbel.frame (fun x=>x∈p∧(x∈([]:List MemPlace)∨x∈p∨x∈([]:List MemPlace)))
  have harg:=Below.trod Tryz.laidOut (by kernel_rfl) (of_decide_eq_true (by kernel_rfl)) h0k hbel hlt
  refine ⟨_,_,_,[],p,[],hW',?_,?_,rfl,hfr,fun h=>by cases h⟩
  ·exact trodAll_mk1 (shut_bool (by first | exact Tryz.underlying1 | kernel_rfl) true)
  ·have h2:DataW.Trod enc Tryz.prog { w' with os:=W.os } 0 (fun b=>decide (b<W.heap.size)) true 22 (.slice a0 len cap) d0 p:=harg.of_heap (by rfl)
   exact trodAll_mk1 h2
 rcases open_ints Tryz.underlying22 Tryz.underlying3 Tryz.cells3 hf with ⟨hcs,hx⟩ | ⟨a,len',cap',zs,hcs,_,hl,hm,hz,hx,hcell,hwz⟩
 ·simp [Value.cells] at hcs
  obtain ⟨rfl,rfl,rfl⟩:=hcs
  exact close [] (by simp) (fun _=>rfl) (fun a i e=>by cases e)
 ·simp [Value.cells] at hcs
  obtain ⟨rfl,rfl,rfl⟩:=hcs
  simp only [if_true] at hz
  exact close zs (by omega) (fun e=>by cases e) (fun a' i e hi=>by cases e;exact hcell i hi)
theorem wolfTooOften_holds:Rows.WolfTooOftenSaid :=
 OpenClaim.holds_of_wide_leaving_time 7 Tryz.f7 rfl rfl rfl rfl rfl rfl rfl ⟨rfl,rfl,rfl,rfl,rfl⟩ rfl rfl rfl rfl rfl (by kernel_rfl) Tryz.func7 (by kernel_rfl)
  (of_decide_eq_true (by kernel_rfl)) (by unfold Func.isWrapper;first | (rw [if_pos (by decide +kernel)];kernel_rfl) | (rw [if_neg (by decide +kernel)];exact ⟨rfl,rfl⟩))
  (fun os started H enc _ F=>eZ os started H enc F)
end Go.Proofs.YtgicaeombogkcaaGreat
