/- Parts of the proof. -/
import Derived.Test.YtgicaeombogkcaaGreatP17
set_option linter.all false
set_option maxHeartbeats 3200000
set_option maxRecDepth 1000000
namespace Go.Sq
open Go.RowKit
theorem aH {w w':World} {base size n:Nat} {e:TypeId} {v:Value} {xs:List Value} (h:w.ownsRow base e size v n xs) (hk:∀ g,v.ownBlock=some g->g<w.heap.size->w'.heap[g]?=w.heap[g]?):w'.ownsRow base e size v n xs:=by
 have hlt:=h.lt
 refine ⟨h.1,?_⟩
 rcases h.2 with h0 | ⟨g,cap,cur,rfl,h1,h2,h3⟩
 ·exact .inl h0
 ·exact .inr ⟨g,cap,cur,rfl,h1,(hk g rfl (hlt g rfl).2).trans h2,h3⟩
theorem i9 {w:World} {b1 b2 s1 s2 n1 n2:Nat} {e1 e2:TypeId} {v1 v2:Value} {x1 x2:List Value} (he:e1≠e2) (h1:w.ownsRow b1 e1 s1 v1 n1 x1) (h2:w.ownsRow b2 e2 s2 v2 n2 x2) {g:Nat} (hg:v1.ownBlock=some g):some g≠v2.ownBlock:=by
 rcases h1.2 with ⟨rfl,_⟩ | ⟨g1,c1,u1,rfl,_,a1,_⟩
 ·cases hg
 ·rcases h2.2 with ⟨rfl,_⟩ | ⟨g2,c2,u2,rfl,_,a2,_⟩
  ·intro h;cases h
  ·intro h
   obtain rfl:g1=g:=by injection hg
   obtain rfl:g1=g2:=by injection h
   rw [a1] at a2
   injection a2 with a2
   injection a2 with _ h _
   exact he h
theorem db {w:World} {B:Nat} {e:TypeId} {size n:Nat} {v:Value} {xs:List Value} (h:w.ownsRow B e size v n xs) {b:Nat} (hb:b<B):some b≠v.ownBlock:=fun hh=>by
 have:=(h.lt b hh.symm).1;omega
theorem dK {w:World} {B B':Nat} {e:TypeId} {size n:Nat} {v:Value} {xs:List Value} (h:w.ownsRow B e size v n xs) (hb:B'<=B):w.ownsRow B' e size v n xs:=by
 refine ⟨h.1,?_⟩
 rcases h.2 with h0 | ⟨g,cap,cur,h1,h2,h3⟩
 ·exact .inl h0
 ·exact .inr ⟨g,cap,cur,h1,by omega,h3⟩
structure OwnGrid (w:World) (base:Nat) (v:Value) (ls:List (List Int)) (xs:List Value):Prop where
 row:w.ownsRow base 22 1 v ls.length xs
 cells:∀ (i:Nat) (l:List Int),ls[i]?=some l->∃ u,xs[i]?=some u∧w.ownsRow base 3 1 u l.length (l.map (Value.int .i64))
theorem OwnGrid.nil (w:World) (base:Nat):OwnGrid w base (.slice none 0 0) [] []:=⟨World.ownsRow_nil _ _ _ _,fun i l h=>by simp at h⟩
theorem OwnGrid.keep {w w':World} {base:Nat} {v:Value} {ls:List (List Int)} {xs:List Value} (h:OwnGrid w base v ls xs) (hk:∀ b,b<w.heap.size->w'.heap[b]?=w.heap[b]?):OwnGrid w' base v ls xs :=
 ⟨aH h.row fun g _ hl=>hk g hl,fun i l hi=>by
  obtain ⟨u,h1,h2⟩:=h.cells i l hi
  exact ⟨u,h1,aH h2 fun g _ hl=>hk g hl⟩⟩
theorem OwnGrid.keep' {w w':World} {base:Nat} {v:Value} {ls:List (List Int)} {xs:List Value} (h:OwnGrid w base v ls xs) (hk:∀ b,base<=b->b<w.heap.size->w'.heap[b]?=w.heap[b]?):OwnGrid w' base v ls xs :=
 ⟨aH h.row fun g hg hl=>hk g (h.row.lt g hg).1 hl,fun i l hi=>by
  obtain ⟨u,h1,h2⟩:=h.cells i l hi
  exact ⟨u,h1,aH h2 fun g hg hl=>hk g (h2.lt g hg).1 hl⟩⟩
theorem OwnGrid.push {w1 w w':World} {base n:Nat} {v v' u:Value} {ls:List (List Int)} {xs:List Value} {l:List Int} (h:OwnGrid w base v ls xs) (hu:w.ownsRow base 3 1 u l.length (l.map (Value.int .i64)))
  (h1:∀ b,b<w.heap.size->w1.heap[b]?=w.heap[b]?) (hs:w.heap.size<=w1.heap.size) (hg:w1.grownBy w' v.ownBlock) (hn:n=ls.length) (hr:w'.ownsRow base 22 1 v' (n+1) (xs++[u])):OwnGrid w' base v' (ls++[l]) (xs++[u]):=by
 subst hn
 have key:∀ {y:Value} {m:Nat} {zs:List Value},w.ownsRow base 3 1 y m zs->w'.ownsRow base 3 1 y m zs:=fun hy=>aH hy fun g hg' hl =>
  (hg.block g (Nat.lt_of_lt_of_le hl hs) (i9 (by decide) hy h.row hg')).trans (h1 g hl)
 have hlen:xs.length=ls.length:=by have:=h.row.1;omega
 refine ⟨by simpa using hr,fun i y hi=>?_⟩
 rcases Nat.lt_or_ge i ls.length with hlt | hge
 ·rw [List.getElem?_append_left hlt] at hi
  obtain ⟨z,hz,hzo⟩:=h.cells i y hi
  exact ⟨z,by rw [List.getElem?_append_left (by omega)];exact hz,key hzo⟩
 ·have hi2 : i = ls.length := by
   have:=(List.getElem?_eq_some_iff.1 hi).1
   simp at this;omega
  subst hi2
  rw [List.getElem?_append_right (Nat.le_refl _)] at hi
  simp at hi;subst hi
  exact ⟨u,by rw [List.getElem?_append_right (by omega),hlen];simp,key hu⟩
theorem OwnGrid.grAt {w:World} {base:Nat} {v:Value} {ls:List (List Int)} {xs:List Value} (h:OwnGrid w base v ls xs):∃ A c,v=.slice A ls.length c∧GrAt w w.heap.size A ls:=by
 rcases h.row.2 with ⟨rfl,h0⟩ | ⟨g,cap,cur,rfl,h1,h2,h3⟩
 ·have:ls=[]:=List.eq_nil_of_length_eq_zero h0
  subst this
  exact ⟨none,0,rfl,.nil⟩
 ·refine ⟨_,cap,rfl,fun _=>⟨g,0,rfl,(Array.getElem?_eq_some_iff.1 h2).1,fun i l hi=>?_⟩⟩
  obtain ⟨u,hu,ho⟩:=h.cells i l hi
  obtain ⟨A,c,rfl,hr⟩:=RI.of_own ho
  refine ⟨A,c,?_,hr⟩
  have:=h.row.cells (g:=g) rfl i _ hu
  have e:(⟨g,0,none⟩:Addr).add i=⟨g,0+i,none⟩:=by unfold Addr.add;split<;>simp_all
  rwa [e] at this
end Go.Sq
namespace Go.Proofs.YtgicaeombogkcaaGreat
open Go.RowKit Go.Sq
theorem Sq.info22:(Sq.prog.info? 22).map (fun i=>(i.zero,i.size,i.bytes))=some (some (.slice none 0 0),1,24):=by
 rw [Sq.tab];kernel_rfl
def aN (r:Ros) (k:Nat):List (List Int):=(List.range k).map fun i=>wl (r i)
theorem kS (r:Ros) (k:Nat):aN r (k+1)=aN r k++[wl (r k)]:=by simp [aN,List.range_succ]
theorem dm (r:Ros) (k:Nat):(aN r k).length=k:=by simp [aN]
theorem lH (cb:Nat) (nA:Option Addr) (n nc:Nat) (r:Ros) (w:World) (hcb:cb<w.heap.size) (hc0:w.cell? ⟨cb,0,none⟩=some (.slice nA n nc)) (hn:n<=5) (hr:∀ i,i<5->r i<16) :
  Calls Sq.prog 61 #[.pointer (some ⟨cb,0,none⟩),rosV r] w fun e w'=>∃ A c xs,e=.returned (.slice A n c)∧OwnGrid w' (w.heap.size+1) (.slice A n c) (aN r n) xs∧Gr w w':=by
 obtain ⟨i0,hi,hz0,hz1,hz2⟩:=info_parts Sq.info22
 have HR:=Lib.hid hr
 clear hr
 unfold rosV
 go_enter Sq.func61,Tryz.ntmps61
 have hc0':(w.alloc (.cells #[.int .u8 (r 0),.int .u8 (r 1),.int .u8 (r 2),.int .u8 (r 3),.int .u8 (r 4)] 91)).cell? ⟨cb,0,none⟩=some (.slice nA n nc):=(World.cell?_alloc_past _ _ _ hcb).trans hc0
 clear hc0
 go_wp2
 go_loopw [5,13] (fun v i wr=>∃ k:Nat,k<=n∧i=.int .i64 k∧∃ xs,OwnGrid wr (w.heap.size+1) v (aN r k) xs∧(∀ j,j<5->wr.cell? ⟨w.heap.size,j,none⟩=some (.int .u8 (r j)))∧Gr w wr∧w.heap.size+1<=wr.heap.size) (fun _ i _=>n - (intOf i).toNat)
 case atStart =>
  refine ⟨0,by omega,rfl,[],OwnGrid.nil _ _,fun j hj=>?_,(Gr.refl w).alloc _,by simp⟩
  rw [World.cell?_alloc_at _ _ _ _ rfl]
  match j,hj with
  | 0,_=>rfl
  | 1,_=>rfl
  | 2,_=>rfl
  | 3,_=>rfl
  | 4,_=>rfl
 case round =>
  obtain ⟨k,hk,rfl,xs,hog,hrc,hgr,hsz⟩:=hrel
  have HG:=Lib.hid hgr
  have HO:=Lib.hid hog
  have HRC:=Lib.hid hrc
  clear hgr hog hrc
  by_cases hlt:k<n
  ·have hx:=HR.out k (by omega)
   have hck:=HRC.out k (by omega)
   have HS:=Lib.hid (kS r k)
   have HL:=Lib.hid (eh (r k) wr hx)
   generalize hrk:r k=x at hx hck HS HL
   clear hrk
   go_wp2_with fail
   refine HL.out.mono ?_
   rintro e w1 ⟨u,rfl,hou,hg1⟩
   obtain ⟨uA,uc,rfl,_⟩:=RI.of_own hou
   have HU:=Lib.hid hou
   have HG1:=Lib.hid hg1
   have hs1:=hg1.size
   clear hou hg1 HL
   have hog1:OwnGrid w1 (w.heap.size+1) _ (aN r k) xs:=HO.out.keep fun b hb=>HG1.out.below.block b hb
   have HO1:=Lib.hid hog1
   have hrow:=hog1.row
   have hlen:=dm r k
   rw [hlen] at hrow
   clear hog1 hlen
   go_wp2_with (at_builtin;refine wpList_append_gr rfl _ _ 36 rfl (w.heap.size+1) 22 i0 (.slice none 0 0) 1 24 Sq.underlying36 hi hz0 hz1 hz2 rfl (by decide) _ _ _ rfl (hrow.alloc _) ⟨w1.heap.size,0,none⟩ 1 1 [.slice uA (wl x).length uc] rfl rfl ?c1 ?c2 ?c3 ?c4 ?c5 ?_)
   case c1 =>
    intro j u hj
    match j,hj with
    | 0,hj=>simp at hj;subst hj;simp [Addr.add]
   case c2 =>
    intro u' hu;simp at hu;subst hu;rfl
   case c3=>unfold maxLen;omega
   case c4=>omega
   case c5=>simp;omega
   intro v' w2 hown' hgrow hd
   have HG2:=Lib.hid (((HG.out.trans HG1.out).alloc (.cells #[.slice uA (wl x).length uc] 22)).grown hgrow hd fun j hj=>by have:=(hrow.lt j hj).1;omega)
   have hz2':w1.heap.size+1<=w2.heap.size:=by have:=hgrow.size;simpa using this
   have HO2:Hid (OwnGrid w2 (w.heap.size+1) v' (aN r (k+1)) (xs++[.slice uA (wl x).length uc])):=Lib.hid (by
    rw [HS.out]
    refine OwnGrid.push (HO1.out) (dK HU.out (by omega)) (fun b hb=>heap_alloc_old w1 _ hb) (by simp) hgrow (dm r k).symm hown')
   have HRC2:Hid (∀ j,j<5->w2.cell? ⟨w.heap.size,j,none⟩=some (.int .u8 (r j))):=Lib.hid fun j hj =>
    hgrow.cell ((World.cell?_alloc_past _ _ _ (by show w.heap.size<w1.heap.size;omega)).trans ((HG1.out.cell (by show w.heap.size<wr.heap.size;omega)).trans (HRC.out j hj))) (db hrow (by show w.heap.size<_;omega))
   have hz3:w.heap.size+1<=w2.heap.size:=by omega
   clear hown' hgrow hd HG HG1 HO HO1 HU HS HRC hck hrow hs1
   go_wp2
   go_roundw
   case rel=>exact ⟨k+1,by omega,by go_num,_,HO2.out,HRC2.out,HG2.out,by omega⟩
   case measure=>simp [intOf];omega
  ·have hkn:k=n:=by omega
   subst hkn
   obtain ⟨A,c,rfl,_⟩:=HO.out.grAt
   have hl:=dm r k
   rw [hl] at HO ⊢
   clear hl
   go_wp2
   go_ret
   exact ⟨_,_,_,rfl,HO.out,HG.out⟩
end Go.Proofs.YtgicaeombogkcaaGreat
namespace Go.Sq
def subN (l:List Int) (i k:Nat):List Int:=(List.range l.length).map fun j=>if j<k∧i.testBit j=true then l[j]?.getD 0 else 0
def aO (i k:Nat):List Int:=((List.range k).filter i.testBit).map fun n:Nat=>(n:Int)
def subC (c:Camp) (i:Nat):Camp:={ c with needs:=subN c.needs i c.needs.length }
def clashN (c:Camp):Nat->Option (List Int)
 | 0=>none
 | i+1=>if Go.Proofs.YtgicaeombogkcaaGreat.isSome (subC c i) then clashN c i else some (bestL (clashN c i) (aO i c.needs.length))
theorem gF (l:List Int) (i k:Nat):(subN l i k).length=l.length:=by simp [subN]
theorem dv (l:List Int) (i k j:Nat) (hj:j<l.length):(subN l i k)[j]?=some (if j<k∧i.testBit j=true then l[j]?.getD 0 else 0):=by simp [subN,hj]
theorem qW {c:Camp} (h:c.Ok) (i:Nat):(subC c i).Ok:=by
 have hl:(subC c i).needs.length=c.needs.length:=gF _ _ _
 refine ⟨by rw [hl];exact h.n1,by rw [hl];exact h.n5,fun x hx=>?_,h.h1,h.h4,h.heads,h.dogs,h.most,by rw [hl];exact h.off⟩
 obtain ⟨j,hj,rfl⟩:=List.getElem_of_mem hx
 have hj':j<c.needs.length:=by rw [hl] at hj;exact hj
 have:=dv c.needs i c.needs.length j hj'
 have e:(subC c i).needs[j]=if j<c.needs.length∧i.testBit j=true then c.needs[j]?.getD 0 else 0:=by
  rw [List.getElem?_eq_getElem (by rw [gF];exact hj')] at this
  exact Option.some.inj this
 rw [e]
 split
 ·exact h.need _ (mem_get c.needs j hj')
 ·omega
theorem j9 (i k:Nat):aO i (k+1)=aO i k++if i.testBit k then [(k:Int)] else []:=by
 unfold aO
 rw [List.range_succ,List.filter_append,List.map_append]
 cases h:i.testBit k<;>simp [h]
theorem ii (i k:Nat):(aO i k).length<=k:=by
 unfold aO
 rw [List.length_map]
 exact Nat.le_trans (List.length_filter_le _ _) (by simp)
theorem KeepL.gr {w w':World} {kb:Nat} {o:Option (List Int)} (h:KeepL w kb o) (hg:Gr w w'):KeepL w' kb o:=by
 cases o with
 | none=>exact (hg.below.block kb (Array.getElem?_eq_some_iff.1 h).1).trans h
 | some l =>
  obtain ⟨A,c,h1,h2,h3⟩:=h
  refine ⟨A,c,(hg.below.block kb (Array.getElem?_eq_some_iff.1 h1).1).trans h1,h2,fun hn=>?_⟩
  obtain ⟨b,o,e,hb,hc⟩:=h3 hn
  exact ⟨b,o,e,⟨hb.1,Nat.lt_of_lt_of_le hb.2 hg.size⟩,fun i x hx=>(hg.cell (p:=⟨b,o+i,none⟩) hb.2).trans (hc i x hx)⟩
end Go.Sq
namespace Go.Proofs.YtgicaeombogkcaaGreat
open Go.RowKit Go.Sq
theorem ij {w:World} {ops:Array Oper} {rest:List Oper} {o:Oper} {a:Act} {Q:Exit->Act->World->Prop} (hgd:o.guard=none) (s x:Operand) (ho:o.op=.call { callee:=.builtin .append,args:=#[s,x],argTypes:=#[22,22] })
  (base:Nat) (v:Value) (n:Nat) (xs:List Value) (hs:a.eval s=v) (hown:w.ownsRow base 3 1 v n xs) (ad:Addr) (c:Nat) (u:Value) (hx:a.eval x=.slice (some ad) 1 c) (hc:w.cell? ad=some u) (h1:u.oneCell'=true)
  (hn:n<=1048576) (hbase:base<=w.heap.size) (h:∀ v' w',w'.ownsRow base 3 1 v' (n+1) (xs++[u])->w.grownBy w' v.ownBlock->w.drawn<=w'.drawn->wpList Sq.prog ops Q rest (a.put o.dst v') w'):wpList Sq.prog ops Q (o :: rest) a w:=by
 obtain ⟨i0,hi,hz0,hz1,hz2⟩:=info_parts Sq.info3
 refine wpList_append_gr hgd s x 22 ho base 3 i0 (.int .i64 0) 1 8 Sq.underlying22 hi hz0 hz1 hz2 rfl (by decide) v n xs hs hown ad 1 c [u] hx rfl (fun j u' hj=>?_) (fun u' hu=>?_) (by unfold maxLen;omega) (by omega) hbase h
 ·match j,hj with
  | 0,hj =>
   simp at hj;subst hj
   have:ad.add 0=ad:=by unfold Addr.add;split<;>simp_all
   rw [this];exact hc
 ·simp at hu;subst hu;exact h1
theorem qX:∀ k:Fin 32,∀ j:Fin 5,(bits BinOp.and IntKind.i64 ((k.val:Int) / 2 ^ j.val) 1==1)=k.val.testBit j.val:=by decide +kernel
theorem kg {l:List Int} {i k m:Nat} (hm:m<l.length) (hne:m≠k):(subN l i (k+1))[m]?.getD 0=(subN l i k)[m]?.getD 0:=by
 rw [dv _ _ _ _ hm,dv _ _ _ _ hm]
 have:(m<k+1↔m<k):=by omega
 simp [this]
theorem kh {l:List Int} {i k:Nat} (hm:k<l.length):(subN l i (k+1))[k]?.getD 0=if i.testBit k=true then l[k]?.getD 0 else 0:=by
 rw [dv _ _ _ _ hm]
 simp
theorem pJ {l:List Int} {i k:Nat} (hm:k<l.length):(subN l i k)[k]?.getD 0=0:=by
 rw [dv _ _ _ _ hm]
 simp
def dL (n:Nat):Array Value:=madeCells (Value.int .i64 0).cells (n*1)
theorem en (n:Nat) (w:World) (hn:n<=1048576):(Instr.makeSlice 22 (.int .i64 (n:Int)) (.int .i64 (n:Int))).run Sq.prog w=.ok (.slice (some ⟨w.heap.size,0,none⟩) n n) (w.alloc (.cells (dL n) 3)):=by
 obtain ⟨i0,hi,hz0,hz1,hz2⟩:=info_parts Sq.info3
 have:=run_makeSlice (P:=Sq.prog) w 22 3 i0 (.int .i64 0) Sq.underlying22 hi hz0 .i64 .i64 (n:Int) (n:Int) (by omega) (by omega) (by rw [hz1];simp;omega) (by rw [hz2];omega) (by omega)
 rw [hz1] at this
 simpa [dL] using this
theorem dc (n j:Nat) (hj:j<n):(dL n)[j]?=some (.int .i64 0):=by
 simp [dL,madeCells,Value.cells,hj,Nat.mod_one]
def qY (c:Camp) (w:World) (e:Ending) (w':World):Prop :=
 Gr w w'∧if checkE c≠0 then e=.returned (.tuple #[.slice none 0 0,.int .i64 (checkE c)]) else if isSome c then e=.returned (.tuple #[.slice none 0 0,.int .i64 11])
  else ∃ A k,e=.returned (.tuple #[.slice A ((clashN c (2 ^ c.needs.length)).getD []).length k,.int .i64 0])∧RI w' w'.heap.size A ((clashN c (2 ^ c.needs.length)).getD [])
theorem qZ (nA hA:Option Addr) (nc hc:Nat) (c:Camp) (w:World) (B:Nat) (hB:B<=w.heap.size) (hn:RI w B nA c.needs) (hh:HsAt w B hA c.herders)
  (hl1:c.needs.length<=4611686018427387904) (hl2:c.herders.length<=4611686018427387904) (hlo:∀ h∈c.herders,h.off.length<=4611686018427387904) :
  Calls Sq.prog 25 #[campV nA hA c nc hc] w (qY c w):=by
 unfold campV
 obtain ⟨W0,hW0⟩:∃ W0:World,W0=w.alloc (.cells #[.slice nA c.needs.length nc,.slice hA c.herders.length hc] 25):=⟨_,rfl⟩
 have hg0:Gr w W0:=hW0▸(Gr.refl w).alloc _
 have hz0:W0.heap.size=w.heap.size+1:=by rw [hW0];simp
 have HW:=Lib.hid hW0
 have HBEG:=Lib.hid (iP nA hA nc hc c W0 B (by omega) (hn.gr hB hg0) (hh.keep fun b o hb=>hg0.cell (Nat.lt_of_lt_of_le hb hB)) hl1 hl2 hlo)
 have HG0:=Lib.hid hg0
 have hcm:W0.cell? ⟨w.heap.size,0,none⟩=some (.slice nA c.needs.length nc)∧W0.cell? ⟨w.heap.size,1,none⟩=some (.slice hA c.herders.length hc):=by
  rw [hW0]
  constructor
  all_goals rw [World.cell?_alloc_at _ _ _ _ rfl];rfl
 have HCM:=Lib.hid hcm
 have HN:=Lib.hid hn
 have HH:=Lib.hid hh
 clear hW0 hg0 hn hh hlo hcm
 go_enter Sq.func25,Tryz.ntmps25
 unfold campV at HBEG
 go_wp2_with fail
 rw [<- HW.out]
 refine HBEG.out.mono ?_
 rintro e w1 ⟨hg1,hbeg⟩
 have HG1:=Lib.hid hg1
 by_cases hE:checkE c=0
 ·rw [if_pos hE] at hbeg
  obtain ⟨cb,g,cap,rfl,hcb,hcg,hK,_⟩:=hbeg
  have HK:=Lib.hid hK
  have HE:=Lib.hid hE
  have HOK:=Lib.hid (Camp.Ok.of hE)
  have HSOME:=Lib.hid (oa w1 HOK.out hK)
  clear hg1 hK HBEG hE
  obtain ⟨v,hv⟩:∃ v,v=isSome c:=⟨_,rfl⟩
  rw [<- hv] at HSOME
  have HV:=Lib.hid hv
  clear hv
  cases v with
  | true =>
   go_wp2_with (go_at_call 77;refine HSOME.out.mono ?_;rintro e w2 ⟨rfl,hg2⟩;have HG2:=Lib.hid hg2;clear hg2)
   go_ret2
   refine ⟨HG0.out.trans (HG1.out.trans HG2.out),?_⟩
   rw [if_neg (by simp [HE.out]),if_pos HV.out.symm]
   rfl
  | false =>
   go_wp2_with fail
   refine HSOME.out.mono ?_
   rintro e w2 ⟨rfl,hg2⟩
   have HG2:=Lib.hid (HG0.out.trans (HG1.out.trans hg2))
   have hc0:w2.cell? ⟨w.heap.size,0,none⟩=some (.slice nA c.needs.length nc):=((HG1.out.trans hg2).cell (by show w.heap.size<_;omega)).trans HCM.out.1
   have hc1:w2.cell? ⟨w.heap.size,1,none⟩=some (.slice hA c.herders.length hc):=((HG1.out.trans hg2).cell (by show w.heap.size<_;omega)).trans HCM.out.2
   have hz2:w.heap.size<w2.heap.size:=by have:=hg2.size;have:=HG1.out.size;omega
   have hn5:=HOK.out.n5
   have hpow:((2:Int) ^ c.needs.length)=((2 ^ c.needs.length:Nat):Int)∧2 ^ c.needs.length<=32:=by
    have:c.needs.length=0∨c.needs.length=1∨c.needs.length=2∨c.needs.length=3∨c.needs.length=4∨c.needs.length=5:=by omega
    rcases this with e | e | e | e | e | e<;>rw [e]<;>decide
   obtain ⟨hp1,hp2⟩:=hpow
   have hw:∀ N:Nat,N<=32->IntKind.i64.wrap (N:Int)=N:=fun N h=>by simp [IntKind.wrap,IntKind.bits,IntKind.signed];omega
   obtain ⟨N,hN⟩:∃ N,N=2 ^ c.needs.length:=⟨_,rfl⟩
   rw [<- hN] at hp1 hp2
   have hwp:wrap64 ((2:Int) ^ c.needs.length)=(N:Int):=by
    rw [hp1];unfold wrap64;omega
   have hmk:=fun w=>en c.needs.length w (by omega)
   have HNN:=Lib.hid hN
   clear hp1 hw hN
   have hk0:KeepL (w2.alloc (.cells #[.int .i32 0,.int .u32 0,.slice none 0 0,.bool false] 129)) w2.heap.size (clashN c 0):=World.alloc_heap_new w2 _
   have HK0:=Lib.hid hk0
   clear hk0
   go_wp2
   rw [hwp]
   clear hwp
   have hgz:=HG2.out.size
   go_loopw [26] (fun i wr=>∃ k:Nat,k<=N∧i=.int .i64 k∧KeepL wr w2.heap.size (clashN c k)∧Gr w wr∧wr.cell? ⟨w.heap.size,0,none⟩=some (.slice nA c.needs.length nc)∧wr.cell? ⟨w.heap.size,1,none⟩=some (.slice hA c.herders.length hc)∧w2.heap.size<wr.heap.size) (fun i _=>N - (intOf i).toNat)
   case atStart =>
    exact ⟨0,by omega,rfl,HK0.out,HG2.out.alloc _,(World.cell?_alloc_past _ _ _ hz2).trans hc0,(World.cell?_alloc_past _ _ _ hz2).trans hc1,by simp⟩
   case round =>
    obtain ⟨wq,rfl⟩:∃ wq,wq=wr:=⟨_,rfl⟩
    obtain ⟨k,hk,rfl,hkl,hgr,hc0,hc1,hzr⟩:=hrel
    have HKL:=Lib.hid hkl
    have HGR:=Lib.hid hgr
    clear hkl hgr
    have hlt2:w.heap.size<wq.heap.size:=by omega
    by_cases hlt:k<N
    ·go_wp2
     go_loopw [9,38] (fun v i wr=>∃ j:Nat,j<=c.needs.length∧i=.int .i64 j∧wr.ownsRow (wq.heap.size+2) 3 1 v (aO k j).length ((aO k j).map (Value.int .i64)) ∧
      (∀ m,m<c.needs.length->wr.cell? ⟨wq.heap.size+1,m,none⟩=some (.int .i64 ((subN c.needs k j)[m]?.getD 0))∧wr.frozen? ⟨wq.heap.size+1,m,none⟩=false) ∧
      wr.cell? ⟨wq.heap.size,0,none⟩=some (.slice (some ⟨wq.heap.size+1,0,none⟩) c.needs.length c.needs.length)∧wr.cell? ⟨wq.heap.size,1,none⟩=some (.slice hA c.herders.length hc)∧Gr wq wr∧wq.heap.size+2<=wr.heap.size) (fun _ i _=>c.needs.length - (intOf i).toNat)
     case atStart =>
      refine ⟨0,by omega,rfl,World.ownsRow_nil _ _ _ _,fun m hm=>⟨?_,?_⟩,?_,?_,((Gr.refl wq).alloc _).alloc _,by simp⟩
      ·rw [World.cell?_alloc_at _ _ _ _ (by simp),dc _ _ hm,dv _ _ _ _ hm];simp
      ·rw [World.frozen?_alloc_at _ _ _ _ (by simp)]
      ·rw [World.cell?_alloc_past _ _ _ (by simp),World.cell?_alloc_at _ _ _ _ rfl];rfl
      ·rw [World.cell?_alloc_past _ _ _ (by simp),World.cell?_alloc_at _ _ _ _ rfl];rfl
     case round =>
      obtain ⟨j,hj,rfl,hown,hcs,hx0,hx1,hgi,hzi⟩:=hrel
      have HGI:=Lib.hid hgi
      have HCS:=Lib.hid hcs
      clear hgi hcs
      have hlt3:w.heap.size<wr.heap.size:=by omega
      have hc0i:wr.cell? ⟨w.heap.size,0,none⟩=some (.slice nA c.needs.length nc):=(HGI.out.cell (by show w.heap.size<_;omega)).trans hc0
      by_cases hjn:j<c.needs.length
      ·obtain ⟨nb,no,rfl,hnb,hnc⟩:=(HN.out.gr hB (HGR.out.trans HGI.out)).at_ hjn
       have HS:=Lib.hid (j9 k j)
       have hle:=ii k j
       obtain ⟨hcj,hfj⟩:=HCS.out j hjn
       have HBIT:Hid ((bits BinOp.and IntKind.i64 ((k:Int) / 2 ^ j) 1==1)=k.testBit j):=Lib.hid (qX ⟨k,by omega⟩ ⟨j,by omega⟩)
       obtain ⟨x,hx⟩:∃ x,x=c.needs[j]?.getD 0:=⟨_,rfl⟩
       rw [<- hx] at hnc
       have HX:=Lib.hid hx
       clear hx
       cases hb:k.testBit j with
       | true =>
        rw [hb] at HS HBIT
        have hbit:=HBIT.out
        have HB:=Lib.hid hb
        clear hb
        have hwl:=hown.lt
        go_wp2_with (at_builtin;refine ij rfl _ _ rfl (wq.heap.size+2) _ _ _ rfl ((ownsRow_setCell_below hown (by show wq.heap.size+1<_;omega) _).alloc _) ⟨wr.heap.size,0,none⟩ 1 (.int .i64 j) rfl ?c1 rfl ?c2 ?c3 ?_)
        case c2=>omega
        case c3=>(try simp);omega
        intro v' w3 hown' hgrow hd
        have hG3:Gr wq w3:=((HGI.out.setCell (p:=⟨wq.heap.size+1,j,none⟩) (by show _<=wq.heap.size+1;omega) _).alloc _).grown hgrow hd fun q hq=>by have:=(hwl q hq).1;omega
        have hfar:∀ b o,b<wq.heap.size+2->w3.cell? ⟨b,o,none⟩=(wr.setCell ⟨wq.heap.size+1,j,none⟩ (.int .i64 x)).cell? ⟨b,o,none⟩∧w3.frozen? ⟨b,o,none⟩=(wr.setCell ⟨wq.heap.size+1,j,none⟩ (.int .i64 x)).frozen? ⟨b,o,none⟩:=fun b o hb=>by
         have hne:some b≠_:=db hown (show b<wq.heap.size+2 from hb)
         have hbk:=hgrow.block b (by simp [World.setCell];omega) hne
         have hbk2:=hbk.trans (heap_alloc_old _ _ (by simp [World.setCell];omega))
         exact ⟨World.cell?_of_block hbk2,World.frozen?_of_block hbk2⟩
        have HCS3:Hid (∀ m,m<c.needs.length->w3.cell? ⟨wq.heap.size+1,m,none⟩=some (.int .i64 ((subN c.needs k (j+1))[m]?.getD 0))∧w3.frozen? ⟨wq.heap.size+1,m,none⟩=false):=Lib.hid fun m hm=>by
         obtain ⟨e1,e2⟩:=hfar (wq.heap.size+1) m (by omega)
         refine ⟨e1.trans ?_,e2.trans ((World.frozen?_setCell _ _ _ _).trans (HCS.out m hm).2)⟩
         by_cases hmj:m=j
         ·subst hmj
          rw [World.cell?_setCell_same _ _ _ hcj,kh hm,if_pos HB.out,HX.out]
         ·rw [World.cell?_setCell_other _ _ _ _ (by simp [hmj]),(HCS.out m hm).1,kg hm hmj]
        have H0:Hid (w3.cell? ⟨wq.heap.size,0,none⟩=some (.slice (some ⟨wq.heap.size+1,0,none⟩) c.needs.length c.needs.length)∧w3.cell? ⟨wq.heap.size,1,none⟩=some (.slice hA c.herders.length hc)):=Lib.hid
         ⟨(hfar _ _ (by omega)).1.trans ((World.cell?_setCell_other _ _ _ _ (by simp)).trans hx0),(hfar _ _ (by omega)).1.trans ((World.cell?_setCell_other _ _ _ _ (by simp)).trans hx1)⟩
        have HO3:Hid (w3.ownsRow (wq.heap.size+2) 3 1 v' (aO k (j+1)).length ((aO k (j+1)).map (Value.int .i64))):=Lib.hid (by rw [HS.out];simpa using hown')
        have HG3:=Lib.hid hG3
        have hz3:wq.heap.size+2<=w3.heap.size:=by have:=hgrow.size;simp [World.setCell] at this;omega
        clear hown' hgrow hd hG3 hfar hcj hfj hown hx0 hx1 hbit
        go_wp2
        go_roundw
        case rel=>exact ⟨j+1,by omega,by go_num,HO3.out,HCS3.out,H0.out.1,H0.out.2,HG3.out,hz3⟩
        case measure=>simp [intOf];omega
       | false =>
        rw [hb] at HS HBIT
        have hbit:=HBIT.out
        have HB:=Lib.hid hb
        clear hb
        have HCS3:Hid (∀ m,m<c.needs.length->wr.cell? ⟨wq.heap.size+1,m,none⟩=some (.int .i64 ((subN c.needs k (j+1))[m]?.getD 0))∧wr.frozen? ⟨wq.heap.size+1,m,none⟩=false):=Lib.hid fun m hm=>by
         refine ⟨?_,(HCS.out m hm).2⟩
         by_cases hmj:m=j
         ·subst hmj
          rw [hcj,kh hm,pJ hm,if_neg (by rw [HB.out];simp)]
         ·rw [(HCS.out m hm).1,kg hm hmj]
        have HO3:Hid (wr.ownsRow (wq.heap.size+2) 3 1 _ (aO k (j+1)).length ((aO k (j+1)).map (Value.int .i64))):=Lib.hid (by rw [HS.out];simpa using hown)
        have HH0:=Lib.hid hx0
        have HH1:=Lib.hid hx1
        clear hown hcj hfj hx0 hx1
        go_wp2
        go_roundw
        case rel=>exact ⟨j+1,by omega,by go_num,HO3.out,HCS3.out,HH0.out,HH1.out,HGI.out,hzi⟩
        case measure=>simp [intOf];omega
      ·have hjn2:j=c.needs.length:=by omega
       clear hjn hj
       have hlen:(subC c k).needs.length=c.needs.length:=gF _ _ _
       have hri:RI wr wr.heap.size (some ⟨wq.heap.size+1,0,none⟩) (subC c k).needs:=fun _=>⟨_,0,rfl,by omega,fun m y hm=>by
        have hml:m<c.needs.length:=by rw [<- hlen];exact (List.getElem?_eq_some_iff.1 hm).1
        rw [Nat.zero_add,(HCS.out m hml).1,hjn2]
        have:(subC c k).needs=subN c.needs k c.needs.length:=rfl
        rw [<- this,hm];rfl⟩
       have HST : Hid (Calls Sq.prog 70 #[.agg #[.slice (some ⟨wq.heap.size + 1, 0, none⟩) c.needs.length c.needs.length, .slice hA c.herders.length hc]] wr fun e w' => e = .returned (.pointer (some ⟨wr.heap.size + 1, 0, none⟩)) ∧ Gr wr w' ∧ ∃ g cap, wr.heap.size + 2 <= g ∧
         CampK w' (kOf wr.heap.size (wr.heap.size+1) g) (wr.heap.size+1) (subC c k) (setsL c.herders.length) (some ⟨wq.heap.size+1,0,none⟩) hA c.needs.length hc g cap):=Lib.hid (by
        have:=ig (some ⟨wq.heap.size+1,0,none⟩) hA c.needs.length hc (subC c k) wr wr.heap.size (Nat.le_refl _) hri (((HH.out.keep fun b o hb=>(HGR.out.trans HGI.out).cell (Nat.lt_of_lt_of_le hb hB))).more (by have:=(HGR.out.trans HGI.out).size;omega)) HOK.out.h4
        unfold campV at this
        rw [hlen] at this
        exact this.mono fun e w' ⟨h1,h2,g,cap,h3,h4,_⟩=>⟨h1,h2,g,cap,h3,h4⟩)
       have hown2:=hown
       rw [hjn2] at hown2
       have hrow:∃ A c',u9=Value.slice A (aO k c.needs.length).length c'∧RIK wr (fun b=>b≠w2.heap.size∧b<wr.heap.size) A (aO k c.needs.length):=by
        obtain ⟨A,c',e,h⟩:=RI.of_own hown2
        refine ⟨A,c',e,fun hne=>?_⟩
        obtain ⟨b,o,e2,hb,hc2⟩:=h hne
        refine ⟨b,o,e2,⟨?_,hb⟩,hc2⟩
        have:=(hown2.lt b (by rw [e,e2];rfl)).1
        omega
       obtain ⟨A,c',rfl,hrik⟩:=hrow
       have HRIK:=Lib.hid hrik
       clear hri hown2 hown hrik
       go_wp2_with fail
       refine HST.out.mono ?_
       rintro e w3 ⟨rfl,hg3,g3,cap3,hg3l,hK3⟩
       have HG3:=Lib.hid hg3
       have HS3:=Lib.hid (oa (c:=subC c k) w3 (qW HOK.out k) hK3)
       clear hg3 hK3 HST
       obtain ⟨v,hv⟩:∃ v,v=isSome (subC c k):=⟨_,rfl⟩
       rw [<- hv] at HS3
       have HV:=Lib.hid hv
       clear hv
       cases v with
       | true =>
        go_wp2_with fail
        refine HS3.out.mono ?_
        rintro e w4 ⟨rfl,hg4⟩
        have HG4:=Lib.hid (HGI.out.trans (HG3.out.trans hg4))
        have HK4:Hid (KeepL w4 w2.heap.size (clashN c (k+1))):=Lib.hid (by
         have:clashN c (k+1)=clashN c k:=by show (if _ then _ else _)=_;rw [if_pos HV.out.symm]
         rw [this];exact HKL.out.gr HG4.out)
        clear hg4
        go_wp2
        go_roundw
        case rel=>exact ⟨k+1,by omega,by go_num,HK4.out,HGR.out.trans HG4.out,(HG4.out.cell hlt2).trans hc0,(HG4.out.cell hlt2).trans hc1,by have:=HG4.out.size;omega⟩
        case measure=>simp [intOf];omega
       | false =>
        go_wp2_with fail
        refine HS3.out.mono ?_
        rintro e w4 ⟨rfl,hg4⟩
        have HG4:=Lib.hid (HGI.out.trans (HG3.out.trans hg4))
        have hg4w:=HG3.out.trans hg4
        have HOFF:=Lib.hid (qV w2.heap.size A c' (aO k c.needs.length) (clashN c k) w4 (HKL.out.gr HG4.out) (fun hne=>by
         obtain ⟨b,o,e2,hb,hc2⟩:=HRIK.out hne
         exact ⟨b,o,e2,⟨hb.1,Nat.lt_of_lt_of_le hb.2 hg4w.size⟩,fun i y hy=>(hg4w.cell (p:=⟨b,o+i,none⟩) hb.2).trans (hc2 i y hy)⟩) (by have:=ii k c.needs.length;omega))
        clear hg4 hg4w
        go_wp2_with fail
        refine HOFF.out.mono ?_
        rintro e w5 ⟨rfl,hk5,hkl5⟩
        have HK5:Hid (KeepL w5 w2.heap.size (clashN c (k+1))):=Lib.hid (by
         have:clashN c (k+1)=some (bestL (clashN c k) (aO k c.needs.length)):=by show (if _ then _ else _)=_;rw [if_neg (by rw [<- HV.out];simp)]
         rw [this];exact hkl5)
        have HG5:=Lib.hid (KT.gr (HGR.out.trans HG4.out) hk5 (by rintro b rfl;omega))
        have hz4:=HG4.out.size
        have hd0:w5.cell? ⟨w.heap.size,0,none⟩=some (.slice nA c.needs.length nc):=(hk5.cell (p:=⟨w.heap.size,0,none⟩) (by show w.heap.size<_;omega) (by show w.heap.size≠_;omega)).trans ((HG4.out.cell hlt2).trans hc0)
        have hd1:w5.cell? ⟨w.heap.size,1,none⟩=some (.slice hA c.herders.length hc):=(hk5.cell (p:=⟨w.heap.size,1,none⟩) (by show w.heap.size<_;omega) (by show w.heap.size≠_;omega)).trans ((HG4.out.cell hlt2).trans hc1)
        have hz5:=hk5.size
        clear hk5 hkl5 HOFF
        go_wp2
        go_roundw
        case rel=>exact ⟨k+1,by omega,by go_num,HK5.out,HG5.out,hd0,hd1,by omega⟩
        case measure=>simp [intOf];omega
    ·have hkn:k=N:=by omega
     subst hkn
     have HEQ:Hid (clashN c (2 ^ c.needs.length)=clashN c k):=Lib.hid (by rw [<- HNN.out])
     obtain ⟨o,ho⟩:∃ o,o=clashN c k:=⟨_,rfl⟩
     rw [<- ho] at HKL HEQ
     clear ho hlt
     cases o with
     | none =>
      obtain ⟨d0,d1,d2,d3,df,dl⟩:=four_cells HKL.out
      go_wp2
      go_ret2
      refine ⟨HGR.out,?_⟩
      rw [if_neg (by simp [HE.out]),if_neg (by rw [<- HV.out];simp),HEQ.out]
      exact ⟨none,0,rfl,.nil⟩
     | some b =>
      obtain ⟨bA,bc,hkb,hbl,hrk⟩:=HKL.out
      obtain ⟨d0,d1,d2,d3,df,dl⟩:=four_cells hkb
      have HRK:=Lib.hid hrk
      clear hkb hrk
      go_wp2
      go_ret2
      refine ⟨HGR.out,?_⟩
      rw [if_neg (by simp [HE.out]),if_neg (by rw [<- HV.out];simp),HEQ.out]
      exact ⟨bA,bc,rfl,RIK.ri HRK.out fun b hb=>hb.2⟩
 ·rw [if_neg hE] at hbeg
  subst hbeg
  have HE:=Lib.hid hE
  obtain ⟨k,hk⟩:∃ k,k=checkE c:=⟨_,rfl⟩
  rw [<- hk] at hE ⊢
  have HK:=Lib.hid hk
  clear hk hg1 HBEG
  go_wp2
  go_ret2
  refine ⟨HG0.out.trans HG1.out,?_⟩
  rw [if_pos HE.out]
  show Ending.returned (.tuple #[.slice none 0 0,.int .i64 k])=_
  rw [HK.out]
end Go.Proofs.YtgicaeombogkcaaGreat
namespace Go.Sq
open Go.RowKit
def formedE (c:Camp) (ls:List (List Int)):Int :=
 if checkE c≠0 then checkE c else if manyE ls.length c.needs.length c.needs.length≠0 then manyE ls.length c.needs.length c.needs.length else be (ls.map fun l=>ascE l c.herders.length)
def rosOf (ls:List (List Int)):Ros:=fun i=>ofL (ls[i]?.getD [])
theorem RosC5 {w:World} {b:Nat} {r:Ros} (h:∀ i,i<5->w.cell? ⟨b,i,none⟩=some (.int .u8 (r i))) :
  w.cell? ⟨b,0,none⟩=some (.int .u8 (r 0))∧w.cell? ⟨b,1,none⟩=some (.int .u8 (r 1))∧w.cell? ⟨b,2,none⟩=some (.int .u8 (r 2))∧w.cell? ⟨b,3,none⟩=some (.int .u8 (r 3))∧w.cell? ⟨b,4,none⟩=some (.int .u8 (r 4)) :=
 ⟨h 0 (by omega),h 1 (by omega),h 2 (by omega),h 3 (by omega),h 4 (by omega)⟩
def put5 (w:World) (b:Nat) (v0 v1 v2 v3 v4:Value):World:=((((w.setCell ⟨b,0,none⟩ v0).setCell ⟨b,1,none⟩ v1).setCell ⟨b,2,none⟩ v2).setCell ⟨b,3,none⟩ v3).setCell ⟨b,4,none⟩ v4
theorem dp {w:World} {b:Nat} {r:Ros} (h:∀ i,i<5->w.cell? ⟨b,i,none⟩=some (.int .u8 (r i))) (v0 v1 v2 v3 v4:Value) :
  (put5 w b v0 v1 v2 v3 v4).cell? ⟨b,0,none⟩=some v0∧(put5 w b v0 v1 v2 v3 v4).cell? ⟨b,1,none⟩=some v1∧(put5 w b v0 v1 v2 v3 v4).cell? ⟨b,2,none⟩=some v2∧(put5 w b v0 v1 v2 v3 v4).cell? ⟨b,3,none⟩=some v3∧(put5 w b v0 v1 v2 v3 v4).cell? ⟨b,4,none⟩=some v4:=by
 have ne:∀ (W:World) (i j:Nat) (v:Value),i≠j->(W.setCell ⟨b,i,none⟩ v).cell? ⟨b,j,none⟩=W.cell? ⟨b,j,none⟩:=fun W i j v hij=>World.cell?_setCell_other _ _ _ _ (by simp [Ne.symm hij])
 obtain ⟨h0,h1,h2,h3,h4⟩:=RosC5 h
 unfold put5
 refine ⟨?_,?_,?_,?_,?_⟩
 ·rw [ne _ _ _ _ (by decide),ne _ _ _ _ (by decide),ne _ _ _ _ (by decide),ne _ _ _ _ (by decide)];exact World.cell?_setCell_same _ _ _ h0
 ·rw [ne _ _ _ _ (by decide),ne _ _ _ _ (by decide),ne _ _ _ _ (by decide)];exact World.cell?_setCell_same _ _ _ (by rw [ne _ _ _ _ (by decide)];exact h1)
 ·rw [ne _ _ _ _ (by decide),ne _ _ _ _ (by decide)];exact World.cell?_setCell_same _ _ _ (by rw [ne _ _ _ _ (by decide),ne _ _ _ _ (by decide)];exact h2)
 ·rw [ne _ _ _ _ (by decide)];exact World.cell?_setCell_same _ _ _ (by rw [ne _ _ _ _ (by decide),ne _ _ _ _ (by decide),ne _ _ _ _ (by decide)];exact h3)
 ·exact World.cell?_setCell_same _ _ _ (by rw [ne _ _ _ _ (by decide),ne _ _ _ _ (by decide),ne _ _ _ _ (by decide),ne _ _ _ _ (by decide)];exact h4)
theorem il (w:World) (b:Nat) (v0 v1 v2 v3 v4:Value) {k:Nat} (hk:k≠b):(put5 w b v0 v1 v2 v3 v4).heap[k]?=w.heap[k]?:=by
 unfold put5
 rw [Below.heap_setCell _ _ _ _ (by exact hk),Below.heap_setCell _ _ _ _ (by exact hk),Below.heap_setCell _ _ _ _ (by exact hk),Below.heap_setCell _ _ _ _ (by exact hk),Below.heap_setCell _ _ _ _ (by exact hk)]
theorem ep {w0 w:World} {b:Nat} (h:Gr w0 w) (hb:w0.heap.size<=b) (v0 v1 v2 v3 v4:Value):Gr w0 (put5 w b v0 v1 v2 v3 v4):=((((h.setCell (p:=⟨b,0,none⟩) hb v0).setCell (p:=⟨b,1,none⟩) hb v1).setCell (p:=⟨b,2,none⟩) hb v2).setCell (p:=⟨b,3,none⟩) hb v3).setCell (p:=⟨b,4,none⟩) hb v4
theorem ja (w:World) (b:Nat) (v0 v1 v2 v3 v4:Value):(put5 w b v0 v1 v2 v3 v4).heap.size=w.heap.size:=by simp [put5,World.setCell]
end Go.Sq
namespace Go.Proofs.YtgicaeombogkcaaGreat
open Go.RowKit Go.Sq
def sd (nA hA:Option Addr) (nc hc:Nat) (c:Camp) (ls:List (List Int)) (B:Nat) (w:World) (e:Ending) (w':World):Prop :=
 Gr w w' ∧ if formedE c ls = 0 then ∃ cb g cap, e = .returned (.tuple #[.pointer (some ⟨cb, 0, none⟩), rosV (rosOf ls), .int .i64 0]) ∧ w.heap.size <= cb ∧ cb < g ∧ CampK w' (kOf B cb g) cb c (setsL c.herders.length) nA hA nc hc g cap
   else ∃ (p:Value) (r:Ros),e=.returned (.tuple #[p,rosV r,.int .i64 (formedE c ls)])
structure FW (nA hA:Option Addr) (nc hc:Nat) (c:Camp) (K:Nat->Prop) (cb g cap:Nat) (w:World) (r:Ros) (wr:World):Prop where
 x5:∀ i,i<5->wr.cell? ⟨w.heap.size+1,i,none⟩=some (.int .u8 ((fun _=>0:Ros) i:Nat))
 f5:∀ i,i<5->wr.frozen? ⟨w.heap.size+1,i,none⟩=false
 x7:∀ i,i<5->wr.cell? ⟨w.heap.size+2,i,none⟩=some (.int .u8 (r i:Nat))
 f7:∀ i,i<5->wr.frozen? ⟨w.heap.size+2,i,none⟩=false
 c0:wr.cell? ⟨w.heap.size,0,none⟩=some (.slice nA c.needs.length nc)
 c1:wr.cell? ⟨w.heap.size,1,none⟩=some (.slice hA c.herders.length hc)
 K:CampK wr K cb c (setsL c.herders.length) nA hA nc hc g cap
 gr:Gr w wr
theorem FW.set {nA hA:Option Addr} {nc hc:Nat} {c:Camp} {K:Nat->Prop} {cb g cap:Nat} {w wr:World} {r:Ros} (h:FW nA hA nc hc c K cb g cap w r wr) (hK:¬ K (w.heap.size+2)) {k x:Nat} (hk:k<5) :
  FW nA hA nc hc c K cb g cap w (upd r k x) (wr.setCell ⟨w.heap.size+2,k,none⟩ (.int .u8 (x:Int))):=by
 have ho:∀ b o,b≠w.heap.size+2->(wr.setCell ⟨w.heap.size+2,k,none⟩ (.int .u8 (x:Int))).cell? ⟨b,o,none⟩=wr.cell? ⟨b,o,none⟩:=fun b o hb=>World.cell?_setCell_other _ _ _ _ (fun e=>hb (congrArg Addr.block e).symm)
 refine ⟨fun i hi=>(ho _ _ (by omega)).trans (h.x5 i hi),fun i hi=>(World.frozen?_setCell _ _ _ _).trans (h.f5 i hi),fun i hi=>?_,fun i hi=>(World.frozen?_setCell _ _ _ _).trans (h.f7 i hi),(ho _ _ (by omega)).trans h.c0,(ho _ _ (by omega)).trans h.c1,h.K.keep (by simp [World.setCell]) fun b o hb=>ho b o fun e=>hK (e▸hb),h.gr.setCell (by show _<=w.heap.size+2;omega) _⟩
 unfold upd
 by_cases e:i=k
 ·subst e;rw [if_pos rfl];exact World.cell?_setCell_same _ _ _ (h.x7 i hi)
 ·rw [if_neg e];exact (World.cell?_setCell_other _ _ _ _ (by simp [e])).trans (h.x7 i hi)
theorem FW.fin {nA hA:Option Addr} {nc hc:Nat} {c:Camp} {K:Nat->Prop} {cb g cap:Nat} {w wr:World} {r:Ros} (h:FW nA hA nc hc c K cb g cap w r wr) (hK:¬ K (w.heap.size+1)) (v0 v1 v2 v3 v4:Value) :
  CampK (put5 wr (w.heap.size+1) v0 v1 v2 v3 v4) K cb c (setsL c.herders.length) nA hA nc hc g cap∧Gr w (put5 wr (w.heap.size+1) v0 v1 v2 v3 v4) :=
 ⟨h.K.keep (by rw [ja];exact Nat.le_refl _) fun b o hb=>World.cell?_of_block (il _ _ _ _ _ _ _ fun e=>hK (e▸hb)),ep h.gr (by omega) _ _ _ _ _⟩
theorem _root_.Go.Sq.CampK.drew {w:World} {K:Nat->Prop} {cb:Nat} {c:Camp} {sets:List Nat} {nA hA:Option Addr} {nc hc sb sc:Nat} (h:CampK w K cb c sets nA hA nc hc sb sc):CampK w.drew K cb c sets nA hA nc hc sb sc :=
 h.keep (Nat.le_refl _) fun _ _ _=>rfl
def rosN (ls:List (List Int)) (k:Nat):Ros:=fun i=>if i<k then ofL (ls[i]?.getD []) else 0
theorem pK (ls:List (List Int)) (k:Nat):upd (rosN ls k) k (ofL (ls[k]?.getD []))=rosN ls (k+1):=by
 funext i
 unfold upd rosN
 by_cases e:i=k
 ·subst e;rw [if_pos rfl,if_pos (by omega)]
 ·rw [if_neg e]
  by_cases h:i<k
  ·rw [if_pos h,if_pos (by omega)]
  ·rw [if_neg h,if_neg (by omega)]
theorem pL (ls:List (List Int)):rosN ls ls.length=rosOf ls:=by
 funext i
 unfold rosN rosOf
 by_cases h:i<ls.length
 ·rw [if_pos h]
 ·rw [if_neg h,List.getElem?_eq_none (by omega)];rfl
theorem im (ls:List (List Int)) (n:Int) {i:Nat} (hi:i<ls.length):(ls.map fun l=>ascE l n)[i]?.getD 0=ascE (ls[i]?.getD []) n:=by simp [hi]
theorem eP (nA hA gA:Option Addr) (nc hc gc:Nat) (c:Camp) (ls:List (List Int)) (w:World) (B:Nat) (hB:B<=w.heap.size) (hn:RI w B nA c.needs) (hh:HsAt w B hA c.herders) (hg:GrAt w B gA ls)
  (hl1:c.needs.length<=4611686018427387904) (hl2:c.herders.length<=4611686018427387904) (hlo:∀ h∈c.herders,h.off.length<=4611686018427387904) (hl3:ls.length<=4611686018427387904) (hl4:∀ x∈ls,x.length<=4611686018427387904) :
  Calls Sq.prog 64 #[campV nA hA c nc hc,.slice gA ls.length gc] w (sd nA hA nc hc c ls B w):=by
 have HG:=Lib.hid hg
 have HL4:=Lib.hid hl4
 unfold campV
 obtain ⟨W0,hW0⟩:∃ W0:World,W0=((w.alloc (.cells #[.slice nA c.needs.length nc,.slice hA c.herders.length hc] 25)).alloc (.cells #[.int .u8 0,.int .u8 0,.int .u8 0,.int .u8 0,.int .u8 0] 91)).alloc (.cells #[.int .u8 0,.int .u8 0,.int .u8 0,.int .u8 0,.int .u8 0] 91):=⟨_,rfl⟩
 have hg0:Gr w W0:=hW0▸(((Gr.refl w).alloc _).alloc _).alloc _
 have hz0:W0.heap.size=w.heap.size+3:=by rw [hW0];simp
 have HW:=Lib.hid hW0
 have HBEG:=Lib.hid (iP nA hA nc hc c W0 B (by omega) (hn.gr hB hg0) (hh.keep fun b o hb=>hg0.cell (Nat.lt_of_lt_of_le hb hB)) hl1 hl2 hlo)
 have HG0:=Lib.hid hg0
 have hcm:W0.cell? ⟨w.heap.size,0,none⟩=some (.slice nA c.needs.length nc)∧W0.cell? ⟨w.heap.size,1,none⟩=some (.slice hA c.herders.length hc):=by
  rw [hW0]
  constructor
  all_goals rw [World.cell?_alloc_past _ _ _ (by simp;omega),World.cell?_alloc_past _ _ _ (by simp),World.cell?_alloc_at _ _ _ _ rfl];rfl
 have HCM:=Lib.hid hcm
 have hz5:∀ i,i<5->W0.cell? ⟨w.heap.size+1,i,none⟩=some (.int .u8 ((fun _=>0:Ros) i:Nat))∧W0.cell? ⟨w.heap.size+2,i,none⟩=some (.int .u8 ((fun _=>0:Ros) i:Nat))∧W0.frozen? ⟨w.heap.size+1,i,none⟩=false∧W0.frozen? ⟨w.heap.size+2,i,none⟩=false:=fun i hi=>by
  rw [hW0,World.cell?_alloc_past _ _ _ (by simp),World.frozen?_alloc_past _ _ _ (by simp),World.cell?_alloc_at _ _ _ _ (by simp),World.cell?_alloc_at _ _ _ _ (by simp),World.frozen?_alloc_at _ _ _ _ (by simp),World.frozen?_alloc_at _ _ _ _ (by simp)]
  match i,hi with
  | 0,_=>exact ⟨rfl,rfl,rfl,rfl⟩
  | 1,_=>exact ⟨rfl,rfl,rfl,rfl⟩
  | 2,_=>exact ⟨rfl,rfl,rfl,rfl⟩
  | 3,_=>exact ⟨rfl,rfl,rfl,rfl⟩
  | 4,_=>exact ⟨rfl,rfl,rfl,rfl⟩
 have HZ5:=Lib.hid hz5
 clear hW0 hg0 hn hh hg hl4 hlo hcm hz5
 go_enter Sq.func64,Tryz.ntmps64
 unfold campV at HBEG
 go_wp2_with fail
 rw [<- HW.out]
 refine HBEG.out.mono ?_
 rintro e w1 ⟨hg1,hbeg⟩
 have HG1:=Lib.hid hg1
 by_cases hE:checkE c=0
 ·rw [if_pos hE] at hbeg
  obtain ⟨cb,g,cap,rfl,hcb,hcg,hK,_⟩:=hbeg
  have HK:=Lib.hid hK
  have HE:=Lib.hid hE
  have HOK:=Lib.hid (Camp.Ok.of hE)
  have hnk2:¬ kOf B cb g (w.heap.size+2)∧¬ kOf B cb g (w.heap.size+1):=by unfold kOf;omega
  have HNK:=Lib.hid hnk2
  have hn5:=HOK.out.n5
  have hh4:=HOK.out.h4
  have hfw:FW nA hA nc hc c (kOf B cb g) cb g cap w (rosN ls 0) w1:=by
   have h5:∀ i,i<5->w1.cell? ⟨w.heap.size+1,i,none⟩=some (.int .u8 ((fun _=>0:Ros) i:Nat))∧w1.cell? ⟨w.heap.size+2,i,none⟩=some (.int .u8 ((fun _=>0:Ros) i:Nat))∧w1.frozen? ⟨w.heap.size+1,i,none⟩=false∧w1.frozen? ⟨w.heap.size+2,i,none⟩=false:=fun i hi=>by
    obtain ⟨a,b,c,d⟩:=HZ5.out i hi
    exact ⟨(HG1.out.cell (by show w.heap.size+1<_;omega)).trans a,(HG1.out.cell (by show w.heap.size+2<_;omega)).trans b,(HG1.out.frozen (by show w.heap.size+1<_;omega)).trans c,(HG1.out.frozen (by show w.heap.size+2<_;omega)).trans d⟩
   exact ⟨fun i hi=>(h5 i hi).1,fun i hi=>(h5 i hi).2.2.1,fun i hi=>by rw [(h5 i hi).2.1];simp [rosN],fun i hi=>(h5 i hi).2.2.2,(HG1.out.cell (by show w.heap.size<_;omega)).trans HCM.out.1,(HG1.out.cell (by show w.heap.size<_;omega)).trans HCM.out.2,hK,HG0.out.trans hg1⟩
  clear hg1 hK HBEG hE hnk2
  have HFW:=Lib.hid hfw
  have hc0:=hfw.c0
  have hc1:=hfw.c1
  clear hfw
  by_cases hM:manyE ls.length c.needs.length c.needs.length=0
  ·have hlen:c.needs.length=ls.length:=by have:=cg.1 hM;omega
   have HM:=Lib.hid hM
   have HF:=Lib.hid (show formedE c ls=be (ls.map fun l=>ascE l c.herders.length) by unfold formedE;rw [if_neg (by simp [HE.out]),if_neg (by simp [hM])])
   have hcall:Calls Sq.prog 84 #[.int .i64 ls.length,.int .i64 c.needs.length,.int .i64 c.needs.length] w1 fun e w'=>e=.returned (.int .i64 0)∧w1=w':=by rw [<- hM];exact fI _ _ _ _
   have HCALL:=Lib.hid hcall
   have HLEN:=Lib.hid hlen
   have hl5:ls.length<=5:=by omega
   clear hM hcall hlen
   go_wp2_with (go_at_call 84;refine HCALL.out.mono ?_;rintro e w' ⟨rfl,rfl⟩)
   go_loopw [38] (fun i wr=>∃ k:Nat,k<=ls.length∧i=.int .i64 k∧FW nA hA nc hc c (kOf B cb g) cb g cap w (rosN ls k) wr∧∀ j,j<k->ascE (ls[j]?.getD []) c.herders.length=0) (fun i _=>ls.length - (intOf i).toNat)
   case atStart=>exact ⟨0,by omega,rfl,HFW.out,fun j hj=>absurd hj (by omega)⟩
   case round =>
    obtain ⟨k,hk,rfl,hfw,hz⟩:=hrel
    have HF2:=Lib.hid hfw
    have HZ:=Lib.hid hz
    have hc0:=hfw.c0
    have hc1:=hfw.c1
    obtain ⟨a0,a1,a2,a3,a4⟩:=RosC5 hfw.x5
    obtain ⟨b0,b1,b2,b3,b4⟩:=RosC5 hfw.x7
    have c0:=hfw.f5 0 (by omega)
    have c1:=hfw.f5 1 (by omega)
    have c2:=hfw.f5 2 (by omega)
    have c3:=hfw.f5 3 (by omega)
    have c4:=hfw.f5 4 (by omega)
    have HS5:=Lib.hid (dp hfw.x5)
    clear hfw hz
    by_cases hlt:k<ls.length
    ·obtain ⟨b,o,A',c',rfl,hb,hcl,hri⟩:=(HG.out.gr hB HF2.out.gr).at_ hlt
     have hx:=HL4.out _ (eN ls k hlt)
     have HA:=Lib.hid (im ls c.herders.length hlt)
     have HU:=Lib.hid (pK ls k)
     generalize ls[k]?.getD []=l at hcl hri hx HA HU
     have HASC:=Lib.hid (gi A' c' l c.herders.length wr B hri hx (by omega) (by omega))
     have HRI:=Lib.hid hri
     clear hri
     by_cases hE:ascE l c.herders.length=0
     ·rw [hE] at HASC
      have hok:=ascE_ok hE
      have HOF:=Lib.hid (of_t A' c' l wr B HRI.out hx fun x hx=>by have:=hok.1 x hx;omega)
      have HZ2:Hid (∀ j,j<k+1->ascE (ls[j]?.getD []) c.herders.length=0):=Lib.hid fun j hj=>by
       rcases Nat.lt_or_ge j k with h | h
       ·exact HZ.out j h
       ·have:j=k:=by omega
        subst this
        have:=HA.out
        rw [hE] at this
        rw [<- im ls _ hlt];exact this
      have HF3:Hid (FW nA hA nc hc c (kOf B cb g) cb g cap w (rosN ls (k+1)) (wr.setCell ⟨w.heap.size+2,k,none⟩ (.int .u8 (ofL l:Int)))):=Lib.hid (by rw [<- HU.out];exact HF2.out.set HNK.out.1 (by omega))
      have hfz:=HF2.out.f7 k (by omega)
      have hck:=HF2.out.x7 k (by omega)
      clear hok hE HU HA HRI HZ
      generalize ofL l=x at HOF HF3
      clear HF2 a0 a1 a2 a3 a4 b0 b1 b2 b3 b4 c0 c1 c2 c3 c4 HS5
      go_wp2_with (first | (go_at_call 85;refine HASC.out.mono ?_;rintro e w' ⟨rfl,rfl⟩) | (go_at_call 101;refine HOF.out.mono ?_;rintro e w' ⟨rfl,rfl⟩))
      go_roundw
      case rel=>exact ⟨k+1,by omega,by go_num,HF3.out,HZ2.out⟩
      case measure=>simp [intOf];omega
     ·have HFE := Lib.hid (show formedE c ls = ascE l c.herders.length by
       rw [HF.out,bZ (k:=k) (by simpa using hlt) (fun i hi=>by rw [im ls _ (by omega)];exact HZ.out i hi) (by rw [HA.out];exact hE),HA.out])
      have HEE:=Lib.hid hE
      clear hE HU HA HRI HZ
      generalize ascE l c.herders.length=q at HASC HFE HEE
      have hqe:(q != 0)=true:=by simp [HEE.out]
      go_wp2_with (go_at_call 85;refine HASC.out.mono ?_;rintro e w' ⟨rfl,rfl⟩)
      have HFG:=Lib.hid (HF2.out.fin HNK.out.2 (.int .u8 (rosN ls k 0:Nat)) (.int .u8 (rosN ls k 1:Nat)) (.int .u8 (rosN ls k 2:Nat)) (.int .u8 (rosN ls k 3:Nat)) (.int .u8 (rosN ls k 4:Nat))).2
      go_region
      all_goals
       go_wp2
       obtain ⟨s0,s1,s2,s3,s4⟩:=HS5.out (.int .u8 (rosN ls k 0:Nat)) (.int .u8 (rosN ls k 1:Nat)) (.int .u8 (rosN ls k 2:Nat)) (.int .u8 (rosN ls k 3:Nat)) (.int .u8 (rosN ls k 4:Nat))
       unfold put5 at s0 s1 s2 s3 s4
       refine bodyPost_ret (v:=.tuple #[.pointer none,rosV (rosN ls k),.int .i64 q]) (by simp [results,Tryz.results64,go_sem,rosV,s0,s1,s2,s3,s4]) rfl ⟨?_,?_⟩
       ·first | exact HFG.out | exact HFG.out.drew
       ·rw [if_neg (HFE.out▸HEE.out),HFE.out];exact ⟨_,_,rfl⟩
    ·have hkn:k=ls.length:=by omega
     subst hkn
     clear hlt
     rw [pL] at HF2 b0 b1 b2 b3 b4
     obtain ⟨HFK,HFG⟩:Hid (CampK (put5 wr (w.heap.size+1) (.int .u8 (rosOf ls 0:Nat)) (.int .u8 (rosOf ls 1:Nat)) (.int .u8 (rosOf ls 2:Nat)) (.int .u8 (rosOf ls 3:Nat)) (.int .u8 (rosOf ls 4:Nat))) (kOf B cb g) cb c (setsL c.herders.length) nA hA nc hc g cap)∧Hid (Gr w (put5 wr (w.heap.size+1) (.int .u8 (rosOf ls 0:Nat)) (.int .u8 (rosOf ls 1:Nat)) (.int .u8 (rosOf ls 2:Nat)) (.int .u8 (rosOf ls 3:Nat)) (.int .u8 (rosOf ls 4:Nat)))):=⟨Lib.hid (HF2.out.fin HNK.out.2 _ _ _ _ _).1,Lib.hid (HF2.out.fin HNK.out.2 _ _ _ _ _).2⟩
     have HZZ:=Lib.hid (show formedE c ls=0 by
      rw [HF.out]
      exact dY fun i hi=>by
       have hi':i<ls.length:=by simpa using hi
       rw [im ls _ hi'];exact HZ.out i hi')
     go_wp2
     go_region
     all_goals
      go_wp2
      obtain ⟨s0,s1,s2,s3,s4⟩:=HS5.out (.int .u8 (rosOf ls 0:Nat)) (.int .u8 (rosOf ls 1:Nat)) (.int .u8 (rosOf ls 2:Nat)) (.int .u8 (rosOf ls 3:Nat)) (.int .u8 (rosOf ls 4:Nat))
      unfold put5 at s0 s1 s2 s3 s4
      refine bodyPost_ret (v:=.tuple #[.pointer (some ⟨cb,0,none⟩),rosV (rosOf ls),.int .i64 0]) (by simp [results,Tryz.results64,go_sem,rosV,s0,s1,s2,s3,s4]) rfl ⟨?_,?_⟩
      ·first | exact HFG.out | exact HFG.out.drew
      ·rw [if_pos HZZ.out];exact ⟨cb,g,cap,rfl,by omega,hcg,by first | exact HFK.out | exact HFK.out.drew⟩
  ·have HFE:=Lib.hid (show formedE c ls=manyE ls.length c.needs.length c.needs.length by unfold formedE;rw [if_neg (by simp [HE.out]),if_pos hM])
   have HEE:=Lib.hid hM
   have HCALL:=Lib.hid (fI ls.length c.needs.length c.needs.length w1)
   clear hM
   generalize manyE ls.length c.needs.length c.needs.length=q at HFE HEE HCALL
   have hqe:(q != 0)=true:=by simp [HEE.out]
   obtain ⟨a0,a1,a2,a3,a4⟩:=RosC5 HFW.out.x5
   obtain ⟨b0,b1,b2,b3,b4⟩:=RosC5 HFW.out.x7
   have c0:=HFW.out.f5 0 (by omega)
   have c1:=HFW.out.f5 1 (by omega)
   have c2:=HFW.out.f5 2 (by omega)
   have c3:=HFW.out.f5 3 (by omega)
   have c4:=HFW.out.f5 4 (by omega)
   have hk0:=HFW.out.c0
   have hk1:=HFW.out.c1
   have HS5:=Lib.hid (dp HFW.out.x5)
   have HFG:=Lib.hid (HFW.out.fin HNK.out.2 (.int .u8 (rosN ls 0 0:Nat)) (.int .u8 (rosN ls 0 1:Nat)) (.int .u8 (rosN ls 0 2:Nat)) (.int .u8 (rosN ls 0 3:Nat)) (.int .u8 (rosN ls 0 4:Nat))).2
   go_wp2_with (go_at_call 84;refine HCALL.out.mono ?_;rintro e w' ⟨rfl,rfl⟩)
   go_region
   all_goals
    go_wp2
    obtain ⟨s0,s1,s2,s3,s4⟩:=HS5.out (.int .u8 (rosN ls 0 0:Nat)) (.int .u8 (rosN ls 0 1:Nat)) (.int .u8 (rosN ls 0 2:Nat)) (.int .u8 (rosN ls 0 3:Nat)) (.int .u8 (rosN ls 0 4:Nat))
    unfold put5 at s0 s1 s2 s3 s4
    refine bodyPost_ret (v:=.tuple #[.pointer none,rosV (rosN ls 0),.int .i64 q]) (by simp [results,Tryz.results64,go_sem,rosV,s0,s1,s2,s3,s4]) rfl ⟨?_,?_⟩
    ·first | exact HFG.out | exact HFG.out.drew
    ·rw [if_neg (HFE.out▸HEE.out),HFE.out];exact ⟨_,_,rfl⟩
 ·rw [if_neg hE] at hbeg
  subst hbeg
  have HF:=Lib.hid (show formedE c ls=checkE c by unfold formedE;rw [if_pos hE])
  have h5:∀ i,i<5->w1.cell? ⟨w.heap.size+1,i,none⟩=some (.int .u8 ((fun _=>0:Ros) i:Nat))∧w1.cell? ⟨w.heap.size+2,i,none⟩=some (.int .u8 ((fun _=>0:Ros) i:Nat))∧w1.frozen? ⟨w.heap.size+1,i,none⟩=false∧w1.frozen? ⟨w.heap.size+2,i,none⟩=false:=fun i hi=>by
   obtain ⟨a,b,c,d⟩:=HZ5.out i hi
   exact ⟨(HG1.out.cell (by show w.heap.size+1<_;omega)).trans a,(HG1.out.cell (by show w.heap.size+2<_;omega)).trans b,(HG1.out.frozen (by show w.heap.size+1<_;omega)).trans c,(HG1.out.frozen (by show w.heap.size+2<_;omega)).trans d⟩
  obtain ⟨a0,b0,c0,d0⟩:=h5 0 (by omega)
  obtain ⟨a1,b1,c1,d1⟩:=h5 1 (by omega)
  obtain ⟨a2,b2,c2,d2⟩:=h5 2 (by omega)
  obtain ⟨a3,b3,c3,d3⟩:=h5 3 (by omega)
  obtain ⟨a4,b4,c4,d4⟩:=h5 4 (by omega)
  have HS5:=Lib.hid (dp (w:=w1) (b:=w.heap.size+1) (r:=fun _=>0) (fun i hi=>(h5 i hi).1) (.int .u8 0) (.int .u8 0) (.int .u8 0) (.int .u8 0) (.int .u8 0))
  have HE:=Lib.hid hE
  clear h5 HBEG hg1
  obtain ⟨k,hk⟩:∃ k,k=checkE c:=⟨_,rfl⟩
  rw [<- hk] at hE ⊢
  have HK:=Lib.hid hk
  clear hk
  go_wp2
  go_region
  all_goals
   go_wp2
   obtain ⟨s0,s1,s2,s3,s4⟩:=HS5.out
   unfold put5 at s0 s1 s2 s3 s4
   refine bodyPost_ret (v:=.tuple #[.pointer none,.agg #[.int .u8 0,.int .u8 0,.int .u8 0,.int .u8 0,.int .u8 0],.int .i64 k]) (by simp [results,Tryz.results64,go_sem,s0,s1,s2,s3,s4]) rfl ⟨?_,?_⟩
   ·first | exact (ep (HG0.out.trans HG1.out) (by omega) _ _ _ _ _) | exact (ep (HG0.out.trans HG1.out) (by omega) _ _ _ _ _).drew | exact (ep (HG0.out.trans HG1.out).drew (by omega) _ _ _ _ _)
   ·rw [HF.out,HK.out,if_neg HE.out];exact ⟨_,fun _=>0,rfl⟩
end Go.Proofs.YtgicaeombogkcaaGreat
namespace Go.Sq
open Go.Proofs.YtgicaeombogkcaaGreat
theorem fU:checkE (wakeC [3,2,4])=0:=by decide +kernel
theorem pM:(nearR (rosOf [[0,1],[1],[]]) (walkL (repC (wakeC [3,2,4]) 2 0) (setsL 3) 3 zeroR 0)).map (fun p=>((List.range 3).map fun i=>wl (p.1 i),p.2))=some (guardG,3):=by decide +kernel
theorem jt:checkE (wakeC [3,2,5])=0:=by decide +kernel
theorem io:isSome (wakeC [3,2,5])=false:=by decide +kernel
theorem mD:clashN (wakeC [3,2,5]) 8=some [1,2]:=by decide +kernel
end Go.Sq
namespace Go.Proofs.YtgicaeombogkcaaGreat
open Go.RowKit Go.Sq
abbrev wakeCamp:Camp:=wakeC [3,2,4]
def setW (i:Nat):Nat:=(setsL 3)[i]?.getD 0
def firstR (x:Nat):Ros:=fun j=>if j=0 then x else 0
def kindW (i:Nat):Int:=(lapseOf wakeCamp (firstR (setW i)) 0).1
theorem wake_kind0:∀ i,i<8->(kindW i=0↔i=1∨i=4):=by decide +kernel
theorem mE:walkL wakeCamp (setsL 3) 2 (firstR (setW 4)) 1=[]:=by
 have:(walkL wakeCamp (setsL 3) 2 (firstR (setW 4)) 1).length=0:=by decide +kernel
 exact List.eq_nil_of_length_eq_zero this
theorem mF:(walkL wakeCamp (setsL 3) 2 (firstR (setW 1)) 1).length=1:=by decide +kernel
theorem gG:∀ x∈setsL 3,wakeCamp.has x:=fun x hx=>j5 3 (by decide) x hx
theorem eQ (i:Nat) (hi:i<8):∀ j,wakeCamp.has (firstR (setW i) j):=by
 intro j
 unfold firstR
 split
 ·refine gG _ ?_
  have:∀ i,i<8->setW i∈setsL 3:=by decide
  exact this i hi
 ·show 0<2 ^ 3;decide
end Go.Proofs.YtgicaeombogkcaaGreat
