/- Parts of the proof. -/
import Derived.Test.YtgicaeombogkcaaGreatP01
import Derived.Test.YtgicaeombogkcaaGreatP16
import Derived.Test.YtgicaeombogkcaaGreatP00
import Derived.Test.YtgicaeombogkcaaGreatP02
import Derived.RangeFuncBox
import Derived.Shelf.SlSortCmp.Whole1
import Derived.BigQuiet
import Derived.WalkKit
set_option linter.all false
set_option maxHeartbeats 3200000
set_option maxRecDepth 1000000
namespace Go.Sq
open Go.RowKit
def fJ (u:Value):Prop:=∃ x,u=.int .u8 x
def FlatS (w:World) (v:Value):Prop:=∀ a n c,v=.slice (some a) n c->∃ (cur:Array Value) (t:TypeId),w.heap[a.block]?=some (.cells cur t (0,0))∧∀ u∈cur.toList,fJ u
theorem FlatS.nil (w:World):FlatS w (.slice none 0 0):=fun a n c h=>by cases h
theorem FlatS.keep {w w':World} {v:Value} (h:FlatS w v) (hk:∀ a n c,v=.slice (some a) n c->w'.heap[a.block]?=w.heap[a.block]?):FlatS w' v:=fun a n c e=>by
 obtain ⟨cur,t,h1,h2⟩:=h a n c e
 exact ⟨cur,t,(hk a n c e).trans h1,h2⟩
variable {P:Program}
theorem qS (n:Nat):∀ u∈(Builtin.zeroCells (Value.int .u8 0).cells n).toList,fJ u:=by
 intro u hu
 simp only [Builtin.zeroCells,Array.toList_map,List.mem_map] at hu
 obtain ⟨i,_,rfl⟩:=hu
 refine ⟨0,?_⟩
 show (#[Value.int .u8 0]:Array Value)[i % 1]! = _
 rw [Nat.mod_one];rfl
theorem kR (w:World) (base:Nat) (t ty e:TypeId) (i:TypeInfo) (ht:P.underlying t=some (.slice e)) (hi:P.info? e=some i) (hz:i.zero=some (.int .u8 0))
  (hsize:i.size=1) (hby:i.bytes=1) (v:Value) (n:Nat) (xs:List Value) (hown:w.ownsRow base e 1 v n xs) (hf:FlatS w v)
  (a:Addr) (m c:Nat) (news:List Value) (hl:news.length=m*1) (hnews:∀ j u,news[j]?=some u->w.cell? (a.add j)=some u) (h1:∀ u∈news,fJ u) (h63:n+m<=maxLen) (hbytes:(n+m)*1<=140737488355328)
  {v':Value} {w':World} (hrun:(Builtin.append_ #[t,t] ty #[v,.slice (some a) m c]).run P w=.ok v' w'):FlatS w' v':=by
 have hsmall:n+m<=9223372036854775807:=by simp only [maxLen] at h63;omega
 have hone:∀ u∈news,u.oneCell'=true:=fun u hu=>by obtain ⟨x,rfl⟩:=h1 u hu;rfl
 have grown:∀ (ys:List Value) k,(∀ u∈ys,fJ u)->∀ l1 l2 n1 c1,l1++l2=ys->FlatS (w.drew.alloc (.cells (l1.toArray++l2.toArray++Builtin.zeroCells (Value.int .u8 0).cells k) e)) (.slice (some ⟨w.heap.size,0,none⟩) n1 c1):=by
  intro ys k hys l1 l2 n1 c1 hl12 a n c he
  injection he with h _ _
  injection h with h
  subst h
  refine ⟨_,e,heap_alloc_new w.drew _,fun u hu=>?_⟩
  simp only [Array.toList_append,List.mem_append] at hu
  rcases hu with hu | hu
  ·refine hys u ?_
   rw [<- hl12]
   simpa using hu
  ·exact qS _ u hu
 rcases hown.2 with ⟨rfl,rfl⟩ | ⟨g,cap,cur,rfl,hbg,hg,hnc,hcm,hcs,htake⟩
 ·by_cases hm:m=0
  ·subst hm
   have hn:news=[]:=List.eq_nil_of_length_eq_zero (by simpa using hl)
   subst hn
   simp [Builtin.append_,run_underlying ht,sizeOf,typeInfo,hi,Builtin.lenOf,Builtin.firstCells,loadCells,loadCellsFrom] at hrun
   obtain ⟨rfl,rfl⟩:=hrun
   exact FlatS.nil _
  ·have hr:=run_append_nil (P:=P) w t ty e i (.int .u8 0) ht hi hz a m c news (by rw [hsize];exact hl) hnews (by omega) (by omega) (by rw [hby];omega)
   rw [hr] at hrun
   cases hrun
   have:=grown news (grownCap w m 0 e - m) h1 [] news m (grownCap w m 0 e) rfl
   simpa using this
 ·obtain ⟨cur',t',z1,z2⟩:=hf _ _ _ rfl
  have z1':w.heap[g]?=some (.cells cur' t' (0,0)):=z1
  rw [hg] at z1'
  cases z1'
  have hxs:∀ u∈xs,fJ u:=fun u hu=>z2 u (by rw [<- htake] at hu;exact List.mem_of_mem_take hu)
  by_cases hroom:n+m<=cap
  ·have hfit:n*i.size+news.length<=cur.size:=by rw [hsize,hl,hcs];omega
   have hr:=run_append_room (P:=P) w t ty e i ht hi g n cap cur hg a m c news (by rw [hsize];exact hl) hnews hone hroom hfit
   rw [hr] at hrun
   cases hrun
   intro a2 n2 c2 he
   injection he with h _ _
   injection h with h
   subst h
   refine ⟨_,e,setRow_heap w g cur _ e _ hg,fun u hu=>?_⟩
   simp only [List.mem_append] at hu
   rcases hu with (hu | hu) | hu
   ·exact z2 u (List.mem_of_mem_take hu)
   ·exact h1 u hu
   ·exact z2 u (List.mem_of_mem_drop hu)
  ·have holds:∀ j u,xs[j]?=some u->w.cell? ((⟨g,0,none⟩:Addr).add j)=some u:=hown.cells (g:=g) rfl
   have hr:=run_append_grow (P:=P) w t ty e i (.int .u8 0) ht hi hz ⟨g,0,none⟩ n cap xs (by rw [hsize];exact hown.1) holds a m c news (by rw [hsize];exact hl) hnews (by omega) (by omega) (by rw [hby];exact growslice_fits (by omega) hbytes)
   rw [hr] at hrun
   cases hrun
   exact grown (xs++news) _ (fun u hu=>(List.mem_append.1 hu).elim (hxs u) (h1 u)) xs news _ _ rfl
theorem fK {w:World} {ops:Array Oper} {rest:List Oper} {o:Oper} {a:Act} {Q:Exit->Act->World->Prop} (hgd:o.guard=none) (s x:Operand) (t:TypeId)
  (ho:o.op=.call { callee:=.builtin .append,args:=#[s,x],argTypes:=#[t,t] })
  (base:Nat) (e:TypeId) (i:TypeInfo) (ht:P.underlying t=some (.slice e)) (hi:P.info? e=some i) (hz:i.zero=some (.int .u8 0))
  (hsize:i.size=1) (hby:i.bytes=1)
  (v:Value) (n:Nat) (xs:List Value) (hs:a.eval s=v) (hown:w.ownsRow base e 1 v n xs) (hf:FlatS w v)
  (ad:Addr) (m c:Nat) (news:List Value) (hx:a.eval x=.slice (some ad) m c) (hl:news.length=m*1) (hnews:∀ j u,news[j]?=some u->w.cell? (ad.add j)=some u) (h1:∀ u∈news,fJ u)
  (h63:n+m<=maxLen) (hbytes:(n+m)*1<=140737488355328) (hbase:base<=w.heap.size)
  (h:∀ v' w',w'.ownsRow base e 1 v' (n+m) (xs++news)->w.grownBy w' v.ownBlock->w.drawn<=w'.drawn->FlatS w' v'->wpList P ops Q rest (a.put o.dst v') w'):wpList P ops Q (o :: rest) a w:=by
 refine wpList_plain hgd fun K hK=>?_
 have hone:∀ u∈news,u.oneCell'=true:=fun u hu=>by obtain ⟨x,rfl⟩:=h1 u hu;rfl
 obtain ⟨v',w',hr,h2,h3,h4⟩:=run_append_own (P:=P) w base t o.type e i (.int .u8 0) 1 1 ht hi hz hsize hby rfl (by decide) v n xs hown ad m c news hl hnews hone h63 hbytes hbase
 have hfl:=kR (P:=P) w base t o.type e i ht hi hz hsize hby v n xs hown hf ad m c news hl hnews h1 h63 hbytes hr
 have hd:=Go.Iso.drawn_mono P (Builtin.append_ #[t,t] o.type #[v,.slice (some ad) m c]) w #[]
 rw [Sem.runT_fst,hr] at hd
 unfold Oper.wp execOp
 simp only [ho,resolve,invoke,builtin,Sem.run_bind,Sem.run_pure,Result.andThen_ok,List.map_toArray,List.map_cons,List.map_nil,hs,hx,hr]
 exact hK _ _ (h v' w' h2 h3 hd hfl)
end Go.Sq
namespace Go.Proofs.YtgicaeombogkcaaGreat
open Go.RowKit Go.Sq
theorem qT:∀ x:Fin 16,∀ n:Fin 4,bits BinOp.or IntKind.u8 (x.val:Int) (2 ^ n.val % 256)=((x.val ||| 2 ^ n.val:Nat):Int):=by decide
theorem of_t (A:Option Addr) (c:Nat) (l:List Int) (w:World) (B:Nat) (h:RI w B A l) (hl:l.length<=4611686018427387904) (hx:∀ x∈l,0<=x∧x<4) :
  Calls Sq.prog 101 #[.slice A l.length c] w fun e w'=>e=.returned (.int .u8 (ofL l))∧w=w':=by
 have HR:=Lib.hid h
 have HX:=Lib.hid hx
 clear h hx
 go_enter Sq.func101,Tryz.ntmps101
 go_wp2
 go_loop [3,8] (fun s i=>∃ k:Nat,k<=l.length∧i=.int .i64 k∧s=.int .u8 (ofL (l.take k))) (fun _ i=>l.length - (intOf i).toNat)
 case atStart=>exact ⟨0,by omega,rfl,rfl⟩
 case round =>
  obtain ⟨k,hk,rfl,rfl⟩:=hrel
  by_cases hlt:k<l.length
  ·obtain ⟨b,o,rfl,hb,hc⟩:=HR.out.at_ hlt
   have HS:=Lib.hid (oV l k hlt)
   obtain ⟨n,hn,hn4⟩:∃ n:Nat,l[k]?.getD 0=n∧n<4:=by
    obtain ⟨h1,h2⟩:=HX.out _ (mem_get l k hlt)
    exact ⟨(l[k]?.getD 0).toNat,by omega,by omega⟩
   rw [hn] at hc
   have HN:=Lib.hid hn
   clear hn
   have hx16:ofL (l.take k)<16:=ni _ fun y hy=>HX.out y (List.mem_of_mem_take hy)
   have HO:=Lib.hid (show bits BinOp.or IntKind.u8 ((ofL (l.take k):Nat):Int) (2 ^ n % 256)=((ofL (l.take k) ||| 2 ^ n:Nat):Int) from qT ⟨_,hx16⟩ ⟨n,hn4⟩)
   have HS2:=Lib.hid (show ofL (l.take (k+1))=ofL (l.take k) ||| 2 ^ n by rw [HS.out,HN.out];rfl)
   clear HS
   generalize ofL (l.take k)=x at HO HS2 hx16
   go_wp2
   go_round
   case rel=>exact ⟨k+1,by omega,by go_num,by rw [HS2.out];exact congrArg (Value.int .u8) HO.out⟩
   case measure=>simp [intOf];omega
  ·have hkl:k=l.length:=by omega
   have HS:=Lib.hid (show ofL (l.take k)=ofL l by rw [List.take_of_length_le (by omega)])
   clear hkl
   go_wp2
   go_ret
   exact ⟨ap (by rw [HS.out]),rfl⟩
theorem Sq.info89:(Sq.prog.info? 89).map (fun i=>(i.zero,i.size,i.bytes))=some (some (.int .u8 0),1,1):=by
 rw [Sq.tab];kernel_rfl
def rawL (k:Nat):List Value:=(List.range k).map fun i:Nat=>.int .u8 (i:Int)
theorem nX (k:Nat):rawL (k+1)=rawL k++[.int .u8 k]:=by simp [rawL,List.range_succ]
def nY (N:Nat) (R:Value->World->World->Prop):Prop:=∀ (W:World) (g cap B:Nat),W.ownsRow B 89 1 (.slice (some ⟨g,0,none⟩) N cap) N (rawL N) ->
 Calls Sq.prog 105 #[.slice (some ⟨g,0,none⟩) N cap,.func (.func 106) #[] #[]] W fun e W'=>e=.returned (.tuple #[])∧R (.slice (some ⟨g,0,none⟩) N cap) W W'
theorem lF (nA hA:Option Addr) (nc hc nn m:Nat) (w:World) (hm:m<=4) {R:Value->World->World->Prop} (hs:nY (2 ^ m) R) :
  Calls Sq.prog 70 #[.agg #[.slice nA nn nc,.slice hA m hc]] w fun e w'=>e=.returned (.pointer (some ⟨w.heap.size+1,0,none⟩))∧∃ (g cap:Nat) (W:World),R (.slice (some ⟨g,0,none⟩) (2 ^ m) cap) W w'∧w.heap.size+2<=g∧Gr w W∧w.heap.size+1<W.heap.size ∧
   W.cell? ⟨w.heap.size+1,0,none⟩=some (.slice nA nn nc)∧W.cell? ⟨w.heap.size+1,1,none⟩=some (.slice hA m hc)∧W.cell? ⟨w.heap.size+1,2,none⟩=some (.slice (some ⟨g,0,none⟩) (2 ^ m) cap) ∧
   W.ownsRow (w.heap.size+2) 89 1 (.slice (some ⟨g,0,none⟩) (2 ^ m) cap) (2 ^ m) (rawL (2 ^ m)) ∧
   FlatS W (.slice (some ⟨g,0,none⟩) (2 ^ m) cap)∧W.heap[w.heap.size+1]?=some (.cells #[.slice nA nn nc,.slice hA m hc,.slice (some ⟨g,0,none⟩) (2 ^ m) cap] 149 (0,0)):=by
 obtain ⟨i0,hi,hz0,hz1,hz2⟩:=info_parts Sq.info89
 have HSORT:=Lib.hid hs
 clear hs
 have hpow:((2:Int) ^ m % 256)=((2 ^ m:Nat):Int)∧2 ^ m<=16∧1<=2 ^ m:=by
  have:m=0∨m=1∨m=2∨m=3∨m=4:=by omega
  rcases this with rfl | rfl | rfl | rfl | rfl<;>decide
 obtain ⟨hp1,hp2,hp3⟩:=hpow
 generalize 2 ^ m=N at hp1 hp2 hp3 HSORT ⊢
 have HP:=Lib.hid hp1
 clear hp1
 go_enter Sq.func70,Tryz.ntmps70
 go_wp2
 rw [HP.out]
 go_loopw [13] (fun i wr=>∃ k:Nat,k<=N∧i=.int .u8 k∧∃ v,wr.cell? ⟨w.heap.size+1,0,none⟩=some (.slice nA nn nc)∧wr.cell? ⟨w.heap.size+1,1,none⟩=some (.slice hA m hc)∧wr.cell? ⟨w.heap.size+1,2,none⟩=some v∧wr.frozen? ⟨w.heap.size+1,2,none⟩=false ∧
  wr.ownsRow (w.heap.size+2) 89 1 v k (rawL k)∧Gr w wr∧w.heap.size+2<=wr.heap.size∧FlatS wr v∧wr.heap[w.heap.size+1]?=some (.cells #[.slice nA nn nc,.slice hA m hc,v] 149 (0,0))) (fun i _=>N - (intOf i).toNat)
 case atStart =>
  refine ⟨0,by omega,rfl,.slice none 0 0,?_,?_,?_,?_,World.ownsRow_nil _ _ _ _,((Gr.refl w).alloc _).alloc _,by simp,FlatS.nil _,?_⟩
  ·rw [World.cell?_alloc_at _ _ _ _ (by simp)];rfl
  ·rw [World.cell?_alloc_at _ _ _ _ (by simp)];rfl
  ·rw [World.cell?_alloc_at _ _ _ _ (by simp)];rfl
  ·rw [World.frozen?_alloc_at _ _ _ _ (by simp)]
  ·have e1:∀ A:Obj,w.heap.size+1=(w.alloc A).heap.size:=fun A=>by simp
   rw [e1 (.cells #[.slice nA nn nc,.slice hA m hc] 25)]
   exact heap_alloc_new _ _
 case round =>
  obtain ⟨k,hk,rfl,v,h0,h1,h2,hfz,hown,hgr,hsz,hfl,hob⟩:=hrel
  have HFL:=Lib.hid hfl
  have HOB:=Lib.hid hob
  clear hfl hob
  have HG:=Lib.hid hgr
  clear hgr
  by_cases hlt:k<N
  ·have h0':=h0
   have hfa:FlatS (wr.alloc (.cells #[.int .u8 k] 89)) v:=HFL.out.keep fun a n c e=>heap_alloc_old wr _ (hown.lt a.block (by rw [e];rfl)).2
   go_wp2_with (at_builtin;refine fK rfl _ _ 147 rfl (w.heap.size+2) 89 i0 Sq.underlying147 hi hz0 hz1 hz2 _ _ _ rfl (hown.alloc _) hfa ⟨wr.heap.size,0,none⟩ 1 1 [.int .u8 k] rfl rfl ?c1 ?c2 ?c3 ?c4 ?c5 ?_)
   case c1 =>
    intro j u hj
    match j,hj with
    | 0,hj=>simp at hj;subst hj;simp [Addr.add]
   case c2=>intro u hu;simp at hu;subst hu;exact ⟨_,rfl⟩
   case c3=>unfold maxLen;omega
   case c4=>omega
   case c5=>simp;omega
   intro v' w1 hown' hgrow hd hfl'
   have HFL':=Lib.hid hfl'
   clear hfl'
   obtain ⟨g',cap',rfl⟩:=ownsRow_succ hown'
   have hne:some (w.heap.size+1)≠v.ownBlock:=fun h=>by have:=(hown.lt _ h.symm).1;omega
   have k0:w1.cell? ⟨w.heap.size+1,0,none⟩=some (.slice nA nn nc):=hgrow.cell ((World.cell?_alloc_past _ _ _ (by show w.heap.size+1<_;omega)).trans h0) hne
   have k1:w1.cell? ⟨w.heap.size+1,1,none⟩=some (.slice hA m hc):=hgrow.cell ((World.cell?_alloc_past _ _ _ (by show w.heap.size+1<_;omega)).trans h1) hne
   have k2:w1.cell? ⟨w.heap.size+1,2,none⟩=some v:=hgrow.cell ((World.cell?_alloc_past _ _ _ (by show w.heap.size+1<_;omega)).trans h2) hne
   have kf:w1.frozen? ⟨w.heap.size+1,2,none⟩=false:=by
    rw [World.frozen?_of_block (w:=wr.alloc (.cells #[.int .u8 k] 89)) (hgrow.block (w.heap.size+1) (by simp;omega) hne)]
    exact (World.frozen?_alloc_past _ _ _ (by show w.heap.size+1<_;omega)).trans hfz
   have HOB1:=Lib.hid ((hgrow.block (w.heap.size+1) (by simp;omega) hne).trans ((heap_alloc_old wr _ (by omega)).trans HOB.out))
   have HG1:=Lib.hid ((HG.out.alloc (.cells #[.int .u8 k] 89)).grown hgrow hd fun j hj=>by have:=(hown.lt j hj).1;omega)
   have hz1':w.heap.size+2<=w1.heap.size:=by have:=hgrow.size;simp at this;omega
   have HO:Hid (w1.ownsRow (w.heap.size+2) 89 1 (.slice (some ⟨g',0,none⟩) (k+1) cap') (k+1) (rawL (k+1))):=Lib.hid (by rw [nX];exact hown')
   clear hown' hgrow hown hd h0 h1 h2 hfz HG h0'
   go_wp2
   go_roundw
   case rel =>
    refine ⟨k+1,by omega,by go_num,_,(World.cell?_setCell_other _ _ _ _ (by simp)).trans k0,(World.cell?_setCell_other _ _ _ _ (by simp)).trans k1,World.cell?_setCell_same _ _ _ k2,(World.frozen?_setCell _ _ _ _).trans kf,ownsRow_setCell_below HO.out (by show w.heap.size+1<_;omega) _,HG1.out.setCell (by show _<=w.heap.size+1;omega) _,by simpa using hz1',HFL'.out.keep fun a n c e=>?_,?_⟩
    ·have hb:a.block=g':=by injection e with e1 _ _;injection e1 with e1;rw [<- e1]
     have hlt:=(HO.out.lt g' rfl).1
     unfold World.setCell
     simp only [Array.getElem?_modify]
     rw [if_neg (by omega)]
    ·unfold World.setCell
     simp only [Array.getElem?_modify,if_true,HOB1.out]
     rfl
   case measure=>simp [intOf];omega
  ·have hkN:k=N:=by omega
   subst hkN
   obtain ⟨m',rfl⟩:∃ m',k=m'+1:=⟨k - 1,by omega⟩
   obtain ⟨g,cap,rfl⟩:=ownsRow_succ hown
   have HC:=Lib.hid (HSORT.out wr g cap _ hown)
   have hg:=(hown.lt g rfl).1
   have HO:=Lib.hid hown
   clear hown
   go_wp2_with fail
   refine HC.out.mono ?_
   rintro e w2 ⟨rfl,hR⟩
   have HR:=Lib.hid hR
   clear hR
   go_wp2
   go_ret
   exact ⟨rfl,g,cap,wr,HR.out,hg,HG.out,by omega,h0,h1,h2,HO.out,HFL.out,HOB.out⟩
open Go.Shelf
theorem aM {P:Program} {i:Nat} {f B:Func} (h:P.funcs[i]?=some f) (hn:(f.name == "runtime.NumGoroutine")=false) (hf:f={ B with name:=f.name }):Bears P i B:=⟨f.name,hn,h.trans (congrArg some hf)⟩
def Sq.sort_ren:Ren:=⟨fun | 6=>105 | 15=>104 | 14=>151 | 28=>149 | 29=>150 | 20=>171 | 21=>172 | 22=>173 | 23=>174 | 24=>175 | 25=>176 | 26=>177 | 27=>178 | 46=>188 | 47=>167 | 48=>168 | 49=>189 | 50=>190 | 57=>191 | n=>n,fun | 22=>147 | 24=>89 | 25=>162 | 3=>3 | 39=>157 | 0=>0 | 53=>100 | 55=>76 | 4=>4 | 46=>194 | 45=>193 | 50=>198 | 5=>5 | 9=>9 | 66=>221 | 70=>224 | 76=>232 | 77=>110 | n=>n,fun n=>n⟩
theorem Sq.sort_lays:SlLaysF.n6 Sq.prog Sq.sort_ren where
 mixed:=(congrArg (fun t:Tables=>t.follows .mixedOrders) Sq.tab).trans (by kernel_rfl)
 f6:=aM Sq.func105 (by decide +kernel) (by kernel_rfl)
 f14:=aM Sq.func151 (by decide +kernel) (by kernel_rfl)
 f15:=Sq.func104.trans (congrArg some (by kernel_rfl))
 f20:=aM Sq.func171 (by decide +kernel) (by kernel_rfl)
 f21:=aM Sq.func172 (by decide +kernel) (by kernel_rfl)
 f22:=aM Sq.func173 (by decide +kernel) (by kernel_rfl)
 f23:=aM Sq.func174 (by decide +kernel) (by kernel_rfl)
 f24:=aM Sq.func175 (by decide +kernel) (by kernel_rfl)
 f25:=aM Sq.func176 (by decide +kernel) (by kernel_rfl)
 f26:=aM Sq.func177 (by decide +kernel) (by kernel_rfl)
 f27:=aM Sq.func178 (by decide +kernel) (by kernel_rfl)
 f28:=Sq.func149.trans (congrArg some (by kernel_rfl))
 f29:=Sq.func150.trans (congrArg some (by kernel_rfl))
 f46:=aM Sq.func188 (by decide +kernel) (by kernel_rfl)
 f47:=Sq.func167.trans (congrArg some (by kernel_rfl))
 f48:=Sq.func168.trans (congrArg some (by kernel_rfl))
 f49:=aM Sq.func189 (by decide +kernel) (by kernel_rfl)
 f50:=aM Sq.func190 (by decide +kernel) (by kernel_rfl)
 f57:=aM Sq.func191 (by decide +kernel) (by kernel_rfl)
 t0:=(Sq.underlying 0).trans Tryz.underlying0
 a0:=fun w=>(Sq.isAgg 0 w).trans (Tryz.isAgg0 w)
 z0:=fun w=>(Sq.sizeOf 0 w).trans (Tryz.sizeOf0 w)
 v0:=fun w=>(Sq.zeroValue 0 w).trans (Tryz.zeroValue0 w)
 t3:=(Sq.underlying 3).trans Tryz.underlying3
 a3:=fun w=>(Sq.isAgg 3 w).trans (Tryz.isAgg3 w)
 z3:=fun w=>(Sq.sizeOf 3 w).trans (Tryz.sizeOf3 w)
 v3:=fun w=>(Sq.zeroValue 3 w).trans (Tryz.zeroValue3 w)
 t4:=(Sq.underlying 4).trans Tryz.underlying4
 a4:=fun w=>(Sq.isAgg 4 w).trans (Tryz.isAgg4 w)
 z4:=fun w=>(Sq.sizeOf 4 w).trans (Tryz.sizeOf4 w)
 v4:=fun w=>(Sq.zeroValue 4 w).trans (Tryz.zeroValue4 w)
 t5:=(Sq.underlying 5).trans Tryz.underlying5
 a5:=fun w=>(Sq.isAgg 5 w).trans (Tryz.isAgg5 w)
 z5:=fun w=>(Sq.sizeOf 5 w).trans (Tryz.sizeOf5 w)
 v5:=fun w=>(Sq.zeroValue 5 w).trans (Tryz.zeroValue5 w)
 t9:=(Sq.underlying 9).trans Tryz.underlying9
 a9:=fun w=>(Sq.isAgg 9 w).trans (Tryz.isAgg9 w)
 z9:=fun w=>(Sq.sizeOf 9 w).trans (Tryz.sizeOf9 w)
 v9:=fun w=>(Sq.zeroValue 9 w).trans (Tryz.zeroValue9 w)
 t22:=(Sq.underlying 147).trans Tryz.underlying147
 a22:=fun w=>(Sq.isAgg 147 w).trans (Tryz.isAgg147 w)
 z22:=fun w=>(Sq.sizeOf 147 w).trans (Tryz.sizeOf147 w)
 v22:=fun w=>(Sq.zeroValue 147 w).trans (Tryz.zeroValue147 w)
 a24:=fun w=>(Sq.isAgg 89 w).trans (Tryz.isAgg89 w)
 z24:=fun w=>(Sq.sizeOf 89 w).trans (Tryz.sizeOf89 w)
 t25:=(Sq.underlying 162).trans Tryz.underlying162
 a25:=fun w=>(Sq.isAgg 162 w).trans (Tryz.isAgg162 w)
 z25:=fun w=>(Sq.sizeOf 162 w).trans (Tryz.sizeOf162 w)
 v25:=fun w=>(Sq.zeroValue 162 w).trans (Tryz.zeroValue162 w)
 t39:=(Sq.underlying 157).trans Tryz.underlying157
 a39:=fun w=>(Sq.isAgg 157 w).trans (Tryz.isAgg157 w)
 z39:=fun w=>(Sq.sizeOf 157 w).trans (Tryz.sizeOf157 w)
 v39:=fun w=>(Sq.zeroValue 157 w).trans (Tryz.zeroValue157 w)
 t45:=(Sq.underlying 193).trans Tryz.underlying193
 a45:=fun w=>(Sq.isAgg 193 w).trans (Tryz.isAgg193 w)
 z45:=fun w=>(Sq.sizeOf 193 w).trans (Tryz.sizeOf193 w)
 v45:=fun w=>(Sq.zeroValue 193 w).trans (Tryz.zeroValue193 w)
 t46:=(Sq.underlying 194).trans Tryz.underlying194
 a46:=fun w=>(Sq.isAgg 194 w).trans (Tryz.isAgg194 w)
 z46:=fun w=>(Sq.sizeOf 194 w).trans (Tryz.sizeOf194 w)
 v46:=fun w=>(Sq.zeroValue 194 w).trans (Tryz.zeroValue194 w)
 t50:=(Sq.underlying 198).trans Tryz.underlying198
 a50:=fun w=>(Sq.isAgg 198 w).trans (Tryz.isAgg198 w)
 z50:=fun w=>(Sq.sizeOf 198 w).trans (Tryz.sizeOf198 w)
 v50:=fun w=>(Sq.zeroValue 198 w).trans (Tryz.zeroValue198 w)
 t53:=(Sq.underlying 100).trans Tryz.underlying100
 a53:=fun w=>(Sq.isAgg 100 w).trans (Tryz.isAgg100 w)
 z53:=fun w=>(Sq.sizeOf 100 w).trans (Tryz.sizeOf100 w)
 v53:=fun w=>(Sq.zeroValue 100 w).trans (Tryz.zeroValue100 w)
 t55:=(Sq.underlying 76).trans Tryz.underlying76
 a55:=fun w=>(Sq.isAgg 76 w).trans (Tryz.isAgg76 w)
 z55:=fun w=>(Sq.sizeOf 76 w).trans (Tryz.sizeOf76 w)
 v55:=fun w=>(Sq.zeroValue 76 w).trans (Tryz.zeroValue76 w)
 t66:=(Sq.underlying 221).trans Tryz.underlying221
 a66:=fun w=>(Sq.isAgg 221 w).trans (Tryz.isAgg221 w)
 z66:=fun w=>(Sq.sizeOf 221 w).trans (Tryz.sizeOf221 w)
 v66:=fun w=>(Sq.zeroValue 221 w).trans (Tryz.zeroValue221 w)
 t70:=(Sq.underlying 224).trans Tryz.underlying224
 a70:=fun w=>(Sq.isAgg 224 w).trans (Tryz.isAgg224 w)
 z70:=fun w=>(Sq.sizeOf 224 w).trans (Tryz.sizeOf224 w)
 v70:=fun w=>(Sq.zeroValue 224 w).trans (Tryz.zeroValue224 w)
 t76:=(Sq.underlying 232).trans Tryz.underlying232
 a76:=fun w=>(Sq.isAgg 232 w).trans (Tryz.isAgg232 w)
 z76:=fun w=>(Sq.sizeOf 232 w).trans (Tryz.sizeOf232 w)
 v76:=fun w=>(Sq.zeroValue 232 w).trans (Tryz.zeroValue232 w)
 t77:=(Sq.underlying 110).trans Tryz.underlying110
 a77:=fun w=>(Sq.isAgg 110 w).trans (Tryz.isAgg110 w)
 z77:=fun w=>(Sq.sizeOf 110 w).trans (Tryz.sizeOf110 w)
 v77:=fun w=>(Sq.zeroValue 110 w).trans (Tryz.zeroValue110 w)
end Go.Proofs.YtgicaeombogkcaaGreat
namespace Go.Sq
open Go.RowKit Go.Sort Go.Proofs Go.Lib
abbrev r9:=Fin 16
def encW (x:r9):Value:=.int .u8 (x.val:Int)
def cfW (a b:r9):Int:=cmpL (wl a.val) (wl b.val)
theorem oneW:OneCell encW:=fun _=>rfl
theorem swoW:SWO (ltOf cfW):=by
 constructor
 all_goals decide +kernel
def rawA (m:Nat):Array r9:=((List.range (2 ^ m)).map (Fin.ofNat 16)).toArray
def setsL:Nat->List Nat
 | 0=>[0]
 | 1=>[0,1]
 | 2=>[0,1,3,2]
 | 3=>[0,1,3,7,5,2,6,4]
 | _=>[0,1,3,7,15,11,5,13,9,2,6,14,10,4,12,8]
theorem five {p:Nat->Prop} (h:p 0∧p 1∧p 2∧p 3∧p 4):∀ m,m<=4->p m:=fun m hm=>by
 have:m=0∨m=1∨m=2∨m=3∨m=4:=by omega
 obtain ⟨h0,h1,h2,h3,h4⟩:=h
 rcases this with rfl | rfl | rfl | rfl | rfl<;>assumption
theorem pdqW:∀ m,m<=4->(pdq (ltOf cfW) (rawA m) 0 (rawA m).size (Go.Lib.bitLen (rawA m).size) true true).toList.map Fin.val=setsL m :=
 five ⟨by decide +kernel,by decide +kernel,by decide +kernel,by decide +kernel,by decide +kernel⟩
theorem rawW:∀ m,m<=4->(rawA m).size=2 ^ m∧∀ j,j<2 ^ m->((rawA m)[j]!).val=j :=
 five ⟨by decide +kernel,by decide +kernel,by decide +kernel,by decide +kernel,by decide +kernel⟩
theorem cy:∀ m,m<=4->(setsL m).length=2 ^ m:=five ⟨rfl,rfl,rfl,rfl,rfl⟩
theorem j5:∀ m,m<=4->∀ x∈setsL m,x<2 ^ m:=five ⟨by decide,by decide,by decide,by decide,by decide⟩
theorem Gr.grow {w w':World} (h:Gr w w'):∃ q os',w'=grow (w.drewN q) os':=by
 refine ⟨w'.drawn - w.drawn,w'.heap.extract w.heap.size w'.heap.size,?_⟩
 have hd:=h.drawn
 have e:w'.heap=w.heap++w'.heap.extract w.heap.size w'.heap.size:=by
  apply Array.ext_getElem?
  intro k
  by_cases hk:k<w.heap.size
  ·rw [Array.getElem?_append_left hk];exact h.below.block k hk
  ·rw [Array.getElem?_append_right (by omega),Array.getElem?_extract]
   have hs:=h.size
   by_cases hk2:k<w'.heap.size
   ·rw [if_pos (by omega)];congr 1;omega
   ·rw [if_neg (by omega),Array.getElem?_eq_none (by omega)]
 cases w with
 | mk wh wt wd wo wu =>
  cases w' with
  | mk vh vt vd vo vu =>
   have e1:=h.below.os
   have e2:=h.below.tape
   have e3:=h.below.output
   simp only at e1 e2 e3 e hd
   subst e1 e2 e3
   unfold Sort.grow World.drewN
   simp only [World.mk.injEq,and_true,true_and]
   exact ⟨e,by omega⟩
def SortedIn (sets:List Nat) (g:Nat) (W W':World):Prop :=
 KT (·=g) W W'∧(∀ (i x:Nat),sets[i]?=some x->W'.cell? ⟨g,i,none⟩=some (.int .u8 (x:Int)))∧∀ n c,FlatS W (.slice (some ⟨g,0,none⟩) n c)->FlatS W' (.slice (some ⟨g,0,none⟩) n c)
end Go.Sq
namespace Go.Proofs.YtgicaeombogkcaaGreat
open Go.RowKit Go.Sq Go.Sort
theorem pG (a b:Nat) (w:World) (ha:a<16) (hb:b<16) :
  Calls Sq.prog 106 #[.int .u8 a,.int .u8 b] w fun e w'=>e=.returned (.int .i64 (cmpL (wl a) (wl b)))∧Gr w w':=by
 have hla:=bQ a
 have hlb:=bQ b
 have HL:=Lib.hid hla
 have HL':=Lib.hid hlb
 clear hla hlb
 go_enter Sq.func106,Tryz.ntmps106
 go_wp2_with fail
 refine (eh a w ha).mono ?_
 rintro e w1 ⟨v,rfl,ho,hg⟩
 have hO:=Lib.hid ho
 have hG:=Lib.hid hg
 clear ho hg
 go_wp2_with fail
 refine (eh b w1 hb).mono ?_
 rintro e w2 ⟨v',rfl,ho',hg'⟩
 obtain ⟨A,c,rfl,hr⟩:=RI.of_own hO.out
 obtain ⟨A',c',rfl,hr'⟩:=RI.of_own ho'
 have hG2:=Lib.hid (hG.out.trans hg')
 have HC:=Lib.hid (iU A A' c c' (wl a) (wl b) w2 w2.heap.size ((hr.gr (Nat.le_refl _) hg').more hg'.size) hr' (by have:=HL.out;omega) (by have:=HL'.out;omega))
 clear hO hG ho' hg' hr hr'
 go_wp2_with fail
 refine HC.out.mono ?_
 rintro e w3 ⟨rfl,rfl⟩
 go_wp2
 go_ret
 exact ⟨rfl,hG2.out⟩
theorem nZ (m:Nat) (hm:m<=4):nY (2 ^ m) (fun v W W'=>∃ g cap,v=.slice (some ⟨g,0,none⟩) (2 ^ m) cap∧SortedIn (setsL m) g W W'):=by
 intro W g cap B ho
 obtain ⟨hsz,hget⟩:=rawW m hm
 have hpq:=pdqW m hm
 have hlen:=cy m hm
 have hpos:1<=2 ^ m:=Nat.one_le_two_pow
 have h16:2 ^ m<=16:=(five (p:=fun m=>2 ^ m<=16) ⟨by decide,by decide,by decide,by decide,by decide⟩) m hm
 have hlt:g<W.heap.size:=(ho.lt g rfl).2
 have hH:Holds encW W g 0 (rawA m):=by
  intro j hj
  rw [hsz] at hj
  refine ⟨?_,?_⟩
  ·have:=ho.cells (g:=g) rfl j (.int .u8 j) (by unfold rawL;simp [hj])
   rw [show (⟨g,0,none⟩:Addr).add j=⟨g,0+j,none⟩ by unfold Addr.add;split<;>simp_all] at this
   rw [this,encW,hget j hj]
  ·rcases ho.2 with ⟨h,_⟩ | ⟨g',c',cur,h,_,hb,_⟩
   ·cases h
   ·obtain ⟨rfl⟩:g=g':=by injection h with h1;injection h1 with h2;injection h2
    simp [World.frozen?,hb]
 have hC:CmpLays1 Sq.prog 106 #[] encW cfW g 0 (rawA m).size W:=by
  intro k os dk _ x y
  refine (pG x.val y.val _ x.isLt y.isLt).mono ?_
  rintro e w' ⟨he,hg⟩
  exact ⟨he,hg.grow⟩
 have h:=Any.slices_SortFunc_eq Sq.sort_lays encW oneW cfW swoW 106 #[] g 0 cap (rawA m) W Sq.call106 hC hH hlt (by rw [hsz];omega)
 rw [hsz] at h
 refine h.mono ?_
 rintro e W' ⟨he,n,os,hW⟩
 refine ⟨he,g,cap,rfl,?_,?_,?_⟩
 rotate_left 2
 ·intro n1 c1 hfl a n2 c2 e2
  obtain ⟨cur,t,q1,q2⟩:=hfl a n2 c2 e2
  have ea:a.block=g:=by injection e2 with z _ _;injection z with z;rw [<- z]
  rw [ea] at q1 ⊢
  subst hW
  refine ⟨putCells encW 0 (pdq (ltOf cfW) (rawA m) 0 (2 ^ m) (Go.Lib.bitLen (2 ^ m)) true true) cur,t,?_,fun u hu=>?_⟩
  ·unfold sortWorld
   rw [heap_grow_old _ _ (by rw [size_putRow];exact hlt)]
   unfold putRow mapBlock
   have q1':(Sort.ahead W n).heap[g]?=some (.cells cur t (0,0)):=q1
   simp only [Array.getElem?_modify,if_true,q1']
   rfl
  ·unfold putCells at hu
   rw [Array.toList_mapIdx,List.mem_mapIdx] at hu
   obtain ⟨i,hi,rfl⟩:=hu
   split
   ·exact ⟨_,rfl⟩
   ·exact q2 _ (List.getElem_mem hi)
 ·subst hW
  refine ⟨rfl,rfl,rfl,?_,?_,?_⟩
  ·show W.drawn<=W.drawn+n;omega
  ·have : W.heap.size <= (sortWorld encW W g 0 n (pdq (ltOf cfW) (rawA m) 0 (2 ^ m) (Go.Lib.bitLen (2 ^ m)) true true) os).heap.size := by
    unfold sortWorld;rw [size_grow,size_putRow];exact Nat.le_add_right _ _
   exact this
  ·intro b hb hne
   unfold sortWorld
   rw [heap_grow_old _ _ (by rw [size_putRow];exact hb)]
   unfold putRow mapBlock
   rw [Array.getElem?_modify,if_neg (fun h=>hne h.symm)]
   rfl
 ·intro i x hx
  rw [hsz] at hpq
  have hi:i<2 ^ m:=by rw [<- hlen];exact (List.getElem?_eq_some_iff.1 hx).1
  generalize hd:pdq (ltOf cfW) (rawA m) 0 (2 ^ m) (Go.Lib.bitLen (2 ^ m)) true true=d at hW hpq
  have hds:d.size=2 ^ m:=by have:=congrArg List.length hpq;simpa [hlen] using this
  have hS:=(holds_sortWorld encW W g 0 n (rawA m) d os hlt hH (by rw [hds,hsz])) i (by omega)
  subst hW
  rw [Nat.zero_add] at hS
  rw [hS.1,encW]
  rw [<- hpq,List.getElem?_map,Array.getElem?_toList] at hx
  rw [getElem!_pos d i (by omega)]
  rw [Array.getElem?_eq_getElem (by omega)] at hx
  simp at hx
  rw [hx]
end Go.Proofs.YtgicaeombogkcaaGreat
namespace Go.Sq
theorem bt {l:List Int}:be l=0↔∀ x∈l,x=0:=by
 refine ⟨fun h x hx=>?_,dX⟩
 unfold be at h
 cases hf:l.find? (· != 0) with
 | none=>have:=List.find?_eq_none.1 hf x hx;simpa using this
 | some y =>
  rw [hf] at h
  have:=List.find?_some hf
  simp only [Option.getD_some] at h
  subst h
  simp at this
theorem cg {n lo hi:Int}:manyE n lo hi=0↔lo<=n∧n<=hi:=by
 unfold manyE;split
 ·simp;omega
 ·split<;>simp<;>omega
theorem j6 {x lo hi:Int}:inR x lo hi=true↔lo<=x∧x<=hi:=by simp [inR]
theorem i8 {l:List Int} {n:Int}:ascE l n=0↔∀ i,i<l.length->ascAt l n i=0:=by
 unfold ascE
 rw [bt]
 simp
theorem ascE_ok {l:List Int} {n:Int} (h:ascE l n=0):(∀ x∈l,0<=x∧x<n)∧(l.length:Int)<=max n 0∧∀ i,i+1<l.length->l[i]?.getD 0<l[i+1]?.getD 0:=by
 rw [i8] at h
 have h1:∀ i,i<l.length->0<=l[i]?.getD 0∧l[i]?.getD 0<=n - 1:=fun i hi=>by
  have:=h i hi
  unfold ascAt at this
  split at this
  ·assumption
  ·cases this
 have h2:∀ i,i+1<l.length->l[i]?.getD 0<l[i+1]?.getD 0:=fun i hi=>by
  have:=h (i+1) hi
  unfold ascAt at this
  rw [if_pos (h1 _ hi)] at this
  by_cases hc:0<i+1∧l[i+1]?.getD 0<=l[i+1 - 1]?.getD 0
  ·rw [if_pos hc] at this;cases this
  ·simp only [Nat.add_sub_cancel] at hc;omega
 have h3:∀ i,i<l.length->(i:Int)<=l[i]?.getD 0:=fun i=>by
  induction i with
  | zero=>intro hi;exact (h1 0 hi).1
  | succ k ih=>intro hi;have:=ih (by omega);have:=h2 k hi;omega
 refine ⟨fun x hx=>?_,?_,h2⟩
 ·obtain ⟨i,hi,rfl⟩:=List.getElem_of_mem hx
  have:=h1 i hi
  rw [List.getElem?_eq_getElem hi] at this
  simp only [Option.getD_some] at this
  omega
 ·by_cases hz:l.length=0
  ·omega
  ·have a:=h3 (l.length - 1) (by omega)
   have b:=(h1 (l.length - 1) (by omega)).2
   omega
theorem Camp.Ok.of {c:Camp} (h:checkE c=0):c.Ok:=by
 unfold checkE at h
 by_cases h1:manyE c.needs.length 1 5≠0
 ·rw [if_pos h1] at h;exact absurd h h1
 rw [if_neg h1] at h
 have h1':=cg.1 (Decidable.not_not.1 h1)
 by_cases h2:(c.needs.all fun x=>inR x 0 12)=false
 ·rw [if_pos h2] at h;cases h
 rw [if_neg h2] at h
 by_cases h3:manyE c.herders.length 1 4≠0
 ·rw [if_pos h3] at h;exact absurd h h3
 rw [if_neg h3] at h
 have h3':=cg.1 (Decidable.not_not.1 h3)
 rw [bt] at h
 have hh:∀ x∈c.herders,(1<=x.heads∧x.heads<=40)∧(1<=x.dogs∧x.dogs<=5)∧(0<=x.most∧x.most<=5)∧ascE x.off c.needs.length=0:=fun x hx=>by
  have:=h _ (List.mem_map_of_mem hx)
  unfold herdE at this
  split at this
  ·rename_i hc
   simp only [Bool.and_eq_true,j6] at hc
   exact ⟨hc.1.1,hc.1.2,hc.2,this⟩
  ·cases this
 have h2':∀ x∈c.needs,0<=x∧x<=12:=fun x hx=>by
  have:=List.all_eq_true.1 (Bool.not_eq_false _▸h2) x hx
  exact j6.1 this
 exact ⟨by omega,by omega,h2',by omega,by omega,fun x hx=>(hh x hx).1,fun x hx=>(hh x hx).2.1,fun x hx=>(hh x hx).2.2.1,fun x hx=>by
  obtain ⟨a,b,_⟩:=ascE_ok (hh x hx).2.2.2
  exact ⟨by omega,a⟩⟩
theorem qU (l m:List Int) (k:Nat) (h1:k<l.length) (h2:k<m.length) :
  (l.take k=m.take k->l[k]?.getD 0=m[k]?.getD 0->l.take (k+1)=m.take (k+1))∧(l[k]?.getD 0≠m[k]?.getD 0->l≠m):=by
 refine ⟨fun h e=>?_,fun h e=>h (by rw [e])⟩
 rw [aU 0 l k h1,aU 0 m k h2,h,e]
theorem pH (l m:List (List Int)) (k:Nat) (h1:k<l.length) (h2:k<m.length) :
  (l.take k=m.take k->l[k]?.getD []=m[k]?.getD []->l.take (k+1)=m.take (k+1))∧(l[k]?.getD []≠m[k]?.getD []->l≠m):=by
 refine ⟨fun h e=>?_,fun h e=>h (by rw [e])⟩
 rw [aU [] l k h1,aU [] m k h2,h,e]
def GrAt (w:World) (B:Nat) (A:Option Addr) (ls:List (List Int)):Prop :=
 ls≠[]->∃ b o,A=some ⟨b,o,none⟩∧b<B∧∀ i l,ls[i]?=some l->∃ A' c,w.cell? ⟨b,o+i,none⟩=some (.slice A' l.length c)∧RI w B A' l
theorem GrAt.keep {w w':World} {B:Nat} {A:Option Addr} {ls:List (List Int)} (h:GrAt w B A ls) (hk:∀ b o,b<B->w'.cell? ⟨b,o,none⟩=w.cell? ⟨b,o,none⟩):GrAt w' B A ls:=fun hn=>by
 obtain ⟨b,o,e,hb,hc⟩:=h hn
 refine ⟨b,o,e,hb,fun i l hl=>?_⟩
 obtain ⟨A',c,h1,h2⟩:=hc i l hl
 exact ⟨A',c,(hk _ _ hb).trans h1,h2.keep hk⟩
theorem GrAt.gr {w w':World} {B:Nat} {A:Option Addr} {ls:List (List Int)} (h:GrAt w B A ls) (hB:B<=w.heap.size) (hg:Gr w w'):GrAt w' B A ls:=h.keep fun _ _ hb=>hg.cell (Nat.lt_of_lt_of_le hb hB)
theorem GrAt.more {w:World} {B B':Nat} {A:Option Addr} {ls:List (List Int)} (h:GrAt w B A ls) (hB:B<=B'):GrAt w B' A ls:=fun hn=>by
 obtain ⟨b,o,e,hb,hc⟩:=h hn
 refine ⟨b,o,e,by omega,fun i l hl=>?_⟩
 obtain ⟨A',c,h1,h2⟩:=hc i l hl
 exact ⟨A',c,h1,h2.more hB⟩
theorem GrAt.nil {w:World} {B:Nat} {A:Option Addr}:GrAt w B A []:=fun h=>absurd rfl h
theorem GrAt.at_ {w:World} {B:Nat} {A:Option Addr} {ls:List (List Int)} (h:GrAt w B A ls) {k:Nat} (hk:k<ls.length):∃ b o A' c,A=some ⟨b,o,none⟩∧b<B∧w.cell? ⟨b,o+k,none⟩=some (.slice A' (ls[k]?.getD []).length c)∧RI w B A' (ls[k]?.getD []):=by
 obtain ⟨b,o,e,hb,hc⟩:=h (fun e=>by rw [e] at hk;simp at hk)
 obtain ⟨A',c,h1,h2⟩:=hc k _ (List.getElem?_eq_getElem hk)
 refine ⟨b,o,A',c,e,hb,?_⟩
 rw [List.getElem?_eq_getElem hk]
 exact ⟨h1,h2⟩
theorem eN (l:List (List Int)) (k:Nat) (h:k<l.length):l[k]?.getD []∈l:=by
 rw [List.getElem?_eq_getElem h];exact List.getElem_mem h
theorem bX {w:World} {B b:Nat} {l:List Int} {t:TypeId} {f:Nat×Nat} (h:w.heap[b]?=some (.cells (l.map (Value.int .i64)).toArray t f)) (hB:b<B):RI w B (some ⟨b,0,none⟩) l:=fun _ =>
 ⟨b,0,rfl,hB,fun i x hx=>by
  unfold World.cell?
  rw [h]
  show (l.map (Value.int .i64)).toArray[0+i]?=_
  rw [Nat.zero_add,List.getElem?_toArray,List.getElem?_map,hx];rfl⟩
theorem heap_alloc_new (w:World) (o:Obj):(w.alloc o).heap[w.heap.size]?=some o:=by
 show (w.heap.push o)[w.heap.size]?=_
 simp
theorem heap_alloc_old (w:World) (o:Obj) {b:Nat} (h:b<w.heap.size):(w.alloc o).heap[b]?=w.heap[b]?:=by
 show (w.heap.push o)[b]?=_
 simp [Array.getElem?_push,Nat.ne_of_lt h]
theorem aK (w:World) (o:Obj) {b:Nat} (h:b=w.heap.size):(w.alloc o).heap[b]?=some o:=by subst h;exact heap_alloc_new w o
end Go.Sq
namespace Go.Proofs.YtgicaeombogkcaaGreat
open Go.RowKit Go.Sq
def guardG:List (List Int):=[[0],[1],[0,2]]
theorem iO (w:World):Calls Sq.prog 43 #[] w fun e w'=>∃ A,e=.returned (.slice A guardG.length 3)∧GrAt w' w'.heap.size A guardG∧Gr w w':=by
 go_enter Sq.func43,Tryz.ntmps43
 go_wp2
 go_ret
 refine ⟨_,rfl,fun _=>⟨_,0,rfl,by simp,fun i l hl=>?_⟩,((((Gr.refl w).alloc _).alloc _).alloc _).alloc _⟩
 match i,hl with
 | 0,hl =>
  simp [guardG] at hl;subst hl
  refine ⟨some ⟨w.heap.size,0,none⟩,1,?_,bX (l:=[0]) (t:=3) (f:=(0,0)) ?_ (by simp;omega)⟩
  ·rw [World.cell?_alloc_at _ _ _ _ (by simp)];rfl
  ·rw [heap_alloc_old _ _ (by simp;omega),heap_alloc_old _ _ (by simp;omega),heap_alloc_old _ _ (by simp),aK _ _ rfl];rfl
 | 1,hl =>
  simp [guardG] at hl;subst hl
  refine ⟨some ⟨w.heap.size+1,0,none⟩,1,?_,bX (l:=[1]) (t:=3) (f:=(0,0)) ?_ (by simp)⟩
  ·rw [World.cell?_alloc_at _ _ _ _ (by simp)];rfl
  ·rw [heap_alloc_old _ _ (by simp),heap_alloc_old _ _ (by simp),aK _ _ (by simp)];rfl
 | 2,hl =>
  simp [guardG] at hl;subst hl
  refine ⟨some ⟨w.heap.size+2,0,none⟩,2,?_,bX (l:=[0,2]) (t:=3) (f:=(0,0)) ?_ (by simp)⟩
  ·rw [World.cell?_alloc_at _ _ _ _ (by simp)];rfl
  ·rw [heap_alloc_old _ _ (by simp),aK _ _ (by simp)];rfl
 | k+3,hl=>simp [guardG] at hl
def wakeC (l:List Int):Camp:=⟨l,[⟨12,3,2,[]⟩,⟨6,2,2,[0]⟩,⟨6,1,1,[]⟩]⟩
theorem n7 (A:Option Addr) (c:Nat) (l:List Int) (w:World):Calls Sq.prog 41 #[.slice A l.length c] w fun e w'=>∃ hA,e=.returned (campV A hA (wakeC l) c 3)∧HsAt w' w'.heap.size hA (wakeC l).herders∧Gr w w'∧hA=some ⟨w.heap.size+2,0,none⟩∧w'.heap[w.heap.size+1]?=some (.cells #[.int .i64 0] 3 (0,0)) ∧
      w'.heap[w.heap.size+2]?=some (.cells #[.int .i64 12,.int .i64 3,.int .i64 2,.slice none 0 0,.int .i64 6,.int .i64 2,.int .i64 2,.slice (some ⟨w.heap.size+1,0,none⟩) 1 1,.int .i64 6,.int .i64 1,.int .i64 1,.slice none 0 0] 54 (0,0)):=by
  go_enter Sq.func41,Tryz.ntmps41
  go_wp2
  obtain ⟨W,hW⟩:∃ W:World,W=((w.alloc (.cells #[.slice A l.length c,.slice (some ⟨w.heap.size+1+1,0,none⟩) 3 3] 25)).alloc (.cells #[.int .i64 0] 3)).alloc (.cells #[.int .i64 12,.int .i64 3,.int .i64 2,.slice none 0 0,.int .i64 6,.int .i64 2,.int .i64 2,.slice (some ⟨w.heap.size+1,0,none⟩) 1 1,.int .i64 6,.int .i64 1,.int .i64 1,.slice none 0 0] 54):=⟨_,rfl⟩
  rw [<- hW]
  have s0:W.cell? ⟨w.heap.size,0,none⟩=some (.slice A l.length c):=by
    rw [hW,World.cell?_alloc_past _ _ _ (by simp;omega),World.cell?_alloc_past _ _ _ (by simp),World.cell?_alloc_at _ _ _ _ rfl];rfl
  have s1:W.cell? ⟨w.heap.size,1,none⟩=some (.slice (some ⟨w.heap.size+1+1,0,none⟩) 3 3):=by
    rw [hW,World.cell?_alloc_past _ _ _ (by simp;omega),World.cell?_alloc_past _ _ _ (by simp),World.cell?_alloc_at _ _ _ _ rfl];rfl
  refine bodyPost_ret (v:=campV A (some ⟨w.heap.size+1+1,0,none⟩) (wakeC l) c 3) (by simp [results,Tryz.results41,go_sem,s0,s1,campV,wakeC]) rfl ⟨_,rfl,?_,?_,rfl,?_,?_⟩
  · have hz:w.heap.size+1+1<W.heap.size:=by rw [hW];simp
    have hc:∀ o,W.cell? ⟨w.heap.size+1+1,o,none⟩=(#[.int .i64 12,.int .i64 3,.int .i64 2,.slice none 0 0,.int .i64 6,.int .i64 2,.int .i64 2,.slice (some ⟨w.heap.size+1,0,none⟩) 1 1,.int .i64 6,.int .i64 1,.int .i64 1,.slice none 0 0]:Array Value)[o]?:=fun o=>by
      rw [hW,World.cell?_alloc_at _ _ _ _ (by simp)]
    have hri:RI W W.heap.size (some ⟨w.heap.size+1,0,none⟩) [0]:=bX (l:=[0]) (t:=3) (f:=(0,0)) (by
      rw [hW,heap_alloc_old _ _ (by simp),aK _ _ (by simp)];rfl) (by omega)
    refine fun _=>⟨_,0,rfl,hz,fun i h hh=>?_⟩
    match i,hh with
    | 0,hh=>simp [wakeC] at hh;subst hh;exact ⟨hc _,hc _,hc _,none,0,hc _,.nil⟩
    | 1,hh=>simp [wakeC] at hh;subst hh;exact ⟨hc _,hc _,hc _,_,1,hc _,hri⟩
    | 2,hh=>simp [wakeC] at hh;subst hh;exact ⟨hc _,hc _,hc _,none,0,hc _,.nil⟩
    | k+3,hh=>simp [wakeC] at hh
  · rw [hW];exact (((Gr.refl w).alloc _).alloc _).alloc _
  · rw [hW,heap_alloc_old _ _ (by simp),aK _ _ (by simp)]
  · rw [hW,aK _ _ (by simp)]
theorem j7 (A:Option Addr) (c:Nat) (l:List Int) (w:World):Calls Sq.prog 41 #[.slice A l.length c] w fun e w'=>∃ hA,e=.returned (campV A hA (wakeC l) c 3)∧HsAt w' w'.heap.size hA (wakeC l).herders∧Gr w w' :=
 (n7 A c l w).mono fun e w' ⟨hA,h1,h2,h3,_⟩=>⟨hA,h1,h2,h3⟩
end Go.Proofs.YtgicaeombogkcaaGreat
namespace Go.Sq
def dJ (l:List Int) (d:Int):List Int:=if d∈l then l else (l++[d]).mergeSort fun x y=>decide (x<=y)
def repC (c:Camp) (k:Nat) (d:Int):Camp:={ c with herders:=c.herders.set k { c.h k with off:=dJ (c.h k).off d } }
def farR (a b:Ros):Nat->Nat
 | 0=>0
 | n+1=>farR a b n+(wl (a n ^^^ b n)).length
def nearR (r:Ros):List Ros->Option (Ros×Nat)
 | []=>none
 | l@(_ :: _)=>l.foldl (fun o ρ=>match o with
  | none=>some (ρ,farR ρ r 5)
  | some b=>if farR ρ r 5<b.2 then some (ρ,farR ρ r 5) else some b) none
theorem ie (r:Ros) (l:List Ros) (ρ:Ros):nearR r (l++[ρ])=(match nearR r l with
  | none=>some (ρ,farR ρ r 5)
  | some b=>if farR ρ r 5<b.2 then some (ρ,farR ρ r 5) else some b):=by
 cases l with
 | nil=>rfl
 | cons a l =>
  show ((a :: l)++[ρ]).foldl _ none=_
  rw [List.foldl_append]
  rfl
theorem n8 {r:Ros}:∀ (n:Nat) (l:List Ros) (p:Ros×Nat),l.length=n->nearR r l=some p->p.1∈l:=by
 intro n
 induction n with
 | zero =>
  intro l p hl h
  rw [List.eq_nil_of_length_eq_zero hl] at h
  cases h
 | succ n ih =>
  intro l p hl h
  rcases List.eq_nil_or_concat l with rfl | ⟨l',b,rfl⟩
  ·simp at hl
  ·rw [List.concat_eq_append] at h hl ⊢
   rw [ie] at h
   have hl':l'.length=n:=by simpa using hl
   cases ho:nearR r l' with
   | none=>rw [ho] at h;cases h;simp
   | some q =>
    rw [ho] at h
    simp only at h
    split at h
    ·cases h;simp
    ·have e:=Option.some.inj h
     rw [<- e]
     exact List.mem_append_left _ (ih l' q hl' ho)
end Go.Sq
namespace Go.Proofs.YtgicaeombogkcaaGreat
open Go.RowKit Go.Sq
theorem el {w:World} {B:Nat} {A:Option Addr} {l:List Int} {K:Nat->Prop} (h:RI w B A l) (hK:∀ b,b<B->K b):RIK w K A l:=fun hn=>by
 obtain ⟨b,o,e,hb,hc⟩:=h hn
 exact ⟨b,o,e,hK b hb,hc⟩
theorem sa {w:World} {B:Nat} {A:Option Addr} {l:List Herder} {K:Nat->Prop} (h:HsAt w B A l) (hK:∀ b,b<B->K b):HsAtK w K A l:=fun hn=>by
 obtain ⟨b,o,e,hb,hc⟩:=h hn
 refine ⟨b,o,e,hK b hb,fun i x hx=>?_⟩
 obtain ⟨h1,h2,h3,A',c,h4,h5⟩:=hc i x hx
 exact ⟨h1,h2,h3,A',c,h4,el h5 hK⟩
def kOf (B cb g:Nat):Nat->Prop:=fun b=>b<B∨b=cb∨b=g
def CampF (w:World) (cb g:Nat) (c:Camp) (sets:List Nat) (nA hA:Option Addr) (nc hc cap:Nat):Prop :=
 FlatS w (.slice (some ⟨g,0,none⟩) sets.length cap)∧w.heap[cb]?=some (.cells #[.slice nA c.needs.length nc,.slice hA c.herders.length hc,.slice (some ⟨g,0,none⟩) sets.length cap] 149 (0,0))
theorem ig (nA hA:Option Addr) (nc hc:Nat) (c:Camp) (w:World) (B:Nat) (hB:B<=w.heap.size) (hn:RI w B nA c.needs) (hh:HsAt w B hA c.herders) (hm:c.herders.length<=4) :
  Calls Sq.prog 70 #[campV nA hA c nc hc] w fun e w'=>e=.returned (.pointer (some ⟨w.heap.size+1,0,none⟩))∧Gr w w'∧∃ g cap,w.heap.size+2<=g ∧
   CampK w' (kOf B (w.heap.size+1) g) (w.heap.size+1) c (setsL c.herders.length) nA hA nc hc g cap∧CampF w' (w.heap.size+1) g c (setsL c.herders.length) nA hA nc hc cap:=by
 refine (lF nA hA nc hc c.needs.length c.herders.length w hm (nZ c.herders.length hm)).mono ?_
 rintro e w' ⟨rfl,g,cap,W,⟨g',cap',hv,hk,hs,hsf⟩,hg,hgr,hz,h0,h1,h2,ho,hfl,hob⟩
 obtain ⟨rfl,rfl⟩:g=g'∧cap=cap':=by injection hv with a b c;injection a with a;injection a with a;exact ⟨a,c⟩
 have hgW:=(ho.lt g rfl).2
 have hGr:Gr w w':=⟨⟨hk.os.trans hgr.below.os,hk.tape.trans hgr.below.tape,hk.output.trans hgr.below.output,Nat.le_trans hgr.size hk.size,fun b hb=>(hk.block b (Nat.lt_of_lt_of_le hb hgr.size) (by show b≠g;omega)).trans (hgr.below.block b hb)⟩,Nat.le_trans hgr.drawn hk.drawn⟩
 refine ⟨rfl,hGr,g,cap,hg,?_,?_,?_⟩
 rotate_left
 ·rw [cy _ hm];exact hsf _ _ hfl
 ·rw [cy _ hm];exact (hk.block _ hz (by show ¬ w.heap.size+1=g;omega)).trans hob
 have hc1:∀ o,w'.cell? ⟨w.heap.size+1,o,none⟩=W.cell? ⟨w.heap.size+1,o,none⟩:=fun o=>hk.cell (p:=⟨w.heap.size+1,o,none⟩) hz (by show w.heap.size+1≠g;omega)
 refine ⟨?_,Or.inr (Or.inl rfl),(hc1 0).trans h0,(hc1 1).trans h1,?_,Or.inr (Or.inr rfl),hs,el (hn.gr hB hGr) fun b hb=>Or.inl hb,sa (hh.keep fun b o hb=>hGr.cell (Nat.lt_of_lt_of_le hb hB)) fun b hb=>Or.inl hb⟩
 ·rintro b (h | h | h)
  ·have:=hGr.size;omega
  ·have:=hk.size;omega
  ·have:=hk.size;omega
 ·rw [cy _ hm];exact (hc1 2).trans h2
def Begun (nA hA:Option Addr) (nc hc:Nat) (c:Camp) (B:Nat) (w:World) (e:Ending) (w':World):Prop :=
 Gr w w' ∧ if checkE c = 0 then ∃ cb g cap, e = .returned (.tuple #[.pointer (some ⟨cb, 0, none⟩), .int .i64 0]) ∧ w.heap.size <= cb ∧ cb < g ∧ CampK w' (kOf B cb g) cb c (setsL c.herders.length) nA hA nc hc g cap ∧ CampF w' cb g c (setsL c.herders.length) nA hA nc hc cap
   else e=.returned (.tuple #[.pointer none,.int .i64 (checkE c)])
theorem iP (nA hA:Option Addr) (nc hc:Nat) (c:Camp) (w:World) (B:Nat) (hB:B<=w.heap.size) (hn:RI w B nA c.needs) (hh:HsAt w B hA c.herders) (hl1:c.needs.length<=4611686018427387904) (hl2:c.herders.length<=4611686018427387904)
  (hlo:∀ h∈c.herders,h.off.length<=4611686018427387904) :
  Calls Sq.prog 48 #[campV nA hA c nc hc] w (Begun nA hA nc hc c B w):=by
 have HN:=Lib.hid hn
 have HH:=Lib.hid hh
 have HLO:=Lib.hid hlo
 clear hn hh hlo
 unfold campV
 obtain ⟨W0,hW0⟩:∃ W0:World,W0=w.alloc (.cells #[.slice nA c.needs.length nc,.slice hA c.herders.length hc] 25):=⟨_,rfl⟩
 have hg0:Gr w W0:=hW0▸(Gr.refl w).alloc _
 have hn0:RI W0 B nA c.needs:=HN.out.gr hB hg0
 have hh0:HsAt W0 B hA c.herders:=HH.out.keep fun b o hb=>hg0.cell (Nat.lt_of_lt_of_le hb hB)
 have hz0:W0.heap.size=w.heap.size+1:=by rw [hW0];simp
 have HW:=Lib.hid hW0
 clear hW0
 have HC:=Lib.hid (qR nA hA nc hc c W0 B (by omega) hn0 hh0 hl1 hl2 HLO.out)
 have HG0:=Lib.hid hg0
 have HN0:=Lib.hid hn0
 have HH0:=Lib.hid hh0
 clear hg0 hn0 hh0
 unfold campV at HC
 go_enter Sq.func48,Tryz.ntmps48
 go_wp2_with fail
 rw [<- HW.out]
 refine HC.out.mono ?_
 rintro e w1 ⟨rfl,hg1⟩
 have HG1:=Lib.hid hg1
 clear hg1 HC
 by_cases hE:checkE c=0
 ·rw [hE]
  have hm:=Camp.Ok.of hE
  have h01:Gr W0 w1:=HG1.out
  have HS:=Lib.hid (ig nA hA nc hc c w1 B (by have:=h01.size;omega) (HN0.out.gr (by omega) h01) (HH0.out.keep fun b o hb=>h01.cell (Nat.lt_of_lt_of_le hb (by omega))) hm.h4)
  have hc0:w1.cell? ⟨w.heap.size,0,none⟩=some (.slice nA c.needs.length nc):=(h01.cell (by show w.heap.size<_;omega)).trans (by rw [HW.out];simp)
  have hc1:w1.cell? ⟨w.heap.size,1,none⟩=some (.slice hA c.herders.length hc):=(h01.cell (by show w.heap.size<_;omega)).trans (by rw [HW.out];simp)
  have hz1:=h01.size
  unfold campV at HS
  clear h01 hm
  have HE:=Lib.hid hE
  clear hE
  go_wp2_with fail
  refine HS.out.mono ?_
  rintro e w2 ⟨rfl,hg2,g,cap,hg,hK,hKF⟩
  have HRF:=Lib.hid hKF
  clear hKF
  have HR:=Lib.hid hK
  have HG2:=Lib.hid hg2
  clear hg2 hK
  go_wp2
  go_ret2
  refine ⟨HG0.out.trans (HG1.out.trans HG2.out),?_⟩
  rw [if_pos HE.out]
  exact ⟨_,g,cap,rfl,by omega,by omega,HR.out,HRF.out⟩
 ·have HE:=Lib.hid hE
  obtain ⟨k,hk⟩:∃ k,k=checkE c:=⟨_,rfl⟩
  rw [<- hk] at hE ⊢
  have HK:=Lib.hid hk
  clear hk
  go_wp2
  go_ret2
  refine ⟨HG0.out.trans HG1.out,?_⟩
  rw [if_neg HE.out]
  show Ending.returned (.tuple #[.pointer none,.int .i64 k])=_
  rw [HK.out]
open Go.RowKit Go.Sq Go.Shelf
attribute [local go_sem] Oper.semAt_some
def zeroR:Ros:=fun _=>0
theorem eO {c:Camp}:∀ i,c.has (zeroR i):=fun _=>Nat.pos_of_ne_zero (by simp)
theorem j8 {c:Camp} (hok:c.Ok):∀ x∈setsL c.herders.length,c.has x:=j5 _ hok.h4
theorem lG {c:Camp} (hok:c.Ok):(setsL c.herders.length).length<=16:=by
 rw [cy _ hok.h4]
 exact Nat.le_trans (Nat.pow_le_pow_right (by omega) hok.h4) (by decide)
def isSome (c:Camp):Bool:=!(walkL c (setsL c.herders.length) c.needs.length zeroR 0).isEmpty
theorem oa {K:Nat->Prop} {cb:Nat} {c:Camp} {nA hA:Option Addr} {nc hc sb sc:Nat} (w:World) (hok:c.Ok) (hK:CampK w K cb c (setsL c.herders.length) nA hA nc hc sb sc) :
  Calls Sq.prog 77 #[.pointer (some ⟨cb,0,none⟩)] w fun e w'=>e=.returned (.bool (isSome c))∧Gr w w':=by
 rw [<- callsIn_wide (n:=0)]
 have HK:=Lib.hid hK
 have hkl:=hK.lt
 have HKL:=Lib.hid hkl
 clear hK hkl
 refine callsIn_of_wp_marks Sq.func77 rfl trivial ?_ rfl
 simp only [Tryz.ntmps77,List.size_toArray,List.length_cons,List.length_nil,Nat.reduceAdd,Nat.reduceSub,Array.replicate_succ,Array.replicate_zero,List.push_toArray,List.append_toArray,List.nil_append,List.cons_append]
 gi_wp2_with fail
 have hfrom:=jH cb 0 zeroR (w.alloc (.cells #[.bool false] 4))
 rw [<- callsIn_wide (n:=0)] at hfrom
 refine ⟨trivial,rfl,hfrom.mono ?_⟩
 rintro e w1 ⟨rfl,hw1⟩
 have HS:=Lib.hid (iF (T0:=(·=w.heap.size)) (K:=K) (n:=0) (r:=zeroR) (HK.out.keep (w':=w.alloc (.cells #[.bool false] 4)) (by simp) fun b o hb=>World.cell?_alloc_past _ _ _ (HKL.out b hb)) (fun b hb=>by subst hb;simp) (fun b hb h=>by have:=HKL.out b hb;omega) eO)
 rw [<- hw1] at HS
 have HW:=Lib.hid hw1
 clear hw1 hfrom
 have hres:w1.heap[w.heap.size]?=some (.cells #[.bool false] 4 (0,0)):=by
  rw [HW.out,Below.heap_alloc _ _ _ (by simp;omega),Below.heap_alloc _ _ _ (by simp;omega),Below.heap_alloc _ _ _ (by simp)]
  exact World.alloc_heap_new w _
 have HRES:=Lib.hid hres
 have hz:w1.heap.size=w.heap.size+4:=by rw [HW.out];simp
 have HZ:=Lib.hid hz
 have hg1:Gr w w1:=by rw [HW.out];exact ((((Gr.refl w).alloc _).alloc _).alloc _).alloc _
 have HG:=Lib.hid hg1
 clear hres hz hg1
 gi_wp2_with fail
 refine lW (T0:=(·=w.heap.size)) (K:=K) (cb:=cb) (c:=c) (sets:=setsL c.herders.length) (nA:=nA) (hA:=hA) (nc:=nc) (hc:=hc) (sb:=sb) (sc:=sc) (bc:=w.heap.size+1) (br:=w.heap.size+1+1) (bn:=w.heap.size+1+2) (k:=c.needs.length) (n:=0) (r:=zeroR)
  hok (j8 hok) (lG hok) rfl (by omega) (fun _ _=>rfl) (by simpa using HS.out) (by rintro b rfl;have:=HZ.out;omega)
  (fun pre W=>pre=[]∧W.heap[w.heap.size]?=some (.cells #[.bool false] 4 (0,0)))
  (fun j pre W=>j=.ret∧pre≠[]∧W.heap[w.heap.size]?=some (.cells #[.bool true] 4 (0,0)))
  (fun pre W W' h hk=>⟨h.1,(hk _ rfl).trans h.2⟩) (fun j pre W W' h hk=>⟨h.1,h.2.1,(hk _ rfl).trans h.2.2⟩) ⟨rfl,HRES.out⟩
  ?_ ?_ ?_
 ·intro l pre ρ W hkw hpre
  obtain ⟨rfl,hb⟩:=hpre
  obtain ⟨h1,h2,h3⟩:=one_cell hb
  have HB:=Lib.hid (one_set (u:=.bool true) hb)
  clear hkw hb
  gi_wp2
  exact ⟨KT.setCell (T:=(·=w.heap.size)) W (p:=⟨w.heap.size,0,none⟩) rfl _,rfl,by simp,HB.out⟩
 ·rintro D W hD hkw ⟨hL,hb⟩ hd
  obtain ⟨h1,h2,h3⟩:=one_cell hb
  have HB:=Lib.hid (one_set (u:=.bool false) hb)
  have HK2:=Lib.hid (hkw.gr HG.out (by rintro b (rfl | rfl)<;>omega))
  have HL:=Lib.hid (show isSome c=false by unfold isSome;rw [hL];rfl)
  have hD2:D≠w.heap.size:=fun e=>by subst e;rw [hb] at hd;cases hd
  have HD:=Lib.hid (show (W.setCell ⟨w.heap.size,0,none⟩ (.bool false)).heap[D]?=some (.deferred (some [])) from (Below.heap_setCell _ _ _ _ hD2).trans hd)
  have hz:=HZ.out
  clear hkw hb hd hL
  gi_wp2
  refine cR HD.out (v:=.bool false) ?_ ⟨by rw [HL.out],(HK2.out.setCell (Nat.le_refl _) _).putObj (by omega) _⟩
  have:=(one_cell HB.out).1
  rw [<- bM (D:=D) (o:=.deferred none) (p:=⟨w.heap.size,0,none⟩) (Ne.symm hD2)] at this
  simp [results,Tryz.results77,go_sem,this]
 ·rintro D j q W hD hkw hq ⟨rfl,hne,hb⟩ hd
  have hD2:D≠w.heap.size:=fun e=>by subst e;rw [hb] at hd;cases hd
  refine wpIn_ret ?_
  refine cR hd (v:=.bool true) ?_ ⟨?_,(hkw.gr HG.out (by have:=HZ.out;rintro b (rfl | rfl)<;>omega)).putObj (by have:=HZ.out;omega) _⟩
  ·have:=(one_cell hb).1
   rw [<- bM (D:=D) (o:=.deferred none) (p:=⟨w.heap.size,0,none⟩) (Ne.symm hD2)] at this
   simp [results,Tryz.results77,go_sem,this]
  ·refine aA ?_
   unfold isSome
   obtain ⟨t,ht⟩:=hq
   cases hw:walkL c (setsL c.herders.length) c.needs.length zeroR 0 with
   | nil=>rw [hw] at ht;exact absurd (List.append_eq_nil_iff.1 ht).1 hne
   | cons a l=>rfl
end Go.Proofs.YtgicaeombogkcaaGreat
namespace Go.Sq
def lessL (l m:List Int):Bool:=decide (l.length<m.length)||(decide (l.length=m.length)&&decide (cmpL l m<0))
def KeepL (w:World) (kb:Nat):Option (List Int)->Prop
 | none=>w.heap[kb]?=some (.cells #[.int .i32 0,.int .u32 0,.slice none 0 0,.bool false] 129 (0,0))
 | some l=>∃ A c,w.heap[kb]?=some (.cells #[.int .i32 0,.int .u32 0,.slice A l.length c,.bool true] 129 (0,0))∧l.length<=4611686018427387904∧RIK w (fun b=>b≠kb∧b<w.heap.size) A l
def bestL:Option (List Int)->List Int->List Int
 | none,x=>x
 | some b,x=>if lessL x b then x else b
theorem four_cells {W:World} {b:Nat} {v0 v1 v2 v3:Value} {t:TypeId} (h:W.heap[b]?=some (.cells #[v0,v1,v2,v3] t (0,0))) :
  W.cell? ⟨b,0,none⟩=some v0∧W.cell? ⟨b,1,none⟩=some v1∧W.cell? ⟨b,2,none⟩=some v2∧W.cell? ⟨b,3,none⟩=some v3∧(∀ i,W.frozen? ⟨b,i,none⟩=false)∧b<W.heap.size:=by
 refine ⟨?_,?_,?_,?_,fun i=>?_,(Array.getElem?_eq_some_iff.1 h).1⟩
 ·unfold World.cell?;simp only [h];rfl
 ·unfold World.cell?;simp only [h];rfl
 ·unfold World.cell?;simp only [h];rfl
 ·unfold World.cell?;simp only [h];rfl
 ·unfold World.frozen?;simp [h]
theorem aE {W:World} {b i:Nat} {a:Array Value} {u:Value} {t:TypeId} {f:Nat×Nat} (h:W.heap[b]?=some (.cells a t f)):(W.setCell ⟨b,i,none⟩ u).heap[b]?=some (.cells (a.setIfInBounds i u) t f):=by
 unfold World.setCell
 simp only [Array.getElem?_modify,if_true,h]
 rfl
theorem RIK.keep' {w w':World} {kb:Nat} {A:Option Addr} {l:List Int} (h:RIK w (fun b=>b≠kb∧b<w.heap.size) A l) (hz:w.heap.size<=w'.heap.size) (hk:∀ b o,b≠kb->w'.cell? ⟨b,o,none⟩=w.cell? ⟨b,o,none⟩):RIK w' (fun b=>b≠kb∧b<w'.heap.size) A l:=fun hn=>by
 obtain ⟨b,o,e,hb,hc⟩:=h hn
 exact ⟨b,o,e,⟨hb.1,Nat.lt_of_lt_of_le hb.2 hz⟩,fun i x hx=>(hk _ _ hb.1).trans (hc i x hx)⟩
end Go.Sq
namespace Go.Proofs.YtgicaeombogkcaaGreat
open Go.RowKit Go.Sq
theorem pI (A A':Option Addr) (c c':Nat) (l m:List Int) (w:World) (B:Nat) (h:RI w B A l) (h':RI w B A' m) (hl:l.length<=4611686018427387904) (hm:m.length<=4611686018427387904) :
  Calls Sq.prog 79 #[.slice A l.length c,.slice A' m.length c'] w fun e w'=>e=.returned (.bool (lessL l m))∧w=w':=by
 have HC:=Lib.hid (iU A A' c c' l m w B h h' hl hm)
 clear h h'
 go_enter Sq.func79,Tryz.ntmps79
 by_cases h1:l.length<m.length
 ·have HL:=Lib.hid (show lessL l m=true by simp [lessL,h1])
  go_wp2
  go_ret
  exact ⟨aA HL.out.symm,rfl⟩
 ·by_cases h2:l.length=m.length
  ·have HL:=Lib.hid (show lessL l m=decide (cmpL l m<0) by simp [lessL,h2])
   rw [h2] at HC ⊢
   clear h1 h2
   generalize cmpL l m=q at HC HL
   go_wp2_with (go_at_call 80;refine HC.out.mono ?_;rintro e w' ⟨rfl,rfl⟩)
   go_ret
   exact ⟨aA HL.out.symm,rfl⟩
  ·have HL:=Lib.hid (show lessL l m=false by simp [lessL,h1,h2])
   clear HC
   generalize l.length=a at h1 h2 hl ⊢
   generalize m.length=b at h1 h2 hm ⊢
   go_wp2
   go_ret
   exact ⟨aA HL.out.symm,rfl⟩
theorem qV (kb:Nat) (xA:Option Addr) (xc:Nat) (x:List Int) (o:Option (List Int)) (w:World) (hk:KeepL w kb o) (hx:RIK w (fun b=>b≠kb∧b<w.heap.size) xA x) (hl:x.length<=4611686018427387904) :
  Calls Sq.prog 78 #[.pointer (some ⟨kb,0,none⟩),.slice xA x.length xc,.func (.func 79) #[] #[]] w fun e w'=>e=.returned (.tuple #[])∧KT (·=kb) w w'∧KeepL w' kb (some (bestL o x)):=by
 have HX:=Lib.hid hx
 clear hx
 cases o with
 | none =>
  obtain ⟨h0,h1,h2,h3,hf,hlt⟩:=four_cells hk
  have f0:=hf 0
  have f2:=hf 2
  have f3:=hf 3
  have HK:=Lib.hid hk
  clear hf hk
  go_enter_defers Sq.func78,Tryz.ntmps78
  go_wp2_with (go_at_call 99;refine (Sq.lock_t ⟨kb,0,none⟩ _ h0 f0).mono ?_;rintro e w' ⟨rfl,rfl⟩)
  have HS:=Lib.hid (aE (i:=3) (u:=.bool true) (aE (i:=2) (u:=.slice xA x.length xc) (aE (i:=0) (u:=.int .i32 1) HK.out)))
  refine leaves_cons (f:=100) (args:=#[.pointer (some ⟨kb,0,none⟩)]) (by simp) (by simp [go_sem]) ?_
  obtain ⟨c0,_,_,_,cf,_⟩:=four_cells HS.out
  refine (Sq.unlock_d ⟨kb,0,none⟩ .returning _ c0 (cf 0)).mono ?_
  rintro e u' w'' ⟨rfl,rfl,rfl⟩
  have HS2:=aE (i:=0) (u:=.int .i32 0) HS.out
  refine ⟨.tuple #[],results_none rfl _ _ _,rfl,(((KT.setCell (T:=(·=kb)) w (p:=⟨kb,0,none⟩) rfl _).trans (KT.setCell (T:=(·=kb)) _ (p:=⟨kb,2,none⟩) rfl _)).trans (KT.setCell (T:=(·=kb)) _ (p:=⟨kb,3,none⟩) rfl _)).trans (KT.setCell (T:=(·=kb)) _ (p:=⟨kb,0,none⟩) rfl _),?_⟩
  refine ⟨xA,xc,HS2,hl,HX.out.keep' (by simp [World.setCell]) fun b i hb=>?_⟩
  rw [World.cell?_setCell_other _ _ _ _ (by simp [Ne.symm hb]),World.cell?_setCell_other _ _ _ _ (by simp [Ne.symm hb]),World.cell?_setCell_other _ _ _ _ (by simp [Ne.symm hb]),World.cell?_setCell_other _ _ _ _ (by simp [Ne.symm hb])]
 | some b =>
  obtain ⟨bA,bc,hk,hbl,hb⟩:=hk
  obtain ⟨h0,h1,h2,h3,hf,hlt⟩:=four_cells hk
  have f0:=hf 0
  have f2:=hf 2
  have f3:=hf 3
  have HK:=Lib.hid hk
  have HB:=Lib.hid hb
  have hc2:(w.setCell ⟨kb,0,none⟩ (.int .i32 1)).cell? ⟨kb,2,none⟩=some (.slice bA b.length bc):=(World.cell?_setCell_other _ _ _ _ (by simp)).trans h2
  have hc3:(w.setCell ⟨kb,0,none⟩ (.int .i32 1)).cell? ⟨kb,3,none⟩=some (.bool true):=(World.cell?_setCell_other _ _ _ _ (by simp)).trans h3
  have kp:∀ {A:Option Addr} {l:List Int},RIK w (fun b=>b≠kb∧b<w.heap.size) A l->RI (w.setCell ⟨kb,0,none⟩ (.int .i32 1)) w.heap.size A l:=fun h=>RIK.ri (K:=fun b=>b≠kb∧b<w.heap.size) (h.keep fun b o hb=>World.cell?_setCell_other _ _ _ _ (by simp [Ne.symm hb.1])) fun b hb=>hb.2
  have HC:=Lib.hid (pI xA bA xc bc x b (w.setCell ⟨kb,0,none⟩ (.int .i32 1)) w.heap.size (kp HX.out) (kp hb) hl hbl)
  clear hf hk hb kp hc2 hc3
  obtain ⟨v,hv⟩:∃ v,v=lessL x b:=⟨_,rfl⟩
  rw [<- hv] at HC
  have HV:=Lib.hid hv
  clear hv
  cases v with
  | true =>
   go_enter_defers Sq.func78,Tryz.ntmps78
   go_wp2_with (first | (go_at_call 99;refine (Sq.lock_t ⟨kb,0,none⟩ _ h0 f0).mono ?_;rintro e w' ⟨rfl,rfl⟩) | (go_at_call 79;refine HC.out.mono ?_;rintro e w' ⟨rfl,rfl⟩))
   have HS:=Lib.hid (aE (i:=3) (u:=.bool true) (aE (i:=2) (u:=.slice xA x.length xc) (aE (i:=0) (u:=.int .i32 1) HK.out)))
   refine leaves_cons (f:=100) (args:=#[.pointer (some ⟨kb,0,none⟩)]) (by simp) (by simp [go_sem]) ?_
   obtain ⟨c0,_,_,_,cf,_⟩:=four_cells HS.out
   refine (Sq.unlock_d ⟨kb,0,none⟩ .returning _ c0 (cf 0)).mono ?_
   rintro e u' w'' ⟨rfl,rfl,rfl⟩
   have HS2:=aE (i:=0) (u:=.int .i32 0) HS.out
   refine ⟨.tuple #[],results_none rfl _ _ _,rfl,(((KT.setCell (T:=(·=kb)) w (p:=⟨kb,0,none⟩) rfl _).trans (KT.setCell (T:=(·=kb)) _ (p:=⟨kb,2,none⟩) rfl _)).trans (KT.setCell (T:=(·=kb)) _ (p:=⟨kb,3,none⟩) rfl _)).trans (KT.setCell (T:=(·=kb)) _ (p:=⟨kb,0,none⟩) rfl _),?_⟩
   have hbl2:bestL (some b) x=x:=by simp [bestL,<- HV.out]
   rw [hbl2]
   refine ⟨xA,xc,HS2,hl,HX.out.keep' (by simp [World.setCell]) fun b i hb=>?_⟩
   rw [World.cell?_setCell_other _ _ _ _ (by simp [Ne.symm hb]),World.cell?_setCell_other _ _ _ _ (by simp [Ne.symm hb]),World.cell?_setCell_other _ _ _ _ (by simp [Ne.symm hb]),World.cell?_setCell_other _ _ _ _ (by simp [Ne.symm hb])]
  | false =>
   go_enter_defers Sq.func78,Tryz.ntmps78
   go_wp2_with (first | (go_at_call 99;refine (Sq.lock_t ⟨kb,0,none⟩ _ h0 f0).mono ?_;rintro e w' ⟨rfl,rfl⟩) | (go_at_call 79;refine HC.out.mono ?_;rintro e w' ⟨rfl,rfl⟩))
   have HS:=Lib.hid (aE (i:=0) (u:=.int .i32 1) HK.out)
   refine leaves_cons (f:=100) (args:=#[.pointer (some ⟨kb,0,none⟩)]) (by simp) (by simp [go_sem]) ?_
   obtain ⟨c0,_,_,_,cf,_⟩:=four_cells HS.out
   refine (Sq.unlock_d ⟨kb,0,none⟩ .returning _ c0 (cf 0)).mono ?_
   rintro e u' w'' ⟨rfl,rfl,rfl⟩
   have HS2:=aE (i:=0) (u:=.int .i32 0) HS.out
   refine ⟨.tuple #[],results_none rfl _ _ _,rfl,(KT.setCell (T:=(·=kb)) w (p:=⟨kb,0,none⟩) rfl _).trans (KT.setCell (T:=(·=kb)) _ (p:=⟨kb,0,none⟩) rfl _),?_⟩
   have hbl2:bestL (some b) x=b:=by simp [bestL,<- HV.out]
   rw [hbl2]
   refine ⟨bA,bc,HS2,hbl,HB.out.keep' (by simp [World.setCell]) fun b i hb=>?_⟩
   rw [World.cell?_setCell_other _ _ _ _ (by simp [Ne.symm hb]),World.cell?_setCell_other _ _ _ _ (by simp [Ne.symm hb])]
end Go.Proofs.YtgicaeombogkcaaGreat
