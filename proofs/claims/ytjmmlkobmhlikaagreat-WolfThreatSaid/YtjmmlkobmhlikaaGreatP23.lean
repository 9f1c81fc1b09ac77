/- Parts of the proof. -/
import Derived.Test.YtjmmlkobmhlikaaGreatP21
import Derived.Test.YtjmmlkobmhlikaaGreatP22
import Derived.Test.YtjmmlkobmhlikaaGreatP17
import Derived.Test.YtjmmlkobmhlikaaGreatP18
import Derived.Test.YtjmmlkobmhlikaaGreatP02
import Derived.Test.YtjmmlkobmhlikaaGreatP16
import Derived.Sort.BigQuietIn
set_option linter.all false
set_option maxHeartbeats 6400000
set_option maxRecDepth 1000000
namespace Go.Proofs.YtjmmlkobmhlikaaGreat
open Go.RowKit Go.Sq
def sj (nA hA:Option Addr)(nc hc:Nat)(c:Camp)(w:World)(K0:Nat->Prop)(hlt:∀b,K0 b->b<w.heap.size)(hn:RIK w K0 nA c.needs)(hh:HsAtK w K0 hA c.herders)(hm:c.herders.length<=4) :
  Calls uZ 55 #[campV nA hA c nc hc] w λe w'=>e=.returned (.pointer (some ⟨w.heap.size+1,0,none⟩))/\Gr w w'/\∃g cap,w.heap.size+2<=g /\
   CampK w' (λb=>K0 b\/b=w.heap.size+1\/b=g) (w.heap.size+1) c (setsL c.herders.length) nA hA nc hc g cap:=by
 refine(mh nA hA nc hc c.needs.length c.herders.length w hm (oS c.herders.length hm)).mono ?_
 rintro e w' ⟨rfl,g,cap,W,⟨g',cap',hv,hk,hs,_⟩,hg,hgr,hz,h0,h1,h2,ho,_⟩
 obtain⟨rfl,rfl⟩:g=g'/\cap=cap':=by injection hv with a b c;injection a with a;injection a with a;exact⟨a,c⟩
 have hgW:=(ho.lt g rfl).2
 have hGr:Gr w w':=⟨⟨hk.os.trans hgr.below.os,hk.tape.trans hgr.below.tape,hk.output.trans hgr.below.output,Nat.le_trans hgr.size hk.size,λb hb=>(hk.block b (Nat.lt_of_lt_of_le hb hgr.size) (by show b≠g;omega)).trans (hgr.below.block b hb)⟩,Nat.le_trans hgr.drawn hk.drawn⟩
 refine⟨rfl,hGr,g,cap,hg,?_⟩
 have hc1:∀o,w'.cell? ⟨w.heap.size+1,o,none⟩=W.cell? ⟨w.heap.size+1,o,none⟩:=λo=>hk.cell (p:=⟨w.heap.size+1,o,none⟩) hz (by show w.heap.size+1≠g;omega)
 refine⟨?_,Or.inr (Or.inl rfl),(hc1 0).trans h0,(hc1 1).trans h1,?_,Or.inr (Or.inr rfl),hs,?_,?_⟩
 ·rintro b (h|h|h)
  ·have:=hlt b h;have:=hGr.size;omega
  ·have:=hk.size;omega
  ·have:=hk.size;omega
 ·rw[cI _ hm];exact(hc1 2).trans h2
 ·intro hne
  obtain⟨b,o,e,hb,hc⟩:=hn hne
  exact⟨b,o,e,.inl hb,λi x hx=>(hGr.cell (p:=⟨b,o+i,none⟩) (hlt b hb)).trans (hc i x hx)⟩
 ·intro hne
  obtain⟨b,o,e,hb,hc⟩:=hh hne
  refine⟨b,o,e,.inl hb,λi x hx=>?_⟩
  obtain⟨q1,q2,q3,A,m,q4,q5⟩:=hc i x hx
  have k:∀o,w'.cell? ⟨b,o,none⟩=w.cell? ⟨b,o,none⟩:=λo=>hGr.cell (p:=⟨b,o,none⟩) (hlt b hb)
  refine⟨(k _).trans q1,(k _).trans q2,(k _).trans q3,A,m,(k _).trans q4,λhn'=>?_⟩
  obtain⟨b',o',e',hb',hc'⟩:=q5 hn'
  exact⟨b',o',e',.inl hb',λi x hx=>(hGr.cell (p:=⟨b',o'+i,none⟩) (hlt b' hb')).trans (hc' i x hx)⟩
structure RepW (nA:Option Addr)(nc:Nat)(c:Camp)(ls:List (List Int))(k:Nat)(d:Int)(w:World)(b12 g cap:Nat)(w2:World):Prop where
 gr:Gr w w2
 c0:w2.cell? ⟨w.heap.size,0,none⟩=some (.slice nA c.needs.length nc)
 c1:w2.cell? ⟨w.heap.size,1,none⟩=some (.slice (some ⟨g,0,none⟩) c.herders.length cap)
 nb:w2.heap[w.heap.size+1]?=some (.cells #[.int .i64 0] 3 (0,0))
 lt:w.heap.size+1<b12/\b12<w2.heap.size/\b12<g
 given:∀i,i<5->w2.cell? ⟨b12,i,none⟩=some (.int .u8 (rosOf ls i:Nat))
 needs:RIK w2 (λb=>b<w2.heap.size/\b≠w.heap.size+1) nA c.needs
 herd:HsAtK w2 (λb=>b<w2.heap.size/\b≠w.heap.size+1) (some ⟨g,0,none⟩) (repC c k d).herders
def qF (c:Camp)(k:Nat)(d:Int):(repC c k d).herders.length=c.herders.length:=by simp[repC]
def repC_at {c:Camp}{k i:Nat}{d:Int}{h:Herder}(hi:(repC c k d).herders[i]?=some h)(hk:k<c.herders.length) :
  (i=k/\h={ c.h k with off:=dY (c.h k).off d })\/(i≠k/\c.herders[i]?=some h):=by
 unfold repC at hi
 dsimp only at hi
 rw[List.getElem?_set] at hi
 by_cases e:k=i
 ·subst e;rw[if_pos rfl,if_pos hk] at hi;cases hi;exact .inl ⟨rfl,rfl⟩
 ·rw[if_neg e] at hi;exact .inr ⟨λh=>e h.symm,hi⟩
def jH {c:Camp}{sets:List Nat}(hs:∀x∈sets,c.has x):∀(k:Nat) (r:Ros) (n:Nat),(∀i,c.has (r i))->∀ρ∈walkL c sets k r n,∀i,c.has (ρ i):=by
 intro k
 induction k with
 |zero=>intro r n hr ρ hρ;simp[walkL] at hρ;subst hρ;exact hr
 |succ k ih =>
  intro r n hr ρ hρ
  simp only[walkL,List.mem_flatMap] at hρ
  obtain⟨x,hx,h⟩:=hρ
  split at h
  ·refine ih _ _ (λi=>?_) ρ h
   unfold upd;split
   ·exact hs x hx
   ·exact hr i
  ·simp at h
def pp {c:Camp}(h:c.herders.length<=4){x:Nat}(hx:c.has x):x<16:=by
 unfold Camp.has at hx
 exact Nat.lt_of_lt_of_le hx (Nat.pow_le_pow_right (by omega) h)
def qG {c:Camp}{ls:List (List Int)}(hE:formedE c ls=0)(h4:c.herders.length<=4)(i:Nat):rosOf ls i<16:=by
 unfold formedE at hE
 split at hE
 ·rename_i h;exact absurd hE h
 ·split at hE
  ·rename_i h;exact absurd hE h
  ·unfold rosOf
   cases hl:ls[i]? with
   |none=>decide
   |some l =>
    have:=bB.1 hE (ascE l c.herders.length) (List.mem_map.2 ⟨l,List.mem_of_getElem? hl,rfl⟩)
    exact n8 l λx hx=>by have:=(ascE_ok this).1 x hx;omega
def kY:∀a b:Fin 16,bits BinOp.xor IntKind.u8 (a.val:Int) (b.val:Int)=((a.val ^^^ b.val:Nat):Int)/\a.val ^^^ b.val<16:=by decide +kernel
def ms:∀x:Fin 16,(wl x.val).length<=4:=by decide +kernel
def mt {a b:Ros}(h:∀i,i<5->a i ^^^ b i<16):∀k,k<=5->farR a b k<=4*k:=by
 intro k
 induction k with
 |zero=>intro _;exact Nat.le_refl _
 |succ k ih =>
  intro hk
  have h1:=ih (by omega)
  have h2:=ms ⟨a k ^^^ b k,h k (by omega)⟩
  show farR a b k+(wl (a k ^^^ b k)).length<=_
  simp only at h2
  omega
def rosO (r:Ros):Array Value:=#[.int .u8 (r 0),.int .u8 (r 1),.int .u8 (r 2),.int .u8 (r 3),.int .u8 (r 4)]
def sk (r:Ros){i:Nat}(hi:i<5):(rosO r)[i]?=some (.int .u8 (r i)):=by
 match i,hi with
 |0,_=>rfl
 |1,_=>rfl
 |2,_=>rfl
 |3,_=>rfl
 |4,_=>rfl
def bstR (r:Ros):Option (Ros×Nat)->Ros
 |none=>r
 |some p=>p.1
def cstR:Option (Ros×Nat)->Nat
 |none=>0
 |some p=>p.2
structure RepI (r:Ros)(b15 b16 b9:Nat)(o:Option (Ros×Nat))(W:World):Prop where
 best:W.heap[b15]?=some (.cells (rosO (bstR r o)) 60 (0,0))
 is:W.heap[b16]?=some (.cells #[.bool o.isSome] 4 (0,0))
 cost:W.heap[b9]?=some (.cells #[.int .i64 (cstR o)] 3 (0,0))
def bN {W:World}{b i:Nat}{a:Array Value}{u:Value}{t:TypeId}{f:Nat×Nat}(h:W.heap[b]?=some (.cells a t f)):(W.setCell ⟨b,i,none⟩ u).heap[b]?=some (.cells (a.setIfInBounds i u) t f):=by
 unfold World.setCell
 simp only[Array.getElem?_modify,if_true,h]
 rfl
def RepI.put {r:Ros}{b15 b16 b9:Nat}{o:Option (Ros×Nat)}{W:World}(h:RepI r b15 b16 b9 o W)(n1:b15≠b16)(n2:b15≠b9)(n3:b16≠b9)(ρ:Ros)(n:Nat)(T0:Nat->Prop)(h1:T0 b15)(h2:T0 b16)(h3:T0 b9) :
  RepI r b15 b16 b9 (some (ρ,n)) (((((((W.setCell ⟨b15,0,none⟩ (.int .u8 (ρ 0))).setCell ⟨b15,1,none⟩ (.int .u8 (ρ 1))).setCell ⟨b15,2,none⟩ (.int .u8 (ρ 2))).setCell ⟨b15,3,none⟩ (.int .u8 (ρ 3))).setCell ⟨b15,4,none⟩ (.int .u8 (ρ 4))).setCell ⟨b9,0,none⟩ (.int .i64 n)).setCell ⟨b16,0,none⟩ (.bool true)) /\
  KT T0 W (((((((W.setCell ⟨b15,0,none⟩ (.int .u8 (ρ 0))).setCell ⟨b15,1,none⟩ (.int .u8 (ρ 1))).setCell ⟨b15,2,none⟩ (.int .u8 (ρ 2))).setCell ⟨b15,3,none⟩ (.int .u8 (ρ 3))).setCell ⟨b15,4,none⟩ (.int .u8 (ρ 4))).setCell ⟨b9,0,none⟩ (.int .i64 n)).setCell ⟨b16,0,none⟩ (.bool true)):=by
 have k:∀(W:World) (p:Addr) (v:Value),T0 p.block->KT T0 W (W.setCell p v):=λW p v hp=>KT.setCell W hp v
 refine⟨⟨?_,?_,?_⟩,(k _ _ _ h1).trans ((k _ _ _ h1).trans ((k _ _ _ h1).trans ((k _ _ _ h1).trans ((k _ _ _ h1).trans ((k _ _ _ h3).trans (k _ _ _ h2))))))⟩
 ·rw[Below.heap_setCell _ _ _ _ (by show b15≠b16;exact n1),Below.heap_setCell _ _ _ _ (by show b15≠b9;exact n2)]
  exact bN (i:=4) (bN (i:=3) (bN (i:=2) (bN (i:=1) (bN (i:=0) h.best))))
 ·refine bN (i:=0) (a:=#[.bool o.isSome]) ?_
  have e:∀(W:World) (i:Nat) (v:Value),(W.setCell ⟨b15,i,none⟩ v).heap[b16]?=W.heap[b16]?:=λW i v=>Below.heap_setCell _ _ _ _ (by show b16≠b15;exact Ne.symm n1)
  rw[Below.heap_setCell _ _ _ _ (by show b16≠b9;exact n3),e,e,e,e,e]
  exact h.is
 ·rw[Below.heap_setCell _ _ _ _ (by show b9≠b16;exact Ne.symm n3)]
  refine bN (i:=0) (a:=#[.int .i64 (cstR o)]) ?_
  have e:∀(W:World) (i:Nat) (v:Value),(W.setCell ⟨b15,i,none⟩ v).heap[b9]?=W.heap[b9]?:=λW i v=>Below.heap_setCell _ _ _ _ (by show b9≠b15;exact Ne.symm n2)
  rw[e,e,e,e,e]
  exact h.cost
def RepI.drewN {r:Ros}{b15 b16 b9:Nat}{o:Option (Ros×Nat)}{W:World}(h:RepI r b15 b16 b9 o W)(m:Nat):RepI r b15 b16 b9 o (W.drewN m):=⟨h.best,h.is,h.cost⟩
end Go.Proofs.YtjmmlkobmhlikaaGreat
namespace Go
section
variable {F:Fence} {n:Nat} {P:Program} {ops:Array Oper} {C:World->Prop}
def jm (o:Oper):Bool:=match o.op with
 |.defer _=>false
 |_=>true
def jT {Q:Exit->Act->World->Prop}{r:Nat}(hro:F.round=none)(hnd:ops.all jm=true):∀(l:List Nat) (a:Act) (w:World),wpOpsIn F n P ops Q l a w->wpOpsIn (F.inRound r) n P ops Q l a w:=by
 intro l
 induction l with
 |nil=>exact λa w h=>h
 |cons i rest ih =>
  intro a w h
  simp only[wpOpsIn] at h ⊢
  cases ho:ops[i]? with
  |none=>simp only[ho] at h ⊢;exact ih a w h
  |some o =>
   simp only[ho] at h ⊢
   have hm:o∈ops:=Array.mem_of_getElem? ho
   have hd:∀c,o.op≠.defer c:=λc e=>by
    have:=(Array.all_eq_true_iff_forall_mem.1 hnd) o hm
    simp[jm,e] at this
   split
   ·rename_i hw
    rw[if_pos hw] at h
    have h2:=Oper.wpIn_mono (K':=wpOpsIn (F.inRound r) n P ops Q rest) (λa w=>ih a w) h
    unfold Oper.wpIn at h2 ⊢
    rw[Oper.semAt_eq _ _ _ hd] at h2 ⊢
    refine⟨h2.1,?_⟩
    have h3:=h2.2
    generalize (execOp a.eval o).run P w=res at h3 ⊢
    cases res with
    |ok x w'=>cases x<;>exact h3
    |halt x w'=>cases x<;>exact h3
   ·rename_i hw
    rw[if_neg hw] at h
    exact⟨h.1,ih _ _ h.2⟩
def eh {id r:Nat}{Q:Exit->Act->World->Prop}{a:Act}{w:World}{l:List Oper}(hro:F.round=none)(hnd:l.toArray.all jm=true)(hm:P.follows .mixedOrders=true)(hB:Region.lexB .any l.toArray=true)
  (h:wpQuietIn F n P l.toArray (λw'=>∃n,w'=w.drewN n) (λa'=>∀w',(∃n,w'=w.drewN n)->Q .normal a' w') l a):(Code.region id l.toArray true).wpIn (F.inRound r) n P Q a w:=by
 simp only[Region.lexB,Bool.and_eq_true] at hB
 refine wpIn_region_draw λt=>jT hro hnd _ _ _ ?_
 simp only[Region.schedule,hm,Bool.true_or,if_true]
 refine wpAnyIn_sound l.toArray.size t _ a _ ?_
 refine wpAnyIn_of_quiet (C:=λw'=>∃n,w'=w.drewN n) (Q:=λa'=>∀w',(∃n,w'=w.drewN n)->Q .normal a' w') hro (λ_ w' hw' h=>h w' hw') _ _ _ _ ⟨1,rfl⟩ ?_
 have:=wpAnyQIn_lex (F:=F) (n:=n) (C:=λw'=>∃n,w'=w.drewN n) (md:=.any) hB.1 l 0 (Array.replicate l.length false) a (by simp) (by simpa using hB.2) (by simpa using h)
 simpa using this
end
end Go
namespace Go.Proofs.YtjmmlkobmhlikaaGreat
open Go.RowKit Go.Sq Go.Shelf
attribute [local go_sem] Oper.semAt_some
def mu (f:FuncId):Fence.wide.fn f=True:=eq_true trivial
attribute [local go_sem] mu
attribute [local simp] mu
def eE {fn:Func}{tmps:Array Value}{R:Ending->World->Prop}{W:World}{v:Value}(hr:(results fn tmps).run uZ W=.ok v W)(hR:R (.returned v) W) :
  LeavesInM Fence.wide 0 uZ fn tmps R [] .returning W:=⟨v,hr,hR⟩
def jU {c:Code}{P:Program}{K:Act->World->Prop}{Q:Exit->Act->World->Prop}{a:Act}{w:World}(h:c.wp P (Exit.then K λ_ _ _=>False) a w):c.wp P (Exit.then K Q) a w:=by
 rw[<-wpIn_wide (n:=0)] at h ⊢
 refine wpIn_mono h λe a w h=>?_
 cases e with
 |normal=>exact h
 |_=>exact h.elim
def io (c:Camp)(ls:List (List Int))(h d:Int)(w:World)(e:Ending)(w':World):Prop :=
 Gr w w'/\if formedE c ls≠0 then e=.returned (.tuple #[.slice none 0 0,.int .i64 0,.int .i64 (formedE c ls)])
  else if(inR h 0 (c.herders.length-1)&&inR d 0 (c.needs.length-1))=false then e=.returned (.tuple #[.slice none 0 0,.int .i64 0,.int .i64 3])
  else match nearR (rosOf ls) (walkL (repC c h.toNat d) (setsL c.herders.length) c.needs.length zeroR 0) with
   |none=>e=.returned (.tuple #[.slice none 0 0,.int .i64 0,.int .i64 11])
   |some p=>∃A k,e=.returned (.tuple #[.slice A c.needs.length k,.int .i64 p.2,.int .i64 0])/\GrAt w' w'.heap.size A (aQ p.1 c.needs.length)
def qH (nA hA gA:Option Addr)(nc hc gc:Nat)(c:Camp)(ls:List (List Int))(h d:Int)(w:World)(B:Nat)(hB:B<=w.heap.size)(hn:RI w B nA c.needs)(hh:HsAt w B hA c.herders)(hg:GrAt w B gA ls)
  (hl1:c.needs.length<=4611686018427387904) (hl2:c.herders.length<=4611686018427387904) (hlo:∀h∈c.herders,h.off.length<=4611686018427387904) (hl3:ls.length<=4611686018427387904) (hl4:∀x∈ls,x.length<=4611686018427387904)
  (hrok:∀k:Nat,formedE c ls=0->h=k->k<c.herders.length->inR d 0 (c.needs.length-1)=true->(repC c k d).Ok) :
  Calls uZ 25 #[campV nA hA c nc hc,.slice gA ls.length gc,.int .i64 h,.int .i64 d] w (io c ls h d w):=by
 rw[<-callsIn_wide (n:=0)]
 obtain⟨W0,hW0⟩:∃W0:World,W0=(w.alloc (.cells #[.slice nA c.needs.length nc,.slice hA c.herders.length hc] 27)).alloc (.cells #[.int .i64 0] 3):=⟨_,rfl⟩
 have hg0:Gr w W0:=hW0▸((Gr.refl w).alloc _).alloc _
 have hz0:W0.heap.size=w.heap.size+2:=by rw[hW0];simp
 have hk:∀b o,b<B->W0.cell? ⟨b,o,none⟩=w.cell? ⟨b,o,none⟩:=λb o hb=>hg0.cell (Nat.lt_of_lt_of_le hb hB)
 have hform:=il nA hA gA nc hc gc c ls W0 B (by omega) (hn.gr hB hg0) (hh.keep hk) (hg.gr hB hg0) hl1 hl2 hlo hl3 hl4
 unfold campV at hform ⊢
 have HFORM:=ui hform
 have hcm:W0.cell? ⟨w.heap.size,0,none⟩=some (.slice nA c.needs.length nc)/\W0.cell? ⟨w.heap.size,1,none⟩=some (.slice hA c.herders.length hc):=by
  rw[hW0]
  constructor
  all_goals rw[World.cell?_alloc_past _ _ _ (by simp),World.cell?_alloc_at _ _ _ _ rfl];rfl
 have HCM:=ui hcm
 have hcf:∀i,W0.frozen? ⟨w.heap.size,i,none⟩=false:=λi=>by
  rw[hW0,World.frozen?_alloc_past _ _ _ (by simp),World.frozen?_alloc_at _ _ _ _ rfl]
 have HCF:=ui hcf
 clear hcf
 have hnb:W0.heap[w.heap.size+1]?=some (.cells #[.int .i64 0] 3 (0,0)):=by
  rw[hW0];have:=World.alloc_heap_new (w.alloc (.cells #[.slice nA c.needs.length nc,.slice hA c.herders.length hc] 27)) (.cells #[.int .i64 0] 3);rwa [World.size_alloc] at this
 have HNB:=ui hnb
 have HW:=ui hW0
 have HG0:=ui hg0
 have HN:=ui hn
 have HH:=ui hh
 have HROK:=ui hrok
 clear hform hcm hnb hW0 hg0 hn hh hk hg hrok hlo hl4
 refine callsIn_of_wp_marks Sq.func25 rfl trivial ?_ rfl
 simp only[Tryz.ntmps25,List.size_toArray,List.length_cons,List.length_nil,Nat.reduceAdd,Nat.reduceSub,Array.replicate_succ,Array.replicate_zero,List.push_toArray,List.append_toArray,List.nil_append,List.cons_append]
 rw[wpIn_wide]
 go_wp2_with fail
 rw[<-HW.out]
 refine HFORM.out.mono ?_
 rintro e w1 ⟨hg1,hf⟩
 have HG1:=ui hg1
 have hz1:=hg1.size
 have hnb1:w1.heap[w.heap.size+1]?=some (.cells #[.int .i64 0] 3 (0,0)):=(hg1.below.block _ (by omega)).trans HNB.out
 have HNB1:=ui hnb1
 have HG2:=ui (HG0.out.trans hg1)
 have hlen:(w1.alloc (.cells #[.int .u8 0,.int .u8 0,.int .u8 0,.int .u8 0,.int .u8 0] 60)).heap.size=w1.heap.size+1:=by simp
 clear hnb1
 by_cases hE:formedE c ls=0
 ·rw[if_pos hE] at hf
  obtain⟨cb,g0,cap0,rfl,hcb,hcg,hK⟩:=hf
  have HE:=ui hE
  have HK:=ui hK
  clear hg1 hE HFORM hK
  obtain⟨hn0,hn1,hn2⟩:=one_cell HNB1.out
  have hce:checkE c=0:=by
   have:=HE.out
   unfold formedE at this
   split at this
   ·exact this
   ·rename_i h;simpa using h
  have HOK:=ui (Camp.Ok.of hce)
  have hn5:=HOK.out.n5
  have hh4:=HOK.out.h4
  have hn1':=HOK.out.n1
  have hh1:=HOK.out.h1
  obtain⟨W1,hW1⟩:∃W1,W1=w1.alloc (.cells #[.int .u8 (rosOf ls 0),.int .u8 (rosOf ls 1),.int .u8 (rosOf ls 2),.int .u8 (rosOf ls 3),.int .u8 (rosOf ls 4)] 60):=⟨_,rfl⟩
  have HW1:=ui hW1
  have HG3:Hid (Gr w W1):=ui (by rw[hW1];exact HG2.out.alloc _)
  have hsz1:W1.heap.size=w1.heap.size+1:=by rw[hW1];simp
  have k0:w1.cell? ⟨w.heap.size,0,none⟩=some (.slice nA c.needs.length nc):=(HG1.out.cell (by show w.heap.size<_;omega)).trans HCM.out.1
  have k1:w1.cell? ⟨w.heap.size,1,none⟩=some (.slice hA c.herders.length hc):=(HG1.out.cell (by show w.heap.size<_;omega)).trans HCM.out.2
  have hwl:w.heap.size<w1.heap.size:=by omega
  have HC0:Hid (W1.cell? ⟨w.heap.size,0,none⟩=some (.slice nA c.needs.length nc)):=ui (by rw[hW1,World.cell?_alloc_past _ _ _ (by show w.heap.size<_;omega)];exact k0)
  have HC1:Hid (W1.cell? ⟨w.heap.size,1,none⟩=some (.slice hA c.herders.length hc)):=ui (by rw[hW1,World.cell?_alloc_past _ _ _ (by show w.heap.size<_;omega)];exact k1)
  have hnb2:W1.heap[w.heap.size+1]?=some (.cells #[.int .i64 0] 3 (0,0)):=by rw[hW1,heap_alloc_old _ _ hn2];exact HNB1.out
  have HNB2:=ui hnb2
  have hgv:W1.heap[w1.heap.size]?=some (.cells #[.int .u8 (rosOf ls 0),.int .u8 (rosOf ls 1),.int .u8 (rosOf ls 2),.int .u8 (rosOf ls 3),.int .u8 (rosOf ls 4)] 60 (0,0)):=by rw[hW1];exact World.alloc_heap_new w1 _
  have HGV:=ui hgv
  have hb1:=aZ h 0 (c.herders.length-1) W1
  have hb2:=aZ d 0 (c.needs.length-1) W1
  obtain⟨x1,hx1⟩:∃x,x=inR h 0 (c.herders.length-1):=⟨_,rfl⟩
  obtain⟨x2,hx2⟩:∃x,x=inR d 0 (c.needs.length-1):=⟨_,rfl⟩
  rw[<-hx1] at hb1
  rw[<-hx2] at hb2
  have HB1:=ui hb1
  have HB2:=ui hb2
  have HX1:=ui hx1
  have HX2:=ui hx2
  clear hb1 hb2 hx1 hx2 hW1 hgv hnb2 hce hn0 hn1
  unfold rosV
  go_wp2_with fail
  rw[<-HW1.out]
  refine HB1.out.mono ?_
  rintro e w' ⟨rfl,rfl⟩
  have hq0:=HC0.out
  have hq1:=HC1.out
  obtain⟨hn0,hn1,hn2'⟩:=one_cell HNB2.out
  clear k0 k1
  have herr:∀w',Gr w w'->w'.cell? ⟨w.heap.size+1,0,none⟩=some (.int .i64 0)->(x1&&x2)=false->io c ls h d w (.returned (.tuple #[.slice none 0 0,.int .i64 0,.int .i64 3])) w':=λw' hg _ hx=>by
   refine⟨hg,?_⟩
   rw[if_neg (by simp[HE.out]),if_pos (by rw[<-HX1.out,<-HX2.out];exact hx)]
  have HERR:=ui herr
  clear herr
  cases x1 with
  |false =>
   go_wp2
   refine eE (v:=.tuple #[.slice none 0 0,.int .i64 0,.int .i64 3]) (by simp[results,Tryz.results25,go_sem,World.cell?_setCell_same _ _ _ hn0]) (HERR.out _ (HG3.out.setCell (by show _<=w.heap.size+1;omega) _) (World.cell?_setCell_same _ _ _ hn0) rfl)
  |true =>
   cases x2 with
   |false =>
    go_wp2_with (go_at_call 19;refine HB2.out.mono ?_;rintro e w' ⟨rfl,rfl⟩)
    refine eE (v:=.tuple #[.slice none 0 0,.int .i64 0,.int .i64 3]) (by simp[results,Tryz.results25,go_sem,World.cell?_setCell_same _ _ _ hn0]) (HERR.out _ (HG3.out.setCell (by show _<=w.heap.size+1;omega) _) (World.cell?_setCell_same _ _ _ hn0) rfl)
   |true =>
    clear HERR
    obtain⟨k,hk,hkl⟩:∃k:Nat,h=k/\k<c.herders.length:=by
     have:=HX1.out
     simp only[inR] at this
     have:=this.symm
     simp at this
     exact⟨h.toNat,by omega,by omega⟩
    subst hk
    obtain⟨hb,ho,rfl,hbB,hcs⟩:=HH.out (λe=>by rw[e] at hh1;simp at hh1)
    have hW:∀b o,b<B->W1.cell? ⟨b,o,none⟩=w.cell? ⟨b,o,none⟩:=λb o hb=>HG3.out.cell (Nat.lt_of_lt_of_le hb hB)
    have HCL:=ui (qB hb ho hc c.herders W1 B hbB (by have:=HG3.out.size;omega) (λi x hi=>(hcs i x hi).keep hbB hW) (by omega) (by omega))
    clear hcs hW
    go_wp2_with (first|(go_at_call 19;refine HB2.out.mono ?_;rintro e w' ⟨rfl,rfl⟩)|fail)
    refine HCL.out.mono ?_
    rintro e w3 ⟨g,cap,rfl,hg3,hgl,hgs,hgf,hat⟩
    have hg3z:=hg3.size
    have hf3:w3.frozen? ⟨w.heap.size,1,none⟩=false:=((HG1.out.trans (((Gr.refl w1).alloc _).trans (HW1.out▸hg3))).frozen (p:=⟨w.heap.size,1,none⟩) (by show w.heap.size<_;omega)).trans (HCF.out 1)
    have hd0:w3.cell? ⟨w.heap.size,0,none⟩=some (.slice nA c.needs.length nc):=(hg3.cell (p:=⟨w.heap.size,0,none⟩) (by show w.heap.size<_;omega)).trans HC0.out
    have hd1:w3.cell? ⟨w.heap.size,1,none⟩=some (.slice (some ⟨hb,ho,none⟩) c.herders.length hc):=(hg3.cell (p:=⟨w.heap.size,1,none⟩) (by show w.heap.size<_;omega)).trans HC1.out
    have hck:c.herders[k]?=some (c.h k):=by unfold Camp.h;rw[List.getElem?_eq_getElem hkl];rfl
    obtain⟨hk0,hk1,hk2,A,m,hk3,hoff⟩:=hat k (c.h k) hck
    have hgne:g≠w.heap.size:=by omega
    obtain⟨w4,hw4⟩:∃w4,w4=w3.setCell ⟨w.heap.size,1,none⟩ (.slice (some ⟨g,0,none⟩) c.herders.length cap):=⟨_,rfl⟩
    have hz4:w4.heap.size=w3.heap.size:=by rw[hw4];simp[World.setCell]
    have ho4:∀b o,b≠w.heap.size->w4.cell? ⟨b,o,none⟩=w3.cell? ⟨b,o,none⟩:=λb o hb=>by rw[hw4];exact World.cell?_setCell_other _ _ _ _ (λe=>hb (congrArg Addr.block e).symm)
    have hB4:∀b o,b<B->w4.cell? ⟨b,o,none⟩=w3.cell? ⟨b,o,none⟩:=λb o hb=>ho4 b o (by omega)
    have HG4:Hid (Gr w w4):=ui (by rw[hw4];exact(HG3.out.trans hg3).setCell (Nat.le_refl _) _)
    have hmem:=(HOK.out.off _ (c.h_mem hkl)).1
    have hcon:=iz A m (c.h k).off d w4 B (hoff.keep hB4) (by omega)
    obtain⟨x3,hx3⟩:∃x,x=decide (d∈(c.h k).off):=⟨_,rfl⟩
    rw[<-hx3] at hcon
    have HCON:=ui hcon
    have HX3:=ui hx3
    have HW4:=ui hw4
    have HAT:Hid (∀(i:Nat) (x:Herder),c.herders[i]?=some x->HAt w4 B g (i*4) x):=ui λi x hi=>by
     obtain⟨q0,q1,q2,A',m',q3,q4⟩:=hat i x hi
     exact⟨(ho4 _ _ hgne).trans q0,(ho4 _ _ hgne).trans q1,(ho4 _ _ hgne).trans q2,A',m',(ho4 _ _ hgne).trans q3,q4.keep hB4⟩
    have HN4:Hid (RI w4 B nA c.needs):=ui (HN.out.gr hB HG4.out)
    have HNB4:Hid (w4.heap[w.heap.size+1]?=some (.cells #[.int .i64 0] 3 (0,0))):=ui (by rw[hw4,Below.heap_setCell _ _ _ _ (by show w.heap.size+1≠w.heap.size;omega),hg3.below.block _ hn2'];exact HNB2.out)
    have HGV4:Hid (w4.heap[w1.heap.size]?=some (.cells #[.int .u8 (rosOf ls 0),.int .u8 (rosOf ls 1),.int .u8 (rosOf ls 2),.int .u8 (rosOf ls 3),.int .u8 (rosOf ls 4)] 60 (0,0))):=ui (by rw[hw4,Below.heap_setCell _ _ _ _ (by show w1.heap.size≠w.heap.size;omega),hg3.below.block _ (by omega)];exact HGV.out)
    have HE4:Hid (w4.cell? ⟨w.heap.size,0,none⟩=some (.slice nA c.needs.length nc)/\w4.cell? ⟨w.heap.size,1,none⟩=some (.slice (some ⟨g,0,none⟩) c.herders.length cap)):=ui (by
     rw[hw4];exact⟨(World.cell?_setCell_other _ _ _ _ (by simp)).trans hd0,World.cell?_setCell_same _ _ _ hd1⟩)
    have HGF:Hid (∀i,w4.frozen? ⟨g,i,none⟩=false):=ui λi=>by rw[hw4,World.frozen?_setCell];exact hgf i
    have hk3g:w3.cell? ⟨g,k*4+3,none⟩=some (.slice A (c.h k).off.length m):=hk3
    have HOFF:=ui hoff
    clear hcon hx3 hw4 hat hoff hk0 hk1 hk2 hk3 ho4 hB4 hgf hck hn0 hn1 hq0
    go_wp2_with fail
    rw[<-HW4.out]
    refine HCON.out.mono ?_
    rintro e w' ⟨rfl,rfl⟩
    clear hd0 hd1 hk3g hf3 HCON
    have hg4z:W1.heap.size<=w4.heap.size/\g<w4.heap.size:=by omega
    obtain⟨he0,he1⟩:=HE4.out
    have hck:c.herders[k]?=some (c.h k):=by unfold Camp.h;rw[List.getElem?_eq_getElem hkl];rfl
    obtain⟨hk0,hk1,hk2,A',m',hk3,hoff⟩:=HAT.out k (c.h k) hck
    have HOF2:=ui hoff
    have hgk:=HGF.out (k*4+3)
    clear hoff hk0 hk1 hk2 HOFF hz4 hg3 hg3z
    cases x3
    case' true =>
     have HREP:Hid (RepW nA nc c ls k d w w1.heap.size g cap w4):=ui (by
      have hoa:dY (c.h k).off d=(c.h k).off:=by unfold dY;rw[if_pos (by simpa using HX3.out.symm)]
      refine⟨HG4.out,he0,he1,HNB4.out,⟨by omega,by omega,by omega⟩,λi hi=>?_,?_,λhne=>⟨g,0,rfl,⟨hg4z.2,by omega⟩,λi x hi=>?_⟩⟩
      ·rw[(cells_at HGV4.out).1 i]
       match i,hi with
       |0,_=>rfl
       |1,_=>rfl
       |2,_=>rfl
       |3,_=>rfl
       |4,_=>rfl
      ·exact eQ HN4.out λb hb=>⟨by omega,by omega⟩
      ·rw[Nat.zero_add]
       have key:∀y,c.herders[i]?=some y->HAtK w4 (λb=>b<w4.heap.size/\b≠w.heap.size+1) g (i*4) y:=λy hy=>by
        obtain⟨q0,q1,q2,A',m',q3,q4⟩:=HAT.out i y hy
        exact⟨q0,q1,q2,A',m',q3,eQ q4 λb hb=>⟨by omega,by omega⟩⟩
       rcases repC_at hi hkl with⟨rfl,rfl⟩|⟨_,h⟩
       ·rw[hoa];exact key _ hck
       ·exact key _ h)
     go_wp2_with fail
     obtain⟨wz,rfl⟩:∃wz,wz=w4:=⟨_,rfl⟩
    case' false =>
     have HCLO:=ui (sf A' m' (c.h k).off w4 B HOF2.out (by omega) (by omega))
     have hoa:dY (c.h k).off d=sortL ((c.h k).off++[d]):=by unfold dY;rw[if_neg (by simpa using HX3.out.symm)];rfl
     have HOA:=ui hoa
     obtain⟨off,hoff⟩:∃off,off=(c.h k).off:=⟨_,rfl⟩
     rw[<-hoff] at HCLO HOA hmem
     have hk3':w4.cell? ⟨g,k*4+3,none⟩=some (.slice A' off.length m'):=by rw[hoff];exact hk3
     have HEO:=ui hoff
     rw[<-hoff]
     clear hoa hk3 hoff HOF2
     go_wp2_with fail
     refine HCLO.out.mono ?_
     rintro e w5 ⟨v,rfl,hown,hg5⟩
     have hz5:=hg5.size
     have hlt5:=hown.lt
     have HG5:=ui hg5
     clear hg5 HCLO
     go_wp2_with (at_builtin;refine gD rfl _ _ rfl w4.heap.size _ _ _ rfl (hown.alloc _) ⟨w5.heap.size,0,none⟩ 1 (.int .i64 d) rfl ?c1 rfl ?c2 ?c3 ?_)
     case c1=>rw[World.cell?_alloc_at _ _ _ _ rfl];rfl
     case c2=>omega
     case c3=>(try simp);omega
     intro v' w6 hown' hgrow hd
     have hfar:∀b,b<w4.heap.size->w6.heap[b]?=w4.heap[b]?:=λb hb=>by
      have hne:some b≠v.ownBlock:=dv hown hb
      exact(hgrow.block b (by simp;omega) hne).trans ((heap_alloc_old _ _ (by omega)).trans (HG5.out.below.block b hb))
     have hG6:Gr w w6:=((HG4.out.trans HG5.out).alloc _).grown hgrow hd λq hq=>by have:=(hlt5 q hq).1;have:=HG4.out.size;omega
     have hc6:w6.cell? ⟨g,k*4+3,none⟩=some (.slice A' off.length m'):=(World.cell?_of_block (hfar g hg4z.2)).trans hk3'
     have hf6:w6.frozen? ⟨g,k*4+3,none⟩=false:=(World.frozen?_of_block (a:=⟨g,k*4+3,none⟩) (hfar g hg4z.2)).trans hgk
     obtain⟨g',cap',hv',hg'l,hg's⟩:=hown'.form (by omega)
     subst hv'
     have hsz6:w4.heap.size<=w6.heap.size:=by have:=hgrow.size;simp at this;omega
     obtain⟨w7,hw7⟩:∃w7,w7=w6.setCell ⟨g,k*4+3,none⟩ (.slice (some ⟨g',0,none⟩) (off.length+1) cap'):=⟨_,rfl⟩
     have hz7:w7.heap.size=w6.heap.size:=by rw[hw7];simp[World.setCell]
     have hown7:w7.ownsRow w4.heap.size 3 1 (.slice (some ⟨g',0,none⟩) (off++[d]).length cap') (off++[d]).length ((off++[d]).map (Value.int .i64)):=by
      rw[hw7]
      have:=ownsRow_setCell_below (a:=⟨g,k*4+3,none⟩) hown' hg4z.2 (.slice (some ⟨g',0,none⟩) (off.length+1) cap')
      simpa using this
     have hsort:=si g' cap' (off++[d]) w7 hown7 (by simp;omega)
     have hl1:(off++[d]).length=off.length+1:=by simp
     rw[hl1] at hsort
     have HSORT:=ui hsort
     have HW7:=ui hw7
     have HFAR:=ui hfar
     have HG6:=ui hG6
     clear hfar hG6 hown' hgrow hd hown hown7 hsort hw7 hlt5
     go_wp2_with fail
     rw[<-HW7.out]
     refine HSORT.out.mono ?_
     rintro e w8 ⟨rfl,hk8,hs8⟩
     have hz8:=hk8.size
     have hgg:g≠g':=by omega
     have hfar8:∀b,b<w4.heap.size->b≠g->w8.heap[b]?=w4.heap[b]?:=λb hb hne=>by
      rw[hk8.block b (by omega) (by show b≠g';omega),HW7.out,Below.heap_setCell _ _ _ _ (by show b≠g;exact hne)]
      exact HFAR.out b hb
     have hg8:∀o,w8.cell? ⟨g,o,none⟩=w7.cell? ⟨g,o,none⟩:=λo=>hk8.cell (p:=⟨g,o,none⟩) (by show g<_;omega) hgg
     have hgo:∀o,o≠k*4+3->w8.cell? ⟨g,o,none⟩=w4.cell? ⟨g,o,none⟩:=λo ho=>by
      rw[hg8,HW7.out,World.cell?_setCell_other _ _ _ _ (λe=>ho (congrArg Addr.off e).symm)]
      exact World.cell?_of_block (HFAR.out g hg4z.2)
     have hgk8:w8.cell? ⟨g,k*4+3,none⟩=some (.slice (some ⟨g',0,none⟩) (off.length+1) cap'):=by
      rw[hg8,HW7.out];exact World.cell?_setCell_same _ _ _ hc6
     have hB8:∀b o,b<B->w8.cell? ⟨b,o,none⟩=w4.cell? ⟨b,o,none⟩:=λb o hb=>World.cell?_of_block (hfar8 b (by omega) (by omega))
     have HREP:Hid (RepW nA nc c ls k d w w1.heap.size g cap w8):=ui (by
      have hoa2:dY (c.h k).off d=sortL (off++[d]):=by rw[<-HEO.out];exact HOA.out
      refine⟨KT.gr (T:=(·=g')) (HG6.out.setCell (p:=⟨g,k*4+3,none⟩) (by show _<=g;omega) _) (HW7.out▸hk8) (by rintro b rfl;omega),(World.cell?_of_block (hfar8 w.heap.size (by omega) (by omega))).trans he0,(World.cell?_of_block (hfar8 w.heap.size (by omega) (by omega))).trans he1,(hfar8 _ (by omega) (by omega)).trans HNB4.out,⟨by omega,by omega,by omega⟩,λi hi=>?_,?_,λhne=>⟨g,0,rfl,⟨by omega,by omega⟩,λi x hi=>?_⟩⟩
      ·rw[World.cell?_of_block (a:=⟨w1.heap.size,i,none⟩) (hfar8 w1.heap.size (by omega) (by omega)),(cells_at HGV4.out).1 i]
       match i,hi with
       |0,_=>rfl
       |1,_=>rfl
       |2,_=>rfl
       |3,_=>rfl
       |4,_=>rfl
      ·exact eQ (HN4.out.keep hB8) λb hb=>⟨by omega,by omega⟩
      ·rw[Nat.zero_add]
       rcases repC_at hi hkl with⟨rfl,rfl⟩|⟨hik,h⟩
       ·obtain⟨q0,q1,q2,_⟩:=HAT.out i _ hck
        refine⟨(hgo _ (by omega)).trans q0,(hgo _ (by omega)).trans q1,(hgo _ (by omega)).trans q2,some ⟨g',0,none⟩,cap',?_,?_⟩
        ·rw[hgk8,hoa2,jG];simp
        ·rw[hoa2]
         exact λ_=>⟨g',0,rfl,⟨by omega,by omega⟩,λj y hj=>by rw[Nat.zero_add];exact hs8 j y hj⟩
       ·obtain⟨q0,q1,q2,A2,m2,q3,q4⟩:=HAT.out i x h
        exact⟨(hgo _ (by omega)).trans q0,(hgo _ (by omega)).trans q1,(hgo _ (by omega)).trans q2,A2,m2,(hgo _ (by omega)).trans q3,eQ (q4.keep hB8) λb hb=>⟨by omega,by omega⟩⟩)
     have hr0:=HREP.out.c0
     have hr1:=HREP.out.c1
     clear hk8 hs8 hfar8 hg8 hgo hgk8 hB8 hc6 hf6
     go_wp2_with fail
     obtain⟨wz,rfl⟩:∃wz,wz=w8:=⟨_,rfl⟩
    all_goals
     have hrok:=HROK.out k HE.out rfl hkl HX2.out.symm
     have hrl:=qF c k d
     obtain⟨c',hc'⟩:∃c',c'=repC c k d:=⟨_,rfl⟩
     have hcn:c'.needs=c.needs:=by rw[hc'];rfl
     have HR2:=HREP.out.herd
     rw[<-hc'] at HR2 hrok hrl
     have hst:=sj nA (some ⟨g,0,none⟩) nc cap c' wz _ (λb hb=>hb.1) (by rw[hcn];exact HREP.out.needs) HR2 (by omega)
     unfold campV at hst
     rw[hcn,hrl] at hst
     have HST:=ui hst
     have HC':=ui hc'
     have HROK2:=ui hrok
     have HRLT:=ui (qG HE.out hh4)
     have hrl12:=HREP.out.lt
     clear hst hc' hrok HR2 HC0 HC1 HG0 HG1 HG2 HG3 HG4 HNB HNB1 HNB2 HNB4 HGV HGV4 HW1 HN HN4 HH HCL HB1 HB2 HX1 HX3 HAT HGF HE4 HCF HCM HW HW4 HROK he0 he1
     refine HST.out.mono ?_
     rintro e w9 ⟨rfl,hg9,g9,cap9,hg9l,hK9⟩
     have hz9:=hg9.size
     have hgv:∀i,i<5->w9.cell? ⟨w1.heap.size,i,none⟩=some (.int .u8 (rosOf ls i:Nat)):=λi hi=>(hg9.cell (p:=⟨w1.heap.size,i,none⟩) hrl12.2.1).trans (HREP.out.given i hi)
     obtain⟨v0,v1,v2,v3,v4⟩:=RosC5 hgv
     have HGVV:=ui hgv
     have hn9:w9.heap[w.heap.size+1]?=some (.cells #[.int .i64 0] 3 (0,0)):=(hg9.below.block _ (by omega)).trans HREP.out.nb
     have HN9:=ui hn9
     have HK9:=ui hK9
     have HG9:=ui hg9
     have hb12:w1.heap.size<w9.heap.size:=by omega
     clear hgv hn9 hK9 hg9 HST
     try clear hr0 hr1
     obtain⟨w10,hw10⟩:∃w10:World,w10=(w9.alloc (.cells #[.int .u8 (rosOf ls 0),.int .u8 (rosOf ls 1),.int .u8 (rosOf ls 2),.int .u8 (rosOf ls 3),.int .u8 (rosOf ls 4)] 60)).alloc (.cells #[.bool false] 4):=⟨_,rfl⟩
     have hg10:Gr w9 w10:=by rw[hw10];exact((Gr.refl w9).alloc _).alloc _
     have hz10:w10.heap.size=w9.heap.size+2:=by rw[hw10];simp
     have hbest:w10.heap[w9.heap.size]?=some (.cells (rosO (rosOf ls)) 60 (0,0)):=by
      rw[hw10,heap_alloc_old _ _ (by simp)];exact World.alloc_heap_new w9 _
     have hsome:w10.heap[w9.heap.size+1]?=some (.cells #[.bool false] 4 (0,0)):=by
      rw[hw10];have:=World.alloc_heap_new (w9.alloc (.cells #[.int .u8 (rosOf ls 0),.int .u8 (rosOf ls 1),.int .u8 (rosOf ls 2),.int .u8 (rosOf ls 3),.int .u8 (rosOf ls 4)] 60)) (.cells #[.bool false] 4)
      rwa [World.size_alloc] at this
     have HI10:Hid (RepI (rosOf ls) w9.heap.size (w9.heap.size+1) (w.heap.size+1) none w10):=ui ⟨hbest,hsome,(hg10.below.block _ (by omega)).trans HN9.out⟩
     obtain⟨T0,hT0⟩:∃T0:Nat->Prop,T0=λb=>b=w9.heap.size\/b=w9.heap.size+1\/b=w.heap.size+1:=⟨_,rfl⟩
     have HT0:=ui hT0
     have hTl:∀b,T0 b->b<w10.heap.size:=λb hb=>by rw[hT0] at hb;omega
     have hKT:∀b,(b<wz.heap.size/\b≠w.heap.size+1\/b=wz.heap.size+1\/b=g9)->¬T0 b:=λb hb h=>by
      rw[hT0] at h
      have:=HK9.out.lt b hb
      omega
     have hT12:¬T0 w1.heap.size:=λh=>by rw[hT0] at h;omega
     have hfrom:=kh (wz.heap.size+1) 0 zeroR w10
     have hs:=i7 (T0:=T0) (n:=0) (r:=zeroR) (HK9.out.keep (w':=w10) hg10.size λb o hb=>hg10.cell (p:=⟨b,o,none⟩) (HK9.out.lt b hb)) hTl hKT fj
     unfold rosV at hfrom
     have HFROM:=ui hfrom
     have HS:=ui hs
     have HTL:=ui hTl
     have HKT:=ui hKT
     have HT12:=ui hT12
     have HG10:=ui (HG9.out.trans hg10)
     have HGV2:Hid (∀i,i<5->w10.cell? ⟨w1.heap.size,i,none⟩=some (.int .u8 (rosOf ls i:Nat))):=ui λi hi=>(hg10.cell (p:=⟨w1.heap.size,i,none⟩) (by show w1.heap.size<_;omega)).trans (HGVV.out i hi)
     have HW10:=ui hw10
     have HZ10:=ui hz10
     clear hw10 hfrom hs hTl hKT hT12 hT0 hg10 hbest hsome hz10
     go_wp2_with fail
     rw[<-HW10.out]
     refine HFROM.out.mono ?_
     rintro e w11 ⟨rfl,hw11⟩
     have hs:=HS.out
     rw[<-hw11] at hs
     have HS2:=ui hs
     have hg11:Gr w10 w11:=by rw[hw11];exact(((Gr.refl w10).alloc _).alloc _).alloc _
     have hz11:w11.heap.size=w10.heap.size+3:=by rw[hw11];simp
     have HG11:=ui hg11
     have HZ11:=ui hz11
     clear hs HS hz11 hg11 hw11 HFROM HW10 v0 v1 v2 v3 v4
     go_wp2_with fail
     have hz10:=HZ10.out
     have hz11:=HZ11.out
     rw[<-wpIn_wide (n:=0)]
     have HNL:Hid (0+c.needs.length=c'.needs.length):=ui (by rw[hcn];omega)
     have HSTS:Hid ((∀x∈setsL c.herders.length,c'.has x)/\(setsL c.herders.length).length<=16):=ui ⟨by rw[<-hrl];exact kM HROK2.out,by rw[<-hrl];exact mi HROK2.out⟩
     refine jq (T0:=T0) (cb:=wz.heap.size+1) (c:=c') (sets:=setsL c.herders.length) (bc:=w10.heap.size) (br:=w10.heap.size+1) (bn:=w10.heap.size+2) (k:=c.needs.length) (n:=0) (r:=zeroR)
      HROK2.out HSTS.out.1 HSTS.out.2 rfl HNL.out (λ_ _=>rfl) HS2.out (λb hb=>Nat.lt_of_lt_of_le (HTL.out b hb) HG11.out.size) rfl
      (λpre W=>RepI (rosOf ls) w9.heap.size (w9.heap.size+1) (w.heap.size+1) (nearR (rosOf ls) pre) W) (λ_ _ _=>False)
      (λpre W W' h hk=>by
       have e15:=hk w9.heap.size (by rw[HT0.out];exact .inl rfl)
       have e16:=hk (w9.heap.size+1) (by rw[HT0.out];exact .inr (.inl rfl))
       have e9:=hk (w.heap.size+1) (by rw[HT0.out];exact .inr (.inr rfl))
       exact⟨e15.trans h.best,e16.trans h.is,e9.trans h.cost⟩) (λc pre W W' h _=>h)
      (by
       have h:=HI10.out
       have hb:=HG11.out.below.block
       exact⟨(hb _ (by omega)).trans h.best,(hb _ (by omega)).trans h.is,(hb _ (by omega)).trans h.cost⟩) ?_ ?_ (λD j q W _ _ _ h _=>h.elim)
     ·intro l pre ρ W hpl hkw hpre hl1' hl2'
      have hρ:∀i,c'.has (ρ i):=jH HSTS.out.1 _ _ _ fj ρ (hpl.subset (by simp))
      have HRHO:Hid (∀i,ρ i<16):=ui λi=>pp (by omega) (hρ i)
      have hg12:∀i,i<5->W.cell? ⟨w1.heap.size,i,none⟩=some (.int .u8 (rosOf ls i:Nat)):=λi hi=>by
       rw[hkw.cell (p:=⟨w1.heap.size,i,none⟩) (by show w1.heap.size<_;omega) (by rintro(h|h);exact HT12.out h;have h':w1.heap.size=w10.heap.size+1:=h;omega),HG11.out.cell (p:=⟨w1.heap.size,i,none⟩) (by show w1.heap.size<_;omega)]
       exact HGV2.out i hi
      have hzW:=hkw.size
      have HI:=ui hpre
      obtain⟨W2,hW2⟩:∃W2,W2=W.alloc (.cells #[.int .u8 (ρ 0),.int .u8 (ρ 1),.int .u8 (ρ 2),.int .u8 (ρ 3),.int .u8 (ρ 4)] 60):=⟨_,rfl⟩
      have HKA:Hid (KT T0 W W2):=ui (by rw[hW2];exact um ((Gr.refl W).alloc _))
      have HCS:Hid (W2.heap[W.heap.size]?=some (.cells (rosO ρ) 60 (0,0))):=ui (by rw[hW2];exact World.alloc_heap_new W _)
      have HOLD:Hid (∀b,b<W.heap.size->W2.heap[b]?=W.heap[b]?):=ui λb hb=>by rw[hW2];exact heap_alloc_old _ _ hb
      have hz2:W2.heap.size=W.heap.size+1:=by rw[hW2];simp
      have HZ2:=ui hz2
      have HW2:=ui hW2
      have HG12:=ui hg12
      clear hpl hkw hpre hρ hg12 hW2 hz2
      unfold rosV
      gi_wp2
      rw[<-HW2.out]
      refine⟨HKA.out,λo=>?_⟩
      clear HW2
      have hlD:∀b,b<w11.heap.size->b≠l:=λb hb=>by omega
      have hIc:RepI (rosOf ls) w9.heap.size (w9.heap.size+1) (w.heap.size+1) (nearR (rosOf ls) pre) (W2.putObj l o):=by
       have h:=HI.out
       have e:∀b,b<w11.heap.size->(W2.putObj l o).heap[b]?=W.heap[b]?:=λb hb=>(World.putObj_heap_other (hlD b hb)).trans (HOLD.out b (by omega))
       exact⟨(e _ (by omega)).trans h.best,(e _ (by omega)).trans h.is,(e _ (by omega)).trans h.cost⟩
      have h17:∀i,i<5->(W2.putObj l o).cell? ⟨W.heap.size,i,none⟩=some (.int .u8 (ρ i:Nat)):=λi hi=>by
       rw[(cells_at (W:=W2.putObj l o) ((World.putObj_heap_other (by omega)).trans HCS.out)).1 i];exact sk ρ hi
      have h12:∀i,i<5->(W2.putObj l o).cell? ⟨w1.heap.size,i,none⟩=some (.int .u8 (rosOf ls i:Nat)):=λi hi=>by
       rw[bR (by show w1.heap.size≠l;omega),World.cell?_of_block (a:=⟨w1.heap.size,i,none⟩) (HOLD.out w1.heap.size (by omega))];exact HG12.out i hi
      have hz3:(W2.putObj l o).heap.size=W.heap.size+1:=by simp[World.putObj];exact HZ2.out
      obtain⟨W3,hW3⟩:∃W3,W3=W2.putObj l o:=⟨_,rfl⟩
      rw[<-hW3] at hIc h17 h12 hz3 ⊢
      have HI3:=ui hIc
      have H17:=ui h17
      have H12:=ui h12
      have HZ3:=ui hz3
      clear hW3 hIc h17 h12 HI HCS HOLD HG12 hz3
      gi_wp2
      gi_loopw [18,84] (λv i wr=>∃(j m:Nat),j<=5/\i=.int .i64 j/\v=.int .i64 (farR ρ (rosOf ls) j:Nat)/\wr=W3.drewN m) (λ_ i _=>5-(intOf i).toNat)
      case atStart=>exact⟨0,0,by omega,rfl,rfl,rfl⟩
      case round =>
       obtain⟨j,m,hj,rfl,rfl,rfl⟩:=hrel
       by_cases hj5:j<5
       ·have c17:W3.cell? ⟨W.heap.size,j,none⟩=some (.int .u8 (ρ j:Nat)):=H17.out j hj5
        have c12:W3.cell? ⟨w1.heap.size,j,none⟩=some (.int .u8 (rosOf ls j:Nat)):=H12.out j hj5
        have hx:=kY ⟨ρ j,HRHO.out j⟩ ⟨rosOf ls j,HRLT.out j⟩
        have hfl:=mt (a:=ρ) (b:=rosOf ls) (λi hi=>(kY ⟨ρ i,HRHO.out i⟩ ⟨rosOf ls i,HRLT.out i⟩).2) j hj
        have HFS:Hid (farR ρ (rosOf ls) (j+1)=farR ρ (rosOf ls) j+(wl (ρ j ^^^ rosOf ls j)).length):=ui rfl
        have hwl4:=ms ⟨ρ j ^^^ rosOf ls j,hx.2⟩
        have HSZ:=ui (λw=>tq (ρ j ^^^ rosOf ls j) w hx.2)
        simp only at hx hwl4
        obtain⟨hx1,hx2⟩:=hx
        generalize ρ j ^^^ rosOf ls j=X at hx1 hx2 hwl4 HSZ HFS
        generalize ρ j=x at c17 hx1
        generalize rosOf ls j=y at c12 hx1
        generalize farR ρ (rosOf ls) j=q at hfl HFS
        generalize (wl X).length=L at HFS hwl4 HSZ
        gi_wp2
        refine eh (F:=Fence.wide) rfl (by kernel_rfl) (by kernel_rfl) (by kernel_rfl) ?_
        repeat (gi_big_quiet_step (fail))
        refine wpQuietIn_step (λw _ f _=>trivial) (λK hK=>?_)
        go_simp
        apply Exists.intro
        refine⟨λ_=>?_,hK _ ?_⟩
        ·exact⟨rfl,(callsIn_wide.2 (HSZ.out _)).mono λe w' h=>⟨h.1,_,h.2.symm⟩⟩
        clear hK K
        repeat (gi_big_quiet_step (fail))
        refine wpQuietIn_nil ?_
        intro _ hw'
        obtain⟨nq,hw''⟩:=hw'
        subst hw''
        gi_wp2
        go_roundw
        case rel=>exact⟨j+1,m+nq,by omega,by go_num,by rw[HFS.out];first|rfl|(congr 1;omega),rfl⟩
        case measure=>simp[intOf];omega
       ·have hj5':j=5:=by omega
        subst hj5'
        have HI4:=HI3.out
        have HF5:=mt (a:=ρ) (b:=rosOf ls) (λi hi=>(kY ⟨ρ i,HRHO.out i⟩ ⟨rosOf ls i,HRLT.out i⟩).2) 5 (Nat.le_refl _)
        have HSN:=ui (iO (rosOf ls) pre ρ)
        obtain⟨nb0,nb1,nb2⟩:=one_cell HI4.is
        obtain⟨nc0,nc1,nc2⟩:=one_cell HI4.cost
        obtain⟨nd0,nd1,nd2⟩:=cells_at HI4.best
        have p0:=H17.out 0 (by omega)
        have p1:=H17.out 1 (by omega)
        have p2:=H17.out 2 (by omega)
        have p3:=H17.out 3 (by omega)
        have p4:=H17.out 4 (by omega)
        have d0:=nd0 0
        have d1:=nd0 1
        have d2:=nd0 2
        have d3:=nd0 3
        have d4:=nd0 4
        have f0:=nd1 0
        have f1:=nd1 1
        have f2:=nd1 2
        have f3:=nd1 3
        have f4:=nd1 4
        generalize nearR (rosOf ls) pre=o' at nb0 nc0 d0 d1 d2 d3 d4 HSN HI3
        simp only[rosO,List.getElem?_toArray,List.getElem?_cons_zero,List.getElem?_cons_succ] at d0 d1 d2 d3 d4
        clear HI4 nd0 nd1
        have HT3:Hid (T0 w9.heap.size/\T0 (w9.heap.size+1)/\T0 (w.heap.size+1)):=ui (by rw[HT0.out];exact⟨.inl rfl,.inr (.inl rfl),.inr (.inr rfl)⟩)
        have hkd:KT T0 W3 (W3.drewN m):=um ((Gr.refl W3).drewN m)
        have HKD:=ui hkd
        have hw9:w.heap.size+1<w9.heap.size:=by omega
        clear hkd
        obtain⟨q5,hq5⟩:∃q,q=farR ρ (rosOf ls) 5:=⟨_,rfl⟩
        rw[<-hq5] at HF5 HSN ⊢
        clear hq5
        have HP:=ui ((HI3.out.drewN m).put (by omega) (by omega) (by omega) ρ q5 T0 HT3.out.1 HT3.out.2.1 HT3.out.2.2)
        cases o' with
        |none =>
         gi_wp2
         refine⟨HKD.out.trans HP.out.2,?_⟩
         show RepI _ _ _ _ (nearR _ (pre++[ρ])) _
         rw[HSN.out]
         exact HP.out.1
        |some p =>
         obtain⟨p1,n0⟩:=p
         simp only[Option.isSome,cstR] at nb0 nc0
         by_cases hlt:q5<n0
         ·have hlt':(q5:Int)<(n0:Int):=by omega
          gi_wp2
          refine⟨HKD.out.trans HP.out.2,?_⟩
          show RepI _ _ _ _ (nearR _ (pre++[ρ])) _
          rw[HSN.out]
          simp only[if_pos hlt]
          exact HP.out.1
         ·have hlt':¬(q5:Int)<(n0:Int):=by omega
          gi_wp2
          refine⟨HKD.out,?_⟩
          show RepI _ _ _ _ (nearR _ (pre++[ρ])) _
          rw[HSN.out]
          simp only[if_neg hlt]
          exact HI3.out.drewN m
     ·intro D W hD hkw hi hd
      have hw9:w.heap.size+1<w9.heap.size:=by omega
      have hGW:Gr w W:=KT.gr (T:=λb=>T0 b\/b=w10.heap.size+1) (HREP.out.gr.trans (HG10.out.trans HG11.out)) hkw (by
       rintro b (h|h)
       ·rw[HT0.out] at h;omega
       ·omega)
      have hzW:=hkw.size
      have HNR:Hid (nearR (rosOf ls) (walkL (repC c k d) (setsL c.herders.length) c.needs.length zeroR 0)=nearR (rosOf ls) (walkL c' (setsL c.herders.length) c.needs.length zeroR 0)):=ui (by rw[HC'.out])
      have hmem:∀p,nearR (rosOf ls) (walkL c' (setsL c.herders.length) c.needs.length zeroR 0)=some p->∀i,i<5->p.1 i<16:=λp hp i _ =>
       pp (by omega) (jH HSTS.out.1 _ _ _ fj p.1 (oU _ _ p rfl hp) i)
      obtain⟨o',ho'⟩:∃o',o'=nearR (rosOf ls) (walkL c' (setsL c.herders.length) c.needs.length zeroR 0):=⟨_,rfl⟩
      rw[<-ho'] at hmem HNR hi
      have HNR2:=ui ho'
      have HREPD:Hid (∀e w',Gr w w'->(match o' with
       |none=>e=.returned (.tuple #[.slice none 0 0,.int .i64 0,.int .i64 11])
       |some p=>∃A k,e=.returned (.tuple #[.slice A c.needs.length k,.int .i64 p.2,.int .i64 0])/\GrAt w' w'.heap.size A (aQ p.1 c.needs.length))->io c ls k d w e w'):=ui λe w' hg h=>by
        refine⟨hg,?_⟩
        rw[if_neg (by simp[HE.out]),if_neg (by rw[show inR (k:Int) 0 (c.herders.length-1)=true by unfold inR;simp;omega,<-HX2.out];simp),show((k:Int)).toNat=k from rfl,HNR.out]
        exact h
      have hcc:W.cell? ⟨wz.heap.size+1,0,none⟩=some (.slice nA c.needs.length nc):=by
       rw[hkw.cell (p:=⟨wz.heap.size+1,0,none⟩) (by show wz.heap.size+1<_;omega) (by rintro(h|h);exact HKT.out _ (.inr (.inl rfl)) h;have h':wz.heap.size+1=w10.heap.size+1:=h;omega)]
       have:=HS2.out.camp.c0
       rwa [hcn] at this
      obtain⟨nb0,nb1,nb2⟩:=one_cell hi.is
      obtain⟨nc0,nc1,nc2⟩:=one_cell hi.cost
      obtain⟨nd0,nd1,nd2⟩:=cells_at hi.best
      have HGW:=ui hGW
      have HDD:=ui hd
      have hD9:D≠w.heap.size+1:=by omega
      have hcbl:wz.heap.size+1<W.heap.size:=by omega
      have HMEM:=ui hmem
      clear hkw hi hGW hd ho' hmem
      cases o' with
      |none =>
       have HDS:Hid ((W.setCell ⟨w.heap.size+1,0,none⟩ (.int .i64 0)).heap[D]?=some (.deferred (some []))):=ui ((Below.heap_setCell _ _ _ _ hD9).trans HDD.out)
       go_wp2
       refine dh HDS.out (v:=.tuple #[.slice none 0 0,.int .i64 0,.int .i64 11]) ?_ (HREPD.out _ _ ((HGW.out.setCell (by show _<=w.heap.size+1;omega) _).putObj (by omega) _) rfl)
       have:=bR (W:=W.setCell ⟨w.heap.size+1,0,none⟩ (.int .i64 0)) (D:=D) (o:=.deferred none) (p:=⟨w.heap.size+1,0,none⟩) (Ne.symm hD9)
       rw[World.cell?_setCell_same _ _ _ nc0] at this
       simp[results,Tryz.results25,go_sem,this]
      |some p =>
       obtain⟨p1,n0⟩:=p
       have HL:=ui (mj (wz.heap.size+1) nA c.needs.length nc p1 W.drew hcbl hcc hn5 (HMEM.out _ rfl))
       have d0:=nd0 0
       have d1:=nd0 1
       have d2:=nd0 2
       have d3:=nd0 3
       have d4:=nd0 4
       simp only[rosO,bstR,List.getElem?_toArray,List.getElem?_cons_zero,List.getElem?_cons_succ] at d0 d1 d2 d3 d4
       simp only[Option.isSome,cstR] at nb0 nc0
       unfold rosV at HL
       clear nd0 nd1
       go_wp2
       refine jU ?_
       go_region_with (first|(go_at_call 50;refine HL.out.mono ?_;rintro e w3 ⟨A3,c3,xs3,rfl,hog,hg3⟩;have q0:=(hg3.cell (p:=⟨w.heap.size+1,0,none⟩) (by show w.heap.size+1<W.heap.size;omega)).trans nc0;have q1:=(hg3.frozen (p:=⟨w.heap.size+1,0,none⟩) (by show w.heap.size+1<W.heap.size;omega)).trans nc1;have HG3:=ui hg3;have HOG:=ui hog;clear hg3 hog))
       all_goals
        go_wp2
        have hz3:=HG3.out.size
        have hz3':W.heap.size<=w3.heap.size:=hz3
        have hD3:(w3.setCell ⟨w.heap.size+1,0,none⟩ (.int .i64 (n0:Nat))).heap[D]?=some (.deferred (some [])):=(Below.heap_setCell _ _ _ _ hD9).trans ((HG3.out.below.block D (Array.getElem?_eq_some_iff.1 HDD.out).1).trans HDD.out)
        have hog4:OwnGrid ((w3.setCell ⟨w.heap.size+1,0,none⟩ (.int .i64 (n0:Nat))).putObj D (.deferred none)) (W.drew.heap.size+1) (.slice A3 c.needs.length c3) (aQ p1 c.needs.length) xs3:=HOG.out.keep' λb hb hl=>by
         have hDl:=(Array.getElem?_eq_some_iff.1 HDD.out).1
         have hb':W.heap.size+1<=b:=hb
         rw[World.putObj_heap_other (by omega),Below.heap_setCell _ _ _ _ (by show b≠w.heap.size+1;omega)]
        obtain⟨A4,c4,e4,hgr4⟩:=hog4.grAt
        rw[dF] at e4
        refine dh hD3 (v:=.tuple #[.slice A3 c.needs.length c3,.int .i64 (n0:Nat),.int .i64 0]) ?_ (HREPD.out _ _ (((HGW.out.drew.trans HG3.out).setCell (by show _<=w.heap.size+1;omega) _).putObj (by omega) _) ⟨A4,c4,by rw[e4],hgr4⟩)
        have:=bR (W:=w3.setCell ⟨w.heap.size+1,0,none⟩ (.int .i64 (n0:Nat))) (D:=D) (o:=.deferred none) (p:=⟨w.heap.size+1,0,none⟩) (Ne.symm hD9)
        rw[World.cell?_setCell_same _ _ _ q0] at this
        simp[results,Tryz.results25,go_sem,this]
 ·rw[if_neg hE] at hf
  obtain⟨p,r,rfl⟩:=hf
  have HE:=ui hE
  obtain⟨q,hq⟩:∃q,q=formedE c ls:=⟨_,rfl⟩
  rw[<-hq] at hE ⊢
  have HQ:=ui hq
  have hqe:(q != 0)=true:=by simp[hE]
  obtain⟨hn0,hn1,hn2⟩:=one_cell HNB1.out
  have HX:=ui (show Gr w (w1.alloc (.cells #[.int .u8 (r 0),.int .u8 (r 1),.int .u8 (r 2),.int .u8 (r 3),.int .u8 (r 4)] 60)) from HG2.out.alloc _)
  clear hE hq hg1 HFORM
  unfold rosV
  go_wp2
  have hres:((w1.setCell ⟨w.heap.size+1,0,none⟩ (.int .i64 0)).alloc (.cells #[.int .u8 (r 0),.int .u8 (r 1),.int .u8 (r 2),.int .u8 (r 3),.int .u8 (r 4)] 60)).cell? ⟨w.heap.size+1,0,none⟩=some (.int .i64 0):=by
   rw[World.cell?_alloc_past _ _ _ (by simp[World.setCell];exact hn2)];exact World.cell?_setCell_same _ _ _ hn0
  refine eE (v:=.tuple #[.slice none 0 0,.int .i64 0,.int .i64 q]) (by simp[results,Tryz.results25,go_sem,hres]) ⟨(HG2.out.setCell (by show _<=w.heap.size+1;omega) _).alloc _,?_⟩
  rw[if_pos HE.out,HQ.out]
open Go.RowKit Go.Sq
def dH (A A':Option Addr)(c c':Nat)(l m:List Int)(w:World)(B:Nat)(hB:B<=w.heap.size)(h:RI w B A l)(h':RI w B A' m)(hl:l.length<=4611686018427387904)(hm:m.length<=4611686018427387904) :
  Calls uZ 30 #[.slice A l.length c,.slice A' m.length c'] w λe w'=>e=.returned (.bool (decide (l=m)))/\Gr w w':=by
 have HR:=ui h
 have HR':=ui h'
 clear h h'
 go_enter Sq.func30,Tryz.ntmps30
 by_cases hlen:l.length=m.length
 ·go_wp2
  go_loopw [5] (λi wr=>∃k:Nat,k<=l.length/\i=.int .i64 k/\l.take k=m.take k/\Gr w wr) (λi _=>l.length-(intOf i).toNat)
  case atStart=>exact⟨0,by omega,rfl,by simp,.refl _⟩
  case round =>
   obtain⟨k,hk,rfl,heq,hg⟩:=hrel
   have HG:=ui hg
   have HE:=ui heq
   clear hg heq
   by_cases hlt:k<l.length
   ·obtain⟨b,o,rfl,hb,hc⟩:=(HR.out.gr hB HG.out).at_ hlt
    obtain⟨b',o',rfl,hb',hc'⟩:=(HR'.out.gr hB HG.out).at_ (show k<m.length by omega)
    have HD:=ui (rN l m k hlt (by omega))
    generalize l[k]?.getD 0=x at hc HD
    generalize m[k]?.getD 0=y at hc' HD
    by_cases h1:x=y
    ·have HS:=ui (HD.out.1 HE.out h1)
     subst h1
     clear HD
     go_wp2
     go_region
     go_wp2
     go_roundw
     case rel=>exact⟨k+1,by omega,by go_num,HS.out,HG.out.drew⟩
     case measure=>simp[intOf];omega
    ·have HS:=ui (HD.out.2 h1)
     have hne:decide (x≠y)=true:=by simp[h1]
     clear HD
     go_wp2
     go_region
     go_wp2
     go_ret
     exact⟨aD (by simp[HS.out]),HG.out.drew⟩
   ·have hkl:k=l.length:=by omega
    have HS:=ui (show l=m by have:=HE.out;rw[hkl,List.take_of_length_le (by omega),List.take_of_length_le (by omega)] at this;exact this)
    clear hkl
    go_wp2
    go_ret
    exact⟨aD (by simp[HS.out]),HG.out⟩
 ·have hne:l≠m:=λe=>hlen (by rw[e])
  have HN:=ui hne
  clear hne
  go_wp2
  go_ret
  exact⟨aD (by simp[HN.out]),.refl _⟩
def gS (A A':Option Addr)(c c':Nat)(l m:List (List Int))(w:World)(B:Nat)(hB:B<=w.heap.size)(h:GrAt w B A l)(h':GrAt w B A' m)(hl:l.length<=4611686018427387904)(hm:m.length<=4611686018427387904)
  (hl2:∀x∈l,x.length<=4611686018427387904) (hm2:∀x∈m,x.length<=4611686018427387904) :
  Calls uZ 29 #[.slice A l.length c,.slice A' m.length c'] w λe w'=>e=.returned (.bool (decide (l=m)))/\Gr w w':=by
 have HR:=ui h
 have HR':=ui h'
 have HL2:=ui hl2
 have HM2:=ui hm2
 clear h h' hl2 hm2
 go_enter Sq.func29,Tryz.ntmps29
 by_cases hlen:l.length=m.length
 ·rw[<-hlen]
  have HLEN:=ui hlen
  clear hlen
  have hmk:∀k,k<l.length->k<m.length:=λk hk=>by have:=HLEN.out;omega
  have HMK:=ui hmk
  clear hmk
  go_wp2
  go_loopw [5] (λi wr=>∃k:Nat,k<=l.length/\i=.int .i64 k/\l.take k=m.take k/\Gr w wr) (λi _=>l.length-(intOf i).toNat)
  case atStart=>exact⟨0,by omega,rfl,by simp,.refl _⟩
  case round =>
   obtain⟨k,hk,rfl,heq,hg⟩:=hrel
   have HG:=ui hg
   have HE:=ui heq
   clear hg heq
   by_cases hlt:k<l.length
   ·obtain⟨b,o,A1,c1,rfl,hb,hc,hr⟩:=(HR.out.gr hB HG.out).at_ hlt
    obtain⟨b',o',A2,c2,rfl,hb',hc',hr'⟩:=(HR'.out.gr hB HG.out).at_ (HMK.out k hlt)
    have HD:=ui (qu l m k hlt (HMK.out k hlt))
    have hx:=HL2.out _ (fi l k hlt)
    have hy:=HM2.out _ (fi m k (HMK.out k hlt))
    generalize l[k]?.getD []=x at hc HD hr hx
    generalize m[k]?.getD []=y at hc' HD hr' hy
    have hsz:=HG.out.size
    have HCALL:Hid (∀q,q=wr\/q=wr.drew->Calls uZ 30 #[.slice A1 x.length c1,.slice A2 y.length c2] q λe w'=>e=.returned (.bool (decide (x=y)))/\Gr q w'):=ui λq hq=>by
     rcases hq with rfl|rfl
     ·exact dH A1 A2 c1 c2 x y _ B (by omega) hr hr' hx hy
     ·exact dH A1 A2 c1 c2 x y _ B (by show B<=wr.heap.size;omega) hr hr' hx hy
    clear hr hr' hx hy
    by_cases h1:x=y
    ·have HS:=ui (HD.out.1 HE.out h1)
     have HC2:Hid (∀q,q=wr\/q=wr.drew->Calls uZ 30 #[.slice A1 x.length c1,.slice A2 y.length c2] q λe w'=>e=.returned (.bool true)/\Gr q w'):=ui λq hq=>(HCALL.out q hq).mono λe w' h=>⟨h.1.trans (aD (by simp[h1])),h.2⟩
     clear h1 HD HCALL
     go_wp2
     go_region_with (first|(go_at_call 30;refine(HC2.out _ (by first|exact Or.inl rfl|exact Or.inr rfl)).mono ?_;rintro e w3 ⟨rfl,hg3⟩;have q0:=(hg3.cell (p:=⟨b,o+k,none⟩) (by show b<wr.heap.size;omega)).trans hc;have q1:=(hg3.cell (p:=⟨b',o'+k,none⟩) (by show b'<wr.heap.size;omega)).trans hc';have HG3:=ui (show Gr w w3 from(by first|exact HG.out.trans hg3|exact HG.out.drew.trans hg3));clear hg3))
     all_goals
      go_wp2
      go_roundw
      case rel=>exact⟨k+1,by omega,by go_num,HS.out,HG3.out⟩
      case measure=>simp[intOf];omega
    ·have HS:=ui (HD.out.2 h1)
     have HC2:Hid (∀q,q=wr\/q=wr.drew->Calls uZ 30 #[.slice A1 x.length c1,.slice A2 y.length c2] q λe w'=>e=.returned (.bool false)/\Gr q w'):=ui λq hq=>(HCALL.out q hq).mono λe w' h=>⟨h.1.trans (aD (by simp[h1])),h.2⟩
     clear h1 HD HCALL
     go_wp2
     go_region_with (first|(go_at_call 30;refine(HC2.out _ (by first|exact Or.inl rfl|exact Or.inr rfl)).mono ?_;rintro e w3 ⟨rfl,hg3⟩;have q0:=(hg3.cell (p:=⟨b,o+k,none⟩) (by show b<wr.heap.size;omega)).trans hc;have q1:=(hg3.cell (p:=⟨b',o'+k,none⟩) (by show b'<wr.heap.size;omega)).trans hc';have HG3:=ui (show Gr w w3 from(by first|exact HG.out.trans hg3|exact HG.out.drew.trans hg3));clear hg3))
     all_goals
      go_wp2
      go_ret
      exact⟨aD (by simp[HS.out]),HG3.out⟩
   ·have hkl:k=l.length:=by omega
    have HS:=ui (show l=m by have:=HE.out;rw[hkl,List.take_of_length_le (by omega),List.take_of_length_le (by have:=HLEN.out;omega)] at this;exact this)
    clear hkl
    go_wp2
    go_ret
    exact⟨aD (by simp[HS.out]),HG.out⟩
 ·have hne:l≠m:=λe=>hlen (by rw[e])
  have HN:=ui hne
  clear hne
  go_wp2
  go_ret
  exact⟨aD (by simp[HN.out]),.refl _⟩
end Go.Proofs.YtjmmlkobmhlikaaGreat
