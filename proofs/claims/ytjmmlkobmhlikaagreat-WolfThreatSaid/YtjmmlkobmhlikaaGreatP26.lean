/- Parts of the proof. -/
import Derived.Test.YtjmmlkobmhlikaaGreatP25
import Derived.Deep.RegionLaw
import Derived.Deep.RegionHeld3
set_option linter.all false
set_option maxHeartbeats 6400000
set_option maxRecDepth 1000000
namespace Go.Sq
open Go.RowKit
structure CO (w0:World)(hb B:Nat)(A:Option Addr)(cap:Nat)(l:List Int)(M base:Nat)(v:Value)(ns:List Int)(W:World):Prop where
 hand:Hand W hb B A cap l M
 qobj:W.heap[w0.heap.size+1]?=some (.cells #[v,.slice none 0 0] 27 (0,0))
 robj:W.heap[w0.heap.size]?=some (.cells #[.slice none 0 0,.slice none 0 0] 27 (0,0))
 own:W.ownsRow base 3 1 v ns.length (ns.map (Value.int .i64))
 kt:KT (·=hb) w0 W
 lt:hb<w0.heap.size
 bs:w0.heap.size+2<=base/\base<=W.heap.size
section
variable {w0 W W':World} {hb B:Nat} {A:Option Addr} {cap:Nat} {l:List Int} {M base:Nat} {v:Value} {ns:List Int}
def CO.drew (h:CO w0 hb B A cap l M base v ns W):CO w0 hb B A cap l M base v ns W.drew :=
 ⟨h.hand.gr (Gr.refl W).drew,h.qobj,h.robj,own_keep h.own λ_ _ _=>rfl,⟨h.kt.os,h.kt.tape,h.kt.output,Nat.le_succ_of_le h.kt.drawn,h.kt.size,h.kt.block⟩,h.lt,h.bs⟩
def CO.alloc (h:CO w0 hb B A cap l M base v ns W)(o:Obj):CO w0 hb B A cap l M base v ns (W.alloc o) :=
 ⟨h.hand.gr ((Gr.refl W).alloc o),(heap_alloc_old _ _ (Array.getElem?_eq_some_iff.1 h.qobj).1).trans h.qobj,(heap_alloc_old _ _ (Array.getElem?_eq_some_iff.1 h.robj).1).trans h.robj,h.own.alloc o,h.kt.trans (um ((Gr.refl W).alloc o)),h.lt,by have:=h.bs;simp;omega⟩
def CO.deal (h:CO w0 hb B A cap l M base v ns W){M':Nat}(hh:Hand W' hb B A cap l M')(k:KT (·=hb) W W'):CO w0 hb B A cap l M' base v ns W' :=
 ⟨hh,(k.block _ (Array.getElem?_eq_some_iff.1 h.qobj).1 (by have:=h.lt;omega)).trans h.qobj,(k.block _ (Array.getElem?_eq_some_iff.1 h.robj).1 (by have:=h.lt;omega)).trans h.robj,ld h.own (by have:=h.lt;have:=h.bs;omega) k,h.kt.trans k,h.lt,by have:=h.bs;have:=k.size;omega⟩
def Hand.set {W:World}{hb B cap N:Nat}{A:Option Addr}{l:List Int}(h:Hand W hb B A cap l N){p:Addr}(hp:hb<p.block)(x:Value):Hand (W.setCell p x) hb B A cap l N:=by
 obtain⟨n,s,h1,h2⟩:=h.obj
 have hB:=h.apart
 exact⟨⟨n,s,(Below.heap_setCell _ _ _ _ (by omega)).trans h1,h2⟩,h.nums.keep λb o hb'=>World.cell?_of_block (Below.heap_setCell _ _ _ _ (by show b≠p.block;omega)),hB⟩
def KT.set {w0 W:World}{hb:Nat}(h:KT (·=hb) w0 W){p:Addr}(hp:w0.heap.size<=p.block)(x:Value):KT (·=hb) w0 (W.setCell p x) :=
 ⟨h.os,h.tape,h.output,h.drawn,by have:=h.size;simpa [World.setCell] using this,λb hb' hne=>(Below.heap_setCell _ _ _ _ (by omega)).trans (h.block b hb' hne)⟩
def CO.more (h:CO w0 hb B A cap l M base v ns W){M':Nat}(hm:M<=M'):CO w0 hb B A cap l M' base v ns W:=⟨h.hand.more hm,h.qobj,h.robj,h.own,h.kt,h.lt,h.bs⟩
def CO.push (h:CO w0 hb B A cap l M base v ns W){w6:World}{o:Obj}{v':Value}{z:Int}(hown:w6.ownsRow base 3 1 v' (ns++[z]).length ((ns++[z]).map (Value.int .i64)))(hg:(W.alloc o).grownBy w6 v.ownBlock)(hd:(W.alloc o).drawn<=w6.drawn) :
  CO w0 hb B A cap l M base v' (ns++[z]) (w6.setCell ⟨w0.heap.size+1,0,none⟩ v'):=by
 have hlt:=h.lt
 have hbs:=h.bs
 have hq:=(grown_old h.own hg (w0.heap.size+1) (by omega) (Array.getElem?_eq_some_iff.1 h.qobj).1).trans h.qobj
 have hr:=(grown_old h.own hg w0.heap.size (by omega) (Array.getElem?_eq_some_iff.1 h.robj).1).trans h.robj
 refine⟨(cY h.hand h.own (by omega) hg).set (by show hb<w0.heap.size+1;omega) _,?_,(Below.heap_setCell _ _ _ _ (by simp)).trans hr,ownsRow_setCell_below hown (by show w0.heap.size+1<base;omega) _,(ee h.kt h.own (by omega) hg hd).set (by show _<=w0.heap.size+1;omega) _,hlt,hbs.1,by have:=fv hg;simp[World.setCell];omega⟩
 exact aH hq
def t8 {W:World}{K:Nat->Prop}{a b:Int}(hK:K W.heap.size):RIK (W.alloc (.cells #[.int .i64 a,.int .i64 b] 3)) K (some ⟨W.heap.size,0,none⟩) [a,b]:=λ_=>⟨_,0,rfl,hK,λi x hx=>by
 rw[World.cell?_alloc_at _ _ _ _ rfl]
 match i,hx with
 |0,hx=>cases hx;rfl
 |1,hx=>cases hx;rfl⟩
def tD {W:World}{K:Nat->Prop}{a:Int}(hK:K W.heap.size):RIK (W.alloc (.cells #[.int .i64 a] 3)) K (some ⟨W.heap.size,0,none⟩) [a]:=λ_=>⟨_,0,rfl,hK,λi x hx=>by
 rw[World.cell?_alloc_at _ _ _ _ rfl]
 match i,hx with
 |0,hx=>cases hx;rfl⟩
def CO.room (h:CO w0 hb B A cap l M base v ns W)(o:Obj):W.heap.size≠hb/\W.heap.size<(W.alloc o).heap.size:=by
 have:=h.hand.lt
 simp;omega
def CO.cell (h:CO w0 hb B A cap l M base v ns W):W.cell? ⟨w0.heap.size+1,0,none⟩=some v/\W.frozen? ⟨w0.heap.size+1,0,none⟩=false/\w0.heap.size+1<W.heap.size:=⟨(cell_of_heap h.qobj 0).1,(cell_of_heap h.qobj 0).2,(Array.getElem?_eq_some_iff.1 h.qobj).1⟩
def de {W W':World}{K K':Nat->Prop}{A:Option Addr}{q:List Int}(h:RIK W K A q)(hk:∀b,K b->K' b)(hc:∀b o,K b->W'.cell? ⟨b,o,none⟩=W.cell? ⟨b,o,none⟩):RIK W' K' A q:=λhn=>by
 obtain⟨b,o,e,h1,h2⟩:=h hn
 exact⟨b,o,e,hk b h1,λi x hx=>(hc _ _ h1).trans (h2 i x hx)⟩
def ir {W W':World}{K K':Nat->Prop}{A:Option Addr}{q:List Herder}(h:HsAtK W K A q)(hk:∀b,K b->K' b)(hc:∀b o,K b->W'.cell? ⟨b,o,none⟩=W.cell? ⟨b,o,none⟩):HsAtK W' K' A q:=λhn=>by
 obtain⟨b,o,e,h1,h2⟩:=h hn
 refine⟨b,o,e,hk b h1,λi x hx=>?_⟩
 obtain⟨k0,k1,k2,A',c,k3,k4⟩:=h2 i x hx
 exact⟨(hc _ _ h1).trans k0,(hc _ _ h1).trans k1,(hc _ _ h1).trans k2,A',c,(hc _ _ h1).trans k3,de k4 hk hc⟩
def gG (h:Herder)(y:Value):List Value:=[.int .i64 h.heads,.int .i64 h.dogs,.int .i64 h.most,y]
structure CP (w0:World)(hb B:Nat)(A:Option Addr)(cap:Nat)(l:List Int)(M base:Nat)(v:Value)(ns:List Int)(u:Value)(hs:List Herder)(xs:List Value)(W:World):Prop where
 hand:Hand W hb B A cap l M
 qobj:W.heap[w0.heap.size+1]?=some (.cells #[v,u] 27 (0,0))
 robj:W.heap[w0.heap.size]?=some (.cells #[.slice none 0 0,.slice none 0 0] 27 (0,0))
 own:W.ownsRow base 3 1 v ns.length (ns.map (Value.int .i64))
 herds:W.ownsRow base 53 4 u hs.length xs
 offs:∀i h,hs[i]?=some h->∃y,(∀j,j<4->xs[i*4+j]?=(gG h y)[j]?)/\W.ownsRow base 3 1 y h.off.length (h.off.map (Value.int .i64))
 kt:KT (·=hb) w0 W
 lt:hb<w0.heap.size
 bs:w0.heap.size+2<=base/\base<=W.heap.size
variable {u:Value} {hs:List Herder} {xs:List Value}
def CO.cp (h:CO w0 hb B A cap l M base v ns W):CP w0 hb B A cap l M base v ns (.slice none 0 0) [] [] W :=
 ⟨h.hand,h.qobj,h.robj,h.own,World.ownsRow_nil _ _ _ _,λi h hi=>by simp at hi,h.kt,h.lt,h.bs⟩
def CP.keep (h:CP w0 hb B A cap l M base v ns u hs xs W){M':Nat}(hh:Hand W' hb B A cap l M')(hk:∀b,b<W.heap.size->b≠hb->W'.heap[b]?=W.heap[b]?)(kt:KT (·=hb) w0 W')(hz:W.heap.size<=W'.heap.size):CP w0 hb B A cap l M' base v ns u hs xs W':=by
 have hlt:=h.lt
 have hbs:=h.bs
 have ok:∀ {e:TypeId} {sz n:Nat} {y:Value} {zs:List Value},W.ownsRow base e sz y n zs->W'.ownsRow base e sz y n zs:=λho=>own_keep ho λg hg hl=>hk g hl (by have:=(ho.lt g hg).1;omega)
 refine⟨hh,(hk _ (Array.getElem?_eq_some_iff.1 h.qobj).1 (by omega)).trans h.qobj,(hk _ (Array.getElem?_eq_some_iff.1 h.robj).1 (by omega)).trans h.robj,ok h.own,ok h.herds,λi x hi=>?_,kt,hlt,by omega⟩
 obtain⟨y,h1,h2⟩:=h.offs i x hi
 exact⟨y,h1,ok h2⟩
def CP.deal (h:CP w0 hb B A cap l M base v ns u hs xs W){M':Nat}(hh:Hand W' hb B A cap l M')(k:KT (·=hb) W W'):CP w0 hb B A cap l M' base v ns u hs xs W' :=
 h.keep hh (λb hb' hne=>k.block b hb' hne) (h.kt.trans k) k.size
def CP.alloc (h:CP w0 hb B A cap l M base v ns u hs xs W)(o:Obj):CP w0 hb B A cap l M base v ns u hs xs (W.alloc o) :=
 h.keep (h.hand.gr ((Gr.refl W).alloc o)) (λb hb' _=>heap_alloc_old _ _ hb') (h.kt.trans (um ((Gr.refl W).alloc o))) (by simp)
def CP.more (h:CP w0 hb B A cap l M base v ns u hs xs W){M':Nat}(hm:M<=M'):CP w0 hb B A cap l M' base v ns u hs xs W:=⟨h.hand.more hm,h.qobj,h.robj,h.own,h.herds,h.offs,h.kt,h.lt,h.bs⟩
def CP.cell (h:CP w0 hb B A cap l M base v ns u hs xs W):W.cell? ⟨w0.heap.size+1,1,none⟩=some u/\W.frozen? ⟨w0.heap.size+1,1,none⟩=false/\w0.heap.size+1<W.heap.size:=⟨(cell_of_heap h.qobj 1).1,(cell_of_heap h.qobj 1).2,(Array.getElem?_eq_some_iff.1 h.qobj).1⟩
def CP.push (h:CP w0 hb B A cap l M base v ns u hs xs W){w6:World}{o:Obj}{u' y:Value}{x:Herder}(hy:W.ownsRow base 3 1 y x.off.length (x.off.map (Value.int .i64)))(hown:w6.ownsRow base 53 4 u' (hs.length+1) (xs++gG x y))(hg:(W.alloc o).grownBy w6 u.ownBlock)(hd:(W.alloc o).drawn<=w6.drawn) :
  CP w0 hb B A cap l M base v ns u' (hs++[x]) (xs++gG x y) (w6.setCell ⟨w0.heap.size+1,1,none⟩ u'):=by
 have hlt:=h.lt
 have hbs:=h.bs
 have hxl:xs.length=hs.length*4:=h.herds.1
 have hq:=(grown_old h.herds hg (w0.heap.size+1) (by omega) (Array.getElem?_eq_some_iff.1 h.qobj).1).trans h.qobj
 have hr:=(grown_old h.herds hg w0.heap.size (by omega) (Array.getElem?_eq_some_iff.1 h.robj).1).trans h.robj
 have ok:∀ {n:Nat} {z:Value} {zs:List Value},W.ownsRow base 3 1 z n zs->(w6.setCell ⟨w0.heap.size+1,1,none⟩ u').ownsRow base 3 1 z n zs:=λho=>own_keep ho λg hg' hl =>
  (Below.heap_setCell _ _ _ _ (by have:=(ho.lt g hg').1;show g≠w0.heap.size+1;omega)).trans ((hg.block g (by simp;omega) (eu (by decide) ho h.herds hg')).trans (heap_alloc_old _ _ hl))
 refine⟨(cY h.hand h.herds (by omega) hg).set (by show hb<w0.heap.size+1;omega) _,?_,(Below.heap_setCell _ _ _ _ (by simp)).trans hr,ok h.own,?_,λi z hi=>?_,(ee h.kt h.herds (by omega) hg hd).set (by show _<=w0.heap.size+1;omega) _,hlt,hbs.1,by have:=fv hg;simp[World.setCell];omega⟩
 ·exact aH hq
 ·rw[List.length_append]
  exact ownsRow_setCell_below hown (by show w0.heap.size+1<base;omega) _
 ·rcases Nat.lt_or_ge i hs.length with hi'|hi'
  ·rw[List.getElem?_append_left hi'] at hi
   obtain⟨y',h1,h2⟩:=h.offs i z hi
   exact⟨y',λj hj=>by rw[List.getElem?_append_left (by omega)];exact h1 j hj,ok h2⟩
  ·have e : i = hs.length := by
    have:=(List.getElem?_eq_some_iff.1 hi).1
    simp at this;omega
   subst e
   rw[List.getElem?_append_right (Nat.le_refl _)] at hi
   simp at hi
   subst hi
   exact⟨y,λj hj=>by rw[List.getElem?_append_right (by omega),hxl];congr 1;omega,ok hy⟩
def CP.camp (h:CP w0 hb B A cap l M base v ns u hs xs W):∃nA nc hA hc,v=.slice nA ns.length nc/\u=.slice hA hs.length hc/\RIK W (λb=>base<=b/\b<W.heap.size) nA ns/\HsAtK W (λb=>base<=b/\b<W.heap.size) hA hs:=by
 obtain⟨nA,nc,e1,h1⟩:=RIK_of_own h.own
 rcases h.herds.2 with⟨rfl,h0⟩|⟨g,hc,cur,rfl,hgb,hgo,_⟩
 ·have:hs=[]:=List.eq_nil_of_length_eq_zero h0
  subst this
  exact⟨nA,nc,none,0,e1,rfl,h1,λhn=>absurd rfl hn⟩
 ·refine⟨nA,nc,some ⟨g,0,none⟩,hc,e1,rfl,h1,λ_=>⟨g,0,rfl,⟨hgb,(Array.getElem?_eq_some_iff.1 hgo).1⟩,λi x hi=>?_⟩⟩
  obtain⟨y,hj,ho⟩:=h.offs i x hi
  obtain⟨A',c',rfl,hr⟩:=RIK_of_own ho
  have hcell:=h.herds.cells (g:=g) rfl
  have at_:∀j z,j<4->(gG x (.slice A' x.off.length c'))[j]?=some z->W.cell? ⟨g,0+i*4+j,none⟩=some z:=λj z hj4 hz=>by
   have:=hcell (i*4+j) z ((hj j hj4).trans hz)
   have e:(⟨g,0,none⟩:Addr).add (i*4+j)=⟨g,0+(i*4+j),none⟩:=by unfold Addr.add;split<;>simp_all
   rw[e,<-Nat.add_assoc] at this
   exact this
  exact⟨at_ 0 _ (by omega) rfl,at_ 1 _ (by omega) rfl,at_ 2 _ (by omega) rfl,A',c',at_ 3 _ (by omega) rfl,hr⟩
end
end Go.Sq
namespace Go.Proofs.YtjmmlkobmhlikaaGreat
open Go.RowKit Go.Sq
def gt {w:World}{ops:Array Oper}{o:Oper}{a:Act}{K:Act->World->Prop}{Q:Exit->Act->World->Prop}{E:Prop}(hgd:o.guard=none)(h:Oper.wp uZ o a w K Q):if Region.wanted o (yielded ops a.tmps)=true then Oper.wp uZ o a w K Q else E:=by
 have hw:Region.wanted o (yielded ops a.tmps)=true:=by simp[Region.wanted,hgd]
 rw[if_pos hw];exact h
def nN {w:World}{ops:Array Oper}{o:Oper}{a:Act}{K:Act->World->Prop}{Q:Exit->Act->World->Prop}{E:Prop}(hgd:o.guard=none)(s x:Operand)(ho:o.op=.call { callee:=.builtin .append,args:=#[s,x],argTypes:=#[22,22] })(hty:o.type=22)
  (base:Nat) (v:Value) (n:Nat) (xs:List Value) (hs:a.eval s=v) (hown:w.ownsRow base 3 1 v n xs) (y:Value) (h1:y.oneCell'=true) (hx:a.eval x=.slice (some ⟨w.heap.size,0,none⟩) 1 1) (hn:n<=1048576) (hbase:base<=w.heap.size)
  (h:∀v' w',w'.ownsRow base 3 1 v' (n+1) (xs++[y])->(w.alloc (.cells #[y] 3)).grownBy w' v.ownBlock->(w.alloc (.cells #[y] 3)).drawn<=w'.drawn->K (a.put o.dst v') w') :
  if Region.wanted o (yielded ops a.tmps)=true then Oper.wp uZ o a (w.alloc (.cells #[y] 3)) K Q else E:=by
 have hw:Region.wanted o (yielded ops a.tmps)=true:=by simp[Region.wanted,hgd]
 rw[if_pos hw]
 obtain⟨i0,hi,hz0,hz1,hz2⟩:=info_parts uv
 obtain⟨v',w',hr,h2,h3,h4⟩:=run_append_own (P:=uZ) (w.alloc (.cells #[y] 3)) base 22 22 3 i0 _ 1 8 ((Sq.underlying 22).trans Tryz.underlying22) hi hz0 hz1 hz2 rfl (by decide) v n xs (hown.alloc _) ⟨w.heap.size,0,none⟩ 1 1 [y] rfl (λj u hj=>by
  match j,hj with
  |0,hj=>cases hj;rw[Addr.add_lit,World.cell?_alloc_at _ _ _ _ (by simp)];rfl) (λu hu=>by simp at hu;subst hu;exact h1) (by unfold maxLen;omega) (by omega) (by simp;omega)
 have hd:=Go.Iso.drawn_mono uZ (Builtin.append_ #[22,22] 22 #[v,.slice (some ⟨w.heap.size,0,none⟩) 1 1]) (w.alloc (.cells #[y] 3)) #[]
 rw[Sem.runT_fst,hr] at hd
 unfold Oper.wp execOp
 simp only[ho,resolve,invoke,builtin,Sem.run_bind,Sem.run_pure,Result.andThen_ok,List.map_toArray,List.map_cons,List.map_nil,hs,hx,hr,hty]
 exact h v' w' h2 h3 hd
def tV {w:World}{ops:Array Oper}{rest:List Oper}{o:Oper}{a:Act}{Q:Exit->Act->World->Prop}(hgd:o.guard=none)(s x:Operand)(ho:o.op=.call { callee:=.builtin .append,args:=#[s,x],argTypes:=#[25,25] })
  (base:Nat) (v:Value) (n:Nat) (xs:List Value) (hs:a.eval s=v) (hown:w.ownsRow base 53 4 v n xs) (ad:Addr) (c:Nat) (news:List Value) (hx:a.eval x=.slice (some ad) 1 c) (h4:news.length=4) (hc:∀(j:Nat) (u:Value),news[j]?=some u->w.cell? (ad.add j)=some u) (h1:∀u∈news,u.oneCell'=true)
  (hn:n<=1048576) (hbase:base<=w.heap.size) (h:∀v' w',w'.ownsRow base 53 4 v' (n+1) (xs++news)->w.grownBy w' v.ownBlock->w.drawn<=w'.drawn->wpList uZ ops Q rest (a.put o.dst v') w'):wpList uZ ops Q (o::rest) a w:=by
 obtain⟨i0,hi,hz0,hz1,hz2⟩:=info_parts uJ
 exact wpList_append_gr hgd s x 25 ho base 53 i0 _ 4 48 Sq.underlying25 hi hz0 hz1 hz2 rfl (by decide) v n xs hs hown ad 1 c news hx (by omega) hc h1 (by unfold maxLen;omega) (by omega) hbase h
def qN (hb B:Nat)(A:Option Addr)(cap:Nat)(l:List Int)(N:Nat)(w:World)(h:Hand w hb B A cap l N)(hN:N<=10000) :
  Calls uZ 5 #[.pointer (some ⟨hb,0,none⟩),.int .i64 5,.int .i64 4] w λe w'=>∃c nA hA nc hc,e=.returned (campV nA hA c nc hc)/\c.Ok/\checkE c=0/\RIK w' (λb=>w.heap.size<=b/\b<w'.heap.size) nA c.needs/\HsAtK w' (λb=>w.heap.size<=b/\b<w'.heap.size) hA c.herders/\Hand w' hb B A cap l (N+1000)/\KH hb w w':=by
 obtain⟨W0,hW0⟩:∃W0:World,W0=(w.alloc (.cells #[.slice none 0 0,.slice none 0 0] 27)).alloc (.cells #[.slice none 0 0,.slice none 0 0] 27):=⟨_,rfl⟩
 have hg0:Gr w W0:=hW0▸((Gr.refl w).alloc _).alloc _
 have HZ0:Hid (W0.heap.size=w.heap.size+2):=ui (by rw[hW0];simp)
 have HH:=ui (h.gr hg0)
 have hlt:=h.lt
 have HW:=ui hW0
 have HG0:=ui hg0
 have HAM:=ui (cL hb B A cap l N 1 5 W0 (h.gr hg0) (by omega) (by omega) (by omega))
 have HCO0:Hid (CO w hb B A cap l N (w.heap.size+2) (.slice none 0 0) [] W0):=ui ⟨h.gr hg0,by rw[hW0];exact aL _ _ (by simp),by rw[hW0,heap_alloc_old _ _ (by simp)];exact heap_alloc_new _ _,World.ownsRow_nil _ _ _ _,⟨hg0.below.os,hg0.below.tape,hg0.below.output,hg0.drawn,hg0.size,λb hb' _=>hg0.below.block b hb'⟩,hlt,by rw[hW0];simp⟩
 clear hW0 hg0 h
 go_enter Sq.func5,Tryz.ntmps5
 go_wp2_with fail
 rw[<-HW.out]
 refine HAM.out.mono ?_
 rintro e w1 ⟨⟨n,rfl,hn1,hn5⟩,hh,hkt⟩
 have HCO1:=ui (HCO0.out.deal hh hkt)
 clear hh hkt HAM
 go_wp2
 go_loopw [9] (λi wr=>∃k:Nat,k<=n/\i=.int .i64 k/\∃v ns,CO w hb B A cap l (N+1+4*k) (w.heap.size+2) v ns wr/\ns.length=k/\∀x∈ns,0<=x/\x<=12) (λi _=>n-(intOf i).toNat)
 case atStart=>exact⟨0,by omega,rfl,_,[],HCO1.out,rfl,λx hx=>by simp at hx⟩
 case round =>
  obtain⟨k,hk,rfl,v,ns,HCO,hnl,hns⟩:=hrel
  have HNS:=ui hns
  clear hns
  by_cases hlk:k<n
  ·obtain⟨c0,f0,l0⟩:=HCO.drew.cell
   obtain⟨c9,f9,l9⟩:=HCO.cell
   replace HCO:=ui HCO.drew
   go_wp2
   clear c9 f9 l9
   go_region_law (first
    |(refine nN (by rfl) _ _ (by rfl) (by rfl) (w.heap.size+2) _ _ _ (by rfl) HCO.out.own (.int .i64 z) rfl (by rfl) (by omega) HCO.out.bs.2 ?_;intro v' w6 hown6 hgrow6 hd6;clear c0 f0 l0;have hq6:=(grown_old HCO.out.own hgrow6 (w.heap.size+1) (by omega) (Array.getElem?_eq_some_iff.1 HCO.out.qobj).1).trans HCO.out.qobj;have c6:=(cell_of_heap hq6 0).1;have f6:=(cell_of_heap hq6 0).2;have hown7:w6.ownsRow (w.heap.size+2) 3 1 v' (ns++[z]).length ((ns++[z]).map (Value.int .i64)):=(by simpa using hown6);obtain⟨A6,k6,hv6,_⟩:=uq hown7;subst hv6)
    |(refine gt (by rfl) ?_;go_simp;first
     |(go_at_call 7;refine(gp hb B A cap l _ _ _ HCO.out.hand (by omega) (by omega)).mono ?_;rintro e w' ⟨⟨q,rfl,hq⟩,hh,hkt⟩;replace HCO:=ui (HCO.out.deal hh hkt);clear c0 f0 l0 hh hkt;obtain⟨c0,f0,l0⟩:=HCO.out.cell;dsimp only)
     |(go_at_call 9;refine(iq hb B A _ cap 2 l [_,_] _ _ _ (HCO.out.alloc _).hand (by omega) (by simp) (t8 (HCO.out.room _))).mono ?_;rintro e w' ⟨⟨z,rfl,hz⟩,hh,hkt⟩;have hz12:0<=z/\z<=12:=(by simp only[List.mem_cons,List.not_mem_nil,or_false] at hz;omega);replace HCO:=ui ((HCO.out.alloc _).deal hh hkt);clear c0 f0 l0 hh hkt;have HZ:=ui hz12;obtain⟨c0,f0,l0⟩:=HCO.out.cell;dsimp only)))
   all_goals
    have HCO9:=ui ((HCO.out.push hown7 hgrow6 hd6).more (M':=N+1+4*(k+1)) (by omega))
    have hl9:(ns++[z]).length=k+1:=by simp[hnl]
    rw[hl9] at HCO9
    have HNS9:Hid (∀x∈ns++[z],0<=x/\x<=12):=ui λx hx=>by
     rcases List.mem_append.1 hx with hx|hx
     ·exact HNS.out x hx
     ·simp only[List.mem_cons,List.not_mem_nil,or_false] at hx
      subst hx;exact HZ.out
    clear hown7 hgrow6 hd6 hown6 HCO c6 f6 hq6
    go_wp2
    go_roundw
    case rel=>exact⟨k+1,by omega,by go_num,_,_,HCO9.out,hl9,HNS9.out⟩
    case measure=>simp[intOf];omega
  ·have hkn:k=n:=by omega
   subst hkn
   have HCP:=ui (HCO.cp.more (M':=N+30) (by omega))
   have HAM2:=ui (cL hb B A cap l (N+30) 1 4 wr HCP.out.hand (by omega) (by omega) (by omega))
   clear HCO
   go_wp2_with fail
   refine HAM2.out.mono ?_
   rintro e w2 ⟨⟨m,rfl,hm1,hm4⟩,hh,hkt⟩
   have HCP2:=ui (HCP.out.deal hh hkt)
   clear hh hkt HAM2 HCP
   go_wp2
   go_loopw [10] (λi wr=>∃j:Nat,j<=m/\i=.int .i64 j/\∃u hs xs,CP w hb B A cap l (N+31+20*(m-j)) (w.heap.size+2) v ns u hs xs wr/\hs.length=m-j/\∀h∈hs,herdE ns.length h=0) (λi _=>(intOf i).toNat)
   case atStart=>exact⟨m,by omega,rfl,_,[],[],HCP2.out.more (by omega),by simp,λh hh=>by simp at hh⟩
   case round =>
    obtain⟨wq,rfl⟩:∃wq,wq=wr:=⟨_,rfl⟩
    obtain⟨j,hj,rfl,u,hs,xs,hcp,hhl,hhs⟩:=hrel
    have HP:=ui hcp
    have HHS:=ui hhs
    clear hcp hhs
    by_cases hj0:0<j
    ·have HA1:=ui (cL hb B A cap l _ 1 6 wq HP.out.hand (by omega) (by omega) (by omega))
     go_wp2_with fail
     refine HA1.out.mono ?_
     rintro e v1 ⟨⟨a1,rfl,ha1,hb1⟩,hh,hkt⟩
     have HP1:=ui (HP.out.deal hh hkt)
     have HA2:=ui (cL hb B A cap l _ 1 40 v1 hh (by omega) (by omega) (by omega))
     clear hh hkt HA1
     go_wp2_with fail
     refine HA2.out.mono ?_
     rintro e v2 ⟨⟨a2,rfl,ha2,hb2⟩,hh,hkt⟩
     have HP2:=ui (HP1.out.deal hh hkt)
     have hhl2:=hh.lt
     have HA3:=ui (iq hb B A (some ⟨v2.heap.size,0,none⟩) cap 1 l [(a2:Int)] _ a1 (v2.alloc (.cells #[.int .i64 a2] 3)) (HP2.out.alloc _).hand (by omega) (by simp) (tD (by simp;omega)))
     clear hh hkt HA2
     go_wp2_with fail
     refine HA3.out.mono ?_
     rintro e v3 ⟨⟨a3,rfl,ha3⟩,hh,hkt⟩
     have h340:1<=a3/\a3<=40:=by simp only[List.mem_cons,List.not_mem_nil,or_false] at ha3;omega
     have HP3:=ui ((HP2.out.alloc _).deal hh hkt)
     have HA4:=ui (cL hb B A cap l _ 1 5 v3 hh (by omega) (by omega) (by omega))
     clear hh hkt HA3
     go_wp2_with fail
     refine HA4.out.mono ?_
     rintro e v4 ⟨⟨a4,rfl,ha4,hb4⟩,hh,hkt⟩
     have HP4:=ui (HP3.out.deal hh hkt)
     have HA5:=ui (cL hb B A cap l _ 0 3 v4 hh (by omega) (by omega) (by omega))
     clear hh hkt HA4
     go_wp2_with fail
     refine HA5.out.mono ?_
     rintro e v5 ⟨⟨a5,rfl,ha5,hb5⟩,hh,hkt⟩
     have HP5:=ui ((HP4.out.deal hh hkt).more (M':=N+31+20*(m-j)+5) (by omega))
     have hlt5:=hh.lt
     clear hh hkt HA5 HP HP1 HP2 HP3 HP4
     obtain⟨vX,hvX⟩:∃vX:World,vX=v5.alloc (.cells #[.int .i64 a3,.int .i64 a4,.int .i64 a5,.slice none 0 0] 53):=⟨_,rfl⟩
     have HX0:Hid (vX.heap[v5.heap.size]?=some (.cells #[.int .i64 a3,.int .i64 a4,.int .i64 a5,.slice none 0 0] 53 (0,0))):=ui (by rw[hvX];exact heap_alloc_new _ _)
     have HPX:=ui (hvX▸HP5.out.alloc (.cells #[.int .i64 a3,.int .i64 a4,.int .i64 a5,.slice none 0 0] 53))
     have HZX:Hid (vX.heap.size=v5.heap.size+1):=ui (by rw[hvX];simp)
     have HKX:Hid (KT (·=hb) v5 vX):=ui (hvX▸um ((Gr.refl v5).alloc _))
     have HVX:=ui hvX
     clear hvX
     go_wp2
     rw[<-HVX.out]
     go_loopw [12] (λi wr=>∃t:Nat,t<=k/\i=.int .i64 t/\∃y p,KT (·=hb) v5 wr/\Hand wr hb B A cap l (N+31+20*(m-j)+5+t)/\wr.heap[v5.heap.size]?=some (.cells #[.int .i64 a3,.int .i64 a4,.int .i64 a5,y] 53 (0,0))/\wr.ownsRow (v5.heap.size+1) 3 1 y (chosen p t).length ((chosen p t).map (Value.int .i64))) (λi _=>k-(intOf i).toNat)
     case atStart=>exact⟨0,by omega,rfl,_,λ_=>false,HKX.out,HPX.out.hand,HX0.out,World.ownsRow_nil _ _ _ _⟩
     case round =>
      obtain⟨t,ht,rfl,y,p,hkt,hh,hxo,hown⟩:=hrel
      have HK:=ui hkt
      have HO:=ui hown
      have HXO:=ui hxo
      have hzw:=hkt.size
      have hXl:=(Array.getElem?_eq_some_iff.1 hxo).1
      by_cases htk:t<k
      ·have HOD:=ui (px hb B A cap l _ 1 6 wr hh (by omega) (by omega))
       clear hh hkt hown hxo
       go_wp2_with fail
       refine HOD.out.mono ?_
       rintro e w8 ⟨⟨bo,rfl⟩,hh,hkt⟩
       have hXne:v5.heap.size≠hb:=by omega
       have HK8:=ui (HK.out.trans hkt)
       have hown8:=ld HO.out (show hb<v5.heap.size+1 by omega) hkt
       have hx8:=(hkt.block _ hXl hXne).trans HXO.out
       have HX8:=ui hx8
       have c8:=(cell_of_heap hx8 3).1
       have f8:=(cell_of_heap hx8 3).2
       have hXl8:=(Array.getElem?_eq_some_iff.1 hx8).1
       have HH8:=ui hh
       have HO8:=ui hown8
       obtain⟨p2,hp2⟩:∃p2:Nat->Bool,p2=λq=>if q=t then bo else p q:=⟨_,rfl⟩
       have HP:=ui (gW p2 t)
       have HPT:Hid (p2 t=bo):=ui (by rw[hp2];simp)
       have HP0:=ui (gq (p:=p2) (q:=p) (k:=t) λi hi=>by rw[hp2];exact if_neg (by omega))
       clear hp2
       have hcl:=ft p t
       have hz8:=HK8.out.size
       have hZX:=HZX.out
       clear hkt hh HOD hx8
       obtain⟨yA,yc,hyv,_⟩:=uq hown8
       subst hyv
       cases bo with
       |true =>
        clear hZX
        go_wp2_with (at_builtin;refine gD rfl _ _ rfl (v5.heap.size+1) _ _ _ rfl (hown8.alloc _) ⟨w8.heap.size,0,none⟩ 1 (.int .i64 t) rfl ?c1 rfl ?c2 ?c3 ?_)
        case c1=>first|(rw[Addr.add_lit,World.cell?_alloc_at _ _ _ _ (by simp)];rfl)|(rw[World.cell?_alloc_at _ _ _ _ (by simp)];rfl)
        case c2=>omega
        case c3=>simp;omega
        intro v' w9 hown' hgrow hd
        have hown9:w9.ownsRow (v5.heap.size+1) 3 1 v' (chosen p2 (t+1)).length ((chosen p2 (t+1)).map (Value.int .i64)):=by
         rw[HP.out,HP0.out,if_pos HPT.out];simpa using hown'
        obtain⟨A9,c9,hv9,_⟩:=uq hown9
        subst hv9
        have hx9:=(grown_old HO8.out hgrow v5.heap.size (by omega) hXl8).trans HX8.out
        have d9:=(cell_of_heap hx9 3).1
        have g9:=(cell_of_heap hx9 3).2
        have hl9:(chosen p t).length+1=(chosen p2 (t+1)).length:=by rw[HP.out,HP0.out,if_pos HPT.out];simp
        have HK9:=ui ((ee HK8.out HO8.out (by omega) hgrow hd).set (p:=⟨v5.heap.size,3,none⟩) (Nat.le_refl _) (.slice A9 (chosen p2 (t+1)).length c9))
        have HH9:=ui (((cY HH8.out HO8.out (by omega) hgrow).set (p:=⟨v5.heap.size,3,none⟩) hlt5 (.slice A9 (chosen p2 (t+1)).length c9)).more (M:=N+31+20*(m-j)+5+(t+1)) (by omega))
        have HX9:=ui (aH (i:=3) (u:=.slice A9 (chosen p2 (t+1)).length c9) hx9)
        have HO9:=ui (ownsRow_setCell_below hown9 (show(⟨v5.heap.size,3,none⟩:Addr).block<v5.heap.size+1 from Nat.lt_succ_self _) (.slice A9 (chosen p2 (t+1)).length c9))
        clear hown' hgrow hd hown9 hown8 hx9
        go_wp2
        go_roundw
        case rel=>exact⟨t+1,by omega,by go_num,_,_,HK9.out,HH9.out,HX9.out,HO9.out⟩
        case measure=>simp[intOf];omega
       |false =>
        have HO9:Hid (w8.ownsRow (v5.heap.size+1) 3 1 (.slice yA (chosen p t).length yc) (chosen p2 (t+1)).length ((chosen p2 (t+1)).map (Value.int .i64))):=ui (by
         rw[HP.out,HP0.out,if_neg (by rw[HPT.out];simp)];simpa using HO8.out)
        clear hown8
        go_wp2
        go_roundw
        case rel=>exact⟨t+1,by omega,by go_num,_,_,HK8.out,HH8.out,HX8.out,HO9.out⟩
        case measure=>simp[intOf];omega
      ·have htk2:t=k:=by omega
       subst htk2
       have HH9:=ui hh
       obtain⟨yA,yc,hyv,_⟩:=uq hown
       subst hyv
       have HPE:=ui (HP5.out.deal hh hkt)
       obtain⟨cu,fu,lu⟩:=HPE.out.cell
       have x0:=(cell_of_heap hxo 0).1
       have x1:=(cell_of_heap hxo 1).1
       have x2:=(cell_of_heap hxo 2).1
       have x3:=(cell_of_heap hxo 3).1
       have hh54:=HPE.out.herds
       have HOE:=ui (cD hown (show w.heap.size+2<=v5.heap.size+1 by have:=HP5.out.bs;omega))
       clear hh hkt hown hxo
       go_wp2_with (at_builtin;refine tV rfl _ _ rfl (w.heap.size+2) _ _ _ rfl (hh54.alloc _) ⟨wr.heap.size,0,none⟩ 1 [.int .i64 a3,.int .i64 a4,.int .i64 a5,.slice yA (chosen p t).length yc] rfl rfl ?c1 ?c2 ?c3 ?c4 ?_)
       case c1 =>
        intro q z hq
        rw[Addr.add_lit,Nat.zero_add,World.cell?_alloc_at _ _ _ _ (by simp)]
        match q,hq with
        |0,hq=>exact hq
        |1,hq=>exact hq
        |2,hq=>exact hq
        |3,hq=>exact hq
        |q+4,hq=>simp at hq
       case c2=>intro z hz;simp at hz;rcases hz with rfl|rfl|rfl|rfl<;>rfl
       case c3=>omega
       case c4=>have:=HPE.out.bs.2;simp;omega
       intro u' w9 hown' hgrow hd
       obtain⟨gU,cU,rfl,_,_⟩:=hown'.form (by omega)
       have HPN:=ui (HPE.out.push (x:=⟨a3,a4,a5,chosen p t⟩) HOE.out (by rw[hhl];exact hown') hgrow hd)
       have hq9:=(grown_old HPE.out.herds hgrow (w.heap.size+1) (by omega) (Array.getElem?_eq_some_iff.1 HPE.out.qobj).1).trans HPE.out.qobj
       have cq:=(cell_of_heap hq9 1).1
       have fq:=(cell_of_heap hq9 1).2
       have HHN:Hid (∀h∈hs++[(⟨a3,a4,a5,chosen p t⟩:Herder)],herdE ns.length h=0):=ui λh hh=>by
        rcases List.mem_append.1 hh with hh|hh
        ·exact HHS.out h hh
        ·simp only[List.mem_cons,List.not_mem_nil,or_false] at hh
         subst hh
         unfold herdE
         rw[if_pos (by simp[inR];omega),hnl]
         exact jJ p t
       clear hown' hgrow hd hh54 hq9
       go_wp2
       go_roundw
       case rel=>exact⟨j-1,by omega,by go_num,_,_,_,HPN.out.more (by omega),by simp[hhl];omega,HHN.out⟩
       case measure=>simp[intOf];omega
    ·have hj00:j=0:=by omega
     subst hj00
     obtain⟨nA,nc,hA,hc,rfl,rfl,hN1,hH1⟩:=HP.out.camp
     have HR1:=ui hN1
     have HR2:=ui hH1
     have q0:=(cell_of_heap HP.out.qobj 0).1
     have q1:=(cell_of_heap HP.out.qobj 1).1
     have r0:=(cell_of_heap HP.out.robj 0).1
     have r1:=(cell_of_heap HP.out.robj 1).1
     have g0:=(cell_of_heap HP.out.robj 0).2
     have g1:=(cell_of_heap HP.out.robj 1).2
     have HCE:Hid (checkE ⟨ns,hs⟩=0):=ui (by
      unfold checkE
      have e1:manyE (ns.length:Int) 1 5=0:=cm.2 (by omega)
      have e2:manyE (hs.length:Int) 1 4=0:=cm.2 (by omega)
      rw[if_neg (by simp[e1]),if_neg,if_neg (by simp[e2])]
      ·exact bB.2 fun x hx => by
        obtain⟨h,hh,rfl⟩:=List.mem_map.1 hx
        exact HHS.out h hh
      ·have : (ns.all fun x => inR x 0 12) = true := List.all_eq_true.2 fun x hx => by
        have:=HNS.out x hx
        simp[inR];omega
       rw[this];simp)
     have hhm:hs.length=m:=by omega
     have HKF:Hid (KT (·=hb) w ((wq.setCell ⟨w.heap.size,0,none⟩ (.slice nA k nc)).setCell ⟨w.heap.size,1,none⟩ (.slice hA m hc))):=ui ((HP.out.kt.set (p:=⟨w.heap.size,0,none⟩) (Nat.le_refl _) _).set (p:=⟨w.heap.size,1,none⟩) (Nat.le_refl _) _)
     have HHF:Hid (Hand ((wq.setCell ⟨w.heap.size,0,none⟩ (.slice nA k nc)).setCell ⟨w.heap.size,1,none⟩ (.slice hA m hc)) hb B A cap l (N+1000)):=ui (((HP.out.hand.set (p:=⟨w.heap.size,0,none⟩) hlt _).set (p:=⟨w.heap.size,1,none⟩) hlt _).more (by omega))
     have HRF:Hid (RIK ((wq.setCell ⟨w.heap.size,0,none⟩ (.slice nA k nc)).setCell ⟨w.heap.size,1,none⟩ (.slice hA m hc)) (λb=>w.heap.size<=b/\b<((wq.setCell ⟨w.heap.size,0,none⟩ (.slice nA k nc)).setCell ⟨w.heap.size,1,none⟩ (.slice hA m hc)).heap.size) nA ns):=ui (de hN1 (λb hb'=>⟨by omega,by have:=hb'.2;simpa [World.setCell] using this⟩) λb o hb'=>(World.cell?_of_block (Below.heap_setCell _ _ _ _ (by show b≠w.heap.size;omega))).trans (World.cell?_of_block (Below.heap_setCell _ _ _ _ (by show b≠w.heap.size;omega))))
     have HRG:Hid (HsAtK ((wq.setCell ⟨w.heap.size,0,none⟩ (.slice nA k nc)).setCell ⟨w.heap.size,1,none⟩ (.slice hA m hc)) (λb=>w.heap.size<=b/\b<((wq.setCell ⟨w.heap.size,0,none⟩ (.slice nA k nc)).setCell ⟨w.heap.size,1,none⟩ (.slice hA m hc)).heap.size) hA hs):=ui (ir hH1 (λb hb'=>⟨by omega,by have:=hb'.2;simpa [World.setCell] using this⟩) λb o hb'=>(World.cell?_of_block (Below.heap_setCell _ _ _ _ (by show b≠w.heap.size;omega))).trans (World.cell?_of_block (Below.heap_setCell _ _ _ _ (by show b≠w.heap.size;omega))))
     clear hN1 hH1
     go_wp2
     have s1:=World.cell?_setCell_same (wq.setCell ⟨w.heap.size,0,none⟩ (.slice nA k nc)) ⟨w.heap.size,1,none⟩ (.slice hA m hc) ((World.cell?_setCell_other wq ⟨w.heap.size,0,none⟩ ⟨w.heap.size,1,none⟩ (.slice nA k nc) (by simp)).trans r1)
     have s0:=(World.cell?_setCell_other (wq.setCell ⟨w.heap.size,0,none⟩ (.slice nA k nc)) ⟨w.heap.size,1,none⟩ ⟨w.heap.size,0,none⟩ (.slice hA m hc) (by simp)).trans (World.cell?_setCell_same wq ⟨w.heap.size,0,none⟩ (.slice nA k nc) r0)
     refine bodyPost_ret (v:=.agg #[.slice nA k nc,.slice hA m hc]) (by simp[results,Tryz.results5,go_sem,s0,s1]) rfl ⟨⟨ns,hs⟩,nA,hA,nc,hc,by rw[<-hnl,<-hhm];rfl,Camp.Ok.of HCE.out,HCE.out,HRF.out,HRG.out,HHF.out,HKF.out⟩
open Go.RowKit Go.Sq
def sv (nA hA gA rA:Option Addr)(nc hc gc rc:Nat)(c:Camp)(ls:List (List Int))(rs:List (Int×Int))(w:World)(B:Nat)(hB:B<=w.heap.size)(hn:RI w B nA c.needs)(hh:HsAt w B hA c.herders)(hg:GrAt w B gA ls)(hr:RsAt w B rA rs)
  (hl1:c.needs.length<=4611686018427387904) (hl2:c.herders.length<=4611686018427387904) (hlo:∀h∈c.herders,h.off.length<=4611686018427387904) (hl3:ls.length<=4611686018427387904) (hl4:∀x∈ls,x.length<=4611686018427387904) (hl5:rs.length<=1048576) (hrc:rs.length<=rc)
  (hF:formedE c ls=0) (hR:dx c.needs.length rs=0) :
  Calls uZ 11 #[campV nA hA c nc hc,.slice gA ls.length gc,.slice rA rs.length rc] w λe w'=>Gr w w'/\∃A k,e=.returned (.tuple #[.slice A rs.length k,.int .i64 0])/\RIK w' (λb=>w.heap.size<=b/\b<w'.heap.size) A (takenL c (rosOf ls) c.needs.length rs):=by
 unfold campV
 obtain⟨W0,hW0⟩:∃W0:World,W0=w.alloc (.cells #[.slice nA c.needs.length nc,.slice hA c.herders.length hc] 27):=⟨_,rfl⟩
 have hg0:Gr w W0:=hW0▸(Gr.refl w).alloc _
 have hz0:W0.heap.size=w.heap.size+1:=by rw[hW0];simp
 have HW:=ui hW0
 have hrd:=kW nA hA gA rA nc hc gc rc c ls rs W0 B (by omega) (hn.gr hB hg0) (hh.keep λb o hb=>hg0.cell (Nat.lt_of_lt_of_le hb hB)) (hg.gr hB hg0) (hr.gr hB hg0) hl1 hl2 hlo hl3 hl4 (by omega) hrc hF hR
 unfold campV at hrd
 have HRD:=ui hrd
 have HG0:=ui hg0
 have HRS:=ui (hr.gr hB hg0)
 have HC1:Hid (W0.cell? ⟨w.heap.size,1,none⟩=some (.slice hA c.herders.length hc)):=ui (by rw[hW0,World.cell?_alloc_at _ _ _ _ rfl];rfl)
 have HFE:=ui hF
 have HOK:=ui (Camp.Ok.of (show checkE c=0 by
  have:=hF
  unfold formedE at this
  split at this
  ·exact absurd this (by assumption)
  ·simpa using ‹¬checkE c≠0›))
 have HRZ:=ui (gi hR)
 clear hW0 hg0 hrd hn hh hg hr hl4 hlo hF hR
 go_enter Sq.func11,Tryz.ntmps11
 go_wp2_with fail
 rw[<-HW.out]
 refine HRD.out.mono ?_
 rintro e w1 ⟨hg1,cb,A,ka,rfl,hcp,hri⟩
 obtain⟨W1,hW1⟩:∃W1:World,W1=w1.alloc (.cells #[.int .u8 (rosOf ls 0),.int .u8 (rosOf ls 1),.int .u8 (rosOf ls 2),.int .u8 (rosOf ls 3),.int .u8 (rosOf ls 4)] 59):=⟨_,rfl⟩
 have hg1':Gr w1 W1:=hW1▸(Gr.refl w1).alloc _
 have hz1:W1.heap.size=w1.heap.size+1:=by rw[hW1];simp
 have hzz:=hg1.size
 have hh4:=HOK.out.h4
 have hn5:=HOK.out.n5
 obtain⟨Wz,hWz⟩:∃Wz:World,Wz=W1.alloc (.cells (zerosA c.needs.length) 3):=⟨_,rfl⟩
 have hgz:Gr W1 Wz:=hWz▸(Gr.refl W1).alloc _
 have hzz2:Wz.heap.size=w1.heap.size+2:=by rw[hWz];simp;omega
 have HN0:Hid (Nums Wz (w1.heap.size+1) c.needs.length λ_=>0):=ui (hz1▸hWz▸qM W1 c.needs.length)
 have HG1:=ui ((hg1.trans hg1').trans hgz)
 have hcz:=hcp.on (hg1'.trans hgz)
 have HRC:Hid (∀i,i<5->W1.cell? ⟨w1.heap.size,i,none⟩=some (.int .u8 (rosOf ls i:Nat))):=ui λi hi=>by
  rw[hW1,World.cell?_alloc_at _ _ _ _ (by simp)]
  match i,hi with
  |0,_=>rfl
  |1,_=>rfl
  |2,_=>rfl
  |3,_=>rfl
  |4,_=>rfl
 have hws:∀x∈wolvesL c.needs.length rs rs.length,0<=x/\x<=60:=λx hx=>by
  obtain⟨j,_,rfl⟩:=List.mem_map.1 hx
  exact gQ HRZ.out _ _ (Nat.le_refl _)
 have hlos:=fp cb nA hA A nc hc ka c (rosOf ls) (wolvesL c.needs.length rs rs.length) Wz hcz HOK.out (cJ HFE.out) hws (by rw[bi];exact HOK.out.n5) ((hri.gr (Nat.le_refl _) (hg1'.trans hgz)).more (by omega))
 rw[bi] at hlos
 have hll:=bM HOK.out (rosOf ls) (wolvesL c.needs.length rs rs.length)
 have HLN:Hid (∀q∈lossesL c (rosOf ls) (wolvesL c.needs.length rs rs.length),0<=q.1/\q.1<c.needs.length/\0<=q.2/\q.2<c.herders.length):=ui λq hq=>by
  have:=(gh HOK.out (rosOf ls) (wolvesL c.needs.length rs rs.length)).night q hq
  rwa [bi] at this
 have HRES:Hid (takenL c (rosOf ls) c.needs.length rs=rs.map λx=>(cntBy (·.1) (lossesL c (rosOf ls) (wolvesL c.needs.length rs rs.length)) x.1:Int)):=ui rfl
 obtain⟨L,hL⟩:∃L,L=lossesL c (rosOf ls) (wolvesL c.needs.length rs rs.length):=⟨_,rfl⟩
 rw[<-hL] at hlos hll HLN HRES
 clear hL
 have HLOS:=ui hlos
 have hrc1:∀i,i<5->Wz.cell? ⟨w1.heap.size,i,none⟩=some (.int .u8 (rosOf ls i:Nat)):=λi hi=>(hgz.cell (by show w1.heap.size<_;omega)).trans (HRC.out i hi)
 obtain⟨a0,a1,a2,a3,a4⟩:=RosC5 hrc1
 have hwl:w.heap.size<w1.heap.size:=by omega
 have hwz:w1.heap.size<Wz.heap.size:=by omega
 have hmk:=λw=>ge c.needs.length w (by omega)
 have HW1:=ui hW1
 have HWz:=ui hWz
 have HZ1:=ui hz1
 have hzx:=hzz2
 clear hg1 hcp hri hg1' HRD hW1 hWz hgz hcz hlos hrc1 hws hzz2 hz1
 unfold rosV at *
 go_wp2_with fail
 rw[<-HW1.out,<-HWz.out]
 refine HLOS.out.mono ?_
 rintro e w2 ⟨v,rfl,hown2,hg2⟩
 obtain⟨A2,k2,rfl,hrs⟩:=RsK_of_own hown2
 have HLS:=ui hrs
 have HG2:=ui (HG1.out.trans hg2)
 have HN2:=ui ((HN0.out.gr hg2).congr (V':=λh=>(cntBy (·.1) (L.take 0) (h:Int):Int)) λq _=>by simp[cntBy])
 have hz2:=hg2.size
 clear hown2 hg2 hrs a0 a1 a2 a3 a4 HLOS HN0
 go_wp2
 go_loopw [38] (λi wr=>∃k:Nat,k<=L.length/\i=.int .i64 k/\Gr W0 wr/\Nums wr (w1.heap.size+1) c.needs.length (λh=>(cntBy (·.1) (L.take k) (h:Int):Int))/\w2.heap.size<=wr.heap.size/\∀b,b<w2.heap.size->b≠w1.heap.size+1->wr.heap[b]?=w2.heap[b]?) (λi _=>L.length-(intOf i).toNat)
 case atStart=>exact⟨0,by omega,rfl,HG2.out,HN2.out,Nat.le_refl _,λ_ _ _=>rfl⟩
 case round =>
  obtain⟨k,hk,rfl,hgr,hnm,hzr,hkr⟩:=hrel
  have HGR:=ui hgr
  have HNM:=ui hnm
  have HKR:=ui hkr
  by_cases hlk:k<L.length
  ·have hln:=HLN.out _ (List.getElem_mem hlk)
   have hget:L[k]?.getD (0,0)=L[k]:=by rw[List.getElem?_eq_getElem hlk];rfl
   obtain⟨b,o,rfl,hbK,hcl⟩:=HLS.out (λe=>by rw[e] at hlk;simp at hlk)
   obtain⟨h1,h2⟩:=hcl k _ (List.getElem?_eq_getElem hlk)
   have d1:=(World.cell?_of_block (a:=⟨b,o+k*2,none⟩) (hkr b hbK.2 (by have:=hbK.1;omega))).trans h1
   have d2:=(World.cell?_of_block (a:=⟨b,o+k*2+1,none⟩) (hkr b hbK.2 (by have:=hbK.1;omega))).trans h2
   rw[<-hget] at hln d1 d2
   have HCN:=ui (λt:Int=>nL (·.1) L k hlk t)
   have hcb:=λt:Int=>nM (·.1) L k t
   generalize L[k]?.getD (0,0)=q at hln d1 d2 HCN
   obtain⟨q1,q2⟩:=q
   dsimp only at hln d1 d2 HCN
   obtain⟨qn,rfl⟩:∃j:Nat,q1=j:=⟨q1.toNat,by omega⟩
   obtain⟨qf,rfl⟩:∃j:Nat,q2=j:=⟨q2.toNat,by omega⟩
   have hqx:qn<c.needs.length:=by omega
   obtain⟨e1,e2⟩:=(hnm.gr ((Gr.refl wr).alloc (.cells #[.int .i64 (qn:Int),.int .i64 (qf:Int)] 70))).at_ qn hqx
   have hbb:=hcb qn
   have HSET:Hid (Nums ((wr.alloc (.cells #[.int .i64 (qn:Int),.int .i64 (qf:Int)] 70)).setCell ⟨w1.heap.size+1,qn,none⟩ (.int .i64 ((cntBy (·.1) (L.take k) (qn:Int):Int)+1))) (w1.heap.size+1) c.needs.length (λh=>(cntBy (·.1) (L.take (k+1)) (h:Int):Int))):=ui ((hnm.gr ((Gr.refl wr).alloc _)).set hqx _ λq _=>by
    rw[HCN.out]
    by_cases e:q=qn
    ·subst e;rw[if_pos rfl,if_pos rfl];rfl
    ·rw[if_neg e,if_neg (by omega)];rfl)
   have HGF:=ui (λv=>(hgr.alloc (.cells #[.int .i64 (qn:Int),.int .i64 (qf:Int)] 70)).setCell (p:=⟨w1.heap.size+1,qn,none⟩) (by show _<=w1.heap.size+1;omega) v)
   have HKF:=ui (λ(v:Value) (b:Nat) (hb:b<w2.heap.size) (hne:b≠w1.heap.size+1)=>(Below.heap_setCell (wr.alloc (.cells #[.int .i64 (qn:Int),.int .i64 (qf:Int)] 70)) ⟨w1.heap.size+1,qn,none⟩ v b hne).trans ((heap_alloc_old _ _ (Nat.lt_of_lt_of_le hb hzr)).trans (hkr b hb hne)))
   clear hgr hnm hkr hcl h1 h2 hget hcb
   generalize (cntBy (·.1) (L.take k) (qn:Int))=V at e1 hbb HSET
   go_wp2
   go_roundw
   case rel=>exact⟨k+1,by omega,by go_num,HGF.out _,HSET.out,by simp[World.setCell];omega,HKF.out _⟩
   case measure=>simp[intOf];omega
  ·have hkn:k=L.length:=by omega
   subst hkn
   obtain⟨T,hT⟩:∃T,T=takenL c (rosOf ls) c.needs.length rs:=⟨_,rfl⟩
   have HTL:Hid (T.length=rs.length):=ui (by rw[hT];simp[takenL])
   have HTA:Hid (∀k,k<rs.length->T[k]?=some (cntBy (·.1) L (rs[k]?.getD (0,0)).1:Int)):=ui λk hk=>by
    rw[hT,HRES.out,List.getElem?_map,List.getElem?_eq_getElem hk];rfl
   have HTE:=ui hT
   rw[List.take_length] at hnm
   obtain⟨w3,rfl⟩:∃w3,w3=wr:=⟨_,rfl⟩
   have HF:=ui hnm
   have HG3:=ui hgr
   have hz30:=hgr.size
   have hz31:=hnm.lt
   clear hgr hnm hkr hT HNM
   go_wp2
   go_loopw [15,52] (λv i wr=>∃k:Nat,k<=rs.length/\i=.int .i64 k/\Gr w3 wr/\wr.ownsRow w3.heap.size 3 1 v (T.take k).length ((T.take k).map (Value.int .i64))) (λ_ i _=>rs.length-(intOf i).toNat)
   case atStart=>exact⟨0,by omega,rfl,.refl _,World.ownsRow_nil _ _ _ _⟩
   case round =>
    obtain⟨k,hk,rfl,hgr,hown⟩:=hrel
    have HGR:=ui hgr
    have HO:=ui hown
    have hzr2:=hgr.size
    by_cases hlt:k<rs.length
    ·obtain⟨b,o,rfl,hb,h1,h2⟩:=(HRS.out.gr (by omega) (HG3.out.trans hgr)).at_ hlt
     have hro:=(kV (HRZ.out k hlt)).1
     have HTK:=ui (HTA.out k hlt)
     generalize rs[k]?.getD (0,0)=x at h1 h2 hro HTK
     obtain⟨xn,xv⟩:=x
     dsimp only at h1 h2 hro HTK
     obtain⟨j,rfl⟩:∃j:Nat,xn=j:=⟨xn.toNat,by simp[inR] at hro;omega⟩
     have hjn:j<c.needs.length:=by simp[inR] at hro;omega
     obtain⟨e1,_⟩:=(HF.out.gr (hgr.alloc (.cells #[.int .i64 (j:Int),.int .i64 xv] 40))).at_ j hjn
     have hbb:=cX (·.1) L (j:Int)
     have HTS:Hid (T.take (k+1)=T.take k++[(cntBy (·.1) L (j:Int):Int)]):=ui (by rw[List.take_add_one,HTK.out];rfl)
     have hlen:(T.take k).length<=k:=by rw[List.length_take];omega
     generalize (cntBy (·.1) L (j:Int))=V at e1 hbb HTS
     generalize T.take k=M at hown HO HTS hlen
     have hown1:=(hown.alloc (.cells #[.int .i64 (j:Int),.int .i64 xv] 40)).alloc (.cells #[.int .i64 (V:Int)] 3)
     clear hgr hown
     go_wp2_with (at_builtin;refine gD rfl _ _ rfl w3.heap.size _ _ _ rfl hown1 ⟨wr.heap.size+1,0,none⟩ 1 (.int .i64 V) rfl ?c1 rfl ?c2 ?c3 ?_)
     case c1=>rw[World.cell?_alloc_at _ _ _ _ (by simp)];rfl
     case c2=>omega
     case c3=>simp;omega
     intro v' w4 hown' hgrow hd
     have HG4:=ui (((HGR.out.alloc _).alloc _).grown hgrow hd λq hq=>(HO.out.lt q hq).1)
     have HO4:Hid (w4.ownsRow w3.heap.size 3 1 v' (T.take (k+1)).length ((T.take (k+1)).map (Value.int .i64))):=ui (by rw[HTS.out];simpa using hown')
     clear hown' hgrow hd hown1
     go_wp2
     go_roundw
     case rel=>exact⟨k+1,by omega,by go_num,HG4.out,HO4.out⟩
     case measure=>simp[intOf];omega
    ·have hkn:k=rs.length:=by omega
     subst hkn
     have HGF:=ui (HG0.out.trans (HG3.out.trans hgr))
     rw[<-HTL.out,List.take_length] at hown
     have HFO:=ui (RIK_of_own hown)
     obtain⟨A9,k9,rfl,hri⟩:=HFO.out
     rw[HTE.out] at hri
     have HR9:=ui (de hri (K':=λb=>w.heap.size<=b/\b<wr.heap.size) (λb hb=>⟨by have:=hb.1;omega,hb.2⟩) λ_ _ _=>rfl)
     rw[HTL.out]
     clear hgr hown HFO hri HO
     go_wp2
     go_ret2
     exact⟨HGF.out,_,_,rfl,HR9.out⟩
open Go.RowKit Go.Sq
def gX {w:World}{ops:Array Oper}{o:Oper}{a:Act}{K:Act->World->Prop}{Q:Exit->Act->World->Prop}{E:Prop}(hgd:o.guard=none)(s x:Operand)(ho:o.op=.call { callee:=.builtin .append,args:=#[s,x],argTypes:=#[22,22] })(hty:o.type=22)
  (base:Nat) (v:Value) (n:Nat) (xs:List Value) (hs:a.eval s=v) (hown:w.ownsRow base 3 1 v n xs) (ad:Addr) (c:Nat) (y:Value) (hx:a.eval x=.slice (some ad) 1 c) (hc:w.cell? ad=some y) (h1:y.oneCell'=true) (hn:n<=1048576) (hbase:base<=w.heap.size)
  (h:∀v' w',w'.ownsRow base 3 1 v' (n+1) (xs++[y])->w.grownBy w' v.ownBlock->w.drawn<=w'.drawn->(v'.ownBlock=v.ownBlock\/v'.ownBlock=some w.heap.size)->K (a.put o.dst v') w') :
  if Region.wanted o (yielded ops a.tmps)=true then Oper.wp uZ o a w K Q else E:=by
 have hw:Region.wanted o (yielded ops a.tmps)=true:=by simp[Region.wanted,hgd]
 rw[if_pos hw]
 obtain⟨i0,hi,hz0,hz1,hz2⟩:=info_parts uv
 obtain⟨v',w',hr,h2,h3,_,h5⟩:=run_append_own_at (P:=uZ) w base 22 22 3 i0 _ 1 8 ((Sq.underlying 22).trans Tryz.underlying22) hi hz0 hz1 hz2 rfl (by decide) v n xs hown ad 1 c [y] rfl (λj u hj=>by
  match j,hj with
  |0,hj =>
   cases hj
   have:ad.add 0=ad:=by unfold Addr.add;split<;>simp_all
   rw[this];exact hc) (λu hu=>by simp at hu;subst hu;exact h1) (by unfold maxLen;omega) (by omega) hbase
 have hd:=Go.Iso.drawn_mono uZ (Builtin.append_ #[22,22] 22 #[v,.slice (some ad) 1 c]) w #[]
 rw[Sem.runT_fst,hr] at hd
 unfold Oper.wp execOp
 simp only[ho,resolve,invoke,builtin,Sem.run_bind,Sem.run_pure,Result.andThen_ok,List.map_toArray,List.map_cons,List.map_nil,hs,hx,hr,hty]
 exact h v' w' h2 h3 hd h5
def sx {w:World}{b o:Nat}{v:Value}(h:w.cell? ⟨b,o,none⟩=some v):b<w.heap.size:=by
 by_cases hb:b<w.heap.size
 ·exact hb
 ·simp[World.cell?,Array.getElem?_eq_none (Nat.not_lt.1 hb)] at h
def ey (w:World)(p:Addr):w.drew.cell? p=w.cell? p:=rfl
def cell_grown {w w':World}{row:Option Nat}(hg:w.grownBy w' row){b o:Nat}{v:Value}(hb:b<w.heap.size)(hne:some b≠row)(h:w.cell? ⟨b,o,none⟩=some v):w'.cell? ⟨b,o,none⟩=some v:=(hg.cell_far ⟨b,o,none⟩ hb hne).trans h
structure TwoRows (w0:World)(base:Nat)(v1 v2:Value)(l1 l2:List Int)(W:World):Prop where
 gr:Gr w0 W
 bs:w0.heap.size<=base
 own1:W.ownsRow base 3 1 v1 l1.length (l1.map (Value.int .i64))
 own2:W.ownsRow base 3 1 v2 l2.length (l2.map (Value.int .i64))
 apart:∀g,v1.ownBlock=some g->v2.ownBlock≠some g
def TwoRows.swap {w0 W:World}{base:Nat}{v1 v2:Value}{l1 l2:List Int}(h:TwoRows w0 base v1 v2 l1 l2 W):TwoRows w0 base v2 v1 l2 l1 W:=⟨h.gr,h.bs,h.own2,h.own1,λg h1 h2=>h.apart g h2 h1⟩
def TwoRows.alloc {w0 W:World}{base:Nat}{v1 v2:Value}{l1 l2:List Int}(h:TwoRows w0 base v1 v2 l1 l2 W)(o:Obj):TwoRows w0 base v1 v2 l1 l2 (W.alloc o):=⟨h.gr.alloc _,h.bs,h.own1.alloc _,h.own2.alloc _,h.apart⟩
def TwoRows.drew {w0 W:World}{base:Nat}{v1 v2:Value}{l1 l2:List Int}(h:TwoRows w0 base v1 v2 l1 l2 W):TwoRows w0 base v1 v2 l1 l2 W.drew:=⟨h.gr.drew,h.bs,own_keep h.own1 λ_ _ _=>rfl,own_keep h.own2 λ_ _ _=>rfl,h.apart⟩
def TwoRows.push {w0 W W':World}{base:Nat}{v1 v2 v':Value}{l1 l2:List Int}(h:TwoRows w0 base v1 v2 l1 l2 W){x:Int}(hown:W'.ownsRow base 3 1 v' (l1.length+1) (l1.map (Value.int .i64)++[.int .i64 x]))(hg:W.grownBy W' v1.ownBlock)(hd:W.drawn<=W'.drawn)(hl:v'.ownBlock=v1.ownBlock\/v'.ownBlock=some W.heap.size) :
  TwoRows w0 base v' v2 (l1++[x]) l2 W':=by
 have e:(l1++[x]).length=l1.length+1:=by simp
 refine⟨h.gr.grown hg hd λq hq=>Nat.le_trans h.bs (h.own1.lt q hq).1,h.bs,by rw[e];simpa using hown,own_keep h.own2 λg h1 h2=>hg.block g h2 λe=>h.apart g e.symm h1,λg h1 h2=>?_⟩
 rcases hl with hl|hl
 ·exact h.apart g (hl▸h1) h2
 ·have:=(h.own2.lt g h2).2
  rw[h1] at hl
  injection hl with hl
  omega
def pA {rs:List (Int×Int)}(h:∀q∈rs,0<=q.1/\q.1<=q.2/\q.2<=60):(∀x∈rs.map (·.1),0<=x/\x<=60)/\∀x∈rs.map (·.2),0<=x/\x<=60:=by
 constructor
 all_goals
  intro x hx
  obtain⟨q,hq,rfl⟩:=List.mem_map.1 hx
  have:=h q hq
  exact⟨by omega,by omega⟩
def jK {wr:World}{base:Nat}{A:Option Addr}{l:List Int}(h:RIK wr (λb=>base<=b/\b<wr.heap.size) A l)(W:World)(hW:Gr wr W):RI W W.heap.size A l :=
 (de h (K':=λb=>b<W.heap.size) (λb hb=>Nat.lt_of_lt_of_le hb.2 hW.size) λb o hb=>hW.cell hb.2).ri λb hb=>hb
def qO (nA hA gA rA:Option Addr)(nc hc gc rc:Nat)(c:Camp)(ls:List (List Int))(rs:List (Int×Int))(w:World)(B:Nat)(hB:B<=w.heap.size)(hn:RI w B nA c.needs)(hh:HsAt w B hA c.herders)(hg:GrAt w B gA ls)(hr:RsAt w B rA rs)
  (hl1:c.needs.length<=4611686018427387904) (hl2:c.herders.length<=4611686018427387904) (hlo:∀h∈c.herders,h.off.length<=4611686018427387904) (hl3:ls.length<=4611686018427387904) (hl4:∀x∈ls,x.length<=4611686018427387904) (hl5:rs.length=c.needs.length)
  (hF:formedE c ls=0) (hR:∀q∈rs,0<=q.1/\q.1<=q.2/\q.2<=60) :
  Calls uZ 10 #[campV nA hA c nc hc,.slice gA ls.length gc,.slice rA rs.length rc] w λe w'=>Gr w w'/\e=.returned (.tuple #[.agg #[.int .i64 (lossesL c (rosOf ls) (rs.map (·.1))).length,.int .i64 (lossesL c (rosOf ls) (rs.map (·.2))).length],.int .i64 0]):=by
 unfold campV
 obtain⟨W0,hW0⟩:∃W0:World,W0=(w.alloc (.cells #[.slice nA c.needs.length nc,.slice hA c.herders.length hc] 27)).alloc (.cells #[.int .i64 0,.int .i64 0] 37):=⟨_,rfl⟩
 have hg0:Gr w W0:=hW0▸((Gr.refl w).alloc _).alloc _
 have hz0:W0.heap.size=w.heap.size+2:=by rw[hW0];simp
 have HW:=ui hW0
 have hform:=il nA hA gA nc hc gc c ls W0 B (by omega) (hn.gr hB hg0) (hh.keep λb o hb=>hg0.cell (Nat.lt_of_lt_of_le hb hB)) (hg.gr hB hg0) hl1 hl2 hlo hl3 hl4
 unfold campV at hform
 have HFORM:=ui hform
 have HG0:=ui hg0
 have HRS:=ui (hr.gr hB hg0)
 have HR:=ui hR
 have HC0:Hid (W0.cell? ⟨w.heap.size,0,none⟩=some (.slice nA c.needs.length nc)):=ui (by rw[hW0,World.cell?_alloc_past _ _ _ (by simp),World.cell?_alloc_at _ _ _ _ rfl];rfl)
 have HC6:Hid (∀i,i<2->W0.cell? ⟨w.heap.size+1,i,none⟩=some (.int .i64 0)/\W0.frozen? ⟨w.heap.size+1,i,none⟩=false):=ui λi hi=>by
  rw[hW0,World.cell?_alloc_at _ _ _ _ (by simp),World.frozen?_alloc_at _ _ _ _ (by simp)]
  match i,hi with
  |0,_=>exact⟨rfl,rfl⟩
  |1,_=>exact⟨rfl,rfl⟩
 have HFE:=ui hF
 have HOK:=ui (Camp.Ok.of (show checkE c=0 by
  have:=hF
  unfold formedE at this
  split at this
  ·exact absurd this (by assumption)
  ·simpa using ‹¬checkE c≠0›))
 clear hW0 hg0 hform hn hh hg hr hl4 hlo hF hR
 go_enter Sq.func10,Tryz.ntmps10
 go_wp2_with fail
 rw[<-HW.out]
 refine HFORM.out.mono ?_
 rintro e w1 ⟨hg1,hform⟩
 rw[if_pos HFE.out] at hform
 obtain⟨cb,g,cap,rfl,hcb,hcg,hK⟩:=hform
 have hn5:=HOK.out.n5
 have hn1:=HOK.out.n1
 obtain⟨W1,hW1⟩:∃W1:World,W1=w1.alloc (.cells #[.int .u8 (rosOf ls 0),.int .u8 (rosOf ls 1),.int .u8 (rosOf ls 2),.int .u8 (rosOf ls 3),.int .u8 (rosOf ls 4)] 60):=⟨_,rfl⟩
 have hg1':Gr w1 W1:=hW1▸(Gr.refl w1).alloc _
 have hz1:W1.heap.size=w1.heap.size+1:=by rw[hW1];simp
 have hzz:=hg1.size
 have hG1:Gr W0 W1:=hg1.trans hg1'
 have HG1:=ui hG1
 have HRC:Hid (∀i,i<5->W1.cell? ⟨w1.heap.size,i,none⟩=some (.int .u8 (rosOf ls i:Nat))):=ui λi hi=>by
  rw[hW1,World.cell?_alloc_at _ _ _ _ (by simp)]
  match i,hi with
  |0,_=>rfl
  |1,_=>rfl
  |2,_=>rfl
  |3,_=>rfl
  |4,_=>rfl
 have HC1:Hid (W1.cell? ⟨w.heap.size,0,none⟩=some (.slice nA c.needs.length nc)):=ui ((hG1.cell (by show w.heap.size<_;omega)).trans HC0.out)
 have HCP:Hid (CampP W1 W1.heap.size cb c nA hA nc hc):=ui (hK.campP.on hg1')
 have HW1:=ui hW1
 have hc0:w1.cell? ⟨w.heap.size,0,none⟩=some (.slice nA c.needs.length nc):=(hg1.cell (by show w.heap.size<_;omega)).trans HC0.out
 have hwl:w.heap.size<w1.heap.size:=by omega
 have HMANY:Hid (∀W,Calls uZ 18 #[.int .i64 c.needs.length,.int .i64 c.needs.length,.int .i64 c.needs.length] W λe w'=>e=.returned (.int .i64 0)/\W=w'):=ui λW=>by
  have:=eP c.needs.length c.needs.length c.needs.length W
  rwa [show manyE c.needs.length c.needs.length c.needs.length=0 by simp[manyE]] at this
 clear hg1 hK hg1' hG1 HFORM hW1
 unfold rosV
 go_wp2_with fail
 rw[<-HW1.out]
 refine(HMANY.out _).mono ?_
 rintro e w' ⟨rfl,rfl⟩
 go_wp2
 go_loopw [12,13,42] (λv1 v2 i wr=>∃k:Nat,k<=c.needs.length/\i=.int .i64 k/\TwoRows W1 W1.heap.size v1 v2 ((rs.take k).map (·.1)) ((rs.take k).map (·.2)) wr) (λ_ _ i _=>c.needs.length-(intOf i).toNat)
 case atStart=>exact⟨0,by omega,rfl,.refl _,Nat.le_refl _,World.ownsRow_nil _ _ _ _,World.ownsRow_nil _ _ _ _,λg h=>by cases h⟩
 case round =>
  obtain⟨k,hk,rfl,htw⟩:=hrel
  have HTW:=ui htw
  have hgz:=htw.gr.size
  clear htw
  by_cases hlt:k<c.needs.length
  ·have hltr:k<rs.length:=by omega
   obtain⟨b,o,rfl,hb,h1,h2⟩:=(HRS.out.gr (by omega) (HG1.out.trans HTW.out.gr)).at_ hltr
   have hro:=HR.out _ (List.getElem_mem hltr)
   have HTK:Hid (rs.take (k+1)=rs.take k++[rs[k]?.getD (0,0)]):=ui (by rw[List.take_add_one,List.getElem?_eq_getElem hltr];rfl)
   have hget:rs[k]?.getD (0,0)=rs[k]:=by rw[List.getElem?_eq_getElem hltr];rfl
   rw[<-hget] at hro
   clear hget
   generalize rs[k]?.getD (0,0)=x at h1 h2 hro HTK
   obtain⟨xa,xb⟩:=x
   dsimp only at h1 h2 hro
   have HB1:Hid (∀W,Calls uZ 19 #[.int .i64 xa,.int .i64 0,.int .i64 60] W λe w'=>e=.returned (.bool true)/\W=w'):=ui λW=>by
    have:=aZ xa 0 60 W
    rwa [show inR xa 0 60=true by simp[inR];omega] at this
   have HB2:Hid (∀W,Calls uZ 19 #[.int .i64 xb,.int .i64 xa,.int .i64 60] W λe w'=>e=.returned (.bool true)/\W=w'):=ui λW=>by
    have:=aZ xb xa 60 W
    rwa [show inR xb xa 60=true by simp[inR];omega] at this
   have hlen:(rs.take k).length<=5:=by rw[List.length_take];omega
   generalize rs.take k=M at HTW HTK hlen
   go_wp2_with fail
   refine(HB1.out _).mono ?_
   rintro e w' ⟨rfl,rfl⟩
   go_wp2_with fail
   refine(HB2.out _).mono ?_
   rintro e w' ⟨rfl,rfl⟩
   go_wp2_with fail
   have hbz:=hgz
   have hne6:∀b,wr.heap.size<=b->some b≠Value.ownBlock u12:=λb hb e=>by have:=(HTW.out.own1.lt _ e.symm).2;omega
   go_region_law (first
    |(refine gX (by rfl) _ _ (by rfl) (by rfl) W1.heap.size _ _ _ (by rfl) (TwoRows.own1 (by repeat first|exact HTW.out|apply TwoRows.alloc|apply TwoRows.drew)) _ 1 (.int .i64 xa) (by rfl) (by first|assumption|((try simp only[ey]);repeat first|(simp;done)|(rw[World.cell?_alloc_at _ _ _ _ (by simp)];rfl)|rw[World.cell?_alloc_past _ _ _ (by simp;try omega)])) (by rfl) (by simpa using Nat.le_trans hlen (by decide)) (by have:=HTW.out.gr.size;first|omega|(simp;omega)) ?_;intro v' w6 hown6 hgrow6 hd6 hl6;have HTX:=ui (TwoRows.push (by repeat first|exact HTW.out|apply TwoRows.alloc|apply TwoRows.drew) hown6 hgrow6 hd6 hl6);have q6:w6.cell? ⟨wr.heap.size,1,none⟩=some (.int .i64 xb):=cell_grown hgrow6 (by simp;try omega) (hne6 _ (by omega)) (by first|assumption|((try simp only[ey]);repeat first|(simp;done)|(rw[World.cell?_alloc_at _ _ _ _ (by simp)];rfl)|rw[World.cell?_alloc_past _ _ _ (by simp;try omega)]));have hq6:=(λ(b o:Nat) (x:Value) (hb:wr.heap.size<=b) h=>cell_grown hgrow6 (b:=b) (o:=o) (v:=x) (sx h) (hne6 b hb) h);replace HTW:=HTX;clear HTX hown6 hgrow6 hd6 hl6)
    |(refine gX (by rfl) _ _ (by rfl) (by rfl) W1.heap.size _ _ _ (by rfl) (TwoRows.own2 (by repeat first|exact HTW.out|apply TwoRows.alloc|apply TwoRows.drew)) _ 1 (.int .i64 xb) (by rfl) (by first|assumption|((try simp only[ey]);repeat first|(simp;done)|exact hq6 _ _ _ (by omega) (by first|assumption|((try simp only[ey]);repeat first|(simp;done)|(rw[World.cell?_alloc_at _ _ _ _ (by simp)];rfl)|rw[World.cell?_alloc_past _ _ _ (by simp;try omega)]))|(rw[World.cell?_alloc_at _ _ _ _ (by simp)];rfl)|rw[World.cell?_alloc_past _ _ _ (by simp;try omega)])) (by rfl) (by simpa using Nat.le_trans hlen (by decide)) (by have:=HTW.out.gr.size;first|omega|(simp;omega)) ?_;intro v'' w7 hown7 hgrow7 hd7 hl7;have HTX:=ui (TwoRows.swap (TwoRows.push (TwoRows.swap (by repeat first|exact HTW.out|apply TwoRows.alloc|apply TwoRows.drew)) hown7 hgrow7 hd7 hl7));replace HTW:=HTX;clear HTX hown7 hgrow7 hd7 hl7))
   all_goals
    have HTN:Hid (TwoRows W1 W1.heap.size v' v'' ((M++[(xa,xb)]).map (·.1)) ((M++[(xa,xb)]).map (·.2)) w7):=ui (by rw[List.map_append,List.map_append];exact HTW.out)
    rw[<-HTK.out] at HTN
    clear hq6 q6 hne6 HTW
    go_wp2
    go_roundw
    case rel=>exact⟨k+1,by omega,by go_num,HTN.out⟩
    case measure=>simp[intOf];omega
  ·have hkn:k=rs.length:=by omega
   rw[hkn,List.take_length] at HTW
   obtain⟨A1,k1,rfl,hr1⟩:=RIK_of_own HTW.out.own1
   obtain⟨A2,k2,rfl,hr2⟩:=RIK_of_own HTW.out.own2
   have HGW:=ui HTW.out.gr
   have hlr:rs.length<=5:=by omega
   have HX1:=ui ((pA HR.out).1)
   have HI1:=ui (jK hr1)
   have HL1:=ui (λW (hW:Gr wr W)=>fp cb nA hA A1 nc hc k1 c (rosOf ls) (rs.map (·.1)) W (HCP.out.on (HGW.out.trans hW)) HOK.out (cJ HFE.out) HX1.out (by rw[List.length_map];exact hlr) (HI1.out W hW))
   have HX2:=ui ((pA HR.out).2)
   have HI2:=ui (jK hr2)
   have HL2:=ui (λW (hW:Gr wr W)=>fp cb nA hA A2 nc hc k2 c (rosOf ls) (rs.map (·.2)) W (HCP.out.on (HGW.out.trans hW)) HOK.out (cJ HFE.out) HX2.out (by rw[List.length_map];exact hlr) (HI2.out W hW))
   have HL:=ui (bM HOK.out (rosOf ls) (rs.map (·.1)))
   have HLM:=ui (bM HOK.out (rosOf ls) (rs.map (·.2)))
   generalize hL1:lossesL c (rosOf ls) (rs.map (·.1))=L1 at *
   generalize hL2:lossesL c (rosOf ls) (rs.map (·.2))=L2 at *
   replace hL1:=ui hL1
   replace hL2:=ui hL2
   have HGC:Hid (∀W,Gr wr W->((W.cell? ⟨w1.heap.size,0,none⟩=some (.int .u8 (rosOf ls 0:Nat))/\W.cell? ⟨w1.heap.size,1,none⟩=some (.int .u8 (rosOf ls 1:Nat))/\W.cell? ⟨w1.heap.size,2,none⟩=some (.int .u8 (rosOf ls 2:Nat))/\W.cell? ⟨w1.heap.size,3,none⟩=some (.int .u8 (rosOf ls 3:Nat))/\W.cell? ⟨w1.heap.size,4,none⟩=some (.int .u8 (rosOf ls 4:Nat)))/\(W.cell? ⟨w.heap.size+1,0,none⟩=some (.int .i64 0)/\W.frozen? ⟨w.heap.size+1,0,none⟩=false)/\W.cell? ⟨w.heap.size+1,1,none⟩=some (.int .i64 0)/\W.frozen? ⟨w.heap.size+1,1,none⟩=false)/\w1.heap.size<W.heap.size/\w.heap.size+1<W.heap.size):=ui λW hW=>by
    have hg:=HGW.out.trans hW
    have hg0:=HG1.out.trans hg
    refine⟨⟨RosC5 λi hi=>(hg.cell (by show w1.heap.size<_;omega)).trans (HRC.out i hi),⟨(hg0.cell (by show w.heap.size+1<_;omega)).trans (HC6.out 0 (by omega)).1,(hg0.frozen (by show w.heap.size+1<_;omega)).trans (HC6.out 0 (by omega)).2⟩,(hg0.cell (by show w.heap.size+1<_;omega)).trans (HC6.out 1 (by omega)).1,(hg0.frozen (by show w.heap.size+1<_;omega)).trans (HC6.out 1 (by omega)).2⟩,by have:=hg.size;omega,by have:=hg0.size;omega⟩
   obtain⟨⟨⟨a0,a1,a2,a3,a4⟩,⟨z0,z1⟩,z2,z3⟩,hz5,hz6⟩:=HGC.out wr (.refl _)
   have HG:=ui (Gr.refl wr)
   clear hr1 hr2 HTW
   rw[List.length_map] at HL1 HL2
   have HLL:Hid (∀(V:Value) (L:List (Int×Int)) W,(V=.slice A1 rs.length k1/\L=L1\/V=.slice A2 rs.length k2/\L=L2)->Gr wr W->Calls uZ 20 #[.pointer (some ⟨cb,0,none⟩),rosV (rosOf ls),V] W λe w'=>(∃A k,e=.returned (.slice A L.length k))/\Gr W w'):=ui (by
    rintro V L W (⟨rfl,rfl⟩|⟨rfl,rfl⟩) hW
    ·refine(HL1.out W hW).mono ?_
     rintro e w' ⟨v,rfl,hown,hg⟩
     obtain⟨A3,k3,rfl,_⟩:=RsK_of_own hown
     exact⟨⟨_,_,rfl⟩,hg⟩
    ·refine(HL2.out W hW).mono ?_
     rintro e w' ⟨v,rfl,hown,hg⟩
     obtain⟨A3,k3,rfl,_⟩:=RsK_of_own hown
     exact⟨⟨_,_,rfl⟩,hg⟩)
   rw[hl5] at HLL
   unfold rosV at HLL
   clear HL1 HL2
   go_wp2
   have hz7:=HGW.out.size
   have hne7:¬w1.heap.size=w.heap.size+1:=by omega
   have hne8:¬w.heap.size+1=w1.heap.size:=by omega
   go_region_held3 (λW=>W.cell? ⟨w1.heap.size,0,none⟩=some (.int .u8 (rosOf ls 0:Nat))/\W.cell? ⟨w1.heap.size,1,none⟩=some (.int .u8 (rosOf ls 1:Nat))/\W.cell? ⟨w1.heap.size,2,none⟩=some (.int .u8 (rosOf ls 2:Nat))/\W.cell? ⟨w1.heap.size,3,none⟩=some (.int .u8 (rosOf ls 3:Nat))/\W.cell? ⟨w1.heap.size,4,none⟩=some (.int .u8 (rosOf ls 4:Nat))) (go_keep)
    (first|(go_at_call 20;refine(HLL.out _ _ _ (by first|exact .inl ⟨rfl,rfl⟩|exact .inr ⟨rfl,rfl⟩) (by first|exact HG.out|exact HG.out.drew)).mono ?_;rintro e w3 ⟨⟨A3,k3,rfl⟩,hg3⟩;have HG3:=ui ((show Gr wr _ by first|exact HG.out|exact HG.out.drew).trans hg3);obtain⟨⟨⟨b0,b1,b2,b3,b4⟩,⟨y0,y1⟩,y2,y3⟩,hy5,hy6⟩:=HGC.out w3 HG3.out;replace HG:=HG3;clear HG3 hg3))
   all_goals
    have HGF:=ui (((HG0.out.trans (HG1.out.trans (HGW.out.trans (show Gr wr w3 by first|exact HG.out|exact HG.out.drew)))).setCell (p:=⟨w.heap.size+1,0,none⟩) (by show _<=w.heap.size+1;omega) (.int .i64 L1.length)).setCell (p:=⟨w.heap.size+1,1,none⟩) (by show _<=w.heap.size+1;omega) (.int .i64 L2.length))
    have hs0:((w3.setCell ⟨w.heap.size+1,0,none⟩ (.int .i64 L1.length)).setCell ⟨w.heap.size+1,1,none⟩ (.int .i64 L2.length)).cell? ⟨w.heap.size+1,0,none⟩=some (.int .i64 L1.length):=by
     rw[World.cell?_setCell_other _ _ _ _ (by simp)];exact World.cell?_setCell_same _ _ _ y0
    have hs1:((w3.setCell ⟨w.heap.size+1,0,none⟩ (.int .i64 L1.length)).setCell ⟨w.heap.size+1,1,none⟩ (.int .i64 L2.length)).cell? ⟨w.heap.size+1,1,none⟩=some (.int .i64 L2.length) :=
     World.cell?_setCell_same _ _ _ ((World.cell?_setCell_other _ _ _ _ (by simp)).trans y2)
    generalize (w3.setCell ⟨w.heap.size+1,0,none⟩ (.int .i64 L1.length)).setCell ⟨w.heap.size+1,1,none⟩ (.int .i64 L2.length)=W9 at HGF hs0 hs1
    go_wp2
    refine bodyPost_ret (v:=.tuple #[.agg #[.int .i64 L1.length,.int .i64 L2.length],.int .i64 0]) (by simp[results,Tryz.results10,go_sem,hs0,hs1]) rfl ⟨HGF.out,?_⟩
    rw[hL1.out,hL2.out]
end Go.Proofs.YtjmmlkobmhlikaaGreat
