/- Parts of the proof. -/
import Derived.Test.YteckikkkfpblhaaGreatP22
import Derived.Test.YteckikkkfpblhaaGreatP00
import Derived.Test.YteckikkkfpblhaaGreatP18
import Derived.Test.YteckikkkfpblhaaGreatP23
import Derived.Test.YteckikkkfpblhaaGreatP19
import Derived.Test.YteckikkkfpblhaaGreatP21
import Derived.Test.YteckikkkfpblhaaGreatP15
import Derived.Deep.RegionLaw
import Derived.Deep.RegionHeld3
import Derived.Orders
import Derived.Deep.Quiet
set_option linter.all false
set_option maxHeartbeats 6400000
set_option maxRecDepth 1000000
namespace Go.Sq
open Go.RowKit
structure CO (w0:World)(hb B:Nat)(A:Option Addr)(cap:Nat)(l:List Int)(M base:Nat)(v:Value)(ns:List Int)(W:World):Prop where
 hand:Hand W hb B A cap l M
 DN:W.heap[w0.heap.size+1]?=some (.cells #[v,.slice none 0 0] 25 (0,0))
 Fu:W.heap[w0.heap.size]?=some (.cells #[.slice none 0 0,.slice none 0 0] 25 (0,0))
 own:W.ownsRow base 3 1 v ns.length (ns.map (Value.int .i64))
 kt:KT (·=hb) w0 W
 lt:hb<w0.heap.size
 bs:w0.heap.size+2<=base/\base<=W.heap.size
section
variable {w0 W W':World} {hb B:Nat} {A:Option Addr} {cap:Nat} {l:List Int} {M base:Nat} {v:Value} {ns:List Int}
def CO.drew (h:CO w0 hb B A cap l M base v ns W):CO w0 hb B A cap l M base v ns W.drew :=
 ⟨h.hand.gr (Gr.refl W).drew,h.DN,h.Fu,ar h.own λ_ _ _=>rfl,⟨h.kt.os,h.kt.tape,h.kt.output,zg h.kt.drawn,h.kt.size,h.kt.block⟩,h.lt,h.bs⟩
def CO.alloc (h:CO w0 hb B A cap l M base v ns W)(o:Obj):CO w0 hb B A cap l M base v ns (W.alloc o) :=
 ⟨h.hand.gr ((Gr.refl W).alloc o),(heap_alloc_old _ _ (xg.1 h.DN).1).trans h.DN,(heap_alloc_old _ _ (xg.1 h.Fu).1).trans h.Fu,h.own.alloc o,h.kt.trans (zF ((Gr.refl W).alloc o)),h.lt,by have:=h.bs;simp;omega⟩
def CO.Jb (h:CO w0 hb B A cap l M base v ns W){M':Nat}(hh:Hand W' hb B A cap l M')(k:KT (·=hb) W W'):CO w0 hb B A cap l M' base v ns W' :=
 ⟨hh,(k.block _ (xg.1 h.DN).1 (by have:=h.lt;omega)).trans h.DN,(k.block _ (xg.1 h.Fu).1 (by have:=h.lt;omega)).trans h.Fu,mr h.own (by have:=h.lt;have:=h.bs;omega) k,h.kt.trans k,h.lt,by have:=h.bs;have:=k.size;omega⟩
def Hand.set {W:World}{hb B cap N:Nat}{A:Option Addr}{l:List Int}(h:Hand W hb B A cap l N){p:Addr}(hp:hb<p.block)(x:Value):Hand (W.setCell p x) hb B A cap l N:=by
 obtain⟨n,s,h1,h2⟩:=h.obj;have hB:=h.apart;exact⟨⟨n,s,(xD _ _ _ _ (by omega)).trans h1,h2⟩,h.Oq.keep λb o hb'=>xH (xD _ _ _ _ (by show b≠p.block;omega)),hB⟩
def KT.set {w0 W:World}{hb:Nat}(h:KT (·=hb) w0 W){p:Addr}(hp:w0.heap.size<=p.block)(x:Value):KT (·=hb) w0 (W.setCell p x) :=
 ⟨h.os,h.tape,h.output,h.drawn,by have:=h.size;simpa [World.setCell] using this,λb hb' hne=>(xD _ _ _ _ (by omega)).trans (h.block b hb' hne)⟩
def CO.more (h:CO w0 hb B A cap l M base v ns W){M':Nat}(hm:M<=M'):CO w0 hb B A cap l M' base v ns W:=⟨h.hand.more hm,h.DN,h.Fu,h.own,h.kt,h.lt,h.bs⟩
def CO.push (h:CO w0 hb B A cap l M base v ns W){w6:World}{o:Obj}{v':Value}{z:Int}(hown:w6.ownsRow base 3 1 v' (ns++[z]).length ((ns++[z]).map (Value.int .i64)))(hg:(W.alloc o).grownBy w6 v.ownBlock)(hd:(W.alloc o).drawn<=w6.drawn) :
  CO w0 hb B A cap l M base v' (ns++[z]) (w6.setCell ⟨w0.heap.size+1,0,none⟩ v'):=by
 have hlt:=h.lt;have hbs:=h.bs;have hq:=(Cu h.own hg (w0.heap.size+1) (by omega) (xg.1 h.DN).1).trans h.DN;have hr:=(Cu h.own hg w0.heap.size (by omega) (xg.1 h.Fu).1).trans h.Fu;refine⟨(dz h.hand h.own (by omega) hg).set (by show hb<w0.heap.size+1;omega) _,?_,(xD _ _ _ _ (by simp)).trans hr,ownsRow_setCell_below hown (by show w0.heap.size+1<base;omega) _,(eR h.kt h.own (by omega) hg hd).set (by show _<=w0.heap.size+1;omega) _,hlt,hbs.1,by have:=ge hg;simp[World.setCell];omega⟩
 exact ax hq
def wV {W:World}{K:Nat->Prop}{a b:Int}(hK:K W.heap.size):FC (W.alloc (.cells #[.int .i64 a,.int .i64 b] 3)) K (some ⟨W.heap.size,0,none⟩) [a,b]:=λ_=>⟨_,0,rfl,hK,λi x hx=>by
 rw[xj _ _ _ _ rfl]
 match i,hx with
 |0,hx=>cases hx;rfl
 |1,hx=>cases hx;rfl⟩
def wW {W:World}{K:Nat->Prop}{a:Int}(hK:K W.heap.size):FC (W.alloc (.cells #[.int .i64 a] 3)) K (some ⟨W.heap.size,0,none⟩) [a]:=λ_=>⟨_,0,rfl,hK,λi x hx=>by
 rw[xj _ _ _ _ rfl]
 match i,hx with
 |0,hx=>cases hx;rfl⟩
def CO.room (h:CO w0 hb B A cap l M base v ns W)(o:Obj):W.heap.size≠hb/\W.heap.size<(W.alloc o).heap.size:=by
 have:=h.hand.lt;simp;omega
def CO.cell (h:CO w0 hb B A cap l M base v ns W):W.cell? ⟨w0.heap.size+1,0,none⟩=some v/\W.frozen? ⟨w0.heap.size+1,0,none⟩=false/\w0.heap.size+1<W.heap.size:=⟨(cell_of_heap h.DN 0).1,(cell_of_heap h.DN 0).2,(xg.1 h.DN).1⟩
def eW {W W':World}{K K':Nat->Prop}{A:Option Addr}{q:List Int}(h:FC W K A q)(hk:∀b,K b->K' b)(hc:∀b o,K b->W'.cell? ⟨b,o,none⟩=W.cell? ⟨b,o,none⟩):FC W' K' A q:=λhn=>by
 obtain⟨b,o,e,h1,h2⟩:=h hn;exact⟨b,o,e,hk b h1,λi x hx=>(hc _ _ h1).trans (h2 i x hx)⟩
def gj {W W':World}{K K':Nat->Prop}{A:Option Addr}{q:List Be}(h:Dj W K A q)(hk:∀b,K b->K' b)(hc:∀b o,K b->W'.cell? ⟨b,o,none⟩=W.cell? ⟨b,o,none⟩):Dj W' K' A q:=λhn=>by
 obtain⟨b,o,e,h1,h2⟩:=h hn;refine⟨b,o,e,hk b h1,λi x hx=>?_⟩;obtain⟨k0,k1,k2,A',c,k3,k4⟩:=h2 i x hx;exact⟨(hc _ _ h1).trans k0,(hc _ _ h1).trans k1,(hc _ _ h1).trans k2,A',c,(hc _ _ h1).trans k3,eW k4 hk hc⟩
def dH (h:Be)(y:Value):List Value:=[.int .i64 h.heads,.int .i64 h.CJ,.int .i64 h.most,y]
structure CP (w0:World)(hb B:Nat)(A:Option Addr)(cap:Nat)(l:List Int)(M base:Nat)(v:Value)(ns:List Int)(u:Value)(hs:List Be)(xs:List Value)(W:World):Prop where
 hand:Hand W hb B A cap l M
 DN:W.heap[w0.heap.size+1]?=some (.cells #[v,u] 25 (0,0))
 Fu:W.heap[w0.heap.size]?=some (.cells #[.slice none 0 0,.slice none 0 0] 25 (0,0))
 own:W.ownsRow base 3 1 v ns.length (ns.map (Value.int .i64))
 CM:W.ownsRow base 46 4 u hs.length xs
 Jc:∀i h,hs[i]?=some h->∃y,(∀j,j<4->xs[i*4+j]?=(dH h y)[j]?)/\W.ownsRow base 3 1 y h.off.length (h.off.map (Value.int .i64))
 kt:KT (·=hb) w0 W
 lt:hb<w0.heap.size
 bs:w0.heap.size+2<=base/\base<=W.heap.size
variable {u:Value} {hs:List Be} {xs:List Value}
def CO.cp (h:CO w0 hb B A cap l M base v ns W):CP w0 hb B A cap l M base v ns (.slice none 0 0) [] [] W :=
 ⟨h.hand,h.DN,h.Fu,h.own,xZ _ _ _ _,λi h hi=>by simp at hi,h.kt,h.lt,h.bs⟩
def CP.keep (h:CP w0 hb B A cap l M base v ns u hs xs W){M':Nat}(hh:Hand W' hb B A cap l M')(hk:∀b,b<W.heap.size->b≠hb->W'.heap[b]?=W.heap[b]?)(kt:KT (·=hb) w0 W')(hz:W.heap.size<=W'.heap.size):CP w0 hb B A cap l M' base v ns u hs xs W':=by
 have hlt:=h.lt;have hbs:=h.bs;have ok:∀ {e:TypeId} {sz n:Nat} {y:Value} {zs:List Value},W.ownsRow base e sz y n zs->W'.ownsRow base e sz y n zs:=λho=>ar ho λg hg hl=>hk g hl (by have:=(ho.lt g hg).1;omega);refine⟨hh,(hk _ (xg.1 h.DN).1 (by omega)).trans h.DN,(hk _ (xg.1 h.Fu).1 (by omega)).trans h.Fu,ok h.own,ok h.CM,λi x hi=>?_,kt,hlt,by omega⟩;obtain⟨y,h1,h2⟩:=h.Jc i x hi;exact⟨y,h1,ok h2⟩
def CP.Jb (h:CP w0 hb B A cap l M base v ns u hs xs W){M':Nat}(hh:Hand W' hb B A cap l M')(k:KT (·=hb) W W'):CP w0 hb B A cap l M' base v ns u hs xs W' :=
 h.keep hh (λb hb' hne=>k.block b hb' hne) (h.kt.trans k) k.size
def CP.alloc (h:CP w0 hb B A cap l M base v ns u hs xs W)(o:Obj):CP w0 hb B A cap l M base v ns u hs xs (W.alloc o) :=
 h.keep (h.hand.gr ((Gr.refl W).alloc o)) (λb hb' _=>heap_alloc_old _ _ hb') (h.kt.trans (zF ((Gr.refl W).alloc o))) (by simp)
def CP.more (h:CP w0 hb B A cap l M base v ns u hs xs W){M':Nat}(hm:M<=M'):CP w0 hb B A cap l M' base v ns u hs xs W:=⟨h.hand.more hm,h.DN,h.Fu,h.own,h.CM,h.Jc,h.kt,h.lt,h.bs⟩
def CP.cell (h:CP w0 hb B A cap l M base v ns u hs xs W):W.cell? ⟨w0.heap.size+1,1,none⟩=some u/\W.frozen? ⟨w0.heap.size+1,1,none⟩=false/\w0.heap.size+1<W.heap.size:=⟨(cell_of_heap h.DN 1).1,(cell_of_heap h.DN 1).2,(xg.1 h.DN).1⟩
def CP.push (h:CP w0 hb B A cap l M base v ns u hs xs W){w6:World}{o:Obj}{u' y:Value}{x:Be}(hy:W.ownsRow base 3 1 y x.off.length (x.off.map (Value.int .i64)))(hown:w6.ownsRow base 46 4 u' (hs.length+1) (xs++dH x y))(hg:(W.alloc o).grownBy w6 u.ownBlock)(hd:(W.alloc o).drawn<=w6.drawn) :
  CP w0 hb B A cap l M base v ns u' (hs++[x]) (xs++dH x y) (w6.setCell ⟨w0.heap.size+1,1,none⟩ u'):=by
 have hlt:=h.lt;have hbs:=h.bs;have Yx:xs.length=hs.length*4:=h.CM.1;have hq:=(Cu h.CM hg (w0.heap.size+1) (by omega) (xg.1 h.DN).1).trans h.DN;have hr:=(Cu h.CM hg w0.heap.size (by omega) (xg.1 h.Fu).1).trans h.Fu;have ok:∀ {n:Nat} {z:Value} {zs:List Value},W.ownsRow base 3 1 z n zs->(w6.setCell ⟨w0.heap.size+1,1,none⟩ u').ownsRow base 3 1 z n zs:=λho=>ar ho λg C1 hl =>
  (xD _ _ _ _ (by have:=(ho.lt g C1).1;show g≠w0.heap.size+1;omega)).trans ((hg.block g (by simp;omega) (gY (by decide) ho h.CM C1)).trans (heap_alloc_old _ _ hl))
 refine⟨(dz h.hand h.CM (by omega) hg).set (by show hb<w0.heap.size+1;omega) _,?_,(xD _ _ _ _ (by simp)).trans hr,ok h.own,?_,λi z hi=>?_,(eR h.kt h.CM (by omega) hg hd).set (by show _<=w0.heap.size+1;omega) _,hlt,hbs.1,by have:=ge hg;simp[World.setCell];omega⟩
 .exact ax hq
 .rw[List.length_append];exact ownsRow_setCell_below hown (by show w0.heap.size+1<base;omega) _
 .rcases yh i hs.length with hi'|hi'
  .rw[yz hi'] at hi;obtain⟨y',h1,h2⟩:=h.Jc i z hi;exact⟨y',λj hj=>by rw[yz (by omega)];exact h1 j hj,ok h2⟩
  .have e : i = hs.length := by
    have:=(xL.1 hi).1;simp at this;omega
   subst e;rw[yx (xh _)] at hi;simp at hi;subst hi;exact⟨y,λj hj=>by rw[yx (by omega),Yx];congr 1;omega,ok hy⟩
def CP.CZ (h:CP w0 hb B A cap l M base v ns u hs xs W):∃nA nc hA hc,v=.slice nA ns.length nc/\u=.slice hA hs.length hc/\FC W (λb=>base<=b/\b<W.heap.size) nA ns/\Dj W (λb=>base<=b/\b<W.heap.size) hA hs:=by
 obtain⟨nA,nc,e1,h1⟩:=DL h.own;rcases h.CM.2 with⟨rfl,h0⟩|⟨g,hc,cur,rfl,hgb,hgo,_⟩
 .have:hs=[]:=xU h0;subst this;exact⟨nA,nc,none,0,e1,rfl,h1,λhn=>absurd rfl hn⟩
 .refine⟨nA,nc,some ⟨g,0,none⟩,hc,e1,rfl,h1,λ_=>⟨g,0,rfl,⟨hgb,(xg.1 hgo).1⟩,λi x hi=>?_⟩⟩;obtain⟨y,hj,ho⟩:=h.Jc i x hi;obtain⟨A',c',rfl,hr⟩:=DL ho;have hcell:=h.CM.cells (g:=g) rfl;have at_:∀j z,j<4->(dH x (.slice A' x.off.length c'))[j]?=some z->W.cell? ⟨g,0+i*4+j,none⟩=some z:=λj z hj4 hz=>by
   have:=hcell (i*4+j) z ((hj j hj4).trans hz);have e:(⟨g,0,none⟩:Addr).add (i*4+j)=⟨g,0+(i*4+j),none⟩:=by unfold Addr.add;split<;>simp_all
   rw[e,<-zd] at this;exact this
  exact⟨at_ 0 _ (by omega) rfl,at_ 1 _ (by omega) rfl,at_ 2 _ (by omega) rfl,A',c',at_ 3 _ (by omega) rfl,hr⟩
end
end Go.Sq
namespace Go.Proofs.Ao
open Go.RowKit Go.Sq
def fm {w:World}{ops:Array Oper}{o:Oper}{a:Act}{K:Act->World->Prop}{Q:Exit->Act->World->Prop}{E:Prop}(hgd:o.guard=none)(h:Oper.wp An o a w K Q):if Region.wanted o (yielded ops a.tmps)=true then Oper.wp An o a w K Q else E:=by
 have hw:Region.wanted o (yielded ops a.tmps)=true:=by simp[Region.wanted,hgd]
 rw[if_pos hw];exact h
def pF {w:World}{ops:Array Oper}{o:Oper}{a:Act}{K:Act->World->Prop}{Q:Exit->Act->World->Prop}{E:Prop}(hgd:o.guard=none)(s x:Operand)(ho:o.op=.call { callee:=.builtin .append,args:=#[s,x],argTypes:=#[22,22] })(Um:o.type=22)
  (base:Nat) (v:Value) (n:Nat) (xs:List Value) (hs:a.eval s=v) (hown:w.ownsRow base 3 1 v n xs) (y:Value) (h1:y.oneCell'=true) (hx:a.eval x=.slice (some ⟨w.heap.size,0,none⟩) 1 1) (hn:n<=1048576) (hbase:base<=w.heap.size)
  (h:∀v' w',w'.ownsRow base 3 1 v' (n+1) (xs++[y])->(w.alloc (.cells #[y] 3)).grownBy w' v.ownBlock->(w.alloc (.cells #[y] 3)).drawn<=w'.drawn->K (a.put o.dst v') w') :
  if Region.wanted o (yielded ops a.tmps)=true then Oper.wp An o a (w.alloc (.cells #[y] 3)) K Q else E:=by
 have hw:Region.wanted o (yielded ops a.tmps)=true:=by simp[Region.wanted,hgd]
 rw[if_pos hw];obtain⟨i0,hi,hz0,hz1,hz2⟩:=info_parts zN
 obtain⟨v',w',hr,h2,h3,h4⟩:=run_append_own (P:=An) (w.alloc (.cells #[y] 3)) base 22 22 3 i0 _ 1 8 ((Sq.underlying 22).trans Tryz.underlying22) hi hz0 hz1 hz2 rfl (by decide) v n xs (hown.alloc _) ⟨w.heap.size,0,none⟩ 1 1 [y] rfl (λj u hj=>by
  match j,hj with
  |0,hj=>cases hj;rw[Addr.add_lit,xj _ _ _ _ (by simp)];rfl) (λu hu=>by simp at hu;subst hu;exact h1) (by unfold maxLen;omega) (by omega) (by simp;omega)
 have hd:=Go.AW.Cr An (Builtin.append_ #[22,22] 22 #[v,.slice (some ⟨w.heap.size,0,none⟩) 1 1]) (w.alloc (.cells #[y] 3)) #[];rw[Sem.runT_fst,hr] at hd;unfold Oper.wp execOp;simp only[ho,resolve,invoke,builtin,Sem.run_bind,Sem.run_pure,Result.andThen_ok,zm,zc,zk,hs,hx,hr,Um];exact h v' w' h2 h3 hd
def wM {w:World}{ops:Array Oper}{rest:List Oper}{o:Oper}{a:Act}{Q:Exit->Act->World->Prop}(hgd:o.guard=none)(s x:Operand)(ho:o.op=.call { callee:=.builtin .append,args:=#[s,x],argTypes:=#[23,23] })
  (base:Nat) (v:Value) (n:Nat) (xs:List Value) (hs:a.eval s=v) (hown:w.ownsRow base 46 4 v n xs) (ad:Addr) (c:Nat) (news:List Value) (hx:a.eval x=.slice (some ad) 1 c) (h4:news.length=4) (hc:∀(j:Nat) (u:Value),news[j]?=some u->w.cell? (ad.add j)=some u) (h1:∀u∈news,u.oneCell'=true)
  (hn:n<=1048576) (hbase:base<=w.heap.size) (h:∀v' w',w'.ownsRow base 46 4 v' (n+1) (xs++news)->w.grownBy w' v.ownBlock->w.drawn<=w'.drawn->wpList An ops Q rest (a.put o.dst v') w'):wpList An ops Q (o::rest) a w:=by
 obtain⟨i0,hi,hz0,hz1,hz2⟩:=info_parts zR;exact Bh hgd s x 23 ho base 46 i0 _ 4 48 Sq.underlying23 hi hz0 hz1 hz2 rfl (by decide) v n xs hs hown ad 1 c news hx (by omega) hc h1 (by unfold maxLen;omega) (by omega) hbase h
def sU (hb B:Nat)(A:Option Addr)(cap:Nat)(l:List Int)(N:Nat)(w:World)(h:Hand w hb B A cap l N)(hN:N<=10000) :
  Calls An 8 #[.pointer (some ⟨hb,0,none⟩),.int .i64 5,.int .i64 4] w λe w'=>∃c nA hA nc hc,e=.returned (AH nA hA c nc hc)/\c.Ok/\AK c=0/\FC w' (λb=>w.heap.size<=b/\b<w'.heap.size) nA c.Aq/\Dj w' (λb=>w.heap.size<=b/\b<w'.heap.size) hA c.Ap/\Hand w' hb B A cap l (N+1000)/\KH hb w w':=by
 obtain⟨W0,hW0⟩:∃W0:World,W0=(w.alloc (.cells #[.slice none 0 0,.slice none 0 0] 25)).alloc (.cells #[.slice none 0 0,.slice none 0 0] 25):=⟨_,rfl⟩;have hg0:Gr w W0:=hW0▸((Gr.refl w).alloc _).alloc _;have HZ0:Hid (W0.heap.size=w.heap.size+2):=xf (by rw[hW0];simp);have HH:=xf (h.gr hg0);have hlt:=h.lt;have HW:=xf hW0;have B4:=xf hg0;have HAM:=xf (ej hb B A cap l N 1 5 W0 (h.gr hg0) (by omega) (by omega) (by omega))
 have agd:Hid (CO w hb B A cap l N (w.heap.size+2) (.slice none 0 0) [] W0):=xf ⟨h.gr hg0,by rw[hW0];exact aD _ _ (by simp),by rw[hW0,heap_alloc_old _ _ (by simp)];exact heap_alloc_new _ _,xZ _ _ _ _,⟨hg0.below.os,hg0.below.tape,hg0.below.output,hg0.drawn,hg0.size,λb hb' _=>hg0.below.block b hb'⟩,hlt,by rw[hW0];simp⟩;clear hW0 hg0 h;go_enter Sq.func8,Tryz.ntmps8;go_wp2_with fail;rw[<-HW.out];refine HAM.out.mono ?_
 rintro e w1 ⟨⟨n,rfl,Ip,MK⟩,hh,CB⟩;have age:=xf (agd.out.Jb hh CB);clear hh CB HAM;go_wp2;go_loopw [9] (λi wr=>∃k:Nat,k<=n/\i=.int .i64 k/\∃v ns,CO w hb B A cap l (N+1+4*k) (w.heap.size+2) v ns wr/\ns.length=k/\∀x∈ns,0<=x/\x<=12) (λi _=>n-(intOf i).toNat)
 case atStart=>exact⟨0,by omega,rfl,_,[],age.out,rfl,λx hx=>by simp at hx⟩
 case round =>
  obtain⟨k,hk,rfl,v,ns,Ij,Yn,hns⟩:=hrel;have HNS:=xf hns;clear hns;by_cases hlk:k<n
  .obtain⟨c0,f0,l0⟩:=Ij.drew.cell;obtain⟨c9,f9,l9⟩:=Ij.cell;replace Ij:=xf Ij.drew;go_wp2;clear c9 f9 l9
   go_region_law (first
    |(refine pF (by rfl) _ _ (by rfl) (by rfl) (w.heap.size+2) _ _ _ (by rfl) Ij.out.own (.int .i64 z) rfl (by rfl) (by omega) Ij.out.bs.2 ?_;intro v' w6 U4 MC hd6;clear c0 f0 l0;have hq6:=(Cu Ij.out.own MC (w.heap.size+1) (by omega) (xg.1 Ij.out.DN).1).trans Ij.out.DN;have c6:=(cell_of_heap hq6 0).1;have f6:=(cell_of_heap hq6 0).2;have JP:w6.ownsRow (w.heap.size+2) 3 1 v' (ns++[z]).length ((ns++[z]).map (Value.int .i64)):=(by simpa using U4);obtain⟨A6,k6,hv6,_⟩:=zG JP;subst hv6)
    |(refine fm (by rfl) ?_;go_simp;first
     |(go_at_call 28;refine(jQ hb B A cap l _ _ _ Ij.out.hand (by omega) (by omega)).mono ?_;rintro e w' ⟨⟨q,rfl,hq⟩,hh,CB⟩;replace Ij:=xf (Ij.out.Jb hh CB);clear c0 f0 l0 hh CB;obtain⟨c0,f0,l0⟩:=Ij.out.cell;dsimp only)
     |(go_at_call 27;refine(mq hb B A _ cap 2 l [_,_] _ _ _ (Ij.out.alloc _).hand (by omega) (by simp) (wV (Ij.out.room _))).mono ?_;rintro e w' ⟨⟨z,rfl,hz⟩,hh,CB⟩;have agh:0<=z/\z<=12:=(by simp only[xu,xm,or_false] at hz;omega);replace Ij:=xf ((Ij.out.alloc _).Jb hh CB);clear c0 f0 l0 hh CB;have HZ:=xf agh;obtain⟨c0,f0,l0⟩:=Ij.out.cell;dsimp only)))
   all_goals
    have abu:=xf ((Ij.out.push JP MC hd6).more (M':=N+1+4*(k+1)) (by omega));have hl9:(ns++[z]).length=k+1:=by simp[Yn]
    rw[hl9] at abu;have agj:Hid (∀x∈ns++[z],0<=x/\x<=12):=xf λx hx=>by
     rcases ym.1 hx with hx|hx
     .exact HNS.out x hx
     .simp only[xu,xm,or_false] at hx;subst hx;exact HZ.out
    clear JP MC hd6 U4 Ij c6 f6 hq6;go_wp2;go_roundw
    case rel=>exact⟨k+1,by omega,by go_num,_,_,abu.out,hl9,agj.out⟩
    case measure=>simp[intOf];omega
  .have E4:k=n:=by omega
   subst E4;have OP:=xf (Ij.cp.more (M':=N+30) (by omega));have abv:=xf (ej hb B A cap l (N+30) 1 4 wr OP.out.hand (by omega) (by omega) (by omega));clear Ij;go_wp2_with fail;refine abv.out.mono ?_;rintro e w2 ⟨⟨m,rfl,JI,hm4⟩,hh,CB⟩;have agk:=xf (OP.out.Jb hh CB);clear hh CB abv OP;go_wp2;go_loopw [10] (λi wr=>∃j:Nat,j<=m/\i=.int .i64 j/\∃u hs xs,CP w hb B A cap l (N+31+20*(m-j)) (w.heap.size+2) v ns u hs xs wr/\hs.length=m-j/\∀h∈hs,Cm ns.length h=0) (λi _=>(intOf i).toNat)
   case atStart=>exact⟨m,by omega,rfl,_,[],[],agk.out.more (by omega),by simp,λh hh=>by simp at hh⟩
   case round =>
    obtain⟨wq,rfl⟩:∃wq,wq=wr:=⟨_,rfl⟩;obtain⟨j,hj,rfl,u,hs,xs,Oa,hhl,Wj⟩:=hrel;have HP:=xf Oa;have HHS:=xf Wj;clear Oa Wj;by_cases SX:0<j
    .have HA1:=xf (ej hb B A cap l _ 1 6 wq HP.out.hand (by omega) (by omega) (by omega));go_wp2_with fail;refine HA1.out.mono ?_;rintro e v1 ⟨⟨a1,rfl,ha1,hb1⟩,hh,CB⟩;have KC:=xf (HP.out.Jb hh CB);have HA2:=xf (ej hb B A cap l _ 1 40 v1 hh (by omega) (by omega) (by omega));clear hh CB HA1;go_wp2_with fail;refine HA2.out.mono ?_;rintro e v2 ⟨⟨a2,rfl,ha2,hb2⟩,hh,CB⟩;have Sb:=xf (KC.out.Jb hh CB)
     have hhl2:=hh.lt;have HA3:=xf (mq hb B A (some ⟨v2.heap.size,0,none⟩) cap 1 l [(a2:Int)] _ a1 (v2.alloc (.cells #[.int .i64 a2] 3)) (Sb.out.alloc _).hand (by omega) (by simp) (wW (by simp;omega)));clear hh CB HA2;go_wp2_with fail;refine HA3.out.mono ?_;rintro e v3 ⟨⟨a3,rfl,ha3⟩,hh,CB⟩;have h340:1<=a3/\a3<=40:=by simp only[xu,xm,or_false] at ha3;omega
     have HP3:=xf ((Sb.out.alloc _).Jb hh CB);have HA4:=xf (ej hb B A cap l _ 1 5 v3 hh (by omega) (by omega) (by omega));clear hh CB HA3;go_wp2_with fail;refine HA4.out.mono ?_;rintro e v4 ⟨⟨a4,rfl,YE,hb4⟩,hh,CB⟩;have HP4:=xf (HP3.out.Jb hh CB);have HA5:=xf (ej hb B A cap l _ 0 3 v4 hh (by omega) (by omega) (by omega));clear hh CB HA4;go_wp2_with fail;refine HA5.out.mono ?_;rintro e v5 ⟨⟨a5,rfl,ha5,hb5⟩,hh,CB⟩
     have HP5:=xf ((HP4.out.Jb hh CB).more (M':=N+31+20*(m-j)+5) (by omega));have Tv:=hh.lt;clear hh CB HA5 HP KC Sb HP3 HP4;obtain⟨vX,Yg⟩:∃vX:World,vX=v5.alloc (.cells #[.int .i64 a3,.int .i64 a4,.int .i64 a5,.slice none 0 0] 46):=⟨_,rfl⟩;have HX0:Hid (vX.heap[v5.heap.size]?=some (.cells #[.int .i64 a3,.int .i64 a4,.int .i64 a5,.slice none 0 0] 46 (0,0))):=xf (by rw[Yg];exact heap_alloc_new _ _)
     have HPX:=xf (Yg▸HP5.out.alloc (.cells #[.int .i64 a3,.int .i64 a4,.int .i64 a5,.slice none 0 0] 46));have HZX:Hid (vX.heap.size=v5.heap.size+1):=xf (by rw[Yg];simp);have HKX:Hid (KT (·=hb) v5 vX):=xf (Yg▸zF ((Gr.refl v5).alloc _));have HVX:=xf Yg;clear Yg;go_wp2;rw[<-HVX.out];go_loopw [12] (λi wr=>∃t:Nat,t<=k/\i=.int .i64 t/\∃y p,KT (·=hb) v5 wr/\Hand wr hb B A cap l (N+31+20*(m-j)+5+t)/\wr.heap[v5.heap.size]?=some (.cells #[.int .i64 a3,.int .i64 a4,.int .i64 a5,y] 46 (0,0))/\wr.ownsRow (v5.heap.size+1) 3 1 y (AJ p t).length ((AJ p t).map (Value.int .i64))) (λi _=>k-(intOf i).toNat)
     case atStart=>exact⟨0,by omega,rfl,_,λ_=>false,HKX.out,HPX.out.hand,HX0.out,xZ _ _ _ _⟩
     case round =>
      obtain⟨t,ht,rfl,y,p,CB,hh,Sr,hown⟩:=hrel;have HK:=xf CB;have HO:=xf hown;have HXO:=xf Sr;have hzw:=CB.size;have hXl:=(xg.1 Sr).1;by_cases htk:t<k
      .have UZ:=xf (q9 hb B A cap l _ 1 6 wr hh (by omega) (by omega));clear hh CB hown Sr;go_wp2_with fail;refine UZ.out.mono ?_;rintro e w8 ⟨⟨bo,rfl⟩,hh,CB⟩;have agm:v5.heap.size≠hb:=by omega
       have HK8:=xf (HK.out.trans CB);have LI:=mr HO.out (show hb<v5.heap.size+1 by omega) CB;have hx8:=(CB.block _ hXl agm).trans HXO.out;have WV:=xf hx8;have c8:=(cell_of_heap hx8 3).1;have f8:=(cell_of_heap hx8 3).2;have ago:=(xg.1 hx8).1;have HH8:=xf hh;have HO8:=xf LI;obtain⟨p2,Mb⟩:∃p2:Nat->Bool,p2=λq=>if q=t then bo else p q:=⟨_,rfl⟩
       have HP:=xf (cC p2 t);have HPT:Hid (p2 t=bo):=xf (by rw[Mb];simp);have Yf:=xf (ii (p:=p2) (q:=p) (k:=t) λi hi=>by rw[Mb];exact if_neg (by omega));clear Mb;have Hm:=cT p t;have hz8:=HK8.out.size;have hZX:=HZX.out;clear CB hh UZ hx8;obtain⟨yA,yc,hyv,_⟩:=zG LI;subst hyv;cases bo with
       |true =>
        clear hZX;go_wp2_with (at_builtin;refine fX rfl _ _ rfl (v5.heap.size+1) _ _ _ rfl (LI.alloc _) ⟨w8.heap.size,0,none⟩ 1 (.int .i64 t) rfl ?c1 rfl ?c2 ?c3 ?_)
        case c1=>first|(rw[Addr.add_lit,xj _ _ _ _ (by simp)];rfl)|(rw[xj _ _ _ _ (by simp)];rfl)
        case c2=>omega
        case c3=>simp;omega
        intro v' w9 hown' hgrow hd;have Jd:w9.ownsRow (v5.heap.size+1) 3 1 v' (AJ p2 (t+1)).length ((AJ p2 (t+1)).map (Value.int .i64)):=by
         rw[HP.out,Yf.out,if_pos HPT.out];simpa using hown'
        obtain⟨A9,c9,hv9,_⟩:=zG Jd;subst hv9;have hx9:=(Cu HO8.out hgrow v5.heap.size (by omega) ago).trans WV.out;have d9:=(cell_of_heap hx9 3).1;have g9:=(cell_of_heap hx9 3).2;have hl9:(AJ p t).length+1=(AJ p2 (t+1)).length:=by rw[HP.out,Yf.out,if_pos HPT.out];simp
        have HK9:=xf ((eR HK8.out HO8.out (by omega) hgrow hd).set (p:=⟨v5.heap.size,3,none⟩) (xh _) (.slice A9 (AJ p2 (t+1)).length c9));have HH9:=xf (((dz HH8.out HO8.out (by omega) hgrow).set (p:=⟨v5.heap.size,3,none⟩) Tv (.slice A9 (AJ p2 (t+1)).length c9)).more (M:=N+31+20*(m-j)+5+(t+1)) (by omega));have HX9:=xf (ax (i:=3) (u:=.slice A9 (AJ p2 (t+1)).length c9) hx9);have HO9:=xf (ownsRow_setCell_below Jd (show(⟨v5.heap.size,3,none⟩:Addr).block<v5.heap.size+1 from Nat.lt_succ_self _) (.slice A9 (AJ p2 (t+1)).length c9))
        clear hown' hgrow hd Jd LI hx9;go_wp2;go_roundw
        case rel=>exact⟨t+1,by omega,by go_num,_,_,HK9.out,HH9.out,HX9.out,HO9.out⟩
        case measure=>simp[intOf];omega
       |false =>
        have HO9:Hid (w8.ownsRow (v5.heap.size+1) 3 1 (.slice yA (AJ p t).length yc) (AJ p2 (t+1)).length ((AJ p2 (t+1)).map (Value.int .i64))):=xf (by
         rw[HP.out,Yf.out,if_neg (by rw[HPT.out];simp)];simpa using HO8.out)
        clear LI;go_wp2;go_roundw
        case rel=>exact⟨t+1,by omega,by go_num,_,_,HK8.out,HH8.out,WV.out,HO9.out⟩
        case measure=>simp[intOf];omega
      .have agr:t=k:=by omega
       subst agr;have HH9:=xf hh;obtain⟨yA,yc,hyv,_⟩:=zG hown;subst hyv;have Xe:=xf (HP5.out.Jb hh CB);obtain⟨cu,fu,lu⟩:=Xe.out.cell;have x0:=(cell_of_heap Sr 0).1;have x1:=(cell_of_heap Sr 1).1;have x2:=(cell_of_heap Sr 2).1;have x3:=(cell_of_heap Sr 3).1;have aby:=Xe.out.CM;have HOE:=xf (Cj hown (show w.heap.size+2<=v5.heap.size+1 by have:=HP5.out.bs;omega));clear hh CB hown Sr
       go_wp2_with (at_builtin;refine wM rfl _ _ rfl (w.heap.size+2) _ _ _ rfl (aby.alloc _) ⟨wr.heap.size,0,none⟩ 1 [.int .i64 a3,.int .i64 a4,.int .i64 a5,.slice yA (AJ p t).length yc] rfl rfl ?c1 ?c2 ?c3 ?c4 ?_)
       case c1 =>
        intro q z hq;rw[Addr.add_lit,xG,xj _ _ _ _ (by simp)]
        match q,hq with
        |0,hq=>exact hq
        |1,hq=>exact hq
        |2,hq=>exact hq
        |3,hq=>exact hq
        |q+4,hq=>simp at hq
       case c2=>intro z hz;simp at hz;rcases hz with rfl|rfl|rfl|rfl<;>rfl
       case c3=>omega
       case c4=>have:=Xe.out.bs.2;simp;omega
       intro u' w9 hown' hgrow hd;obtain⟨gU,cU,rfl,_,_⟩:=hown'.form (by omega);have HPN:=xf (Xe.out.push (x:=⟨a3,a4,a5,AJ p t⟩) HOE.out (by rw[hhl];exact hown') hgrow hd);have hq9:=(Cu Xe.out.CM hgrow (w.heap.size+1) (by omega) (xg.1 Xe.out.DN).1).trans Xe.out.DN;have cq:=(cell_of_heap hq9 1).1;have fq:=(cell_of_heap hq9 1).2;have HHN:Hid (∀h∈hs++[(⟨a3,a4,a5,AJ p t⟩:Be)],Cm ns.length h=0):=xf λh hh=>by
        rcases ym.1 hh with hh|hh
        .exact HHS.out h hh
        .simp only[xu,xm,or_false] at hh;subst hh;unfold Cm;rw[if_pos (by simp[C2];omega),Yn];exact re p t
       clear hown' hgrow hd aby hq9;go_wp2;go_roundw
       case rel=>exact⟨j-1,by omega,by go_num,_,_,_,HPN.out.more (by omega),by simp[hhl];omega,HHN.out⟩
       case measure=>simp[intOf];omega
    .have agt:j=0:=by omega
     subst agt;obtain⟨nA,nc,hA,hc,rfl,rfl,hN1,Ye⟩:=HP.out.CZ;have TP:=xf hN1;have LZ:=xf Ye;have q0:=(cell_of_heap HP.out.DN 0).1;have q1:=(cell_of_heap HP.out.DN 1).1;have r0:=(cell_of_heap HP.out.Fu 0).1;have r1:=(cell_of_heap HP.out.Fu 1).1;have g0:=(cell_of_heap HP.out.Fu 0).2;have g1:=(cell_of_heap HP.out.Fu 1).2
     have Sw:Hid (AK ⟨ns,hs⟩=0):=xf (by
      unfold AK;have e1:Bb (ns.length:Int) 1 5=0:=dx.2 (by omega);have e2:Bb (hs.length:Int) 1 4=0:=dx.2 (by omega);rw[if_neg (by simp[e1]),if_neg,if_neg (by simp[e2])]
      .exact bz.2 fun x hx => by
        obtain⟨h,hh,rfl⟩:=xW.1 hx;exact HHS.out h hh
      .have : (ns.all fun x => C2 x 0 12) = true := xY.2 fun x hx => by
        have:=HNS.out x hx;simp[C2];omega
       rw[this];simp)
     have hhm:hs.length=m:=by omega
     have HKF:Hid (KT (·=hb) w ((wq.setCell ⟨w.heap.size,0,none⟩ (.slice nA k nc)).setCell ⟨w.heap.size,1,none⟩ (.slice hA m hc))):=xf ((HP.out.kt.set (p:=⟨w.heap.size,0,none⟩) (xh _) _).set (p:=⟨w.heap.size,1,none⟩) (xh _) _);have HHF:Hid (Hand ((wq.setCell ⟨w.heap.size,0,none⟩ (.slice nA k nc)).setCell ⟨w.heap.size,1,none⟩ (.slice hA m hc)) hb B A cap l (N+1000)):=xf (((HP.out.hand.set (p:=⟨w.heap.size,0,none⟩) hlt _).set (p:=⟨w.heap.size,1,none⟩) hlt _).more (by omega))
     have HRF:Hid (FC ((wq.setCell ⟨w.heap.size,0,none⟩ (.slice nA k nc)).setCell ⟨w.heap.size,1,none⟩ (.slice hA m hc)) (λb=>w.heap.size<=b/\b<((wq.setCell ⟨w.heap.size,0,none⟩ (.slice nA k nc)).setCell ⟨w.heap.size,1,none⟩ (.slice hA m hc)).heap.size) nA ns):=xf (eW hN1 (λb hb'=>⟨by omega,by have:=hb'.2;simpa [World.setCell] using this⟩) λb o hb'=>(xH (xD _ _ _ _ (by show b≠w.heap.size;omega))).trans (xH (xD _ _ _ _ (by show b≠w.heap.size;omega))))
     have HRG:Hid (Dj ((wq.setCell ⟨w.heap.size,0,none⟩ (.slice nA k nc)).setCell ⟨w.heap.size,1,none⟩ (.slice hA m hc)) (λb=>w.heap.size<=b/\b<((wq.setCell ⟨w.heap.size,0,none⟩ (.slice nA k nc)).setCell ⟨w.heap.size,1,none⟩ (.slice hA m hc)).heap.size) hA hs):=xf (gj Ye (λb hb'=>⟨by omega,by have:=hb'.2;simpa [World.setCell] using this⟩) λb o hb'=>(xH (xD _ _ _ _ (by show b≠w.heap.size;omega))).trans (xH (xD _ _ _ _ (by show b≠w.heap.size;omega))))
     clear hN1 Ye;go_wp2;have s1:=xE (wq.setCell ⟨w.heap.size,0,none⟩ (.slice nA k nc)) ⟨w.heap.size,1,none⟩ (.slice hA m hc) ((xq wq ⟨w.heap.size,0,none⟩ ⟨w.heap.size,1,none⟩ (.slice nA k nc) (by simp)).trans r1);have s0:=(xq (wq.setCell ⟨w.heap.size,0,none⟩ (.slice nA k nc)) ⟨w.heap.size,1,none⟩ ⟨w.heap.size,0,none⟩ (.slice hA m hc) (by simp)).trans (xE wq ⟨w.heap.size,0,none⟩ (.slice nA k nc) r0)
     refine bodyPost_ret (v:=.agg #[.slice nA k nc,.slice hA m hc]) (by simp[results,Tryz.results8,go_sem,s0,s1]) rfl ⟨⟨ns,hs⟩,nA,hA,nc,hc,by rw[<-Yn,<-hhm];rfl,AD.Ok.of Sw.out,Sw.out,HRF.out,HRG.out,HHF.out,HKF.out⟩
end Go.Proofs.Ao
namespace Go.Sq
open Go.RowKit
end Go.Sq
namespace Go.Proofs.Ao
open Go.RowKit Go.Sq
end Go.Proofs.Ao
namespace Go.Sq
open Go.RowKit
end Go.Sq
namespace Go.Proofs.Ao
open Go.RowKit Go.Sq
end Go.Proofs.Ao
namespace Go.Sq
open Go.RowKit
def RI.cell' {w:World}{B:Nat}{ad:Addr}{l:List Int}(h:RI w B (some ad) l)(hB:B<=w.heap.size):∀j u,(l.map (Value.int .i64))[j]?=some u->w.cell? (ad.add j)=some u/\(ad.add j).block<w.heap.size:=λj u hj=>by
 rw[yp] at hj;cases hx:l[j]? with
 |none=>rw[hx] at hj;cases hj
 |some x =>
  rw[hx] at hj;obtain⟨b,o,e,hb,hc⟩:=h (λe=>by rw[e] at hx;simp at hx);obtain rfl:ad=⟨b,o,none⟩:=by injection e
  have e2:(⟨b,o,none⟩:Addr).add j=⟨b,o+j,none⟩:=Addr.add_lit _ _ _;rw[e2];exact⟨by rw[hc j x hx];exact hj,by show b<_;omega⟩
end Go.Sq
namespace Go.Proofs.Ao
open Go.RowKit Go.Sq
def gm (A:Option Addr)(c:Nat)(l:List Int)(w:World)(B:Nat)(h:RI w B A l)(hB:B<=w.heap.size)(hl:l.length<=1048576) :
  Calls An 31 #[.slice A l.length c] w λe w'=>∃v,e=.returned v/\w'.ownsRow w.heap.size 3 1 v l.length (l.map (Value.int .i64))/\Gr w w':=by
 obtain⟨i0,hi,hz0,hz1,hz2⟩:=info_parts zN;have HR:=xf h;clear h;cases A with
 |none =>
  have hl0:l=[]:=by
   cases l with
   |nil=>rfl
   |cons x l=>obtain⟨_,_,e,_⟩:=HR.out (by simp);cases e
  subst hl0;go_enter Sq.func31,Tryz.ntmps31;go_wp2;go_ret;exact⟨_,rfl,zA w #[] 0 (xh _) (xK _) rfl,(Gr.refl w).alloc _⟩
 |some ad =>
  have HC:=xf (HR.out.cell' hB);go_enter Sq.func31,Tryz.ntmps31;go_wp2_with (at_builtin;refine Bh rfl _ _ 22 rfl w.heap.size 3 i0 (.int .i64 0) 1 8 Sq.underlying22 hi hz0 hz1 hz2 rfl (by decide) _ _ _ rfl (zA w #[] 0 (xh _) (xK _) rfl) ad l.length c (l.map (Value.int .i64)) rfl ?qc1 ?qc2 ?qc3 ?qc4 ?qc5 ?qc6 ?_)
  case qc1=>simp
  case qc2=>intro j u hj;exact(xH (yP _ _ _ (HC.out j u hj).2)).trans (HC.out j u hj).1
  case qc3=>intro u hu;obtain⟨x,_,rfl⟩:=xW.1 hu;rfl
  case qc4=>unfold maxLen;omega
  case qc5=>omega
  case qc6=>simp
  intro v' w1 hown hgrow hd;have hG:=xf (((Gr.refl w).alloc _).grown hgrow hd (by intro k hk;simp[Value.ownBlock] at hk;omega));have hO:=xf hown;clear hown hgrow hd;go_wp2;go_ret;exact⟨v',rfl,by simpa using hO.out,hG.out⟩
def pG (A:Option Addr)(c:Nat)(ls:List (List Int))(w:World)(h:BD w w.heap.size A ls)(hl:ls.length<=1048576)(hl2:∀x∈ls,x.length<=1048576) :
  Calls An 11 #[.slice A ls.length c] w λe w'=>∃v xs,e=.returned v/\AY w' w.heap.size v ls xs/\Gr w w':=by
 have HG:=xf h;have HL2:=xf hl2;clear h hl2;go_enter Sq.func11,Tryz.ntmps11;go_wp2;go_loopw [3,4] (λv i wr=>∃k:Nat,k<=ls.length/\i=.int .i64 k/\∃xs,AY wr w.heap.size v (ls.take k) xs/\Gr w wr) (λ_ i _=>ls.length-(intOf i).toNat)
 case atStart=>exact⟨0,by omega,rfl,[],AY.nil _ _,.refl _⟩
 case round =>
  obtain⟨k,hk,rfl,xs,Jj,hgr⟩:=hrel;have HO:=xf Jj;have D7:=xf hgr;by_cases hlt:k<ls.length
  .obtain⟨b,o,A',c',rfl,hb,hc,Ct⟩:=(HG.out.gr (xh _) hgr).at_ hlt;have Tp:=HL2.out _ (show ls[k]?.getD []∈ls by rw[xi hlt];exact yb hlt);have HTK:Hid (ls.take (k+1)=ls.take k++[ls[k]?.getD []]):=xf (by rw[zf,xi hlt];rfl);have hTL:(ls.take k).length=k:=by rw[List.length_take];omega
   generalize ls[k]?.getD []=row at hc Ct Tp HTK;have Su:=xf (gm A' c' row wr w.heap.size Ct (by have:=hgr.size;omega) Tp);have hz:=hgr.size;clear Jj hgr Ct;go_wp2_with fail;refine Su.out.mono ?_;rintro e w2 ⟨v2,rfl,hown2,hg2⟩;obtain⟨A2,c2,rfl,_⟩:=zG hown2;have Tb:=xf (HO.out.keep' (w':=w2) λb _ hb=>hg2.below.block b hb);have HOW:=xf (Cj hown2 hz);have Ea:=xf (D7.out.trans hg2);have hrow:=Tb.out.row
   rw[hTL] at hrow;have Oc:=xf hrow;clear hown2 hg2 Su;go_wp2_with (at_builtin;refine pn rfl _ _ rfl w.heap.size _ _ _ rfl (hrow.alloc _) ⟨w2.heap.size,0,none⟩ 1 (.slice A2 row.length c2) rfl ?c1 rfl ?c2 ?c3 ?_)
   case c1=>rw[Addr.add_lit,xj _ _ _ _ (by simp)];rfl
   case c2=>omega
   case c3=>have:=Ea.out.size;simp;omega
   intro v' w3 hown' hgrow hd;have D8:=xf ((Ea.out.alloc _).grown hgrow hd λq hq=>(Oc.out.lt q hq).1);have Ky:=xf (Tb.out.push (l:=row) HOW.out (λb hb'=>heap_alloc_old _ _ hb') (by simp) hgrow hTL.symm hown');clear hown' hgrow hd hrow;go_wp2;go_roundw
   case rel=>exact⟨k+1,by omega,by go_num,_,by rw[HTK.out];exact Ky.out,D8.out⟩
   case measure=>simp[intOf];omega
  .have E4:k=ls.length:=by omega
   subst E4;rw[List.take_length] at Jj;have HF:=xf Jj;clear Jj hgr HO;go_wp2;go_ret;exact⟨_,xs,rfl,HF.out,D7.out⟩
end Go.Proofs.Ao
namespace Go.Sq
open Go.RowKit
end Go.Sq
namespace Go.Proofs.Ao
open Go.RowKit Go.Sq
open Go.AW (ic jM iQ)
def Hu:Code->Code
 |.seq _ c=>c
 |c=>c
def EA:Code->Code
 |.seq c _=>c
 |c=>c
def Ik:Nat->Code->Code
 |0,c=>c
 |n+1,c=>Ik n (Hu c)
def _root_.Go.Sq.RI.on {w w':World}{A:Option Addr}{l:List Int}(h:RI w w.heap.size A l)(hg:Gr w w'):RI w' w'.heap.size A l:=(h.gr (xh _) hg).more hg.size
structure Made (c:AD)(nA hA gA:Option Addr)(cb:Nat)(nc hc:Nat)(ls:List (List Int))(W:World):Prop where
 lt:cb<W.heap.size
 c0:W.cell? ⟨cb,0,none⟩=some (.slice nA c.Aq.length nc)
 c1:W.cell? ⟨cb,1,none⟩=some (.slice hA c.Ap.length hc)
 Aq:RI W W.heap.size nA c.Aq
 CM:BG W W.heap.size hA c.Ap
 grid:BD W W.heap.size gA ls
end Go.Proofs.Ao
namespace Go.Sq
end Go.Sq
namespace Go.Proofs.Ao
open Go.RowKit Go.Sq
open Go.AW (ic jM iQ)
end Go.Proofs.Ao
namespace Go.Sq
open Go.RowKit
end Go.Sq
namespace Go.Proofs.Ao
open Go.RowKit Go.Sq
def IC {α:Type}(r:Nat->α)(i:Nat)(v:α):Nat->α:=λj=>if j=i then v else r j
def bH {α:Type}(r:Nat->α)(i:Nat)(v:α):IC r i v i=v:=if_pos rfl
def bB {α:Type}{r:Nat->α}{i j:Nat}{v:α}(h:j≠i):IC r i v j=r j:=if_neg h
def T (n:Nat)(u:Nat->Value):Array Value:=((List.range n).map u).toArray
def wX {l:List Value}:l.toArray=T l.length λi=>l[i]?.getD undef:=by
 unfold T;congr 1;refine List.ext_getElem (by simp) λi h1 h2=>?_;simp[h1]
def sV {P:Program}{c:Code}{Q:Exit->Act->World->Prop}{l:List Value}{ds:List Deferred}{w:World}(n:Nat)(hn:l.length=n)(h:∀u:Nat->Value,(∀i,u i=l[i]?.getD undef)->c.wp P Q ⟨T n u,ds⟩ w):c.wp P Q ⟨l.toArray,ds⟩ w:=by
 rw[wX,hn];exact h _ λ_=>rfl
end Go.Proofs.Ao
namespace Go.AW
def Jw (md:Region.Mode)(ops:Array Oper)(i:Nat):List Nat:=match ops[i]? with
 |some o=>(o.after.toList.filter (Region.binds md)).map (·.on)
 |none=>[]
def Fb {md:Region.Mode}{ops:Array Oper}{listed:Array Bool}{i:Nat}:i∈Region.ready md ops listed↔i<ops.size/\listed.getD i true=false/\∀j∈Jw md ops i,listed.getD j false=true:=by
 unfold Region.ready Jw;rw[yY,x9];refine and_congr_right λhi=>?_;rw[xp hi];simp only[yq,Option.getD_some,xC,yw,xW,yY,Array.mem_toList_iff];refine and_congr_right λ_=>?_;rw[xM];constructor
 .rintro h j ⟨e,⟨he,hb⟩,rfl⟩;have:=h e he;simpa [hb] using this
 .intro h e he;cases hb:Region.binds md e with
  |false=>rfl
  |true=>simpa using h e.on ⟨e,⟨he,hb⟩,rfl⟩
def mw (md:Region.Mode)(ops:Array Oper)(m:Nat):Bool :=
 (List.range m).all (λi=>(List.range' (i+1) (m-i)).any λj=>(Jw md ops j).contains i)&&(List.range' (m+1) (ops.size-m-1)).all (λi=>(Jw md ops i).contains (i-1))&&(List.range ops.size).all (λi=>(Jw md ops i).all λj=>decide (j<i)) &&
  (ops.toList.take m).all (λo=>match o.guard with|some (j,_)=>decide (j<m)|none=>true)&&decide (m<ops.size)
section
variable {md:Region.Mode} {ops:Array Oper} {m:Nat}
structure TG (md:Region.Mode)(ops:Array Oper)(m:Nat):Prop where
 up:∀i,i<m->∃j,i<j/\j<=m/\i∈Jw md ops j
 next:∀i,m<i->i<ops.size->i-1∈Jw md ops i
 lt:∀i,i<ops.size->∀j∈Jw md ops i,j<i
 guard:∀i o j b,i<m->ops[i]?=some o->o.guard=some (j,b)->j<m
 size:m<ops.size
def uE (h:mw md ops m=true):TG md ops m:=by
 simp only[mw,xC,xY,List.any_eq_true,x9,List.mem_range'_1,List.contains_iff_mem,decide_eq_true_eq] at h;obtain⟨⟨⟨⟨h1,h2⟩,h3⟩,h4⟩,h5⟩:=h;refine⟨λi hi=>?_,λi hi hn=>h2 i ⟨by omega,by omega⟩,h3,λi o j b hi ho hg=>?_,h5⟩
 .obtain⟨j,hj,hm⟩:=h1 i hi;exact⟨j,by omega,by omega,hm⟩
 .have:=h4 o (List.mem_iff_getElem?.2 ⟨i,by rw[yX,if_pos hi];simpa using ho⟩);rw[hg] at this;simpa using this
def filter_one {p:Nat->Bool}{n k:Nat}(hk:k<n)(h:∀i,i<n->(p i=true↔i=k)):(List.range n).filter p=[k]:=by
 have e:(List.range n).filter p=(List.range n).filter λi=>i==k:=List.filter_congr λi hi=>by
  have:=h i (x9.1 hi);cases hp:p i with
  |true=>simpa using(this.1 hp)
  |false =>
   have:i≠k:=λe=>by rw[this.2 e] at hp;cases hp
   simpa using this
 rw[e,List.filter_beq,List.count_range];simp[hk]
def en {l:Array Bool}{i:Nat}(h:i<l.size):l.getD i true=l.getD i false:=by
 simp[Array.getD,h]
end
end Go.AW
namespace Go.Sq
open Go.RowKit Go.AW Go.Proofs.Ao
variable {P:Program} {ops:Array Oper} {Q:Exit->Act->World->Prop} {n m:Nat} {u:Nat->Value} {ds:List Deferred} {w:World}
def gn {t:Nat}(h:t<n):(T n u)[t]?=some (u t):=by simp[T,h]
def GL:(T n u).size=n:=by simp[T]
def eX {t:Nat}(h:t<n):(⟨T n u,ds⟩:Act).eval (.tmp t)=u t:=by
 show(T n u).getD t undef=u t;rw[yu,gn h];rfl
def wN {d:Nat}{v:Value}:(T n u).setIfInBounds d v=T n (IC u d v):=by
 refine Array.ext (by rw[Array.size_setIfInBounds,GL,GL]) λi h1 h2=>?_;rw[GL] at h2;have e1:(T n (IC u d v))[i]?=some (IC u d v i):=gn h2;have e2:((T n u).setIfInBounds d v)[i]?=some (IC u d v i):=by
  rw[yH];split
  .rename_i e;subst e;rw[if_pos (by rw[GL];exact h2),bH]
  .rename_i e;rw[gn h2,bB (Ne.symm e)]
 rw[xp h1] at e2;rw[xp (by rw[GL];exact h2)] at e1;injection e1 with e1
 injection e2 with e2
 rw[e1,e2]
def DV (u:Nat->Value):Option Nat->Value->Nat->Value
 |some d,v=>IC u d v
 |none,_=>u
def iF {d:Option Nat}{v:Value}:(⟨T n u,ds⟩:Act).put d v=⟨T n (DV u d v),ds⟩:=by
 cases d with
 |none=>rfl
 |some d=>show Act.mk _ _=_;rw[wN];rfl
class Rfl (R:World->World->Prop):Prop where
 refl:∀w,R w w
class Goes (R:World->World->Prop):Prop extends Rfl R where
 trans:∀ {a b c},R a b->R b c->R a c
 drew:∀w,R w w.drew
instance:Goes Gr:={ refl:=Gr.refl,trans:=Gr.trans,drew:=λw=>(Gr.refl w).drew }
variable {R:World->World->Prop}
def Done (R:World->World->Prop)(P:Program)(ops:Array Oper)(Q:Exit->Act->World->Prop)(n:Nat)(ds:List Deferred)(i:Nat)(V:Value->World->Prop)(u:Nat->Value)(w:World):Prop :=
 wpOp P ops Q i (λa' w'=>∃v,a'=⟨T n (DV u ((ops[i]?).bind (·.dst)) v),ds⟩/\R w w'/\V v w') ⟨T n u,ds⟩ w
def Done.weak {R R':World->World->Prop}{i:Nat}{V:Value->World->Prop}(hR:∀w',R w w'->R' w w')(h:Done R P ops Q n ds i V u w):Done R' P ops Q n ds i V u w :=
 wpOp_mono (λ_ _ ⟨v,h1,h2,h3⟩=>⟨v,h1,hR _ h2,h3⟩) h
def Till (R:World->World->Prop)(J:World->Prop)(c i:Nat)(w w':World):Prop:=R w w'/\(i≠c->J w->J w')
def Ko (ops:Array Oper)(t:Nat):Bool:=ops.all λo=>o.dst != some t
structure Txt (md:Region.Mode)(ops:Array Oper)(m:Nat):Prop where
 lt:∀i,i<ops.size->∀j∈Jw md ops i,j<i
 one:∀(i j:Nat) (oi oj:Oper) (d:Nat),i<j->ops[i]?=some oi->ops[j]?=some oj->oi.dst=some d->oj.dst≠some d
 last:m=ops.size\/TG md ops m
def JU (md:Region.Mode)(ops:Array Oper)(m:Nat):Bool :=
 (List.range ops.size).all (λi=>(Jw md ops i).all λj=>decide (j<i))&&decide ((ops.toList.filterMap (·.dst)).Nodup)&&(decide (m=ops.size)||mw md ops m)
def MD {md:Region.Mode}(h:JU md ops m=true):Txt md ops m:=by
 simp only[JU,xC,xO,xY,x9,decide_eq_true_eq] at h;obtain⟨⟨h1,h2⟩,h3⟩:=h;refine⟨h1,λi j oi oj d hij hi hj hd hdj=>?_,h3.imp id uE⟩;obtain⟨l⟩:=ops;simp only[xT] at hi hj;dsimp only at h2;clear h1 h3
 induction l generalizing i j with
 |nil=>simp at hi
 |cons o l ih =>
  cases i with
  |zero =>
   simp only[List.getElem?_cons_zero,Option.some.injEq] at hi;subst hi;rw[List.filterMap_cons,hd] at h2;have:=(List.nodup_cons.1 h2).1;refine this (List.mem_filterMap.2 ⟨oj,?_,hdj⟩);cases j with
   |zero=>omega
   |succ j=>exact yI (by simpa using hj)
  |succ i =>
   cases j with
   |zero=>omega
   |succ j =>
    refine ih i j (by omega) ?_ (by simpa using hi) (by simpa using hj);rw[List.filterMap_cons] at h2;cases ho:o.dst with
    |none=>rw[ho] at h2;exact h2
    |some x=>rw[ho] at h2;exact(List.nodup_cons.1 h2).2
def bU {l:Array Bool}{i j:Nat}(hs:i<l.size){b:Bool}:(l.setIfInBounds i true).getD j b=if j=i then true else l.getD j b:=by
 rw[yu,yH,yu];by_cases e:i=j
 .subst e;simp[hs]
 .rw[if_neg e,if_neg (Ne.symm e)]
def pH {md:Region.Mode}(L:TG md ops m){k:Nat}{listed:Array Bool}(hk:k<ops.size)(hm:m<=k)(hs:listed.size=ops.size)(hl:∀i,i<ops.size->listed.getD i true=decide (i<k)):Region.ready md ops listed=[k]:=by
 have hd:∀j,j<ops.size->(listed.getD j false=true↔j<k):=λj hj=>by
  rw[<-en (by omega),hl j hj];simp
 refine filter_one hk λi hi=>?_;have Gl:=Fb (md:=md) (ops:=ops) (listed:=listed) (i:=i);unfold Region.ready at Gl;rw[yY,x9] at Gl;have:_↔_:=⟨λh=>(Gl.1 ⟨hi,h⟩).2,λh=>(Gl.2 ⟨hi,h⟩).2⟩;rw[this,hl i hi];constructor
 .rintro⟨h1,h2⟩;have h1:¬i<k:=by simpa using h1
  by_cases e:i=k
  .exact e
  .have:=(hd (i-1) (by omega)).1 (h2 _ (L.next i (by omega) hi));omega
 .rintro rfl;exact⟨by simp,λj hj=>(hd j (Nat.lt_trans (L.lt i hi j hj) hi)).2 (L.lt i hi j hj)⟩
def my {l:List Nat}(h:l.Nodup)(i:Nat):l.erase i=l.filter (· != i):=by
 induction l with
 |nil=>rfl
 |cons a l ih =>
  obtain⟨h1,h2⟩:=List.nodup_cons.1 h;rw[List.erase_cons,List.filter_cons];by_cases e:a=i
  .subst e;simp only[beq_self_eq_true,if_true,bne_self_eq_false,xJ,if_false]
   exact(List.filter_eq_self.2 λb hb=>by
    have:b≠a:=λe=>h1 (e▸hb)
    simpa using this).symm
  .have e1:(a==i)=false:=by simpa using e
   have e2:(a != i)=true:=by simpa using e
   rw[e1,e2];simp only[xJ,if_false,if_true];rw[ih h2]
def sW {md:Region.Mode}(L:TG md ops m):∀(d k:Nat) (listed:Array Bool) (a:Act) (w:World),k+d=ops.size->m<=k->listed.size=ops.size->(∀i,i<ops.size->listed.getD i true=decide (i<k))->wpOps P ops Q (List.range' k d) a w->wpAny P md ops Q d listed a w:=by
 intro d
 induction d with
 |zero =>
  intro k listed a w hk hm hs hl h;refine⟨List.eq_nil_iff_forall_not_mem.2 λi hi=>?_,h⟩;obtain⟨h1,h2,_⟩:=Fb.1 hi;rw[hl i h1] at h2;simp at h2;omega
 |succ d ih =>
  intro k listed a w hk hm hs hl h;have hr:=pH L (by omega) hm hs hl;refine⟨λe=>(by rw[hr] at e;cases e),λi hi=>?_⟩;rw[hr] at hi;obtain rfl:i=k:=by simpa using hi
  rw[List.range'_succ,wpOps_cons] at h;refine wpOp_mono (λa w h=>ih (i+1) _ a w (by omega) (by omega) (by simpa using hs) (λj hj=>?_) h) h;rw[bU (by omega),hl j hj];by_cases e:j=i
  .subst e;simp
  .rw[if_neg e];exact decide_eq_decide.2 (by omega)
def uF [Goes R](c:Nat)(J:World->Prop)(s dS:Nat)(S:(Nat->Value)->World->Prop)(hS1:∀u w w',R w w'->S u w->S u w')(hS2:∀u w d v,d≠dS->S u w->S (IC u d v) w){md:Region.Mode}(X:Txt md ops m)(hS3:s<m->∀i,i<ops.size->(ops[i]?).bind (·.dst)=some dS->i∈Jw md ops s)(V:Nat->Value->World->Prop)(Ha:∀i v w w',R w w'->V i v w->V i v w'){w0:World}{u0:Nat->Value}
  (step:∀i,i<m->∀u w,R w0 w->(∀t,Ko ops t=true->u t=u0 t)->(∀j o t,i∈Jw md ops j->ops[j]?=some o->o.dst=some t->u t=u0 t)->(∀j∈Jw md ops i,∀o d,ops[j]?=some o->o.dst=some d->V j (u d) w)->(i=c->J w)->Done (Till R J c i) P ops Q n ds i (λv w'=>V i v w'/\(i=s->S (DV u ((ops[i]?).bind (·.dst)) v) w')) u w)
  (fin:∀u w,R w0 w->(∀t,Ko ops t=true->u t=u0 t)->(∀i,i<m->∀o d,ops[i]?=some o->o.dst=some d->V i (u d) w)->(s<m->S u w)->wpOps P ops Q (List.range' m (ops.size-m)) ⟨T n u,ds⟩ w) :
  ∀(fuel:Nat) (listed:Array Bool) (u:Nat->Value) (w:World),listed.size=ops.size->((List.range ops.size).filter λi=>!listed.getD i true).length=fuel->R w0 w->(∀t,(∀j o,ops[j]?=some o->o.dst=some t->listed.getD j true=false)->u t=u0 t)->(∀i,i<m->listed.getD i true=true->∀o d,ops[i]?=some o->o.dst=some d->V i (u d) w)->(∀i,m<=i->i<ops.size->listed.getD i true=false) ->
   (∀i,i<m->listed.getD i true=true->∀j∈Jw md ops i,listed.getD j true=true)->(listed.getD c true=false->J w)->(s<m->listed.getD s true=true->S u w)->wpAny P md ops Q fuel listed ⟨T n u,ds⟩ w:=by
 have abA:m<=ops.size:=by
  rcases X.last with h|h
  .omega
  .have:=h.size;omega
 have JV:∀ {t:Nat} {listed:Array Bool},Ko ops t=true->∀j o,ops[j]?=some o->o.dst=some t->listed.getD j true=false:=λ{t} {listed} ht j o hj hd=>by
  unfold Ko at ht;rw[xM] at ht;have:=ht _ (xP hj);rw[hd] at this;simp at this
 intro fuel
 induction fuel with
 |zero =>
  intro listed u w hs hc hg hf hv BU OE hj hSS;have hall:∀i,i<ops.size->listed.getD i true=true:=λi hi=>by
   cases hb:listed.getD i true with
   |true=>rfl
   |false =>
    have:i∈(List.range ops.size).filter λi=>!listed.getD i true:=yY.2 ⟨x9.2 hi,by rw[hb];rfl⟩;rw[xU hc] at this;cases this
  have hm:m=ops.size:=by
   rcases yf abA with h|h
   .have:=BU m (xh _) h;rw[hall m h] at this;cases this
   .exact h
  refine⟨List.eq_nil_iff_forall_not_mem.2 λi hi=>?_,?_⟩
  .obtain⟨h1,h2,_⟩:=Fb.1 hi;rw[hall i h1] at h2;cases h2
  .have:=fin u w hg (λt ht=>hf t (JV ht)) (λi hi=>hv i hi (hall i (by omega))) (λhsm=>hSS hsm (hall s (by omega)));rw[hm,Nat.sub_self] at this;exact this
 |succ fuel ih =>
  intro listed u w hs hc hg hf hv BU OE hj hSS;by_cases hex:∃i,i<m/\listed.getD i true=false
  .refine⟨λhr=>?_,λi hi=>?_⟩
   .exfalso;have hno:∀k i,i<=k->i<m->listed.getD i true=true:=by
     intro k
     induction k using Nat.strongRecOn with
     |ind k ihk =>
      intro i hik hi;cases hb:listed.getD i true with
      |true=>rfl
      |false =>
       have:i∈Region.ready md ops listed:=Fb.2 ⟨by omega,hb,λj hj=>by
        have:=X.lt i (by omega) j hj;rw[<-en (by omega)]
        exact ihk j (by omega) j (xh _) (by omega)⟩
       rw[hr] at this;cases this
    obtain⟨i,h1,h2⟩:=hex;rw[hno i i (xh _) h1] at h2;cases h2
   .obtain⟨h1,h2,h3⟩:=Fb.1 hi;have him:i<m:=by
     rcases X.last with h|L
     .omega
     .refine Nat.not_le.1 λhle=>?_;have hup:∀d i0,i0+d=m->i0<m->listed.getD i0 true=false->listed.getD m true=true\/(∀j∈Jw md ops m,listed.getD j true=true)->False:=by
       intro d
       induction d using Nat.strongRecOn with
       |ind d ihd =>
        intro i0 hd Sa F8 hor;obtain⟨j,hj1,hj2,TW⟩:=L.up i0 Sa;rcases yf hj2 with hj|hj
        .cases hb:listed.getD j true with
         |false=>exact ihd (m-j) (by omega) j (by omega) hj hb hor
         |true =>
          have:=OE j hj hb i0 TW;rw[F8] at this;cases this
        .subst hj;rcases hor with h|h
         .rw[BU j (xh _) L.size] at h;cases h
         .rw[h i0 TW] at F8;cases F8
      obtain⟨i0,Sa,F8⟩:=hex;rcases yf hle with hlt|he
      .have:=h3 (i-1) (L.next i hlt h1);rw[<-en (by omega),BU (i-1) (by omega) (by omega)] at this;cases this
      .subst he
       exact hup (m-i0) i0 (by omega) Sa F8 (.inr λj hj=>by
        have:=h3 j hj;have:=L.lt m h1 j hj
        rw[en (by omega)];exact h3 j hj)
    have agx:∀j∈Jw md ops i,∀o d,ops[j]?=some o->o.dst=some d->V j (u d) w:=λj hj o d ho hd=>by
     have:=X.lt i h1 j hj;exact hv j (by omega) (by rw[en (by omega)];exact h3 j hj) o d ho hd
    refine wpOp_mono ?_ (step i him u w hg (λt ht=>hf t (JV ht)) (λj o t hij hj hd=>hf t λj' o' hj' Vj=>?_) agx λe=>hj (by rw[<-e];exact h2))
    rotate_left
    .have TR : j' = j := by
      rcases Nat.lt_trichotomy j' j with h|h|h
      .exact absurd hd (X.one j' j _ _ _ h hj' hj Vj)
      .exact h
      .exact absurd Vj (X.one j j' _ _ _ h hj hj' hd)
     subst TR;have hjs:j'<ops.size:=(xg.1 hj').1;by_cases hjm:j'<m
     .cases hb:listed.getD j' true with
      |false=>rfl
      |true =>
       have:=OE j' hjm hb i hij;rw[h2] at this;cases this
     .exact BU j' (by omega) hjs
    rintro a' w' ⟨v,rfl,⟨hgr,TR⟩,hV,hVS⟩;refine ih _ _ w' (by simpa using hs) ?_ (Goes.trans hg hgr) (λt ht=>?_) (λj hj hl o d ho hd=>?_) (λj hj Ng=>?_) (λj hj hl k hk=>?_) (λhl=>?_) λhsm hl=>?_
    .have e : ((List.range ops.size).filter fun j => !(listed.setIfInBounds i true).getD j true) = ((List.range ops.size).filter fun j => !listed.getD j true).erase i := by
      rw[my (List.nodup_range.filter _),List.filter_filter];refine List.filter_congr λj hj=>?_;rw[bU (by omega)];by_cases e:j=i
      .simp[e]
      .simp[e]
     rw[e,List.length_erase_of_mem (yY.2 ⟨x9.2 h1,by rw[h2];rfl⟩),hc];rfl
    .have OD : ops[i].dst ≠ some t := fun e => by
      have:=ht i ops[i] (xp h1) e;rw[bU (by omega),if_pos rfl] at this;cases this
     have:DV u ((ops[i]?).bind (·.dst)) v t=u t:=by
      rw[xp h1];show DV u ops[i].dst v t=u t;cases RZ:ops[i].dst with
      |none=>rfl
      |some d=>exact bB λe=>OD (by rw[RZ,e])
     rw[this];refine hf t λj o hj hd=>?_;have:=ht j o hj hd;rw[bU (by omega)] at this;by_cases e:j=i
     .rw[if_pos e] at this;cases this
     .rwa [if_neg e] at this
    .rw[bU (by omega)] at hl;by_cases e:j=i
     .subst e;rw[ho];show V j (DV u o.dst v d) w';rw[hd];show V j (IC u d v d) w';rw[bH];exact hV
     .rw[if_neg e] at hl;have:DV u ((ops[i]?).bind (·.dst)) v d=u d:=by
       rw[xp h1];show DV u ops[i].dst v d=u d;cases RZ:ops[i].dst with
       |none=>rfl
       |some d' =>
        refine bB λe'=>?_;subst e';rcases Nat.lt_or_gt_of_ne e with h|h
        .exact X.one j i _ _ _ h ho (xp h1) hd RZ
        .exact X.one i j _ _ _ h (xp h1) ho RZ hd
      rw[this];exact Ha _ _ _ _ hgr (hv j hj hl o d ho hd)
    .rw[bU (by omega),if_neg (by omega)];exact BU j hj Ng
    .rw[bU (by omega)] at hl;rw[bU (by omega)];by_cases ek:k=i
     .rw[if_pos ek]
     .rw[if_neg ek];by_cases e:j=i
      .subst e;have:=X.lt j h1 k hk;rw[en (by omega)];exact h3 k hk
      .rw[if_neg e] at hl;exact OE j hj hl k hk
    .rw[bU (by omega)] at hl;by_cases e:c=i
     .rw[if_pos e] at hl;cases hl
     .rw[if_neg e] at hl;exact TR (Ne.symm e) (hj hl)
    .rw[bU (by omega)] at hl;by_cases e:s=i
     .exact hVS e.symm
     .rw[if_neg e] at hl;have hS:=hS1 _ _ _ hgr (hSS hsm hl);rw[xp h1];show S (DV u ops[i].dst v) w';cases RZ:ops[i].dst with
      |none=>exact hS
      |some d =>
       refine hS2 _ _ _ _ (λed=>?_) hS;subst ed;have:=OE s hsm hl i (hS3 hsm i h1 (by rw[xp h1];exact RZ));rw[h2] at this;cases this
  .have hall : ∀ i, i < m -> listed.getD i true = true := fun i hi => by
    cases hb:listed.getD i true with
    |true=>rfl
    |false=>exact absurd ⟨i,hi,hb⟩ hex
   have Gi:=fin u w hg (λt ht=>hf t (JV ht)) (λi hi=>hv i hi (hall i hi)) λhsm=>hSS hsm (hall s hsm);have hl:∀i,i<ops.size->listed.getD i true=decide (i<m):=λi hi=>by
    by_cases h:i<m
    .rw[hall i h];simp[h]
    .rw[BU i (by omega) hi];simp[h]
   have ME:ops.size-m=fuel+1:=by
    rw[<-hc];have e:((List.range ops.size).filter λi=>!listed.getD i true)=List.range' m (ops.size-m):=by
     have h1:List.range ops.size=List.range' 0 m++List.range' m (ops.size-m):=by
      have:=List.range'_append (s:=0) (m:=m) (n:=ops.size-m) (step:=1);rw[Nat.one_mul,xG] at this;rw[List.range_eq_range',this];congr 1;omega
     rw[h1,zw];have h2:(List.range' 0 m).filter (λi=>!listed.getD i true)=[]:=List.filter_eq_nil_iff.2 λi hi=>by
      have:=List.mem_range'_1.1 hi;rw[hall i (by omega)];simp
     have h3:(List.range' m (ops.size-m)).filter (λi=>!listed.getD i true)=List.range' m (ops.size-m):=List.filter_eq_self.2 λi hi=>by
      have:=List.mem_range'_1.1 hi;rw[BU i (by omega) (by omega)];rfl
     rw[h2,h3];rfl
    rw[e,List.length_range']
   rcases X.last with h|L
   .omega
   .rw[ME] at Gi;exact sW L (fuel+1) m listed _ w (by omega) (xh _) hs hl Gi
variable {R:World->World->Prop} {ops:Array Oper} {Q:Exit->Act->World->Prop} {n m:Nat} {u:Nat->Value} {ds:List Deferred} {w w':World}
def opAt (ops:Array Oper)(i:Nat):Option (Option Tmp×Op×Option (Nat×Bool)×TypeId):=(ops[i]?).map λo=>(o.dst,o.op,o.guard,o.type)
def Hv {i:Nat}{d:Option Tmp}{op:Op}{g:Option (Nat×Bool)}{t:TypeId}(h:opAt ops i=some (d,op,g,t)):∃o,ops[i]?=some o/\o.dst=d/\o.op=op/\o.guard=g/\o.type=t:=by
 unfold opAt at h;cases ho:ops[i]? with
 |none=>rw[ho] at h;cases h
 |some o=>rw[ho] at h;cases h;exact⟨o,rfl,rfl,rfl,rfl,rfl⟩
def Lets (ops:Array Oper)(n:Nat)(u:Nat->Value):Option (Nat×Bool)->Prop
 |none=>True
 |some (j,b)=>∃d,(opAt ops j).bind (·.1)=some d/\d<n/\u d=.bool b
def kR {o:Oper}(h:Lets ops n u o.guard):Region.wanted o (yielded ops (T n u))=true:=by
 unfold Region.wanted;cases hg:o.guard with
 |none=>rfl
 |some q =>
  obtain⟨j,b⟩:=q;rw[hg] at h;obtain⟨d,h1,h2,h3⟩:=h;have e:(ops[j]?).bind (·.dst)=some d:=by
   unfold opAt at h1;cases ho:ops[j]? with
   |none=>rw[ho] at h1;cases h1
   |some o=>rw[ho] at h1;exact h1
  simp only[yielded,e,yd,gn h2,h3];simp
def oa {i:Nat}{d:Option Tmp}{op:Op}{g:Option (Nat×Bool)}{t:TypeId}{V:Value->World->Prop}(h:opAt ops i=some (d,op,g,t))(hl:Lets ops n u g)
  (hw:∀o:Oper,o.dst=d->o.op=op->o.type=t->Oper.wp An o ⟨T n u,ds⟩ w (λa' w'=>∃v,a'=⟨T n (DV u d v),ds⟩/\R w w'/\V v w') Q):Done R An ops Q n ds i V u w:=by
 obtain⟨o,h1,h2,h3,h4,h5⟩:=Hv h;unfold Done wpOp;simp only[h1];rw[if_pos (kR (by rw[h4];exact hl))];refine .inl ?_;have e:((some o:Option Oper).bind (·.dst))=d:=h2;rw[e];exact hw o h2 h3 h5
def Sz (n:Nat)(u:Nat->Value)(ev:Operand->Value):Prop:=(∀t,t<n->ev (.tmp t)=u t)/\(∀c,ev (.const c)=c)/\∀f,ev (.func f)=.func (.func f) #[] #[]
def fJ:Sz n u (Act.eval ⟨T n u,ds⟩):=⟨λ_ h=>eX h,λ_=>rfl,λ_=>rfl⟩
@[go_sem] def Kq (op:Op)(t:TypeId):Oper:={ dst:=none,op:=op,type:=t,pos := "",after:=#[],guard:=none }
def fK {ev:Operand->Value}{o:Oper}:execOp ev o=execOp ev (Kq o.op o.type):=by
 unfold execOp Kq
 rfl
def Sz.t {ev:Operand->Value}(h:Sz n u ev)(t:Nat)(ht:t<n:=by decide):ev (.tmp t)=u t:=h.1 t ht
def aw {j d:Nat}{b:Bool}(h:u d=.bool b)(h1:(opAt ops j).bind (·.1)=some d:=by rfl)(h2:d<n:=by decide):Lets ops n u (some (j,b)):=⟨d,h1,h2,h⟩
def ck {i:Nat}{d:Option Tmp}{op:Op}{g:Option (Nat×Bool)}{t:TypeId}{V:Value->World->Prop}(h:opAt ops i=some (d,op,g,t))(v:Value)(w':World)
  (hr:∀ev,Sz n u ev->(execOp ev (Kq op t)).run An w=.ok (.value v) w') (hg:R w w') (hV:V v w') (hl:Lets ops n u g:=by trivial):Done R An ops Q n ds i V u w:=by
 refine oa h hl λo h1 h2 h3=>?_;unfold Oper.wp;rw[fK,h2,h3,hr _ fJ];rw[Oper.upon_value];refine⟨v,?_,hg,hV⟩;rw[h1];exact iF
def kS {f:FuncId} {args:Array Operand} {ats:Array TypeId} {t:TypeId} {fn:Func} (hf:An.funcs[f]?=some fn) {vals:Array Value} (ha:∀ev,Sz n u ev->args.map ev=vals) (hn:(fn.name == "runtime.NumGoroutine")=false) (hb:fn.body.isNone=false) :
  (execOp (Act.eval ⟨T n u,ds⟩) (Kq (.call { callee:=.value (.func f),args:=args,argTypes:=ats }) t)).run An w=.ok (.enter f vals) w:=by
 unfold execOp Kq;have e1:=ha _ (fJ (ds:=ds));have e2:=(fJ (n:=n) (u:=u) (ds:=ds)).2.2 f;have R9:fn.name ≠ "runtime.NumGoroutine":=by simpa using hn
 have hb':fn.body≠none:=λe=>by rw[e] at hb;cases hb
 simp[resolve,e1,e2,Deferred.ofValue,invoke,callFunc,hf,R9,hb']
def aL {i:Nat}{d:Option Tmp}{f:FuncId}{args:Array Operand}{ats:Array TypeId}{g:Option (Nat×Bool)}{t:TypeId}{V:Value->World->Prop}(h:opAt ops i=some (d,.call { callee:=.value (.func f),args:=args,argTypes:=ats },g,t)){fn:Func}(hf:An.funcs[f]?=some fn)(vals:Array Value)
  (ha:∀ev,Sz n u ev->args.map ev=vals) (hc:Calls An f vals w λe w'=>∃v,e=.returned v/\R w w'/\V v w') (hl:Lets ops n u g:=by trivial) (hn:(fn.name == "runtime.NumGoroutine")=false:=by kernel_rfl) (hb:fn.body.isNone=false:=by kernel_rfl):Done R An ops Q n ds i V u w:=by
 refine oa h hl λo h1 h2 h3=>?_;unfold Oper.wp;rw[fK,h2,kS hf ha hn hb,Oper.upon_enter];refine hc.mono ?_;rintro e w' ⟨v,rfl,h5,h6⟩;refine⟨v,?_,h5,h6⟩;rw[h1];exact iF
def am [Rfl R]{i:Nat}{d:Option Tmp}{op:Op}{g:Option (Nat×Bool)}{t:TypeId}{x:Value}(h:opAt ops i=some (d,op,g,t))(hr:∀ev,Sz n u ev->(execOp ev (Kq op t)).run An w=.ok (.value x) w)(hl:Lets ops n u g:=by trivial):Done R An ops Q n ds i (λv _=>v=x) u w :=
 ck h x w hr (Rfl.refl _) rfl hl
def ai [Rfl R]{i:Nat}{d:Option Tmp}{t:Nat}{g:Option (Nat×Bool)}{ty:TypeId}{V:Value->World->Prop}(h:opAt ops i=some (d,.move (.tmp t),g,ty))(hV:V (u t) w)(hl:Lets ops n u g:=by trivial)(ht:t<n:=by decide):Done R An ops Q n ds i V u w :=
 ck h (u t) w (λev he=>by show(pure _:Sem Next).run _ _=_;rw[he.1 t ht];rfl) (Rfl.refl _) hV hl
def aP [Rfl R]{i:Nat}{d:Option Tmp}{t:Nat}{g:Option (Nat×Bool)}{ty:TypeId}{V:Value->World->Prop}(h:opAt ops i=some (d,.assign (.tmp t),g,ty))(hV:V (u t) w)(hl:Lets ops n u g:=by trivial)(ht:t<n:=by decide):Done R An ops Q n ds i V u w :=
 ck h (u t) w (λev he=>by show(pure _:Sem Next).run _ _=_;rw[he.1 t ht];rfl) (Rfl.refl _) hV hl
def io [Rfl R]{i:Nat}{d:Option Tmp}{c:Value}{g:Option (Nat×Bool)}{ty:TypeId}{V:Value->World->Prop}(h:opAt ops i=some (d,.assign (.const c),g,ty))(hV:V c w)(hl:Lets ops n u g:=by trivial):Done R An ops Q n ds i V u w :=
 ck h c w (λev he=>by show(pure _:Sem Next).run _ _=_;rw[he.2.1 c];rfl) (Rfl.refl _) hV hl
def bu [Rfl R]{i j:Nat}{d:Option Tmp}{t:Nat}{g:Option (Nat×Bool)}{ty:TypeId}{V:Value->World->Prop}(h:opAt ops i=some (d,.extract (.tmp t) j,g,ty)){X:Array Value}(e:u t=.tuple X){x:Value}(hx:X[j]?=some x)(hV:V x w)(hl:Lets ops n u g:=by trivial)(ht:t<n:=by decide):Done R An ops Q n ds i V u w :=
 ck h x w (λev he=>by
  have e1:=(he.1 t ht).trans e;unfold execOp Kq
  simp[e1,Instr.extract,hx]) (Rfl.refl _) hV hl
def Ef (L:List Int)(v:Value)(w:World):Prop:=∃A k,v=.slice A L.length k/\RI w w.heap.size A L
def Kr (L:List Int)(E:Int)(v:Value)(w:World):Prop:=∃x,v=.tuple #[x,.int .i64 E]/\Ef L x w
def _root_.Go.Sq.RI.on' {w w':World}{A:Option Addr}{l:List Int}(h:RI w w.heap.size A l)(hg:Gr w w'):RI w' w'.heap.size A l:=(h.gr (xh _) hg).more hg.size
end Go.Sq
namespace Go.Proofs.Ao
open Go.RowKit Go.Sq Go.AW
variable {R:World->World->Prop} {ops:Array Oper} {Q:Exit->Act->World->Prop} {n m:Nat} {u:Nat->Value} {ds:List Deferred} {w w':World}
end Go.Proofs.Ao
