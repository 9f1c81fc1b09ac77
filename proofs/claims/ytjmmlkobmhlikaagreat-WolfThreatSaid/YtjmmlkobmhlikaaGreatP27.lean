/- Parts of the proof. -/
import Derived.Test.YtjmmlkobmhlikaaGreatP25
import Derived.Test.YtjmmlkobmhlikaaGreatP26
import Derived.Test.YtjmmlkobmhlikaaGreatP23
import Derived.Test.YtjmmlkobmhlikaaGreatP24
import Derived.Test.YtjmmlkobmhlikaaGreatP22
import Derived.Test.YtjmmlkobmhlikaaGreatP17
import Derived.Test.YtjmmlkobmhlikaaGreatP21
import Derived.Orders
import Derived.Deep.Quiet
set_option linter.all false
set_option maxHeartbeats 6400000
set_option maxRecDepth 1000000
namespace Go.Proofs.YtjmmlkobmhlikaaGreat
open Go.RowKit Go.Sq
open Go.Iso (gj iY gT)
def cSnd:Code->Code
 |.seq _ c=>c
 |c=>c
def cFst:Code->Code
 |.seq c _=>c
 |c=>c
def cDrop:Nat->Code->Code
 |0,c=>c
 |n+1,c=>cDrop n (cSnd c)
structure Made (c:Camp)(nA hA gA:Option Addr)(cb:Nat)(nc hc:Nat)(ls:List (List Int))(W:World):Prop where
 lt:cb<W.heap.size
 c0:W.cell? ⟨cb,0,none⟩=some (.slice nA c.needs.length nc)
 c1:W.cell? ⟨cb,1,none⟩=some (.slice hA c.herders.length hc)
 needs:RI W W.heap.size nA c.needs
 herds:HsAt W W.heap.size hA c.herders
 grid:GrAt W W.heap.size gA ls
structure MadeK (c:Camp)(nA hA:Option Addr)(v:Value)(cb nc hc lo:Nat)(ls:List (List Int))(xs:List Value)(W:World):Prop where
 bd:lo<=cb/\cb<W.heap.size
 c0:W.cell? ⟨cb,0,none⟩=some (.slice nA c.needs.length nc)
 c1:W.cell? ⟨cb,1,none⟩=some (.slice hA c.herders.length hc)
 needs:RIK W (λb=>lo<=b/\b<W.heap.size) nA c.needs
 herds:HsAtK W (λb=>lo<=b/\b<W.heap.size) hA c.herders
 grid:OwnGrid W lo v ls xs
section
variable {c:Camp} {nA hA:Option Addr} {v:Value} {cb nc hc lo:Nat} {ls:List (List Int)} {xs:List Value} {W W':World}
def MadeK.keep (h:MadeK c nA hA v cb nc hc lo ls xs W)(hz:W.heap.size<=W'.heap.size)(hk:∀b,lo<=b->b<W.heap.size->W'.heap[b]?=W.heap[b]?):MadeK c nA hA v cb nc hc lo ls xs W':=by
 obtain⟨h1,h2⟩:=h.bd
 have hc':∀b o,lo<=b/\b<W.heap.size->W'.cell? ⟨b,o,none⟩=W.cell? ⟨b,o,none⟩:=λb o hb=>World.cell?_of_block (hk b hb.1 hb.2)
 exact⟨⟨h1,by omega⟩,(hc' _ _ ⟨h1,h2⟩).trans h.c0,(hc' _ _ ⟨h1,h2⟩).trans h.c1,de h.needs (λb hb=>⟨hb.1,by omega⟩) hc',ir h.herds (λb hb=>⟨hb.1,by omega⟩) hc',h.grid.keep' hk⟩
def MadeK.deal {hb:Nat}(h:MadeK c nA hA v cb nc hc lo ls xs W)(hb':hb<lo)(k:KT (·=hb) W W'):MadeK c nA hA v cb nc hc lo ls xs W':=h.keep k.size λb h1 h2=>k.block b h2 (by omega)
def MadeK.made {gA:Option Addr}{gc:Nat}(h:MadeK c nA hA (.slice gA ls.length gc) cb nc hc lo ls xs W):Made c nA hA gA cb nc hc ls W:=by
 obtain⟨A,k,e,hg⟩:=h.grid.grAt
 injection e with e1 e2 e3
 subst e1
 exact⟨h.bd.2,h.c0,h.c1,h.needs.ri λb hb=>hb.2,h.herds.hs λb hb=>hb.2,hg⟩
end
end Go.Proofs.YtjmmlkobmhlikaaGreat
namespace Go.Sq
end Go.Sq
namespace Go.Proofs.YtjmmlkobmhlikaaGreat
open Go.RowKit Go.Sq
end Go.Proofs.YtjmmlkobmhlikaaGreat
namespace Go.Sq
open Go.RowKit
def nO (k:Nat):((List.range k).map λn:Nat=>(n:Int)).Nodup:=by
 rw[List.nodup_iff_pairwise_ne,List.pairwise_map]
 exact List.pairwise_lt_range.imp λh=>by omega
end Go.Sq
namespace Go.Proofs.YtjmmlkobmhlikaaGreat
open Go.RowKit Go.Sq
end Go.Proofs.YtjmmlkobmhlikaaGreat
namespace Go.Sq
open Go.RowKit
def RsAt_own {w:World}{base:Nat}{e:TypeId}{v:Value}{l:List (Int×Int)}(h:w.ownsRow base e 2 v l.length (ao l)):∃A c,v=.slice A l.length c/\RsAt w w.heap.size A l/\l.length<=c:=by
 rcases h.2 with⟨rfl,h0⟩|⟨g,cap,cur,rfl,_,hg,hc,_⟩
 ·have:l=[]:=List.eq_nil_of_length_eq_zero h0
  subst this
  exact⟨none,0,rfl,λh=>absurd rfl h,Nat.le_refl _⟩
 ·refine⟨_,cap,rfl,λ_=>⟨g,0,rfl,(Array.getElem?_eq_some_iff.1 hg).1,λi x hx=>?_⟩,hc⟩
  have hi:=(List.getElem?_eq_some_iff.1 hx).1
  have hx':l[i]?.getD (0,0)=x:=by rw[hx];rfl
  have e:∀j,(⟨g,0,none⟩:Addr).add j=⟨g,0+j,none⟩:=λj=>by unfold Addr.add;split<;>simp_all
  have h1:=h.cells (g:=g) rfl _ _ (cW hi).1
  have h2:=h.cells (g:=g) rfl _ _ (cW hi).2
  rw[e,hx'] at h1 h2
  exact⟨h1,by rw[Nat.add_assoc];exact h2⟩
end Go.Sq
namespace Go.Proofs.YtjmmlkobmhlikaaGreat
open Go.RowKit Go.Sq
def uB:(uZ.info? 40).map (λi=>(i.zero,i.size,i.bytes))=some (some (.agg #[.int .i64 0,.int .i64 0]),2,16):=by
 rw[ur];kernel_rfl
end Go.Proofs.YtjmmlkobmhlikaaGreat
namespace Go.Sq
open Go.RowKit
end Go.Sq
namespace Go.Proofs.YtjmmlkobmhlikaaGreat
open Go.RowKit Go.Sq
open Go.RowKit Go.Sq
open Go.Iso (gj iY gT)
end Go.Proofs.YtjmmlkobmhlikaaGreat
namespace Go.Sq
open Go.RowKit
def RsK_own {w:World}{base:Nat}{e:TypeId}{v:Value}{l:List (Int×Int)}(h:w.ownsRow base e 2 v l.length (ao l)):∃A c,v=.slice A l.length c/\RsK w (λb=>base<=b/\b<w.heap.size) A l/\l.length<=c:=by
 obtain⟨A,c,rfl,h2,h3⟩:=RsAt_own h
 refine⟨A,c,rfl,λhn=>?_,h3⟩
 obtain⟨b,o,rfl,hb,hc⟩:=h2 hn
 exact⟨b,o,rfl,⟨(h.lt b rfl).1,hb⟩,hc⟩
def RsK.rs {W:World}{K:Nat->Prop}{B:Nat}{A:Option Addr}{q:List (Int×Int)}(h:RsK W K A q)(hK:∀b,K b->b<B):RsAt W B A q:=λhn=>by
 obtain⟨b,o,e,h1,h2⟩:=h hn
 exact⟨b,o,e,hK b h1,h2⟩
def pB {c:Camp}(hc:c.Ok)(r:Ros)(n:Nat)(rs:List (Int×Int)):∀x∈takenL c r n rs,0<=x/\x<=1048576:=λx hx=>by
 obtain⟨q,_,rfl⟩:=List.mem_map.1 hx
 have h1:=cX (·.1) (lossesL c r (wolvesL n rs rs.length)) q.1
 have h2:=bM hc r (wolvesL n rs rs.length)
 omega
def pC {c:Camp}(hc:c.Ok)(x:Nat):0<=c.dogs x:=by
 unfold Camp.dogs
 refine dI _ λy hy=>?_
 obtain⟨h,_,rfl⟩:=List.mem_map.1 hy
 exact tC hc _
open Go.RowKit
def nightly (n:Nat)(f:Nat->Int):List (Int×Int):=(List.range n).map λj:Nat=>((j:Int),f j)
def aO (n:Nat)(f:Nat->Int):(nightly n f).length=n:=by simp[nightly]
def ef (n:Nat)(f:Nat->Int)(x:Int):nightly (n+1) (λj=>if j=n then x else f j)=nightly n f++[((n:Int),x)]:=by
 unfold nightly
 rw[List.range_succ,List.map_append]
 congr 1
 ·refine List.map_congr_left λj hj=>?_
  have:=List.mem_range.1 hj
  dsimp only
  rw[if_neg (by omega)]
 ·simp
def nP {n:Nat}{f:Nat->Int}(h:∀j,j<n->0<=f j/\f j<=60):∀q∈nightly n f,(0<=q.1/\q.1<n)/\0<=q.2/\q.2<=60:=λq hq=>by
 obtain⟨j,hj,rfl⟩:=List.mem_map.1 hq
 have hj:=List.mem_range.1 hj
 exact⟨by dsimp only;omega,h j hj⟩
def fz (n:Nat)(f:Nat->Int):((nightly n f).map (·.1)).Nodup:=by
 have:(nightly n f).map (·.1)=(List.range n).map λj:Nat=>(j:Int):=by
  unfold nightly
  rw[List.map_map];rfl
 rw[this]
 exact nO n
def jn (n:Nat)(f:Nat->Int):wolvesL n (nightly n f) (nightly n f).length=(List.range n).map f:=by
 unfold wolvesL
 rw[aO]
 refine List.map_congr_left λj hj=>?_
 have hj:=List.mem_range.1 hj
 unfold nightly
 rw[jZ n j (Nat.le_refl _),if_pos hj]
def j4 {c:Camp}(hc:c.Ok)(r:Ros)(n:Nat)(f:Nat->Int):(takenL c r n (nightly n f)).sum=(lossesL c r ((List.range n).map f)).length:=by
 rw[lP hc (λx=>pC hc x) (fz n f),jn]
def gu {c:Camp}(hc:c.Ok)(r:Ros){n:Nat}{f g:Nat->Int}(h:∀j,j<n->f j<=g j):(lossesL c r ((List.range n).map f)).length<=(lossesL c r ((List.range n).map g)).length :=
 lO hc (by simp) λj hj=>by
  have hj:j<n:=by simpa using hj
  simp[hj];exact h j hj
end Go.Sq
namespace Go.Proofs.YtjmmlkobmhlikaaGreat
open Go.RowKit Go.Sq
def updV {α:Type}(r:Nat->α)(i:Nat)(v:α):Nat->α:=λj=>if j=i then v else r j
def ce {α:Type}(r:Nat->α)(i:Nat)(v:α):updV r i v i=v:=if_pos rfl
def bJ {α:Type}{r:Nat->α}{i j:Nat}{v:α}(h:j≠i):updV r i v j=r j:=if_neg h
structure WR (w0:World)(hb B:Nat)(A:Option Addr)(cap:Nat)(l:List Int)(M base rb:Nat)(v:Value)(ws:List (Int×Int))(r:Nat->Value)(rs:Nat->List (Int×Int))(W:World):Prop where
 hand:Hand W hb B A cap l M
 kt:KT (·=hb) w0 W
 own:W.ownsRow base 37 2 v ws.length (ao ws)
 row:∀i,i<3->W.ownsRow base 40 2 (r i) (rs i).length (ao (rs i))/\W.cell? ⟨rb,i,none⟩=some (r i)/\W.frozen? ⟨rb,i,none⟩=false
 apart:∀i j g,i<3->j<3->i≠j->(r i).ownBlock=some g->(r j).ownBlock≠some g
 lt:hb<w0.heap.size
 bs:w0.heap.size<=rb/\rb<base/\base<=W.heap.size
section
variable {w0 W W':World} {hb B cap M base rb:Nat} {A:Option Addr} {l:List Int} {v v':Value} {ws:List (Int×Int)} {r:Nat->Value} {rs:Nat->List (Int×Int)}
def WR.keep (h:WR w0 hb B A cap l M base rb v ws r rs W){M':Nat}(hh:Hand W' hb B A cap l M')(k:KT (·=hb) w0 W')(hz:W.heap.size<=W'.heap.size)(hk:∀b,b<W.heap.size->b≠hb->W'.heap[b]?=W.heap[b]?):WR w0 hb B A cap l M' base rb v ws r rs W':=by
 have h1:=h.lt
 obtain⟨h2,h3,h4⟩:=h.bs
 refine⟨hh,k,own_keep h.own λg hg hl=>hk g hl (by have:=(h.own.lt g hg).1;omega),λi hi=>?_,h.apart,h1,h2,h3,by omega⟩
 obtain⟨e1,e2,e3⟩:=h.row i hi
 have hr:=hk rb (by omega) (by omega)
 exact⟨own_keep e1 λg hg hl=>hk g hl (by have:=(e1.lt g hg).1;omega),(World.cell?_of_block (a:=⟨rb,i,none⟩) hr).trans e2,(World.frozen?_of_block (a:=⟨rb,i,none⟩) hr).trans e3⟩
def WR.deal (h:WR w0 hb B A cap l M base rb v ws r rs W){M':Nat}(hh:Hand W' hb B A cap l M')(k:KT (·=hb) W W'):WR w0 hb B A cap l M' base rb v ws r rs W':=h.keep hh (h.kt.trans k) k.size k.block
def WR.alloc (h:WR w0 hb B A cap l M base rb v ws r rs W)(o:Obj):WR w0 hb B A cap l M base rb v ws r rs (W.alloc o) :=
 h.deal (h.hand.gr ((Gr.refl W).alloc o)) (um ((Gr.refl W).alloc o))
def WR.drew (h:WR w0 hb B A cap l M base rb v ws r rs W):WR w0 hb B A cap l M base rb v ws r rs W.drew :=
 h.deal (h.hand.gr (Gr.refl W).drew) (um (Gr.refl W).drew)
def WR.more (h:WR w0 hb B A cap l M base rb v ws r rs W){M':Nat}(hm:M<=M'):WR w0 hb B A cap l M' base rb v ws r rs W:=⟨h.hand.more hm,h.kt,h.own,h.row,h.apart,h.lt,h.bs⟩
def WR.cell (h:WR w0 hb B A cap l M base rb v ws r rs W){i:Nat}(hi:i<3):W.cell? ⟨rb,i,none⟩=some (r i)/\W.frozen? ⟨rb,i,none⟩=false:=(h.row i hi).2
def jL {N:Nat}(h:Hand W hb B A cap l N)(hbase:hb<base)(hk:∀b,b<base->b<W.heap.size->W'.heap[b]?=W.heap[b]?):Hand W' hb B A cap l N:=by
 have hl:=h.lt
 obtain⟨m,s,ho,hm⟩:=h.obj
 exact⟨⟨m,s,(hk hb hbase hl).trans ho,hm⟩,h.nums.keep λb o hb'=>World.cell?_of_block (hk b (by have:=h.apart;omega) (by have:=h.apart;omega)),h.apart⟩
def pD {w0 W W':World}{hb:Nat}{row:Option Nat}(k:KT (·=hb) w0 W)(hg:W.grownBy W' row)(hd:W.drawn<=W'.drawn)(hr:∀b,b<w0.heap.size->some b≠row):KT (·=hb) w0 W' :=
 ⟨hg.os.trans k.os,hg.tape.trans k.tape,hg.output.trans k.output,Nat.le_trans k.drawn hd,Nat.le_trans k.size hg.size,λb hb' hne=>(hg.block b (Nat.lt_of_lt_of_le hb' k.size) (hr b hb')).trans (k.block b hb' hne)⟩
def WR.push (h:WR w0 hb B A cap l M base rb v ws r rs W){q:Int×Int}(hown:W'.ownsRow base 37 2 v' (ws.length+1) (ao ws++[.int .i64 q.1,.int .i64 q.2]))(hg:W.grownBy W' v.ownBlock)(hd:W.drawn<=W'.drawn) :
  WR w0 hb B A cap l M base rb v' (ws++[q]) r rs W':=by
 have h1:=h.lt
 obtain⟨h2,h3,h4⟩:=h.bs
 have hz:W.heap.size<=W'.heap.size:=hg.size
 have hnv:∀b,b<base->some b≠v.ownBlock:=λb hb' e=>by have:=(h.own.lt b e.symm).1;omega
 have hr:=hg.block rb (by omega) (hnv rb h3)
 have e:ao ws++[.int .i64 q.1,.int .i64 q.2]=ao (ws++[q]):=by rw[dA];rfl
 have el:(ws++[q]).length=ws.length+1:=by simp
 refine⟨jL h.hand (base:=base) (by omega) λb hb' hl=>hg.block b hl (hnv b hb'),pD h.kt hg hd λb hb'=>hnv b (by omega),by rw[el,<-e];exact hown,λi hi=>?_,h.apart,h1,h2,h3,by omega⟩
 obtain⟨e1,e2,e3⟩:=h.row i hi
 exact⟨own_keep e1 λg hg' hl=>hg.block g hl (eu (by decide) e1 h.own hg'),(World.cell?_of_block (a:=⟨rb,i,none⟩) hr).trans e2,(World.frozen?_of_block (a:=⟨rb,i,none⟩) hr).trans e3⟩
def WR.raid (h:WR w0 hb B A cap l M base rb v ws r rs W){i:Nat}(hi:i<3){q:Int×Int}(hown:W'.ownsRow base 40 2 v' ((rs i).length+1) (ao (rs i)++[.int .i64 q.1,.int .i64 q.2]))(hg:W.grownBy W' (r i).ownBlock)(hd:W.drawn<=W'.drawn)(hl:v'.ownBlock=(r i).ownBlock\/v'.ownBlock=some W.heap.size) :
  (W'.cell? ⟨rb,i,none⟩=some (r i)/\W'.frozen? ⟨rb,i,none⟩=false)/\WR w0 hb B A cap l M base rb v ws (updV r i v') (updV rs i (rs i++[q])) (W'.setCell ⟨rb,i,none⟩ v'):=by
 have h1:=h.lt
 obtain⟨h2,h3,h4⟩:=h.bs
 have hz:W.heap.size<=W'.heap.size:=hg.size
 obtain⟨e1,e2,e3⟩:=h.row i hi
 have hnv:∀b,b<base->some b≠(r i).ownBlock:=λb hb' e=>by have:=(e1.lt b e.symm).1;omega
 have hr:=hg.block rb (by omega) (hnv rb h3)
 have e:ao (rs i)++[.int .i64 q.1,.int .i64 q.2]=ao (rs i++[q]):=by rw[dA];rfl
 have el:(rs i++[q]).length=(rs i).length+1:=by simp
 have hset:∀b,b≠rb->(W'.setCell ⟨rb,i,none⟩ v').heap[b]?=W'.heap[b]?:=λb hb'=>Below.heap_setCell _ _ _ _ hb'
 have hsz:(W'.setCell ⟨rb,i,none⟩ v').heap.size=W'.heap.size:=by simp[World.setCell]
 have c2:W'.cell? ⟨rb,i,none⟩=some (r i):=(World.cell?_of_block (a:=⟨rb,i,none⟩) hr).trans e2
 have c3:W'.frozen? ⟨rb,i,none⟩=false:=(World.frozen?_of_block (a:=⟨rb,i,none⟩) hr).trans e3
 have hv'new:∀g,v'.ownBlock=some g->g<W.heap.size->(r i).ownBlock=some g:=λg hg' hlt=>by
  rcases hl with hl|hl
  ·rw[<-hl];exact hg'
  ·rw[hl] at hg'
   injection hg' with hg'
   omega
 refine⟨⟨c2,c3⟩,jL h.hand (base:=rb) (by omega) λb hb' hlb=>(hset b (by omega)).trans (hg.block b hlb (hnv b (by omega))),?_,own_keep h.own λg hg' hlt=>(hset g (by have:=(h.own.lt g hg').1;omega)).trans (hg.block g hlt (eu (by decide) h.own e1 hg')),λj hj=>?_,λj k g hj hk hne hgj=>?_,h1,h2,h3,by rw[hsz];omega⟩
 ·have k:=pD h.kt hg hd λb hb'=>hnv b (by omega)
  exact⟨k.os,k.tape,k.output,k.drawn,by rw[hsz];exact k.size,λb hb' hne=>(hset b (by omega)).trans (k.block b hb' hne)⟩
 ·by_cases hji:j=i
  ·subst hji
   rw[ce,ce]
   refine⟨?_,World.cell?_setCell_same _ _ _ c2,(World.frozen?_setCell _ _ _ _).trans c3⟩
   rw[el,<-e]
   exact own_keep hown λg hg' _=>hset g (by have:=(hown.lt g hg').1;omega)
  ·rw[bJ hji,bJ hji]
   obtain⟨f1,f2,f3⟩:=h.row j hj
   refine⟨own_keep f1 λg hg' hlt=>(hset g (by have:=(f1.lt g hg').1;omega)).trans (hg.block g hlt λe=>h.apart j i g hj hi hji hg' e.symm),(World.cell?_setCell_other _ _ _ _ (by simp[hji])).trans ((World.cell?_of_block (a:=⟨rb,j,none⟩) hr).trans f2),(World.frozen?_setCell _ _ _ _).trans ((World.frozen?_of_block (a:=⟨rb,j,none⟩) hr).trans f3)⟩
 ·intro hgk
  by_cases hji:j=i
  ·subst hji
   rw[ce] at hgj
   rw[bJ (Ne.symm hne)] at hgk
   have:=((h.row k hk).1.lt g hgk).2
   exact h.apart j k g hj hk hne (hv'new g hgj this) hgk
  ·rw[bJ hji] at hgj
   by_cases hki:k=i
   ·subst hki
    rw[ce] at hgk
    have:=((h.row j hj).1.lt g hgj).2
    exact h.apart j k g hj hk hne hgj (hv'new g hgk this)
   ·rw[bJ hki] at hgk
    exact h.apart j k g hj hk hne hgj hgk
end
def WR.congr {w0 W:World}{hb B cap M base rb:Nat}{A:Option Addr}{l:List Int}{v:Value}{ws:List (Int×Int)}{r r':Nat->Value}{rs rs':Nat->List (Int×Int)}(h:WR w0 hb B A cap l M base rb v ws r rs W)(hr:∀i,i<3->r i=r' i)(hs:∀i,i<3->rs i=rs' i):WR w0 hb B A cap l M base rb v ws r' rs' W :=
 ⟨h.hand,h.kt,h.own,λi hi=>by rw[<-hr i hi,<-hs i hi];exact h.row i hi,λi j g hi hj hne h1=>by rw[<-hr i hi] at h1;rw[<-hr j hj];exact h.apart i j g hi hj hne h1,h.lt,h.bs⟩
def uV:(uZ.info? 37).map (λi=>(i.zero,i.size,i.bytes))=some (some (.agg #[.int .i64 0,.int .i64 0]),2,16):=by
 rw[ur];kernel_rfl
def mv {w:World}{o:Oper}{a:Act}{K:Act->World->Prop}{Q:Exit->Act->World->Prop}(s x:Operand)(t e:TypeId)(ho:o.op=.call { callee:=.builtin .append,args:=#[s,x],argTypes:=#[t,t] })(hty:o.type=t)
  (hu:uZ.underlying t=some (.slice e)) (hI:(uZ.info? e).map (λi=>(i.zero,i.size,i.bytes))=some (some (.agg #[.int .i64 0,.int .i64 0]),2,16))
  (base:Nat) (v:Value) (n:Nat) (xs:List Value) (hs:a.eval s=v) (hown:w.ownsRow base e 2 v n xs) (ad c:Nat) (y z:Int) (hx:a.eval x=.slice (some ⟨ad,0,none⟩) 1 c) (hc:w.cell? ⟨ad,0,none⟩=some (.int .i64 y)/\w.cell? ⟨ad,1,none⟩=some (.int .i64 z)) (hn:n<=1048576) (hbase:base<=w.heap.size)
  (h:∀v' w',w'.ownsRow base e 2 v' (n+1) (xs++[.int .i64 y,.int .i64 z])->w.grownBy w' v.ownBlock->w.drawn<=w'.drawn->(v'.ownBlock=v.ownBlock\/v'.ownBlock=some w.heap.size)->K (a.put o.dst v') w'):Oper.wp uZ o a w K Q:=by
 obtain⟨i0,hi,hz0,hz1,hz2⟩:=info_parts hI
 obtain⟨v',w',hr,h2,h3,_,h5⟩:=run_append_own_at (P:=uZ) w base t t e i0 _ 2 16 hu hi hz0 hz1 hz2 rfl (by decide) v n xs hown ⟨ad,0,none⟩ 1 c [.int .i64 y,.int .i64 z] rfl (λj u hj=>by
  match j,hj with
  |0,hj=>cases hj;rw[Addr.add_lit];exact hc.1
  |1,hj=>cases hj;rw[Addr.add_lit];exact hc.2) (λu hu=>by
   simp only[List.mem_cons,List.not_mem_nil,or_false] at hu
   rcases hu with rfl|rfl<;>rfl) (by unfold maxLen;omega) (by omega) hbase
 have hd:=Go.Iso.drawn_mono uZ (Builtin.append_ #[t,t] t #[v,.slice (some ⟨ad,0,none⟩) 1 c]) w #[]
 rw[Sem.runT_fst,hr] at hd
 unfold Oper.wp execOp
 simp only[ho,resolve,invoke,builtin,Sem.run_bind,Sem.run_pure,Result.andThen_ok,List.map_toArray,List.map_cons,List.map_nil,hs,hx,hr,hty]
 exact h v' w' h2 h3 hd h5
def iu {w:World}{ops:Array Oper}{rest:List Oper}{o:Oper}{a:Act}{Q:Exit->Act->World->Prop}(hgd:o.guard=none)(s x:Operand)(t e:TypeId)(ho:o.op=.call { callee:=.builtin .append,args:=#[s,x],argTypes:=#[t,t] })(hty:o.type=t)
  (hu:uZ.underlying t=some (.slice e)) (hI:(uZ.info? e).map (λi=>(i.zero,i.size,i.bytes))=some (some (.agg #[.int .i64 0,.int .i64 0]),2,16))
  (base:Nat) (v:Value) (n:Nat) (xs:List Value) (hs:a.eval s=v) (hown:w.ownsRow base e 2 v n xs) (ad c:Nat) (y z:Int) (hx:a.eval x=.slice (some ⟨ad,0,none⟩) 1 c) (hc:w.cell? ⟨ad,0,none⟩=some (.int .i64 y)/\w.cell? ⟨ad,1,none⟩=some (.int .i64 z)) (hn:n<=1048576) (hbase:base<=w.heap.size)
  (h:∀v' w',w'.ownsRow base e 2 v' (n+1) (xs++[.int .i64 y,.int .i64 z])->w.grownBy w' v.ownBlock->w.drawn<=w'.drawn->(v'.ownBlock=v.ownBlock\/v'.ownBlock=some w.heap.size)->wpList uZ ops Q rest (a.put o.dst v') w'):wpList uZ ops Q (o::rest) a w :=
 wpList_plain hgd λ_ hK=>mv s x t e ho hty hu hI base v n xs hs hown ad c y z hx hc hn hbase λv' w' h1 h2 h3 h4=>hK _ _ (h v' w' h1 h2 h3 h4)
def dM (w:World)(y z:Int)(t:TypeId):(w.alloc (.cells #[.int .i64 y,.int .i64 z] t)).cell? ⟨w.heap.size,0,none⟩=some (.int .i64 y)/\(w.alloc (.cells #[.int .i64 y,.int .i64 z] t)).cell? ⟨w.heap.size,1,none⟩=some (.int .i64 z):=by
 constructor<;>(rw[World.cell?_alloc_at _ _ _ _ (by simp)];rfl)
def T (n:Nat)(u:Nat->Value):Array Value:=((List.range n).map u).toArray
def tE {l:List Value}:l.toArray=T l.length λi=>l[i]?.getD undef:=by
 unfold T
 congr 1
 refine List.ext_getElem (by simp) λi h1 h2=>?_
 simp[h1]
def ua {P:Program}{c:Code}{Q:Exit->Act->World->Prop}{l:List Value}{ds:List Deferred}{w:World}(n:Nat)(hn:l.length=n)(h:∀u:Nat->Value,(∀i,u i=l[i]?.getD undef)->c.wp P Q ⟨T n u,ds⟩ w):c.wp P Q ⟨l.toArray,ds⟩ w:=by
 rw[tE,hn]
 exact h _ λ_=>rfl
open Go.RowKit Go.Sq
noncomputable def az:Code:=Tryz.f3.body.getD .skip
noncomputable def cr (n:Nat):Code:=cFst (cDrop n az)
noncomputable def gv:Code:=cDrop 10 az
def pE:az=.seq (cr 0) (.seq (cr 1) (.seq (cr 2) (.seq (cr 3) (.seq (cr 4) (.seq (cr 5) (.seq (cr 6) (.seq (cr 7) (.seq (cr 8) (.seq (cr 9) gv))))))))):=rfl
def uf {K:Act->World->Prop}{l:List Value}{ds:List Deferred}{w:World}(n:Nat)(hn:l.length=n)(h:∀u:Nat->Value,(∀i,u i=l[i]?.getD undef)->K ⟨T n u,ds⟩ w):K ⟨l.toArray,ds⟩ w:=by
 rw[tE,hn]
 exact h _ λ_=>rfl
def pF {w0 W:World}{hb B cap M base rb k a m b:Nat}{A:Option Addr}{l:List Int}{v v':Value}{r:Nat->Value}{s:Nat->List (Int×Int)}{f:Nat->Nat->Int}(h:WR w0 hb B A cap l M base rb v ((List.range k).map (λj=>(f 0 j,f 2 j))++[((a:Int),(b:Int))]) (updV r 2 v') (updV s 2 (s 2++[((k:Int),(b:Int))])) W)
  (hs:s 0=nightly k (f 0)++[((k:Int),(a:Int))]/\s 1=nightly k (f 1)++[((k:Int),(m:Int))]/\s 2=nightly k (f 2)) (hbd:∀j,j<k->0<=f 0 j/\f 0 j<=f 1 j/\f 1 j<=f 2 j/\f 2 j<=60) (hx:(a:Int)<=m/\(m:Int)<=b/\(b:Int)<=60) {M':Nat} (hM:M<=M':=by omega) :
  ∃(r':Nat->Value) (f':Nat->Nat->Int),WR w0 hb B A cap l M' base rb v ((List.range (k+1)).map λj=>(f' 0 j,f' 2 j)) r' (λi=>nightly (k+1) (f' i)) W/\∀j,j<k+1->0<=f' 0 j/\f' 0 j<=f' 1 j/\f' 1 j<=f' 2 j/\f' 2 j<=60:=by
 refine⟨updV r 2 v',λi j=>if j=k then(if i=0 then(a:Int) else if i=1 then(m:Int) else b) else f i j,?_,λj hj=>?_⟩
 ·have e : (List.range (k + 1)).map (fun j => ((fun i j => if j = k then (if i = 0 then (a : Int) else if i = 1 then (m : Int) else b) else f i j) 0 j, (fun i j => if j = k then (if i = 0 then (a : Int) else if i = 1 then (m : Int) else b) else f i j) 2 j)) = (List.range k).map (fun j => (f 0 j, f 2 j)) ++ [((a : Int), (b : Int))] := by
   rw[List.range_succ,List.map_append]
   congr 1
   ·refine List.map_congr_left λj hj=>?_
    have:=List.mem_range.1 hj
    have hne:¬j=k:=by omega
    simp[hne]
   ·simp
  rw[e]
  refine(h.more hM).congr (λ_ _=>rfl) λi hi=>?_
  match i,hi with
  |0,_=>exact(bJ (by decide)).trans (hs.1.trans (ef k (f 0) a).symm)
  |1,_=>exact(bJ (by decide)).trans (hs.2.1.trans (ef k (f 1) m).symm)
  |2,_=>exact(ce ..).trans (by rw[hs.2.2];exact(ef k (f 2) b).symm)
 ·by_cases e:j=k
  ·simp[e];omega
  ·simp[e];exact hbd j (by omega)
def qP {A nA:Option Addr}{hb B cap M base rb cb n nc:Nat}{l:List Int}{w0 w:World}{K:Act->World->Prop}{u:Nat->Value}(h3:u 3=.pointer (some ⟨hb,0,none⟩))(h4:u 4=.pointer (some ⟨cb,0,none⟩))(h6:u 6=.slice none 0 0)(h7:u 7=.slice (some ⟨rb,0,none⟩) 3 3)
  (HW:WR w0 hb B A cap l M base rb (.slice none 0 0) [] (λ_=>.slice none 0 0) (λ_=>[]) w) (hcb:cb<w0.heap.size) (hne:cb≠hb) (hc0:w0.cell? ⟨cb,0,none⟩=some (.slice nA n nc)) (hn:n<=5) (hM:M<=100000)
  (hK:∀(w':World) (u':Nat->Value) (v:Value) (r:Nat->Value) (f:Nat->Nat->Int),WR w0 hb B A cap l (M+20) base rb v ((List.range n).map λj=>(f 0 j,f 2 j)) r (λi=>nightly n (f i)) w'->(∀j,j<n->0<=f 0 j/\f 0 j<=f 1 j/\f 1 j<=f 2 j/\f 2 j<=60)->u' 3=u 3->u' 4=u 4->u' 5=u 5->u' 6=v->u' 7=u 7->K ⟨T 146 u',[]⟩ w') :
  (cr 6).wp uZ (Exit.then K λ_ _ _=>False) ⟨T 146 u,[]⟩ w:=by
 have ez:cr 6=cFst (cDrop 6 az):=rfl
 simp only[cDrop,az,Tryz.f3,Option.getD_some,cSnd,cFst] at ez
 rw[ez]
 clear ez
 have HC:Hid (∀W,KT (·=hb) w0 W->W.cell? ⟨cb,0,none⟩=some (.slice nA n nc)/\cb<W.heap.size):=ui λW hW=>⟨(World.cell?_of_block (a:=⟨cb,0,none⟩) (hW.block cb hcb hne)).trans hc0,Nat.lt_of_lt_of_le hcb hW.size⟩
 have HK:=ui hK
 have HW0:=ui HW
 clear hK HW hc0
 unfold T
 simp only[List.range,List.range.loop,List.map_cons,List.map_nil,h3,h4,h6,h7]
 go_wp2
 go_loopw [6,8] (λv i wr=>∃k:Nat,k<=n/\i=.int .i64 k/\∃(r:Nat->Value) (f:Nat->Nat->Int),WR w0 hb B A cap l (M+4*k) base rb v ((List.range k).map λj=>(f 0 j,f 2 j)) r (λi=>nightly k (f i)) wr/\∀j,j<k->0<=f 0 j/\f 0 j<=f 1 j/\f 1 j<=f 2 j/\f 2 j<=60) (λ_ i _=>n-(intOf i).toNat)
 case atStart=>exact⟨0,by omega,rfl,_,λ_ _=>0,HW0.out,λj hj=>absurd hj (Nat.not_lt_zero _)⟩
 case round =>
  obtain⟨k,hk,rfl,r,f,hwr,hbd⟩:=hrel
  obtain⟨c0,cl⟩:=HC.out wr hwr.kt
  have HWR:=ui hwr
  have HBD:=ui hbd
  clear hwr hbd
  by_cases hlt:k<n
  ·have HUP:=ui (gp hb B A cap l _ 20 wr HWR.out.hand (by omega) (by omega))
   go_wp2_with fail
   refine HUP.out.mono ?_
   rintro e w1 ⟨⟨a,rfl,ha⟩,hh1,hk1⟩
   have ha20:a<=20:=by omega
   have HW1:=ui (HWR.out.deal hh1 hk1)
   have hhl:=hh1.lt
   have HOF:=ui (iq hb B A (some ⟨w1.heap.size,0,none⟩) cap 1 l [60] _ ((a:Int)+6) (w1.alloc (.cells #[.int .i64 60] 3)) (HW1.out.alloc _).hand (by omega) (by simp) (tD (by simp;omega)))
   clear HUP hh1 hk1 HWR ha
   go_wp2_with fail
   refine HOF.out.mono ?_
   rintro e w2 ⟨⟨z,rfl,hz⟩,hh2,hk2⟩
   have hz60:(a:Int)<=z/\z<=60:=by simp only[List.mem_cons,List.not_mem_nil,or_false] at hz;omega
   have HW2:=ui ((HW1.out.alloc _).deal hh2 hk2)
   have HAM:=ui (cL hb B A cap l _ a z w2 hh2 (by omega) (by omega) (by omega))
   clear HOF hh2 hk2 HW1 hz
   go_wp2_with fail
   refine HAM.out.mono ?_
   rintro e w3 ⟨⟨b,rfl,hab,hbz⟩,hh3,hk3⟩
   have hb60:a<=b/\b<=60:=by omega
   have HW3:=ui (HW2.out.deal hh3 hk3)
   clear HAM hh3 hk3 HW2 hz60 hab hbz
   have HWA:=ui (HW3.out.alloc (.cells #[.int .i64 a,.int .i64 b] 37))
   have hbs:=HWA.out.bs
   go_wp2_with (at_builtin;refine iu rfl _ _ 31 37 rfl rfl Tryz.underlying31 uV base _ _ _ rfl HWA.out.own w3.heap.size _ _ _ rfl (dM _ _ _ _) (by simp;omega) (by simpa using hbs.2.2) ?_)
   intro v4 w4 hown4 hgrow4 hd4 _
   have HW4:=ui (HWA.out.push (q:=((a:Int),(b:Int))) (by simpa using hown4) hgrow4 hd4)
   clear hown4 hgrow4 hd4 HWA HW3 hbs
   obtain⟨e0,g0⟩:=HW4.out.cell (i:=0) (by omega)
   have hbs:=HW4.out.bs
   have hrl:rb<w4.heap.size:=by omega
   clear hbs
   have HWB:=ui (HW4.out.alloc (.cells #[.int .i64 k,.int .i64 a] 40))
   have hbs:=HWB.out.bs
   go_wp2_with (at_builtin;refine iu rfl _ _ 38 40 rfl rfl Tryz.underlying38 uB base _ _ _ rfl (HWB.out.row 0 (by omega)).1 w4.heap.size _ _ _ rfl (dM _ _ _ _) (by rw[aO];omega) (by simpa using hbs.2.2) ?_)
   intro v5 w5 hown5 hgrow5 hd5 hl5
   obtain⟨p5,k5,rfl,_,_⟩:=hown5.form (Nat.succ_pos _)
   obtain⟨⟨e5,g5⟩,hw5⟩:=HWB.out.raid (by omega) (q:=((k:Int),(a:Int))) hown5 hgrow5 hd5 (by simpa using hl5)
   have hrl5:rb<w5.heap.size:=by have:=hgrow5.size;simp at this;omega
   obtain⟨W6,hW6⟩:∃W6,W6=w5.setCell ⟨rb,0,none⟩ (.slice (some ⟨p5,0,none⟩) ((nightly k (f 0)).length+1) k5):=⟨_,rfl⟩
   obtain⟨r6,hr6⟩:∃r6,r6=updV r 0 (.slice (some ⟨p5,0,none⟩) ((nightly k (f 0)).length+1) k5):=⟨_,rfl⟩
   obtain⟨s6,hs6⟩:∃s6,s6=updV (λi=>nightly k (f i)) 0 (nightly k (f 0)++[((k:Int),(a:Int))]):=⟨_,rfl⟩
   have HS6:Hid (s6 0=nightly k (f 0)++[((k:Int),(a:Int))]/\s6 1=nightly k (f 1)/\s6 2=nightly k (f 2)):=ui (by rw[hs6];exact⟨ce ..,bJ (by decide),bJ (by decide)⟩)
   rw[<-hW6,<-hr6,<-hs6] at hw5
   have HW6:=ui hw5
   have HE6:=ui hW6
   clear hown5 hgrow5 hd5 hl5 HWB HW4 hw5 e0 g0 hbs hW6 hr6 hs6
   rw[aO] at HE6
   rw[aO]
   go_wp2_with fail
   rw[<-HE6.out]
   have hz6:rb<W6.heap.size:=by rw[HE6.out];simp[World.setCell];omega
   clear e5 g5 hrl5 HE6
   have HCELL:=ui (λ(M:Nat) (W:World) (h:WR w0 hb B A cap l M base rb v4 ((List.range k).map (λj=>(f 0 j,f 2 j))++[((a:Int),(b:Int))]) r6 s6 W)=>(⟨h.cell (i:=1) (by omega),by have:=h.bs;omega⟩:(W.cell? ⟨rb,1,none⟩=some (r6 1)/\W.frozen? ⟨rb,1,none⟩=false)/\rb<W.heap.size))
   replace HW6:=ui HW6.out.drew
   obtain⟨⟨e1,g1⟩,z1⟩:=HCELL.out _ _ HW6.out
   go_region_law (first
    |(refine gt (by rfl) (mv _ _ 38 40 (by rfl) (by rfl) Tryz.underlying38 uB base _ _ _ (by rfl) ((HW6.out.alloc _).row 1 (by omega)).1 _ _ _ _ (by rfl) (dM _ _ _ _) (by rw[HS6.out.2.1,aO];omega) (HW6.out.alloc _).bs.2.2 ?_);intro v7 w7 hown7 hgrow7 hd7 hl7;obtain⟨p7,k7,rfl,_,_⟩:=hown7.form (Nat.succ_pos _);obtain⟨⟨e7,g7⟩,hw7⟩:=(HW6.out.alloc _).raid (i:=1) (by omega) (q:=((k:Int),(m:Int))) hown7 hgrow7 hd7 (by simpa using hl7);have HW7:=ui hw7;have z7:rb<w7.heap.size:=(by have:=hgrow7.size;simp at this;omega);clear hown7 hgrow7 hd7 hl7 hw7)
    |(refine gt (by rfl) ?_;go_simp;go_at_call 8;refine(cL hb B A cap l _ a b _ HW6.out.hand (by omega) (by omega) (by omega)).mono ?_;rintro e w' ⟨⟨m,rfl,hm1,hm2⟩,hh,hkt⟩;replace HW6:=ui (HW6.out.deal hh hkt);clear e1 g1 z1 hh hkt;obtain⟨⟨e1,g1⟩,z1⟩:=HCELL.out _ _ HW6.out;dsimp only))
   all_goals
    obtain⟨W8,hW8⟩:∃W8,W8=w7.setCell ⟨rb,1,none⟩ (.slice (some ⟨p7,0,none⟩) ((s6 1).length+1) k7):=⟨_,rfl⟩
    obtain⟨r8,hr8⟩:∃r8,r8=updV r6 1 (.slice (some ⟨p7,0,none⟩) ((s6 1).length+1) k7):=⟨_,rfl⟩
    obtain⟨s8,hs8⟩:∃s8,s8=updV s6 1 (s6 1++[((k:Int),(m:Int))]):=⟨_,rfl⟩
    have HS8:Hid (s8 0=nightly k (f 0)++[((k:Int),(a:Int))]/\s8 1=nightly k (f 1)++[((k:Int),(m:Int))]/\s8 2=nightly k (f 2)):=ui (by rw[hs8];exact⟨(bJ (by decide)).trans HS6.out.1,(ce ..).trans (by rw[HS6.out.2.1]),(bJ (by decide)).trans HS6.out.2.2⟩)
    rw[<-hW8,<-hr8,<-hs8] at HW7
    have hz8:rb<W8.heap.size:=by rw[hW8];simp[World.setCell];omega
    rw[<-hW8]
    obtain⟨e2,g2⟩:=HW7.out.cell (i:=2) (by omega)
    have HWC:=ui (HW7.out.alloc (.cells #[.int .i64 k,.int .i64 b] 40))
    have hbs:=HWC.out.bs
    clear hW8 hr8 hs8 e7 g7 z7 HW7 HCELL HW6
    go_wp2_with (at_builtin;refine iu rfl _ _ 38 40 rfl rfl Tryz.underlying38 uB base _ _ _ rfl (HWC.out.row 2 (by omega)).1 W8.heap.size _ _ _ rfl (dM _ _ _ _) (by rw[HS8.out.2.2,aO];omega) (by simpa using hbs.2.2) ?_)
    intro v9 w9 hown9 hgrow9 hd9 hl9
    obtain⟨p9,k9,rfl,_,_⟩:=hown9.form (Nat.succ_pos _)
    obtain⟨⟨e9,g9⟩,hw9⟩:=HWC.out.raid (i:=2) (by omega) (q:=((k:Int),(b:Int))) hown9 hgrow9 hd9 (by simpa using hl9)
    have z9:rb<w9.heap.size:=by have:=hgrow9.size;simp at this;omega
    have hbm:(m:Int)<=b/\(a:Int)<=m:=⟨by omega,by omega⟩
    have HFIN:Hid (∃(r':Nat->Value) (f':Nat->Nat->Int),WR w0 hb B A cap l (M+4*(k+1)) base rb v4 ((List.range (k+1)).map λj=>(f' 0 j,f' 2 j)) r' (λi=>nightly (k+1) (f' i)) (w9.setCell ⟨rb,2,none⟩ (.slice (some ⟨p9,0,none⟩) ((s8 2).length+1) k9))/\∀j,j<k+1->0<=f' 0 j/\f' 0 j<=f' 1 j/\f' 1 j<=f' 2 j/\f' 2 j<=60):=ui (pF hw9 HS8.out HBD.out ⟨hbm.2,hbm.1,by omega⟩)
    clear hown9 hgrow9 hd9 hl9 hw9 HWC e2 g2 hbs
    go_wp2
    go_roundw
    case rel=>obtain⟨r',f',h1,h2⟩:=HFIN.out;exact⟨k+1,by omega,by go_num,r',f',h1,h2⟩
    case measure=>simp[intOf];omega
  ·have hkn:k=n:=by omega
   subst hkn
   have HWE:=ui (HWR.out.more (M':=M+20) (by omega))
   have HE3:=ui h3
   have HE4:=ui h4
   have HE7:=ui h7
   go_wp2
   refine uf 146 rfl λu' hu=>HK.out wr u' _ r f HWE.out HBD.out ((hu 3).trans HE3.out.symm) ((hu 4).trans HE4.out.symm) (hu 5) (hu 6) ((hu 7).trans HE7.out.symm)
end Go.Proofs.YtjmmlkobmhlikaaGreat
namespace Go.Iso
def aft (md:Region.Mode)(ops:Array Oper)(i:Nat):List Nat:=match ops[i]? with
 |some o=>(o.after.toList.filter (Region.binds md)).map (·.on)
 |none=>[]
def ready_mem {md:Region.Mode}{ops:Array Oper}{listed:Array Bool}{i:Nat}:i∈Region.ready md ops listed↔i<ops.size/\listed.getD i true=false/\∀j∈aft md ops i,listed.getD j false=true:=by
 unfold Region.ready aft
 rw[List.mem_filter,List.mem_range]
 refine and_congr_right λhi=>?_
 rw[Array.getElem?_eq_getElem hi]
 simp only[Option.map_some,Option.getD_some,Bool.and_eq_true,Bool.not_eq_true',List.mem_map,List.mem_filter,Array.mem_toList_iff]
 refine and_congr_right λ_=>?_
 rw[Array.all_eq_true_iff_forall_mem]
 constructor
 ·rintro h j ⟨e,⟨he,hb⟩,rfl⟩
  have:=h e he
  simpa [hb] using this
 ·intro h e he
  cases hb:Region.binds md e with
  |false=>rfl
  |true=>simpa using h e.on ⟨e,⟨he,hb⟩,rfl⟩
def i4 (md:Region.Mode)(ops:Array Oper)(m:Nat):Bool :=
 (List.range m).all (λi=>(List.range' (i+1) (m-i)).any λj=>(aft md ops j).contains i)&&(List.range' (m+1) (ops.size-m-1)).all (λi=>(aft md ops i).contains (i-1))&&(List.range ops.size).all (λi=>(aft md ops i).all λj=>decide (j<i)) &&
  (ops.toList.take m).all (λo=>match o.guard with|some (j,_)=>decide (j<m)|none=>true)&&decide (m<ops.size)
section
variable {md:Region.Mode} {ops:Array Oper} {m:Nat}
structure Last (md:Region.Mode)(ops:Array Oper)(m:Nat):Prop where
 up:∀i,i<m->∃j,i<j/\j<=m/\i∈aft md ops j
 next:∀i,m<i->i<ops.size->i-1∈aft md ops i
 lt:∀i,i<ops.size->∀j∈aft md ops i,j<i
 guard:∀i o j b,i<m->ops[i]?=some o->o.guard=some (j,b)->j<m
 size:m<ops.size
def last_of (h:i4 md ops m=true):Last md ops m:=by
 simp only[i4,Bool.and_eq_true,List.all_eq_true,List.any_eq_true,List.mem_range,List.mem_range'_1,List.contains_iff_mem,decide_eq_true_eq] at h
 obtain⟨⟨⟨⟨h1,h2⟩,h3⟩,h4⟩,h5⟩:=h
 refine⟨λi hi=>?_,λi hi hn=>h2 i ⟨by omega,by omega⟩,h3,λi o j b hi ho hg=>?_,h5⟩
 ·obtain⟨j,hj,hm⟩:=h1 i hi
  exact⟨j,by omega,by omega,hm⟩
 ·have:=h4 o (List.mem_iff_getElem?.2 ⟨i,by rw[List.getElem?_take,if_pos hi];simpa using ho⟩)
  rw[hg] at this
  simpa using this
def filter_one {p:Nat->Bool}{n k:Nat}(hk:k<n)(h:∀i,i<n->(p i=true↔i=k)):(List.range n).filter p=[k]:=by
 have e:(List.range n).filter p=(List.range n).filter λi=>i==k:=List.filter_congr λi hi=>by
  have:=h i (List.mem_range.1 hi)
  cases hp:p i with
  |true=>simpa using(this.1 hp)
  |false =>
   have:i≠k:=λe=>by rw[this.2 e] at hp;cases hp
   simpa using this
 rw[e,List.filter_beq,List.count_range]
 simp[hk]
def sA (L:Last md ops m):∀(d k fuel t:Nat) (listed:Array Bool),k+d=ops.size->m<=k->d<=fuel->listed.size=ops.size->(∀i,i<ops.size->listed.getD i true=decide (i<k))->Region.linearise.go md ops fuel t listed []=List.range' k d:=by
 intro d
 induction d with
 |zero =>
  intro k fuel t listed hk hm hf hs hl
  cases fuel with
  |zero=>rfl
  |succ fuel =>
   have hr:Region.ready md ops listed=[]:=List.eq_nil_iff_forall_not_mem.2 λi hi=>by
    obtain⟨h1,h2,_⟩:=ready_mem.1 hi
    rw[hl i h1] at h2
    simp at h2;omega
   simp only[Region.linearise.go]
   change (match(Region.ready md ops listed)[t % (Region.ready md ops listed).length]? with
    |some i=>Region.linearise.go md ops fuel (t / (Region.ready md ops listed).length) (listed.setIfInBounds i true) [i]
    |none=>[].reverse)=_
   rw[hr];rfl
 |succ d ih =>
  intro k fuel t listed hk hm hf hs hl
  obtain⟨fuel,rfl⟩:∃f,fuel=f+1:=⟨fuel-1,by omega⟩
  have hd:∀j,j<ops.size->(listed.getD j false=true↔j<k):=λj hj=>by
   have:=hl j hj
   rw[Array.getD_eq_getD_getElem?,Array.getElem?_eq_getElem (by omega)] at this ⊢
   simp only[Option.getD_some] at this ⊢
   rw[this];simp
  have hr:Region.ready md ops listed=[k]:=by
   refine filter_one (by omega) λi hi=>?_
   have hmem:=ready_mem (md:=md) (ops:=ops) (listed:=listed) (i:=i)
   unfold Region.ready at hmem
   rw[List.mem_filter,List.mem_range] at hmem
   have:_↔_:=⟨λh=>(hmem.1 ⟨hi,h⟩).2,λh=>(hmem.2 ⟨hi,h⟩).2⟩
   rw[this,hl i hi]
   constructor
   ·rintro⟨h1,h2⟩
    have h1:¬i<k:=by simpa using h1
    by_cases e:i=k
    ·exact e
    ·have:=(hd (i-1) (by omega)).1 (h2 _ (L.next i (by omega) hi))
     omega
   ·rintro rfl
    exact⟨by simp,λj hj=>(hd j (Nat.lt_trans (L.lt i hi j hj) hi)).2 (L.lt i hi j hj)⟩
  simp only[Region.linearise.go]
  change (match(Region.ready md ops listed)[t % (Region.ready md ops listed).length]? with
   |some i=>Region.linearise.go md ops fuel (t / (Region.ready md ops listed).length) (listed.setIfInBounds i true) [i]
   |none=>[].reverse)=_
  rw[hr]
  have e0:t % [k].length=0:=by simp[Nat.mod_one]
  rw[e0]
  simp only[List.getElem?_cons_zero]
  rw[linearise_go_acc,ih (k+1) fuel _ _ (by omega) (by omega) (by omega) (by simpa using hs) λi hi=>?_]
  ·simp[List.range'_succ]
  ·rw[Array.getD_eq_getD_getElem?,Array.getElem?_setIfInBounds]
   by_cases e:k=i
   ·subst e
    rw[if_pos rfl,if_pos (by omega)];simp
   ·rw[if_neg e,<-Array.getD_eq_getD_getElem?,hl i hi]
    exact decide_eq_decide.2 (by omega)
structure Some_ (md:Region.Mode)(ops:Array Oper)(m:Nat)(listed mine:Array Bool):Prop where
 size:listed.size=ops.size
 msize:mine.size=m
 same:∀i,i<m->mine.getD i true=listed.getD i true
 low:∀i,m<=i->i<ops.size->listed.getD i true=false
 shut:∀i,i<m->listed.getD i true=true->∀j∈aft md ops i,listed.getD j true=true
def iw {l1 l2:List Oper}{i:Nat}(hi:i<l1.length):aft md l1.toArray i=aft md (l1++l2).toArray i:=by
 unfold aft
 simp[List.getElem?_append,hi]
def cM {l:Array Bool}{i:Nat}(h:i<l.size):l.getD i true=l.getD i false:=by
 simp[Array.getD,h]
end
def steps_draw {md:Region.Mode}{P:Program}{l1 l2:List Oper}{N:Act->World->Prop}(L:Last md (l1++l2).toArray l1.length):∀(fuel t:Nat) (listed mine:Array Bool) (a:Act) (w:World),Some_ md (l1++l2).toArray l1.length listed mine ->
  wpAny P md l1.toArray (Exit.then N λ_ _ _=>False) fuel mine a w->∀(b:Frame) (k:List Item) (cs:List Frame),
   ∃a' w',N a' w'/\Steps P (lone (b.at a (.inRegion (l1++l2).toArray (Region.linearise.go md (l1++l2).toArray (fuel+l2.length) t listed [])::k)) cs w) (lone (b.at a' (.inRegion (l1++l2).toArray (List.range' l1.length l2.length)::k)) cs w'):=by
 have hn:(l1++l2).toArray.size=l1.length+l2.length:=by simp
 have hready:∀ {listed mine:Array Bool},Some_ md (l1++l2).toArray l1.length listed mine->(∃i,i<l1.length/\listed.getD i true=false)->∀i,i∈Region.ready md (l1++l2).toArray listed↔i∈Region.ready md l1.toArray mine:=λ{listed mine} S hex i=>by
  rw[ready_mem,ready_mem]
  by_cases hi:i<l1.length
  ·rw[S.same i hi,iw (l2:=l2) hi,List.size_toArray]
   refine⟨λ⟨_,h2,h3⟩=>⟨hi,h2,λj hj=>?_⟩,λ⟨h1,h2,h3⟩=>⟨by rw[List.length_append];omega,h2,λj hj=>?_⟩⟩
   ·have hj1:=L.lt i (by omega) j hj
    have:=h3 j hj
    rw[<-cM (by rw[S.size];omega)] at this
    rw[<-cM (by rw[S.msize];omega),S.same j (by omega)];exact this
   ·have hj1:=L.lt i (by omega) j hj
    have:=h3 j hj
    rw[<-cM (by rw[S.msize];omega),S.same j (by omega)] at this
    rw[<-cM (by rw[S.size];omega)];exact this
  ·refine⟨λ⟨h1,h2,h3⟩=>?_,λ⟨h1,_,_⟩=>absurd (by simpa using h1) hi⟩
   exfalso
   rcases Nat.lt_or_eq_of_le (Nat.not_lt.1 hi) with h|h
   ·have:=h3 (i-1) (L.next i h h1)
    rw[<-cM (by rw[S.size];omega),S.low (i-1) (by omega) (by omega)] at this
    cases this
   ·subst h
    obtain⟨i0,hi0,hf⟩:=hex
    have hup:∀d i0,i0+d=l1.length->i0<l1.length->listed.getD i0 true=false->False:=by
     intro d
     induction d using Nat.strongRecOn with
     |ind d ih =>
      intro i0 hd hi0 hf
      obtain⟨j,hj1,hj2,hj3⟩:=L.up i0 hi0
      rcases Nat.lt_or_eq_of_le hj2 with hj|hj
      ·cases hv:listed.getD j true with
       |false=>exact ih (l1.length-j) (by omega) j (by omega) hj hv
       |true =>
        have:=S.shut j hj hv i0 hj3
        rw[hf] at this;cases this
      ·subst hj
       have:=h3 i0 hj3
       rw[<-cM (by rw[S.size];omega),hf] at this
       cases this
    exact hup (l1.length-i0) i0 (by omega) hi0 hf
 have hall:∀ {listed mine:Array Bool},Some_ md (l1++l2).toArray l1.length listed mine->Region.ready md l1.toArray mine=[]->∀i,i<l1.length->listed.getD i true=true:=λ{listed mine} S hr i=>by
  induction i using Nat.strongRecOn with
  |ind i ih =>
   intro hi
   cases hv:listed.getD i true with
   |true=>rfl
   |false =>
    have:i∈Region.ready md l1.toArray mine:=ready_mem.2 ⟨by simpa using hi,by rw[S.same i hi];exact hv,λj hj=>by
     rw[iw (l2:=l2) hi] at hj
     have hj1:=L.lt i (by omega) j hj
     rw[<-cM (by rw[S.msize];omega),S.same j (by omega)]
     exact ih j hj1 (by omega)⟩
    rw[hr] at this;cases this
 have hend:∀ {listed mine:Array Bool},Some_ md (l1++l2).toArray l1.length listed mine->Region.ready md l1.toArray mine=[]->∀fuel t,Region.linearise.go md (l1++l2).toArray (fuel+l2.length) t listed []=List.range' l1.length l2.length:=λ{listed mine} S hr fuel t=>by
  refine sA L l2.length l1.length _ t listed (by omega) (Nat.le_refl _) (by omega) S.size λi hi=>?_
  by_cases h:i<l1.length
  ·rw[hall S hr i h];simp[h]
  ·rw[S.low i (by omega) hi];simp[h]
 have hop:∀ {i:Nat} {K:Act->World->Prop} {a:Act} {w:World},i<l1.length->wpOp P l1.toArray (Exit.then N λ_ _ _=>False) i K a w->wpOp P (l1++l2).toArray (Exit.then N λ_ _ _=>False) i K a w:=λ{i K a w} hi h=>by
  unfold wpOp at h ⊢
  have e:(l1++l2).toArray[i]?=l1.toArray[i]?:=by simp[List.getElem?_append,hi]
  rw[e]
  have ho:l1.toArray[i]?=some l1[i]:=by simp[hi]
  rw[ho] at h ⊢
  have hw:Region.wanted l1[i] (yielded (l1++l2).toArray a.tmps)=Region.wanted l1[i] (yielded l1.toArray a.tmps):=by
   unfold Region.wanted
   cases hg:l1[i].guard with
   |none=>rfl
   |some q =>
    obtain⟨j,v⟩:=q
    have hj:=L.guard i l1[i] j v hi (by rw[e];exact ho) hg
    have:yielded (l1++l2).toArray a.tmps j=yielded l1.toArray a.tmps j:=by
     unfold yielded
     simp[List.getElem?_append,hj]
    simp only[this]
  dsimp only at h ⊢
  rw[hw];exact h
 intro fuel
 induction fuel with
 |zero =>
  intro t listed mine a w S h b k cs
  obtain⟨hr,hq⟩:=h
  refine⟨a,w,hq,?_⟩
  rw[hend S hr]
  exact .refl _ _
 |succ fuel ih =>
  intro t listed mine a w S h b k cs
  obtain⟨h0,h1⟩:=h
  by_cases hr:Region.ready md l1.toArray mine=[]
  ·refine⟨a,w,h0 hr,?_⟩
   rw[hend S hr]
   exact .refl _ _
  ·have hex : ∃ i, i < l1.length ∧ listed.getD i true = false := by
    obtain⟨i,rest,e⟩:=List.exists_cons_of_ne_nil hr
    obtain⟨g1,g2,_⟩:=ready_mem.1 (show i∈Region.ready md l1.toArray mine by rw[e];exact List.mem_cons_self ..)
    have g1:i<l1.length:=by simpa using g1
    exact⟨i,g1,by rw[<-S.same i g1];exact g2⟩
   have hmem:=hready S hex
   have hne:Region.ready md (l1++l2).toArray listed≠[]:=λe=>hr (List.eq_nil_iff_forall_not_mem.2 λi hi=>by
    have:=(hmem i).2 hi
    rw[e] at this;cases this)
   have hlt:t % (Region.ready md (l1++l2).toArray listed).length<(Region.ready md (l1++l2).toArray listed).length:=Nat.mod_lt _ (List.length_pos_iff.2 hne)
   obtain⟨i,hi⟩:∃i,(Region.ready md (l1++l2).toArray listed)[t % (Region.ready md (l1++l2).toArray listed).length]?=some i:=⟨_,List.getElem?_eq_getElem hlt⟩
   have hmi:=(hmem i).1 (List.mem_of_getElem? hi)
   obtain⟨g1,g2,g3⟩:=ready_mem.1 hmi
   have g1:i<l1.length:=by simpa using g1
   have hgo:Region.linearise.go md (l1++l2).toArray (fuel+1+l2.length) t listed []=i::Region.linearise.go md (l1++l2).toArray (fuel+l2.length) (t / (Region.ready md (l1++l2).toArray listed).length) (listed.setIfInBounds i true) []:=by
    rw[show fuel+1+l2.length=(fuel+l2.length)+1 by omega]
    simp only[Region.linearise.go]
    change (match(Region.ready md (l1++l2).toArray listed)[t % (Region.ready md (l1++l2).toArray listed).length]? with
     |some i=>Region.linearise.go md (l1++l2).toArray (fuel+l2.length) (t / (Region.ready md (l1++l2).toArray listed).length) (listed.setIfInBounds i true) [i]
     |none=>[].reverse)=_
    rw[hi]
    simp only[]
    rw[linearise_go_acc]
    rfl
   obtain⟨a1,w1,k1,k2⟩:=steps_op (hop g1 (h1 i hmi)) b (Region.linearise.go md (l1++l2).toArray (fuel+l2.length) (t / (Region.ready md (l1++l2).toArray listed).length) (listed.setIfInBounds i true) []) k cs
   have hset:∀(l:Array Bool) (j:Nat),i<l.size->(l.setIfInBounds i true).getD j true=if j=i then true else l.getD j true:=λl j hs=>by
    rw[Array.getD_eq_getD_getElem?,Array.getElem?_setIfInBounds,Array.getD_eq_getD_getElem?]
    by_cases e:i=j
    ·subst e;simp[hs]
    ·rw[if_neg e,if_neg (Ne.symm e)]
   have hsz:i<listed.size:=by rw[S.size];omega
   have hmz:i<mine.size:=by rw[S.msize];omega
   obtain⟨a2,w2,k3,k4⟩:=ih (t / (Region.ready md (l1++l2).toArray listed).length) (listed.setIfInBounds i true) (mine.setIfInBounds i true) a1 w1 ⟨by simpa using S.size,by simpa using S.msize,λj hj=>by
    rw[hset _ _ hsz,hset _ _ hmz,S.same j hj],λj hj hjn=>by
    rw[hset _ _ hsz,if_neg (by omega)];exact S.low j hj hjn,λj hj hv q hq=>by
    rw[hset _ _ hsz] at hv ⊢
    by_cases e:q=i
    ·rw[if_pos e]
    ·rw[if_neg e]
     by_cases e2:j=i
     ·subst e2
      have hq1:=L.lt j (by omega) q hq
      rw[<-iw (l2:=l2) hj] at hq
      have:=g3 q hq
      rw[<-cM (by rw[S.msize];omega),S.same q (by omega)] at this
      exact this
     ·rw[if_neg e2] at hv
      exact S.shut j hj hv q hq⟩ k1 b k cs
   refine⟨a2,w2,k3,?_⟩
   rw[hgo]
   exact k2.trans k4
def lf {P:Program}{id:Nat}{l1 l2:List Oper}{N:Act->World->Prop}{a:Act}{w:World}(hm:P.follows .mixedOrders=true)(hl:i4 .any (l1++l2).toArray l1.length=true)
  (h:wpAny P .any l1.toArray (Exit.then N λ_ _ _=>False) l1.length (Array.replicate l1.length false) a { w with drawn:=w.drawn+1 }):aM P [.inRegion (l1++l2).toArray (List.range' l1.length l2.length)] (.region id (l1++l2).toArray true) N a w:=λb k cs=>by
 obtain⟨a',w',h1,h2⟩:=steps_draw (l2:=l2) (last_of hl) l1.length (w.tape w.drawn (.order b.fn id)) (Array.replicate (l1.length+l2.length) false) (Array.replicate l1.length false) a _ ⟨by simp,by simp,λi hi=>by simp[Array.getD,hi,Nat.lt_add_right],λi _ hi=>by
  have hi:i<l1.length+l2.length:=by simpa using hi
  simp[Array.getD,hi],λi hi hv=>by simp[Array.getD,Nat.lt_add_right,hi] at hv⟩ h b k cs
 refine⟨a',w',h1,.head step_region_draw ?_⟩
 have e:Region.schedule (P.follows .mixedOrders) (l1++l2).toArray (w.tape w.drawn (.order b.fn id))=Region.linearise.go .any (l1++l2).toArray (l1.length+l2.length) (w.tape w.drawn (.order b.fn id)) (Array.replicate (l1.length+l2.length) false) []:=by
  simp[Region.schedule,hm,Region.linearise]
 rw[e]
 exact h2
def pG {P:Program}{l:List Oper}{Q:Exit->Act->World->Prop}{a:Act}{w:World}(hB:Region.lexB .any l.toArray=true)
  (h:wpQuiet P l.toArray (λw'=>∃n,w'=w.drewN n) (λa'=>∀w',(∃n,w'=w.drewN n)->Q .normal a' w') l a):wpAny P .any l.toArray Q l.length (Array.replicate l.length false) a { w with drawn:=w.drawn+1 }:=by
 simp only[Region.lexB,Bool.and_eq_true] at hB
 refine wpAny_of_quiet (C:=λw'=>∃n,w'=w.drewN n) (Q:=λa'=>∀w',(∃n,w'=w.drewN n)->Q .normal a' w') (λ_ w' hw' h=>h w' hw') _ _ _ _ ⟨1,rfl⟩ ?_
 have:=wpAnyQ_lex (P:=P) (C:=λw'=>∃n,w'=w.drewN n) (Q:=λa'=>∀w',(∃n,w'=w.drewN n)->Q .normal a' w') (md:=.any) hB.1 l 0 (Array.replicate l.length false) a (by simp) (by simpa using hB.2) h
 simpa using this
def fB {P:Program}{id:Nat}{ops:Array Oper}(m:Nat){l:List Nat}{l1:List Oper}{N:Act->World->Prop}{a:Act}{w:World}(hm:P.follows .mixedOrders=true)(hl:i4 .any ops m=true)(hr:List.range' m (ops.size-m)=l)(h1:l1=ops.toList.take m)(hB:Region.lexB .any l1.toArray=true)
  (h:wpQuiet P l1.toArray (λw'=>∃n,w'=w.drewN n) (λa'=>∀w',(∃n,w'=w.drewN n)->N a' w') l1 a):aM P [.inRegion ops l] (.region id ops true) N a w:=by
 have hms:m<ops.size:=(last_of hl).size
 have e:ops=(l1++ops.toList.drop m).toArray:=by rw[h1,List.take_append_drop]
 have el:l1.length=m:=by rw[h1,List.length_take];simp;omega
 have ed:(ops.toList.drop m).length=ops.size-m:=by simp
 have:=lf (P:=P) (id:=id) (l1:=l1) (l2:=ops.toList.drop m) (N:=N) (a:=a) (w:=w) hm (by rw[<-e,el];exact hl) (pG hB h)
 rw[<-e,el,ed,hr] at this
 exact this
end Go.Iso
namespace Go.Proofs.YtjmmlkobmhlikaaGreat
open Go.RowKit Go.Sq
open Go.Iso (aM av dm eY)
open Go.RowKit Go.Sq
open Go.Iso (aM av dm eY)
end Go.Proofs.YtjmmlkobmhlikaaGreat
