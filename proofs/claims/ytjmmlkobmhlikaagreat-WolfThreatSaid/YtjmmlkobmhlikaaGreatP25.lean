/- Parts of the proof. -/
import Derived.Test.YtjmmlkobmhlikaaGreatP21
import Derived.Test.YtjmmlkobmhlikaaGreatP22
import Derived.Test.YtjmmlkobmhlikaaGreatP17
import Derived.Test.YtjmmlkobmhlikaaGreatP16
set_option linter.all false
set_option maxHeartbeats 3200000
set_option maxRecDepth 1000000
namespace Go.Sq
def pw (l:List Int)(k:Nat)(h:mostN l k<0):∀i,i<k->l[i]?.getD 0<=0:=by
 induction k with
 |zero=>intro i hi;omega
 |succ k ih =>
  intro i hi
  unfold mostN at h
  by_cases hc:0<l[k]?.getD 0/\(mostN l k<0\/l[(mostN l k).toNat]?.getD 0<l[k]?.getD 0)
  ·rw[if_pos hc] at h;omega
  ·rw[if_neg hc] at h
   rcases Nat.lt_or_ge i k with h1|h1
   ·exact ih h i h1
   ·obtain rfl:i=k:=by omega
    have:¬0<l[i]?.getD 0:=λh2=>hc ⟨h2,.inl h⟩
    omega
def nG (l:List Int)(h0:∀x∈l,0<=x)(h:∀i,i<l.length->l[i]?.getD 0<=0):l.sum=0:=by
 induction l with
 |nil=>rfl
 |cons a l ih =>
  have h1:=h 0 (by simp)
  have h2:=h0 a (by simp)
  simp only[List.getElem?_cons_zero,Option.getD_some] at h1
  have:=ih (λx hx=>h0 x (by simp[hx])) λi hi=>by simpa using h (i+1) (by simpa using hi)
  simp only[List.sum_cons];omega
def dI (l:List Int)(h0:∀x∈l,0<=x):0<=l.sum:=by
 induction l with
 |nil=>simp
 |cons a l ih =>
  have h2:=h0 a (by simp)
  have:=ih (λx hx=>h0 x (by simp[hx]))
  simp only[List.sum_cons];omega
def tv (l:List Int)(h0:∀x∈l,0<=x){x:Int}(hx:x∈l):x<=l.sum:=by
 induction l with
 |nil=>simp at hx
 |cons a l ih =>
  have h2:=h0 a (by simp)
  have h3:=dI l λx hx=>h0 x (by simp[hx])
  simp only[List.sum_cons]
  rcases List.mem_cons.1 hx with rfl|hx
  ·omega
  ·have:=ih (λx hx=>h0 x (by simp[hx])) hx;omega
def lossStep_count {n:Int}{s:List Int×List (Int×Int)}(h0:∀x∈s.1,0<=x) :
  (lossStep n s).1.sum+(lossStep n s).2.length=s.1.sum+s.2.length/\((lossStep n s).2.length:Int)=s.2.length+min 1 s.1.sum/\(∀x∈(lossStep n s).1,0<=x):=by
 unfold lossStep
 split
 ·rename_i hm
  have:=nG s.1 h0 (pw s.1 s.1.length hm)
  exact⟨rfl,by omega,h0⟩
 ·rename_i hm
  have h1:=fm s.1 s.1.length
  have h2:=jE s.1 s.1.length (by omega)
  have hl:(mostN s.1 s.1.length).toNat<s.1.length:=by omega
  have h4:=tv s.1 h0 (mem_get s.1 _ hl)
  refine⟨?_,?_,λx hx=>?_⟩
  ·show(s.1.set _ _).sum+((s.2++[(n,mostN s.1 s.1.length)]).length:Nat)=_
   rw[mq _ _ _ hl,List.length_append]
   simp only[List.length_cons,List.length_nil,Int.natCast_add]
   omega
  ·show((s.2++[(n,mostN s.1 s.1.length)]).length:Int)=_
   rw[List.length_append]
   simp only[List.length_cons,List.length_nil,Int.natCast_add]
   omega
  ·rcases List.mem_or_eq_of_mem_set hx with h5|rfl
   ·exact h0 x h5
   ·omega
def lossIt_count {n:Int}{s:List Int×List (Int×Int)}(h0:∀x∈s.1,0<=x)(m:Nat) :
  (lossIt n s m).1.sum+(lossIt n s m).2.length=s.1.sum+s.2.length/\((lossIt n s m).2.length:Int)=s.2.length+min (m:Int) s.1.sum/\(∀x∈(lossIt n s m).1,0<=x):=by
 induction m with
 |zero =>
  have:=dI s.1 h0
  exact⟨rfl,by show(s.2.length:Int)=_;omega,h0⟩
 |succ m ih =>
  obtain⟨a1,a2,a3⟩:=ih
  obtain⟨b1,b2,b3⟩:=lossStep_count (n:=n) a3
  exact⟨b1.trans a1,by show((lossStep n (lossIt n s m)).2.length:Int)=_;omega,b3⟩
def wantK (c:Camp)(r:Ros)(ws:List Int):Nat->Nat
 |0=>0
 |k+1=>wantK c r ws k+tooMany c r ws k
def dc (c:Camp):Int:=(c.herders.map (·.heads)).sum
def jW {c:Camp}(hc:c.Ok)(r:Ros)(ws:List Int)(k:Nat) :
  (lossAll c r ws k).1.sum+(lossAll c r ws k).2.length=dc c/\((lossAll c r ws k).2.length:Int)=min (wantK c r ws k:Int) (dc c)/\(∀x∈(lossAll c r ws k).1,0<=x):=by
 have hp:∀x∈c.herders.map (·.heads),0<=x:=λx hx=>by
  simp only[List.mem_map] at hx
  obtain⟨h,hh,rfl⟩:=hx
  have:=hc.heads h hh;omega
 have hs:0<=dc c:=dI _ hp
 induction k with
 |zero=>exact⟨by simp[lossAll,dc],by simp[lossAll,wantK];omega,hp⟩
 |succ k ih =>
  obtain⟨a1,a2,a3⟩:=ih
  obtain⟨b1,b2,b3⟩:=lossIt_count (n:=(k:Int)) a3 (tooMany c r ws k)
  refine⟨b1.trans a1,?_,b3⟩
  show((lossIt k (lossAll c r ws k) (tooMany c r ws k)).2.length:Int)=min ((wantK c r ws k+tooMany c r ws k:Nat):Int) (dc c)
  omega
def gn {c:Camp}(hc:c.Ok)(r:Ros)(ws:List Int):((lossesL c r ws).length:Int)=min (wantK c r ws ws.length:Int) (dc c):=(jW hc r ws ws.length).2.1
def nH {c:Camp}{r r':Ros}{ws ws':List Int}(k:Nat)(h:∀j,j<k->tooMany c r ws j<=tooMany c r' ws' j):wantK c r ws k<=wantK c r' ws' k:=by
 induction k with
 |zero=>exact Nat.le_refl _
 |succ k ih =>
  have:=ih λj hj=>h j (by omega)
  have:=h k (by omega)
  show wantK c r ws k+_<=wantK c r' ws' k+_
  omega
def lO {c:Camp}(hc:c.Ok){r:Ros}{ws ws':List Int}(hl:ws.length=ws'.length)(h:∀j,j<ws.length->ws[j]?.getD 0<=ws'[j]?.getD 0):(lossesL c r ws).length<=(lossesL c r ws').length:=by
 have h1:=gn hc r ws
 have h2:=gn hc r ws'
 have h3:=nH (c:=c) (r:=r) (r':=r) (ws:=ws) (ws':=ws') ws.length λj hj=>by
  have:=h j hj
  unfold tooMany
  omega
 rw[<-hl] at h2
 omega
def cntBy (f:Int×Int->Int)(ls:List (Int×Int))(t:Int):Nat:=ls.countP λp=>f p==t
def jI (f:Int×Int->Int)(a b:List (Int×Int))(t:Int):cntBy f (a++b) t=cntBy f a t+cntBy f b t:=by simp[cntBy]
def qL (f:Int×Int->Int)(ks:List Int)(hn:ks.Nodup)(ls:List (Int×Int))(h:∀p∈ls,f p∈ks):(ks.map λt=>(cntBy f ls t:Int)).sum=ls.length:=by
 induction ls with
 |nil =>
  have:∀l:List Int,(l.map λt=>((cntBy f [] t:Nat):Int)).sum=0:=λl=>by
   induction l with
   |nil=>rfl
   |cons a l ih=>simp only[List.map_cons,List.sum_cons,ih];simp[cntBy]
  simpa using this ks
 |cons p ls ih =>
  have h1:=ih λq hq=>h q (by simp[hq])
  have h2:=h p (by simp)
  have one:∀l:List Int,l.Nodup->(l.map λt=>(cntBy f (p::ls) t:Int)).sum=(l.map λt=>(cntBy f ls t:Int)).sum+if f p∈l then 1 else 0:=λl=>by
   induction l with
   |nil=>intro _;simp
   |cons a l ihl =>
    intro hl
    obtain⟨hl1,hl2⟩:=List.nodup_cons.1 hl
    have e:(cntBy f (p::ls) a:Int)=(cntBy f ls a:Int)+if f p=a then 1 else 0:=by
     unfold cntBy
     rw[List.countP_cons]
     by_cases hm:f p=a<;>simp[hm]
    simp only[List.map_cons,List.sum_cons,ihl hl2,e,List.mem_cons]
    by_cases hm:f p=a
    ·have:¬f p∈l:=hm▸hl1
     rw[if_pos hm,if_neg this,if_pos (.inl hm)];omega
    ·by_cases hq:f p∈l
     ·rw[if_neg hm,if_pos hq,if_pos (.inr hq)];omega
     ·rw[if_neg hm,if_neg hq,if_neg (λh=>h.elim hm hq)];omega
  rw[one ks hn,h1,if_pos h2]
  simp
def lossIt_night (d:Nat)(s:List Int×List (Int×Int))(m:Nat):∃l:List (Int×Int),(lossIt d s m).2=s.2++l/\l.length<=m/\∀p∈l,p.1=d:=by
 induction m with
 |zero=>exact⟨[],by simp[lossIt],by simp,λp hp=>by simp at hp⟩
 |succ m ih =>
  obtain⟨l,h1,h2,h3⟩:=ih
  show ∃l,(lossStep d (lossIt d s m)).2=_/\_
  unfold lossStep
  split
  ·exact⟨l,h1,by omega,h3⟩
  ·refine⟨l++[((d:Int),mostN (lossIt d s m).1 (lossIt d s m).1.length)],by simp only[h1,List.append_assoc],by simp;omega,λp hp=>?_⟩
   rcases List.mem_append.1 hp with hp|hp
   ·exact h3 p hp
   ·simp only[List.mem_cons,List.not_mem_nil,or_false] at hp
    rw[hp]
def cX (f:Int×Int->Int)(l:List (Int×Int))(t:Int):cntBy f l t<=l.length:=List.countP_le_length
def jX (c:Camp)(r:Ros)(ws:List Int)(k:Nat):(∀p∈(lossAll c r ws k).2,∃j:Nat,j<k/\p.1=j/\0<tooMany c r ws j)/\∀j:Nat,j<k->cntBy (·.1) (lossAll c r ws k).2 j<=tooMany c r ws j:=by
 induction k with
 |zero=>exact⟨λp hp=>by simp[lossAll] at hp,λj hj=>by omega⟩
 |succ k ih =>
  obtain⟨l,h1,h2,h3⟩:=lossIt_night k (lossAll c r ws k) (tooMany c r ws k)
  have e:(lossAll c r ws (k+1)).2=(lossAll c r ws k).2++l:=h1
  refine⟨λp hp=>?_,λj hj=>?_⟩
  ·rw[e] at hp
   rcases List.mem_append.1 hp with hp|hp
   ·obtain⟨j,a1,a2,a3⟩:=ih.1 p hp
    exact⟨j,by omega,a2,a3⟩
   ·have:=List.length_pos_of_mem hp
    exact⟨k,by omega,h3 p hp,by omega⟩
  ·rw[e,jI]
   by_cases hk:j=k
   ·subst hk
    have z:cntBy (·.1) (lossAll c r ws j).2 j=0:=by
     unfold cntBy
     rw[List.countP_eq_zero]
     intro p hp hq
     obtain⟨i,a1,a2,a3⟩:=ih.1 p hp
     have:p.1=(j:Int):=by simpa using hq
     omega
    have:=cX (·.1) l j
    omega
   ·have z : cntBy (·.1) l j = 0 := by
     unfold cntBy
     rw[List.countP_eq_zero]
     intro p hp hq
     have:=h3 p hp
     have:p.1=(j:Int):=by simpa using hq
     omega
    have:=ih.2 j (by omega)
    omega
def losses_night {c:Camp}{r:Ros}{ws:List Int}{p:Int×Int}(h:p∈lossesL c r ws):∃j:Nat,j<ws.length/\p.1=j/\0<tooMany c r ws j:=(jX c r ws ws.length).1 p h
def takenL (c:Camp)(r:Ros)(n:Nat)(rs:List (Int×Int)):List Int:=rs.map λx=>(cntBy (·.1) (lossesL c r (wolvesL n rs rs.length)) x.1:Int)
def jY {rs:List (Int×Int)}{k j:Nat}(hk:k<=rs.length)(h:∀i,i<k->(rs[i]?.getD (0,0)).1≠j):aI rs k j=0:=by
 induction k with
 |zero=>rfl
 |succ k ih =>
  unfold aI
  rw[if_neg (h k (by omega))]
  exact ih (by omega) λi hi=>h i (by omega)
def lP {c:Camp}(hc:c.Ok){r:Ros}(hd:∀x:Nat,0<=c.dogs x){n:Nat}{rs:List (Int×Int)}(hn:(rs.map (·.1)).Nodup):(takenL c r n rs).sum=(lossesL c r (wolvesL n rs rs.length)).length:=by
 have h:=qL (·.1) (rs.map (·.1)) hn (lossesL c r (wolvesL n rs rs.length)) λp hp=>by
  obtain⟨j,h1,h2,h3⟩:=losses_night hp
  rw[bi] at h1
  refine Classical.byContradiction λhm=>?_
  have hz:aI rs rs.length j=0:=jY (Nat.le_refl _) λi hi e=>hm (by
   rw[h2,<-e,List.getElem?_eq_getElem hi]
   exact List.mem_map_of_mem (List.getElem_mem hi))
  unfold tooMany at h3
  rw[iW h1,Option.getD_some,hz] at h3
  have:=hd (r j)
  omega
 rw[<-h]
 unfold takenL
 rw[List.map_map]
 rfl
def jZ {n:Nat}{f:Nat->Int}(k j:Nat)(hk:k<=n):aI ((List.range n).map λi:Nat=>((i:Int),f i)) k j=if j<k then f j else 0:=by
 induction k with
 |zero=>rfl
 |succ k ih =>
  unfold aI
  have e:((List.range n).map λi:Nat=>((i:Int),f i))[k]?.getD (0,0)=((k:Int),f k):=by
   rw[List.getElem?_map,List.getElem?_range (by omega)];rfl
  rw[e]
  dsimp only
  by_cases h:(k:Int)=j
  ·have:k=j:=by omega
   subst this
   rw[if_pos rfl,if_pos (by omega)]
  ·rw[if_neg h,ih (by omega)]
   by_cases h2:j<k
   ·rw[if_pos h2,if_pos (by omega)]
   ·rw[if_neg h2,if_neg (by omega)]
open Go.RowKit
structure Nums (w:World)(g n:Nat)(V:Nat->Int):Prop where
 lt:g<w.heap.size
 at_:∀h,h<n->w.cell? ⟨g,h,none⟩=some (.int .i64 (V h))/\w.frozen? ⟨g,h,none⟩=false
def Nums.gr {w w':World}{g n:Nat}{V:Nat->Int}(h:Nums w g n V)(hg:Gr w w'):Nums w' g n V:=⟨Nat.lt_of_lt_of_le h.lt hg.size,λq hq=>⟨(hg.cell (p:=⟨g,q,none⟩) h.lt).trans (h.at_ q hq).1,(hg.frozen (p:=⟨g,q,none⟩) h.lt).trans (h.at_ q hq).2⟩⟩
def Nums.set {w:World}{g n:Nat}{V V':Nat->Int}(h:Nums w g n V){a:Nat}(ha:a<n)(y:Int)(hV:∀q,q<n->V' q=if q=a then y else V q):Nums (w.setCell ⟨g,a,none⟩ (.int .i64 y)) g n V':=by
 refine⟨by have:=h.lt;simpa [World.setCell] using this,λq hq=>⟨?_,(World.frozen?_setCell _ _ _ _).trans (h.at_ q hq).2⟩⟩
 rw[hV q hq]
 by_cases e:q=a
 ·subst e;rw[if_pos rfl];exact World.cell?_setCell_same _ _ _ (h.at_ q hq).1
 ·rw[if_neg e];exact(World.cell?_setCell_other _ _ _ _ (by simp[Ne.symm e])).trans (h.at_ q hq).1
def Nums.congr {w:World}{g n:Nat}{V V':Nat->Int}(h:Nums w g n V)(e:∀q,q<n->V q=V' q):Nums w g n V':=⟨h.lt,λq hq=>by rw[<-e q hq];exact h.at_ q hq⟩
end Go.Sq
namespace Go.Proofs.YtjmmlkobmhlikaaGreat
open Go.RowKit Go.Sq
def qM (w:World)(n:Nat):Nums (w.alloc (.cells (zerosA n) 3)) w.heap.size n λ_=>0:=⟨by simp,λh hh=>by
 rw[World.cell?_alloc_at _ _ _ _ (by simp),World.frozen?_alloc_at _ _ _ _ (by simp),dw _ _ hh];exact⟨rfl,rfl⟩⟩
open Go.RowKit Go.Sq
end Go.Proofs.YtjmmlkobmhlikaaGreat
namespace Go.Sq
open Go.RowKit
structure Hand (w:World)(hb B:Nat)(A:Option Addr)(cap:Nat)(l:List Int)(N:Nat):Prop where
 obj:∃n:Nat,∃s:Int,w.heap[hb]?=some (.cells #[.slice A l.length cap,.int .i64 n,.int .u64 s] 51 (0,0))/\n<=N
 nums:RI w B A l
 apart:B<=hb
def Hand.lt {w:World}{hb B:Nat}{A:Option Addr}{cap:Nat}{l:List Int}{N:Nat}(h:Hand w hb B A cap l N):hb<w.heap.size:=by
 obtain⟨n,s,h1,_⟩:=h.obj
 exact(Array.getElem?_eq_some_iff.1 h1).1
def Hand.more {w:World}{hb B:Nat}{A:Option Addr}{cap:Nat}{l:List Int}{N M:Nat}(h:Hand w hb B A cap l N)(hm:N<=M):Hand w hb B A cap l M:=by
 obtain⟨n,s,h1,h2⟩:=h.obj
 exact⟨⟨n,s,h1,by omega⟩,h.nums,h.apart⟩
def Hand.gr {w w':World}{hb B:Nat}{A:Option Addr}{cap:Nat}{l:List Int}{N:Nat}(h:Hand w hb B A cap l N)(hg:Gr w w'):Hand w' hb B A cap l N:=by
 have hl:=h.lt
 obtain⟨n,s,h1,h2⟩:=h.obj
 exact⟨⟨n,s,(hg.below.block hb hl).trans h1,h2⟩,h.nums.gr (by have:=h.apart;omega) hg,h.apart⟩
abbrev KH (hb:Nat)(w w':World):Prop:=KT (·=hb) w w'
end Go.Sq
namespace Go.Proofs.YtjmmlkobmhlikaaGreat
open Go.RowKit Go.Sq
def i3 (x y:Int):0<=bits BinOp.xor IntKind.u64 x y:=by
 unfold bits IntKind.wrap
 have h:IntKind.u64.signed=false:=rfl
 simp only[h,Bool.false_and,Bool.false_eq_true,if_false]
 exact Int.emod_nonneg _ (by decide)
def tx (hb B:Nat)(A:Option Addr)(cap:Nat)(l:List Int)(N:Nat)(w:World)(h:Hand w hb B A cap l N)(hN:N<=1048576) :
  Calls uZ 16 #[.pointer (some ⟨hb,0,none⟩)] w λe w'=>(∃v:Int,e=.returned (.int .u64 v)/\0<=v)/\Hand w' hb B A cap l (N+1)/\KH hb w w':=by
 obtain⟨n,s,hobj,hn⟩:=h.obj
 have HH:=ui h
 have c0:w.cell? ⟨hb,0,none⟩=some (.slice A l.length cap):=by unfold World.cell?;rw[hobj];rfl
 have c1:w.cell? ⟨hb,1,none⟩=some (.int .i64 n):=by unfold World.cell?;rw[hobj];rfl
 have c2:w.cell? ⟨hb,2,none⟩=some (.int .u64 s):=by unfold World.cell?;rw[hobj];rfl
 have f1:w.frozen? ⟨hb,1,none⟩=false:=by unfold World.frozen?;rw[hobj];rfl
 have f2:w.frozen? ⟨hb,2,none⟩=false:=by unfold World.frozen?;rw[hobj];rfl
 have HO:=ui hobj
 clear h hobj
 have key : ∀ (v x y : Int) (W : World), W.heap = ((w.setCell ⟨hb, 1, none⟩ (.int .i64 (n + 1 : Nat))).setCell ⟨hb, 2, none⟩ (.int .u64 y)).heap -> W.os = w.os -> W.tape = w.tape -> W.output = w.output -> w.drawn <= W.drawn -> 0 <= v ->
   (∃v':Int,Ending.returned (.int .u64 v)=.returned (.int .u64 v')/\0<=v')/\Hand W hb B A cap l (N+1)/\KH hb w W:=λv x y W hW e1 e2 e3 e4 hv=>by
  have hB:=HH.out.apart
  have hlt:=HH.out.lt
  have hbk:∀b,b≠hb->W.heap[b]?=w.heap[b]?:=λb hne=>by
   rw[hW,Below.heap_setCell _ _ _ _ hne,Below.heap_setCell _ _ _ _ hne]
  refine⟨⟨v,rfl,hv⟩,⟨⟨n+1,y,?_,by omega⟩,HH.out.nums.keep λb o hb'=>World.cell?_of_block (hbk b (by omega)),hB⟩,⟨e1,e2,e3,e4,?_,λb _ hne=>hbk b hne⟩⟩
  ·rw[hW]
   exact aH (aH HO.out)
  ·rw[hW];simp[World.setCell]
 have HKEY:=ui key
 clear key
 go_enter Sq.func16,Tryz.ntmps16
 by_cases hlt:n<l.length
 ·obtain⟨b,o,rfl,hb',hcl⟩:=HH.out.nums.at_ hlt
  generalize l[n]?.getD 0=x at hcl
  go_wp2
  go_region
  all_goals
   go_wp2
   go_region
   all_goals
    go_wp2
    go_ret
    refine HKEY.out _ 0 _ _ rfl rfl rfl rfl (by simp[World.drew,World.setCell]<;>omega) ?_
    exact Int.ediv_nonneg (i3 _ _) (by omega)
 ·go_wp2
  go_region
  all_goals
   go_wp2
   go_ret
   refine HKEY.out _ 0 _ _ rfl rfl rfl rfl (by simp[World.drew,World.setCell]<;>omega) ?_
   exact Int.ediv_nonneg (i3 _ _) (by omega)
def gp (hb B:Nat)(A:Option Addr)(cap:Nat)(l:List Int)(N:Nat)(m:Int)(w:World)(h:Hand w hb B A cap l N)(hN:N<=1048576)(hm:m<=1048576) :
  Calls uZ 7 #[.pointer (some ⟨hb,0,none⟩),.int .i64 m] w λe w'=>(∃k:Nat,e=.returned (.int .i64 k)/\((k:Int)<=m\/k=0))/\Hand w' hb B A cap l (N+1)/\KH hb w w':=by
 have HP:=ui (tx hb B A cap l N w h hN)
 have HH:=ui h
 clear h
 go_enter Sq.func7,Tryz.ntmps7
 by_cases hm0:m<=0
 ·go_wp2
  go_ret
  exact⟨⟨0,rfl,.inr rfl⟩,HH.out.more (by omega),KT.refl _ _⟩
 ·go_wp2_with fail
  refine HP.out.mono ?_
  rintro e w' ⟨⟨v,rfl,hv⟩,hh,hk⟩
  have HH2:=ui hh
  have HK:=ui hk
  clear hh hk HP
  have h1:IntKind.u64.wrap (m+1)=m+1:=by simp[IntKind.wrap,IntKind.bits,IntKind.signed];omega
  have h2:v % (m+1)<m+1:=Int.emod_lt_of_pos _ (by omega)
  have h3:0<=v % (m+1):=Int.emod_nonneg _ (by omega)
  go_wp2
  go_ret
  obtain⟨k,hk⟩:∃k:Nat,v % (m+1)=k:=⟨(v % (m+1)).toNat,by omega⟩
  exact⟨⟨k,by show Ending.returned (Value.int .i64 (v % (m+1)))=_;rw[hk],.inl (by omega)⟩,HH2.out,HK.out⟩
def cL (hb B:Nat)(A:Option Addr)(cap:Nat)(l:List Int)(N:Nat)(lo hi:Int)(w:World)(h:Hand w hb B A cap l N)(hN:N<=1048576)(h1:0<=lo/\lo<=1048576)(h2:lo<=hi/\hi<=1048576) :
  Calls uZ 8 #[.pointer (some ⟨hb,0,none⟩),.int .i64 lo,.int .i64 hi] w λe w'=>(∃k:Nat,e=.returned (.int .i64 k)/\lo<=k/\(k:Int)<=hi)/\Hand w' hb B A cap l (N+1)/\KH hb w w':=by
 have HP:=ui (gp hb B A cap l N (hi-lo) w h hN (by omega))
 clear h
 go_enter Sq.func8,Tryz.ntmps8
 go_wp2_with fail
 refine HP.out.mono ?_
 rintro e w' ⟨⟨k,rfl,hk⟩,hh,hkt⟩
 have HH2:=ui hh
 have HK:=ui hkt
 clear hh hkt HP
 go_wp2
 go_ret
 obtain⟨q,hq⟩:∃q:Nat,lo+k=q:=⟨(lo+k).toNat,by omega⟩
 exact⟨⟨q,by show Ending.returned (Value.int .i64 (lo+k))=_;rw[hq],by omega,by omega⟩,HH2.out,HK.out⟩
def iq (hb B:Nat)(A A2:Option Addr)(cap c2:Nat)(l m:List Int)(N:Nat)(x:Int)(w:World)(h:Hand w hb B A cap l N)(hN:N<=1048576)(hm:m.length<=1048576)(hri:RIK w (λb=>b≠hb/\b<w.heap.size) A2 m) :
  Calls uZ 9 #[.pointer (some ⟨hb,0,none⟩),.int .i64 x,.slice A2 m.length c2] w λe w'=>(∃k:Int,e=.returned (.int .i64 k)/\k∈x::m)/\Hand w' hb B A cap l (N+1)/\KH hb w w':=by
 have HP:=ui (gp hb B A cap l N m.length w h hN (by omega))
 have HR:=ui hri
 clear h hri
 go_enter Sq.func9,Tryz.ntmps9
 go_wp2_with fail
 refine HP.out.mono ?_
 rintro e w' ⟨⟨k,rfl,hk⟩,hh,hkt⟩
 have HH2:=ui hh
 have HK:=ui hkt
 by_cases hk0:k=0
 ·subst hk0
  clear hh hkt HP
  go_wp2
  go_ret
  exact⟨⟨x,rfl,List.mem_cons_self⟩,HH2.out,HK.out⟩
 ·have hkm:k-1<m.length:=by omega
  obtain⟨b,o,rfl,hb2,hcl⟩:=HR.out (λe=>by rw[e] at hkm;simp at hkm)
  have hc:=hcl (k-1) _ (List.getElem?_eq_getElem hkm)
  have hc2:w'.cell? ⟨b,o+(k-1),none⟩=some (.int .i64 m[k-1]):=(World.cell?_of_block (hkt.block b hb2.2 hb2.1)).trans hc
  have HMEM:Hid (m[k-1]∈x::m):=ui (List.mem_cons_of_mem _ (List.getElem_mem hkm))
  generalize m[k-1]=y at hc2 HMEM
  have e1:((k:Int)-1)=((k-1:Nat):Int):=by omega
  obtain⟨q,hq⟩:∃q,q=k-1:=⟨_,rfl⟩
  rw[<-hq] at hc2 e1 hkm
  obtain rfl:k=q+1:=by omega
  clear hh hkt HP hcl hc hk0 hq e1
  have e2:((q+1:Nat):Int)-1=(q:Int):=by omega
  go_wp2
  go_ret
  exact⟨⟨y,rfl,HMEM.out⟩,HH2.out,HK.out⟩
def px (hb B:Nat)(A:Option Addr)(cap:Nat)(l:List Int)(N:Nat)(a b:Int)(w:World)(h:Hand w hb B A cap l N)(hN:N<=1048576)(hb1:0<=b/\b<=1048576) :
  Calls uZ 14 #[.pointer (some ⟨hb,0,none⟩),.int .i64 a,.int .i64 b] w λe w'=>(∃v:Bool,e=.returned (.bool v))/\Hand w' hb B A cap l (N+1)/\KH hb w w':=by
 have HP:=ui (gp hb B A cap l N (b-1) w h hN (by omega))
 clear h
 go_enter Sq.func14,Tryz.ntmps14
 go_wp2_with fail
 refine HP.out.mono ?_
 rintro e w' ⟨⟨k,rfl,hk⟩,hh,hkt⟩
 have HH2:=ui hh
 have HK:=ui hkt
 clear hh hkt HP
 go_wp2
 go_ret
 exact⟨⟨_,rfl⟩,HH2.out,HK.out⟩
def py (A:Option Addr)(cap:Nat)(l:List Int)(w:World)(h:RI w w.heap.size A l) :
  Calls uZ 4 #[.slice A l.length cap] w λe w'=>e=.returned (.pointer (some ⟨w.heap.size,0,none⟩))/\Hand w' w.heap.size w.heap.size A cap l 0/\Gr w w':=by
 have HR:=ui h
 clear h
 go_enter Sq.func4,Tryz.ntmps4
 go_wp2
 go_ret
 exact⟨rfl,⟨⟨0,88172645463325252,World.alloc_heap_new _ _,Nat.le_refl _⟩,HR.out.gr (Nat.le_refl _) ((Gr.refl w).alloc _),Nat.le_refl _⟩,(Gr.refl w).alloc _⟩
end Go.Proofs.YtjmmlkobmhlikaaGreat
namespace Go.Sq
open Go.RowKit
def chosen (p:Nat->Bool)(k:Nat):List Int:=((List.range k).filter p).map λn:Nat=>(n:Int)
def gq {p q:Nat->Bool}{k:Nat}(h:∀i,i<k->p i=q i):chosen p k=chosen q k:=by
 unfold chosen
 congr 1
 exact List.filter_congr λi hi=>h i (List.mem_range.1 hi)
def gW (p:Nat->Bool)(k:Nat):chosen p (k+1)=chosen p k++if p k=true then[(k:Int)] else[]:=by
 unfold chosen
 rw[List.range_succ,List.filter_append,List.map_append]
 cases h:p k<;>simp[h]
def nI {p:Nat->Bool}{k:Nat}{x:Int}:x∈chosen p k↔∃n:Nat,x=n/\n<k/\p n=true:=by
 unfold chosen
 simp only[List.mem_map,List.mem_filter,List.mem_range]
 constructor
 ·rintro⟨n,⟨h1,h2⟩,rfl⟩;exact⟨n,rfl,h1,h2⟩
 ·rintro⟨n,rfl,h1,h2⟩;exact⟨n,⟨h1,h2⟩,rfl⟩
def ft (p:Nat->Bool)(k:Nat):(chosen p k).length<=k:=by
 unfold chosen
 rw[List.length_map]
 exact Nat.le_trans (List.length_filter_le _ _) (by simp)
def nJ (p:Nat->Bool)(k:Nat):(chosen p k).Pairwise (·<·):=by
 unfold chosen
 rw[List.pairwise_map]
 exact(List.Pairwise.filter _ List.pairwise_lt_range).imp λh=>by omega
def jJ (p:Nat->Bool)(k:Nat):ascE (chosen p k) k=0:=by
 rw[jB]
 intro i hi
 have h1:=nI.1 (mem_get (chosen p k) i hi)
 obtain⟨n,e,hn,_⟩:=h1
 unfold ascAt
 rw[if_pos (by rw[e];omega),if_neg]
 rintro⟨h0,hle⟩
 have:=List.pairwise_iff_getElem.1 (nJ p k) (i-1) i (by omega) hi (by omega)
 rw[List.getElem?_eq_getElem hi,List.getElem?_eq_getElem (by omega)] at hle
 simp only[Option.getD_some] at hle
 omega
def grown_old {w2 w3:World}{base size n:Nat}{e:TypeId}{v:Value}{xs:List Value}{o:Obj}(hown:w2.ownsRow base e size v n xs)(hg:(w2.alloc o).grownBy w3 v.ownBlock)(b:Nat)(hb:b<base)(hl:b<w2.heap.size):w3.heap[b]?=w2.heap[b]?:=by
 rw[hg.block b (by simp;omega) (dv hown hb),heap_alloc_old _ _ hl]
def fv {w2 w3:World}{v:Value}{o:Obj}(hg:(w2.alloc o).grownBy w3 v.ownBlock):w2.heap.size+1<=w3.heap.size:=by have:=hg.size;simpa using this
def ee {w0 w2 w3:World}{hb base size n:Nat}{e:TypeId}{v:Value}{xs:List Value}{o:Obj}(hK:KT (·=hb) w0 w2)(hown:w2.ownsRow base e size v n xs)(hbase:w0.heap.size<=base)(hg:(w2.alloc o).grownBy w3 v.ownBlock)(hd:(w2.alloc o).drawn<=w3.drawn):KT (·=hb) w0 w3 :=
 ⟨hg.os.trans hK.os,hg.tape.trans hK.tape,hg.output.trans hK.output,Nat.le_trans hK.drawn hd,by have:=fv hg;have:=hK.size;omega,λb hb' hne=>(grown_old hown hg b (by omega) (by have:=hK.size;omega)).trans (hK.block b hb' hne)⟩
def cY {w2 w3:World}{hb B cap N base size n:Nat}{A:Option Addr}{l:List Int}{e:TypeId}{v:Value}{xs:List Value}{o:Obj}(h:Hand w2 hb B A cap l N)(hown:w2.ownsRow base e size v n xs)(hbase:hb<base)(hg:(w2.alloc o).grownBy w3 v.ownBlock):Hand w3 hb B A cap l N:=by
 have hl:=h.lt
 obtain⟨m,s,ho,hm⟩:=h.obj
 exact⟨⟨m,s,(grown_old hown hg hb hbase hl).trans ho,hm⟩,h.nums.keep λb o hb'=>World.cell?_of_block (grown_old hown hg b (by have:=h.apart;omega) (by have:=h.apart;omega)),h.apart⟩
def ld {w w':World}{base size n hb:Nat}{v:Value}{e:TypeId}{xs:List Value}(h:w.ownsRow base e size v n xs)(hb':hb<base)(k:KT (·=hb) w w'):w'.ownsRow base e size v n xs :=
 own_keep h λg hg hl=>k.block g hl λe=>by have:=(h.lt g hg).1;omega
end Go.Sq
namespace Go.Proofs.YtjmmlkobmhlikaaGreat
open Go.RowKit Go.Sq
def tB (hb B:Nat)(A:Option Addr)(cap:Nat)(l:List Int)(N n:Nat)(w:World)(h:Hand w hb B A cap l N)(hN:N<=1000000)(hn:n<=64) :
  Calls uZ 15 #[.pointer (some ⟨hb,0,none⟩),.int .i64 n] w λe w'=>∃v p,e=.returned v/\w'.ownsRow w.heap.size 3 1 v (chosen p n).length ((chosen p n).map (Value.int .i64))/\Hand w' hb B A cap l (N+n)/\KH hb w w':=by
 have HH:=ui h
 have hlt:=h.lt
 clear h
 go_enter Sq.func15,Tryz.ntmps15
 go_wp2
 go_loopw [5,6] (λv i wr=>∃k:Nat,k<=n/\i=.int .i64 k/\∃p,wr.ownsRow w.heap.size 3 1 v (chosen p k).length ((chosen p k).map (Value.int .i64))/\Hand wr hb B A cap l (N+k)/\KH hb w wr) (λ_ i _=>n-(intOf i).toNat)
 case atStart=>exact⟨0,by omega,rfl,λ_=>false,World.ownsRow_nil _ _ _ _,HH.out,KT.refl _ _⟩
 case round =>
  obtain⟨k,hk,rfl,p,hown,hh,hkt⟩:=hrel
  have hz:=hkt.size
  have HK:=ui hkt
  have HO:=ui hown
  clear hown hkt
  by_cases hlk:k<n
  ·have HC:=ui (px hb B A cap l (N+k) 1 2 wr hh (by omega) (by omega))
   clear hh
   go_wp2_with fail
   refine HC.out.mono ?_
   rintro e w2 ⟨⟨v,rfl⟩,hh,hkt⟩
   have HK2:=ui (HK.out.trans hkt)
   have hown2:=ld HO.out hlt hkt
   have HH2:=ui hh
   have hz2:=hkt.size
   have HO2:=ui hown2
   have HP:=ui (gW (λj=>if j=k then v else p j) k)
   have HP0:=ui (gq (p:=λj=>if j=k then v else p j) (q:=p) (k:=k) λi hi=>if_neg (by omega))
   have hcl:=ft p k
   clear hkt hh HC
   cases v with
   |true =>
    go_wp2_with (at_builtin;refine gD rfl _ _ rfl w.heap.size _ _ _ rfl (hown2.alloc _) ⟨w2.heap.size,0,none⟩ 1 (.int .i64 k) rfl ?c1 rfl ?c2 ?c3 ?_)
    case c1=>rw[World.cell?_alloc_at _ _ _ _ (by simp)];rfl
    case c2=>omega
    case c3=>simp;omega
    intro v' w3 hown' hgrow hd
    have HK3:=ui (ee HK2.out hown2 (Nat.le_refl _) hgrow hd)
    have HO3:Hid (w3.ownsRow w.heap.size 3 1 v' (chosen (λj=>if j=k then true else p j) (k+1)).length ((chosen (λj=>if j=k then true else p j) (k+1)).map (Value.int .i64))):=ui (by
     rw[HP.out,HP0.out,if_pos (by simp)];simpa using hown')
    have HH3:=ui ((cY HH2.out hown2 hlt hgrow).more (M:=N+(k+1)) (by omega))
    clear hown' hgrow hd hown2
    go_wp2
    go_roundw
    case rel=>exact⟨k+1,by omega,by go_num,_,HO3.out,HH3.out,HK3.out⟩
    case measure=>simp[intOf];omega
   |false =>
    have HO3:Hid (w2.ownsRow w.heap.size 3 1 _ (chosen (λj=>if j=k then false else p j) (k+1)).length ((chosen (λj=>if j=k then false else p j) (k+1)).map (Value.int .i64))):=ui (by
     rw[HP.out,HP0.out,if_neg (by simp)];simpa using HO2.out)
    clear hown2
    go_wp2
    go_roundw
    case rel=>exact⟨k+1,by omega,by go_num,_,HO3.out,HH2.out,HK2.out⟩
    case measure=>simp[intOf];omega
  ·have hkn:k=n:=by omega
   subst hkn
   have HH2:=ui hh
   clear hh
   go_wp2
   go_ret
   exact⟨_,p,rfl,HO.out,HH2.out,HK.out⟩
open Go.RowKit Go.Sq
def nK (hb B:Nat)(A nA hA:Option Addr)(cap nc hc:Nat)(l:List Int)(N n m:Nat)(w:World)(h:Hand w hb B A cap l N)(hN:N<=100000)(hn:n<=64)(hm:m<=64) :
  Calls uZ 6 #[.pointer (some ⟨hb,0,none⟩),.agg #[.slice nA n nc,.slice hA m hc]] w λe w'=>∃v ls xs,e=.returned v/\OwnGrid w' (w.heap.size+1) v ls xs/\ls.length=n/\(∀x∈ls,∃p,x=chosen p m)/\Hand w' hb B A cap l (N+n*m)/\KH hb w w':=by
 obtain⟨W0,hW0⟩:∃W0:World,W0=w.alloc (.cells #[.slice nA n nc,.slice hA m hc] 27):=⟨_,rfl⟩
 have hg0:Gr w W0:=hW0▸(Gr.refl w).alloc _
 have HZ0:Hid (W0.heap.size=w.heap.size+1):=ui (by rw[hW0];simp)
 have HH:=ui (h.gr hg0)
 have hlt:=h.lt
 have HW:=ui hW0
 have HG0:=ui hg0
 have HC:Hid (W0.cell? ⟨w.heap.size,0,none⟩=some (.slice nA n nc)/\W0.cell? ⟨w.heap.size,1,none⟩=some (.slice hA m hc)):=ui (by
  rw[hW0,World.cell?_alloc_at _ _ _ _ rfl,World.cell?_alloc_at _ _ _ _ rfl];exact⟨rfl,rfl⟩)
 have HK0:Hid (∀W,KT (·=hb) W0 W->KT (·=hb) w W):=ui λW hk=>⟨hk.os.trans hg0.below.os,hk.tape.trans hg0.below.tape,hk.output.trans hg0.below.output,Nat.le_trans hg0.drawn hk.drawn,Nat.le_trans hg0.size hk.size,λb hb' hne=>(hk.block b (Nat.lt_of_lt_of_le hb' hg0.size) hne).trans (hg0.below.block b hb')⟩
 clear hW0 hg0 h
 go_enter Sq.func6,Tryz.ntmps6
 go_wp2
 rw[<-HW.out]
 go_loopw [5,6] (λv i wr=>∃k:Nat,k<=n/\i=.int .i64 k/\∃ls xs,OwnGrid wr (w.heap.size+1) v ls xs/\ls.length=k/\(∀x∈ls,∃p,x=chosen p m)/\Hand wr hb B A cap l (N+k*m)/\KH hb W0 wr) (λ_ i _=>n-(intOf i).toNat)
 case atStart=>exact⟨0,by omega,rfl,[],[],OwnGrid.nil _ _,rfl,λx hx=>by simp at hx,HH.out.more (by omega),KT.refl _ _⟩
 case round =>
  obtain⟨k,hk,rfl,ls,xs,hog,hll,hall,hh,hkt⟩:=hrel
  have hne:w.heap.size≠hb:=by omega
  have hW0s:=HZ0.out
  have hc0:wr.cell? ⟨w.heap.size,0,none⟩=some (.slice nA n nc):=(World.cell?_of_block (hkt.block w.heap.size (by omega) hne)).trans HC.out.1
  have hc1:wr.cell? ⟨w.heap.size,1,none⟩=some (.slice hA m hc):=(World.cell?_of_block (hkt.block w.heap.size (by omega) hne)).trans HC.out.2
  have hz:w.heap.size<wr.heap.size:=by have:=hkt.size;omega
  have HK:=ui hkt
  have HO:=ui hog
  have HALL:=ui hall
  clear hkt hog hall hW0s
  by_cases hlk:k<n
  ·have HCALL:=ui (tB hb B A cap l (N+k*m) m wr hh (by have:k*m<=64*64:=Nat.mul_le_mul (by omega) hm;omega) hm)
   have HHR:=ui hh
   clear hh
   go_wp2_with fail
   refine HCALL.out.mono ?_
   rintro e w2 ⟨v2,p,rfl,hown,hh,hkt⟩
   obtain⟨A2,c2,rfl,_⟩:=uq hown
   have HK2:=ui (HK.out.trans hkt)
   have HO2:=ui (HO.out.keep' (w':=w2) λb hb1 hb2=>hkt.block b hb2 (by omega))
   have HOW:=ui (cD hown (show w.heap.size+1<=wr.heap.size by omega))
   have HH2:=ui hh
   have hz2:=hkt.size
   have hrow:=HO2.out.row
   clear hkt hh hown HCALL
   rw[hll] at hrow
   have HROW:=ui hrow
   go_wp2_with (at_builtin;refine qZ rfl _ _ rfl (w.heap.size+1) _ _ _ rfl (hrow.alloc _) ⟨w2.heap.size,0,none⟩ 1 (.slice A2 (chosen p m).length c2) rfl ?c1 rfl ?c2 ?c3 ?_)
   case c1=>rw[Addr.add_lit,World.cell?_alloc_at _ _ _ _ (by simp)];rfl
   case c2=>omega
   case c3=>simp;omega
   intro v' w3 hown' hgrow hd
   have HK3:=ui (ee HK2.out HROW.out (by rw[HZ0.out];exact Nat.le_refl _) hgrow hd)
   have HH3:=ui ((cY HH2.out HROW.out (by omega) hgrow).more (M:=N+(k+1)*m) (by rw[Nat.succ_mul];omega))
   have HO3:=ui (HO2.out.push (l:=chosen p m) HOW.out (λb hb'=>heap_alloc_old _ _ hb') (by simp) hgrow hll.symm hown')
   have HALL3:Hid (∀x∈ls++[chosen p m],∃p,x=chosen p m):=ui λx hx=>by
    rcases List.mem_append.1 hx with hx|hx
    ·exact HALL.out x hx
    ·simp at hx;exact⟨p,hx⟩
   clear hown' hgrow hd hrow
   go_wp2
   go_roundw
   case rel=>exact⟨k+1,by omega,by go_num,_,_,HO3.out,by simp[hll],HALL3.out,HH3.out,HK3.out⟩
   case measure=>simp[intOf];omega
  ·have hkn:k=n:=by omega
   subst hkn
   have HH2:=ui hh
   clear hh
   go_wp2
   go_ret
   exact⟨_,ls,xs,rfl,HO.out,hll,HALL.out,HH2.out,HK0.out _ HK.out⟩
end Go.Proofs.YtjmmlkobmhlikaaGreat
namespace Go.Sq
open Go.RowKit
end Go.Sq
namespace Go.Proofs.YtjmmlkobmhlikaaGreat
open Go.RowKit Go.Sq
end Go.Proofs.YtjmmlkobmhlikaaGreat
namespace Go.Sq
open Go.RowKit
end Go.Sq
namespace Go.Proofs.YtjmmlkobmhlikaaGreat
open Go.RowKit Go.Sq
def su (A:Option Addr)(c:Nat)(l:List Int)(w:World)(B:Nat)(h:RI w B A l)(hl:l.length<=1048576)(hx:∀x∈l,0<=x/\x<=1048576) :
  Calls uZ 12 #[.slice A l.length c] w λe w'=>e=.returned (.int .i64 l.sum)/\w=w':=by
 have HR:=ui h
 have HX:=ui hx
 clear h hx
 go_enter Sq.func12,Tryz.ntmps12
 go_wp2
 go_loop [3,4] (λs i=>∃k:Nat,k<=l.length/\i=.int .i64 k/\s=.int .i64 (l.take k).sum) (λ_ i=>l.length-(intOf i).toNat)
 case atStart=>exact⟨0,by omega,rfl,by simp⟩
 case round =>
  obtain⟨k,hk,rfl,rfl⟩:=hrel
  by_cases hlt:k<l.length
  ·obtain⟨b,o,rfl,hb,hc⟩:=HR.out.at_ hlt
   have HS:=ui (gY l k hlt)
   have hy:=HX.out _ (mem_get l k hlt)
   obtain⟨hs1,hs2⟩:=sum_bound 0 1048576 (l.take k) λy hy=>HX.out y (List.mem_of_mem_take hy)
   have hs3:((l.take k).length:Int)*1048576<=1048576*1048576:=by
    have:(l.take k).length<=1048576:=by rw[List.length_take];omega
    omega
   have hs4:0<=(l.take k).sum:=by omega
   have hs5:(l.take k).sum<=1099511627776:=by omega
   clear hs1 hs2 hs3
   generalize l[k]?.getD 0=y at hc HS hy
   obtain⟨hy1,hy2⟩:=hy
   go_wp2
   go_round
   case rel=>exact⟨k+1,by omega,by go_num,by rw[HS.out]⟩
   case measure=>simp[intOf];omega
  ·have:k=l.length:=by omega
   have HS:=ui (show(l.take k).sum=l.sum by rw[List.take_of_length_le (by omega)])
   clear this
   go_wp2
   go_ret
   exact⟨aq HS.out,rfl⟩
end Go.Proofs.YtjmmlkobmhlikaaGreat
namespace Go.Sq
open Go.RowKit
def pz {c:Camp}{ls:List (List Int)}(hc:checkE c=0)(hn:ls.length=c.needs.length)(hl:∀x∈ls,∃p,x=chosen p c.herders.length):formedE c ls=0:=by
 have hm:manyE ls.length c.needs.length c.needs.length=0:=cm.2 (by omega)
 unfold formedE
 rw[if_neg (by simp[hc]),if_neg (by simp[hm])]
 refine dg λx hx=>?_
 obtain⟨l,h1,rfl⟩:=List.mem_map.1 hx
 obtain⟨p,rfl⟩:=hl l h1
 exact jJ _ _
def sumTo (f:Nat->Int):Nat->Int
 |0=>0
 |k+1=>sumTo f k+f k
def lQ {n:Nat}{rs:List (Int×Int)}(h:∀q∈rs,(0<=q.1/\q.1<n)/\0<=q.2/\q.2<=60)(hn:(rs.map (·.1)).Nodup):dx n rs=0:=by
 unfold dx
 refine dg λx hx=>?_
 obtain⟨k,hk,rfl⟩:=List.mem_map.1 hx
 have hk:=List.mem_range.1 hk
 obtain⟨⟨h1,h2⟩,h3,h4⟩:=h _ (List.getElem_mem hk)
 unfold raidE
 rw[List.getElem?_eq_getElem hk,Option.getD_some,if_neg (by simp[inR];omega),if_neg (by simp[inR];omega),if_neg]
 intro ha
 obtain⟨q,hq,he⟩:=List.any_eq_true.1 ha
 obtain⟨i,hi,rfl⟩:=List.getElem_of_mem hq
 rw[List.length_take] at hi
 rw[List.getElem_take] at he
 have hp:=List.pairwise_iff_getElem.1 hn i k (by simp;omega) (by simpa using hk) (by omega)
 simp only[List.getElem_map] at hp
 exact hp (by simpa using he)
def tC {c:Camp}(hc:c.Ok)(h:Nat):0<=(c.h h).dogs:=by
 by_cases hh:h<c.herders.length
 ·have:=hc.dogs _ (c.h_mem hh);omega
 ·unfold Camp.h;rw[List.getElem?_eq_none (by omega)];decide
open Go.RowKit
def nL (f:Int×Int->Int)(l:List (Int×Int))(k:Nat)(h:k<l.length)(t:Int):cntBy f (l.take (k+1)) t=cntBy f (l.take k) t+if f (l[k]?.getD (0,0))=t then 1 else 0:=by
 rw[List.take_add_one,List.getElem?_eq_getElem h,Option.toList_some,jI,Option.getD_some]
 congr 1
 unfold cntBy
 rw[List.countP_singleton]
 by_cases e:f l[k]=t<;>simp[e]
def nM (f:Int×Int->Int)(l:List (Int×Int))(k:Nat)(t:Int):cntBy f (l.take k) t<=l.length:=Nat.le_trans (cX f _ t) (by rw[List.length_take];omega)
end Go.Sq
namespace Go.Proofs.YtjmmlkobmhlikaaGreat
open Go.RowKit Go.Sq
end Go.Proofs.YtjmmlkobmhlikaaGreat
