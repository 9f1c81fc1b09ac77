/- Parts of the proof. -/
import Derived.Test.YtjmmlkobmhlikaaGreatP20
import Derived.Test.YtjmmlkobmhlikaaGreatP17
import Derived.Test.YtjmmlkobmhlikaaGreatP18
import Derived.Test.YtjmmlkobmhlikaaGreatP16
import Derived.Test.YtjmmlkobmhlikaaGreatP03
import Derived.Shelf.Slices.Clone
set_option linter.all false
set_option maxHeartbeats 3200000
set_option maxRecDepth 1000000
namespace Go.Proofs.YtjmmlkobmhlikaaGreat
open Go.RowKit Go.Iso Go.Co Go.Conc Go.ConcN Go.Sq
def wake_one:∃ρ0:Ros,walkL wakeCamp (setsL 3) 2 (firstR (setW 1)) 1=[ρ0]:=by
 have:=nj
 match h:walkL wakeCamp (setsL 3) 2 (firstR (setW 1)) 1,this with
 |[ρ],_=>exact⟨ρ,rfl⟩
def ph {w:World}{b:Nat}{l:Array Value}{t:TypeId}(h:w.heap[b]?=some (.cells l t (0,0)))(hl:0<l.size):¬Iso.Ro w b:=by
 rintro⟨c,t',f,h1,h2⟩
 rw[h] at h1
 cases h1
 have:=h2 0 hl
 omega
section
variable {gs:Array Goroutine} {W:World} {sl:Option (Nat×Nat)} {t:Trace} {q:Nat->Nat} {Dead:Nat->Prop} {Kp:Keep} {x:Lone} {A:Goroutine} {cs:List Frame}
def run_count (hb:Btw Tryz.prog Dead gs W t q)(ht:Tw PP SBm BBm true 0 Dead Kp x A W)(h0:gs[0]?=some A)(hq:QW1 cs x.g x.w)(hcs:cs≠[])(hH:∀b,x.H b=false)(hbd:gs.size+8<=2147483647) :
  ∃N m' t',runNT Tryz.prog N (crowd gs W sl) t=(.next m',t')/\∃gs' W' sl' q' A' Dead' g2 w2,m'=crowd gs' W' sl'/\gs'[0]?=some A'/\gs'.size<=gs.size+8/\Btw Tryz.prog Dead' gs' W' t' q' /\
   Tw PP SBm BBm true 0 Dead' Kp ⟨g2,w2,x.H,x.β,x.T⟩ A' W'/\KTr Tryz.prog BBm (QW2 cs) 0 g2 w2/\w2.heap.size=x.w.heap.size/\(W'.os=W.os/\W'.output=W.output)/\W.heap.size<=W'.heap.size/\∀B,Dead' B->Dead B\/W.heap.size<=B:=by
 obtain⟨bn,bo,bh,cb,sb,cap,nb,cur,ty,T,U,hC,hn,hnk,hT,h6,hU,hUK,hg⟩:=hq
 obtain⟨ρ0,hone⟩:=wake_one
 obtain⟨cE,hcE,hbar⟩:=bar49
 obtain⟨p1,p2⟩:=pair_args ht hg
 obtain⟨Vn,vn⟩:=p2 (.pointer (some ⟨nb,0,none⟩)) (by simp)
 obtain⟨N,m',t',hrun,gs',W',sl',q',A',Dead',e1,e2,e3,e4,e5,e6,e7⟩:=each_call (sl:=sl) (each_in (set_count hC hn hnk) hone (do_count nb ρ0)) lib_c hcE hbar wgLib rfl rfl rfl rfl bar_add bar_wait bar_done hb ht h0 hg ⟨rfl,rfl,_,_,_,_,rfl⟩ hH
  (λb hb=>by
   rcases hb with hb|hb
   ·exact jD ht hH hC p1 b (by simpa [kxS] using hb)
   ·have e:b=nb:=by simpa using hb
    rw[e];exact pair_ptr vn) (λb B h htl k=>by
   have e:b=nb:=by simpa using htl
   subst e
   rcases ht.keepx b B h k with h|h
   ·rw[hH] at h;cases h
   ·exact ph hn (by decide) h) hbd
 refine⟨N,m',t',hrun,gs',W',sl',q',A',Dead',_,_,e1,e2,e3,e4,e5,?_,bu _ _ _,e6,e7⟩
 have hlt:nb<x.w.heap.size:=(Array.getElem?_eq_some_iff.1 hn).1
 refine rZ hcs (hC.keep λb hb=>?_) (nb:=nb) ?_ hT h6 hU hUK
 ·rw[bz _ _ _ _ (hC.lt hb)]
  rw[if_neg]
  intro h
  have e:b=nb:=by simpa using h
  rw[e,hnk] at hb
  cases hb
 ·rw[bz _ _ _ _ hlt,if_pos (by simp)]
  rfl
def iV (QT:Goroutine->World->Prop)(cs:List Frame):Prop:=∀(K:Nat->Prop) (A:Option Addr) (c B:Nat) (xs:List Value) (w':World) (U:Array Value) (ρ:Ros),walkL wakeCamp (setsL 3) 2 (firstR (setW 1)) 1=[ρ]->OwnGrid w' B (.slice A 3 c) (aQ ρ 3) xs ->
 U.size=95->U.getD 1 undef=.int .i64 1->U.getD 2 undef=.int .i64 0->U.getD 3 undef=.slice A 3 c->U.getD 4 undef=.int .i64 0->(∀v∈U.toList,InK SBy uk K v)->(∀b,K b->∃o,w'.heap[b]?=some o/\ORel (SP SBy uk) (CK uZ SBy false) (idOn K) o o) ->
 KTr Tryz.prog BBm QT 0 (Go.Conc.G ((base 13).at ⟨U,[]⟩ [.code zw3]) cs) w'
def r7:∀ρ∈walkL wakeCamp (setsL 3) 2 (firstR (setW 1)) 1,∀i,i<5->ρ i<16:=by decide +kernel
def run_best {QT:Goroutine->World->Prop}(hQT:∀g w W,Same w W->QT g w->QT g W)(htail:iV QT cs)(hb:Btw Tryz.prog Dead gs W t q)(ht:Tw PP SBm BBm true 0 Dead Kp x A W)(h0:gs[0]?=some A)(hq:QW2 cs x.g x.w)(hcs:cs≠[])(hH:∀b,x.H b=false)(hbd:gs.size+8<=2147483647) :
  ∃N m' t',runNT Tryz.prog N (crowd gs W sl) t=(.next m',t')/\∃gs' W' sl' q' A' Dead' g2 w2,m'=crowd gs' W' sl'/\gs'[0]?=some A'/\gs'.size<=gs.size+8/\Btw Tryz.prog Dead' gs' W' t' q' /\
   Tw PP SBm BBm true 0 Dead' Kp ⟨g2,w2,x.H,x.β,x.T⟩ A' W'/\KTr Tryz.prog BBm QT 0 g2 w2/\w2.heap.size=x.w.heap.size/\(W'.os=W.os/\W'.output=W.output)/\W.heap.size<=W'.heap.size/\∀B,Dead' B->Dead B\/W.heap.size<=B:=by
 obtain⟨K1,bn,bo,bh,cb,sb,cap,qb,xb,kb,cur,ty,T,U,hK1,hC,hk,hX,hnk,hT,h4,h7,hU,hU1,hU2,hUK,hg⟩:=hq
 obtain⟨ρ0,hone⟩:=wake_one
 have hρ:∀i,i<5->ρ0 i<16:=r7 ρ0 (by rw[hone];simp)
 obtain⟨cE,hcE,hbar⟩:=bar49
 obtain⟨p1,p2⟩:=pair_args ht hg
 obtain⟨Vk,vk⟩:=p2 (.pointer (some ⟨kb,0,none⟩)) (by simp)
 obtain⟨Vx,vx⟩:=p2 (.pointer (some ⟨xb,0,none⟩)) (by simp)
 have hxo:=hX (xb,[.func (.func 43) #[] #[.pointer (some ⟨qb,0,none⟩)]],107) (by simp[bestX])
 have hqo:=hX (qb,[.pointer (some ⟨cb,0,none⟩)],57) (by simp[bestX])
 obtain⟨Vf,vf⟩:=pair_in ht hH (pair_ptr vx) hxo (v:=.func (.func 43) #[] #[.pointer (some ⟨qb,0,none⟩)]) (by simp)
 obtain⟨Vq,vq⟩:=pair_fn (l:=[.pointer (some ⟨qb,0,none⟩)]) vf (v:=.pointer (some ⟨qb,0,none⟩)) (by simp)
 have hnc:hasB (campO bn bo bh cb sb cap cur ty) kb=false/\hasB (bestX xb qb cb) kb=false:=by
  rw[aT,Bool.or_eq_false_iff] at hnk
  exact hnk
 obtain⟨N,m',t',hrun,gs',W',sl',q',A',Dead',e1,e2,e3,e4,e5,e6,e7⟩:=each_call (sl:=sl) (each_in (set_best (ρ:=ρ0) hC hk hX hnk) hone (do_best kb xb qb cb ρ0)) lib_c hcE hbar wgLib rfl rfl rfl rfl bar_add bar_wait bar_done hb ht h0 hg ⟨rfl,rfl,_,_,_,_,rfl⟩ hH
  (λb hb=>by
   rcases hb with hb|hb
   ·have hb':hasB (campO bn bo bh cb sb cap cur ty++bestX xb qb cb) b=true:=hb
    rw[aT,Bool.or_eq_true] at hb'
    rcases hb' with hb'|hb'
    ·exact jD ht hH hC p1 b hb'
    ·have : b = xb ∨ b = qb := by
      obtain⟨p,hp,rfl⟩:=hasB_of hb'
      simp only[bestX,List.mem_cons,List.not_mem_nil,or_false] at hp
      rcases hp with rfl|rfl<;>simp
     rcases this with rfl|rfl
     ·exact pair_ptr vx
     ·exact pair_ptr vq
   ·have e:b=kb:=by simpa using hb
    rw[e];exact pair_ptr vk) (λb B h htl k=>by
   have e:b=kb:=by simpa using htl
   subst e
   rcases ht.keepx b B h k with h|h
   ·rw[hH] at h;cases h
   ·exact ph hk (by decide) h) hbd
 refine⟨N,m',t',hrun,gs',W',sl',q',A',Dead',_,_,e1,e2,e3,e4,e5,?_,bu _ _ _,e6,e7⟩
 have hlt:kb<x.w.heap.size:=(Array.getElem?_eq_some_iff.1 hk).1
 obtain⟨w1,hw1⟩:∃w1,w1=relay (tlS kb) (oF (decide (8<=1)) (λ_=>keepA false λ_=>0) λ_=>keepA true ρ0) x.w:=⟨_,rfl⟩
 have hkb:w1.heap[kb]?=some (keepA true ρ0):=by
  rw[hw1,bz _ _ _ _ hlt,if_pos (by simp)]
  rfl
 have hne:∀b,b≠kb->b<x.w.heap.size->w1.heap[b]?=x.w.heap[b]?:=λb hb hl=>by
  rw[hw1,bz _ _ _ _ hl,if_neg (by simpa using hb)]
 have hC1:CampW w1 bn bo bh cb sb cap cur ty:=hC.keep λb hb=>hne b (λe=>by rw[e,hnc.1] at hb;cases hb) (hC.lt hb)
 have hq1:w1.heap[qb]?=some (.cells #[.pointer (some ⟨cb,0,none⟩)] 57 (0,0)):=by
  refine(hne qb (λe=>?_) (Array.getElem?_eq_some_iff.1 hqo).1).trans hqo
  have:=hnc.2
  rw[<-e] at this
  simp[hasB,bestX] at this
 show KTr Tryz.prog BBm QT 0 _ (relay (tlS kb) (oF (decide (8<=1)) (λ_=>keepA false λ_=>0) λ_=>keepA true ρ0) x.w)
 rw[<-hw1]
 refine rW (by decide) (by decide) eU hQT hcs hρ hC1 hkb hq1 hT h4 h7 hU hU1 hU2 hUK λA c xs w2 K' U2 ho hz hold hobj u0 u1 u2 u3 u4 hU2K=>?_
 refine htail _ A c _ xs w2 U2 ρ0 hone ho u0 u1 u2 u3 u4 hU2K λb hbK=>?_
 rcases hbK with(hbK|hbK)|hbK
 ·obtain⟨l,t2,r1,r2⟩:=hK1 b hbK
  have hl:=(Array.getElem?_eq_some_iff.1 r1).1
  by_cases e:b=kb
  ·subst e
   exact⟨_,(hold _ (by rw[hw1,bu];exact hl)).trans hkb,jl (keepS _ _)⟩
  ·exact⟨_,(hold _ (by rw[hw1,bu];exact hl)).trans ((hne b e hl).trans r1),.cells (allIn λv hv=>(r2 v hv SBy uk).mono λb hb=>.inl (.inl hb)) λi z1 z2=>⟨z1,z2⟩⟩
 ·obtain⟨l,t2,r1,r2⟩:=campCells hC1 b hbK
  exact⟨_,(hold _ (Array.getElem?_eq_some_iff.1 r1).1).trans r1,.cells (allIn λv hv=>(r2 v hv SBy uk).mono λb hb=>.inl (.inr hb)) λi z1 z2=>⟨z1,z2⟩⟩
 ·obtain⟨o,r1,r2⟩:=hobj b hbK
  exact⟨o,r1,r2.mono λb B hb=>⟨.inr hb.1,hb.2⟩⟩
end
end Go.Proofs.YtjmmlkobmhlikaaGreat
namespace Go.Sq
def OwAt (w:World)(B:Nat)(A:Option Addr)(l:List Int):Prop :=
 l≠[]->∃b o,A=some ⟨b,o,none⟩/\b<B/\∀(i:Nat) (x:Int),l[i]?=some x->w.cell? ⟨b,o+i*5+4,none⟩=some (.int .i64 x)/\∃(n0 n1 n2:Int) (A:Option Addr) (m c:Nat),
  w.cell? ⟨b,o+i*5,none⟩=some (.int .i64 n0)/\w.cell? ⟨b,o+i*5+1,none⟩=some (.int .i64 n1)/\w.cell? ⟨b,o+i*5+2,none⟩=some (.int .i64 n2)/\w.cell? ⟨b,o+i*5+3,none⟩=some (.slice A m c)
def OwAt.gr {w w':World}{B:Nat}{A:Option Addr}{l:List Int}(h:OwAt w B A l)(hB:B<=w.heap.size)(hg:Gr w w'):OwAt w' B A l:=λhn=>by
 obtain⟨b,o,e,hb,hc⟩:=h hn
 refine⟨b,o,e,hb,λi x hx=>?_⟩
 have k:∀o,w'.cell? ⟨b,o,none⟩=w.cell? ⟨b,o,none⟩:=λo=>hg.cell (p:=⟨b,o,none⟩) (Nat.lt_of_lt_of_le hb hB)
 obtain⟨h1,n0,n1,n2,A,m,c,h2,h3,h4,h5⟩:=hc i x hx
 exact⟨(k _).trans h1,n0,n1,n2,A,m,c,(k _).trans h2,(k _).trans h3,(k _).trans h4,(k _).trans h5⟩
def mostN (l:List Int):Nat->Int
 |0=>-1
 |k+1=>if 0<l[k]?.getD 0/\(mostN l k<0\/l[(mostN l k).toNat]?.getD 0<l[k]?.getD 0) then k else mostN l k
def fm (l:List Int)(k:Nat):-1<=mostN l k/\mostN l k<k:=by
 induction k with
 |zero=>simp[mostN]
 |succ k ih =>
  unfold mostN
  split
  ·omega
  ·omega
end Go.Sq
namespace Go.Proofs.YtjmmlkobmhlikaaGreat
open Go.RowKit Go.Sq
def tf (A:Option Addr)(c:Nat)(l:List Int)(w:World)(B:Nat)(hB:B<=w.heap.size)(h:OwAt w B A l)(hl:l.length<=4611686018427387904) :
  Calls uZ 36 #[.slice A l.length c] w λe w'=>e=.returned (.int .i64 (mostN l l.length))/\Gr w w':=by
 have HR:=ui h
 clear h
 go_enter Sq.func36,Tryz.ntmps36
 go_wp2
 go_loopw [3,8] (λs i wr=>∃k:Nat,k<=l.length/\i=.int .i64 k/\s=.int .i64 (mostN l k)/\Gr w wr) (λ_ i _=>l.length-(intOf i).toNat)
 case atStart=>exact⟨0,by omega,rfl,rfl,.refl _⟩
 case round =>
  obtain⟨k,hk,rfl,rfl,hg⟩:=hrel
  have HG:=ui hg
  clear hg
  by_cases hlt:k<l.length
  ·obtain⟨b,o,e,hb,hc⟩:=HR.out.gr hB HG.out (λe=>by rw[e] at hlt;simp at hlt)
   subst e
   obtain⟨c4,n0,n1,n2,A',m,c',c0,c1,c2,c3⟩:=hc k _ (List.getElem?_eq_getElem hlt)
   have HM:=ui (show mostN l (k+1)=if 0<l[k]/\(mostN l k<0\/l[(mostN l k).toNat]?.getD 0<l[k]) then(k:Int) else mostN l k by
    show(if _ then _ else _)=_
    rw[List.getElem?_eq_getElem hlt];rfl)
   have HML:=fm l k
   have HCC:=ui hc
   clear hc
   have hz:=HG.out.size
   generalize l[k]=x at c4 HM
   by_cases hx:0<x
   ·by_cases hm:mostN l k<0
    ·have HM2:=ui (show mostN l (k+1)=k by rw[HM.out,if_pos ⟨hx,.inl hm⟩])
     clear HM HML
     generalize mostN l k=q at hm HM2
     have hd1:decide (x > 0)=true:=by simp;omega
     have hd2:decide (q<0)=true:=by simp;omega
     go_wp2
     go_region
     go_wp2
     go_roundw
     case rel=>exact⟨k+1,by omega,by go_num,congrArg (Value.int .i64) HM2.out.symm,(HG.out.alloc _).drew⟩
     case measure=>simp[intOf];omega
    ·obtain⟨j,hj⟩:∃j:Nat,mostN l k=j:=⟨(mostN l k).toNat,by omega⟩
     rw[hj] at HM hm HML ⊢
     have hjk:j<k:=by omega
     obtain⟨y4,_⟩:=HCC.out j _ (List.getElem?_eq_getElem (show j<l.length by omega))
     have HY:=ui (show l[(j:Int).toNat]?.getD 0=l[j] by rw[Int.toNat_natCast,List.getElem?_eq_getElem (by omega)];rfl)
     generalize l[j]=y at y4 HY
     have hjl:j<l.length:=by omega
     have HJ:=ui hj
     clear hj hm HML
     have hd1:decide (x > 0)=true:=by simp;omega
     have hd3:decide ((j:Int)<0)=false:=by simp
     have hbl:b<wr.heap.size:=by omega
     by_cases hxy:y<x
     ·have HM2:=ui (show mostN l (k+1)=k by rw[HM.out,if_pos ⟨hx,.inr (by rw[HY.out];exact hxy)⟩])
      have hd2:decide (x > y)=true:=by simp;omega
      clear HM HY
      go_wp2
      go_quiet (fail)
      go_wp2
      go_roundw
      case rel=>exact⟨k+1,by omega,by go_num,congrArg (Value.int .i64) HM2.out.symm,(HG.out.alloc _).drewN _⟩
      case measure=>simp[intOf];omega
     ·have HM2:=ui (show mostN l (k+1)=j by rw[HM.out,if_neg (by rw[HY.out];omega)])
      have hd2:decide (x > y)=false:=by simp;omega
      clear HM HY
      go_wp2
      go_quiet (fail)
      go_wp2
      go_roundw
      case rel=>exact⟨k+1,by omega,by go_num,congrArg (Value.int .i64) HM2.out.symm,(HG.out.alloc _).drewN _⟩
      case measure=>simp[intOf];omega
   ·have HM2:=ui (show mostN l (k+1)=mostN l k by rw[HM.out,if_neg (by omega)])
    have hd1:decide (x > 0)=false:=by simp;omega
    clear HM HML
    generalize hq:mostN l k=q at HM2
    clear hq
    go_wp2
    go_region
    go_wp2
    go_roundw
    case rel=>exact⟨k+1,by omega,by go_num,congrArg (Value.int .i64) HM2.out.symm,(HG.out.alloc _).drew⟩
    case measure=>simp[intOf];omega
  ·have hkl:k=l.length:=by omega
   subst hkl
   go_wp2
   go_ret
   exact⟨rfl,HG.out⟩
end Go.Proofs.YtjmmlkobmhlikaaGreat
namespace Go.Sq
def raidE (n:Nat)(rs:List (Int×Int))(k:Nat):Int :=
 if inR (rs[k]?.getD (0,0)).1 0 (n-1)=false then 3 else if inR (rs[k]?.getD (0,0)).2 0 60=false then 1 else if(rs.take k).any (·.1==(rs[k]?.getD (0,0)).1)=true then 4 else 0
def dx (n:Nat)(rs:List (Int×Int)):Int:=bj ((List.range rs.length).map (raidE n rs))
def aI (rs:List (Int×Int)):Nat->Nat->Int
 |0,_=>0
 |k+1,j=>if(rs[k]?.getD (0,0)).1=j then(rs[k]?.getD (0,0)).2 else aI rs k j
def wolvesL (n:Nat)(rs:List (Int×Int))(k:Nat):List Int:=(List.range n).map (aI rs k)
def bi (n:Nat)(rs:List (Int×Int))(k:Nat):(wolvesL n rs k).length=n:=by simp[wolvesL]
def iW {n:Nat}{rs:List (Int×Int)}{k j:Nat}(hj:j<n):(wolvesL n rs k)[j]?=some (aI rs k j):=by simp[wolvesL,hj]
def gQ {n:Nat}{rs:List (Int×Int)}(h:∀k,k<rs.length->raidE n rs k=0)(k j:Nat)(hk:k<=rs.length):0<=aI rs k j/\aI rs k j<=60:=by
 induction k with
 |zero=>simp[aI]
 |succ k ih =>
  have:=h k (by omega)
  unfold aI
  split
  ·unfold raidE at this
   split at this
   ·omega
   ·split at this
    ·omega
    ·rename_i h1 h2
     simp[inR] at h2
     omega
  ·exact ih (by omega)
def lossStep (n:Int)(s:List Int×List (Int×Int)):List Int×List (Int×Int) :=
 if mostN s.1 s.1.length<0 then s else(s.1.set (mostN s.1 s.1.length).toNat (s.1[(mostN s.1 s.1.length).toNat]?.getD 0-1),s.2++[(n,mostN s.1 s.1.length)])
def lossIt (n:Int)(s:List Int×List (Int×Int)):Nat->List Int×List (Int×Int)
 |0=>s
 |m+1=>lossStep n (lossIt n s m)
def tooMany (c:Camp)(r:Ros)(ws:List Int)(k:Nat):Nat:=(ws[k]?.getD 0-c.dogs (r k)).toNat
def lossAll (c:Camp)(r:Ros)(ws:List Int):Nat->List Int×List (Int×Int)
 |0=>(c.herders.map (·.heads),[])
 |k+1=>lossIt k (lossAll c r ws k) (tooMany c r ws k)
def lossesL (c:Camp)(r:Ros)(ws:List Int):List (Int×Int):=(lossAll c r ws ws.length).2
def gf {n:Int}{s:List Int×List (Int×Int)}(h:mostN s.1 s.1.length<0):lossStep n s=s:=if_pos h
def nl {n:Int}{s:List Int×List (Int×Int)}(h:mostN s.1 s.1.length<0)(m:Nat):lossIt n s m=s:=by
 induction m with
 |zero=>rfl
 |succ m ih=>rw[lossIt,ih];exact gf h
def lF {n:Int}{s:List Int×List (Int×Int)}{k m:Nat}(h:mostN (lossIt n s k).1 (lossIt n s k).1.length<0)(hm:k<=m):lossIt n s m=lossIt n s k:=by
  induction m with
  | zero => obtain rfl : k = 0 := by omega
            rfl
  |succ m ih =>
    rcases Nat.lt_or_ge m k with h1|h1
    · obtain rfl:k=m+1:=by omega
      rfl
    · rw[lossIt,ih h1];exact gf h
def kS {c:Camp}{r:Ros}{ws:List Int}{k m:Nat}(h:mostN (lossAll c r ws k).1 (lossAll c r ws k).1.length<0)(hm:k<=m):lossAll c r ws m=lossAll c r ws k:=by
  induction m with
  | zero => obtain rfl : k = 0 := by omega
            rfl
  |succ m ih =>
    rcases Nat.lt_or_ge m k with h1|h1
    · obtain rfl:k=m+1:=by omega
      rfl
    · rw[lossAll,ih h1];exact nl h _
def lG {c:Camp}{r:Ros}{ws:List Int}{k m:Nat}(hk:k<ws.length)(hm:m<=tooMany c r ws k)(h:mostN (lossIt k (lossAll c r ws k) m).1 (lossIt k (lossAll c r ws k) m).1.length<0):lossesL c r ws=(lossIt k (lossAll c r ws k) m).2:=by
 have e:lossAll c r ws (k+1)=lossIt k (lossAll c r ws k) m:=by rw[lossAll];exact lF h hm
 unfold lossesL
 rw[kS (k:=k+1) (by rw[e];exact h) (by omega),e]
structure LossOk (c:Camp)(n:Nat)(s:List Int×List (Int×Int)):Prop where
 len:s.1.length=c.herders.length
 low:∀x∈s.1,0<=x/\x<=40
 count:s.1.sum+s.2.length<=160
 night:∀p∈s.2,0<=p.1/\p.1<n/\0<=p.2/\p.2<c.herders.length
def jE (l:List Int)(k:Nat)(h:0<=mostN l k):0<l[(mostN l k).toNat]?.getD 0:=by
 induction k with
 |zero=>simp[mostN] at h
 |succ k ih =>
  unfold mostN at h ⊢
  by_cases hc:0<l[k]?.getD 0/\(mostN l k<0\/l[(mostN l k).toNat]?.getD 0<l[k]?.getD 0)
  ·rw[if_pos hc];simpa using hc.1
  ·rw[if_neg hc] at h ⊢;exact ih h
def mq (l:List Int)(k:Nat)(x:Int)(h:k<l.length):(l.set k x).sum=l.sum-l[k]?.getD 0+x:=by
 induction l generalizing k with
 |nil=>simp at h
 |cons a l ih =>
  cases k with
  |zero=>simp;omega
  |succ k =>
   simp only[List.set_cons_succ,List.sum_cons,List.getElem?_cons_succ]
   rw[ih k (by simpa using h)];omega
def LossOk.step {c:Camp}{n:Nat}{s:List Int×List (Int×Int)}{d:Nat}(hd:d<n)(h:LossOk c n s):LossOk c n (lossStep d s):=by
 unfold lossStep
 split
 ·exact h
 ·rename_i hm
  have h1:=fm s.1 s.1.length
  have h2:=jE s.1 s.1.length (by omega)
  have hl:(mostN s.1 s.1.length).toNat<s.1.length:=by omega
  have h3:=h.low _ (mem_get s.1 _ hl)
  refine⟨by simp[h.len],λx hx=>?_,?_,λp hp=>?_⟩
  ·rcases List.mem_or_eq_of_mem_set hx with h4|rfl
   ·exact h.low x h4
   ·omega
  ·have h4:=h.count
   show(s.1.set _ _).sum+((s.2++[((d:Int),mostN s.1 s.1.length)]).length:Nat)<=160
   rw[mq _ _ _ hl,List.length_append]
   simp only[List.length_cons,List.length_nil,Int.natCast_add]
   omega
  ·rcases List.mem_append.1 hp with h4|h4
   ·exact h.night p h4
   ·simp only[List.mem_cons,List.not_mem_nil,or_false] at h4
    subst h4
    have:=h.len
    show(0:Int)<=d/\(d:Int)<n/\_/\_
    omega
def LossOk.it {c:Camp}{n:Nat}{s:List Int×List (Int×Int)}{d:Nat}(hd:d<n)(h:LossOk c n s)(m:Nat):LossOk c n (lossIt d s m):=by
 induction m with
 |zero=>exact h
 |succ m ih=>exact ih.step hd
def LossOk.all {c:Camp}(hc:c.Ok){r:Ros}{ws:List Int}{n:Nat}(hn:ws.length<=n)(k:Nat)(hk:k<=ws.length):LossOk c n (lossAll c r ws k):=by
 induction k with
 |zero =>
  refine⟨by simp[lossAll],λx hx=>?_,?_,λp hp=>by simp[lossAll] at hp⟩
  ·simp only[lossAll,List.mem_map] at hx
   obtain⟨h,hh,rfl⟩:=hx
   have:=hc.heads h hh;omega
  ·have := sum_bound 1 40 (c.herders.map (·.heads)) fun x hx => by
    simp only[List.mem_map] at hx
    obtain⟨h,hh,rfl⟩:=hx
    exact hc.heads h hh
   have h4:=hc.h4
   simp only[lossAll,List.length_nil,List.length_map] at *
   omega
 |succ k ih=>exact(ih (by omega)).it (by omega) _
def gh {c:Camp}(hc:c.Ok)(r:Ros)(ws:List Int):LossOk c ws.length (lossAll c r ws ws.length):=LossOk.all hc (Nat.le_refl _) _ (Nat.le_refl _)
def bM {c:Camp}(hc:c.Ok)(r:Ros)(ws:List Int):(lossesL c r ws).length<=160:=by
 have h:=gh hc r ws
 have h1:=sum_bound 0 40 _ h.low
 have h2:=h.count
 unfold lossesL;omega
def partK (p:Int)(on:List Int)(h:Int):Nat->Int
 |0=>0
 |k+1=>partK p on h k+if on[k]?.getD 0=h then p / on.length+(if(k:Int)<p % on.length then 1 else 0) else 0
def kT {p:Int}(hp:0<=p/\p<=99)(on:List Int)(h:Int)(k:Nat):0<=partK p on h k/\partK p on h k<=100*k:=by
 induction k with
 |zero=>simp[partK]
 |succ k ih =>
  have h1:0<=p / (on.length:Int):=Int.ediv_nonneg hp.1 (by omega)
  have h2:p / (on.length:Int)<=p:=Int.ediv_le_self _ hp.1
  unfold partK
  split
  ·split<;>omega
  ·omega
def owesK (p:Int)(r:Ros)(ls:List (Int×Int))(h t:Nat):Nat->Int
 |0=>0
 |k+1=>owesK p r ls h t k+if(ls[k]?.getD (0,0)).2=t/\h≠t then partK p (wl (r (ls[k]?.getD (0,0)).1.toNat)) h (wl (r (ls[k]?.getD (0,0)).1.toNat)).length else 0
def kU {p:Int}(hp:0<=p/\p<=99)(r:Ros)(ls:List (Int×Int))(h t:Nat)(k:Nat):0<=owesK p r ls h t k/\owesK p r ls h t k<=400*k:=by
 induction k with
 |zero=>simp[owesK]
 |succ k ih =>
  have h1:=kT hp (wl (r (ls[k]?.getD (0,0)).1.toNat)) h (wl (r (ls[k]?.getD (0,0)).1.toNat)).length
  have h2:=cO (r (ls[k]?.getD (0,0)).1.toNat)
  unfold owesK
  split<;>omega
def tabL (n:Nat)(M:Nat->Nat->Int):List (List Int):=(List.range n).map λh=>(List.range n).map (M h)
def fo (n:Nat)(M:Nat->Nat->Int):(tabL n M).length=n:=by simp[tabL]
def r9 {n:Nat}{M:Nat->Nat->Int}{h:Nat}(hh:h<n):(tabL n M)[h]?=some ((List.range n).map (M h)):=by simp[tabL,hh]
def owesL (c:Camp)(r:Ros)(p:Int)(ws:List Int):List (List Int):=tabL c.herders.length λh t=>owesK p r (lossesL c r ws) h t (lossesL c r ws).length
def balK (M:List (List Int)):Nat->Nat->Int
 |0,_=>0
 |k+1,j=>balK M k j-(if j=k then(M[k]?.getD []).sum else 0)+(M[k]?.getD [])[j]?.getD 0
def balL (M:List (List Int)):List Int:=(List.range M.length).map (balK M M.length)
open Go.RowKit
def sa (l:List Int)(n:Nat)(h:∀x∈l,0<=x/\x<n):ofL l<2 ^ n:=by
 have key:∀(l:List Int) (x:Nat),(∀y∈l,0<=y/\y<n)->x<2 ^ n->l.foldl (λx h=>x ||| 2 ^ h.toNat) x<2 ^ n:=by
  intro l
  induction l with
  |nil=>intro x _ hx;exact hx
  |cons a l ih =>
   intro x h hx
   have ha:=h a List.mem_cons_self
   exact ih _ (λy hy=>h y (List.mem_cons_of_mem _ hy)) (Nat.or_lt_two_pow hx (Nat.pow_lt_pow_right (by omega) (by omega)))
 exact key l 0 h (Nat.two_pow_pos n)
def cJ {c:Camp}{ls:List (List Int)}(hE:formedE c ls=0)(i:Nat):c.has (rosOf ls i):=by
 unfold formedE at hE
 split at hE
 ·rename_i h;exact absurd hE h
 ·split at hE
  ·rename_i h;exact absurd hE h
  ·unfold rosOf Camp.has
   cases hl:ls[i]? with
   |none=>exact Nat.two_pow_pos _
   |some l =>
    have:=bB.1 hE (ascE l c.herders.length) (List.mem_map.2 ⟨l,List.mem_of_getElem? hl,rfl⟩)
    exact sa l _ (ascE_ok this).1
structure Tab (w:World)(base:Nat)(v:Value)(n m:Nat)(M:Nat->Nat->Int)(bl:Nat->Nat):Prop where
 row:∃xs,w.ownsRow base 22 1 v m xs/\∀h,h<m->xs[h]?=some (.slice (some ⟨bl h,0,none⟩) n n)
 cells:∀h,h<m->base<=bl h/\∃l:Array Value,w.heap[bl h]?=some (.cells l 3 (0,0))/\∀t,t<n->l[t]?=some (.int .i64 (M h t))
 inj:∀h h',h<m->h'<m->bl h=bl h'->h=h'
def cell_of_heap {w:World}{b:Nat}{l:Array Value}{ty:TypeId}(h:w.heap[b]?=some (.cells l ty (0,0)))(o:Nat):w.cell? ⟨b,o,none⟩=l[o]?/\w.frozen? ⟨b,o,none⟩=false:=by
 unfold World.cell? World.frozen?
 rw[h]
 simp
def pi {w:World}{base size n:Nat}{e e':TypeId}{v:Value}{xs:List Value}(h:w.ownsRow base e size v n xs)(hne:e≠e'){b:Nat}{l:Array Value}(hb:w.heap[b]?=some (.cells l e' (0,0))):some b≠v.ownBlock:=λhh=>by
 rcases h.2 with⟨rfl,_⟩|⟨g,cap,cur,rfl,_,k,_⟩
 ·cases hh
 ·have e1:b=g:=by injection hh
  subst e1
  rw[hb] at k
  injection k with k
  injection k with _ k _
  exact hne k.symm
section
variable {w w':World} {base n m:Nat} {v:Value} {M M':Nat->Nat->Int} {bl:Nat->Nat}
def Tab.nil (w:World)(base n:Nat)(M:Nat->Nat->Int)(bl:Nat->Nat):Tab w base (.slice none 0 0) n 0 M bl:=⟨⟨[],World.ownsRow_nil _ _ _ _,λh hh=>absurd hh (by omega)⟩,λh hh=>absurd hh (by omega),λh h' hh=>absurd hh (by omega)⟩
def Tab.keep (h:Tab w base v n m M bl)(hk:∀b,base<=b->b<w.heap.size->w'.heap[b]?=w.heap[b]?):Tab w' base v n m M bl:=by
 obtain⟨xs,h1,h2⟩:=h.row
 refine⟨⟨xs,own_keep h1 λg hg hl=>hk g (h1.lt g hg).1 hl,h2⟩,λa ha=>?_,h.inj⟩
 obtain⟨c1,l,c2,c3⟩:=h.cells a ha
 exact⟨c1,l,(hk _ c1 (Array.getElem?_eq_some_iff.1 c2).1).trans c2,c3⟩
def Tab.gr (h:Tab w base v n m M bl)(hg:Gr w w'):Tab w' base v n m M bl:=h.keep λb _ hb=>hg.below.block b hb
def Tab.drew (h:Tab w base v n m M bl):Tab w.drew base v n m M bl:=h.keep λ_ _ _=>rfl
def Tab.congr (h:Tab w base v n m M bl)(e:∀a t,a<m->t<n->M a t=M' a t):Tab w base v n m M' bl:=by
 refine⟨h.row,λa ha=>?_,h.inj⟩
 obtain⟨c1,l,c2,c3⟩:=h.cells a ha
 exact⟨c1,l,c2,λt ht=>by rw[<-e a t ha ht];exact c3 t ht⟩
def Tab.at_ (h:Tab w base v n m M bl){a t:Nat}(ha:a<m)(ht:t<n):base<=bl a/\bl a<w.heap.size/\w.cell? ⟨bl a,t,none⟩=some (.int .i64 (M a t))/\w.frozen? ⟨bl a,t,none⟩=false:=by
 obtain⟨c1,l,c2,c3⟩:=h.cells a ha
 exact⟨c1,(Array.getElem?_eq_some_iff.1 c2).1,(cell_of_heap c2 t).1.trans (c3 t ht),(cell_of_heap c2 t).2⟩
def Tab.row_at {A:Option Addr}{k c:Nat}(h:Tab w base (.slice A k c) n m M bl){a:Nat}(ha:a<m):∃g,A=some ⟨g,0,none⟩/\g<w.heap.size/\w.cell? ⟨g,a,none⟩=some (.slice (some ⟨bl a,0,none⟩) n n):=by
 obtain⟨xs,h1,h2⟩:=h.row
 rcases h1.2 with⟨_,h0⟩|⟨g,cap,cur,hv,k1,k2,k3⟩
 ·omega
 ·have hA:A=some ⟨g,0,none⟩:=by injection hv
  subst hA
  have:=h1.cells (g:=g) rfl a _ (h2 a ha)
  have e:(⟨g,0,none⟩:Addr).add a=⟨g,0+a,none⟩:=by unfold Addr.add;split<;>simp_all
  rw[e,Nat.zero_add] at this
  exact⟨g,rfl,(Array.getElem?_eq_some_iff.1 k2).1,this⟩
def Tab.push {w1:World}{v':Value}{q:Nat}{xs:List Value}{z:Array Value}(h:Tab w base v n m (λ_ _=>0) bl)(hr:w.ownsRow base 22 1 v m xs)(hx:∀h,h<m->xs[h]?=some (.slice (some ⟨bl h,0,none⟩) n n))
  (hq:base<=q) (hqw:w.heap.size<=q) (h1:∀b,b<w.heap.size->w1.heap[b]?=w.heap[b]?) (hz:w1.heap[q]?=some (.cells z 3 (0,0))) (hzz:∀t,t<n->z[t]?=some (.int .i64 0)) (hs:w.heap.size<=w1.heap.size)
  (hg:w1.grownBy w' v.ownBlock) (hr':w'.ownsRow base 22 1 v' (m+1) (xs++[.slice (some ⟨q,0,none⟩) n n])):Tab w' base v' n (m+1) (λ_ _=>0) (λa=>if a=m then q else bl a):=by
 have hlen:xs.length=m:=by have:=hr.1;omega
 have hqv:some q≠v.ownBlock:=λe=>by have:=(hr.lt q e.symm).2;omega
 refine⟨⟨_,hr',λa ha=>?_⟩,λa ha=>?_,λa a' ha ha' e=>?_⟩
 ·try dsimp only
  by_cases e:a=m
  ·subst e;rw[if_pos rfl,List.getElem?_append_right (by omega),hlen];simp
  ·rw[if_neg e,List.getElem?_append_left (by omega)];exact hx a (by omega)
 ·try dsimp only
  by_cases e:a=m
  ·subst e
   rw[if_pos rfl]
   exact⟨hq,z,(hg.block q (Array.getElem?_eq_some_iff.1 hz).1 hqv).trans hz,hzz⟩
  ·rw[if_neg e]
   obtain⟨c1,l,c2,c3⟩:=h.cells a (by omega)
   have hlt:=(Array.getElem?_eq_some_iff.1 c2).1
   exact⟨c1,l,(hg.block (bl a) (by omega) (pi hr (by decide) c2)).trans ((h1 _ hlt).trans c2),c3⟩
 ·try dsimp only at e
  have key:∀a,a<m->bl a<w.heap.size:=λa ha=>by
   obtain⟨_,l,c2,_⟩:=h.cells a ha
   exact(Array.getElem?_eq_some_iff.1 c2).1
  by_cases e1:a=m
  ·by_cases e2:a'=m
   ·omega
   ·rw[if_pos e1,if_neg e2] at e
    have:=key a' (by omega)
    omega
  ·by_cases e2:a'=m
   ·rw[if_neg e1,if_pos e2] at e
    have:=key a (by omega)
    omega
   ·rw[if_neg e1,if_neg e2] at e
    exact h.inj a a' (by omega) (by omega) e
def Tab.set (h:Tab w base v n m M bl){a t:Nat}(ha:a<m)(ht:t<n)(y:Int)(hM:∀a' t',a'<m->t'<n->M' a' t'=if a'=a/\t'=t then y else M a' t'):Tab (w.setCell ⟨bl a,t,none⟩ (.int .i64 y)) base v n m M' bl:=by
 obtain⟨xs,h1,h2⟩:=h.row
 obtain⟨c1,l,c2,c3⟩:=h.cells a ha
 have hblk:∀g,g≠bl a->(w.setCell ⟨bl a,t,none⟩ (.int .i64 y)).heap[g]?=w.heap[g]?:=λg hg=>by
  rw[Go.Iso.setCell_get];exact if_neg hg
 refine⟨⟨xs,own_keep h1 λg hg _=>hblk g λe=>pi h1 (by decide) c2 (by rw[<-e];exact hg.symm),h2⟩,λa' ha'=>?_,h.inj⟩
 obtain⟨d1,l',d2,d3⟩:=h.cells a' ha'
 by_cases e:a'=a
 ·subst e
  refine⟨d1,l.setIfInBounds t (.int .i64 y),?_,λt' ht'=>?_⟩
  ·rw[Go.Iso.setCell_get,if_pos rfl,c2];simp[Go.Iso.cellPut]
  ·rw[hM a' t' ha' ht',Array.getElem?_setIfInBounds]
   by_cases e2:t=t'
   ·subst e2
    have hl:=(Array.getElem?_eq_some_iff.1 (c3 t ht)).1
    simp[hl]
   ·rw[if_neg e2,if_neg (λh=>e2 h.2.symm)];exact c3 t' ht'
 ·refine⟨d1,l',(hblk _ λe2=>e (h.inj a' a ha' ha e2)).trans d2,λt' ht'=>?_⟩
  rw[hM a' t' ha' ht',if_neg (λh=>e h.1)]
  exact d3 t' ht'
def Tab.grAt {A:Option Addr}{c:Nat}(h:Tab w base (.slice A m c) m m M bl):GrAt w w.heap.size A (tabL m M):=λhn=>by
 have hm:0<m:=by
  rcases Nat.eq_zero_or_pos m with e|e
  ·exact absurd (List.eq_nil_of_length_eq_zero ((fo m M).trans e)) hn
  ·exact e
 obtain⟨g,rfl,hg,_⟩:=h.row_at hm
 refine⟨g,0,rfl,hg,λi l hl=>?_⟩
 have hi:i<m:=by have:=(List.getElem?_eq_some_iff.1 hl).1;rwa [fo] at this
 rw[r9 hi] at hl
 cases hl
 obtain⟨g',e,_,hc⟩:=h.row_at hi
 have e':g'=g:=by injection e with e;injection e with e;exact e.symm
 subst e'
 refine⟨some ⟨bl i,0,none⟩,m,by simpa using hc,λ_=>⟨_,0,rfl,?_,λj x hx=>?_⟩⟩
 ·obtain⟨_,l,c2,_⟩:=h.cells i hi
  exact(Array.getElem?_eq_some_iff.1 c2).1
 ·have hj:j<m:=by have:=(List.getElem?_eq_some_iff.1 hx).1;simpa using this
  have hx':x=M i j:=by
   rw[List.getElem?_map,List.getElem?_range hj] at hx
   exact(Option.some.inj hx).symm
  rw[Nat.zero_add,hx']
  exact(h.at_ hi hj).2.2.1
end
def RsAt (w:World)(B:Nat)(A:Option Addr)(l:List (Int×Int)):Prop :=
 l≠[]->∃b o,A=some ⟨b,o,none⟩/\b<B/\∀(i:Nat) (x:Int×Int),l[i]?=some x->w.cell? ⟨b,o+i*2,none⟩=some (.int .i64 x.1)/\w.cell? ⟨b,o+i*2+1,none⟩=some (.int .i64 x.2)
def RsAt.keep {w w':World}{B:Nat}{A:Option Addr}{l:List (Int×Int)}(h:RsAt w B A l)(hk:∀b o,b<B->w'.cell? ⟨b,o,none⟩=w.cell? ⟨b,o,none⟩):RsAt w' B A l:=λhn=>by
 obtain⟨b,o,e,hb,hc⟩:=h hn
 exact⟨b,o,e,hb,λi x hx=>⟨(hk _ _ hb).trans (hc i x hx).1,(hk _ _ hb).trans (hc i x hx).2⟩⟩
def RsAt.gr {w w':World}{B:Nat}{A:Option Addr}{l:List (Int×Int)}(h:RsAt w B A l)(hB:B<=w.heap.size)(hg:Gr w w'):RsAt w' B A l:=h.keep λ_ _ hb=>hg.cell (Nat.lt_of_lt_of_le hb hB)
def RsAt.at_ {w:World}{B:Nat}{A:Option Addr}{l:List (Int×Int)}(h:RsAt w B A l){k:Nat}(hk:k<l.length):∃b o,A=some ⟨b,o,none⟩/\b<B/\w.cell? ⟨b,o+k*2,none⟩=some (.int .i64 (l[k]?.getD (0,0)).1)/\w.cell? ⟨b,o+k*2+1,none⟩=some (.int .i64 (l[k]?.getD (0,0)).2):=by
 obtain⟨b,o,e,hb,hc⟩:=h (λe=>by rw[e] at hk;simp at hk)
 obtain⟨h1,h2⟩:=hc k _ (List.getElem?_eq_getElem hk)
 exact⟨b,o,e,hb,by rw[List.getElem?_eq_getElem hk];exact h1,by rw[List.getElem?_eq_getElem hk];exact h2⟩
end Go.Sq
namespace Go.Proofs.YtjmmlkobmhlikaaGreat
open Go.RowKit Go.Sq
def sd (a b q:Int)(pb:Nat)(w:World)(hp:pb<w.heap.size)(hc:w.cell? ⟨pb,0,none⟩=some (.int .i64 q)) :
  Calls uZ 38 #[.agg #[.int .i64 a,.int .i64 b],.pointer (some ⟨pb,0,none⟩)] w λe w'=>e=.returned (.bool (a==q))/\Gr w w':=by
 go_enter Sq.func38,Tryz.ntmps38
 go_wp2
 go_ret
 exact⟨rfl,(Gr.refl w).alloc _⟩
def lH (A:Option Addr)(c pb:Nat)(q:Int)(l:List (Int×Int))(w:World)(B:Nat)(hB:B<=w.heap.size)(h:RsAt w B A l)(hl:l.length<=4611686018427387904)(hp:pb<w.heap.size)(hc:w.cell? ⟨pb,0,none⟩=some (.int .i64 q)) :
  Calls uZ 65 #[.slice A l.length c,.func (.func 38) #[] #[.pointer (some ⟨pb,0,none⟩)]] w λe w'=>(∃n:Int,e=.returned (.int .i64 n)/\(0<=n↔l.any (·.1==q)=true))/\Gr w w':=by
 have HR:=ui h
 clear h
 go_enter Sq.func65,Tryz.ntmps65
 go_wp2
 go_loopw [8] (λi wr=>∃k:Nat,k<=l.length/\i=.int .i64 k/\(l.take k).any (·.1==q)=false/\Gr w wr) (λi _=>l.length-(intOf i).toNat)
 case atStart=>exact⟨0,by omega,rfl,by simp,.refl _⟩
 case round =>
  obtain⟨k,hk,rfl,ha,hg⟩:=hrel
  have HA:=ui ha
  have HG:=ui hg
  clear ha hg
  by_cases hlt:k<l.length
  ·obtain⟨b,o,rfl,hb,h1,h2⟩:=(HR.out.gr hB HG.out).at_ hlt
   have HT:=ui (bf (0,0) l k hlt)
   have HM:Hid (l[k]?.getD (0,0)∈l):=ui (by rw[List.getElem?_eq_getElem hlt];exact List.getElem_mem hlt)
   generalize l[k]?.getD (0,0)=x at h1 h2 HT HM
   have hz:=HG.out.size
   have HC:=ui (sd x.1 x.2 q pb wr (by omega) ((HG.out.cell hp).trans hc))
   obtain⟨v,hv⟩:∃v,v=(x.1==q):=⟨_,rfl⟩
   rw[<-hv] at HC
   have HV:=ui hv
   clear hv
   cases v with
   |true =>
    go_wp2_with (go_at_call 38;refine HC.out.mono ?_;rintro e w2 ⟨rfl,hg2⟩;have HG2:=ui hg2;clear hg2)
    go_ret
    refine⟨⟨k,rfl,⟨λ_=>List.any_eq_true.2 ⟨x,HM.out,HV.out.symm⟩,λ_=>by omega⟩⟩,HG.out.trans HG2.out⟩
   |false =>
    go_wp2_with (go_at_call 38;refine HC.out.mono ?_;rintro e w2 ⟨rfl,hg2⟩;have HG2:=ui hg2;clear hg2)
    go_roundw
    case rel=>exact⟨k+1,by omega,by go_num,by rw[HT.out,List.any_append,HA.out];simp[<-HV.out],HG.out.trans HG2.out⟩
    case measure=>simp[intOf];omega
  ·have hkl:k=l.length:=by omega
   have HZ:=ui (show l.any (·.1==q)=false by have:=HA.out;rwa [hkl,List.take_of_length_le (by omega)] at this)
   clear hkl
   go_wp2
   go_ret
   exact⟨⟨-1,rfl,by rw[HZ.out];simp⟩,HG.out⟩
def pj (A:Option Addr)(c pb:Nat)(q:Int)(l:List (Int×Int))(w:World)(B:Nat)(hB:B<=w.heap.size)(h:RsAt w B A l)(hl:l.length<=4611686018427387904)(hp:pb<w.heap.size)(hc:w.cell? ⟨pb,0,none⟩=some (.int .i64 q)) :
  Calls uZ 37 #[.slice A l.length c,.func (.func 38) #[] #[.pointer (some ⟨pb,0,none⟩)]] w λe w'=>e=.returned (.bool (l.any (·.1==q)))/\Gr w w':=by
 have HC:=ui (lH A c pb q l w B hB h hl hp hc)
 clear h
 go_enter Sq.func37,Tryz.ntmps37
 go_wp2_with fail
 refine HC.out.mono ?_
 rintro e w2 ⟨⟨n,rfl,hn⟩,hg⟩
 have HG:=ui hg
 have HN:=ui (show decide (0<=n)=l.any (·.1==q) by
  cases hv:l.any (·.1==q) with
  |true=>simp[hn.2 hv]
  |false=>simp;have:=λh=>hn.1 h;rw[hv] at this;exact Int.not_le.1 λh=>by cases this h)
 clear hn hg
 go_wp2
 go_ret
 exact⟨aD HN.out,HG.out⟩
open Go.RowKit Go.Sq
def gi {n:Nat}{rs:List (Int×Int)}(h:dx n rs=0):∀k,k<rs.length->raidE n rs k=0:=by
 have key:∀l:List Int,bj l=0->∀x∈l,x=0:=λl h x hx=>by
  unfold bj at h
  cases hf:l.find? (λx=>x != 0) with
  |none=>simpa using List.find?_eq_none.1 hf x hx
  |some y =>
   rw[hf] at h
   have:=List.find?_some hf
   simp at this
   exact absurd h this
 intro k hk
 exact key _ h _ (List.mem_map.2 ⟨k,by simpa using hk,rfl⟩)
def kV {n:Nat}{rs:List (Int×Int)}{k:Nat}(h:raidE n rs k=0) :
  inR (rs[k]?.getD (0,0)).1 0 (n-1)=true/\inR (rs[k]?.getD (0,0)).2 0 60=true/\(rs.take k).any (·.1==(rs[k]?.getD (0,0)).1)=false:=by
 unfold raidE at h
 cases h1:inR (rs[k]?.getD (0,0)).1 0 (n-1) with
 |false=>rw[h1,if_pos rfl] at h;cases h
 |true =>
  cases h2:inR (rs[k]?.getD (0,0)).2 0 60 with
  |false=>rw[h1,h2,if_neg (by simp),if_pos rfl] at h;cases h
  |true =>
   cases h3:(rs.take k).any (·.1==(rs[k]?.getD (0,0)).1) with
   |true=>rw[h1,h2,h3,if_neg (by simp),if_neg (by simp),if_pos rfl] at h;cases h
   |false=>exact⟨rfl,rfl,rfl⟩
def _root_.Go.Sq.RsAt.take {w:World}{B:Nat}{A:Option Addr}{l:List (Int×Int)}(h:RsAt w B A l)(k:Nat):RsAt w B A (l.take k):=λhn=>by
 obtain⟨b,o,e,hb,hc⟩:=h (λe=>hn (by rw[e];simp))
 exact⟨b,o,e,hb,λi x hx=>hc i x (by
  rw[List.getElem?_take] at hx
  split at hx
  ·exact hx
  ·cases hx)⟩
def nu {W:World}{cb:Nat}{c:Camp}{nA hA:Option Addr}{nc hc:Nat}(h:CampP W W.heap.size cb c nA hA nc hc):CampP W.drew W.drew.heap.size cb c nA hA nc hc:=(h.keep (w':=W.drew) λ_ _ _=>rfl:CampP W.drew W.heap.size cb c nA hA nc hc)
def se {W:World}{A:Option Addr}{l:List Int}(h:RI W W.heap.size A l):RI W.drew W.drew.heap.size A l:=h
def kW (nA hA gA rA:Option Addr)(nc hc gc rc:Nat)(c:Camp)(ls:List (List Int))(rs:List (Int×Int))(w:World)(B:Nat)(hB:B<=w.heap.size)(hn:RI w B nA c.needs)(hh:HsAt w B hA c.herders)(hg:GrAt w B gA ls)(hr:RsAt w B rA rs)
  (hl1:c.needs.length<=4611686018427387904) (hl2:c.herders.length<=4611686018427387904) (hlo:∀h∈c.herders,h.off.length<=4611686018427387904) (hl3:ls.length<=4611686018427387904) (hl4:∀x∈ls,x.length<=4611686018427387904) (hl5:rs.length<=4611686018427387904) (hrc:rs.length<=rc)
  (hF:formedE c ls=0) (hR:dx c.needs.length rs=0) :
  Calls uZ 21 #[campV nA hA c nc hc,.slice gA ls.length gc,.slice rA rs.length rc] w λe w'=>Gr w w'/\∃cb A k,e=.returned (.tuple #[.pointer (some ⟨cb,0,none⟩),rosV (rosOf ls),.slice A c.needs.length k,.int .i64 0]) /\
   CampP w' w'.heap.size cb c nA hA nc hc/\RI w' w'.heap.size A (wolvesL c.needs.length rs rs.length):=by
 have HR:=ui hr
 have HRE:=ui (gi hR)
 unfold campV
 obtain⟨W0,hW0⟩:∃W0:World,W0=(w.alloc (.cells #[.slice nA c.needs.length nc,.slice hA c.herders.length hc] 27)).alloc (.cells #[.int .u8 0,.int .u8 0,.int .u8 0,.int .u8 0,.int .u8 0] 59):=⟨_,rfl⟩
 have hg0:Gr w W0:=hW0▸((Gr.refl w).alloc _).alloc _
 have hz0:W0.heap.size=w.heap.size+2:=by rw[hW0];simp
 have HW:=ui hW0
 have HFORM:=ui (il nA hA gA nc hc gc c ls W0 B (by omega) (hn.gr hB hg0) (hh.keep λb o hb=>hg0.cell (Nat.lt_of_lt_of_le hb hB)) (hg.gr hB hg0) hl1 hl2 hlo hl3 hl4)
 have HG0:=ui hg0
 have hcm:W0.cell? ⟨w.heap.size,0,none⟩=some (.slice nA c.needs.length nc)/\W0.cell? ⟨w.heap.size,1,none⟩=some (.slice hA c.herders.length hc):=by
  rw[hW0]
  constructor
  all_goals rw[World.cell?_alloc_past _ _ _ (by simp),World.cell?_alloc_at _ _ _ _ rfl];rfl
 have HCM:=ui hcm
 have hz5:∀i,i<5->W0.cell? ⟨w.heap.size+1,i,none⟩=some (.int .u8 ((λ_=>0:Ros) i:Nat))/\W0.frozen? ⟨w.heap.size+1,i,none⟩=false:=λi hi=>by
  rw[hW0,World.cell?_alloc_at _ _ _ _ (by simp),World.frozen?_alloc_at _ _ _ _ (by simp)]
  match i,hi with
  |0,_=>exact⟨rfl,rfl⟩
  |1,_=>exact⟨rfl,rfl⟩
  |2,_=>exact⟨rfl,rfl⟩
  |3,_=>exact⟨rfl,rfl⟩
  |4,_=>exact⟨rfl,rfl⟩
 have HZ5:=ui hz5
 have HFE:=ui hF
 clear hW0 hg0 hn hh hg hr hl4 hlo hcm hz5 hF hR
 go_enter Sq.func21,Tryz.ntmps21
 unfold campV at HFORM
 go_wp2_with fail
 rw[<-HW.out]
 refine HFORM.out.mono ?_
 rintro e w1 ⟨hg1,hform⟩
 rw[if_pos HFE.out] at hform
 obtain⟨cb,g,cap,rfl,hcb,hcg,hK⟩:=hform
 have HOK:=ui (Camp.Ok.of (show checkE c=0 by
  have:=HFE.out
  unfold formedE at this
  split at this
  ·exact absurd this (by assumption)
  ·simpa using ‹¬checkE c≠0›))
 have hn5:=HOK.out.n5
 have hn1:=HOK.out.n1
 obtain⟨W1,hW1⟩:∃W1:World,W1=w1.alloc (.cells #[.int .u8 (rosOf ls 0),.int .u8 (rosOf ls 1),.int .u8 (rosOf ls 2),.int .u8 (rosOf ls 3),.int .u8 (rosOf ls 4)] 60):=⟨_,rfl⟩
 have hg1':Gr w1 W1:=hW1▸(Gr.refl w1).alloc _
 have hz1:W1.heap.size=w1.heap.size+1:=by rw[hW1];simp
 have hzz:=hg1.size
 have hG1:Gr W0 W1:=hg1.trans hg1'
 have HG1:=ui hG1
 have HK:=ui hK
 have HG01:=ui hg1'
 have HRC:Hid (∀i,i<5->W1.cell? ⟨w1.heap.size,i,none⟩=some (.int .u8 (rosOf ls i:Nat))):=ui λi hi=>by
  rw[hW1,World.cell?_alloc_at _ _ _ _ (by simp)]
  match i,hi with
  |0,_=>rfl
  |1,_=>rfl
  |2,_=>rfl
  |3,_=>rfl
  |4,_=>rfl
 have HZ1:Hid (∀i,i<5->W1.cell? ⟨w.heap.size+1,i,none⟩=some (.int .u8 ((λ_=>0:Ros) i:Nat))/\W1.frozen? ⟨w.heap.size+1,i,none⟩=false):=ui λi hi=>by
  obtain⟨a,b⟩:=HZ5.out i hi
  exact⟨(hG1.cell (by show w.heap.size+1<_;omega)).trans a,(hG1.frozen (by show w.heap.size+1<_;omega)).trans b⟩
 have HC1:Hid (W1.cell? ⟨w.heap.size,0,none⟩=some (.slice nA c.needs.length nc)/\W1.cell? ⟨w.heap.size,1,none⟩=some (.slice hA c.herders.length hc)):=ui
  ⟨(hG1.cell (by show w.heap.size<_;omega)).trans HCM.out.1,(hG1.cell (by show w.heap.size<_;omega)).trans HCM.out.2⟩
 have HW1:=ui hW1
 have hc0:w1.cell? ⟨w.heap.size,0,none⟩=some (.slice nA c.needs.length nc):=(hg1.cell (by show w.heap.size<_;omega)).trans HCM.out.1
 have hwl:w.heap.size<w1.heap.size:=by omega
 have hmk:=λw=>ge c.needs.length w (by omega)
 clear hg1 hK hg1' hG1 HFORM hW1
 unfold rosV
 go_wp2
 rw[<-HW1.out]
 clear hc0
 go_loopw [33] (λi wr=>∃k:Nat,k<=rs.length/\i=.int .i64 k/\Gr W1 wr/\W1.heap.size<wr.heap.size/\∀j,j<c.needs.length->wr.cell? ⟨W1.heap.size,j,none⟩=some (.int .i64 (aI rs k j))/\wr.frozen? ⟨W1.heap.size,j,none⟩=false) (λi _=>rs.length-(intOf i).toNat)
 case atStart =>
  refine⟨0,by omega,rfl,(Gr.refl W1).alloc _,by simp,λj hj=>⟨?_,?_⟩⟩
  ·rw[World.cell?_alloc_at _ _ _ _ (by simp),dw _ _ hj];rfl
  ·rw[World.frozen?_alloc_at _ _ _ _ (by simp)]
 case round =>
  obtain⟨k,hk,rfl,hgr,hzr,hcs⟩:=hrel
  have HGR:=ui hgr
  have HCS:=ui hcs
  have hc0:=(hgr.cell (by show w.heap.size<_;omega)).trans HC1.out.1
  have hgz:=hgr.size
  clear hgr hcs
  by_cases hlt:k<rs.length
  ·have HRS:=ui (HR.out.gr hB (HG0.out.trans (HG1.out.trans HGR.out)))
   obtain⟨b,o,rfl,hb,h1,h2⟩:=HRS.out.at_ hlt
   have hro:=kV (HRE.out k hlt)
   have HWA:Hid (∀j:Nat,aI rs (k+1) j=if(rs[k]?.getD (0,0)).1=(j:Int) then(rs[k]?.getD (0,0)).2 else aI rs k j):=ui λj=>rfl
   generalize rs[k]?.getD (0,0)=x at h1 h2 hro HWA
   obtain⟨xn,xv⟩:=x
   obtain⟨r1,r2,r3⟩:=hro
   dsimp only at h1 h2 r1 r2 r3 HWA
   have HB1:Hid (∀W,Calls uZ 19 #[.int .i64 xn,.int .i64 0,.int .i64 (c.needs.length-1)] W λe w'=>e=.returned (.bool true)/\W=w'):=ui λW=>by rw[<-r1];exact aZ _ _ _ W
   have HB2:Hid (∀W,Calls uZ 19 #[.int .i64 xv,.int .i64 0,.int .i64 60] W λe w'=>e=.returned (.bool true)/\W=w'):=ui λW=>by rw[<-r2];exact aZ _ _ _ W
   obtain⟨j,rfl⟩:∃j:Nat,xn=j:=⟨xn.toNat,by simp[inR] at r1;omega⟩
   have hjn:j<c.needs.length:=by simp[inR] at r1;omega
   obtain⟨W2,hW2⟩:∃W2:World,W2=wr.alloc (.cells #[.int .i64 (j:Int),.int .i64 xv] 40):=⟨_,rfl⟩
   have hg2:Gr wr W2:=hW2▸(Gr.refl wr).alloc _
   have hz2:W2.heap.size=wr.heap.size+1:=by rw[hW2];simp
   have hbx:W2.cell? ⟨wr.heap.size,0,none⟩=some (.int .i64 j)/\W2.cell? ⟨wr.heap.size,1,none⟩=some (.int .i64 xv):=by
    rw[hW2,World.cell?_alloc_at _ _ _ _ rfl,World.cell?_alloc_at _ _ _ _ rfl];exact⟨rfl,rfl⟩
   have hhas:=pj (some ⟨b,o,none⟩) rc wr.heap.size j (rs.take k) W2 B (by omega) ((HRS.out.take k).gr (by omega) hg2) (by simp;omega) (by omega) hbx.1
   have htl:(rs.take k).length=k:=by simp;omega
   rw[htl,r3] at hhas
   have HHAS:=ui hhas
   have HBX:=ui hbx
   have HG2:=ui hg2
   have HW2:=ui hW2
   have hwr:w.heap.size<wr.heap.size:=by omega
   have hkc:((k:Nat):Int)<=(rc:Int):=by omega
   clear hhas hbx hg2 hW2 r1 r2 r3 htl
   go_wp2_with fail
   refine(HB1.out _).mono ?_
   rintro e w' ⟨rfl,rfl⟩
   go_wp2_with fail
   refine(HB2.out _).mono ?_
   rintro e w' ⟨rfl,rfl⟩
   go_wp2_with fail
   rw[<-HW2.out]
   refine HHAS.out.mono ?_
   rintro e w3 ⟨rfl,hg3⟩
   have hg23:=HG2.out.trans hg3
   have HG3:=ui hg23
   have hz3:=hg3.size
   have d0:w3.cell? ⟨wr.heap.size,0,none⟩=some (.int .i64 j):=(hg3.cell (by show wr.heap.size<_;omega)).trans HBX.out.1
   have d1:w3.cell? ⟨wr.heap.size,1,none⟩=some (.int .i64 xv):=(hg3.cell (by show wr.heap.size<_;omega)).trans HBX.out.2
   have hcs3:∀i,i<c.needs.length->w3.cell? ⟨W1.heap.size,i,none⟩=some (.int .i64 (aI rs k i))/\w3.frozen? ⟨W1.heap.size,i,none⟩=false:=λi hi=>⟨(hg23.cell (by show W1.heap.size<_;omega)).trans (HCS.out i hi).1,(hg23.frozen (by show W1.heap.size<_;omega)).trans (HCS.out i hi).2⟩
   have HC3:=ui hcs3
   obtain⟨e1,e2⟩:=hcs3 j hjn
   rw[hz1] at e1 e2
   have HSET:Hid (∀i,i<c.needs.length->(w3.setCell ⟨w1.heap.size+1,j,none⟩ (.int .i64 xv)).cell? ⟨W1.heap.size,i,none⟩=some (.int .i64 (aI rs (k+1) i))/\(w3.setCell ⟨w1.heap.size+1,j,none⟩ (.int .i64 xv)).frozen? ⟨W1.heap.size,i,none⟩=false):=ui λi hi=>by
    rw[World.frozen?_setCell,HWA.out]
    refine⟨?_,(HC3.out i hi).2⟩
    rw[hz1]
    by_cases e:i=j
    ·subst e
     rw[World.cell?_setCell_same _ _ _ e1,if_pos rfl]
    ·rw[World.cell?_setCell_other _ _ _ _ (by simp[Ne.symm e]),if_neg (by omega)]
     have:=(HC3.out i hi).1
     rwa [hz1] at this
   have HGF:Hid (Gr W1 (w3.setCell ⟨w1.heap.size+1,j,none⟩ (.int .i64 xv))):=ui ((HGR.out.trans hg23).setCell (p:=⟨w1.heap.size+1,j,none⟩) (by show _<=w1.heap.size+1;omega) _)
   clear hg3 hg23 hcs3 hc0
   go_wp2
   go_roundw
   case rel=>exact⟨k+1,by omega,by go_num,HGF.out,by simp[World.setCell];omega,HSET.out⟩
   case measure=>simp[intOf];omega
  ·have hkn:k=rs.length:=by omega
   subst hkn
   have hri:∀W:World,wr.heap.size<=W.heap.size->(∀o,W.cell? ⟨w1.heap.size+1,o,none⟩=wr.cell? ⟨w1.heap.size+1,o,none⟩)->RI W W.heap.size (some ⟨w1.heap.size+1,0,none⟩) (wolvesL c.needs.length rs rs.length):=λW hW hk _=>⟨_,0,rfl,by omega,λi x hx=>by
    have hi:i<c.needs.length:=by have:=(List.getElem?_eq_some_iff.1 hx).1;rwa [bi] at this
    rw[iW hi] at hx
    cases hx
    rw[Nat.zero_add,hk,<-hz1]
    exact(HCS.out i hi).1⟩
   have HRI:=ui hri
   have hck:∀W:World,wr.heap.size<=W.heap.size->(∀b o,b≠w.heap.size+1->W.cell? ⟨b,o,none⟩=wr.cell? ⟨b,o,none⟩)->CampP W W.heap.size cb c nA hA nc hc:=λW hW hk =>
    (HK.out.keep (w':=W) (by omega) λb o hb=>(hk b o λe=>by rcases hb with h|h|h<;>omega).trans ((HG01.out.trans HGR.out).cell (p:=⟨b,o,none⟩) (HK.out.lt b hb))).campP
   have HCK:=ui hck
   have HPB:=ui (λ(b o:Nat) (hb:b≠w.heap.size+1)=>World.cell?_of_block (a:=⟨b,o,none⟩) (iR wr (w.heap.size+1) (.int .u8 (rosOf ls 0:Nat)) (.int .u8 (rosOf ls 1:Nat)) (.int .u8 (rosOf ls 2:Nat)) (.int .u8 (rosOf ls 3:Nat)) (.int .u8 (rosOf ls 4:Nat)) hb))
   have HPZ:=ui (jC wr (w.heap.size+1) (.int .u8 (rosOf ls 0:Nat)) (.int .u8 (rosOf ls 1:Nat)) (.int .u8 (rosOf ls 2:Nat)) (.int .u8 (rosOf ls 3:Nat)) (.int .u8 (rosOf ls 4:Nat)))
   obtain⟨a0,a1,a2,a3,a4⟩:=RosC5 (w:=wr) (b:=w1.heap.size) (r:=rosOf ls) λi hi=>(HGR.out.cell (by show w1.heap.size<_;omega)).trans (HRC.out i hi)
   have hz5:∀i,i<5->wr.cell? ⟨w.heap.size+1,i,none⟩=some (.int .u8 ((λ_=>0:Ros) i:Nat))/\wr.frozen? ⟨w.heap.size+1,i,none⟩=false:=λi hi=>by
    obtain⟨a,b⟩:=HZ1.out i hi
    exact⟨(HGR.out.cell (by show w.heap.size+1<_;omega)).trans a,(HGR.out.frozen (by show w.heap.size+1<_;omega)).trans b⟩
   obtain⟨b0,c0⟩:=hz5 0 (by omega)
   obtain⟨b1,c1⟩:=hz5 1 (by omega)
   obtain⟨b2,c2⟩:=hz5 2 (by omega)
   obtain⟨b3,c3⟩:=hz5 3 (by omega)
   obtain⟨b4,c4⟩:=hz5 4 (by omega)
   have HS5:=ui (dG (λi hi=>(hz5 i hi).1) (.int .u8 (rosOf ls 0:Nat)) (.int .u8 (rosOf ls 1:Nat)) (.int .u8 (rosOf ls 2:Nat)) (.int .u8 (rosOf ls 3:Nat)) (.int .u8 (rosOf ls 4:Nat)))
   have HG5:=ui (eR (HG0.out.trans (HG1.out.trans HGR.out)) (b:=w.heap.size+1) (by omega) (.int .u8 (rosOf ls 0:Nat)) (.int .u8 (rosOf ls 1:Nat)) (.int .u8 (rosOf ls 2:Nat)) (.int .u8 (rosOf ls 3:Nat)) (.int .u8 (rosOf ls 4:Nat)))
   obtain⟨Wf,hWf⟩:∃Wf:World,Wf=put5 wr (w.heap.size+1) (.int .u8 (rosOf ls 0:Nat)) (.int .u8 (rosOf ls 1:Nat)) (.int .u8 (rosOf ls 2:Nat)) (.int .u8 (rosOf ls 3:Nat)) (.int .u8 (rosOf ls 4:Nat)):=⟨_,rfl⟩
   rw[<-hWf] at HPB HPZ HG5
   have HF1:=ui (nu (HCK.out Wf (Nat.le_of_eq HPZ.out.symm) HPB.out))
   have HF2:=ui (se (HRI.out Wf (Nat.le_of_eq HPZ.out.symm) λo=>HPB.out _ o (by omega)))
   have HF0:=ui HG5.out.drew
   rw[hWf] at HF0 HF1 HF2
   unfold put5 at HF0 HF1 HF2
   clear hWf
   clear HG5 HPB HPZ HCK HRI hz5 hri hc0 hck
   go_wp2
   go_region
   all_goals
    go_wp2
    obtain⟨s0,s1,s2,s3,s4⟩:=HS5.out
    unfold put5 at s0 s1 s2 s3 s4
    refine bodyPost_ret (v:=.tuple #[.pointer (some ⟨cb,0,none⟩),rosV (rosOf ls),.slice (some ⟨w1.heap.size+1,0,none⟩) c.needs.length c.needs.length,.int .i64 0]) (by simp[results,Tryz.results21,go_sem,rosV,s0,s1,s2,s3,s4]) rfl ⟨?_,cb,_,_,rfl,?_,?_⟩
    ·exact HF0.out
    ·exact HF1.out
    ·exact HF2.out
open Go.RowKit Go.Sq
def sf (A:Option Addr)(c:Nat)(l:List Int)(w:World)(B:Nat)(h:RI w B A l)(hB:B<=w.heap.size)(hl:l.length<=1048576) :
  Calls uZ 53 #[.slice A l.length c] w λe w'=>∃v,e=.returned v/\w'.ownsRow w.heap.size 3 1 v l.length (l.map (Value.int .i64))/\Gr w w':=by
 obtain⟨i0,hi,hz0,hz1,hz2⟩:=info_parts uv
 have HR:=ui h
 clear h
 have q22:∀(w:World) (a:Option Addr) (n c n' c':Nat),(binOp .eql 22 (.slice a n c) (.slice none n' c')).run uZ w=.ok (.bool a.isNone) w:=λw a n c n' c'=>Lib.run_eql_slice_nil w _ _ a n c n' c' Sq.underlying22
 cases A with
 |none =>
  have hl0:l=[]:=by
   cases l with
   |nil=>rfl
   |cons x l=>obtain⟨_,_,e,_⟩:=HR.out (by simp);cases e
  subst hl0
  go_enter Sq.func53,Tryz.ntmps53
  go_wp2
  go_ret
  exact⟨_,rfl,World.ownsRow_nil _ _ _ _,.refl _⟩
 |some ad =>
  have hcell:∀j u,(l.map (Value.int .i64))[j]?=some u->w.cell? (ad.add j)=some u/\(ad.add j).block<w.heap.size:=λj u hj=>by
   rw[List.getElem?_map] at hj
   cases hx:l[j]? with
   |none=>rw[hx] at hj;cases hj
   |some x =>
    rw[hx] at hj
    obtain⟨b,o,e,hb,hc⟩:=HR.out (λe=>by rw[e] at hx;simp at hx)
    obtain rfl:ad=⟨b,o,none⟩:=by injection e
    have e2:(⟨b,o,none⟩:Addr).add j=⟨b,o+j,none⟩:=Addr.add_lit _ _ _
    rw[e2]
    exact⟨by rw[hc j x hx];exact hj,by show b<_;omega⟩
  have HC:=ui hcell
  clear hcell
  go_enter Sq.func53,Tryz.ntmps53
  go_wp2_with (at_builtin;refine wpList_append_gr rfl _ _ 22 rfl w.heap.size 3 i0 (.int .i64 0) 1 8 Sq.underlying22 hi hz0 hz1 hz2 rfl (by decide) _ _ _ rfl (World.ownsRow_made w #[] 0 (Nat.le_refl _) (Nat.zero_le _) rfl) ad l.length c (l.map (Value.int .i64)) rfl ?qc1 ?qc2 ?qc3 ?qc4 ?qc5 ?qc6 ?_)
  case qc1=>simp
  case qc2=>intro j u hj;exact(World.cell?_of_block (Below.heap_alloc _ _ _ (HC.out j u hj).2)).trans (HC.out j u hj).1
  case qc3=>intro u hu;obtain⟨x,_,rfl⟩:=List.mem_map.1 hu;rfl
  case qc4=>unfold maxLen;omega
  case qc5=>omega
  case qc6=>simp
  intro v' w1 hown hgrow hd
  have hG:=ui (((Gr.refl w).alloc _).grown hgrow hd (by intro k hk;simp[Value.ownBlock] at hk;omega))
  have hO:=ui hown
  clear hown hgrow hd
  go_wp2
  go_ret
  exact⟨v',rfl,by simpa using hO.out,hG.out⟩
def uJ:(uZ.info? 53).map (λi=>(i.zero,i.size,i.bytes))=some (some (.agg #[.int .i64 0,.int .i64 0,.int .i64 0,.slice none 0 0]),4,48):=by
 rw[ur];kernel_rfl
def eW (w:World)(b o n:Nat):List Value:=(List.range (n*4)).map λj=>(w.cell? ⟨b,o+j,none⟩).getD (.int .i64 0)
def jF {w:World}{b o n j:Nat}(hj:j<n*4):(eW w b o n)[j]?=some ((w.cell? ⟨b,o+j,none⟩).getD (.int .i64 0)):=by simp[eW,hj]
def iX (w:World)(b o n:Nat):(eW w b o n).length=n*4:=by simp[eW]
def hcell {w:World}{B b o:Nat}{l:List Herder}(hc:∀(i:Nat) (h:Herder),l[i]?=some h->HAt w B b (o+i*4) h){j:Nat}(hj:j<l.length*4):∃u,w.cell? ⟨b,o+j,none⟩=some u/\u.oneCell'=true:=by
 obtain⟨h1,h2,h3,A,c,h4,_⟩:=hc (j / 4) _ (List.getElem?_eq_getElem (show j / 4<l.length by omega))
 have:j % 4=0\/j % 4=1\/j % 4=2\/j % 4=3:=by omega
 rcases this with e|e|e|e
 ·rw[show o+j=o+j / 4*4 by omega];exact⟨_,h1,rfl⟩
 ·rw[show o+j=o+j / 4*4+1 by omega];exact⟨_,h2,rfl⟩
 ·rw[show o+j=o+j / 4*4+2 by omega];exact⟨_,h3,rfl⟩
 ·rw[show o+j=o+j / 4*4+3 by omega];exact⟨_,h4,rfl⟩
def qB (b o c:Nat)(l:List Herder)(w:World)(B:Nat)(hb:b<B)(hB:B<=w.heap.size)(hc:∀(i:Nat) (h:Herder),l[i]?=some h->HAt w B b (o+i*4) h)(hn:0<l.length)(hl:l.length<=1048576) :
  Calls uZ 51 #[.slice (some ⟨b,o,none⟩) l.length c] w λe w'=>∃g cap,e=.returned (.slice (some ⟨g,0,none⟩) l.length cap)/\Gr w w'/\w.heap.size<=g/\g<w'.heap.size/\(∀i,w'.frozen? ⟨g,i,none⟩=false) /\
   ∀(i:Nat) (h:Herder),l[i]?=some h->HAt w' B g (i*4) h:=by
 obtain⟨i0,hi,hz0,hz1,hz2⟩:=info_parts uJ
 have HC:=ui hc
 clear hc
 have q22:∀(w:World) (a:Option Addr) (n c n' c':Nat),(binOp .eql 25 (.slice a n c) (.slice none n' c')).run uZ w=.ok (.bool a.isNone) w:=λw a n c n' c'=>Lib.run_eql_slice_nil w _ _ a n c n' c' Sq.underlying25
 go_enter Sq.func51,Tryz.ntmps51
 go_wp2_with (at_builtin;refine wpList_append_gr rfl _ _ 25 rfl w.heap.size 53 i0 _ 4 48 Sq.underlying25 hi hz0 hz1 hz2 rfl (by decide) _ _ _ rfl (World.ownsRow_made w #[] 0 (Nat.le_refl _) (Nat.zero_le _) rfl) ⟨b,o,none⟩ l.length c (eW w b o l.length) rfl ?qc1 ?qc2 ?qc3 ?qc4 ?qc5 ?qc6 ?_)
 case qc1=>exact iX _ _ _ _
 case qc2 =>
  intro j u hj
  have hlt:j<l.length*4:=by have:=(List.getElem?_eq_some_iff.1 hj).1;rwa [iX] at this
  rw[jF hlt] at hj
  obtain⟨v,hv,_⟩:=hcell HC.out hlt
  rw[hv] at hj
  rw[Addr.add_lit,World.cell?_of_block (Below.heap_alloc _ _ _ (show b<w.heap.size by omega)),hv]
  exact hj
 case qc3 =>
  intro u hu
  obtain⟨j,hj,rfl⟩:=List.mem_map.1 hu
  obtain⟨v,hv,h1⟩:=hcell HC.out (List.mem_range.1 hj)
  rw[hv];exact h1
 case qc4=>unfold maxLen;omega
 case qc5=>omega
 case qc6=>simp
 intro v' w1 hown hgrow hd
 have hG:=ui (((Gr.refl w).alloc _).grown hgrow hd (by intro k hk;simp[Value.ownBlock] at hk;omega))
 have hown:w1.ownsRow w.heap.size 53 4 v' l.length (eW w b o l.length):=by simpa using hown
 obtain⟨g,cap,rfl,_,_⟩:=hown.form hn
 have hO:=ui hown
 clear hgrow hd hown
 go_wp2
 go_ret
 refine⟨g,cap,rfl,hG.out,(hO.out.lt g rfl).1,(hO.out.lt g rfl).2,λi=>?_,λi h hi=>?_⟩
 ·rcases hO.out.2 with⟨h,_⟩|⟨g',c',cur,h,_,hb,_⟩
  ·cases h
  ·obtain⟨rfl⟩:g=g':=by injection h with h1;injection h1 with h2;injection h2
   simp[World.frozen?,hb]
 ·have hil:i<l.length:=(List.getElem?_eq_some_iff.1 hi).1
  have key:∀k u,k<4->w.cell? ⟨b,o+i*4+k,none⟩=some u->w1.cell? ⟨g,i*4+k,none⟩=some u:=λk u hk hu=>by
   have hlt:i*4+k<l.length*4:=by omega
   have:=hO.out.cells (g:=g) rfl (i*4+k) u (by rw[jF hlt,<-Nat.add_assoc,hu];rfl)
   rwa [Addr.add_lit,Nat.zero_add] at this
  obtain⟨h1,h2,h3,A,c',h4,h5⟩:=HC.out i h hi
  exact⟨key 0 _ (by omega) h1,key 1 _ (by omega) h2,key 2 _ (by omega) h3,A,c',key 3 _ (by omega) h4,h5.gr hB hG.out⟩
end Go.Proofs.YtjmmlkobmhlikaaGreat
namespace Go.Sq
def owCells (h:Herder)(A:Option Addr)(c:Nat):List Value:=[.int .i64 h.heads,.int .i64 h.dogs,.int .i64 h.most,.slice A h.off.length c,.int .i64 h.heads]
end Go.Sq
namespace Go.Proofs.YtjmmlkobmhlikaaGreat
open Go.RowKit Go.Sq
def uT:(uZ.info? 93).map (λi=>(i.zero,i.size,i.bytes))=some (some (.agg #[.int .i64 0,.int .i64 0,.int .i64 0,.slice none 0 0,.int .i64 0]),5,56):=by
 rw[ur];kernel_rfl
def tg {w:World}{ops:Array Oper}{rest:List Oper}{o:Oper}{a:Act}{Q:Exit->Act->World->Prop}(hgd:o.guard=none)(s x:Operand)(ho:o.op=.call { callee:=.builtin .append,args:=#[s,x],argTypes:=#[88,88] })
  (base:Nat) (v:Value) (n:Nat) (xs:List Value) (hs:a.eval s=v) (hown:w.ownsRow base 93 5 v n xs) (ad:Addr) (c:Nat) (news:List Value) (hx:a.eval x=.slice (some ad) 1 c) (h5:news.length=5) (hc:∀(j:Nat) (u:Value),news[j]?=some u->w.cell? (ad.add j)=some u) (h1:∀u∈news,u.oneCell'=true)
  (hn:n<=1048576) (hbase:base<=w.heap.size) (h:∀v' w',w'.ownsRow base 93 5 v' (n+1) (xs++news)->w.grownBy w' v.ownBlock->w.drawn<=w'.drawn->wpList uZ ops Q rest (a.put o.dst v') w'):wpList uZ ops Q (o::rest) a w:=by
 obtain⟨i0,hi,hz0,hz1,hz2⟩:=info_parts uT
 exact wpList_append_gr hgd s x 88 ho base 93 i0 _ 5 56 ((Sq.underlying 88).trans Tryz.underlying88) hi hz0 hz1 hz2 rfl (by decide) v n xs hs hown ad 1 c news hx (by omega) hc h1 (by unfold maxLen;omega) (by omega) hbase h
def qC (cb:Nat)(nA hA:Option Addr)(nc hc:Nat)(c:Camp)(w:World)(B:Nat)(hB:B<=w.heap.size)(h:CampP w B cb c nA hA nc hc)(hl:c.herders.length<=1048576) :
  Calls uZ 34 #[.pointer (some ⟨cb,0,none⟩)] w λe w'=>∃v xs,e=.returned v/\w'.ownsRow w.heap.size 93 5 v c.herders.length xs/\Gr w w'/\∀i,i<c.herders.length->∃A m,∀j,j<5->xs[i*5+j]?=(owCells (c.h i) A m)[j]?:=by
 have hc1:=h.c1
 have hlt:=h.lt
 have HH:=ui h.herds
 clear h
 go_enter Sq.func34,Tryz.ntmps34
 go_wp2
 go_loopw [3,13] (λv i wr=>∃k:Nat,k<=c.herders.length/\i=.int .i64 k/\Gr w wr/\∃xs,wr.ownsRow w.heap.size 93 5 v k xs/\∀i,i<k->∃A m,∀j,j<5->xs[i*5+j]?=(owCells (c.h i) A m)[j]?) (λ_ i _=>c.herders.length-(intOf i).toNat)
 case atStart=>exact⟨0,by omega,rfl,.refl _,[],World.ownsRow_nil _ _ _ _,λi hi=>absurd hi (by omega)⟩
 case round =>
  obtain⟨k,hk,rfl,hg,xs,hown,hxs⟩:=hrel
  have HG:=ui hg
  have HX:=ui hxs
  clear hg hxs
  by_cases hltk:k<c.herders.length
  ·obtain⟨b,o,rfl,hb,h0,h1,h2,A_,m,h3,_⟩:=(HH.out.keep (w':=wr) λb o hb=>HG.out.cell (Nat.lt_of_lt_of_le hb hB)).at_ hltk
   have hz:=HG.out.size
   go_wp2_with (at_builtin;refine tg rfl _ _ rfl w.heap.size _ _ _ rfl ((hown.alloc _).alloc _ |>.alloc _) ⟨wr.heap.size+1+1,0,none⟩ 1 (owCells (c.h k) A_ m) rfl rfl ?c1 ?c2 ?c3 ?c4 ?_)
   case c1 =>
    intro j u hj
    rw[Addr.add_lit,Nat.zero_add,World.cell?_alloc_at _ _ _ _ (by simp)]
    match j,hj with
    |0,hj=>exact hj
    |1,hj=>exact hj
    |2,hj=>exact hj
    |3,hj=>exact hj
    |4,hj=>exact hj
    |j+5,hj=>simp[owCells] at hj
   case c2=>intro u hu;simp[owCells] at hu;rcases hu with rfl|rfl|rfl|rfl|rfl<;>rfl
   case c3=>omega
   case c4=>simp;omega
   intro v' w3 hown' hgrow hd
   have HG3:=ui ((((HG.out.alloc _).alloc _).alloc _).grown hgrow hd λq hq=>(hown.lt q hq).1)
   have hlen:xs.length=k*5:=hown.1
   have HX3:Hid (∀i,i<k+1->∃A m',∀j,j<5->(xs++owCells (c.h k) A_ m)[i*5+j]?=(owCells (c.h i) A m')[j]?):=ui λi hi=>by
    rcases Nat.lt_or_ge i k with h|h
    ·obtain⟨A',m',hh⟩:=HX.out i h
     exact⟨A',m',λj hj=>by rw[List.getElem?_append_left (by omega)];exact hh j hj⟩
    ·obtain rfl:i=k:=by omega
     exact⟨A_,m,λj hj=>by rw[List.getElem?_append_right (by omega),hlen];congr 1;omega⟩
   have HO3:=ui hown'
   clear hown' hgrow hd hown
   go_wp2
   go_roundw
   case rel=>exact⟨k+1,by omega,by go_num,HG3.out,_,HO3.out,HX3.out⟩
   case measure=>simp[intOf];omega
  ·have hkl:k=c.herders.length:=by omega
   subst hkl
   have HO:=ui hown
   clear hown
   go_wp2
   go_ret
   exact⟨_,xs,rfl,HO.out,HG.out,HX.out⟩
end Go.Proofs.YtjmmlkobmhlikaaGreat
