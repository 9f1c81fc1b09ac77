/- Parts of the proof. -/
import Derived.Test.YtefcpflbnmldcaaGreatP25
import Derived.Test.YtefcpflbnmldcaaGreatP22
import Derived.Test.YtefcpflbnmldcaaGreatP17
import Derived.Test.YtefcpflbnmldcaaGreatP24
set_option linter.all false
set_option maxHeartbeats 6400000
set_option maxRecDepth 1000000
namespace Go.Sq
def FO (c:Camp)(r:Ros)(p:Int)(ws:List Int)(h t:Nat):Int:=owesK p r (lossesL c r ws) h t (lossesL c r ws).length
def fX (c:Camp)(r:Ros)(p:Int)(ws:List Int):owesL c r p ws=tabL c.herders.length (FO c r p ws):=rfl
def qN {c:Camp}(hc:c.Ok)(r:Ros){p:Int}(hp:0<=p/\p<=99)(ws:List Int)(h t:Nat):0<=FO c r p ws h t/\FO c r p ws h t<=64000:=by
 have h1:=gT hp r (lossesL c r ws) h t (lossesL c r ws).length
 have h2:=cO hc r ws
 unfold FO
 omega
def nd (p:Int)(r:Ros)(ls:List (Int×Int))(h k:Nat):owesK p r ls h h k=0:=by
 induction k with
 |zero=>rfl
 |succ k ih=>unfold owesK;rw[ih];simp
def se (c:Camp)(r:Ros)(p:Int)(ws:List Int)(h:Nat):FO c r p ws h h=0:=nd _ _ _ _ _
def kM {F:Nat->Nat->Int}(hF:∀h t,0<=F h t/\F h t<=64000)(i k:Nat):-64000*(k:Int)<=debtK F i k/\debtK F i k<=64000*(k:Int):=by
 unfold debtK
 induction k with
 |zero=>simp[sumTo]
 |succ k ih =>
  have h1:=hF k i
  have h2:=hF i k
  show _<=sumTo _ k+(F k i-F i k)/\sumTo _ k+(F k i-F i k)<=_
  omega
def sf {F:Nat->Nat->Int}(hF:∀h t,0<=F h t/\F h t<=64000){n:Nat}(hn:n<=4):∀x∈balL (tabL n F),-1048576<=x/\x<=1048576:=λx hx=>by
 obtain⟨i,hi,rfl⟩:=List.getElem_of_mem hx
 have hi':i<n:=by rwa [balL_len] at hi
 have:=ma F n i hi'
 rw[List.getElem?_eq_getElem hi] at this
 have e:=Option.some.inj this
 rw[e]
 have:=kM hF i n
 omega
def kN {F:Nat->Nat->Int}(hF:∀h t,0<=F h t/\F h t<=64000)(n:Nat):∀x∈tabL n F,x.length=n/\∀y∈x,0<=y:=λx hx=>by
 obtain⟨h,_,rfl⟩:=List.mem_map.1 hx
 refine⟨by simp,λy hy=>?_⟩
 obtain⟨t,_,rfl⟩:=List.mem_map.1 hy
 exact(hF h t).1
def sg {F:Nat->Nat->Int}{n h t:Nat}(hh:h<n)(ht:t<n):((tabL n F)[h]?.getD [])[t]?=some (F h t):=by
 rw[gh hh,Option.getD_some];simp[ht]
def gF {c:Camp}(hc:c.Ok){r:Ros}{n:Nat}{x:Int×Int}:∀q∈lossesL c r (wolvesL n [x] 1),q.1=x.1:=λq hq=>by
 obtain⟨j,h1,h2,h3⟩:=losses_night hq
 rw[be] at h1
 refine Classical.byContradiction λhm=>?_
 unfold tooMany at h3
 rw[iG h1,Option.getD_some] at h3
 have e:aO [x] 1 j=0:=by
  unfold aO
  simp only[List.getElem?_cons_zero,Option.getD_some]
  rw[if_neg (by omega)];rfl
 rw[e] at h3
 have:0<=c.dogs (r j):=by
  unfold Camp.dogs
  refine m9 _ λy hy=>?_
  obtain⟨h,_,rfl⟩:=List.mem_map.1 hy
  exact tf hc _
 omega
def si {c:Camp}{r:Ros}{n:Nat}{rs:List (Int×Int)}{h:Nat}(hh:h<c.herders.length):(lostL c r n rs)[h]?=some (cntBy (·.2) (lossesL c r (wolvesL n rs rs.length)) h:Int):=by
 unfold lostL;simp[hh]
def sj {c:Camp}(hc:c.Ok)(r:Ros)(ws:List Int)(h:Int):cntBy (·.2) (lossesL c r ws) h<=160:=Nat.le_trans (dU _ _ _) (cO hc r ws)
def pi {c:Camp}(hc:c.Ok){r:Ros}{n t j:Nat}{p y:Int}(ht:t<c.herders.length)(hon:∀x∈wl (r j),0<=x/\x<c.herders.length) :
  sumTo (λa=>FO c r p (wolvesL n [((j:Int),y)] 1) a t) c.herders.length=dueOf p (wl (r j)) t*(cntBy (·.2) (lossesL c r (wolvesL n [((j:Int),y)] 1)) t:Int) :=
 ph (λq hq=>gF hc q hq) ht hon
def pj {c:Camp}(hc:c.Ok){r:Ros}{n t j a:Nat}{p y:Int}(ha:(a:Int) ∉ wl (r j)):FO c r p (wolvesL n [((j:Int),y)] 1) a t=0:=by
 unfold FO
 rw[iL (j:=j) (λq hq=>gF hc q hq) a t _ (Nat.le_refl _),kL ha _ (Nat.le_refl _)]
 simp
def qy {f:Nat->Int}{b:Int}(h:∀i,0<=f i/\f i<=b)(k:Nat):0<=sumTo f k/\sumTo f k<=b*k:=by
 induction k with
 |zero=>simp[sumTo]
 |succ k ih =>
  have:=h k
  show 0<=sumTo f k+f k/\sumTo f k+f k<=_
  rw[Int.natCast_add,Int.mul_add]
  omega
def qz {l:List Int}{n:Int}{k:Nat}(h:n ∉ l.take k)(hk:l.length<=k):n ∉ l:=by rwa [List.take_of_length_le hk] at h
end Go.Sq
namespace Go.Proofs.YtefcpflbnmldcaaGreat
open Go.RowKit Go.Sq
def kO (A:Option Addr)(c:Nat)(l:List Int)(n:Int)(w:World)(B:Nat)(h:RI w B A l)(hl:l.length<=1048576) :
  Calls uG 42 #[.slice A l.length c,.int .i64 n] w λe w'=>(∃r:Int,e=.returned (.int .i64 r)/\((r=-1/\n ∉ l)\/∃i:Nat,r=i/\l[i]?=some n))/\w=w':=by
 have HR:=tT h
 clear h
 go_enter Sq.func42,Tryz.ntmps42
 go_wp2
 go_loop [5] (λi=>∃k:Nat,k<=l.length/\i=.int .i64 k/\n ∉ l.take k) (λi=>l.length-(intOf i).toNat)
 case atStart=>exact⟨0,by omega,rfl,by simp⟩
 case round =>
  obtain⟨k,hk,rfl,hno⟩:=hrel
  have HNO:=tT hno
  clear hno
  by_cases hlt:k<l.length
  ·obtain⟨b,o,rfl,hb,hc⟩:=HR.out.at_ hlt
   have HS:=tT (jG hlt n)
   have HM:Hid (l[k]?=some (l[k]?.getD 0)):=tT (by rw[List.getElem?_eq_getElem hlt];rfl)
   generalize l[k]?.getD 0=y at hc HS HM
   by_cases hyn:y=n
   ·have HF:Hid (((k:Int)=-1/\n ∉ l)\/∃i:Nat,(k:Int)=i/\l[i]?=some n):=tT (.inr ⟨k,rfl,by rw[HM.out,hyn]⟩)
    clear HS HM
    go_wp2
    go_ret
    exact⟨⟨_,rfl,HF.out⟩,rfl⟩
   ·have HN:Hid (n ∉ l.take (k+1)):=tT (by rw[HS.out];exact not_or.2 ⟨HNO.out,hyn⟩)
    clear HS HM
    go_wp2
    go_round
    case rel=>exact⟨k+1,by omega,by go_num,HN.out⟩
    case measure=>simp[intOf];omega
  ·have HF:Hid (((-1:Int)=-1/\n ∉ l)\/∃i:Nat,(-1:Int)=i/\l[i]?=some n):=tT (.inl ⟨rfl,qz HNO.out (by omega)⟩)
   go_wp2
   go_ret
   exact⟨⟨_,rfl,HF.out.imp (λh=>⟨rfl,h.2⟩) id⟩,rfl⟩
def qA (A:Option Addr)(c:Nat)(l:List Int)(w:World)(B:Nat)(h:RI w B A l)(hl:l.length<=1048576)(hx:∀x∈l,-1048576<=x/\x<=1048576) :
  Calls uG 46 #[.slice A l.length c] w λe w'=>e=.returned (.int .i64 l.sum)/\w=w':=by
 have HR:=tT h
 have HX:=tT hx
 clear h hx
 go_enter Sq.func46,Tryz.ntmps46
 go_wp2
 go_loop [3,4] (λs i=>∃k:Nat,k<=l.length/\i=.int .i64 k/\s=.int .i64 (l.take k).sum) (λ_ i=>l.length-(intOf i).toNat)
 case atStart=>exact⟨0,by omega,rfl,by simp⟩
 case round =>
  obtain⟨k,hk,rfl,rfl⟩:=hrel
  by_cases hlt:k<l.length
  ·obtain⟨b,o,rfl,hb,hc⟩:=HR.out.at_ hlt
   have HS:=tT (gG l k hlt)
   have hy:=HX.out _ (mem_get l k hlt)
   obtain⟨hs1,hs2⟩:=sum_bound (-1048576) 1048576 (l.take k) λy hy=>HX.out y (List.mem_of_mem_take hy)
   have hs3:((l.take k).length:Int)*1048576<=1048576*1048576:=by
    have:(l.take k).length<=1048576:=by rw[List.length_take];omega
    omega
   have hs4:-1099511627776<=(l.take k).sum:=by omega
   have hs5:(l.take k).sum<=1099511627776:=by omega
   clear hs1 hs2 hs3
   generalize l[k]?.getD 0=y at hc HS hy
   obtain⟨hy1,hy2⟩:=hy
   go_wp2
   go_round
   case rel=>exact⟨k+1,by omega,by go_num,by rw[HS.out]⟩
   case measure=>simp[intOf];omega
  ·have:k=l.length:=by omega
   have HS:=tT (show(l.take k).sum=l.sum by rw[List.take_of_length_le (by omega)])
   clear this
   go_wp2
   go_ret
   exact⟨aq HS.out,rfl⟩
def kP (A:Option Addr)(c n:Nat)(ls:List (List Int))(w:World)(B:Nat)(h:GrAt w B A ls)(hl:ls.length=n)(hn:n<=1048576)(hr:∀x∈ls,x.length=n/\∀y∈x,0<=y) :
  Calls uG 51 #[.slice A n c,.int .i64 n] w λe w'=>e=.returned (.bool true)/\w=w':=by
 have HG:=tT h
 have HR:=tT hr
 clear h hr
 go_enter Sq.func51,Tryz.ntmps51
 go_wp2
 go_loop [5] (λi=>∃k:Nat,k<=n/\i=.int .i64 k) (λi=>n-(intOf i).toNat)
 case atStart=>exact⟨0,by omega,rfl⟩
 case round =>
  obtain⟨k,hk,rfl⟩:=hrel
  by_cases hlt:k<n
  ·obtain⟨b,o,A',c',rfl,hb,hc,hri⟩:=HG.out.at_ (show k<ls.length by omega)
   have hrow:=HR.out _ (List.getElem_mem (show k<ls.length by omega))
   have hget:ls[k]?.getD []=ls[k]:=by rw[List.getElem?_eq_getElem (by omega)];rfl
   rw[<-hget] at hrow
   generalize ls[k]?.getD []=row at hc hri hrow
   have HRI:=tT hri
   have HY:=tT hrow.2
   have hrl:=hrow.1
   rw[hrl] at hc
   clear hri hget hrow
   go_wp2
   go_loop [6] (λi=>∃j:Nat,j<=n/\i=.int .i64 j) (λi=>n-(intOf i).toNat)
   case atStart=>exact⟨0,by omega,rfl⟩
   case round =>
    obtain⟨j,hj,rfl⟩:=hrel
    by_cases hlj:j<n
    ·obtain⟨b2,o2,rfl,hb2,hc2⟩:=HRI.out.at_ (show j<row.length by omega)
     have hy:=HY.out _ (mem_get row j (by omega))
     generalize row[j]?.getD 0=y at hc2 hy
     have hd:decide (y<0)=false:=by simp;omega
     go_wp2
     go_round
     case rel=>exact⟨j+1,by omega,by go_num⟩
     case measure=>simp[intOf];omega
    ·go_wp2
     go_round
     case rel=>exact⟨k+1,by omega,by go_num⟩
     case measure=>simp[intOf];omega
  ·have:k=n:=by omega
   subst this
   go_wp2
   go_ret
   exact⟨rfl,rfl⟩
end Go.Proofs.YtefcpflbnmldcaaGreat
namespace Go.Sq
open Go.RowKit
def nf (f:Int×Int->Int)(l:List (Int×Int))(k:Nat)(h:k<l.length)(t:Int):cntBy f (l.take (k+1)) t=cntBy f (l.take k) t+if f (l[k]?.getD (0,0))=t then 1 else 0:=by
 rw[List.take_add_one,List.getElem?_eq_getElem h,Option.toList_some,fV,Option.getD_some]
 congr 1
 unfold cntBy
 rw[List.countP_singleton]
 by_cases e:f l[k]=t<;>simp[e]
def ni (f:Int×Int->Int)(l:List (Int×Int))(k:Nat)(t:Int):cntBy f (l.take k) t<=l.length:=Nat.le_trans (dU f _ t) (by rw[List.length_take];omega)
end Go.Sq
namespace Go.Proofs.YtefcpflbnmldcaaGreat
open Go.RowKit Go.Sq
def tg (nA hA gA rA:Option Addr)(nc hc gc rc:Nat)(c:Camp)(ls:List (List Int))(rs:List (Int×Int))(w:World)(B:Nat)(hB:B<=w.heap.size)(hn:RI w B nA c.needs)(hh:HsAt w B hA c.herders)(hg:GrAt w B gA ls)(hr:RsAt w B rA rs)
  (hl1:c.needs.length<=4611686018427387904) (hl2:c.herders.length<=4611686018427387904) (hlo:∀h∈c.herders,h.off.length<=4611686018427387904) (hl3:ls.length<=4611686018427387904) (hl4:∀x∈ls,x.length<=4611686018427387904) (hl5:rs.length<=1048576) (hrc:rs.length<=rc)
  (hF:formedE c ls=0) (hR:di c.needs.length rs=0) :
  Calls uG 52 #[campV nA hA c nc hc,.slice gA ls.length gc,.slice rA rs.length rc] w λe w'=>Gr w w'/\∃A k,e=.returned (.tuple #[.slice A c.herders.length k,.int .i64 0])/\RI w' w'.heap.size A (lostL c (rosOf ls) c.needs.length rs):=by
 unfold campV
 obtain⟨W0,hW0⟩:∃W0:World,W0=w.alloc (.cells #[.slice nA c.needs.length nc,.slice hA c.herders.length hc] 25):=⟨_,rfl⟩
 have hg0:Gr w W0:=hW0▸(Gr.refl w).alloc _
 have hz0:W0.heap.size=w.heap.size+1:=by rw[hW0];simp
 have HW:=tT hW0
 have hrd:=kD nA hA gA rA nc hc gc rc c ls rs W0 B (by omega) (hn.gr hB hg0) (hh.keep λb o hb=>hg0.cell (Nat.lt_of_lt_of_le hb hB)) (hg.gr hB hg0) (hr.gr hB hg0) hl1 hl2 hlo hl3 hl4 (by omega) hrc hF hR
 unfold campV at hrd
 have HRD:=tT hrd
 have HG0:=tT hg0
 have HRS:=tT (hr.gr hB hg0)
 have HC1:Hid (W0.cell? ⟨w.heap.size,1,none⟩=some (.slice hA c.herders.length hc)):=tT (by rw[hW0,World.cell?_alloc_at _ _ _ _ rfl];rfl)
 have HFE:=tT hF
 have HOK:=tT (Camp.Ok.of (show checkE c=0 by
  have:=hF
  unfold formedE at this
  split at this
  ·exact absurd this (by assumption)
  ·simpa using ‹¬checkE c≠0›))
 have HRZ:=tT (fS hR)
 clear hW0 hg0 hrd hn hh hg hr hl4 hlo hF hR
 go_enter Sq.func52,Tryz.ntmps52
 go_wp2_with fail
 rw[<-HW.out]
 refine HRD.out.mono ?_
 rintro e w1 ⟨hg1,cb,A,ka,rfl,hcp,hri⟩
 obtain⟨W1,hW1⟩:∃W1:World,W1=w1.alloc (.cells #[.int .u8 (rosOf ls 0),.int .u8 (rosOf ls 1),.int .u8 (rosOf ls 2),.int .u8 (rosOf ls 3),.int .u8 (rosOf ls 4)] 111):=⟨_,rfl⟩
 have hg1':Gr w1 W1:=hW1▸(Gr.refl w1).alloc _
 have hz1:W1.heap.size=w1.heap.size+1:=by rw[hW1];simp
 have hzz:=hg1.size
 have hh4:=HOK.out.h4
 have hn5:=HOK.out.n5
 obtain⟨Wz,hWz⟩:∃Wz:World,Wz=W1.alloc (.cells (zerosA c.herders.length) 3):=⟨_,rfl⟩
 have hgz:Gr W1 Wz:=hWz▸(Gr.refl W1).alloc _
 have hzz2:Wz.heap.size=w1.heap.size+2:=by rw[hWz];simp;omega
 have HN0:Hid (Nums Wz (w1.heap.size+1) c.herders.length λ_=>0):=tT (hz1▸hWz▸qr W1 c.herders.length)
 have HG1:=tT ((hg1.trans hg1').trans hgz)
 have hcz:=hcp.on (hg1'.trans hgz)
 have HRC:Hid (∀i,i<5->W1.cell? ⟨w1.heap.size,i,none⟩=some (.int .u8 (rosOf ls i:Nat))):=tT λi hi=>by
  rw[hW1,World.cell?_alloc_at _ _ _ _ (by simp)]
  match i,hi with
  |0,_=>rfl
  |1,_=>rfl
  |2,_=>rfl
  |3,_=>rfl
  |4,_=>rfl
 have hws:∀x∈wolvesL c.needs.length rs rs.length,0<=x/\x<=60:=λx hx=>by
  obtain⟨j,_,rfl⟩:=List.mem_map.1 hx
  exact gy HRZ.out _ _ (Nat.le_refl _)
 have hlos:=kE cb nA hA A nc hc ka c (rosOf ls) (wolvesL c.needs.length rs rs.length) Wz hcz HOK.out (eh HFE.out) hws (by rw[be];exact HOK.out.n5) ((hri.gr (Nat.le_refl _) (hg1'.trans hgz)).more (by omega))
 rw[be] at hlos
 have hll:=cO HOK.out (rosOf ls) (wolvesL c.needs.length rs rs.length)
 have HLN:Hid (∀q∈lossesL c (rosOf ls) (wolvesL c.needs.length rs rs.length),0<=q.1/\q.1<c.needs.length/\0<=q.2/\q.2<c.herders.length):=tT λq hq=>by
  have:=(fR HOK.out (rosOf ls) (wolvesL c.needs.length rs rs.length)).night q hq
  rwa [be] at this
 have HRES:Hid (lostL c (rosOf ls) c.needs.length rs=(List.range c.herders.length).map λh:Nat=>(cntBy (·.2) (lossesL c (rosOf ls) (wolvesL c.needs.length rs rs.length)) h:Int)):=tT rfl
 obtain⟨L,hL⟩:∃L,L=lossesL c (rosOf ls) (wolvesL c.needs.length rs rs.length):=⟨_,rfl⟩
 rw[<-hL] at hlos hll HLN HRES
 clear hL
 have HLOS:=tT hlos
 have hrc1:∀i,i<5->Wz.cell? ⟨w1.heap.size,i,none⟩=some (.int .u8 (rosOf ls i:Nat)):=λi hi=>(hgz.cell (by show w1.heap.size<_;omega)).trans (HRC.out i hi)
 obtain⟨a0,a1,a2,a3,a4⟩:=RosC5 hrc1
 have hwl:w.heap.size<w1.heap.size:=by omega
 have hwz:w1.heap.size<Wz.heap.size:=by omega
 have hmk:=λw=>fP c.herders.length w (by omega)
 have hc1:w1.cell? ⟨w.heap.size,1,none⟩=some (.slice hA c.herders.length hc):=(hg1.cell (by show w.heap.size<_;omega)).trans HC1.out
 have HW1:=tT hW1
 have HWz:=tT hWz
 have HZ1:=tT hz1
 have hzx:=hzz2
 clear hg1 hcp hri hg1' HRD hW1 hWz hgz hcz hlos hrc1 hws hzz2 hz1
 unfold rosV at *
 go_wp2_with fail
 rw[<-HW1.out,<-HWz.out]
 refine HLOS.out.mono ?_
 rintro e w2 ⟨v,rfl,hown2,hg2⟩
 obtain⟨A2,k2,rfl,hrs⟩:=RsK_of_own hown2
 have HLS:=tT hrs
 have HG2:=tT (HG1.out.trans hg2)
 have HN2:=tT ((HN0.out.gr hg2).congr (V':=λh=>(cntBy (·.2) (L.take 0) (h:Int):Int)) λq _=>by simp[cntBy])
 have hz2:=hg2.size
 clear hown2 hg2 hrs a0 a1 a2 a3 a4 HLOS HN0
 go_wp2
 go_loopw [36] (λi wr=>∃k:Nat,k<=L.length/\i=.int .i64 k/\Gr W0 wr/\Nums wr (w1.heap.size+1) c.herders.length (λh=>(cntBy (·.2) (L.take k) (h:Int):Int))/\w2.heap.size<=wr.heap.size/\∀b,b<w2.heap.size->b≠w1.heap.size+1->wr.heap[b]?=w2.heap[b]?) (λi _=>L.length-(intOf i).toNat)
 case atStart=>exact⟨0,by omega,rfl,HG2.out,HN2.out,Nat.le_refl _,λ_ _ _=>rfl⟩
 case round =>
  obtain⟨k,hk,rfl,hgr,hnm,hzr,hkr⟩:=hrel
  have HGR:=tT hgr
  have HNM:=tT hnm
  have HKR:=tT hkr
  by_cases hlk:k<L.length
  ·have hln:=HLN.out _ (List.getElem_mem hlk)
   have hget:L[k]?.getD (0,0)=L[k]:=by rw[List.getElem?_eq_getElem hlk];rfl
   obtain⟨b,o,rfl,hbK,hcl⟩:=HLS.out (λe=>by rw[e] at hlk;simp at hlk)
   obtain⟨h1,h2⟩:=hcl k _ (List.getElem?_eq_getElem hlk)
   have d1:=(World.cell?_of_block (a:=⟨b,o+k*2,none⟩) (hkr b hbK.2 (by have:=hbK.1;omega))).trans h1
   have d2:=(World.cell?_of_block (a:=⟨b,o+k*2+1,none⟩) (hkr b hbK.2 (by have:=hbK.1;omega))).trans h2
   rw[<-hget] at hln d1 d2
   have HCN:=tT (λt:Int=>nf (·.2) L k hlk t)
   have hcb:=λt:Int=>ni (·.2) L k t
   generalize L[k]?.getD (0,0)=q at hln d1 d2 HCN
   obtain⟨q1,q2⟩:=q
   dsimp only at hln d1 d2 HCN
   obtain⟨qn,rfl⟩:∃j:Nat,q1=j:=⟨q1.toNat,by omega⟩
   obtain⟨qf,rfl⟩:∃j:Nat,q2=j:=⟨q2.toNat,by omega⟩
   have hqx:qf<c.herders.length:=by omega
   obtain⟨e1,e2⟩:=(hnm.gr ((Gr.refl wr).alloc (.cells #[.int .i64 (qn:Int),.int .i64 (qf:Int)] 157))).at_ qf hqx
   have hbb:=hcb qf
   have HSET:Hid (Nums ((wr.alloc (.cells #[.int .i64 (qn:Int),.int .i64 (qf:Int)] 157)).setCell ⟨w1.heap.size+1,qf,none⟩ (.int .i64 ((cntBy (·.2) (L.take k) (qf:Int):Int)+1))) (w1.heap.size+1) c.herders.length (λh=>(cntBy (·.2) (L.take (k+1)) (h:Int):Int))):=tT ((hnm.gr ((Gr.refl wr).alloc _)).set hqx _ λq _=>by
    rw[HCN.out]
    by_cases e:q=qf
    ·subst e;rw[if_pos rfl,if_pos rfl];rfl
    ·rw[if_neg e,if_neg (by omega)];rfl)
   have HGF:=tT (λv=>(hgr.alloc (.cells #[.int .i64 (qn:Int),.int .i64 (qf:Int)] 157)).setCell (p:=⟨w1.heap.size+1,qf,none⟩) (by show _<=w1.heap.size+1;omega) v)
   have HKF:=tT (λ(v:Value) (b:Nat) (hb:b<w2.heap.size) (hne:b≠w1.heap.size+1)=>(Below.heap_setCell (wr.alloc (.cells #[.int .i64 (qn:Int),.int .i64 (qf:Int)] 157)) ⟨w1.heap.size+1,qf,none⟩ v b hne).trans ((heap_alloc_old _ _ (Nat.lt_of_lt_of_le hb hzr)).trans (hkr b hb hne)))
   clear hgr hnm hkr hcl h1 h2 hget hcb
   generalize (cntBy (·.2) (L.take k) (qf:Int))=V at e1 hbb HSET
   go_wp2
   go_roundw
   case rel=>exact⟨k+1,by omega,by go_num,HGF.out _,HSET.out,by simp[World.setCell];omega,HKF.out _⟩
   case measure=>simp[intOf];omega
  ·have hkn:k=L.length:=by omega
   subst hkn
   have HF:=tT (hnm.ri)
   have HE:Hid ((List.range c.herders.length).map (λh:Nat=>(cntBy (·.2) (L.take L.length) (h:Int):Int))=lostL c (rosOf ls) c.needs.length rs):=tT (by rw[HRES.out,List.take_length])
   have HG9:=tT (HG0.out.trans hgr)
   clear hgr hnm hkr
   go_wp2
   go_ret2
   exact⟨HG9.out,_,_,rfl,by rw[<-HE.out];exact HF.out⟩
open Go.RowKit Go.Sq
end Go.Proofs.YtefcpflbnmldcaaGreat
namespace Go.Sq
open Go.RowKit
def pk (k:Nat):((List.range (k+1)).map λn:Nat=>(n:Int))=((List.range k).map λn:Nat=>(n:Int))++[(k:Int)]:=by
 rw[List.range_succ,List.map_append];rfl
def nj (k:Nat):((List.range k).map λn:Nat=>(n:Int)).Nodup:=by
 rw[List.nodup_iff_pairwise_ne,List.pairwise_map]
 exact List.pairwise_lt_range.imp λh=>by omega
def sk (k:Nat):∀x∈(List.range k).map (λn:Nat=>(n:Int)),0<=x/\x<k:=λx hx=>by
 obtain⟨n,hn,rfl⟩:=List.mem_map.1 hx
 have:=List.mem_range.1 hn;omega
def KT.setK {w0 W:World}{hb:Nat}(h:KT (·=hb) w0 W){p:Addr}(hp:w0.heap.size<=p.block)(x:Value):KT (·=hb) w0 (W.setCell p x):=KT.set h hp x
def pl {L:List Int}{q r:Nat}(hq:q<L.length)(hr:r<L.length):((L.set q (L[r]?.getD 0)).set r (L[q]?.getD 0)).Perm L:=by
 rw[List.getElem?_eq_getElem hq,List.getElem?_eq_getElem hr]
 exact List.set_set_perm hq hr
def mb {w:World}{base g cap:Nat}{l:List Int}(h:w.ownsRow base 3 1 (.slice (some ⟨g,0,none⟩) l.length cap) l.length (l.map (Value.int .i64)))(k:Nat)(x:Int):(w.setCell ⟨g,k,none⟩ (.int .i64 x)).ownsRow base 3 1 (.slice (some ⟨g,0,none⟩) (l.set k x).length cap) (l.set k x).length ((l.set k x).map (Value.int .i64)):=by
 have:=(h.stored k (.int .i64 x)).1
 rw[List.map_set,List.length_set]
 exact this
def own_at {w:World}{base g cap:Nat}{l:List Int}(h:w.ownsRow base 3 1 (.slice (some ⟨g,0,none⟩) l.length cap) l.length (l.map (Value.int .i64))){k:Nat}(hk:k<l.length):w.cell? ⟨g,k,none⟩=some (.int .i64 (l[k]?.getD 0))/\w.frozen? ⟨g,k,none⟩=false:=by
 refine⟨?_,h.frozenAt k⟩
 rw[h.cellAt k (by omega),List.getElem?_map,List.getElem?_eq_getElem hk];rfl
def own_slice {w:World}{base:Nat}{v:Value}{l:List Int}(h:w.ownsRow base 3 1 v l.length (l.map (Value.int .i64)))(hn:0<l.length):∃g cap,v=.slice (some ⟨g,0,none⟩) l.length cap/\base<=g/\g<w.heap.size:=by
 rcases h.2 with⟨_,h0⟩|⟨g,cap,cur,hv,hb,hg,_⟩
 ·omega
 ·exact⟨g,cap,hv,hb,(Array.getElem?_eq_some_iff.1 hg).1⟩
end Go.Sq
namespace Go.Proofs.YtefcpflbnmldcaaGreat
open Go.RowKit Go.Sq
def tI (hb B:Nat)(A:Option Addr)(cap:Nat)(l:List Int)(N n:Nat)(w:World)(h:Hand w hb B A cap l N)(hN:N<=1000000)(hn:n<=64) :
  Calls uG 43 #[.pointer (some ⟨hb,0,none⟩),.int .i64 n] w λe w'=>∃(v:Value) (L:List Int),e=.returned v/\w'.ownsRow w.heap.size 3 1 v L.length (L.map (Value.int .i64))/\L.length=n/\L.Nodup/\(∀x∈L,0<=x/\x<n)/\Hand w' hb B A cap l (N+n)/\KH hb w w':=by
 have HH:=tT h
 have hlt:=h.lt
 clear h
 go_enter Sq.func43,Tryz.ntmps43
 go_wp2
 go_loopw [5,6] (λv i wr=>∃k:Nat,k<=n/\i=.int .i64 k/\wr.ownsRow w.heap.size 3 1 v ((List.range k).map λn:Nat=>(n:Int)).length (((List.range k).map λn:Nat=>(n:Int)).map (Value.int .i64))/\Gr w wr) (λ_ i _=>n-(intOf i).toNat)
 case atStart=>exact⟨0,by omega,rfl,World.ownsRow_nil _ _ _ _,.refl _⟩
 case round =>
  obtain⟨k,hk,rfl,hown,hgr⟩:=hrel
  have HG:=tT hgr
  have HO:=tT hown
  clear hgr
  by_cases hlk:k<n
  ·have HS:=tT (pk k)
   have hlen:((List.range k).map λn:Nat=>(n:Int)).length=k:=by simp
   generalize ((List.range k).map λn:Nat=>(n:Int))=L at hown HO HS hlen
   go_wp2_with (at_builtin;refine iB rfl _ _ rfl w.heap.size _ _ _ rfl (hown.alloc _) ⟨wr.heap.size,0,none⟩ 1 (.int .i64 k) rfl ?c1 rfl ?c2 ?c3 ?_)
   case c1=>rw[World.cell?_alloc_at _ _ _ _ (by simp)];rfl
   case c2=>omega
   case c3=>have:=HG.out.size;simp;omega
   intro v' w3 hown' hgrow hd
   have HG3:=tT ((HG.out.alloc _).grown hgrow hd λq hq=>(HO.out.lt q hq).1)
   have HO3:Hid (w3.ownsRow w.heap.size 3 1 v' ((List.range (k+1)).map λn:Nat=>(n:Int)).length (((List.range (k+1)).map λn:Nat=>(n:Int)).map (Value.int .i64))):=tT (by rw[HS.out];simpa [hlen] using hown')
   clear hown' hgrow hd hown
   go_wp2
   go_roundw
   case rel=>exact⟨k+1,by omega,by go_num,HO3.out,HG3.out⟩
   case measure=>simp[intOf];omega
  ·have hkn:k=n:=by omega
   subst hkn
   have HLL:Hid (((List.range k).map λn:Nat=>(n:Int)).length=k):=tT (by simp)
   have HND:=tT (nj k)
   have HIN:=tT (sk k)
   generalize ((List.range k).map λn:Nat=>(n:Int))=L0 at hown HO HLL HND HIN
   have HH1:=tT (HH.out.gr HG.out)
   have HK1:=tT (tX (T:=(·=hb)) HG.out)
   clear hown
   rename_i v0
   by_cases hk0:k=0
   ·subst hk0
    go_wp2
    go_loopw [7] (λi wr'=>i=.int .i64 (-1)/\wr'=wr) (λ_ _=>0)
    case atStart=>exact⟨rfl,rfl⟩
    case round =>
     obtain⟨rfl,rfl⟩:=hrel
     go_wp2
     go_ret
     exact⟨_,L0,rfl,HO.out,HLL.out,HND.out,HIN.out,HH1.out,HK1.out⟩
   ·obtain⟨g,gc,hv,hgb,hgl⟩:=own_slice HO.out (by rw[HLL.out];omega)
    rw[HLL.out] at hv
    subst hv
    have hgh:hb<g:=by omega
    obtain⟨w1,rfl⟩:∃w1,w1=wr:=⟨_,rfl⟩
    go_wp2
    go_loopw [7] (λi wr=>∃q:Nat,q<k/\i=.int .i64 q/\∃L:List Int,L.length=k/\L.Nodup/\(∀x∈L,0<=x/\x<k)/\wr.ownsRow w.heap.size 3 1 (.slice (some ⟨g,0,none⟩) L.length gc) L.length (L.map (Value.int .i64))/\Hand wr hb B A cap l (N+(k-1-q))/\KH hb w wr) (λi _=>(intOf i).toNat)
    case atStart=>exact⟨k-1,by omega,by go_num,L0,HLL.out,HND.out,HIN.out,by rw[HLL.out];have:=HO.out;rw[HLL.out] at this;exact this,HH1.out.more (by omega),HK1.out⟩
    case round =>
     obtain⟨q,hq,rfl,L,hll,hnd,hin,hown,hh,hkt⟩:=hrel
     have HO2:=tT hown
     have HND2:=tT hnd
     have HIN2:=tT hin
     have HK2:=tT hkt
     have HLL2:=tT hll
     have hz:=hkt.size
     by_cases hq0:0<q
     ·have HC:=tT (dj hb B A cap l (N+(k-1-q)) q wr hh (by omega) (by omega))
      clear hh hkt hown hnd hin
      have hd1:decide ((q:Int) > 0)=true:=by simp;omega
      go_wp2_with fail
      refine HC.out.mono ?_
      rintro e w2 ⟨⟨r,rfl,hr⟩,hh2,hkt2⟩
      have hrk:r<k:=by omega
      have hown2:w2.ownsRow w.heap.size 3 1 (.slice (some ⟨g,0,none⟩) L.length gc) L.length (L.map (Value.int .i64)):=dT HO2.out hlt hkt2
      have hrl:r<L.length:=by rw[HLL2.out];exact hrk
      have hql:q<L.length:=by rw[HLL2.out];exact hq
      obtain⟨c1,f1⟩:=own_at hown2 hql
      obtain⟨c2,f2⟩:=own_at hown2 hrl
      have hown3:=mb hown2 q (L[r]?.getD 0)
      obtain⟨c3,_⟩:=own_at hown3 (k:=r) (by rw[List.length_set];exact hrl)
      have hown4:=mb hown3 r (L[q]?.getD 0)
      have HPM:=tT (pl hql hrl)
      have HO4:=tT hown4
      have HH4:=tT ((hh2.set (p:=⟨g,q,none⟩) hgh (.int .i64 (L[r]?.getD 0))).set (p:=⟨g,r,none⟩) hgh (.int .i64 (L[q]?.getD 0)))
      have HK4:=tT (((HK2.out.trans hkt2).setK (p:=⟨g,q,none⟩) hgb (.int .i64 (L[r]?.getD 0))).setK (p:=⟨g,r,none⟩) hgb (.int .i64 (L[q]?.getD 0)))
      have hgl2:g<w2.heap.size:=by have:=hkt2.size;have:=(HO2.out.lt g rfl).2;omega
      clear hown2 hown3 hown4 hh2 hkt2
      generalize (L.set q (L[r]?.getD 0))[r]?.getD 0=d at c3
      generalize L[r]?.getD 0=y at c2 c3 HPM HO4 HH4 HK4
      generalize L[q]?.getD 0=x at c1 HPM HO4 HH4 HK4
      go_wp2
      go_roundw
      case rel=>exact⟨q-1,by omega,by go_num,(L.set q y).set r x,by rw[List.length_set,List.length_set];exact HLL2.out,HPM.out.nodup_iff.2 HND2.out,λz hz=>HIN2.out z (HPM.out.mem_iff.1 hz),HO4.out,HH4.out.more (by omega),HK4.out⟩
      case measure=>simp[intOf];omega
     ·have HH2:=tT hh
      clear hh hkt hown hnd hin
      have hd1:decide ((q:Int) > 0)=false:=by simp;omega
      have HO3:Hid (wr.ownsRow w.heap.size 3 1 (.slice (some ⟨g,0,none⟩) k gc) L.length (L.map (Value.int .i64))):=tT (by have:=HO2.out;rw[HLL2.out] at this ⊢;exact this)
      go_wp2
      go_ret
      exact⟨_,L,rfl,HO3.out,HLL2.out,HND2.out,HIN2.out,HH2.out.more (by omega),HK2.out⟩
end Go.Proofs.YtefcpflbnmldcaaGreat
namespace Go.Sq
open Go.RowKit
def RsAt_own {w:World}{base:Nat}{e:TypeId}{v:Value}{l:List (Int×Int)}(h:w.ownsRow base e 2 v l.length (ap l)):∃A c,v=.slice A l.length c/\RsAt w w.heap.size A l/\l.length<=c:=by
 rcases h.2 with⟨rfl,h0⟩|⟨g,cap,cur,rfl,_,hg,hc,_⟩
 ·have:l=[]:=List.eq_nil_of_length_eq_zero h0
  subst this
  exact⟨none,0,rfl,λh=>absurd rfl h,Nat.le_refl _⟩
 ·refine⟨_,cap,rfl,λ_=>⟨g,0,rfl,(Array.getElem?_eq_some_iff.1 hg).1,λi x hx=>?_⟩,hc⟩
  have hi:=(List.getElem?_eq_some_iff.1 hx).1
  have hx':l[i]?.getD (0,0)=x:=by rw[hx];rfl
  have e:∀j,(⟨g,0,none⟩:Addr).add j=⟨g,0+j,none⟩:=λj=>by unfold Addr.add;split<;>simp_all
  have h1:=h.cells (g:=g) rfl _ _ (cP hi).1
  have h2:=h.cells (g:=g) rfl _ _ (cP hi).2
  rw[e,hx'] at h1 h2
  exact⟨h1,by rw[Nat.add_assoc];exact h2⟩
structure RO (w0:World)(hb B:Nat)(A:Option Addr)(cap:Nat)(l:List Int)(M base:Nat)(v:Value)(rs:List (Int×Int))(L:List Int)(g gc:Nat)(W:World):Prop where
 hand:Hand W hb B A cap l M
 own:W.ownsRow base 69 2 v rs.length (ap rs)
 nights:W.ownsRow base 3 1 (.slice (some ⟨g,0,none⟩) L.length gc) L.length (L.map (Value.int .i64))
 kt:KT (·=hb) w0 W
 lt:hb<w0.heap.size
 bs:w0.heap.size<=base/\base<=W.heap.size
section
variable {w0 W W':World} {hb B:Nat} {A:Option Addr} {cap:Nat} {l:List Int} {M base:Nat} {v:Value} {rs:List (Int×Int)} {L:List Int} {g gc:Nat}
def RO.drew (h:RO w0 hb B A cap l M base v rs L g gc W):RO w0 hb B A cap l M base v rs L g gc W.drew :=
 ⟨h.hand.gr (Gr.refl W).drew,aG h.own λ_ _ _=>rfl,aG h.nights λ_ _ _=>rfl,⟨h.kt.os,h.kt.tape,h.kt.output,Nat.le_succ_of_le h.kt.drawn,h.kt.size,h.kt.block⟩,h.lt,h.bs⟩
def RO.alloc (h:RO w0 hb B A cap l M base v rs L g gc W)(o:Obj):RO w0 hb B A cap l M base v rs L g gc (W.alloc o) :=
 ⟨h.hand.gr ((Gr.refl W).alloc o),h.own.alloc o,h.nights.alloc o,h.kt.trans (tX ((Gr.refl W).alloc o)),h.lt,by have:=h.bs;simp;omega⟩
def RO.deal (h:RO w0 hb B A cap l M base v rs L g gc W){M':Nat}(hh:Hand W' hb B A cap l M')(k:KT (·=hb) W W'):RO w0 hb B A cap l M' base v rs L g gc W' :=
 ⟨hh,dT h.own (by have:=h.lt;have:=h.bs;omega) k,dT h.nights (by have:=h.lt;have:=h.bs;omega) k,h.kt.trans k,h.lt,by have:=h.bs;have:=k.size;omega⟩
def RO.more (h:RO w0 hb B A cap l M base v rs L g gc W){M':Nat}(hm:M<=M'):RO w0 hb B A cap l M' base v rs L g gc W:=⟨h.hand.more hm,h.own,h.nights,h.kt,h.lt,h.bs⟩
def RO.cell (h:RO w0 hb B A cap l M base v rs L g gc W){k:Nat}(hk:k<L.length):W.cell? ⟨g,k,none⟩=some (.int .i64 (L[k]?.getD 0))/\g<W.heap.size:=⟨(own_at h.nights hk).1,(h.nights.lt g rfl).2⟩
def RO.room (h:RO w0 hb B A cap l M base v rs L g gc W)(o:Obj):W.heap.size≠hb/\W.heap.size<(W.alloc o).heap.size:=by
 have:=h.hand.lt
 simp;omega
def RO.push (h:RO w0 hb B A cap l M base v rs L g gc W){w6:World}{o:Obj}{v':Value}{q:Int×Int}(hown:w6.ownsRow base 69 2 v' (rs++[q]).length (ap (rs++[q])))(hg:(W.alloc o).grownBy w6 v.ownBlock)(hd:(W.alloc o).drawn<=w6.drawn) :
  RO w0 hb B A cap l M base v' (rs++[q]) L g gc w6:=by
 have hlt:=h.lt
 have hbs:=h.bs
 refine⟨cj h.hand h.own (by omega) hg,hown,aG h.nights λb hb' hl=>?_,cT h.kt h.own (by omega) hg hd,hlt,hbs.1,by have:=dC hg;omega⟩
 rw[hg.block b (by simp;omega) (fO (by decide) h.nights h.own hb'),heap_alloc_old _ _ hl]
end
end Go.Sq
namespace Go.Proofs.YtefcpflbnmldcaaGreat
open Go.RowKit Go.Sq
def uD:(uG.info? 69).map (λi=>(i.zero,i.size,i.bytes))=some (some (.agg #[.int .i64 0,.int .i64 0]),2,16):=by
 rw[t7];kernel_rfl
def nk {w:World}{ops:Array Oper}{o:Oper}{a:Act}{K:Act->World->Prop}{Q:Exit->Act->World->Prop}{E:Prop}(hgd:o.guard=none)(s x:Operand)(ho:o.op=.call { callee:=.builtin .append,args:=#[s,x],argTypes:=#[63,63] })(hty:o.type=63)
  (base:Nat) (v:Value) (n:Nat) (xs:List Value) (hs:a.eval s=v) (hown:w.ownsRow base 69 2 v n xs) (y z:Value) (h1:y.oneCell'=true) (h2:z.oneCell'=true) (hx:a.eval x=.slice (some ⟨w.heap.size,0,none⟩) 1 1) (hn:n<=1048576) (hbase:base<=w.heap.size)
  (h:∀v' w',w'.ownsRow base 69 2 v' (n+1) (xs++[y,z])->(w.alloc (.cells #[y,z] 69)).grownBy w' v.ownBlock->(w.alloc (.cells #[y,z] 69)).drawn<=w'.drawn->K (a.put o.dst v') w') :
  if Region.wanted o (yielded ops a.tmps)=true then Oper.wp uG o a (w.alloc (.cells #[y,z] 69)) K Q else E:=by
 have hw:Region.wanted o (yielded ops a.tmps)=true:=by simp[Region.wanted,hgd]
 rw[if_pos hw]
 obtain⟨i0,hi,hz0,hz1,hz2⟩:=info_parts uD
 obtain⟨v',w',hr,h2,h3,h4⟩:=run_append_own (P:=uG) (w.alloc (.cells #[y,z] 69)) base 63 63 69 i0 _ 2 16 ((Sq.underlying 63).trans Tryz.underlying63) hi hz0 hz1 hz2 rfl (by decide) v n xs (hown.alloc _) ⟨w.heap.size,0,none⟩ 1 1 [y,z] rfl (λj u hj=>by
  match j,hj with
  |0,hj=>cases hj;rw[Addr.add_lit,World.cell?_alloc_at _ _ _ _ (by simp)];rfl
  |1,hj=>cases hj;rw[Addr.add_lit,World.cell?_alloc_at _ _ _ _ (by simp)];rfl) (λu hu=>by
   simp only[List.mem_cons,List.not_mem_nil,or_false] at hu
   rcases hu with rfl|rfl
   ·exact h1
   ·exact h2) (by unfold maxLen;omega) (by omega) (by simp;omega)
 have hd:=Go.Iso.drawn_mono uG (Builtin.append_ #[63,63] 63 #[v,.slice (some ⟨w.heap.size,0,none⟩) 1 1]) (w.alloc (.cells #[y,z] 69)) #[]
 rw[Sem.runT_fst,hr] at hd
 unfold Oper.wp execOp
 simp only[ho,resolve,invoke,builtin,Sem.run_bind,Sem.run_pure,Result.andThen_ok,List.map_toArray,List.map_cons,List.map_nil,hs,hx,hr,hty]
 exact h v' w' h2 h3 hd
def pm (hb B:Nat)(A nA hA:Option Addr)(cap nc hc:Nat)(l:List Int)(N n m:Nat)(w:World)(h:Hand w hb B A cap l N)(hN:N<=100000)(hn:n<=64) :
  Calls uG 48 #[.pointer (some ⟨hb,0,none⟩),.agg #[.slice nA n nc,.slice hA m hc]] w λe w'=>∃(v:Value) (rs:List (Int×Int)),e=.returned v/\w'.ownsRow (w.heap.size+1) 69 2 v rs.length (ap rs)/\rs.length<=n/\(rs.map (·.1)).Nodup/\(∀q∈rs,(0<=q.1/\q.1<n)/\0<=q.2/\q.2<=60)/\Hand w' hb B A cap l (N+5*n+1)/\KH hb w w':=by
 obtain⟨W0,hW0⟩:∃W0:World,W0=w.alloc (.cells #[.slice nA n nc,.slice hA m hc] 25):=⟨_,rfl⟩
 have hg0:Gr w W0:=hW0▸(Gr.refl w).alloc _
 have HZ0:Hid (W0.heap.size=w.heap.size+1):=tT (by rw[hW0];simp)
 have hlt:=h.lt
 have hcell:W0.cell? ⟨w.heap.size,0,none⟩=some (.slice nA n nc):=by
  rw[hW0,World.cell?_alloc_at _ _ _ _ rfl];rfl
 have HROW:=tT (tI hb B A cap l N n W0 (h.gr hg0) (by omega) hn)
 have HK0:Hid (KT (·=hb) w W0):=tT (tX hg0)
 have HW:=tT hW0
 have hwl:w.heap.size<W0.heap.size:=by have:=HZ0.out;omega
 clear hW0 hg0 h
 go_enter Sq.func48,Tryz.ntmps48
 go_wp2_with fail
 rw[<-HW.out]
 go_wp2_with fail
 refine HROW.out.mono ?_
 rintro e w1 ⟨v1,L,rfl,hown,hll,hnd,hin,hh,hkt⟩
 rw[HZ0.out] at hown
 have HK1:=tT (HK0.out.trans hkt)
 have HZ1:Hid (w.heap.size+1<=w1.heap.size):=tT (by have:=hkt.size;omega)
 have HLL:=tT hll
 have HND:=tT hnd
 have HIN:=tT hin
 have HO:=tT hown
 have HUP:=tT (dj hb B A cap l (N+n) n w1 hh (by omega) (by omega))
 obtain⟨LA,lc,hv1,_⟩:=tZ hown
 rw[hll] at hv1
 subst hv1
 clear hcell hown hh hkt HROW hnd hin
 go_wp2_with fail
 refine HUP.out.mono ?_
 rintro e w2 ⟨⟨z,rfl,hz⟩,hh,hkt⟩
 have hzn:z<=n:=by omega
 have HO2:=tT (dT HO.out (by omega) hkt)
 have HK2:=tT (HK1.out.trans hkt)
 have HH2:=tT hh
 have hw2:w.heap.size+1<=w2.heap.size:=by have:=hkt.size;have:=HZ1.out;omega
 clear hh hkt HUP
 by_cases hz0:z=0
 ·subst hz0
  go_wp2
  go_loopw [5,7] (λv i wr=>v=.slice none 0 0/\i=.int .i64 0/\wr=w2) (λ_ _ _=>0)
  case atStart=>exact⟨rfl,rfl,rfl⟩
  case round =>
   obtain⟨rfl,rfl,rfl⟩:=hrel
   go_wp2
   go_ret
   exact⟨_,[],rfl,World.ownsRow_nil _ _ _ _,by simp,by simp,λq hq=>by simp at hq,HH2.out.more (by omega),HK2.out⟩
 ·obtain⟨g,gc,hv,hgb,hgl⟩:=own_slice HO2.out (by rw[HLL.out];omega)
  rw[HLL.out] at hv
  injection hv with hv1 _ hv2
  subst hv1 hv2
  have HRO0:Hid (RO w hb B A cap l (N+n+1) (w.heap.size+1) (.slice none 0 0) [] L g lc w2):=tT ⟨HH2.out,World.ownsRow_nil _ _ _ _,by have:=HO2.out;rw[HLL.out] at this ⊢;exact this,HK2.out,hlt,by omega⟩
  clear hgb hgl
  go_wp2
  go_loopw [5,7] (λv i wr=>∃q:Nat,q<=z/\i=.int .i64 q/\∃rs:List (Int×Int),RO w hb B A cap l (N+n+1+4*(z-q)) (w.heap.size+1) v rs L g lc wr/\rs.length=z-q/\(rs.map (·.1)).Nodup/\(∀x∈rs.map (·.1),∃j,q<=j/\L[j]?=some x)/\∀x∈rs,(0<=x.1/\x.1<n)/\0<=x.2/\x.2<=60) (λ_ i _=>(intOf i).toNat)
  case atStart=>exact⟨z,by omega,rfl,[],by simpa using HRO0.out,by simp,by simp,λx hx=>by simp at hx,λx hx=>by simp at hx⟩
  case round =>
   obtain⟨q,hq,rfl,rs,hro,hrl,hrn,hrj,hri⟩:=hrel
   have HRN:=tT hrn
   have HRJ:=tT hrj
   have HRI:=tT hri
   have HRO:=tT hro
   clear hrn hrj hri hro
   by_cases hq0:0<q
   ·obtain⟨p,rfl⟩:∃p,q=p+1:=⟨q-1,by omega⟩
    have hpl:p<L.length:=by rw[HLL.out];omega
    have HPX:Hid (L[p]?=some (L[p]?.getD 0)):=tT (by rw[List.getElem?_eq_getElem hpl];rfl)
    have hxin:=HIN.out _ (List.mem_of_getElem? HPX.out)
    obtain⟨c0,l0⟩:=HRO.out.drew.cell hpl
    obtain⟨c9,l9⟩:=HRO.out.cell hpl
    replace HRO:=tT HRO.out.drew
    have HCELL:=tT (λ(M:Nat) (W:World) (h:RO w hb B A cap l M (w.heap.size+1) u5 rs L g lc W)=>h.cell hpl)
    have e2:((p+1:Nat):Int)-1=(p:Int):=by omega
    have hpn:p<n:=by omega
    have hwp:IntKind.i64.wrap (p:Int)=(p:Int):=by simp[IntKind.wrap,IntKind.bits,IntKind.signed];omega
    generalize L[p]?.getD 0=x at HPX hxin c0 c9 HCELL
    go_wp2
    clear c9 l9
    go_region_law (first
     |(refine nk (by rfl) _ _ (by rfl) (by rfl) (w.heap.size+1) _ _ _ (by rfl) HRO.out.own (.int .i64 x) (.int .i64 zz) rfl rfl (by rfl) (by omega) HRO.out.bs.2 ?_;intro v' w6 hown6 hgrow6 hd6)
     |(refine js (by rfl) ?_;go_simp;first
      |(go_at_call 32;refine(dj hb B A cap l _ _ _ HRO.out.hand (by omega) (by omega)).mono ?_;rintro e w' ⟨⟨r,rfl,hr⟩,hh,hkt⟩;replace HRO:=tT (HRO.out.deal hh hkt);clear c0 l0 hh hkt;obtain⟨c0,l0⟩:=HCELL.out _ _ HRO.out;dsimp only)
      |(go_at_call 73;refine(gX hb B A _ cap 1 l [_] _ _ _ (HRO.out.alloc _).hand (by omega) (by simp) (td (HRO.out.room _))).mono ?_;rintro e w' ⟨⟨zz,rfl,hzz⟩,hh,hkt⟩;have hz60:0<=zz/\zz<=60:=(by simp only[List.mem_cons,List.not_mem_nil,or_false] at hzz;omega);replace HRO:=tT ((HRO.out.alloc _).deal hh hkt);clear c0 l0 hh hkt;have HZZ:=tT hz60;obtain⟨c0,l0⟩:=HCELL.out _ _ HRO.out;dsimp only)))
    all_goals
     have hown7:w6.ownsRow (w.heap.size+1) 69 2 v' (rs++[(x,zz)]).length (ap (rs++[(x,zz)])):=by rw[fe];simpa [ap] using hown6
     have HRO9:=tT ((HRO.out.push hown7 hgrow6 hd6).more (M':=N+n+1+4*(z-p)) (by omega))
     have hl9:(rs++[(x,zz)]).length=z-p:=by simp[hrl];omega
     have HRN9:Hid (((rs++[(x,zz)]).map (·.1)).Nodup):=tT (by
      rw[List.map_append,List.map_cons,List.map_nil,List.nodup_append]
      refine⟨HRN.out,by simp,λa ha b hb'=>?_⟩
      simp only[List.mem_cons,List.not_mem_nil,or_false] at hb'
      subst hb'
      rintro rfl
      obtain⟨j,hj,hj2⟩:=HRJ.out _ ha
      have:=(List.getElem?_inj hpl HND.out).1 (HPX.out.trans hj2.symm);omega)
     have HRJ9:Hid (∀y∈(rs++[(x,zz)]).map (·.1),∃j,p<=j/\L[j]?=some y):=tT λy hy=>by
      rw[List.map_append] at hy
      rcases List.mem_append.1 hy with hy|hy
      ·obtain⟨j,hj,hj2⟩:=HRJ.out _ hy
       exact⟨j,by omega,hj2⟩
      ·simp only[List.map_cons,List.map_nil,List.mem_cons,List.not_mem_nil,or_false] at hy
       subst hy
       exact⟨p,Nat.le_refl _,HPX.out⟩
     have HRI9:Hid (∀y∈rs++[(x,zz)],(0<=y.1/\y.1<n)/\0<=y.2/\y.2<=60):=tT λy hy=>by
      rcases List.mem_append.1 hy with hy|hy
      ·exact HRI.out y hy
      ·simp only[List.mem_cons,List.not_mem_nil,or_false] at hy
       subst hy
       exact⟨hxin,HZZ.out⟩
     clear hown7 hgrow6 hd6 hown6 HRO
     go_wp2
     go_roundw
     case rel=>exact⟨p,by omega,by go_num,_,HRO9.out,hl9,HRN9.out,HRJ9.out,HRI9.out⟩
     case measure=>simp[intOf]
   ·have hq1:q=0:=by omega
    subst hq1
    go_wp2
    go_ret
    exact⟨_,rs,rfl,HRO.out.own,by omega,HRN.out,HRI.out,HRO.out.hand.more (by omega),HRO.out.kt⟩
open Go.RowKit Go.Sq
open Go.Iso (bH dz cZ)
noncomputable def ay:Code:=Tryz.f8.body.getD .skip
noncomputable def q8 (n:Nat):Code:=cFst (cDrop n ay)
noncomputable def iM:Code:=cDrop 11 ay
def qB:ay=.seq (q8 0) (.seq (q8 1) (.seq (q8 2) (.seq (q8 3) (.seq (q8 4) (.seq (q8 5) (.seq (q8 6) (.seq (q8 7) (.seq (q8 8) (.seq (q8 9) (.seq (q8 10) (iM))))))))))):=rfl
def tab_cells {w:World}{B:Nat}{A:Option Addr}{n:Nat}{F:Nat->Nat->Int}(h:GrAt w B A (tabL n F)){k:Nat}(hk:k<n):∃b o A' c,A=some ⟨b,o,none⟩/\b<B/\w.cell? ⟨b,o+k,none⟩=some (.slice A' n c)/\∃b' o',A'=some ⟨b',o',none⟩/\b'<B/\∀t,t<n->w.cell? ⟨b',o'+t,none⟩=some (.int .i64 (F k t)):=by
 obtain⟨b,o,A',c,e,hb,hc,hr⟩:=h.at_ (k:=k) (by rw[tabL_len];exact hk)
 have hl:((tabL n F)[k]?.getD []).length=n:=by rw[gh hk];simp
 rw[hl] at hc
 obtain⟨b',o',e',hb',hc'⟩:=hr (λe=>by rw[e] at hl;simp at hl;omega)
 exact⟨b,o,A',c,e,hb,hc,b',o',e',hb',λt ht=>hc' t _ (sg hk ht)⟩
def nl (F:Nat->Nat->Int)(i k:Nat):debtK F i (k+1)=debtK F i k+(F k i-F i k):=rfl
def th {oA bA:Option Addr}{ok bk n:Nat}{F:Nat->Nat->Int}{w:World}{K:Act->World->Prop}{u1 u2 u3 u4 u5 u6 u7 u10 u12 u13 u14 u15 u16 u17 u18 u19 u20 u21 u22 u23 u24 u25 u26 u27 u28 u29 u30 u31 u32 u33 u34 u35 u36 u37 u38 u39 u40 u41 u42 u43 u44 u45 u46 u47 u48 u49 u50 u51 u52 u53 u54 u55 u56 u57 u58 u59 u60 u61 u62 u63 u64 u65 u66 u67 u68 u69 u70 u71 u72 u73 u74 u75 u76 u77 u78 u79 u80 u81 u82 u83 u84 u85 u86 u87 u88 u89 u90 u91 u92 u93 u94 u95 u96 u97 u98 u99 u100 u101 u102 u103 u104 u105 u106 u107 u108 u109 u110 u111 u112 u113 u114 u115 u116 u117 u118 u119 u120 u121 u122 u123 u124 u125 u126 u127 u128 u129 u130 u131 u132 u133 u134 u135 u136 u137 u138 u139 u140 u141 u142 u143 u144 u145 u146 u147 u148 u149 u150 u151 u152 u153 u154 u155 u156 u157 u158 u159 u160 u161 u162 u163 u164 u165 u166 u167 u168 u169 u170 u171 u172 u173 u174 u175 u176 u177 u178 u179 u180 u181 u182 u183 u184 u185 u186 u187 u188 u189 u190 u191 u192 u193 u194 u195 u196 u197 u198 u199 u200 u201 u202 u203 u204 u205 u206 u207 u208 u209 u210 u211 u212 u213 u214 u215 u216 u217 u218 u219 u220 u221 u222 u223 u224 u225 u226 u227 u228 u229 u230 u231 u232 u233 u234 u235 u236 u237 u238 u239 u240 u241 x0:Value}(HO:GrAt w w.heap.size oA (tabL n F))(HB:RI w w.heap.size bA (balL (tabL n F)))(HF:∀h t,0<=F h t/\F h t<=64000)(HS:∀h,F h h=0)(hn:n<=4)
  (hK:∀w',Gr w w'->∀y2 y14 y15 y82 y83 y84 y85 y86 y87 y88 y89 y90 y91 y92 y93 y94 y95 y96 y97 y98 y99 y100 y101 y102 y103 y104 y105 y106 y107 y108 y109 y110 y111 y112 y113 y114 y115 y116 y117 y118 y119 y120 y121 y122 y123 y124:Value,K ⟨#[x0,u1,y2,u3,u4,u5,u6,u7,.int .i64 n,.slice oA n ok,u10,.slice bA n bk,u12,.int .i64 n,y14,y15,u16,u17,u18,u19,u20,u21,u22,u23,u24,u25,u26,u27,u28,u29,u30,u31,u32,u33,u34,u35,u36,u37,u38,u39,u40,u41,u42,u43,u44,u45,u46,u47,u48,u49,u50,u51,u52,u53,u54,u55,u56,u57,u58,u59,u60,u61,u62,u63,u64,u65,u66,u67,u68,u69,u70,u71,u72,u73,u74,u75,u76,u77,u78,u79,u80,u81,y82,y83,y84,y85,y86,y87,y88,y89,y90,y91,y92,y93,y94,y95,y96,y97,y98,y99,y100,y101,y102,y103,y104,y105,y106,y107,y108,y109,y110,y111,y112,y113,y114,y115,y116,y117,y118,y119,y120,y121,y122,y123,y124,u125,u126,u127,u128,u129,u130,u131,u132,u133,u134,u135,u136,u137,u138,u139,u140,u141,u142,u143,u144,u145,u146,u147,u148,u149,u150,u151,u152,u153,u154,u155,u156,u157,u158,u159,u160,u161,u162,u163,u164,u165,u166,u167,u168,u169,u170,u171,u172,u173,u174,u175,u176,u177,u178,u179,u180,u181,u182,u183,u184,u185,u186,u187,u188,u189,u190,u191,u192,u193,u194,u195,u196,u197,u198,u199,u200,u201,u202,u203,u204,u205,u206,u207,u208,u209,u210,u211,u212,u213,u214,u215,u216,u217,u218,u219,u220,u221,u222,u223,u224,u225,u226,u227,u228,u229,u230,u231,u232,u233,u234,u235,u236,u237,u238,u239,u240,u241],[]⟩ w') :
  (q8 9).wp uG (Exit.then K λ_ _ _=>False) ⟨#[x0,u1,u2,u3,u4,u5,u6,u7,.int .i64 n,.slice oA n ok,u10,.slice bA n bk,u12,u13,u14,u15,u16,u17,u18,u19,u20,u21,u22,u23,u24,u25,u26,u27,u28,u29,u30,u31,u32,u33,u34,u35,u36,u37,u38,u39,u40,u41,u42,u43,u44,u45,u46,u47,u48,u49,u50,u51,u52,u53,u54,u55,u56,u57,u58,u59,u60,u61,u62,u63,u64,u65,u66,u67,u68,u69,u70,u71,u72,u73,u74,u75,u76,u77,u78,u79,u80,u81,u82,u83,u84,u85,u86,u87,u88,u89,u90,u91,u92,u93,u94,u95,u96,u97,u98,u99,u100,u101,u102,u103,u104,u105,u106,u107,u108,u109,u110,u111,u112,u113,u114,u115,u116,u117,u118,u119,u120,u121,u122,u123,u124,u125,u126,u127,u128,u129,u130,u131,u132,u133,u134,u135,u136,u137,u138,u139,u140,u141,u142,u143,u144,u145,u146,u147,u148,u149,u150,u151,u152,u153,u154,u155,u156,u157,u158,u159,u160,u161,u162,u163,u164,u165,u166,u167,u168,u169,u170,u171,u172,u173,u174,u175,u176,u177,u178,u179,u180,u181,u182,u183,u184,u185,u186,u187,u188,u189,u190,u191,u192,u193,u194,u195,u196,u197,u198,u199,u200,u201,u202,u203,u204,u205,u206,u207,u208,u209,u210,u211,u212,u213,u214,u215,u216,u217,u218,u219,u220,u221,u222,u223,u224,u225,u226,u227,u228,u229,u230,u231,u232,u233,u234,u235,u236,u237,u238,u239,u240,u241],[]⟩ w:=by
 have HO:=tT HO
 have HB:=tT HB
 have HF:=tT HF
 have HS:=tT HS
 have ez:q8 9=cFst (cDrop 9 ay):=rfl
 simp only[cDrop,ay,Tryz.f8,Option.getD_some,cSnd,cFst] at ez
 rw[ez]
 clear ez
 go_wp2
 go_loopw [13] (λi wr=>∃k:Nat,k<=n/\i=.int .i64 k/\Gr w wr) (λi _=>n-(intOf i).toNat)
 case atStart=>exact⟨0,by omega,rfl,.refl _⟩
 case round =>
  obtain⟨i,hi,rfl,hgr⟩:=hrel
  have HGR:=tT hgr
  clear hgr
  by_cases hlt:i<n
  ·go_wp2
   go_loopw [14,15] (λs j wr=>∃k:Nat,k<=n/\j=.int .i64 k/\s=.int .i64 (debtK F i k)/\Gr w wr) (λ_ j _=>n-(intOf j).toNat)
   case atStart=>exact⟨0,by omega,rfl,rfl,HGR.out⟩
   case round =>
    obtain⟨k,hk,rfl,rfl,hgi⟩:=hrel
    have HGI:=tT hgi
    by_cases hlk:k<n
    ·obtain⟨b,o,A1,c1,rfl,hb,hc1,b1,o1,rfl,hb1,hd1⟩:=tab_cells (HO.out.gr (Nat.le_refl _) hgi) hlk
     obtain⟨b',o',A2,c2,e2,_,hc2,b2,o2,rfl,hb2,hd2⟩:=tab_cells (HO.out.gr (Nat.le_refl _) hgi) hlt
     injection e2 with e2
     injection e2 with e2 e3
     subst e2 e3
     have q1:=hd1 i hlt
     have q2:=hd2 k hlk
     have f1:=HF.out k i
     have f2:=HF.out i k
     have f3:=kM HF.out i k
     have HD:=tT (nl F i k)
     have hz:=hgi.size
     generalize F k i=y1 at q1 f1 HD
     generalize F i k=y2 at q2 f2 HD
     generalize debtK F i k=s at f3 HD
     have hb3:b<wr.heap.size:=by omega
     have hb4:b1<wr.heap.size:=by omega
     have hb5:b2<wr.heap.size:=by omega
     clear hd1 hd2 hgi
     go_wp2
     go_region
     all_goals
      go_wp2
      go_roundw
      case rel=>exact⟨k+1,by omega,by go_num,by rw[HD.out];congr 1;omega,HGI.out.drew⟩
      case measure=>simp[intOf];omega
    ·have hkn:k=n:=by omega
     subst hkn
     obtain⟨b,o,A1,c1,rfl,hb,hc1,b1,o1,rfl,hb1,hd1⟩:=tab_cells (HO.out.gr (Nat.le_refl _) hgi) hlt
     have q1:=hd1 i hlt
     rw[HS.out] at q1
     obtain⟨bb,bo,rfl,hbb,hcb⟩:=(HB.out.gr (Nat.le_refl _) hgi).at_ (k:=i) (by rw[balL_len];exact hlt)
     rw[ma F k i hlt,Option.getD_some] at hcb
     have hz:=hgi.size
     have hb3:b<wr.heap.size:=by omega
     have hb4:b1<wr.heap.size:=by omega
     have hb5:bb<wr.heap.size:=by omega
     generalize debtK F i k=s at hcb
     clear hd1 hgi
     go_wp2
     go_roundw
     case rel=>exact⟨i+1,by omega,by go_num,HGI.out⟩
     case measure=>simp[intOf];omega
  ·have hin:i=n:=by omega
   subst hin
   go_wp2
   exact HGR.out
end Go.Proofs.YtefcpflbnmldcaaGreat
