/- Parts of the proof. -/
import Derived.Test.YtgphobammhoniaaGreatP21
import Derived.Test.YtgphobammhoniaaGreatP25
import Derived.Test.YtgphobammhoniaaGreatP22
import Derived.Test.YtgphobammhoniaaGreatP17
import Derived.Test.YtgphobammhoniaaGreatP24
set_option linter.all false
set_option maxHeartbeats 6400000
set_option maxRecDepth 1000000
namespace Go.Sq
def pJ (l:List Int)(k:Nat)(h:mostN l k<0):∀i,i<k->l[i]?.getD 0<=0:=by
 induction k with
 |zero=>intro i hi;omega
 |succ k ih =>
  intro i hi
  unfold mostN at h
  by_cases hc:0<l[k]?.getD 0/\(mostN l k<0\/l[(mostN l k).toNat]?.getD 0<l[k]?.getD 0)
  ·rw[if_pos hc] at h;omega
  ·rw[if_neg hc] at h
   rcases Nat.lt_or_ge i k with h1|h1
   ·exact ih h i h1
   ·obtain rfl:i=k:=by omega
    have:¬0<l[i]?.getD 0:=λh2=>hc ⟨h2,.inl h⟩
    omega
def nN (l:List Int)(h0:∀x∈l,0<=x)(h:∀i,i<l.length->l[i]?.getD 0<=0):l.sum=0:=by
 induction l with
 |nil=>rfl
 |cons a l ih =>
  have h1:=h 0 (by simp)
  have h2:=h0 a (by simp)
  simp only[List.getElem?_cons_zero,Option.getD_some] at h1
  have:=ih (λx hx=>h0 x (by simp[hx])) λi hi=>by simpa using h (i+1) (by simpa using hi)
  simp only[List.sum_cons];omega
def cZ (l:List Int)(h0:∀x∈l,0<=x):0<=l.sum:=by
 induction l with
 |nil=>simp
 |cons a l ih =>
  have h2:=h0 a (by simp)
  have:=ih (λx hx=>h0 x (by simp[hx]))
  simp only[List.sum_cons];omega
def tK (l:List Int)(h0:∀x∈l,0<=x){x:Int}(hx:x∈l):x<=l.sum:=by
 induction l with
 |nil=>simp at hx
 |cons a l ih =>
  have h2:=h0 a (by simp)
  have h3:=cZ l λx hx=>h0 x (by simp[hx])
  simp only[List.sum_cons]
  rcases List.mem_cons.1 hx with rfl|hx
  ·omega
  ·have:=ih (λx hx=>h0 x (by simp[hx])) hx;omega
def lossStep_count {n:Int}{s:List Int×List (Int×Int)}(h0:∀x∈s.1,0<=x) :
  (lossStep n s).1.sum+(lossStep n s).2.length=s.1.sum+s.2.length/\((lossStep n s).2.length:Int)=s.2.length+min 1 s.1.sum/\(∀x∈(lossStep n s).1,0<=x):=by
 unfold lossStep
 split
 ·rename_i hm
  have:=nN s.1 h0 (pJ s.1 s.1.length hm)
  exact⟨rfl,by omega,h0⟩
 ·rename_i hm
  have h1:=ej s.1 s.1.length
  have h2:=gp s.1 s.1.length (by omega)
  have hl:(mostN s.1 s.1.length).toNat<s.1.length:=by omega
  have h4:=tK s.1 h0 (mem_get s.1 _ hl)
  refine⟨?_,?_,λx hx=>?_⟩
  ·show(s.1.set _ _).sum+((s.2++[(n,mostN s.1 s.1.length)]).length:Nat)=_
   rw[mq _ _ _ hl,List.length_append]
   simp only[List.length_cons,List.length_nil,Int.natCast_add]
   omega
  ·show((s.2++[(n,mostN s.1 s.1.length)]).length:Int)=_
   rw[List.length_append]
   simp only[List.length_cons,List.length_nil,Int.natCast_add]
   omega
  ·rcases List.mem_or_eq_of_mem_set hx with h5|rfl
   ·exact h0 x h5
   ·omega
def lossIt_count {n:Int}{s:List Int×List (Int×Int)}(h0:∀x∈s.1,0<=x)(m:Nat) :
  (lossIt n s m).1.sum+(lossIt n s m).2.length=s.1.sum+s.2.length/\((lossIt n s m).2.length:Int)=s.2.length+min (m:Int) s.1.sum/\(∀x∈(lossIt n s m).1,0<=x):=by
 induction m with
 |zero =>
  have:=cZ s.1 h0
  exact⟨rfl,by show(s.2.length:Int)=_;omega,h0⟩
 |succ m ih =>
  obtain⟨a1,a2,a3⟩:=ih
  obtain⟨b1,b2,b3⟩:=lossStep_count (n:=n) a3
  exact⟨b1.trans a1,by show((lossStep n (lossIt n s m)).2.length:Int)=_;omega,b3⟩
def wantK (c:Camp)(r:Ros)(ws:List Int):Nat->Nat
 |0=>0
 |k+1=>wantK c r ws k+tooMany c r ws k
def di (c:Camp):Int:=(c.herders.map (·.heads)).sum
def jU {c:Camp}(hc:c.Ok)(r:Ros)(ws:List Int)(k:Nat) :
  (lossAll c r ws k).1.sum+(lossAll c r ws k).2.length=di c/\((lossAll c r ws k).2.length:Int)=min (wantK c r ws k:Int) (di c)/\(∀x∈(lossAll c r ws k).1,0<=x):=by
 have hp:∀x∈c.herders.map (·.heads),0<=x:=λx hx=>by
  simp only[List.mem_map] at hx
  obtain⟨h,hh,rfl⟩:=hx
  have:=hc.heads h hh;omega
 have hs:0<=di c:=cZ _ hp
 induction k with
 |zero=>exact⟨by simp[lossAll,di],by simp[lossAll,wantK];omega,hp⟩
 |succ k ih =>
  obtain⟨a1,a2,a3⟩:=ih
  obtain⟨b1,b2,b3⟩:=lossIt_count (n:=(k:Int)) a3 (tooMany c r ws k)
  refine⟨b1.trans a1,?_,b3⟩
  show((lossIt k (lossAll c r ws k) (tooMany c r ws k)).2.length:Int)=min ((wantK c r ws k+tooMany c r ws k:Nat):Int) (di c)
  omega
def gu {c:Camp}(hc:c.Ok)(r:Ros)(ws:List Int):((lossesL c r ws).length:Int)=min (wantK c r ws ws.length:Int) (di c):=(jU hc r ws ws.length).2.1
def nO {c:Camp}{r r':Ros}{ws ws':List Int}(k:Nat)(h:∀j,j<k->tooMany c r ws j<=tooMany c r' ws' j):wantK c r ws k<=wantK c r' ws' k:=by
 induction k with
 |zero=>exact Nat.le_refl _
 |succ k ih =>
  have:=ih λj hj=>h j (by omega)
  have:=h k (by omega)
  show wantK c r ws k+_<=wantK c r' ws' k+_
  omega
def cntBy (f:Int×Int->Int)(ls:List (Int×Int))(t:Int):Nat:=ls.countP λp=>f p==t
def gv (f:Int×Int->Int)(a b:List (Int×Int))(t:Int):cntBy f (a++b) t=cntBy f a t+cntBy f b t:=by simp[cntBy]
def pK (f:Int×Int->Int)(n:Nat)(ls:List (Int×Int))(h:∀p∈ls,0<=f p/\f p<n):((List.range n).map λt:Nat=>(cntBy f ls t:Int)).sum=ls.length:=by
 induction ls with
 |nil =>
  have:∀m:Nat,((List.range m).map λt:Nat=>((cntBy f [] t:Nat):Int)).sum=0:=λm=>by
   induction m with
   |zero=>rfl
   |succ m ih=>rw[List.range_succ,List.map_append,List.sum_append,ih];simp[cntBy]
  simpa using this n
 |cons p ls ih =>
  have h1:=ih λq hq=>h q (by simp[hq])
  obtain⟨h2,h3⟩:=h p (by simp)
  have one:∀m:Nat,((List.range m).map λt:Nat=>(cntBy f (p::ls) t:Int)).sum=((List.range m).map λt:Nat=>(cntBy f ls t:Int)).sum+if f p<m then 1 else 0:=λm=>by
   induction m with
   |zero=>simp;omega
   |succ m ihm =>
    rw[List.range_succ,List.map_append,List.sum_append,List.map_append,List.sum_append,ihm]
    have e:(cntBy f (p::ls) (m:Int):Int)=(cntBy f ls m:Int)+if f p=m then 1 else 0:=by
     unfold cntBy
     rw[List.countP_cons]
     by_cases hm:f p=m<;>simp[hm]
    simp only[List.map_cons,List.map_nil,List.sum_cons,List.sum_nil,e]
    split<;>split<;>split<;>omega
  rw[one n,h1,if_pos h3]
  simp
def qV (f:Int×Int->Int)(ks:List Int)(hn:ks.Nodup)(ls:List (Int×Int))(h:∀p∈ls,f p∈ks):(ks.map λt=>(cntBy f ls t:Int)).sum=ls.length:=by
 induction ls with
 |nil =>
  have:∀l:List Int,(l.map λt=>((cntBy f [] t:Nat):Int)).sum=0:=λl=>by
   induction l with
   |nil=>rfl
   |cons a l ih=>simp only[List.map_cons,List.sum_cons,ih];simp[cntBy]
  simpa using this ks
 |cons p ls ih =>
  have h1:=ih λq hq=>h q (by simp[hq])
  have h2:=h p (by simp)
  have one:∀l:List Int,l.Nodup->(l.map λt=>(cntBy f (p::ls) t:Int)).sum=(l.map λt=>(cntBy f ls t:Int)).sum+if f p∈l then 1 else 0:=λl=>by
   induction l with
   |nil=>intro _;simp
   |cons a l ihl =>
    intro hl
    obtain⟨hl1,hl2⟩:=List.nodup_cons.1 hl
    have e:(cntBy f (p::ls) a:Int)=(cntBy f ls a:Int)+if f p=a then 1 else 0:=by
     unfold cntBy
     rw[List.countP_cons]
     by_cases hm:f p=a<;>simp[hm]
    simp only[List.map_cons,List.sum_cons,ihl hl2,e,List.mem_cons]
    by_cases hm:f p=a
    ·have:¬f p∈l:=hm▸hl1
     rw[if_pos hm,if_neg this,if_pos (.inl hm)];omega
    ·by_cases hq:f p∈l
     ·rw[if_neg hm,if_pos hq,if_pos (.inr hq)];omega
     ·rw[if_neg hm,if_neg hq,if_neg (λh=>h.elim hm hq)];omega
  rw[one ks hn,h1,if_pos h2]
  simp
def lossIt_night (d:Nat)(s:List Int×List (Int×Int))(m:Nat):∃l:List (Int×Int),(lossIt d s m).2=s.2++l/\l.length<=m/\∀p∈l,p.1=d:=by
 induction m with
 |zero=>exact⟨[],by simp[lossIt],by simp,λp hp=>by simp at hp⟩
 |succ m ih =>
  obtain⟨l,h1,h2,h3⟩:=ih
  show ∃l,(lossStep d (lossIt d s m)).2=_/\_
  unfold lossStep
  split
  ·exact⟨l,h1,by omega,h3⟩
  ·refine⟨l++[((d:Int),mostN (lossIt d s m).1 (lossIt d s m).1.length)],by simp only[h1,List.append_assoc],by simp;omega,λp hp=>?_⟩
   rcases List.mem_append.1 hp with hp|hp
   ·exact h3 p hp
   ·simp only[List.mem_cons,List.not_mem_nil,or_false] at hp
    rw[hp]
def cj (f:Int×Int->Int)(l:List (Int×Int))(t:Int):cntBy f l t<=l.length:=List.countP_le_length
def fG (c:Camp)(r:Ros)(ws:List Int)(k:Nat):(∀p∈(lossAll c r ws k).2,∃j:Nat,j<k/\p.1=j/\0<tooMany c r ws j)/\∀j:Nat,j<k->cntBy (·.1) (lossAll c r ws k).2 j<=tooMany c r ws j:=by
 induction k with
 |zero=>exact⟨λp hp=>by simp[lossAll] at hp,λj hj=>by omega⟩
 |succ k ih =>
  obtain⟨l,h1,h2,h3⟩:=lossIt_night k (lossAll c r ws k) (tooMany c r ws k)
  have e:(lossAll c r ws (k+1)).2=(lossAll c r ws k).2++l:=h1
  refine⟨λp hp=>?_,λj hj=>?_⟩
  ·rw[e] at hp
   rcases List.mem_append.1 hp with hp|hp
   ·obtain⟨j,a1,a2,a3⟩:=ih.1 p hp
    exact⟨j,by omega,a2,a3⟩
   ·have:=List.length_pos_of_mem hp
    exact⟨k,by omega,h3 p hp,by omega⟩
  ·rw[e,gv]
   by_cases hk:j=k
   ·subst hk
    have z:cntBy (·.1) (lossAll c r ws j).2 j=0:=by
     unfold cntBy
     rw[List.countP_eq_zero]
     intro p hp hq
     obtain⟨i,a1,a2,a3⟩:=ih.1 p hp
     have:p.1=(j:Int):=by simpa using hq
     omega
    have:=cj (·.1) l j
    omega
   ·have z : cntBy (·.1) l j = 0 := by
     unfold cntBy
     rw[List.countP_eq_zero]
     intro p hp hq
     have:=h3 p hp
     have:p.1=(j:Int):=by simpa using hq
     omega
    have:=ih.2 j (by omega)
    omega
def losses_night {c:Camp}{r:Ros}{ws:List Int}{p:Int×Int}(h:p∈lossesL c r ws):∃j:Nat,j<ws.length/\p.1=j/\0<tooMany c r ws j:=(fG c r ws ws.length).1 p h
def nP {c:Camp}{r:Ros}{ws:List Int}{j:Nat}(h:j<ws.length):cntBy (·.1) (lossesL c r ws) j<=tooMany c r ws j:=(fG c r ws ws.length).2 j h
def Whole (c:Camp)(s:List Int×List (Int×Int)):Prop:=s.1.length=c.herders.length/\∀h:Nat,h<c.herders.length->s.1[h]?.getD 0+cntBy (·.2) s.2 h=(c.h h).heads/\0<=s.1[h]?.getD 0
def Whole.step {c:Camp}{n:Int}{s:List Int×List (Int×Int)}(w:Whole c s):Whole c (lossStep n s):=by
 unfold lossStep
 split
 ·exact w
 ·rename_i hm
  have h1:=ej s.1 s.1.length
  have h2:=gp s.1 s.1.length (by omega)
  have hl:(mostN s.1 s.1.length).toNat<s.1.length:=by omega
  refine⟨by simp[w.1],λh hh=>?_⟩
  obtain⟨w1,w2⟩:=w.2 h hh
  show(s.1.set _ _)[h]?.getD 0+(cntBy (·.2) (s.2++[(n,mostN s.1 s.1.length)]) h:Nat)=_/\0<=(s.1.set _ _)[h]?.getD 0
  rw[gv]
  by_cases e:h=(mostN s.1 s.1.length).toNat
  ·subst e
   have c1:cntBy (·.2) [(n,mostN s.1 s.1.length)] ((mostN s.1 s.1.length).toNat:Int)=1:=by
    simp only[cntBy,List.countP_cons,List.countP_nil]
    rw[if_pos (by simp;omega)]
   rw[c1]
   simp only[List.getElem?_set_self hl,Option.getD_some]
   omega
  ·have c0 : cntBy (·.2) [(n, mostN s.1 s.1.length)] (h : Int) = 0 := by
    simp only[cntBy,List.countP_cons,List.countP_nil]
    rw[if_neg (by simp;omega)]
   rw[c0,List.getElem?_set_ne (λx=>e x.symm)]
   exact⟨by simpa using w1,w2⟩
def Whole.it {c:Camp}{n:Int}{s:List Int×List (Int×Int)}(w:Whole c s)(m:Nat):Whole c (lossIt n s m):=by
 induction m with
 |zero=>exact w
 |succ m ih=>exact ih.step
def Whole.all {c:Camp}(hc:c.Ok)(r:Ros)(ws:List Int)(k:Nat):Whole c (lossAll c r ws k):=by
 induction k with
 |zero =>
  refine⟨by simp[lossAll],λh hh=>?_⟩
  have e:(c.herders.map (·.heads))[h]?.getD 0=(c.h h).heads:=by simp[Camp.h,hh]
  have:=hc.heads (c.h h) (c.h_mem hh)
  show(c.herders.map (·.heads))[h]?.getD 0+(cntBy (·.2) [] (h:Int):Nat)=_/\0<=(c.herders.map (·.heads))[h]?.getD 0
  rw[e]
  simp only[cntBy,List.countP_nil]
  omega
 |succ k ih=>exact ih.it _
def nQ {c:Camp}(hc:c.Ok)(r:Ros)(ws:List Int){h:Nat}(hh:h<c.herders.length):(cntBy (·.2) (lossesL c r ws) h:Int)<=(c.h h).heads:=by
 have:=(Whole.all hc r ws ws.length).2 h hh
 unfold lossesL
 omega
def takenL (c:Camp)(r:Ros)(n:Nat)(rs:List (Int×Int)):List Int:=rs.map λx=>(cntBy (·.1) (lossesL c r (wolvesL n rs rs.length)) x.1:Int)
def lostL (c:Camp)(r:Ros)(n:Nat)(rs:List (Int×Int)):List Int:=(List.range c.herders.length).map λh:Nat=>(cntBy (·.2) (lossesL c r (wolvesL n rs rs.length)) h:Int)
def nR {c:Camp}(hc:c.Ok)(r:Ros)(n:Nat)(rs:List (Int×Int)):(lostL c r n rs).sum=(lossesL c r (wolvesL n rs rs.length)).length :=
 pK (·.2) c.herders.length _ λp hp=>((dC hc r (wolvesL n rs rs.length)).night p hp).2.2
def jV {rs:List (Int×Int)}{k j:Nat}(hk:k<=rs.length)(h:∀i,i<k->(rs[i]?.getD (0,0)).1≠j):aB rs k j=0:=by
 induction k with
 |zero=>rfl
 |succ k ih =>
  unfold aB
  rw[if_neg (h k (by omega))]
  exact ih (by omega) λi hi=>h i (by omega)
def cz {c:Camp}(hc:c.Ok){r:Ros}(hd:∀x:Nat,0<=c.dogs x){n:Nat}{rs:List (Int×Int)}(hn:(rs.map (·.1)).Nodup):(takenL c r n rs).sum=(lossesL c r (wolvesL n rs rs.length)).length:=by
 have h:=qV (·.1) (rs.map (·.1)) hn (lossesL c r (wolvesL n rs rs.length)) λp hp=>by
  obtain⟨j,h1,h2,h3⟩:=losses_night hp
  rw[aC] at h1
  refine Classical.byContradiction λhm=>?_
  have hz:aB rs rs.length j=0:=jV (Nat.le_refl _) λi hi e=>hm (by
   rw[h2,<-e,List.getElem?_eq_getElem hi]
   exact List.mem_map_of_mem (List.getElem_mem hi))
  unfold tooMany at h3
  rw[cX h1,Option.getD_some,hz] at h3
  have:=hd (r j)
  omega
 rw[<-h]
 unfold takenL
 rw[List.map_map]
 rfl
def tL {l:List Int}{m:Nat}(hl:∃p,l=chosen p m)(hm:m<=4):wl (ofL l)=l:=by
 obtain⟨p,rfl⟩:=hl
 have hn:∀x∈chosen p m,0<=x:=λx hx=>by obtain⟨n,rfl,_⟩:=chosen_mem.1 hx;omega
 have e:wl (ofL (chosen p m))=chosen (ofL (chosen p m)).testBit 4:=rfl
 rw[e]
 unfold chosen
 have h1:(List.range 4).filter (ofL (((List.range m).filter p).map λn:Nat=>(n:Int))).testBit=(List.range m).filter p:=by
  have h2:(List.range 4)=List.range m++(List.range (4-m)).map (m+·):=by
   rw[<-List.range_add];congr 1;omega
  have hb:∀i:Nat,(ofL (((List.range m).filter p).map λn:Nat=>(n:Int))).testBit i=decide ((i:Int)∈chosen p m):=λi=>sH hn i
  rw[h2,List.filter_append]
  have h3:(List.range m).filter (ofL (((List.range m).filter p).map λn:Nat=>(n:Int))).testBit=(List.range m).filter p:=by
   refine List.filter_congr λi hi=>?_
   rw[hb]
   have hi:=List.mem_range.1 hi
   cases hp:p i with
   |true=>exact decide_eq_true (chosen_mem.2 ⟨i,rfl,hi,hp⟩)
   |false =>
    refine decide_eq_false λh=>?_
    obtain⟨n,e,_,h⟩:=chosen_mem.1 h
    obtain rfl:i=n:=by omega
    rw[hp] at h;cases h
  rw[h3]
  have h4:((List.range (4-m)).map (m+·)).filter (ofL (((List.range m).filter p).map λn:Nat=>(n:Int))).testBit=[]:=by
   refine List.filter_eq_nil_iff.2 λi hi=>?_
   obtain⟨k,_,rfl⟩:=List.mem_map.1 hi
   rw[hb]
   intro h
   obtain⟨n,e,h1,_⟩:=chosen_mem.1 (of_decide_eq_true h)
   omega
  rw[h4,List.append_nil]
 rw[h1]
def chosen_drop (p:Nat->Bool)(m:Nat):∃q,(chosen p m).drop 1=chosen q m/\∀x∈chosen q m,x∈chosen p m:=by
 have:∃q,(chosen p m).drop 1=chosen q m:=by
  induction m with
  |zero=>exact⟨p,rfl⟩
  |succ m ih =>
   obtain⟨q,hq⟩:=ih
   by_cases h:chosen p m=[]
   ·refine⟨λ_=>false,?_⟩
    have e:chosen (λ_=>false) (m+1)=[]:=by unfold chosen;simp
    rw[cy,h,e]
    by_cases hp:p m=true<;>simp[hp]
   ·refine⟨λi=>if i=m then p m else q i,?_⟩
    have e:=el (p:=λi=>if i=m then p m else q i) (q:=q) (k:=m) λi hi=>if_neg (by omega)
    rw[cy,cy,e,<-hq,List.drop_append_of_le_length (List.length_pos_iff.2 h)]
    simp
 obtain⟨q,hq⟩:=this
 exact⟨q,hq,λx hx=>List.mem_of_mem_drop (hq▸hx)⟩
def gV {n:Nat}{rs:List (Int×Int)}(h:∀q∈rs,(0<=q.1/\q.1<n)/\0<=q.2/\q.2<=60)(hn:(rs.map (·.1)).Nodup):ci n rs=0:=by
 unfold ci
 refine dj λx hx=>?_
 obtain⟨k,hk,rfl⟩:=List.mem_map.1 hx
 have hk:=List.mem_range.1 hk
 obtain⟨⟨h1,h2⟩,h3,h4⟩:=h _ (List.getElem_mem hk)
 unfold raidE
 rw[List.getElem?_eq_getElem hk,Option.getD_some,if_neg (by simp[inR];omega),if_neg (by simp[inR];omega),if_neg]
 intro ha
 obtain⟨q,hq,he⟩:=List.any_eq_true.1 ha
 obtain⟨i,hi,rfl⟩:=List.getElem_of_mem hq
 rw[List.length_take] at hi
 rw[List.getElem_take] at he
 have hp:=List.pairwise_iff_getElem.1 hn i k (by simp;omega) (by simpa using hk) (by omega)
 simp only[List.getElem_map] at hp
 exact hp (by simpa using he)
def jW {rs rs':List (Int×Int)}(h:∀i:Nat,(rs[i]?.getD (0,0)).1=(rs'[i]?.getD (0,0)).1/\(rs[i]?.getD (0,0)).2<=(rs'[i]?.getD (0,0)).2)(k j:Nat):aB rs k j<=aB rs' k j:=by
 induction k with
 |zero=>exact Int.le_refl _
 |succ k ih =>
  unfold aB
  obtain⟨h1,h2⟩:=h k
  rw[<-h1]
  split
  ·exact h2
  ·exact ih
def gW {c:Camp}(hc:c.Ok){r r':Ros}{ws ws':List Int}(hl:ws.length=ws'.length)(h:∀j,j<ws.length->ws[j]?.getD 0<=ws'[j]?.getD 0)(hd:∀j,j<ws.length->c.dogs (r' j)<=c.dogs (r j)):(lossesL c r ws).length<=(lossesL c r' ws').length:=by
 have h1:=gu hc r ws
 have h2:=gu hc r' ws'
 have h3:=nO (c:=c) (r:=r) (r':=r') (ws:=ws) (ws':=ws') ws.length λj hj=>by
  have:=h j hj
  have:=hd j hj
  unfold tooMany
  omega
 rw[<-hl] at h2
 omega
def jJ {c:Camp}{l:List Int}{m:Nat}(hl:∃p,l=chosen p m)(hm:m<=4):c.dogs (ofL l)=(l.map λh=>(c.h h.toNat).dogs).sum:=by
 unfold Camp.dogs
 rw[tL hl hm]
def kZ {c:Camp}(hc:c.Ok)(h:Nat):0<=(c.h h).dogs:=by
 by_cases hh:h<c.herders.length
 ·have:=hc.dogs _ (c.h_mem hh);omega
 ·unfold Camp.h;rw[List.getElem?_eq_none (by omega)];decide
def pL {c:Camp}(hc:c.Ok){l:List Int}{m:Nat}(hl:∃p,l=chosen p m)(hm:m<=4):c.dogs (ofL (l.drop 1))<=c.dogs (ofL l):=by
 have h2:∃p,l.drop 1=chosen p m:=by
  obtain⟨p,rfl⟩:=hl
  obtain⟨q,hq,_⟩:=chosen_drop p m
  exact⟨q,hq⟩
 rw[jJ hl hm,jJ h2 hm]
 cases l with
 |nil=>exact Int.le_refl _
 |cons x l =>
  have:=kZ hc x.toNat
  simp only[List.drop_succ_cons,List.drop_zero,List.map_cons,List.sum_cons]
  omega
def sI (ls:List (List Int))(k:Nat)(l:List Int)(j:Nat)(hk:k<ls.length):rosOf (ls.set k l) j=if j=k then ofL l else rosOf ls j:=by
 unfold rosOf
 by_cases e:j=k
 ·subst e;rw[if_pos rfl,List.getElem?_set_self hk];rfl
 ·rw[if_neg e,List.getElem?_set_ne (Ne.symm e)]
def nS {c:Camp}(hc:c.Ok){ls:List (List Int)}(hl:∀x∈ls,∃p,x=chosen p c.herders.length){k:Nat}(hk:k<ls.length)(j:Nat):c.dogs (rosOf (ls.set k (ls[k].drop 1)) j)<=c.dogs (rosOf ls j):=by
 rw[sI _ _ _ _ hk]
 split
 ·rename_i e
  subst e
  have e:rosOf ls j=ofL ls[j]:=by unfold rosOf;rw[List.getElem?_eq_getElem hk];rfl
  rw[e]
  exact pL hc (hl _ (List.getElem_mem hk)) hc.h4
 ·exact Int.le_refl _
def lb {m:Nat}{ls:List (List Int)}(hl:∀x∈ls,∃p,x=chosen p m){k:Nat}(hk:k<ls.length):∀x∈ls.set k (ls[k].drop 1),∃p,x=chosen p m:=λx hx=>by
 rcases List.mem_or_eq_of_mem_set hx with h|rfl
 ·exact hl x h
 ·obtain⟨p,hp⟩:=hl _ (List.getElem_mem hk)
  rw[hp]
  obtain⟨q,hq,_⟩:=chosen_drop p m
  exact⟨q,hq⟩
def sJ {c:Camp}{r:Ros}{n:Nat}{rs:List (Int×Int)}{h:Nat}(hh:h<c.herders.length):(lostL c r n rs)[h]?=some (cntBy (·.2) (lossesL c r (wolvesL n rs rs.length)) h:Int):=by
 unfold lostL;simp[hh]
end Go.Sq
namespace Go.Proofs.YtgphobammhoniaaGreat
open Go.RowKit Go.Sq
end Go.Proofs.YtgphobammhoniaaGreat
namespace Go.Sq
open Go.RowKit
def iZ (f:Int×Int->Int)(l:List (Int×Int))(k:Nat)(h:k<l.length)(t:Int):cntBy f (l.take (k+1)) t=cntBy f (l.take k) t+if f (l[k]?.getD (0,0))=t then 1 else 0:=by
 rw[List.take_add_one,List.getElem?_eq_getElem h,Option.toList_some,gv,Option.getD_some]
 congr 1
 unfold cntBy
 rw[List.countP_singleton]
 by_cases e:f l[k]=t<;>simp[e]
def i3 (f:Int×Int->Int)(l:List (Int×Int))(k:Nat)(t:Int):cntBy f (l.take k) t<=l.length:=Nat.le_trans (cj f _ t) (by rw[List.length_take];omega)
end Go.Sq
namespace Go.Proofs.YtgphobammhoniaaGreat
open Go.RowKit Go.Sq
def tM (nA hA gA rA:Option Addr)(nc hc gc rc:Nat)(c:Camp)(ls:List (List Int))(rs:List (Int×Int))(w:World)(B:Nat)(hB:B<=w.heap.size)(hn:RI w B nA c.needs)(hh:HsAt w B hA c.herders)(hg:GrAt w B gA ls)(hr:RsAt w B rA rs)
  (hl1:c.needs.length<=4611686018427387904) (hl2:c.herders.length<=4611686018427387904) (hlo:∀h∈c.herders,h.off.length<=4611686018427387904) (hl3:ls.length<=4611686018427387904) (hl4:∀x∈ls,x.length<=4611686018427387904) (hl5:rs.length<=1048576) (hrc:rs.length<=rc)
  (hF:formedE c ls=0) (hR:ci c.needs.length rs=0) :
  Calls ve 9 #[campV nA hA c nc hc,.slice gA ls.length gc,.slice rA rs.length rc] w λe w'=>Gr w w'/\∃A k,e=.returned (.tuple #[.slice A c.herders.length k,.int .i64 0])/\RI w' w'.heap.size A (lostL c (rosOf ls) c.needs.length rs):=by
 unfold campV
 obtain⟨W0,hW0⟩:∃W0:World,W0=w.alloc (.cells #[.slice nA c.needs.length nc,.slice hA c.herders.length hc] 27):=⟨_,rfl⟩
 have hg0:Gr w W0:=hW0▸(Gr.refl w).alloc _
 have hz0:W0.heap.size=w.heap.size+1:=by rw[hW0];simp
 have HW:=uq hW0
 have hrd:=il nA hA gA rA nc hc gc rc c ls rs W0 B (by omega) (hn.gr hB hg0) (hh.keep λb o hb=>hg0.cell (Nat.lt_of_lt_of_le hb hB)) (hg.gr hB hg0) (hr.gr hB hg0) hl1 hl2 hlo hl3 hl4 (by omega) hrc hF hR
 unfold campV at hrd
 have HRD:=uq hrd
 have HG0:=uq hg0
 have HRS:=uq (hr.gr hB hg0)
 have HC1:Hid (W0.cell? ⟨w.heap.size,1,none⟩=some (.slice hA c.herders.length hc)):=uq (by rw[hW0,World.cell?_alloc_at _ _ _ _ rfl];rfl)
 have HFE:=uq hF
 have HOK:=uq (Camp.Ok.of (show checkE c=0 by
  have:=hF
  unfold formedE at this
  split at this
  ·exact absurd this (by assumption)
  ·simpa using ‹¬checkE c≠0›))
 have HRZ:=uq (eJ hR)
 clear hW0 hg0 hrd hn hh hg hr hl4 hlo hF hR
 go_enter Sq.func9,Tryz.ntmps9
 go_wp2_with fail
 rw[<-HW.out]
 refine HRD.out.mono ?_
 rintro e w1 ⟨hg1,cb,A,ka,rfl,hcp,hri⟩
 obtain⟨W1,hW1⟩:∃W1:World,W1=w1.alloc (.cells #[.int .u8 (rosOf ls 0),.int .u8 (rosOf ls 1),.int .u8 (rosOf ls 2),.int .u8 (rosOf ls 3),.int .u8 (rosOf ls 4)] 55):=⟨_,rfl⟩
 have hg1':Gr w1 W1:=hW1▸(Gr.refl w1).alloc _
 have hz1:W1.heap.size=w1.heap.size+1:=by rw[hW1];simp
 have hzz:=hg1.size
 have hh4:=HOK.out.h4
 have hn5:=HOK.out.n5
 obtain⟨Wz,hWz⟩:∃Wz:World,Wz=W1.alloc (.cells (zerosA c.herders.length) 3):=⟨_,rfl⟩
 have hgz:Gr W1 Wz:=hWz▸(Gr.refl W1).alloc _
 have hzz2:Wz.heap.size=w1.heap.size+2:=by rw[hWz];simp;omega
 have HN0:Hid (Nums Wz (w1.heap.size+1) c.herders.length λ_=>0):=uq (hz1▸hWz▸kY W1 c.herders.length)
 have HG1:=uq ((hg1.trans hg1').trans hgz)
 have hcz:=hcp.on (hg1'.trans hgz)
 have HRC:Hid (∀i,i<5->W1.cell? ⟨w1.heap.size,i,none⟩=some (.int .u8 (rosOf ls i:Nat))):=uq λi hi=>by
  rw[hW1,World.cell?_alloc_at _ _ _ _ (by simp)]
  match i,hi with
  |0,_=>rfl
  |1,_=>rfl
  |2,_=>rfl
  |3,_=>rfl
  |4,_=>rfl
 have hws:∀x∈wolvesL c.needs.length rs rs.length,0<=x/\x<=60:=λx hx=>by
  obtain⟨j,_,rfl⟩:=List.mem_map.1 hx
  exact eN HRZ.out _ _ (Nat.le_refl _)
 have hlos:=im cb nA hA A nc hc ka c (rosOf ls) (wolvesL c.needs.length rs rs.length) Wz hcz HOK.out (dD HFE.out) hws (by rw[aC];exact HOK.out.n5) ((hri.gr (Nat.le_refl _) (hg1'.trans hgz)).more (by omega))
 rw[aC] at hlos
 have hll:=ct HOK.out (rosOf ls) (wolvesL c.needs.length rs rs.length)
 have HLN:Hid (∀q∈lossesL c (rosOf ls) (wolvesL c.needs.length rs rs.length),0<=q.1/\q.1<c.needs.length/\0<=q.2/\q.2<c.herders.length):=uq λq hq=>by
  have:=(dC HOK.out (rosOf ls) (wolvesL c.needs.length rs rs.length)).night q hq
  rwa [aC] at this
 have HRES:Hid (lostL c (rosOf ls) c.needs.length rs=(List.range c.herders.length).map λh:Nat=>(cntBy (·.2) (lossesL c (rosOf ls) (wolvesL c.needs.length rs rs.length)) h:Int)):=uq rfl
 obtain⟨L,hL⟩:∃L,L=lossesL c (rosOf ls) (wolvesL c.needs.length rs rs.length):=⟨_,rfl⟩
 rw[<-hL] at hlos hll HLN HRES
 clear hL
 have HLOS:=uq hlos
 have hrc1:∀i,i<5->Wz.cell? ⟨w1.heap.size,i,none⟩=some (.int .u8 (rosOf ls i:Nat)):=λi hi=>(hgz.cell (by show w1.heap.size<_;omega)).trans (HRC.out i hi)
 obtain⟨a0,a1,a2,a3,a4⟩:=RosC5 hrc1
 have hwl:w.heap.size<w1.heap.size:=by omega
 have hwz:w1.heap.size<Wz.heap.size:=by omega
 have hmk:=λw=>eZ c.herders.length w (by omega)
 have hc1:w1.cell? ⟨w.heap.size,1,none⟩=some (.slice hA c.herders.length hc):=(hg1.cell (by show w.heap.size<_;omega)).trans HC1.out
 have HW1:=uq hW1
 have HWz:=uq hWz
 have HZ1:=uq hz1
 have hzx:=hzz2
 clear hg1 hcp hri hg1' HRD hW1 hWz hgz hcz hlos hrc1 hws hzz2 hz1
 unfold rosV at *
 go_wp2_with fail
 rw[<-HW1.out,<-HWz.out]
 refine HLOS.out.mono ?_
 rintro e w2 ⟨v,rfl,hown2,hg2⟩
 obtain⟨A2,k2,rfl,hrs⟩:=RsK_of_own hown2
 have HLS:=uq hrs
 have HG2:=uq (HG1.out.trans hg2)
 have HN2:=uq ((HN0.out.gr hg2).congr (V':=λh=>(cntBy (·.2) (L.take 0) (h:Int):Int)) λq _=>by simp[cntBy])
 have hz2:=hg2.size
 clear hown2 hg2 hrs a0 a1 a2 a3 a4 HLOS HN0
 go_wp2
 go_loopw [36] (λi wr=>∃k:Nat,k<=L.length/\i=.int .i64 k/\Gr W0 wr/\Nums wr (w1.heap.size+1) c.herders.length (λh=>(cntBy (·.2) (L.take k) (h:Int):Int))/\w2.heap.size<=wr.heap.size/\∀b,b<w2.heap.size->b≠w1.heap.size+1->wr.heap[b]?=w2.heap[b]?) (λi _=>L.length-(intOf i).toNat)
 case atStart=>exact⟨0,by omega,rfl,HG2.out,HN2.out,Nat.le_refl _,λ_ _ _=>rfl⟩
 case round =>
  obtain⟨k,hk,rfl,hgr,hnm,hzr,hkr⟩:=hrel
  have HGR:=uq hgr
  have HNM:=uq hnm
  have HKR:=uq hkr
  by_cases hlk:k<L.length
  ·have hln:=HLN.out _ (List.getElem_mem hlk)
   have hget:L[k]?.getD (0,0)=L[k]:=by rw[List.getElem?_eq_getElem hlk];rfl
   obtain⟨b,o,rfl,hbK,hcl⟩:=HLS.out (λe=>by rw[e] at hlk;simp at hlk)
   obtain⟨h1,h2⟩:=hcl k _ (List.getElem?_eq_getElem hlk)
   have d1:=(World.cell?_of_block (a:=⟨b,o+k*2,none⟩) (hkr b hbK.2 (by have:=hbK.1;omega))).trans h1
   have d2:=(World.cell?_of_block (a:=⟨b,o+k*2+1,none⟩) (hkr b hbK.2 (by have:=hbK.1;omega))).trans h2
   rw[<-hget] at hln d1 d2
   have HCN:=uq (λt:Int=>iZ (·.2) L k hlk t)
   have hcb:=λt:Int=>i3 (·.2) L k t
   generalize L[k]?.getD (0,0)=q at hln d1 d2 HCN
   obtain⟨q1,q2⟩:=q
   dsimp only at hln d1 d2 HCN
   obtain⟨qn,rfl⟩:∃j:Nat,q1=j:=⟨q1.toNat,by omega⟩
   obtain⟨qf,rfl⟩:∃j:Nat,q2=j:=⟨q2.toNat,by omega⟩
   have hqx:qf<c.herders.length:=by omega
   obtain⟨e1,e2⟩:=(hnm.gr ((Gr.refl wr).alloc (.cells #[.int .i64 (qn:Int),.int .i64 (qf:Int)] 61))).at_ qf hqx
   have hbb:=hcb qf
   have HSET:Hid (Nums ((wr.alloc (.cells #[.int .i64 (qn:Int),.int .i64 (qf:Int)] 61)).setCell ⟨w1.heap.size+1,qf,none⟩ (.int .i64 ((cntBy (·.2) (L.take k) (qf:Int):Int)+1))) (w1.heap.size+1) c.herders.length (λh=>(cntBy (·.2) (L.take (k+1)) (h:Int):Int))):=uq ((hnm.gr ((Gr.refl wr).alloc _)).set hqx _ λq _=>by
    rw[HCN.out]
    by_cases e:q=qf
    ·subst e;rw[if_pos rfl,if_pos rfl];rfl
    ·rw[if_neg e,if_neg (by omega)];rfl)
   have HGF:=uq (λv=>(hgr.alloc (.cells #[.int .i64 (qn:Int),.int .i64 (qf:Int)] 61)).setCell (p:=⟨w1.heap.size+1,qf,none⟩) (by show _<=w1.heap.size+1;omega) v)
   have HKF:=uq (λ(v:Value) (b:Nat) (hb:b<w2.heap.size) (hne:b≠w1.heap.size+1)=>(Below.heap_setCell (wr.alloc (.cells #[.int .i64 (qn:Int),.int .i64 (qf:Int)] 61)) ⟨w1.heap.size+1,qf,none⟩ v b hne).trans ((heap_alloc_old _ _ (Nat.lt_of_lt_of_le hb hzr)).trans (hkr b hb hne)))
   clear hgr hnm hkr hcl h1 h2 hget hcb
   generalize (cntBy (·.2) (L.take k) (qf:Int))=V at e1 hbb HSET
   go_wp2
   go_roundw
   case rel=>exact⟨k+1,by omega,by go_num,HGF.out _,HSET.out,by simp[World.setCell];omega,HKF.out _⟩
   case measure=>simp[intOf];omega
  ·have hkn:k=L.length:=by omega
   subst hkn
   have HF:=uq (hnm.ri)
   have HE:Hid ((List.range c.herders.length).map (λh:Nat=>(cntBy (·.2) (L.take L.length) (h:Int):Int))=lostL c (rosOf ls) c.needs.length rs):=uq (by rw[HRES.out,List.take_length])
   have HG9:=uq (HG0.out.trans hgr)
   clear hgr hnm hkr
   go_wp2
   go_ret2
   exact⟨HG9.out,_,_,rfl,by rw[<-HE.out];exact HF.out⟩
open Go.RowKit Go.Sq
def jm (nA hA gA rA:Option Addr)(nc hc gc rc:Nat)(c:Camp)(ls:List (List Int))(rs:List (Int×Int))(w:World)(B:Nat)(hB:B<=w.heap.size)(hn:RI w B nA c.needs)(hh:HsAt w B hA c.herders)(hg:GrAt w B gA ls)(hr:RsAt w B rA rs)
  (hl1:c.needs.length<=4611686018427387904) (hl2:c.herders.length<=4611686018427387904) (hlo:∀h∈c.herders,h.off.length<=4611686018427387904) (hl3:ls.length<=4611686018427387904) (hl4:∀x∈ls,x.length<=4611686018427387904) (hl5:rs.length<=1048576) (hrc:rs.length<=rc)
  (hF:formedE c ls=0) (hR:ci c.needs.length rs=0) :
  Calls ve 8 #[campV nA hA c nc hc,.slice gA ls.length gc,.slice rA rs.length rc] w λe w'=>Gr w w'/\∃A k,e=.returned (.tuple #[.slice A rs.length k,.int .i64 0])/\RIK w' (λb=>w.heap.size<=b/\b<w'.heap.size) A (takenL c (rosOf ls) c.needs.length rs):=by
 unfold campV
 obtain⟨W0,hW0⟩:∃W0:World,W0=w.alloc (.cells #[.slice nA c.needs.length nc,.slice hA c.herders.length hc] 27):=⟨_,rfl⟩
 have hg0:Gr w W0:=hW0▸(Gr.refl w).alloc _
 have hz0:W0.heap.size=w.heap.size+1:=by rw[hW0];simp
 have HW:=uq hW0
 have hrd:=il nA hA gA rA nc hc gc rc c ls rs W0 B (by omega) (hn.gr hB hg0) (hh.keep λb o hb=>hg0.cell (Nat.lt_of_lt_of_le hb hB)) (hg.gr hB hg0) (hr.gr hB hg0) hl1 hl2 hlo hl3 hl4 (by omega) hrc hF hR
 unfold campV at hrd
 have HRD:=uq hrd
 have HG0:=uq hg0
 have HRS:=uq (hr.gr hB hg0)
 have HC1:Hid (W0.cell? ⟨w.heap.size,1,none⟩=some (.slice hA c.herders.length hc)):=uq (by rw[hW0,World.cell?_alloc_at _ _ _ _ rfl];rfl)
 have HFE:=uq hF
 have HOK:=uq (Camp.Ok.of (show checkE c=0 by
  have:=hF
  unfold formedE at this
  split at this
  ·exact absurd this (by assumption)
  ·simpa using ‹¬checkE c≠0›))
 have HRZ:=uq (eJ hR)
 clear hW0 hg0 hrd hn hh hg hr hl4 hlo hF hR
 go_enter Sq.func8,Tryz.ntmps8
 go_wp2_with fail
 rw[<-HW.out]
 refine HRD.out.mono ?_
 rintro e w1 ⟨hg1,cb,A,ka,rfl,hcp,hri⟩
 obtain⟨W1,hW1⟩:∃W1:World,W1=w1.alloc (.cells #[.int .u8 (rosOf ls 0),.int .u8 (rosOf ls 1),.int .u8 (rosOf ls 2),.int .u8 (rosOf ls 3),.int .u8 (rosOf ls 4)] 55):=⟨_,rfl⟩
 have hg1':Gr w1 W1:=hW1▸(Gr.refl w1).alloc _
 have hz1:W1.heap.size=w1.heap.size+1:=by rw[hW1];simp
 have hzz:=hg1.size
 have hh4:=HOK.out.h4
 have hn5:=HOK.out.n5
 obtain⟨Wz,hWz⟩:∃Wz:World,Wz=W1.alloc (.cells (zerosA c.needs.length) 3):=⟨_,rfl⟩
 have hgz:Gr W1 Wz:=hWz▸(Gr.refl W1).alloc _
 have hzz2:Wz.heap.size=w1.heap.size+2:=by rw[hWz];simp;omega
 have HN0:Hid (Nums Wz (w1.heap.size+1) c.needs.length λ_=>0):=uq (hz1▸hWz▸kY W1 c.needs.length)
 have HG1:=uq ((hg1.trans hg1').trans hgz)
 have hcz:=hcp.on (hg1'.trans hgz)
 have HRC:Hid (∀i,i<5->W1.cell? ⟨w1.heap.size,i,none⟩=some (.int .u8 (rosOf ls i:Nat))):=uq λi hi=>by
  rw[hW1,World.cell?_alloc_at _ _ _ _ (by simp)]
  match i,hi with
  |0,_=>rfl
  |1,_=>rfl
  |2,_=>rfl
  |3,_=>rfl
  |4,_=>rfl
 have hws:∀x∈wolvesL c.needs.length rs rs.length,0<=x/\x<=60:=λx hx=>by
  obtain⟨j,_,rfl⟩:=List.mem_map.1 hx
  exact eN HRZ.out _ _ (Nat.le_refl _)
 have hlos:=im cb nA hA A nc hc ka c (rosOf ls) (wolvesL c.needs.length rs rs.length) Wz hcz HOK.out (dD HFE.out) hws (by rw[aC];exact HOK.out.n5) ((hri.gr (Nat.le_refl _) (hg1'.trans hgz)).more (by omega))
 rw[aC] at hlos
 have hll:=ct HOK.out (rosOf ls) (wolvesL c.needs.length rs rs.length)
 have HLN:Hid (∀q∈lossesL c (rosOf ls) (wolvesL c.needs.length rs rs.length),0<=q.1/\q.1<c.needs.length/\0<=q.2/\q.2<c.herders.length):=uq λq hq=>by
  have:=(dC HOK.out (rosOf ls) (wolvesL c.needs.length rs rs.length)).night q hq
  rwa [aC] at this
 have HRES:Hid (takenL c (rosOf ls) c.needs.length rs=rs.map λx=>(cntBy (·.1) (lossesL c (rosOf ls) (wolvesL c.needs.length rs rs.length)) x.1:Int)):=uq rfl
 obtain⟨L,hL⟩:∃L,L=lossesL c (rosOf ls) (wolvesL c.needs.length rs rs.length):=⟨_,rfl⟩
 rw[<-hL] at hlos hll HLN HRES
 clear hL
 have HLOS:=uq hlos
 have hrc1:∀i,i<5->Wz.cell? ⟨w1.heap.size,i,none⟩=some (.int .u8 (rosOf ls i:Nat)):=λi hi=>(hgz.cell (by show w1.heap.size<_;omega)).trans (HRC.out i hi)
 obtain⟨a0,a1,a2,a3,a4⟩:=RosC5 hrc1
 have hwl:w.heap.size<w1.heap.size:=by omega
 have hwz:w1.heap.size<Wz.heap.size:=by omega
 have hmk:=λw=>eZ c.needs.length w (by omega)
 have HW1:=uq hW1
 have HWz:=uq hWz
 have HZ1:=uq hz1
 have hzx:=hzz2
 clear hg1 hcp hri hg1' HRD hW1 hWz hgz hcz hlos hrc1 hws hzz2 hz1
 unfold rosV at *
 go_wp2_with fail
 rw[<-HW1.out,<-HWz.out]
 refine HLOS.out.mono ?_
 rintro e w2 ⟨v,rfl,hown2,hg2⟩
 obtain⟨A2,k2,rfl,hrs⟩:=RsK_of_own hown2
 have HLS:=uq hrs
 have HG2:=uq (HG1.out.trans hg2)
 have HN2:=uq ((HN0.out.gr hg2).congr (V':=λh=>(cntBy (·.1) (L.take 0) (h:Int):Int)) λq _=>by simp[cntBy])
 have hz2:=hg2.size
 clear hown2 hg2 hrs a0 a1 a2 a3 a4 HLOS HN0
 go_wp2
 go_loopw [38] (λi wr=>∃k:Nat,k<=L.length/\i=.int .i64 k/\Gr W0 wr/\Nums wr (w1.heap.size+1) c.needs.length (λh=>(cntBy (·.1) (L.take k) (h:Int):Int))/\w2.heap.size<=wr.heap.size/\∀b,b<w2.heap.size->b≠w1.heap.size+1->wr.heap[b]?=w2.heap[b]?) (λi _=>L.length-(intOf i).toNat)
 case atStart=>exact⟨0,by omega,rfl,HG2.out,HN2.out,Nat.le_refl _,λ_ _ _=>rfl⟩
 case round =>
  obtain⟨k,hk,rfl,hgr,hnm,hzr,hkr⟩:=hrel
  have HGR:=uq hgr
  have HNM:=uq hnm
  have HKR:=uq hkr
  by_cases hlk:k<L.length
  ·have hln:=HLN.out _ (List.getElem_mem hlk)
   have hget:L[k]?.getD (0,0)=L[k]:=by rw[List.getElem?_eq_getElem hlk];rfl
   obtain⟨b,o,rfl,hbK,hcl⟩:=HLS.out (λe=>by rw[e] at hlk;simp at hlk)
   obtain⟨h1,h2⟩:=hcl k _ (List.getElem?_eq_getElem hlk)
   have d1:=(World.cell?_of_block (a:=⟨b,o+k*2,none⟩) (hkr b hbK.2 (by have:=hbK.1;omega))).trans h1
   have d2:=(World.cell?_of_block (a:=⟨b,o+k*2+1,none⟩) (hkr b hbK.2 (by have:=hbK.1;omega))).trans h2
   rw[<-hget] at hln d1 d2
   have HCN:=uq (λt:Int=>iZ (·.1) L k hlk t)
   have hcb:=λt:Int=>i3 (·.1) L k t
   generalize L[k]?.getD (0,0)=q at hln d1 d2 HCN
   obtain⟨q1,q2⟩:=q
   dsimp only at hln d1 d2 HCN
   obtain⟨qn,rfl⟩:∃j:Nat,q1=j:=⟨q1.toNat,by omega⟩
   obtain⟨qf,rfl⟩:∃j:Nat,q2=j:=⟨q2.toNat,by omega⟩
   have hqx:qn<c.needs.length:=by omega
   obtain⟨e1,e2⟩:=(hnm.gr ((Gr.refl wr).alloc (.cells #[.int .i64 (qn:Int),.int .i64 (qf:Int)] 61))).at_ qn hqx
   have hbb:=hcb qn
   have HSET:Hid (Nums ((wr.alloc (.cells #[.int .i64 (qn:Int),.int .i64 (qf:Int)] 61)).setCell ⟨w1.heap.size+1,qn,none⟩ (.int .i64 ((cntBy (·.1) (L.take k) (qn:Int):Int)+1))) (w1.heap.size+1) c.needs.length (λh=>(cntBy (·.1) (L.take (k+1)) (h:Int):Int))):=uq ((hnm.gr ((Gr.refl wr).alloc _)).set hqx _ λq _=>by
    rw[HCN.out]
    by_cases e:q=qn
    ·subst e;rw[if_pos rfl,if_pos rfl];rfl
    ·rw[if_neg e,if_neg (by omega)];rfl)
   have HGF:=uq (λv=>(hgr.alloc (.cells #[.int .i64 (qn:Int),.int .i64 (qf:Int)] 61)).setCell (p:=⟨w1.heap.size+1,qn,none⟩) (by show _<=w1.heap.size+1;omega) v)
   have HKF:=uq (λ(v:Value) (b:Nat) (hb:b<w2.heap.size) (hne:b≠w1.heap.size+1)=>(Below.heap_setCell (wr.alloc (.cells #[.int .i64 (qn:Int),.int .i64 (qf:Int)] 61)) ⟨w1.heap.size+1,qn,none⟩ v b hne).trans ((heap_alloc_old _ _ (Nat.lt_of_lt_of_le hb hzr)).trans (hkr b hb hne)))
   clear hgr hnm hkr hcl h1 h2 hget hcb
   generalize (cntBy (·.1) (L.take k) (qn:Int))=V at e1 hbb HSET
   go_wp2
   go_roundw
   case rel=>exact⟨k+1,by omega,by go_num,HGF.out _,HSET.out,by simp[World.setCell];omega,HKF.out _⟩
   case measure=>simp[intOf];omega
  ·have hkn:k=L.length:=by omega
   subst hkn
   obtain⟨T,hT⟩:∃T,T=takenL c (rosOf ls) c.needs.length rs:=⟨_,rfl⟩
   have HTL:Hid (T.length=rs.length):=uq (by rw[hT];simp[takenL])
   have HTA:Hid (∀k,k<rs.length->T[k]?=some (cntBy (·.1) L (rs[k]?.getD (0,0)).1:Int)):=uq λk hk=>by
    rw[hT,HRES.out,List.getElem?_map,List.getElem?_eq_getElem hk];rfl
   have HTE:=uq hT
   rw[List.take_length] at hnm
   obtain⟨w3,rfl⟩:∃w3,w3=wr:=⟨_,rfl⟩
   have HF:=uq hnm
   have HG3:=uq hgr
   have hz30:=hgr.size
   have hz31:=hnm.lt
   clear hgr hnm hkr hT HNM
   go_wp2
   go_loopw [15,52] (λv i wr=>∃k:Nat,k<=rs.length/\i=.int .i64 k/\Gr w3 wr/\wr.ownsRow w3.heap.size 3 1 v (T.take k).length ((T.take k).map (Value.int .i64))) (λ_ i _=>rs.length-(intOf i).toNat)
   case atStart=>exact⟨0,by omega,rfl,.refl _,World.ownsRow_nil _ _ _ _⟩
   case round =>
    obtain⟨k,hk,rfl,hgr,hown⟩:=hrel
    have HGR:=uq hgr
    have HO:=uq hown
    have hzr2:=hgr.size
    by_cases hlt:k<rs.length
    ·obtain⟨b,o,rfl,hb,h1,h2⟩:=(HRS.out.gr (by omega) (HG3.out.trans hgr)).at_ hlt
     have hro:=(kT (HRZ.out k hlt)).1
     have HTK:=uq (HTA.out k hlt)
     generalize rs[k]?.getD (0,0)=x at h1 h2 hro HTK
     obtain⟨xn,xv⟩:=x
     dsimp only at h1 h2 hro HTK
     obtain⟨j,rfl⟩:∃j:Nat,xn=j:=⟨xn.toNat,by simp[inR] at hro;omega⟩
     have hjn:j<c.needs.length:=by simp[inR] at hro;omega
     obtain⟨e1,_⟩:=(HF.out.gr (hgr.alloc (.cells #[.int .i64 (j:Int),.int .i64 xv] 43))).at_ j hjn
     have hbb:=cj (·.1) L (j:Int)
     have HTS:Hid (T.take (k+1)=T.take k++[(cntBy (·.1) L (j:Int):Int)]):=uq (by rw[List.take_add_one,HTK.out];rfl)
     have hlen:(T.take k).length<=k:=by rw[List.length_take];omega
     generalize (cntBy (·.1) L (j:Int))=V at e1 hbb HTS
     generalize T.take k=M at hown HO HTS hlen
     have hown1:=(hown.alloc (.cells #[.int .i64 (j:Int),.int .i64 xv] 43)).alloc (.cells #[.int .i64 (V:Int)] 3)
     clear hgr hown
     go_wp2_with (at_builtin;refine gE rfl _ _ rfl w3.heap.size _ _ _ rfl hown1 ⟨wr.heap.size+1,0,none⟩ 1 (.int .i64 V) rfl ?c1 rfl ?c2 ?c3 ?_)
     case c1=>rw[World.cell?_alloc_at _ _ _ _ (by simp)];rfl
     case c2=>omega
     case c3=>simp;omega
     intro v' w4 hown' hgrow hd
     have HG4:=uq (((HGR.out.alloc _).alloc _).grown hgrow hd λq hq=>(HO.out.lt q hq).1)
     have HO4:Hid (w4.ownsRow w3.heap.size 3 1 v' (T.take (k+1)).length ((T.take (k+1)).map (Value.int .i64))):=uq (by rw[HTS.out];simpa using hown')
     clear hown' hgrow hd hown1
     go_wp2
     go_roundw
     case rel=>exact⟨k+1,by omega,by go_num,HG4.out,HO4.out⟩
     case measure=>simp[intOf];omega
    ·have hkn:k=rs.length:=by omega
     subst hkn
     have HGF:=uq (HG0.out.trans (HG3.out.trans hgr))
     rw[<-HTL.out,List.take_length] at hown
     have HFO:=uq (RIK_of_own hown)
     obtain⟨A9,k9,rfl,hri⟩:=HFO.out
     rw[HTE.out] at hri
     have HR9:=uq (bI hri (K':=λb=>w.heap.size<=b/\b<wr.heap.size) (λb hb=>⟨by have:=hb.1;omega,hb.2⟩) λ_ _ _=>rfl)
     rw[HTL.out]
     clear hgr hown HFO hri HO
     go_wp2
     go_ret2
     exact⟨HGF.out,_,_,rfl,HR9.out⟩
end Go.Proofs.YtgphobammhoniaaGreat
namespace Go.Sq
open Go.RowKit
def pM (k:Nat):((List.range (k+1)).map λn:Nat=>(n:Int))=((List.range k).map λn:Nat=>(n:Int))++[(k:Int)]:=by
 rw[List.range_succ,List.map_append];rfl
def nT (k:Nat):((List.range k).map λn:Nat=>(n:Int)).Nodup:=by
 rw[List.nodup_iff_pairwise_ne,List.pairwise_map]
 exact List.pairwise_lt_range.imp λh=>by omega
def sK (k:Nat):∀x∈(List.range k).map (λn:Nat=>(n:Int)),0<=x/\x<k:=λx hx=>by
 obtain⟨n,hn,rfl⟩:=List.mem_map.1 hx
 have:=List.mem_range.1 hn;omega
def KT.setK {w0 W:World}{hb:Nat}(h:KT (·=hb) w0 W){p:Addr}(hp:w0.heap.size<=p.block)(x:Value):KT (·=hb) w0 (W.setCell p x):=KT.set h hp x
def pN {L:List Int}{q r:Nat}(hq:q<L.length)(hr:r<L.length):((L.set q (L[r]?.getD 0)).set r (L[q]?.getD 0)).Perm L:=by
 rw[List.getElem?_eq_getElem hq,List.getElem?_eq_getElem hr]
 exact List.set_set_perm hq hr
def mw {w:World}{base g cap:Nat}{l:List Int}(h:w.ownsRow base 3 1 (.slice (some ⟨g,0,none⟩) l.length cap) l.length (l.map (Value.int .i64)))(k:Nat)(x:Int):(w.setCell ⟨g,k,none⟩ (.int .i64 x)).ownsRow base 3 1 (.slice (some ⟨g,0,none⟩) (l.set k x).length cap) (l.set k x).length ((l.set k x).map (Value.int .i64)):=by
 have:=(h.stored k (.int .i64 x)).1
 rw[List.map_set,List.length_set]
 exact this
def own_at {w:World}{base g cap:Nat}{l:List Int}(h:w.ownsRow base 3 1 (.slice (some ⟨g,0,none⟩) l.length cap) l.length (l.map (Value.int .i64))){k:Nat}(hk:k<l.length):w.cell? ⟨g,k,none⟩=some (.int .i64 (l[k]?.getD 0))/\w.frozen? ⟨g,k,none⟩=false:=by
 refine⟨?_,h.frozenAt k⟩
 rw[h.cellAt k (by omega),List.getElem?_map,List.getElem?_eq_getElem hk];rfl
def own_slice {w:World}{base:Nat}{v:Value}{l:List Int}(h:w.ownsRow base 3 1 v l.length (l.map (Value.int .i64)))(hn:0<l.length):∃g cap,v=.slice (some ⟨g,0,none⟩) l.length cap/\base<=g/\g<w.heap.size:=by
 rcases h.2 with⟨_,h0⟩|⟨g,cap,cur,hv,hb,hg,_⟩
 ·omega
 ·exact⟨g,cap,hv,hb,(Array.getElem?_eq_some_iff.1 hg).1⟩
end Go.Sq
namespace Go.Proofs.YtgphobammhoniaaGreat
open Go.RowKit Go.Sq
def ud (hb B:Nat)(A:Option Addr)(cap:Nat)(l:List Int)(N n:Nat)(w:World)(h:Hand w hb B A cap l N)(hN:N<=1000000)(hn:n<=64) :
  Calls ve 19 #[.pointer (some ⟨hb,0,none⟩),.int .i64 n] w λe w'=>∃(v:Value) (L:List Int),e=.returned v/\w'.ownsRow w.heap.size 3 1 v L.length (L.map (Value.int .i64))/\L.length=n/\L.Nodup/\(∀x∈L,0<=x/\x<n)/\Hand w' hb B A cap l (N+n)/\KH hb w w':=by
 have HH:=uq h
 have hlt:=h.lt
 clear h
 go_enter Sq.func19,Tryz.ntmps19
 go_wp2
 go_loopw [5,6] (λv i wr=>∃k:Nat,k<=n/\i=.int .i64 k/\wr.ownsRow w.heap.size 3 1 v ((List.range k).map λn:Nat=>(n:Int)).length (((List.range k).map λn:Nat=>(n:Int)).map (Value.int .i64))/\Gr w wr) (λ_ i _=>n-(intOf i).toNat)
 case atStart=>exact⟨0,by omega,rfl,World.ownsRow_nil _ _ _ _,.refl _⟩
 case round =>
  obtain⟨k,hk,rfl,hown,hgr⟩:=hrel
  have HG:=uq hgr
  have HO:=uq hown
  clear hgr
  by_cases hlk:k<n
  ·have HS:=uq (pM k)
   have hlen:((List.range k).map λn:Nat=>(n:Int)).length=k:=by simp
   generalize ((List.range k).map λn:Nat=>(n:Int))=L at hown HO HS hlen
   go_wp2_with (at_builtin;refine gE rfl _ _ rfl w.heap.size _ _ _ rfl (hown.alloc _) ⟨wr.heap.size,0,none⟩ 1 (.int .i64 k) rfl ?c1 rfl ?c2 ?c3 ?_)
   case c1=>rw[World.cell?_alloc_at _ _ _ _ (by simp)];rfl
   case c2=>omega
   case c3=>have:=HG.out.size;simp;omega
   intro v' w3 hown' hgrow hd
   have HG3:=uq ((HG.out.alloc _).grown hgrow hd λq hq=>(HO.out.lt q hq).1)
   have HO3:Hid (w3.ownsRow w.heap.size 3 1 v' ((List.range (k+1)).map λn:Nat=>(n:Int)).length (((List.range (k+1)).map λn:Nat=>(n:Int)).map (Value.int .i64))):=uq (by rw[HS.out];simpa [hlen] using hown')
   clear hown' hgrow hd hown
   go_wp2
   go_roundw
   case rel=>exact⟨k+1,by omega,by go_num,HO3.out,HG3.out⟩
   case measure=>simp[intOf];omega
  ·have hkn:k=n:=by omega
   subst hkn
   have HLL:Hid (((List.range k).map λn:Nat=>(n:Int)).length=k):=uq (by simp)
   have HND:=uq (nT k)
   have HIN:=uq (sK k)
   generalize ((List.range k).map λn:Nat=>(n:Int))=L0 at hown HO HLL HND HIN
   have HH1:=uq (HH.out.gr HG.out)
   have HK1:=uq (uu (T:=(·=hb)) HG.out)
   clear hown
   rename_i v0
   by_cases hk0:k=0
   ·subst hk0
    go_wp2
    go_loopw [7] (λi wr'=>i=.int .i64 (-1)/\wr'=wr) (λ_ _=>0)
    case atStart=>exact⟨rfl,rfl⟩
    case round =>
     obtain⟨rfl,rfl⟩:=hrel
     go_wp2
     go_ret
     exact⟨_,L0,rfl,HO.out,HLL.out,HND.out,HIN.out,HH1.out,HK1.out⟩
   ·obtain⟨g,gc,hv,hgb,hgl⟩:=own_slice HO.out (by rw[HLL.out];omega)
    rw[HLL.out] at hv
    subst hv
    have hgh:hb<g:=by omega
    obtain⟨w1,rfl⟩:∃w1,w1=wr:=⟨_,rfl⟩
    go_wp2
    go_loopw [7] (λi wr=>∃q:Nat,q<k/\i=.int .i64 q/\∃L:List Int,L.length=k/\L.Nodup/\(∀x∈L,0<=x/\x<k)/\wr.ownsRow w.heap.size 3 1 (.slice (some ⟨g,0,none⟩) L.length gc) L.length (L.map (Value.int .i64))/\Hand wr hb B A cap l (N+(k-1-q))/\KH hb w wr) (λi _=>(intOf i).toNat)
    case atStart=>exact⟨k-1,by omega,by go_num,L0,HLL.out,HND.out,HIN.out,by rw[HLL.out];have:=HO.out;rw[HLL.out] at this;exact this,HH1.out.more (by omega),HK1.out⟩
    case round =>
     obtain⟨q,hq,rfl,L,hll,hnd,hin,hown,hh,hkt⟩:=hrel
     have HO2:=uq hown
     have HND2:=uq hnd
     have HIN2:=uq hin
     have HK2:=uq hkt
     have HLL2:=uq hll
     have hz:=hkt.size
     by_cases hq0:0<q
     ·have HC:=uq (dE hb B A cap l (N+(k-1-q)) q wr hh (by omega) (by omega))
      clear hh hkt hown hnd hin
      have hd1:decide ((q:Int) > 0)=true:=by simp;omega
      go_wp2_with fail
      refine HC.out.mono ?_
      rintro e w2 ⟨⟨r,rfl,hr⟩,hh2,hkt2⟩
      have hrk:r<k:=by omega
      have hown2:w2.ownsRow w.heap.size 3 1 (.slice (some ⟨g,0,none⟩) L.length gc) L.length (L.map (Value.int .i64)):=cY HO2.out hlt hkt2
      have hrl:r<L.length:=by rw[HLL2.out];exact hrk
      have hql:q<L.length:=by rw[HLL2.out];exact hq
      obtain⟨c1,f1⟩:=own_at hown2 hql
      obtain⟨c2,f2⟩:=own_at hown2 hrl
      have hown3:=mw hown2 q (L[r]?.getD 0)
      obtain⟨c3,_⟩:=own_at hown3 (k:=r) (by rw[List.length_set];exact hrl)
      have hown4:=mw hown3 r (L[q]?.getD 0)
      have HPM:=uq (pN hql hrl)
      have HO4:=uq hown4
      have HH4:=uq ((hh2.set (p:=⟨g,q,none⟩) hgh (.int .i64 (L[r]?.getD 0))).set (p:=⟨g,r,none⟩) hgh (.int .i64 (L[q]?.getD 0)))
      have HK4:=uq (((HK2.out.trans hkt2).setK (p:=⟨g,q,none⟩) hgb (.int .i64 (L[r]?.getD 0))).setK (p:=⟨g,r,none⟩) hgb (.int .i64 (L[q]?.getD 0)))
      have hgl2:g<w2.heap.size:=by have:=hkt2.size;have:=(HO2.out.lt g rfl).2;omega
      clear hown2 hown3 hown4 hh2 hkt2
      generalize (L.set q (L[r]?.getD 0))[r]?.getD 0=d at c3
      generalize L[r]?.getD 0=y at c2 c3 HPM HO4 HH4 HK4
      generalize L[q]?.getD 0=x at c1 HPM HO4 HH4 HK4
      go_wp2
      go_roundw
      case rel=>exact⟨q-1,by omega,by go_num,(L.set q y).set r x,by rw[List.length_set,List.length_set];exact HLL2.out,HPM.out.nodup_iff.2 HND2.out,λz hz=>HIN2.out z (HPM.out.mem_iff.1 hz),HO4.out,HH4.out.more (by omega),HK4.out⟩
      case measure=>simp[intOf];omega
     ·have HH2:=uq hh
      clear hh hkt hown hnd hin
      have hd1:decide ((q:Int) > 0)=false:=by simp;omega
      have HO3:Hid (wr.ownsRow w.heap.size 3 1 (.slice (some ⟨g,0,none⟩) k gc) L.length (L.map (Value.int .i64))):=uq (by have:=HO2.out;rw[HLL2.out] at this ⊢;exact this)
      go_wp2
      go_ret
      exact⟨_,L,rfl,HO3.out,HLL2.out,HND2.out,HIN2.out,HH2.out.more (by omega),HK2.out⟩
end Go.Proofs.YtgphobammhoniaaGreat
namespace Go.Sq
open Go.RowKit
def RsAt_own {w:World}{base:Nat}{e:TypeId}{v:Value}{l:List (Int×Int)}(h:w.ownsRow base e 2 v l.length (ao l)):∃A c,v=.slice A l.length c/\RsAt w w.heap.size A l/\l.length<=c:=by
 rcases h.2 with⟨rfl,h0⟩|⟨g,cap,cur,rfl,_,hg,hc,_⟩
 ·have:l=[]:=List.eq_nil_of_length_eq_zero h0
  subst this
  exact⟨none,0,rfl,λh=>absurd rfl h,Nat.le_refl _⟩
 ·refine⟨_,cap,rfl,λ_=>⟨g,0,rfl,(Array.getElem?_eq_some_iff.1 hg).1,λi x hx=>?_⟩,hc⟩
  have hi:=(List.getElem?_eq_some_iff.1 hx).1
  have hx':l[i]?.getD (0,0)=x:=by rw[hx];rfl
  have e:∀j,(⟨g,0,none⟩:Addr).add j=⟨g,0+j,none⟩:=λj=>by unfold Addr.add;split<;>simp_all
  have h1:=h.cells (g:=g) rfl _ _ (lossCells_at hi).1
  have h2:=h.cells (g:=g) rfl _ _ (lossCells_at hi).2
  rw[e,hx'] at h1 h2
  exact⟨h1,by rw[Nat.add_assoc];exact h2⟩
structure RO (w0:World)(hb B:Nat)(A:Option Addr)(cap:Nat)(l:List Int)(M base:Nat)(v:Value)(rs:List (Int×Int))(L:List Int)(g gc:Nat)(W:World):Prop where
 hand:Hand W hb B A cap l M
 own:W.ownsRow base 43 2 v rs.length (ao rs)
 nights:W.ownsRow base 3 1 (.slice (some ⟨g,0,none⟩) L.length gc) L.length (L.map (Value.int .i64))
 kt:KT (·=hb) w0 W
 lt:hb<w0.heap.size
 bs:w0.heap.size<=base/\base<=W.heap.size
section
variable {w0 W W':World} {hb B:Nat} {A:Option Addr} {cap:Nat} {l:List Int} {M base:Nat} {v:Value} {rs:List (Int×Int)} {L:List Int} {g gc:Nat}
def RO.drew (h:RO w0 hb B A cap l M base v rs L g gc W):RO w0 hb B A cap l M base v rs L g gc W.drew :=
 ⟨h.hand.gr (Gr.refl W).drew,aE h.own λ_ _ _=>rfl,aE h.nights λ_ _ _=>rfl,⟨h.kt.os,h.kt.tape,h.kt.output,Nat.le_succ_of_le h.kt.drawn,h.kt.size,h.kt.block⟩,h.lt,h.bs⟩
def RO.alloc (h:RO w0 hb B A cap l M base v rs L g gc W)(o:Obj):RO w0 hb B A cap l M base v rs L g gc (W.alloc o) :=
 ⟨h.hand.gr ((Gr.refl W).alloc o),h.own.alloc o,h.nights.alloc o,h.kt.trans (uu ((Gr.refl W).alloc o)),h.lt,by have:=h.bs;simp;omega⟩
def RO.deal (h:RO w0 hb B A cap l M base v rs L g gc W){M':Nat}(hh:Hand W' hb B A cap l M')(k:KT (·=hb) W W'):RO w0 hb B A cap l M' base v rs L g gc W' :=
 ⟨hh,cY h.own (by have:=h.lt;have:=h.bs;omega) k,cY h.nights (by have:=h.lt;have:=h.bs;omega) k,h.kt.trans k,h.lt,by have:=h.bs;have:=k.size;omega⟩
def RO.more (h:RO w0 hb B A cap l M base v rs L g gc W){M':Nat}(hm:M<=M'):RO w0 hb B A cap l M' base v rs L g gc W:=⟨h.hand.more hm,h.own,h.nights,h.kt,h.lt,h.bs⟩
def RO.cell (h:RO w0 hb B A cap l M base v rs L g gc W){k:Nat}(hk:k<L.length):W.cell? ⟨g,k,none⟩=some (.int .i64 (L[k]?.getD 0))/\g<W.heap.size:=⟨(own_at h.nights hk).1,(h.nights.lt g rfl).2⟩
def RO.room (h:RO w0 hb B A cap l M base v rs L g gc W)(o:Obj):W.heap.size≠hb/\W.heap.size<(W.alloc o).heap.size:=by
 have:=h.hand.lt
 simp;omega
def RO.push (h:RO w0 hb B A cap l M base v rs L g gc W){w6:World}{o:Obj}{v':Value}{q:Int×Int}(hown:w6.ownsRow base 43 2 v' (rs++[q]).length (ao (rs++[q])))(hg:(W.alloc o).grownBy w6 v.ownBlock)(hd:(W.alloc o).drawn<=w6.drawn) :
  RO w0 hb B A cap l M base v' (rs++[q]) L g gc w6:=by
 have hlt:=h.lt
 have hbs:=h.bs
 refine⟨cv h.hand h.own (by omega) hg,hown,aE h.nights λb hb' hl=>?_,dh h.kt h.own (by omega) hg hd,hlt,hbs.1,by have:=dO hg;omega⟩
 rw[hg.block b (by simp;omega) (dx (by decide) h.nights h.own hb'),heap_alloc_old _ _ hl]
end
end Go.Sq
namespace Go.Proofs.YtgphobammhoniaaGreat
open Go.RowKit Go.Sq
def uP:(ve.info? 43).map (λi=>(i.zero,i.size,i.bytes))=some (some (.agg #[.int .i64 0,.int .i64 0]),2,16):=by
 rw[ux];kernel_rfl
def nU {w:World}{ops:Array Oper}{o:Oper}{a:Act}{K:Act->World->Prop}{Q:Exit->Act->World->Prop}{E:Prop}(hgd:o.guard=none)(s x:Operand)(ho:o.op=.call { callee:=.builtin .append,args:=#[s,x],argTypes:=#[31,31] })(hty:o.type=31)
  (base:Nat) (v:Value) (n:Nat) (xs:List Value) (hs:a.eval s=v) (hown:w.ownsRow base 43 2 v n xs) (y z:Value) (h1:y.oneCell'=true) (h2:z.oneCell'=true) (hx:a.eval x=.slice (some ⟨w.heap.size,0,none⟩) 1 1) (hn:n<=1048576) (hbase:base<=w.heap.size)
  (h:∀v' w',w'.ownsRow base 43 2 v' (n+1) (xs++[y,z])->(w.alloc (.cells #[y,z] 43)).grownBy w' v.ownBlock->(w.alloc (.cells #[y,z] 43)).drawn<=w'.drawn->K (a.put o.dst v') w') :
  if Region.wanted o (yielded ops a.tmps)=true then Oper.wp ve o a (w.alloc (.cells #[y,z] 43)) K Q else E:=by
 have hw:Region.wanted o (yielded ops a.tmps)=true:=by simp[Region.wanted,hgd]
 rw[if_pos hw]
 obtain⟨i0,hi,hz0,hz1,hz2⟩:=info_parts uP
 obtain⟨v',w',hr,h2,h3,h4⟩:=run_append_own (P:=ve) (w.alloc (.cells #[y,z] 43)) base 31 31 43 i0 _ 2 16 ((Sq.underlying 31).trans Tryz.underlying31) hi hz0 hz1 hz2 rfl (by decide) v n xs (hown.alloc _) ⟨w.heap.size,0,none⟩ 1 1 [y,z] rfl (λj u hj=>by
  match j,hj with
  |0,hj=>cases hj;rw[Addr.add_lit,World.cell?_alloc_at _ _ _ _ (by simp)];rfl
  |1,hj=>cases hj;rw[Addr.add_lit,World.cell?_alloc_at _ _ _ _ (by simp)];rfl) (λu hu=>by
   simp only[List.mem_cons,List.not_mem_nil,or_false] at hu
   rcases hu with rfl|rfl
   ·exact h1
   ·exact h2) (by unfold maxLen;omega) (by omega) (by simp;omega)
 have hd:=Go.Iso.drawn_mono ve (Builtin.append_ #[31,31] 31 #[v,.slice (some ⟨w.heap.size,0,none⟩) 1 1]) (w.alloc (.cells #[y,z] 43)) #[]
 rw[Sem.runT_fst,hr] at hd
 unfold Oper.wp execOp
 simp only[ho,resolve,invoke,builtin,Sem.run_bind,Sem.run_pure,Result.andThen_ok,List.map_toArray,List.map_cons,List.map_nil,hs,hx,hr,hty]
 exact h v' w' h2 h3 hd
def pO (hb B:Nat)(A nA hA:Option Addr)(cap nc hc:Nat)(l:List Int)(N n m:Nat)(w:World)(h:Hand w hb B A cap l N)(hN:N<=100000)(hn:n<=64) :
  Calls ve 7 #[.pointer (some ⟨hb,0,none⟩),.agg #[.slice nA n nc,.slice hA m hc]] w λe w'=>∃(v:Value) (rs:List (Int×Int)),e=.returned v/\w'.ownsRow (w.heap.size+1) 43 2 v rs.length (ao rs)/\rs.length<=n/\(rs.map (·.1)).Nodup/\(∀q∈rs,(0<=q.1/\q.1<n)/\0<=q.2/\q.2<=60)/\Hand w' hb B A cap l (N+5*n+1)/\KH hb w w':=by
 obtain⟨W0,hW0⟩:∃W0:World,W0=w.alloc (.cells #[.slice nA n nc,.slice hA m hc] 27):=⟨_,rfl⟩
 have hg0:Gr w W0:=hW0▸(Gr.refl w).alloc _
 have HZ0:Hid (W0.heap.size=w.heap.size+1):=uq (by rw[hW0];simp)
 have hlt:=h.lt
 have hcell:W0.cell? ⟨w.heap.size,0,none⟩=some (.slice nA n nc):=by
  rw[hW0,World.cell?_alloc_at _ _ _ _ rfl];rfl
 have HROW:=uq (ud hb B A cap l N n W0 (h.gr hg0) (by omega) hn)
 have HK0:Hid (KT (·=hb) w W0):=uq (uu hg0)
 have HW:=uq hW0
 have hwl:w.heap.size<W0.heap.size:=by have:=HZ0.out;omega
 clear hW0 hg0 h
 go_enter Sq.func7,Tryz.ntmps7
 go_wp2_with fail
 rw[<-HW.out]
 go_wp2_with fail
 refine HROW.out.mono ?_
 rintro e w1 ⟨v1,L,rfl,hown,hll,hnd,hin,hh,hkt⟩
 rw[HZ0.out] at hown
 have HK1:=uq (HK0.out.trans hkt)
 have HZ1:Hid (w.heap.size+1<=w1.heap.size):=uq (by have:=hkt.size;omega)
 have HLL:=uq hll
 have HND:=uq hnd
 have HIN:=uq hin
 have HO:=uq hown
 have HUP:=uq (dE hb B A cap l (N+n) n w1 hh (by omega) (by omega))
 obtain⟨LA,lc,hv1,_⟩:=uv hown
 rw[hll] at hv1
 subst hv1
 clear hcell hown hh hkt HROW hnd hin
 go_wp2_with fail
 refine HUP.out.mono ?_
 rintro e w2 ⟨⟨z,rfl,hz⟩,hh,hkt⟩
 have hzn:z<=n:=by omega
 have HO2:=uq (cY HO.out (by omega) hkt)
 have HK2:=uq (HK1.out.trans hkt)
 have HH2:=uq hh
 have hw2:w.heap.size+1<=w2.heap.size:=by have:=hkt.size;have:=HZ1.out;omega
 clear hh hkt HUP
 by_cases hz0:z=0
 ·subst hz0
  go_wp2
  go_loopw [5,7] (λv i wr=>v=.slice none 0 0/\i=.int .i64 0/\wr=w2) (λ_ _ _=>0)
  case atStart=>exact⟨rfl,rfl,rfl⟩
  case round =>
   obtain⟨rfl,rfl,rfl⟩:=hrel
   go_wp2
   go_ret
   exact⟨_,[],rfl,World.ownsRow_nil _ _ _ _,by simp,by simp,λq hq=>by simp at hq,HH2.out.more (by omega),HK2.out⟩
 ·obtain⟨g,gc,hv,hgb,hgl⟩:=own_slice HO2.out (by rw[HLL.out];omega)
  rw[HLL.out] at hv
  injection hv with hv1 _ hv2
  subst hv1 hv2
  have HRO0:Hid (RO w hb B A cap l (N+n+1) (w.heap.size+1) (.slice none 0 0) [] L g lc w2):=uq ⟨HH2.out,World.ownsRow_nil _ _ _ _,by have:=HO2.out;rw[HLL.out] at this ⊢;exact this,HK2.out,hlt,by omega⟩
  clear hgb hgl
  go_wp2
  go_loopw [5,7] (λv i wr=>∃q:Nat,q<=z/\i=.int .i64 q/\∃rs:List (Int×Int),RO w hb B A cap l (N+n+1+4*(z-q)) (w.heap.size+1) v rs L g lc wr/\rs.length=z-q/\(rs.map (·.1)).Nodup/\(∀x∈rs.map (·.1),∃j,q<=j/\L[j]?=some x)/\∀x∈rs,(0<=x.1/\x.1<n)/\0<=x.2/\x.2<=60) (λ_ i _=>(intOf i).toNat)
  case atStart=>exact⟨z,by omega,rfl,[],by simpa using HRO0.out,by simp,by simp,λx hx=>by simp at hx,λx hx=>by simp at hx⟩
  case round =>
   obtain⟨q,hq,rfl,rs,hro,hrl,hrn,hrj,hri⟩:=hrel
   have HRN:=uq hrn
   have HRJ:=uq hrj
   have HRI:=uq hri
   have HRO:=uq hro
   clear hrn hrj hri hro
   by_cases hq0:0<q
   ·obtain⟨p,rfl⟩:∃p,q=p+1:=⟨q-1,by omega⟩
    have hpl:p<L.length:=by rw[HLL.out];omega
    have HPX:Hid (L[p]?=some (L[p]?.getD 0)):=uq (by rw[List.getElem?_eq_getElem hpl];rfl)
    have hxin:=HIN.out _ (List.mem_of_getElem? HPX.out)
    obtain⟨c0,l0⟩:=HRO.out.drew.cell hpl
    obtain⟨c9,l9⟩:=HRO.out.cell hpl
    replace HRO:=uq HRO.out.drew
    have HCELL:=uq (λ(M:Nat) (W:World) (h:RO w hb B A cap l M (w.heap.size+1) u5 rs L g lc W)=>h.cell hpl)
    have e2:((p+1:Nat):Int)-1=(p:Int):=by omega
    have hpn:p<n:=by omega
    have hwp:IntKind.i64.wrap (p:Int)=(p:Int):=by simp[IntKind.wrap,IntKind.bits,IntKind.signed];omega
    generalize L[p]?.getD 0=x at HPX hxin c0 c9 HCELL
    go_wp2
    clear c9 l9
    go_region_law (first
     |(refine nU (by rfl) _ _ (by rfl) (by rfl) (w.heap.size+1) _ _ _ (by rfl) HRO.out.own (.int .i64 x) (.int .i64 zz) rfl rfl (by rfl) (by omega) HRO.out.bs.2 ?_;intro v' w6 hown6 hgrow6 hd6)
     |(refine jI (by rfl) ?_;go_simp;first
      |(go_at_call 14;refine(dE hb B A cap l _ _ _ HRO.out.hand (by omega) (by omega)).mono ?_;rintro e w' ⟨⟨r,rfl,hr⟩,hh,hkt⟩;replace HRO:=uq (HRO.out.deal hh hkt);clear c0 l0 hh hkt;obtain⟨c0,l0⟩:=HCELL.out _ _ HRO.out;dsimp only)
      |(go_at_call 16;refine(iq hb B A _ cap 1 l [_] _ _ _ (HRO.out.alloc _).hand (by omega) (by simp) (tJ (HRO.out.room _))).mono ?_;rintro e w' ⟨⟨zz,rfl,hzz⟩,hh,hkt⟩;have hz60:0<=zz/\zz<=60:=(by simp only[List.mem_cons,List.not_mem_nil,or_false] at hzz;omega);replace HRO:=uq ((HRO.out.alloc _).deal hh hkt);clear c0 l0 hh hkt;have HZZ:=uq hz60;obtain⟨c0,l0⟩:=HCELL.out _ _ HRO.out;dsimp only)))
    all_goals
     have hown7:w6.ownsRow (w.heap.size+1) 43 2 v' (rs++[(x,zz)]).length (ao (rs++[(x,zz)])):=by rw[fF];simpa [ao] using hown6
     have HRO9:=uq ((HRO.out.push hown7 hgrow6 hd6).more (M':=N+n+1+4*(z-p)) (by omega))
     have hl9:(rs++[(x,zz)]).length=z-p:=by simp[hrl];omega
     have HRN9:Hid (((rs++[(x,zz)]).map (·.1)).Nodup):=uq (by
      rw[List.map_append,List.map_cons,List.map_nil,List.nodup_append]
      refine⟨HRN.out,by simp,λa ha b hb'=>?_⟩
      simp only[List.mem_cons,List.not_mem_nil,or_false] at hb'
      subst hb'
      rintro rfl
      obtain⟨j,hj,hj2⟩:=HRJ.out _ ha
      have:=(List.getElem?_inj hpl HND.out).1 (HPX.out.trans hj2.symm);omega)
     have HRJ9:Hid (∀y∈(rs++[(x,zz)]).map (·.1),∃j,p<=j/\L[j]?=some y):=uq λy hy=>by
      rw[List.map_append] at hy
      rcases List.mem_append.1 hy with hy|hy
      ·obtain⟨j,hj,hj2⟩:=HRJ.out _ hy
       exact⟨j,by omega,hj2⟩
      ·simp only[List.map_cons,List.map_nil,List.mem_cons,List.not_mem_nil,or_false] at hy
       subst hy
       exact⟨p,Nat.le_refl _,HPX.out⟩
     have HRI9:Hid (∀y∈rs++[(x,zz)],(0<=y.1/\y.1<n)/\0<=y.2/\y.2<=60):=uq λy hy=>by
      rcases List.mem_append.1 hy with hy|hy
      ·exact HRI.out y hy
      ·simp only[List.mem_cons,List.not_mem_nil,or_false] at hy
       subst hy
       exact⟨hxin,HZZ.out⟩
     clear hown7 hgrow6 hd6 hown6 HRO
     go_wp2
     go_roundw
     case rel=>exact⟨p,by omega,by go_num,_,HRO9.out,hl9,HRN9.out,HRJ9.out,HRI9.out⟩
     case measure=>simp[intOf]
   ·have hq1:q=0:=by omega
    subst hq1
    go_wp2
    go_ret
    exact⟨_,rs,rfl,HRO.out.own,by omega,HRN.out,HRI.out,HRO.out.hand.more (by omega),HRO.out.kt⟩
end Go.Proofs.YtgphobammhoniaaGreat
