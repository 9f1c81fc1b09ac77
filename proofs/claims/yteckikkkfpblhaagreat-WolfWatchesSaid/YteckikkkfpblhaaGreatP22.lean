/- Parts of the proof. -/
import Derived.Test.YteckikkkfpblhaaGreatP15
import Derived.Test.YteckikkkfpblhaaGreatP14
import Derived.Test.YteckikkkfpblhaaGreatP00
import Derived.Test.YteckikkkfpblhaaGreatP19
import Derived.Test.YteckikkkfpblhaaGreatP21
import Derived.Test.YteckikkkfpblhaaGreatP16
import Derived.ChangeSame
set_option linter.all false
set_option maxHeartbeats 3200000
set_option maxRecDepth 1000000
namespace Go.Sq
open Go.RowKit
structure Hand (w:World)(hb B:Nat)(A:Option Addr)(cap:Nat)(l:List Int)(N:Nat):Prop where
 obj:∃n:Nat,∃s:Int,w.heap[hb]?=some (.cells #[.slice A l.length cap,.int .i64 n,.int .u64 s] 62 (0,0))/\n<=N
 Oq:RI w B A l
 apart:B<=hb
def Hand.lt {w:World}{hb B:Nat}{A:Option Addr}{cap:Nat}{l:List Int}{N:Nat}(h:Hand w hb B A cap l N):hb<w.heap.size:=by
 obtain⟨n,s,h1,_⟩:=h.obj;exact(xg.1 h1).1
def Hand.more {w:World}{hb B:Nat}{A:Option Addr}{cap:Nat}{l:List Int}{N M:Nat}(h:Hand w hb B A cap l N)(hm:N<=M):Hand w hb B A cap l M:=by
 obtain⟨n,s,h1,h2⟩:=h.obj;exact⟨⟨n,s,h1,by omega⟩,h.Oq,h.apart⟩
def Hand.gr {w w':World}{hb B:Nat}{A:Option Addr}{cap:Nat}{l:List Int}{N:Nat}(h:Hand w hb B A cap l N)(hg:Gr w w'):Hand w' hb B A cap l N:=by
 have hl:=h.lt;obtain⟨n,s,h1,h2⟩:=h.obj;exact⟨⟨n,s,(hg.below.block hb hl).trans h1,h2⟩,h.Oq.gr (by have:=h.apart;omega) hg,h.apart⟩
abbrev KH (hb:Nat)(w w':World):Prop:=KT (·=hb) w w'
end Go.Sq
namespace Go.Proofs.Ao
open Go.RowKit Go.Sq
def jP (x y:Int):0<=bits BinOp.xor IntKind.u64 x y:=by
 unfold bits IntKind.wrap;have h:IntKind.u64.signed=false:=rfl;simp only[h,yC,xJ,if_false];exact Int.emod_nonneg _ (by decide)
def vQ (hb B:Nat)(A:Option Addr)(cap:Nat)(l:List Int)(N:Nat)(w:World)(h:Hand w hb B A cap l N)(hN:N<=1048576) :
  Calls An 62 #[.pointer (some ⟨hb,0,none⟩)] w λe w'=>(∃v:Int,e=.returned (.int .u64 v)/\0<=v)/\Hand w' hb B A cap l (N+1)/\KH hb w w':=by
 obtain⟨n,s,CU,hn⟩:=h.obj;have HH:=xf h;have c0:w.cell? ⟨hb,0,none⟩=some (.slice A l.length cap):=by unfold World.cell?;rw[CU];rfl
 have c1:w.cell? ⟨hb,1,none⟩=some (.int .i64 n):=by unfold World.cell?;rw[CU];rfl
 have c2:w.cell? ⟨hb,2,none⟩=some (.int .u64 s):=by unfold World.cell?;rw[CU];rfl
 have f1:w.frozen? ⟨hb,1,none⟩=false:=by unfold World.frozen?;rw[CU];rfl
 have f2:w.frozen? ⟨hb,2,none⟩=false:=by unfold World.frozen?;rw[CU];rfl
 have HO:=xf CU;clear h CU;have key : ∀ (v x y : Int) (W : World), W.heap = ((w.setCell ⟨hb, 1, none⟩ (.int .i64 (n + 1 : Nat))).setCell ⟨hb, 2, none⟩ (.int .u64 y)).heap -> W.os = w.os -> W.tape = w.tape -> W.output = w.output -> w.drawn <= W.drawn -> 0 <= v ->
   (∃v':Int,Ending.returned (.int .u64 v)=.returned (.int .u64 v')/\0<=v')/\Hand W hb B A cap l (N+1)/\KH hb w W:=λv x y W hW e1 e2 e3 e4 hv=>by
  have hB:=HH.out.apart;have hlt:=HH.out.lt;have Gw:∀b,b≠hb->W.heap[b]?=w.heap[b]?:=λb hne=>by
   rw[hW,xD _ _ _ _ hne,xD _ _ _ _ hne]
  refine⟨⟨v,rfl,hv⟩,⟨⟨n+1,y,?_,by omega⟩,HH.out.Oq.keep λb o hb'=>xH (Gw b (by omega)),hB⟩,⟨e1,e2,e3,e4,?_,λb _ hne=>Gw b hne⟩⟩
  .rw[hW];exact ax (ax HO.out)
  .rw[hW];simp[World.setCell]
 have HKEY:=xf key;clear key;go_enter Sq.func62,Tryz.ntmps62;by_cases hlt:n<l.length
 .obtain⟨b,o,rfl,hb',Hm⟩:=HH.out.Oq.at_ hlt;generalize l[n]?.getD 0=x at Hm;go_wp2;go_region
  all_goals
   go_wp2;go_region
   all_goals
    go_wp2;go_ret;refine HKEY.out _ 0 _ _ rfl rfl rfl rfl (by simp[World.drew,World.setCell]<;>omega) ?_;exact Int.ediv_nonneg (jP _ _) (by omega)
 .go_wp2;go_region
  all_goals
   go_wp2;go_ret;refine HKEY.out _ 0 _ _ rfl rfl rfl rfl (by simp[World.drew,World.setCell]<;>omega) ?_;exact Int.ediv_nonneg (jP _ _) (by omega)
def jQ (hb B:Nat)(A:Option Addr)(cap:Nat)(l:List Int)(N:Nat)(m:Int)(w:World)(h:Hand w hb B A cap l N)(hN:N<=1048576)(hm:m<=1048576) :
  Calls An 28 #[.pointer (some ⟨hb,0,none⟩),.int .i64 m] w λe w'=>(∃k:Nat,e=.returned (.int .i64 k)/\((k:Int)<=m\/k=0))/\Hand w' hb B A cap l (N+1)/\KH hb w w':=by
 have HP:=xf (vQ hb B A cap l N w h hN);have HH:=xf h;clear h;go_enter Sq.func28,Tryz.ntmps28;by_cases hm0:m<=0
 .go_wp2;go_ret;exact⟨⟨0,rfl,.inr rfl⟩,HH.out.more (by omega),KT.refl _ _⟩
 .go_wp2_with fail;refine HP.out.mono ?_;rintro e w' ⟨⟨v,rfl,hv⟩,hh,hk⟩;have LH:=xf hh;have HK:=xf hk;clear hh hk HP;have h1:IntKind.u64.wrap (m+1)=m+1:=by simp[IntKind.wrap,IntKind.bits,IntKind.signed];omega
  have h2:v % (m+1)<m+1:=Int.emod_lt_of_pos _ (by omega);have h3:0<=v % (m+1):=Int.emod_nonneg _ (by omega);go_wp2;go_ret;obtain⟨k,hk⟩:∃k:Nat,v % (m+1)=k:=⟨(v % (m+1)).toNat,by omega⟩;exact⟨⟨k,by show Ending.returned (Value.int .i64 (v % (m+1)))=_;rw[hk],.inl (by omega)⟩,LH.out,HK.out⟩
def ej (hb B:Nat)(A:Option Addr)(cap:Nat)(l:List Int)(N:Nat)(lo hi:Int)(w:World)(h:Hand w hb B A cap l N)(hN:N<=1048576)(h1:0<=lo/\lo<=1048576)(h2:lo<=hi/\hi<=1048576) :
  Calls An 26 #[.pointer (some ⟨hb,0,none⟩),.int .i64 lo,.int .i64 hi] w λe w'=>(∃k:Nat,e=.returned (.int .i64 k)/\lo<=k/\(k:Int)<=hi)/\Hand w' hb B A cap l (N+1)/\KH hb w w':=by
 have HP:=xf (jQ hb B A cap l N (hi-lo) w h hN (by omega));clear h;go_enter Sq.func26,Tryz.ntmps26;go_wp2_with fail;refine HP.out.mono ?_;rintro e w' ⟨⟨k,rfl,hk⟩,hh,CB⟩;have LH:=xf hh;have HK:=xf CB;clear hh CB HP;go_wp2;go_ret;obtain⟨q,hq⟩:∃q:Nat,lo+k=q:=⟨(lo+k).toNat,by omega⟩;exact⟨⟨q,by show Ending.returned (Value.int .i64 (lo+k))=_;rw[hq],by omega,by omega⟩,LH.out,HK.out⟩
def mq (hb B:Nat)(A A2:Option Addr)(cap c2:Nat)(l m:List Int)(N:Nat)(x:Int)(w:World)(h:Hand w hb B A cap l N)(hN:N<=1048576)(hm:m.length<=1048576)(Ct:FC w (λb=>b≠hb/\b<w.heap.size) A2 m) :
  Calls An 27 #[.pointer (some ⟨hb,0,none⟩),.int .i64 x,.slice A2 m.length c2] w λe w'=>(∃k:Int,e=.returned (.int .i64 k)/\k∈x::m)/\Hand w' hb B A cap l (N+1)/\KH hb w w':=by
 have HP:=xf (jQ hb B A cap l N m.length w h hN (by omega));have HR:=xf Ct;clear h Ct;go_enter Sq.func27,Tryz.ntmps27;go_wp2_with fail;refine HP.out.mono ?_;rintro e w' ⟨⟨k,rfl,hk⟩,hh,CB⟩;have LH:=xf hh;have HK:=xf CB;by_cases Nf:k=0
 .subst Nf;clear hh CB HP;go_wp2;go_ret;exact⟨⟨x,rfl,yE⟩,LH.out,HK.out⟩
 .have hkm:k-1<m.length:=by omega
  obtain⟨b,o,rfl,hb2,Hm⟩:=HR.out (λe=>by rw[e] at hkm;simp at hkm);have hc:=Hm (k-1) _ (xi hkm);have hc2:w'.cell? ⟨b,o+(k-1),none⟩=some (.int .i64 m[k-1]):=(xH (CB.block b hb2.2 hb2.1)).trans hc;have TA:Hid (m[k-1]∈x::m):=xf (yS _ (yb hkm));generalize m[k-1]=y at hc2 TA;have e1:((k:Int)-1)=((k-1:Nat):Int):=by omega
  obtain⟨q,hq⟩:∃q,q=k-1:=⟨_,rfl⟩;rw[<-hq] at hc2 e1 hkm;obtain rfl:k=q+1:=by omega
  clear hh CB HP Hm hc Nf hq e1;have e2:((q+1:Nat):Int)-1=(q:Int):=by omega
  go_wp2;go_ret;exact⟨⟨y,rfl,TA.out⟩,LH.out,HK.out⟩
def q9 (hb B:Nat)(A:Option Addr)(cap:Nat)(l:List Int)(N:Nat)(a b:Int)(w:World)(h:Hand w hb B A cap l N)(hN:N<=1048576)(hb1:0<=b/\b<=1048576) :
  Calls An 29 #[.pointer (some ⟨hb,0,none⟩),.int .i64 a,.int .i64 b] w λe w'=>(∃v:Bool,e=.returned (.bool v))/\Hand w' hb B A cap l (N+1)/\KH hb w w':=by
 have HP:=xf (jQ hb B A cap l N (b-1) w h hN (by omega));clear h;go_enter Sq.func29,Tryz.ntmps29;go_wp2_with fail;refine HP.out.mono ?_;rintro e w' ⟨⟨k,rfl,hk⟩,hh,CB⟩;have LH:=xf hh;have HK:=xf CB;clear hh CB HP;go_wp2;go_ret;exact⟨⟨_,rfl⟩,LH.out,HK.out⟩
def ra (A:Option Addr)(cap:Nat)(l:List Int)(w:World)(h:RI w w.heap.size A l) :
  Calls An 7 #[.slice A l.length cap] w λe w'=>e=.returned (.pointer (some ⟨w.heap.size,0,none⟩))/\Hand w' w.heap.size w.heap.size A cap l 0/\Gr w w':=by
 have HR:=xf h;clear h;go_enter Sq.func7,Tryz.ntmps7;go_wp2;go_ret;exact⟨rfl,⟨⟨0,88172645463325252,World.alloc_heap_new _ _,xh _⟩,HR.out.gr (xh _) ((Gr.refl w).alloc _),xh _⟩,(Gr.refl w).alloc _⟩
end Go.Proofs.Ao
namespace Go.Sq
open Go.RowKit
def AJ (p:Nat->Bool)(k:Nat):List Int:=((List.range k).filter p).map λn:Nat=>(n:Int)
def ii {p q:Nat->Bool}{k:Nat}(h:∀i,i<k->p i=q i):AJ p k=AJ q k:=by
 unfold AJ;congr 1;exact List.filter_congr λi hi=>h i (x9.1 hi)
def cC (p:Nat->Bool)(k:Nat):AJ p (k+1)=AJ p k++if p k=true then[(k:Int)] else[]:=by
 unfold AJ;rw[yZ,zw,zr];cases h:p k<;>simp[h]
def Eu {p:Nat->Bool}{k:Nat}{x:Int}:x∈AJ p k↔∃n:Nat,x=n/\n<k/\p n=true:=by
 unfold AJ;simp only[xW,yY,x9];constructor
 .rintro⟨n,⟨h1,h2⟩,rfl⟩;exact⟨n,rfl,h1,h2⟩
 .rintro⟨n,rfl,h1,h2⟩;exact⟨n,⟨h1,h2⟩,rfl⟩
def cT (p:Nat->Bool)(k:Nat):(AJ p k).length<=k:=by
 unfold AJ;rw[yK];exact xx (zj _ _) (by simp)
def gd (p:Nat->Bool)(k:Nat):(AJ p k).Pairwise (·<·):=by
 unfold AJ;rw[List.pairwise_map];exact(List.Pairwise.filter _ List.pairwise_lt_range).imp λh=>by omega
def re (p:Nat->Bool)(k:Nat):B1 (AJ p k) k=0:=by
 rw[kI];intro i hi;have h1:=Eu.1 (Dd (AJ p k) i hi);obtain⟨n,e,hn,_⟩:=h1;unfold CL;rw[if_pos (by rw[e];omega),if_neg];rintro⟨h0,hle⟩;have:=List.pairwise_iff_getElem.1 (gd p k) (i-1) i (by omega) hi (by omega);rw[xi hi,xi (by omega)] at hle;simp only[Option.getD_some] at hle;omega
def Cu {w2 w3:World}{base size n:Nat}{e:TypeId}{v:Value}{xs:List Value}{o:Obj}(hown:w2.ownsRow base e size v n xs)(hg:(w2.alloc o).grownBy w3 v.ownBlock)(b:Nat)(hb:b<base)(hl:b<w2.heap.size):w3.heap[b]?=w2.heap[b]?:=by
 rw[hg.block b (by simp;omega) (dQ hown hb),heap_alloc_old _ _ hl]
def ge {w2 w3:World}{v:Value}{o:Obj}(hg:(w2.alloc o).grownBy w3 v.ownBlock):w2.heap.size+1<=w3.heap.size:=by have:=hg.size;simpa using this
def eR {w0 w2 w3:World}{hb base size n:Nat}{e:TypeId}{v:Value}{xs:List Value}{o:Obj}(hK:KT (·=hb) w0 w2)(hown:w2.ownsRow base e size v n xs)(hbase:w0.heap.size<=base)(hg:(w2.alloc o).grownBy w3 v.ownBlock)(hd:(w2.alloc o).drawn<=w3.drawn):KT (·=hb) w0 w3 :=
 ⟨hg.os.trans hK.os,hg.tape.trans hK.tape,hg.output.trans hK.output,xx hK.drawn hd,by have:=ge hg;have:=hK.size;omega,λb hb' hne=>(Cu hown hg b (by omega) (by have:=hK.size;omega)).trans (hK.block b hb' hne)⟩
def dz {w2 w3:World}{hb B cap N base size n:Nat}{A:Option Addr}{l:List Int}{e:TypeId}{v:Value}{xs:List Value}{o:Obj}(h:Hand w2 hb B A cap l N)(hown:w2.ownsRow base e size v n xs)(hbase:hb<base)(hg:(w2.alloc o).grownBy w3 v.ownBlock):Hand w3 hb B A cap l N:=by
 have hl:=h.lt;obtain⟨m,s,ho,hm⟩:=h.obj;exact⟨⟨m,s,(Cu hown hg hb hbase hl).trans ho,hm⟩,h.Oq.keep λb o hb'=>xH (Cu hown hg b (by have:=h.apart;omega) (by have:=h.apart;omega)),h.apart⟩
def mr {w w':World}{base size n hb:Nat}{v:Value}{e:TypeId}{xs:List Value}(h:w.ownsRow base e size v n xs)(hb':hb<base)(k:KT (·=hb) w w'):w'.ownsRow base e size v n xs :=
 ar h λg hg hl=>k.block g hl λe=>by have:=(h.lt g hg).1;omega
end Go.Sq
namespace Go.Proofs.Ao
open Go.RowKit Go.Sq
def vR (hb B:Nat)(A:Option Addr)(cap:Nat)(l:List Int)(N n:Nat)(w:World)(h:Hand w hb B A cap l N)(hN:N<=1000000)(hn:n<=64) :
  Calls An 30 #[.pointer (some ⟨hb,0,none⟩),.int .i64 n] w λe w'=>∃v p,e=.returned v/\w'.ownsRow w.heap.size 3 1 v (AJ p n).length ((AJ p n).map (Value.int .i64))/\Hand w' hb B A cap l (N+n)/\KH hb w w':=by
 have HH:=xf h;have hlt:=h.lt;clear h;go_enter Sq.func30,Tryz.ntmps30;go_wp2;go_loopw [5,6] (λv i wr=>∃k:Nat,k<=n/\i=.int .i64 k/\∃p,wr.ownsRow w.heap.size 3 1 v (AJ p k).length ((AJ p k).map (Value.int .i64))/\Hand wr hb B A cap l (N+k)/\KH hb w wr) (λ_ i _=>n-(intOf i).toNat)
 case atStart=>exact⟨0,by omega,rfl,λ_=>false,xZ _ _ _ _,HH.out,KT.refl _ _⟩
 case round =>
  obtain⟨k,hk,rfl,p,hown,hh,CB⟩:=hrel;have hz:=CB.size;have HK:=xf CB;have HO:=xf hown;clear hown CB;by_cases hlk:k<n
  .have HC:=xf (q9 hb B A cap l (N+k) 1 2 wr hh (by omega) (by omega));clear hh;go_wp2_with fail;refine HC.out.mono ?_;rintro e w2 ⟨⟨v,rfl⟩,hh,CB⟩;have SH:=xf (HK.out.trans CB);have hown2:=mr HO.out hlt CB;have LH:=xf hh;have hz2:=CB.size;have Tb:=xf hown2;have HP:=xf (cC (λj=>if j=k then v else p j) k);have Yf:=xf (ii (p:=λj=>if j=k then v else p j) (q:=p) (k:=k) λi hi=>if_neg (by omega))
   have Hm:=cT p k;clear CB hh HC;cases v with
   |true =>
    go_wp2_with (at_builtin;refine fX rfl _ _ rfl w.heap.size _ _ _ rfl (hown2.alloc _) ⟨w2.heap.size,0,none⟩ 1 (.int .i64 k) rfl ?c1 rfl ?c2 ?c3 ?_)
    case c1=>rw[xj _ _ _ _ (by simp)];rfl
    case c2=>omega
    case c3=>simp;omega
    intro v' w3 hown' hgrow hd;have SF:=xf (eR SH.out hown2 (xh _) hgrow hd)
    have Ky:Hid (w3.ownsRow w.heap.size 3 1 v' (AJ (λj=>if j=k then true else p j) (k+1)).length ((AJ (λj=>if j=k then true else p j) (k+1)).map (Value.int .i64))):=xf (by
     rw[HP.out,Yf.out,if_pos (by simp)];simpa using hown')
    have Yz:=xf ((dz LH.out hown2 hlt hgrow).more (M:=N+(k+1)) (by omega));clear hown' hgrow hd hown2;go_wp2;go_roundw
    case rel=>exact⟨k+1,by omega,by go_num,_,Ky.out,Yz.out,SF.out⟩
    case measure=>simp[intOf];omega
   |false =>
    have Ky:Hid (w2.ownsRow w.heap.size 3 1 _ (AJ (λj=>if j=k then false else p j) (k+1)).length ((AJ (λj=>if j=k then false else p j) (k+1)).map (Value.int .i64))):=xf (by
     rw[HP.out,Yf.out,if_neg (by simp)];simpa using Tb.out)
    clear hown2;go_wp2;go_roundw
    case rel=>exact⟨k+1,by omega,by go_num,_,Ky.out,LH.out,SH.out⟩
    case measure=>simp[intOf];omega
  .have E4:k=n:=by omega
   subst E4;have LH:=xf hh;clear hh;go_wp2;go_ret;exact⟨_,p,rfl,HO.out,LH.out,HK.out⟩
end Go.Proofs.Ao
namespace Go.Sq
open Go.RowKit
def Dt (c:AD):Bool:=(c.Ap.take 20).all (λh=>decide (h.off.length<=20))&&decide (c.Aq.length<=20)&&decide (c.Ap.length<=20)
def GK (ls:List (List Int)):Bool:=(ls.take 20).all (λl=>decide (l.length<=20))&&decide (ls.length<=20)
def Ot {c:AD}(h:Dt c=true):c.Aq.length<=20/\c.Ap.length<=20/\∀x∈c.Ap,x.off.length<=20:=by
 simp only[Dt,xC,decide_eq_true_eq,xY] at h;obtain⟨⟨h1,h2⟩,h3⟩:=h;rw[xN h3] at h1;exact⟨h2,h3,h1⟩
def TE {ls:List (List Int)}(h:GK ls=true):ls.length<=20/\∀x∈ls,x.length<=20:=by
 simp only[GK,xC,decide_eq_true_eq,xY] at h;obtain⟨h1,h3⟩:=h;rw[xN h3] at h1;exact⟨h3,h1⟩
end Go.Sq
namespace Go.Proofs.Ao
open Go.RowKit Go.Sq
def wL (A:Option Addr)(c:Nat)(ls:List (List Int))(w:World)(B:Nat)(hg:BD w B A ls)(hl:ls.length<=9223372036854775807)(hl2:∀x∈ls,x.length<=9223372036854775807) :
  Calls An 5 #[.slice A ls.length c] w λe w'=>e=.returned (.bool (GK ls))/\w=w':=by
 have HG:=xf hg;have HL:=xf hl2;clear hg hl2;go_enter Sq.func5,Tryz.ntmps5;go_wp2;go_loop [3] (λi=>∃k:Nat,k<=ls.length/\k<=20/\i=.int .i64 k/\∀x∈ls.take k,x.length<=20) (λi=>20-(intOf i).toNat)
 case atStart=>exact⟨0,by omega,by omega,rfl,by simp⟩
 case round =>
  obtain⟨k,hk,hk2,rfl,hz⟩:=hrel;have HZ:=xf hz;clear hz;by_cases hlt:k<ls.length/\k<20
  .obtain⟨hlt,JX⟩:=hlt;obtain⟨b,o,rfl,hb,Hm⟩:=HG.out (λe=>by rw[e] at hlt;simp at hlt);obtain⟨A',c',hcell,Ct⟩:=Hm k _ (xi hlt);have Kz:=HL.out _ (yb hlt);have HX:Hid (ls.take (k+1)=ls.take k++[ls[k]]):=xf (by rw[zf,xi hlt];rfl);have HM:Hid (ls[k]∈ls.take 20):=xf (List.mem_iff_getElem?.2 ⟨k,by rw[yX,if_pos JX,xi hlt]⟩);have JY:decide ((k:Int)<ls.length)=true:=by simp;omega
   have LL:decide ((k:Int)<20)=true:=by simp;omega
   clear Hm Ct;generalize ls[k]=x at hcell Kz HX HM;by_cases hx:x.length<=20
   .have HN : Hid (∀ y ∈ ls.take (k + 1), y.length <= 20) := Lib.hid fun y hy => by
     rw[HX.out] at hy;rcases ym.1 hy with hy|hy
     .exact HZ.out y hy
     .simp only[xu,xm,or_false] at hy;subst hy;exact hx
    have L6:decide ((x.length:Int) > 20)=false:=by simp;omega
    go_wp2;go_round
    case rel=>exact⟨k+1,by omega,by omega,by go_num,HN.out⟩
    case measure=>simp[intOf];omega
   .have HS := Lib.hid (show GK ls = false by
     have:(ls.take 20).all (λl=>decide (l.length<=20))=false:=List.all_eq_false.2 ⟨x,HM.out,by simpa using hx⟩
     simp[GK,this])
    have L6:decide ((x.length:Int) > 20)=true:=by simp;omega
    go_wp2;go_ret;exact⟨ap HS.out.symm,rfl⟩
  .have HT : Hid (GK ls = decide ((ls.length : Int) <= 20)) := Lib.hid (by
    have:(ls.take 20).all (λl=>decide (l.length<=20))=true:=xY.2 λy hy=>by
     have e:ls.take 20=ls.take k:=by
      rcases yh k ls.length with h|h
      .have:k=20:=by omega
       rw[this]
      .rw[xN h,xN (by omega)]
     rw[e] at hy;simpa using HZ.out y hy
    simp only[GK,this,yN]
    exact decide_eq_decide.2 (by omega))
   by_cases DG:k<ls.length
   .have afZ:k=20:=by omega
    subst afZ;go_wp2;go_ret;exact⟨ap HT.out.symm,rfl⟩
   .have D6:k=ls.length:=by omega
    go_wp2;go_ret;exact⟨ap HT.out.symm,rfl⟩
def n7 (nA hA:Option Addr)(nc hc:Nat)(c:AD)(w:World)(B:Nat)(hB:B<=w.heap.size)(hh:BG w B hA c.Ap)(DG:c.Aq.length<=9223372036854775807)(hl2:c.Ap.length<=9223372036854775807)(BU:∀h∈c.Ap,h.off.length<=9223372036854775807) :
  Calls An 4 #[AH nA hA c nc hc] w λe w'=>e=.returned (.bool (Dt c))/\Gr w w':=by
 unfold AH;obtain⟨W0,hW0⟩:∃W0:World,W0=w.alloc (.cells #[.slice nA c.Aq.length nc,.slice hA c.Ap.length hc] 25):=⟨_,rfl⟩;have hg0:Gr w W0:=hW0▸(Gr.refl w).alloc _;have hz0:W0.heap.size=w.heap.size+1:=by rw[hW0];simp
 have HG:=xf (hh.keep λb o hb=>hg0.cell (xl hb hB));have HL:=xf BU;have B4:=xf hg0;have hc0:W0.cell? ⟨w.heap.size,0,none⟩=some (.slice nA c.Aq.length nc):=by rw[hW0,xj _ _ _ _ rfl];rfl
 have hc1:W0.cell? ⟨w.heap.size,1,none⟩=some (.slice hA c.Ap.length hc):=by rw[hW0,xj _ _ _ _ rfl];rfl
 have HW:=xf hW0;have EZ:w.heap.size<W0.heap.size:=by omega
 clear hh BU hg0 hW0;go_enter Sq.func4,Tryz.ntmps4;go_wp2;rw[<-HW.out];go_loop [3] (λi=>∃k:Nat,k<=c.Ap.length/\k<=20/\i=.int .i64 k/\∀x∈c.Ap.take k,x.off.length<=20) (λi=>20-(intOf i).toNat)
 case atStart=>exact⟨0,by omega,by omega,rfl,by simp⟩
 case round =>
  obtain⟨k,hk,hk2,rfl,hz⟩:=hrel;have HZ:=xf hz;clear hz;by_cases hlt:k<c.Ap.length/\k<20
  .obtain⟨hlt,JX⟩:=hlt;obtain⟨b,o,rfl,hb,hat⟩:=HG.out.at_ (c:=c) hlt;obtain⟨g0,g1,g2,A,ac,g3,Ct⟩:=hat;have Kz:=HL.out _ (c.FH hlt);have hce:c.Ap[k]=c.h k:=by unfold AD.h;rw[xi hlt];rfl
   have HX:Hid (c.Ap.take (k+1)=c.Ap.take k++[c.h k]):=xf (by rw[zf,xi hlt,hce];rfl);have HM:Hid (c.h k∈c.Ap.take 20):=xf (List.mem_iff_getElem?.2 ⟨k,by rw[yX,if_pos JX,xi hlt,hce]⟩);have JY:decide ((k:Int)<c.Ap.length)=true:=by simp;omega
   have LL:decide ((k:Int)<20)=true:=by simp;omega
   clear g0 g1 g2 Ct hce;by_cases hx:(c.h k).off.length<=20
   .have HN : Hid (∀ y ∈ c.Ap.take (k + 1), y.off.length <= 20) := Lib.hid fun y hy => by
     rw[HX.out] at hy;rcases ym.1 hy with hy|hy
     .exact HZ.out y hy
     .simp only[xu,xm,or_false] at hy;subst hy;exact hx
    have L6:decide (((c.h k).off.length:Int) > 20)=false:=by simp;omega
    go_wp2;go_round
    case rel=>exact⟨k+1,by omega,by omega,by go_num,HN.out⟩
    case measure=>simp[intOf];omega
   .have HS := Lib.hid (show Dt c = false by
     have:(c.Ap.take 20).all (λh=>decide (h.off.length<=20))=false:=List.all_eq_false.2 ⟨_,HM.out,by simpa using hx⟩
     simp[Dt,this])
    have L6:decide (((c.h k).off.length:Int) > 20)=true:=by simp;omega
    go_wp2;go_ret;exact⟨ap HS.out.symm,B4.out⟩
  .have HT : Hid (Dt c = (decide ((c.Aq.length : Int) <= 20) && decide ((c.Ap.length : Int) <= 20))) := Lib.hid (by
    have:(c.Ap.take 20).all (λh=>decide (h.off.length<=20))=true:=xY.2 λy hy=>by
     have e:c.Ap.take 20=c.Ap.take k:=by
      rcases yh k c.Ap.length with h|h
      .have:k=20:=by omega
       rw[this]
      .rw[xN h,xN (by omega)]
     rw[e] at hy;simpa using HZ.out y hy
    simp only[Dt,this,yN]
    rw[show decide (c.Aq.length<=20)=decide ((c.Aq.length:Int)<=20) from decide_eq_decide.2 (by omega),show decide (c.Ap.length<=20)=decide ((c.Ap.length:Int)<=20) from decide_eq_decide.2 (by omega)])
   have hgo:(decide ((k:Int)<c.Ap.length)=false)\/(decide ((k:Int)<c.Ap.length)=true/\decide ((k:Int)<20)=false):=by
    by_cases h:k<c.Ap.length
    .exact .inr ⟨by simpa using h,by simp;omega⟩
    .exact .inl (by simp;omega)
   by_cases hn20:c.Aq.length<=20
   .have JZ:decide ((c.Aq.length:Int)<=20)=true:=by simp;omega
    rw[JZ,yN] at HT;rcases hgo with h1|⟨h1,h2⟩
    .go_wp2
     all_goals
      go_ret;exact⟨ap HT.out.symm,B4.out⟩
    .go_wp2
     all_goals
      go_ret;exact⟨ap HT.out.symm,B4.out⟩
   .have JZ:decide ((c.Aq.length:Int)<=20)=false:=by simp;omega
    rw[JZ,yC] at HT;rcases hgo with h1|⟨h1,h2⟩
    .go_wp2
     all_goals
      go_ret;exact⟨ap HT.out.symm,B4.out⟩
    .go_wp2
     all_goals
      go_ret;exact⟨ap HT.out.symm,B4.out⟩
open Go.AW Go.ChangeShapes Go.Deep
def TF:Tryz.prog.cellsOf 25=2/\Tryz.prog.cellsOf 22=1/\Tryz.prog.cellsOf 23=1/\Tryz.prog.cellsOf 3=1/\Tryz.prog.cellsOf 46=4/\Tryz.prog.cellsOf 26=1:=⟨by kernel_rfl,by kernel_rfl,by kernel_rfl,by kernel_rfl,by kernel_rfl,by kernel_rfl⟩
variable {H:Type} {enc:TypeId×Value->H} {W:World} {held:Bool}
def MB {a:Addr}{cs:List Value}(h:W.cells? 0 a 4=some cs):∃c0 c1 c2 c3,cs=[c0,c1,c2,c3]/\W.cell? a=some c0/\W.cell? (a.add 1)=some c1/\W.cell? (a.add 2)=some c2/\W.cell? (a.add 3)=some c3:=by
 unfold World.cells? at h;rw[if_pos (xK _)] at h;simp only[List.range,List.range.loop,List.mapM_cons,List.mapM_nil,Option.bind_eq_bind,Option.pure_def,Option.bind_eq_some_iff,Option.some.injEq] at h;obtain⟨c0,h0,_,⟨c1,h1,_,⟨c2,h2,_,⟨c3,h3,_,rfl,rfl⟩,rfl⟩,rfl⟩,rfl⟩:=h;rw[add_zero] at h0;exact⟨c0,c1,c2,c3,rfl,h0,h1,h2,h3⟩
def nk {fuel b o:Nat}{cs:List Value}{x:DataW H×List MemPlace}(hc:W.cells? 0 ⟨b,o,none⟩ 4=some cs)(h:DataW.trod enc Tryz.prog W 0 (λ_=>true) held fuel 46 cs=some x) :
  ∃h:Be,Kt (Et W) W.heap.size b o h/\h.off.length<=maxLen:=by
 obtain⟨c0,c1,c2,c3,rfl,h0,h1,h2,h3⟩:=MB hc;obtain⟨Xc,UW,S4,e3,e59,_⟩:=TF;obtain⟨xs,n,_,_,_,_,hf⟩:=DataW.trod_struct Tryz.underlying46 h;have f0:DataW.trod enc Tryz.prog W 0 (λ_=>true) held n 3 (([c0,c1,c2,c3].drop 0).take (Tryz.prog.cellsOf 3))=xs[0]?:=hf 0 _ rfl;have f1:DataW.trod enc Tryz.prog W 0 (λ_=>true) held n 3 (([c0,c1,c2,c3].drop 1).take (Tryz.prog.cellsOf 3))=xs[1]?:=hf 1 _ rfl
 have f2:DataW.trod enc Tryz.prog W 0 (λ_=>true) held n 3 (([c0,c1,c2,c3].drop 2).take (Tryz.prog.cellsOf 3))=xs[2]?:=hf 2 _ rfl;have f3:DataW.trod enc Tryz.prog W 0 (λ_=>true) held n 22 (([c0,c1,c2,c3].drop 3).take (Tryz.prog.cellsOf 22))=xs[3]?:=hf 3 _ rfl;have el:xs.length=4:=‹xs.length=_›;obtain⟨x0,x1,x2,x3,rfl⟩:∃x0 x1 x2 x3,xs=[x0,x1,x2,x3]:=by
  match xs,el with
  |[x0,x1,x2,x3],_=>exact⟨_,_,_,_,rfl⟩
 rw[e3] at f0 f1 f2;rw[UW] at f3;obtain⟨k0,q0,_⟩:=DataW.trod_int Tryz.underlying3 f0;obtain⟨k1,q1,_⟩:=DataW.trod_int Tryz.underlying3 f1;obtain⟨k2,q2,_⟩:=DataW.trod_int Tryz.underlying3 f2;obtain⟨A,len,cap,l,q3,hl,hm,hk,hr⟩:=Hs Tryz.underlying22 Tryz.underlying3 e3 f3;cases q0;cases q1;cases q2;cases q3;rw[iD] at h1 h2 h3;subst hl;exact⟨⟨k0,k1,k2,l⟩,⟨ca h0 (fl _ _),ca h1 (fl _ _),ca h2 (fl _ _),A,cap,ca h3 hk,hr⟩,hm⟩
def Kn {fuel:Nat}{cs:List Value}{x:DataW H×List MemPlace}(h:DataW.trod enc Tryz.prog W 0 (λ_=>true) held fuel 23 cs=some x) :
  ∃(A:Option Addr) (len cap:Nat) (hs:List Be),cs=[.slice A len cap]/\hs.length=len/\len<=maxLen/\(∀y∈hs,y.off.length<=maxLen)/\Fa W (.slice A len cap)/\BG (Et W) W.heap.size A hs:=by
 obtain⟨Xc,UW,S4,e3,e59,_⟩:=TF;rcases open_slice Tryz.underlying23 h with⟨rfl,_⟩|⟨a,len,cap,m,n,D,Pl,rfl,_,h1,h2,h3,_,h4⟩
 .exact⟨none,0,0,[],rfl,rfl,xK _,by simp,bT (xh _) (λ_ e=>by cases e),λh=>absurd rfl h⟩
 .simp only[if_true] at h3;subst h3;rw[e59] at h4;have hk:Fa W (.slice (some a) len m):=bT h1 λa' e hp=>by
   cases e
   obtain⟨cs',g1,_⟩:=h4 0 hp;obtain⟨c0,c1,c2,c3,_,g2,_⟩:=MB g1;rw[Nat.zero_mul,add_zero] at g2;exact⟨_,g2⟩
  rcases xV len with e|e
  .subst e;exact⟨some a,0,m,[],rfl,rfl,xK _,by simp,hk,λh=>absurd rfl h⟩
  .obtain⟨cs',g1,_⟩:=h4 0 (by omega);obtain⟨c0,c1,c2,c3,_,g2,_⟩:=MB g1;rw[Nat.zero_mul,add_zero] at g2;obtain⟨hs,C',t',f',c1,_⟩:=F4 g2;obtain⟨b,o,s⟩:=a;dsimp only at hs c1;subst hs;obtain⟨l,hl,hat⟩:=Ii (P:=λi h=>Kt (Et W) W.heap.size b (o+i*4) h/\h.off.length<=maxLen) len λi hi=>by
    obtain⟨cs',g1,g2⟩:=h4 i (by omega);rw[iD] at g1;exact nk g1 g2
   refine⟨_,len,m,l,rfl,hl,by omega,λy hy=>?_,hk,λ_=>⟨b,o,rfl,(xg.1 c1).1,λi h hi=>(hat i h hi).1⟩⟩;obtain⟨i,hi,rfl⟩:=yT.1 hy;exact(hat i _ (xi hi)).2
def Ou {base:Nat}{r:Reach}{v:Value}{d:DataW H}{p:List MemPlace}(hv:Value.okWide Tryz.prog W r base 25 v)(h:DataW.Trod enc Tryz.prog W 0 (λ_=>true) held 25 v d p) :
  ∃nA hA nc hc c,v=AH nA hA c nc hc/\Fa W v/\RI (Et W) W.heap.size nA c.Aq/\BG (Et W) W.heap.size hA c.Ap/\c.Aq.length<=maxLen/\c.Ap.length<=maxLen/\∀y∈c.Ap,y.off.length<=maxLen:=by
 obtain⟨Xc,UW,S4,e3,e59,_⟩:=TF;unfold Value.okWide at hv;rw[Tryz.underlying25] at hv;obtain⟨cs,rfl,hsz,_⟩:=hv;obtain⟨fuel,h⟩:=h;obtain⟨y0,y1,n,_,hl,h0,h1⟩:=trod_struct2 Tryz.underlying25 h;simp only[UW,S4,List.drop_zero] at h0 h1;have hcs:∃a b,cs=#[a,b]:=by
  rw[Xc] at hsz;obtain⟨l⟩:=cs
  match l,hsz with
  |[a,b],_=>exact⟨a,b,rfl⟩
 obtain⟨a,b,rfl⟩:=hcs;obtain⟨A,len,cap,l,q,DG,JI,SI,hr1⟩:=Hs Tryz.underlying22 Tryz.underlying3 e3 h0;obtain⟨A2,af0,Pf,l2,q2,hl2,Jl,hx,hk2,hr2⟩:=Kn h1;simp[Value.cells] at q q2;subst q q2 DG hl2
 exact⟨A,A2,cap,Pf,⟨l,l2⟩,rfl,λS=>.agg rfl λi v V h1 h2=>by
  rw[h1] at h2;cases h2
  match i,h1 with
  |0,h1=>cases h1;exact SI S
  |1,h1=>cases h1;exact hk2 S,hr1,hr2,JI,Jl,hx⟩
def gf (a b c:Int)(w:World):Calls An 93 #[.int .i64 a,.int .i64 b,.int .i64 c] w λe w'=>e=.returned (.bool (C2 a b c))/\w=w':=by
 by_cases h1:b<=a
 .by_cases h2:a<=c
  .have HS:=xf (show C2 a b c=true by simp[C2,h1,h2]);go_enter Sq.func93,Tryz.ntmps93;go_wp2;go_ret;exact⟨ap HS.out.symm,rfl⟩
  .have HS:=xf (show C2 a b c=false by simp[C2];omega);go_enter Sq.func93,Tryz.ntmps93;go_wp2;go_ret;exact⟨ap HS.out.symm,rfl⟩
 .have HS:=xf (show C2 a b c=false by simp[C2];omega);go_enter Sq.func93,Tryz.ntmps93;go_wp2;go_ret;exact⟨ap HS.out.symm,rfl⟩
def iE (n lo hi:Int)(w:World):Calls An 68 #[.int .i64 n,.int .i64 lo,.int .i64 hi] w λe w'=>e=.returned (.int .i64 (Bb n lo hi))/\w=w':=by
 by_cases h1:n<lo
 .have HS:=xf (show Bb n lo hi=7 by simp[Bb,h1]);go_enter Sq.func68,Tryz.ntmps68;go_wp2;go_ret;exact⟨ao HS.out.symm,rfl⟩
 .by_cases h2:hi<n
  .have HS:=xf (show Bb n lo hi=6 by simp[Bb,h1,h2]);go_enter Sq.func68,Tryz.ntmps68;go_wp2;go_ret;exact⟨ao HS.out.symm,rfl⟩
  .have HS:=xf (show Bb n lo hi=0 by simp[Bb,h1,h2]);go_enter Sq.func68,Tryz.ntmps68;go_wp2;go_ret;exact⟨ao HS.out.symm,rfl⟩
def ms (A:Option Addr)(c:Nat)(l:List Int)(n:Int)(w:World)(B:Nat)(h:RI w B A l)(hB:B<=w.heap.size)(hl:l.length<=4611686018427387904)(Ku:0<=n)(hn:n<=4611686018427387904) :
  Calls An 69 #[.slice A l.length c,.int .i64 (n-1)] w λe w'=>e=.returned (.int .i64 (B1 l n))/\Gr w w':=by
 have HR:=xf h;clear h;go_enter Sq.func69,Tryz.ntmps69;go_wp2;go_loopw [5] (λi wr=>∃k:Nat,k<=l.length/\i=.int .i64 k/\(∀j,j<k->CL l n j=0)/\Gr w wr) (λi _=>l.length-(intOf i).toNat)
 case atStart=>exact⟨0,by omega,rfl,λj hj=>absurd hj (yr _),.refl _⟩
 case round =>
  obtain⟨k,hk,rfl,hz,hgr⟩:=hrel;have HZ:=xf hz;have HG:=xf hgr;have V9:=hgr.size;clear hz;by_cases hlt:k<l.length
  .obtain⟨b,o,rfl,hb,hc⟩:=(HR.out.gr hB hgr).at_ hlt;have hbl:b<wr.heap.size:=by omega
   have HA:Hid (CL l n k=if 0<=l[k]?.getD 0/\l[k]?.getD 0<=n-1 then(if 0<k/\l[k]?.getD 0<=l[k-1]?.getD 0 then 5 else 0) else 3):=xf rfl;by_cases hr:0<=l[k]?.getD 0/\l[k]?.getD 0<=n-1
   .have HI : Hid (∀ W, Calls An 93 #[.int .i64 (l[k]?.getD 0), .int .i64 0, .int .i64 (n - 1)] W fun e w' => e = .returned (.bool true) ∧ W = w') := Lib.hid fun W => by
     have:=gf (l[k]?.getD 0) 0 (n-1) W
     rwa [show C2 (l[k]?.getD 0) 0 (n-1)=true by simp[C2,hr.1,hr.2]] at this
    rcases xV k with h0|h0
    .subst h0;have HS:=xf (show CL l n 0=0 by rw[HA.out,if_pos hr,if_neg (by omega)]);clear HA hr hgr;simp only[Nat.add_zero] at hc;generalize l[0]?.getD 0=x at hc HI;go_wp2_with (go_at_call 93;refine(HI.out _).mono ?_;rintro e w' ⟨rfl,rfl⟩);go_quiet (fail);go_wp2;go_roundw
     case rel=>exact⟨1,by omega,by go_num,λj hj=>(by
      have:j=0:=by omega
      subst this;exact HS.out),HG.out.drewN _⟩
     case measure=>simp[intOf];omega
    .obtain⟨m,rfl⟩:∃m,k=m+1:=⟨k-1,by omega⟩;have hc':wr.cell? ⟨b,o+m,none⟩=some (.int .i64 (l[m]?.getD 0)):=by
      obtain⟨b',o',e,_,h⟩:=(HR.out.gr hB hgr).at_ (k:=m) (by omega);simp only[Option.some.injEq,Addr.mk.injEq] at e;obtain⟨rfl,rfl,_⟩:=e;exact h
     have JY:decide (((m+1:Nat):Int) > 0)=true:=by simp
     have e2:((m+1:Nat):Int)-1=(m:Int):=by omega
     by_cases hle:l[m+1]?.getD 0<=l[m]?.getD 0
     .have HS := Lib.hid (show B1 l n = 5 by
       have e:CL l n (m+1)=5:=by rw[HA.out,if_pos hr,if_pos ⟨h0,hle⟩]
       rw[fN hlt HZ.out (by rw[e];decide),e])
      clear HA hr hgr;generalize l[m+1]?.getD 0=x at hc HI hle;generalize l[m]?.getD 0=y at hc' hle;have LL:decide (x<=y)=true:=by simpa using hle
      go_wp2_with (go_at_call 93;refine(HI.out _).mono ?_;rintro e w' ⟨rfl,rfl⟩);go_quiet (fail);go_wp2;go_ret;exact⟨ao HS.out.symm,HG.out.drewN _⟩
     .have HS:=xf (show CL l n (m+1)=0 by rw[HA.out,if_pos hr,if_neg (λh=>hle h.2)]);clear HA hr hgr;generalize l[m+1]?.getD 0=x at hc HI hle;generalize l[m]?.getD 0=y at hc' hle;have LL:decide (x<=y)=false:=by simpa using hle
      go_wp2_with (go_at_call 93;refine(HI.out _).mono ?_;rintro e w' ⟨rfl,rfl⟩);go_quiet (fail);go_wp2;go_roundw
      case rel=>exact⟨m+1+1,by omega,by go_num,λj hj=>(by
       rcases yf (yB hj) with h|rfl
       .exact HZ.out j h
       .exact HS.out),HG.out.drewN _⟩
      case measure=>simp[intOf];omega
   .have HI : Hid (∀ W, Calls An 93 #[.int .i64 (l[k]?.getD 0), .int .i64 0, .int .i64 (n - 1)] W fun e w' => e = .returned (.bool false) ∧ W = w') := Lib.hid fun W => by
     have:=gf (l[k]?.getD 0) 0 (n-1) W
     rwa [show C2 (l[k]?.getD 0) 0 (n-1)=false by simp[C2];omega] at this
    have HS:=xf (show B1 l n=3 by
     have e:CL l n k=3:=by rw[HA.out,if_neg hr]
     rw[fN hlt HZ.out (by rw[e];decide),e])
    clear HA hr hgr;generalize l[k]?.getD 0=x at hc HI;go_wp2_with (go_at_call 93;refine(HI.out _).mono ?_;rintro e w' ⟨rfl,rfl⟩);go_ret;exact⟨ao HS.out.symm,HG.out⟩
  .have HS:=xf (show B1 l n=0 from ku λi hi=>HZ.out i (by omega));have:k=l.length:=by omega
   clear HZ hgr;go_wp2;go_ret;exact⟨ao HS.out.symm,HG.out⟩
def pw (nA hA:Option Addr)(nc hc:Nat)(c:AD)(w:World)(B:Nat)(hB:B<=w.heap.size)(hn:RI w B nA c.Aq)(hh:BG w B hA c.Ap)(DG:c.Aq.length<=4611686018427387904)(hl2:c.Ap.length<=4611686018427387904)
  (BU:∀h∈c.Ap,h.off.length<=4611686018427387904) :
  Calls An 67 #[AH nA hA c nc hc] w λe w'=>e=.returned (.int .i64 (AK c))/\Gr w w':=by
 have HN:=xf hn;have HH:=xf hh;have Ms:=xf BU;clear hn hh BU;unfold AH;obtain⟨W0,hW0⟩:∃W0:World,W0=w.alloc (.cells #[.slice nA c.Aq.length nc,.slice hA c.Ap.length hc] 25):=⟨_,rfl⟩;have B4:Hid (Gr w W0):=xf (by rw[hW0];exact(Gr.refl w).alloc _);have HC:Hid (∀W,Gr W0 W->W.cell? ⟨w.heap.size,0,none⟩=some (.slice nA c.Aq.length nc)/\W.cell? ⟨w.heap.size,1,none⟩=some (.slice hA c.Ap.length hc)):=xf λW hg=>by
  rw[hg.cell (by show w.heap.size<_;rw[hW0];simp),hg.cell (by show w.heap.size<_;rw[hW0];simp),hW0,xj _ _ _ _ rfl,xj _ _ _ _ rfl];exact⟨rfl,rfl⟩
 have hz0:W0.heap.size=w.heap.size+1:=by rw[hW0];simp
 by_cases JI:Bb c.Aq.length 1 5=0
 .have HM:Hid (Calls An 68 #[.int .i64 c.Aq.length,.int .i64 1,.int .i64 5] (w.alloc (.cells #[.slice nA c.Aq.length nc,.slice hA c.Ap.length hc] 25)) λe w'=>e=.returned (.int .i64 0)/\(w.alloc (.cells #[.slice nA c.Aq.length nc,.slice hA c.Ap.length hc] 25))=w'):=xf (by rw[<-JI];exact iE _ _ _ _);have VV:=xf JI;have HW:=xf hW0;clear JI hW0;go_enter Sq.func67,Tryz.ntmps67;go_wp2_with (first|(go_at_call 68;refine HM.out.mono ?_;rintro e w' ⟨rfl,rfl⟩))
  rw[<-HW.out];clear HW HM;obtain⟨hc0,hc1⟩:=HC.out W0 (Gr.refl _);have VW:=xf ((HN.out.gr hB B4.out).more (B':=W0.heap.size) (by omega));go_loop [4] (λi=>∃k:Nat,k<=c.Aq.length/\i=.int .i64 k/\∀j,j<k->C2 (c.Aq[j]?.getD 0) 0 12=true) (λi=>c.Aq.length-(intOf i).toNat)
  case atStart=>exact⟨0,by omega,rfl,λj hj=>absurd hj (yr _)⟩
  case round =>
   obtain⟨k,hk,rfl,hz⟩:=hrel;have HZ:=xf hz;clear hz;by_cases hlt:k<c.Aq.length
   .obtain⟨b,o,rfl,hb,hcell⟩:=VW.out.at_ hlt;have hI:=gf (c.Aq[k]?.getD 0) 0 12 W0;cases Gz:C2 (c.Aq[k]?.getD 0) 0 12 with
    |true =>
     rw[Gz] at hI;have HI:=xf hI;have Ur:=xf Gz;clear hI Gz;generalize c.Aq[k]?.getD 0=x at hcell HI;go_wp2_with (go_at_call 93;refine HI.out.mono ?_;rintro e w' ⟨rfl,rfl⟩);go_round
     case rel=>exact⟨k+1,by omega,by go_num,λj hj=>by
      rcases yf (yB hj) with h|rfl
      .exact HZ.out j h
      .exact Ur.out⟩
     case measure=>simp[intOf];omega
    |false =>
     rw[Gz] at hI;have HI:=xf hI
     have HS:=xf (show AK c=1 by
      have:(c.Aq.all λx=>C2 x 0 12)=false:=by
       rw[List.all_eq_false];exact⟨_,Dd _ _ hlt,by simp[Gz]⟩
      simp[AK,VV.out,this])
     clear hI Gz;generalize c.Aq[k]?.getD 0=x at hcell HI;go_wp2_with (go_at_call 93;refine HI.out.mono ?_;rintro e w' ⟨rfl,rfl⟩);go_ret;exact⟨ao HS.out.symm,B4.out⟩
   .have HA := Lib.hid (show (c.Aq.all fun x => C2 x 0 12) = true by
     rw[xY];intro x hx;obtain⟨j,hj,rfl⟩:=yT.1 hx;have:=HZ.out j (by omega)
     rwa [xi hj] at this)
    have D6:k=c.Aq.length:=by omega
    clear HZ;subst D6;have NV:=iE c.Ap.length 1 4 W0;by_cases Jl:Bb c.Ap.length 1 4=0
    .rw[Jl] at NV;have HM:=xf NV;have HD:=xf (jD VV.out HA.out Jl);clear NV Jl;go_wp2_with (first|(go_at_call 68;refine HM.out.mono ?_;rintro e w' ⟨rfl,rfl⟩));go_loopw [6] (λi wr=>∃k:Nat,k<=c.Ap.length/\i=.int .i64 k/\(∀j,j<k->Cm c.Aq.length (c.h j)=0)/\Gr W0 wr) (λi _=>c.Ap.length-(intOf i).toNat)
     case atStart=>exact⟨0,by omega,rfl,λj hj=>absurd hj (yr _),Gr.refl _⟩
     case round =>
      obtain⟨k,hk,rfl,hz,hgr⟩:=hrel;have HZ:=xf hz;have Ch:=xf hgr;have Ex:=xf (B4.out.trans hgr);obtain⟨NM,JY⟩:=HC.out wr hgr;have hsz:w.heap.size<wr.heap.size:=by have:=Ch.out.size;omega
      clear hz hgr;by_cases hlt:k<c.Ap.length
      .have ZJ:=xf (HH.out.keep λb o hb=>Ex.out.cell (p:=⟨b,o,none⟩) (xl hb hB));obtain⟨b,o,rfl,hb,hat⟩:=ZJ.out.at_ (c:=c) hlt;obtain⟨g0,g1,g2,A,ac,g3,Ct⟩:=hat;have Hf:=xf (Ct.more (B':=wr.heap.size) (by omega));have Un:=Ms.out _ (c.FH hlt);have HF:=xf (bN c c.Aq.length hlt);have ZK:∀x lo hi v,C2 x lo hi=v->∀W:World,Calls An 93 #[.int .i64 x,.int .i64 lo,.int .i64 hi] W λe w'=>e=.returned (.bool v)/\W=w':=λx lo hi v h W=>by rw[<-h];exact gf _ _ _ _
       have Hp:=xf ZK;clear ZK Ct;cases t1:C2 (c.h k).heads 1 40 with
       |false =>
        have HS:=xf (show AK c=1 by
         have e:Cm c.Aq.length (c.h k)=1:=by simp[Cm,t1]
         rw[HD.out,aV (k:=k) (by simpa using hlt) (λi hi=>by rw[bN c _ (by omega)];exact HZ.out i hi) (by rw[HF.out,e];decide),HF.out,e])
        have HA:=xf (Hp.out _ _ _ _ t1);clear t1;go_wp2_with (first|(go_at_call 93;refine(HA.out _).mono ?_;rintro e w' ⟨rfl,rfl⟩));go_ret;exact⟨ao HS.out.symm,Ex.out.alloc _⟩
       |true =>
        have HA:=xf (Hp.out _ _ _ _ t1);cases t2:C2 (c.h k).CJ 1 5 with
        |false =>
         have HS:=xf (show AK c=1 by
          have e:Cm c.Aq.length (c.h k)=1:=by simp[Cm,t2]
          rw[HD.out,aV (k:=k) (by simpa using hlt) (λi hi=>by rw[bN c _ (by omega)];exact HZ.out i hi) (by rw[HF.out,e];decide),HF.out,e])
         have Ke:=xf (Hp.out _ _ _ _ t2);clear t1 t2;go_wp2_with fail;refine(HA.out _).mono ?_;rintro e w' ⟨rfl,rfl⟩;go_wp2_with fail;refine(Ke.out _).mono ?_;rintro e w' ⟨rfl,rfl⟩;go_wp2;go_ret;exact⟨ao HS.out.symm,Ex.out.alloc _⟩
        |true =>
         have Ke:=xf (Hp.out _ _ _ _ t2);cases t3:C2 (c.h k).most 0 5 with
         |false =>
          have HS:=xf (show AK c=1 by
           have e:Cm c.Aq.length (c.h k)=1:=by simp[Cm,t3]
           rw[HD.out,aV (k:=k) (by simpa using hlt) (λi hi=>by rw[bN c _ (by omega)];exact HZ.out i hi) (by rw[HF.out,e];decide),HF.out,e])
          have OJ:=xf (Hp.out _ _ _ _ t3);clear t1 t2 t3;go_wp2_with fail;refine(HA.out _).mono ?_;rintro e w' ⟨rfl,rfl⟩;go_wp2_with fail;refine(Ke.out _).mono ?_;rintro e w' ⟨rfl,rfl⟩;go_wp2_with fail;refine(OJ.out _).mono ?_;rintro e w' ⟨rfl,rfl⟩;go_wp2;go_ret;exact⟨ao HS.out.symm,Ex.out.alloc _⟩
         |true =>
          have OJ:=xf (Hp.out _ _ _ _ t3);have HE:=xf (show Cm c.Aq.length (c.h k)=B1 (c.h k).off c.Aq.length by simp[Cm,t1,t2,t3]);have HAS:=xf (λW (hg:Gr wr W)=>ms A ac (c.h k).off c.Aq.length W wr.heap.size (Hf.out.gr (xh _) hg) hg.size Un (by omega) (by omega));have Nb:=xf (λv=>Ex.out.alloc v);have Lj:Hid (∀v,Gr wr (wr.alloc v)):=xf λv=>(Gr.refl wr).alloc v;clear t1 t2 t3
          by_cases he:B1 (c.h k).off c.Aq.length=0
          .rw[he] at HAS;have ZL:=xf (HE.out.trans he);clear he HE;go_wp2_with fail;refine(HA.out _).mono ?_;rintro e w' ⟨rfl,rfl⟩;go_wp2_with fail;refine(Ke.out _).mono ?_;rintro e w' ⟨rfl,rfl⟩;go_wp2_with fail;refine(OJ.out _).mono ?_;rintro e w' ⟨rfl,rfl⟩;go_wp2_with fail;refine(HAS.out _ (Lj.out _)).mono ?_;rintro e w5 ⟨rfl,GJ⟩;have Kh:=xf ((Ch.out.alloc _).trans GJ);have abm:=xf ((Ex.out.alloc _).trans GJ)
           clear GJ;go_wp2;go_roundw
           case rel=>exact⟨k+1,by omega,by go_num,λj hj=>by
            rcases yf (yB hj) with h|rfl
            .exact HZ.out j h
            .exact ZL.out,Kh.out⟩
           case measure=>simp[intOf];omega
          .have HS := Lib.hid (show AK c = B1 (c.h k).off c.Aq.length by
            rw[HD.out,aV (k:=k) (by simpa using hlt) (λi hi=>by rw[bN c _ (by omega)];exact HZ.out i hi) (by rw[HF.out,HE.out];exact he),HF.out,HE.out])
           have hne:((B1 (c.h k).off c.Aq.length) != 0)=true:=by simpa using he
           clear HE he;generalize B1 (c.h k).off c.Aq.length=e0 at HAS HS hne;go_wp2_with fail;refine(HA.out _).mono ?_;rintro e w' ⟨rfl,rfl⟩;go_wp2_with fail;refine(Ke.out _).mono ?_;rintro e w' ⟨rfl,rfl⟩;go_wp2_with fail;refine(OJ.out _).mono ?_;rintro e w' ⟨rfl,rfl⟩;go_wp2_with fail;refine(HAS.out _ (Lj.out _)).mono ?_;rintro e w5 ⟨rfl,GJ⟩;have Kh:=xf ((Ch.out.alloc _).trans GJ);have abm:=xf ((Ex.out.alloc _).trans GJ)
           clear GJ;go_wp2;go_ret;exact⟨ao HS.out.symm,abm.out⟩
      .have HS := Lib.hid (show AK c = 0 by
        rw[HD.out];exact cV λi hi=>by
         rw[yK] at hi
         rw[bN c _ hi];exact HZ.out i (by omega))
       have D6:k=c.Ap.length:=by omega
       clear HZ;subst D6;go_wp2;go_ret;exact⟨ao HS.out.symm,Ex.out⟩
    .have HS:=xf (show AK c=Bb c.Ap.length 1 4 by simp[AK,VV.out,HA.out,Jl]);have HM:=xf NV;have hb:((Bb c.Ap.length 1 4) != 0)=true:=by simpa using Jl
     clear NV Jl;generalize Bb c.Ap.length 1 4=e0 at HM hb HS;go_wp2_with (first|(go_at_call 68;refine HM.out.mono ?_;rintro e w' ⟨rfl,rfl⟩));go_ret;exact⟨ao HS.out.symm,B4.out⟩
 .have HS:=xf (show AK c=Bb c.Aq.length 1 5 by simp[AK,JI]);have HM:=xf (iE c.Aq.length 1 5 W0);have hb:((Bb c.Aq.length 1 5) != 0)=true:=by simpa using JI
  rw[hW0] at HM;generalize Bb c.Aq.length 1 5=e0 at HM hb HS;clear JI hW0;go_enter Sq.func67,Tryz.ntmps67;go_wp2_with (first|(go_at_call 68;refine HM.out.mono ?_;rintro e w' ⟨rfl,rfl⟩));go_ret;exact⟨ao HS.out.symm,(Gr.refl w).alloc _⟩
def iU (nA hA gA:Option Addr)(nc hc gc:Nat)(c:AD)(ls:List (List Int))(w:World)(B:Nat)(hB:B<=w.heap.size)(hn:RI w B nA c.Aq)(hh:BG w B hA c.Ap)(hg:BD w B gA ls)
  (DG:c.Aq.length<=4611686018427387904) (hl2:c.Ap.length<=4611686018427387904) (BU:∀h∈c.Ap,h.off.length<=4611686018427387904) (EY:ls.length<=4611686018427387904) (hl4:∀x∈ls,x.length<=4611686018427387904) :
  Calls An 34 #[AH nA hA c nc hc,.slice gA ls.length gc] w λe w'=>e=.returned (.int .i64 (Ay c ls))/\Gr w w':=by
 have Nb:=xf hg;have ZW:=xf hl4;unfold AH;obtain⟨W0,hW0⟩:∃W0:World,W0=w.alloc (.cells #[.slice nA c.Aq.length nc,.slice hA c.Ap.length hc] 25):=⟨_,rfl⟩;have hg0:Gr w W0:=hW0▸(Gr.refl w).alloc _;have hz0:W0.heap.size=w.heap.size+1:=by rw[hW0];simp
 have B4:=xf hg0;have HC:Hid (∀W,Gr W0 W->(W.cell? ⟨w.heap.size,0,none⟩=some (.slice nA c.Aq.length nc)/\W.cell? ⟨w.heap.size,1,none⟩=some (.slice hA c.Ap.length hc))/\w.heap.size<W.heap.size):=xf λW hg=>by
  have:=hg.size;rw[hg.cell (by show w.heap.size<_;omega),hg.cell (by show w.heap.size<_;omega),hW0,xj _ _ _ _ rfl,xj _ _ _ _ rfl];exact⟨⟨rfl,rfl⟩,by omega⟩
 have JJ:=pw nA hA nc hc c W0 B (by omega) (hn.gr hB hg0) (hh.keep λb o hb=>hg0.cell (xl hb hB)) DG hl2 BU;unfold AH at JJ;have HCK:=xf JJ;have HW:=xf hW0;clear hn hh hg hl4 BU hg0 JJ hW0;go_enter Sq.func34,Tryz.ntmps34;go_wp2_with fail;rw[<-HW.out];refine HCK.out.mono ?_;rintro e w1 ⟨rfl,hg1⟩;obtain⟨⟨c0,c1⟩,cl⟩:=HC.out w1 hg1;have Ch:=xf hg1;have Ex:=xf (B4.out.trans hg1);have HMY:Hid (∀W,Calls An 68 #[.int .i64 ls.length,.int .i64 c.Aq.length,.int .i64 c.Aq.length] W λe w'=>e=.returned (.int .i64 (Bb ls.length c.Aq.length c.Aq.length))/\W=w'):=xf λW=>iE _ _ _ W
 clear HCK hg1;by_cases h0:AK c=0
 .by_cases hm:Bb ls.length c.Aq.length c.Aq.length=0
  .have FD:Hid (Ay c ls=bE (ls.map λl=>B1 l c.Ap.length)):=xf (by simp[Ay,h0,hm]);rw[hm] at HMY;rw[h0];clear h0 hm;go_wp2_with fail;refine(HMY.out _).mono ?_;rintro e w' ⟨rfl,rfl⟩;go_wp2;go_loopw [7] (λi wr=>∃k:Nat,k<=ls.length/\i=.int .i64 k/\(∀j,j<k->B1 (ls[j]?.getD []) c.Ap.length=0)/\Gr w1 wr) (λi _=>ls.length-(intOf i).toNat)
   case atStart=>exact⟨0,by omega,rfl,λj hj=>absurd hj (yr _),.refl _⟩
   case round =>
    obtain⟨k,hk,rfl,hz,hgr⟩:=hrel;have HZ:=xf hz;have D7:=xf hgr;obtain⟨⟨d0,d1⟩,dl⟩:=HC.out wr (Ch.out.trans hgr);have hgw:Gr w wr:=Ex.out.trans hgr;have V9:=hgw.size;by_cases hlt:k<ls.length
    .have Lj:=(Nb.out.gr hB hgw);obtain⟨b,o,rfl,hb,Hm⟩:=Lj (λe=>by rw[e] at hlt;simp at hlt);obtain⟨A',c',hcell,Ct⟩:=Hm k _ (xi hlt);have hbl:b<wr.heap.size:=by omega
     have Kz:=ZW.out _ (yb hlt);have HXE:Hid (ls[k]?.getD []=ls[k]):=xf (by rw[xi hlt];rfl);have HFA:=xf (eP ls (c.Ap.length:Int) hlt);rw[HXE.out] at HFA;have Qj:=xf (λd=>ms A' c' ls[k] c.Ap.length (wr.drewN d) B (Ct.gr (by omega) ((Gr.refl wr).drewN d)) (by show B<=wr.heap.size;omega) Kz (by omega) (by omega));rw[show(c.Ap.length:Int)-1=IntKind.i64.wrap ((c.Ap.length:Int)-1) by simp[IntKind.wrap,IntKind.bits,IntKind.signed];omega] at Qj
     generalize ls[k]=x at hcell HXE HFA Qj;clear hz hgr hgw Lj Hm Ct;by_cases he:B1 x c.Ap.length=0
     .rw[he] at Qj;have ZL:=xf (HXE.out▸he:B1 (ls[k]?.getD []) c.Ap.length=0);clear he;go_wp2;go_region_with (go_at_call 69;refine(Qj.out 1).mono ?_;rintro e w5 ⟨rfl,GJ⟩)
      all_goals
       have Kh:=xf ((D7.out.drewN 1).trans GJ);clear GJ;go_wp2;go_roundw
       case rel=>exact⟨k+1,by omega,by go_num,λj hj=>(by
        rcases yf (yB hj) with h|rfl
        .exact HZ.out j h
        .exact ZL.out),Kh.out⟩
       case measure=>simp[intOf];omega
     .have HS := Lib.hid (show Ay c ls = B1 x c.Ap.length by
       rw[FD.out,aV (k:=k) (by simpa using hlt) (λi hi=>by rw[eP ls _ (by omega)];exact HZ.out i hi) (by rw[HFA.out];exact he),HFA.out])
      have hne:((B1 x c.Ap.length) != 0)=true:=by simpa using he
      clear he;generalize B1 x c.Ap.length=e0 at Qj HS hne;go_wp2;go_region_with (go_at_call 69;refine(Qj.out 1).mono ?_;rintro e w5 ⟨rfl,GJ⟩)
      all_goals
       have Kh:=xf (Ex.out.trans ((D7.out.drewN 1).trans GJ));clear GJ;go_wp2;go_ret;exact⟨ao HS.out.symm,Kh.out⟩
    .have HS := Lib.hid (show Ay c ls = 0 by
      rw[FD.out];exact cV λi hi=>by
       rw[yK] at hi
       rw[eP ls _ hi];exact HZ.out i (by omega))
     have D6:k=ls.length:=by omega
     have OO:=xf hgw;clear hz hgr hgw;go_wp2;go_ret;exact⟨ao HS.out.symm,OO.out⟩
  .have HS:=xf (show Ay c ls=Bb ls.length c.Aq.length c.Aq.length by simp[Ay,h0,hm]);have hne:((Bb ls.length c.Aq.length c.Aq.length) != 0)=true:=by simpa using hm
   rw[h0];clear h0 hm;generalize Bb ls.length c.Aq.length c.Aq.length=e0 at HMY HS hne;go_wp2_with fail;refine(HMY.out _).mono ?_;rintro e w' ⟨rfl,rfl⟩;go_wp2;go_ret;exact⟨ao HS.out.symm,Ex.out⟩
 .have HS:=xf (show Ay c ls=AK c by simp[Ay,h0]);have hne:(AK c != 0)=true:=by simpa using h0
  clear h0;generalize AK c=e0 at HS hne;go_wp2;go_ret;exact⟨ao HS.out.symm,Ex.out⟩
end Go.Proofs.Ao
namespace Go.Sq
open Go.RowKit
def Ht (r:Bl):Nat->Nat->Int
 |0,_=>0
 |k+1,h=>Ht r k h+((wl (r k)).count (h:Int):Nat)
def BR (r:Bl)(n m:Nat):List Int:=(List.range m).map (Ht r n)
def Fs (r:Bl)(n m:Nat):(BR r n m).length=m:=by simp[BR]
def iV {r:Bl}{n m h:Nat}(hh:h<m):(BR r n m)[h]?=some (Ht r n h):=by simp[BR,hh]
def sO {l:List Int}{i:Nat}{x:Int}:(l.take i).count x<=l.count x:=by
 conv=>rhs;rw[<-List.take_append_drop i l,List.count_append]
 omega
def iW (x h:Nat):(wl x).count (h:Int)<=4:=xx List.count_le_length (cG x)
def mt (r:Bl)(k h:Nat):0<=Ht r k h/\Ht r k h<=4*k:=by
 induction k with
 |zero=>simp[Ht]
 |succ k ih =>
  have:=iW (r k) h;unfold Ht;omega
structure Gs (w:World)(g n:Nat)(V:Nat->Int):Prop where
 lt:g<w.heap.size
 at_:∀h,h<n->w.cell? ⟨g,h,none⟩=some (.int .i64 (V h))/\w.frozen? ⟨g,h,none⟩=false
def Gs.gr {w w':World}{g n:Nat}{V:Nat->Int}(h:Gs w g n V)(hg:Gr w w'):Gs w' g n V:=⟨xl h.lt hg.size,λq hq=>⟨(hg.cell (p:=⟨g,q,none⟩) h.lt).trans (h.at_ q hq).1,(hg.frozen (p:=⟨g,q,none⟩) h.lt).trans (h.at_ q hq).2⟩⟩
def Gs.set {w:World}{g n:Nat}{V V':Nat->Int}(h:Gs w g n V){a:Nat}(ha:a<n)(y:Int)(hV:∀q,q<n->V' q=if q=a then y else V q):Gs (w.setCell ⟨g,a,none⟩ (.int .i64 y)) g n V':=by
 refine⟨by have:=h.lt;simpa [World.setCell] using this,λq hq=>⟨?_,(yg _ _ _ _).trans (h.at_ q hq).2⟩⟩;rw[hV q hq];by_cases e:q=a
 .subst e;rw[if_pos rfl];exact xE _ _ _ (h.at_ q hq).1
 .rw[if_neg e];exact(xq _ _ _ _ (by simp[Ne.symm e])).trans (h.at_ q hq).1
def Gs.congr {w:World}{g n:Nat}{V V':Nat->Int}(h:Gs w g n V)(e:∀q,q<n->V q=V' q):Gs w g n V':=⟨h.lt,λq hq=>by rw[<-e q hq];exact h.at_ q hq⟩
def Gs.ri {w:World}{g n:Nat}{V:Nat->Int}(h:Gs w g n V):RI w w.heap.size (some ⟨g,0,none⟩) ((List.range n).map V):=λ_=>⟨g,0,rfl,h.lt,λi x hx=>by
 have hi:i<n:=by have:=(xL.1 hx).1;simpa using this
 rw[yp,zb hi] at hx;have:x=V i:=(Option.some.inj hx).symm;rw[xG,this]
 exact(h.at_ i hi).1⟩
end Go.Sq
namespace Go.Proofs.Ao
open Go.RowKit Go.Sq
def sP (w:World)(n:Nat):Gs (w.alloc (.cells (fF n) 3)) w.heap.size n λ_=>0:=⟨by simp,λh hh=>by
 rw[xj _ _ _ _ (by simp),xX _ _ _ _ (by simp),dR _ _ hh];exact⟨rfl,rfl⟩⟩
def kQ (cb:Nat)(nA hA:Option Addr)(nc hc:Nat)(c:AD)(r:Bl)(w:World)(h:Cn w w.heap.size cb c nA hA nc hc)(Du:c.Ok)(hr:∀i,c.has (r i)) :
  Calls An 33 #[.pointer (some ⟨cb,0,none⟩),BI r] w λe w'=>∃A k,e=.returned (.slice A c.Ap.length k)/\RI w' w'.heap.size A (BR r c.Aq.length c.Ap.length)/\Gr w w':=by
 obtain⟨W0,hW0⟩:∃W0:World,W0=w.alloc (.cells #[.int .u8 (r 0),.int .u8 (r 1),.int .u8 (r 2),.int .u8 (r 3),.int .u8 (r 4)] 72):=⟨_,rfl⟩;have hg0:Gr w W0:=hW0▸(Gr.refl w).alloc _;have Oa:=h.on hg0;have q1:=Oa.c1;have Nd:Hid (∀i,i<5->W0.cell? ⟨w.heap.size,i,none⟩=some (.int .u8 (r i:Nat))):=xf λi hi=>by
  rw[hW0,xj _ _ _ _ (by simp)]
  match i,hi with
  |0,_=>rfl
  |1,_=>rfl
  |2,_=>rfl
  |3,_=>rfl
  |4,_=>rfl
 have h1:=h.c1;have h0:=h.c0;have hlt:=h.lt;have OP:=xf Oa;have MO:Hid (W0.heap.size=w.heap.size+1):=xf (by rw[hW0];simp);have Sn:=Du.h4;have MK:=Du.n5;have Hk:=λw=>gZ c.Ap.length w (by omega);have HW:=xf hW0;have B4:=xf hg0;have HR:=xf hr;have DX:=xf Du;have VW:Hid (Gs (W0.alloc (.cells (fF c.Ap.length) 3)) (w.heap.size+1) c.Ap.length λ_=>0):=xf (MO.out▸sP W0 c.Ap.length)
 clear hW0 hg0 h Oa hr Du q1;unfold BI;go_enter Sq.func33,Tryz.ntmps33;go_wp2;rw[<-HW.out];go_loopw [22] (λi wr=>∃k:Nat,k<=c.Aq.length/\i=.int .i64 k/\Gr W0 wr/\Gs wr (w.heap.size+1) c.Ap.length (Ht r k)) (λi _=>c.Aq.length-(intOf i).toNat)
 case atStart=>exact⟨0,by omega,rfl,(Gr.refl W0).alloc _,VW.out⟩
 case round =>
  obtain⟨wq,rfl⟩:∃wq,wq=wr:=⟨_,rfl⟩;obtain⟨k,hk,rfl,hgr,hnm⟩:=hrel;have D7:=xf hgr;have HNM:=xf hnm;by_cases hlk:k<c.Aq.length
  .have Y2:wq.cell? ⟨w.heap.size,k,none⟩=some (.int .u8 (r k:Nat)):=(hgr.cell (p:=⟨w.heap.size,k,none⟩) (MO.out▸Nat.lt_succ_self _)).trans (Nd.out k (by omega));have He:r k<16:=zI DX.out.h4 (HR.out k);have hxh:r k<2 ^ c.Ap.length:=HR.out k;have HWK:Hid (∀h,Ht r (k+1) h=Ht r k h+((wl (r k)).count (h:Int):Nat)):=xf λh=>rfl;have HWB:=xf (λh=>mt r k h);generalize r k=x at Y2 He hxh HWK
   have LA:=xf (fy x wq He);clear hgr hnm;go_wp2_with fail;refine LA.out.mono ?_;rintro e w3 ⟨v3,rfl,E9,hg3⟩;obtain⟨A3,k3,rfl,DW⟩:=DL E9;have X3:=xf DW;have D8:=xf (D7.out.trans hg3);have HN3:=xf ((HNM.out.gr hg3).congr (V':=λh=>Ht r k h+(((wl x).take 0).count (h:Int):Nat)) λq _=>by simp);have hgq:=HNM.out.lt;have hz3:=hg3.size;clear E9 hg3 DW LA;go_wp2;go_loopw [30] (λi wr=>∃j:Nat,j<=(wl x).length/\i=.int .i64 j/\Gr W0 wr/\Gs wr (w.heap.size+1) c.Ap.length (λh=>Ht r k h+(((wl x).take j).count (h:Int):Nat))/\w3.heap.size<=wr.heap.size/\∀b,b<w3.heap.size->b≠w.heap.size+1->wr.heap[b]?=w3.heap[b]?) (λi _=>(wl x).length-(intOf i).toNat)
   case atStart=>exact⟨0,by omega,rfl,D8.out,HN3.out,xh _,λ_ _ _=>rfl⟩
   case round =>
    obtain⟨j,hj,rfl,FP,T3,Wa,hki⟩:=hrel;have Gt:=xf FP;have HNI:=xf T3;have HKI:=xf hki;by_cases Mz:j<(wl x).length
    .obtain⟨b3,o3,rfl,WA,hc3⟩:=X3.out (λe=>by rw[e] at Mz;simp at Mz);obtain⟨a,ha,YE,hab⟩:=JW (yb Mz);have WC:a<c.Ap.length:=jh hxh hab;have L6:=(xH (a:=⟨b3,o3+j,none⟩) (hki b3 WA.2 (by omega))).trans (hc3 j _ (xi Mz));rw[ha] at L6;have HT:Hid (∀h:Nat,((wl x).take (j+1)).count (h:Int)=((wl x).take j).count (h:Int)+if h=a then 1 else 0):=xf λh=>by
      rw[zf,xi Mz,List.count_append,ha];by_cases e:h=a
      .subst e;simp
      .rw[if_neg e];have:¬(a:Int)=(h:Int):=by omega
       simp[this]
     obtain⟨e1,e2⟩:=T3.at_ a WC;have hb:=HWB.out a;have Hm:((wl x).take j).count (a:Int)<=4:=xx sO (iW x a)
     have Mx:=xf (λy (hy:y=Ht r k a+(((wl x).take j).count (a:Int):Nat)+1)=>T3.set WC y (V':=λh=>Ht r k h+(((wl x).take (j+1)).count (h:Int):Nat)) λq _=>by
      show Ht r k q+(((wl x).take (j+1)).count (q:Int):Nat)=_;rw[HT.out];by_cases e:q=a
      .subst e;rw[if_pos rfl,if_pos rfl,hy];omega
      .rw[if_neg e,if_neg e];omega)
     have HGS:=xf (λy=>FP.setCell (p:=⟨w.heap.size+1,a,none⟩) (yl MO.out) y);have TT:=xf (λ(y:Value) b (hb:b<w3.heap.size) (hne:b≠w.heap.size+1)=>(xD wr ⟨w.heap.size+1,a,none⟩ y b hne).trans (hki b hb hne));have hy1:0<=Ht r k a+(((wl x).take j).count (a:Int):Nat)/\Ht r k a+(((wl x).take j).count (a:Int):Nat)<=1000:=by omega
     generalize Ht r k a+(((wl x).take j).count (a:Int):Nat)=y0 at e1 Mx hy1;have O1:((wl x).length:Int)<=4:=by have:=cG x;omega
     have Wt:j<(wl x).length:=Mz;clear FP T3 hki hc3 ha;have HS9:=xf (Mx.out (y0+1) rfl);go_wp2;go_roundw
     case rel=>exact⟨j+1,by omega,by go_num,HGS.out _,HS9.out,by simp[World.setCell];omega,TT.out _⟩
     case measure=>simp[intOf];omega
    .have Ng:j=(wl x).length:=by omega
     have HNE:Hid (Gs wr (w.heap.size+1) c.Ap.length (Ht r (k+1))):=xf (T3.congr λq _=>by
      show Ht r k q+(((wl x).take j).count (q:Int):Nat)=_
      rw[Ng,List.take_length,HWK.out])
     subst Ng;clear FP T3 hki;go_wp2;go_roundw
     case rel=>exact⟨k+1,by omega,by go_num,Gt.out,HNE.out⟩
     case measure=>simp[intOf];omega
  .have E4:k=c.Aq.length:=by omega
   subst E4;have HF:=xf hnm.ri;clear hgr hnm;go_wp2;go_ret;exact⟨_,_,rfl,HF.out,B4.out.trans D7.out⟩
def rf (nA hA gA:Option Addr)(nc hc gc:Nat)(c:AD)(ls:List (List Int))(w:World)(B:Nat)(hB:B<=w.heap.size)(hn:RI w B nA c.Aq)(hh:BG w B hA c.Ap)(hg:BD w B gA ls)
  (DG:c.Aq.length<=4611686018427387904) (hl2:c.Ap.length<=4611686018427387904) (BU:∀h∈c.Ap,h.off.length<=4611686018427387904) (EY:ls.length<=4611686018427387904) (hl4:∀x∈ls,x.length<=4611686018427387904)
  (hF:Ay c ls=0) :
  Calls An 12 #[AH nA hA c nc hc,.slice gA ls.length gc] w λe w'=>Gr w w'/\∃A k,e=.returned (.tuple #[.slice A c.Ap.length k,.int .i64 0])/\RI w' w'.heap.size A (BR (Av ls) c.Aq.length c.Ap.length):=by
 unfold AH;obtain⟨W0,hW0⟩:∃W0:World,W0=w.alloc (.cells #[.slice nA c.Aq.length nc,.slice hA c.Ap.length hc] 25):=⟨_,rfl⟩;have hg0:Gr w W0:=hW0▸(Gr.refl w).alloc _;have hz0:W0.heap.size=w.heap.size+1:=by rw[hW0];simp
 have HW:=xf hW0;have CW:=xf (dF nA hA gA nc hc gc c ls W0 B (by omega) (hn.gr hB hg0) (hh.keep λb o hb=>hg0.cell (xl hb hB)) (hg.gr hB hg0) DG hl2 BU EY hl4);have B4:=xf hg0;have FD:=xf hF
 have DX:=xf (AD.Ok.of (show AK c=0 by
  have:=hF;unfold Ay at this;split at this
  .exact absurd this (by assumption)
  .simpa using ‹¬AK c≠0›))
 clear hW0 hg0 hn hh hg hl4 BU hF;go_enter Sq.func12,Tryz.ntmps12;unfold AH at CW;go_wp2_with fail;rw[<-HW.out];refine CW.out.mono ?_;rintro e w1 ⟨hg1,DD⟩;rw[if_pos FD.out] at DD;obtain⟨cb,g,cap,rfl,hcb,Uu,hK⟩:=DD;obtain⟨W1,hW1⟩:∃W1:World,W1=w1.alloc (.cells #[.int .u8 (Av ls 0),.int .u8 (Av ls 1),.int .u8 (Av ls 2),.int .u8 (Av ls 3),.int .u8 (Av ls 4)] 72):=⟨_,rfl⟩
 have Gq:Gr w1 W1:=hW1▸(Gr.refl w1).alloc _;have MO:Hid (W1.heap.size=w1.heap.size+1):=xf (by rw[hW1];simp);have Ch:=xf (hg1.trans Gq);have OP:=xf (hK.KF.on Gq);have Nd:Hid (∀i,i<5->W1.cell? ⟨w1.heap.size,i,none⟩=some (.int .u8 (Av ls i:Nat))):=xf λi hi=>by
  rw[hW1,xj _ _ _ _ (by simp)]
  match i,hi with
  |0,_=>rfl
  |1,_=>rfl
  |2,_=>rfl
  |3,_=>rfl
  |4,_=>rfl
 have TX:=xf (kQ cb nA hA nc hc c (Av ls) W1 OP.out DX.out (dT FD.out));have Mw:=xf hW1;clear hg1 Gq CW hW1 hK;unfold BI at *;go_wp2_with fail;rw[<-Mw.out];refine TX.out.mono ?_;rintro e w2 ⟨A,k,rfl,Ct,hg2⟩;have Hf:=xf Ct;have Ea:=xf (B4.out.trans (Ch.out.trans hg2));clear Ct hg2 TX;go_wp2;go_ret2;exact⟨Ea.out,_,_,rfl,Hf.out⟩
def px (hb B:Nat)(A nA hA:Option Addr)(cap nc hc:Nat)(l:List Int)(N n m:Nat)(w:World)(h:Hand w hb B A cap l N)(hN:N<=100000)(hn:n<=64)(hm:m<=64) :
  Calls An 9 #[.pointer (some ⟨hb,0,none⟩),.agg #[.slice nA n nc,.slice hA m hc]] w λe w'=>∃v ls xs,e=.returned v/\AY w' (w.heap.size+1) v ls xs/\ls.length=n/\(∀x∈ls,∃p,x=AJ p m)/\Hand w' hb B A cap l (N+n*m)/\KH hb w w':=by
 obtain⟨W0,hW0⟩:∃W0:World,W0=w.alloc (.cells #[.slice nA n nc,.slice hA m hc] 25):=⟨_,rfl⟩;have hg0:Gr w W0:=hW0▸(Gr.refl w).alloc _;have HZ0:Hid (W0.heap.size=w.heap.size+1):=xf (by rw[hW0];simp);have HH:=xf (h.gr hg0);have hlt:=h.lt;have HW:=xf hW0;have B4:=xf hg0
 have HC:Hid (W0.cell? ⟨w.heap.size,0,none⟩=some (.slice nA n nc)/\W0.cell? ⟨w.heap.size,1,none⟩=some (.slice hA m hc)):=xf (by
  rw[hW0,xj _ _ _ _ rfl,xj _ _ _ _ rfl];exact⟨rfl,rfl⟩)
 have HK0:Hid (∀W,KT (·=hb) W0 W->KT (·=hb) w W):=xf λW hk=>⟨hk.os.trans hg0.below.os,hk.tape.trans hg0.below.tape,hk.output.trans hg0.below.output,xx hg0.drawn hk.drawn,xx hg0.size hk.size,λb hb' hne=>(hk.block b (xl hb' hg0.size) hne).trans (hg0.below.block b hb')⟩;clear hW0 hg0 h;go_enter Sq.func9,Tryz.ntmps9;go_wp2;rw[<-HW.out];go_loopw [5,6] (λv i wr=>∃k:Nat,k<=n/\i=.int .i64 k/\∃ls xs,AY wr (w.heap.size+1) v ls xs/\ls.length=k/\(∀x∈ls,∃p,x=AJ p m)/\Hand wr hb B A cap l (N+k*m)/\KH hb W0 wr) (λ_ i _=>n-(intOf i).toNat)
 case atStart=>exact⟨0,by omega,rfl,[],[],AY.nil _ _,rfl,λx hx=>by simp at hx,HH.out.more (by omega),KT.refl _ _⟩
 case round =>
  obtain⟨k,hk,rfl,ls,xs,Jj,X6,hall,hh,CB⟩:=hrel;have hne:w.heap.size≠hb:=by omega
  have af3:=HZ0.out;have hc0:wr.cell? ⟨w.heap.size,0,none⟩=some (.slice nA n nc):=(xH (CB.block w.heap.size (by omega) hne)).trans HC.out.1;have hc1:wr.cell? ⟨w.heap.size,1,none⟩=some (.slice hA m hc):=(xH (CB.block w.heap.size (by omega) hne)).trans HC.out.2;have hz:w.heap.size<wr.heap.size:=by have:=CB.size;omega
  have HK:=xf CB;have HO:=xf Jj;have abp:=xf hall;clear CB Jj hall af3;by_cases hlk:k<n
  .have FA:=xf (vR hb B A cap l (N+k*m) m wr hh (by have:k*m<=64*64:=Nat.mul_le_mul (by omega) hm;omega) hm);have HHR:=xf hh;clear hh;go_wp2_with fail;refine FA.out.mono ?_;rintro e w2 ⟨v2,p,rfl,hown,hh,CB⟩;obtain⟨A2,c2,rfl,_⟩:=zG hown;have SH:=xf (HK.out.trans CB);have Tb:=xf (HO.out.keep' (w':=w2) λb hb1 hb2=>CB.block b hb2 (by omega));have HOW:=xf (Cj hown (show w.heap.size+1<=wr.heap.size by omega))
   have LH:=xf hh;have hz2:=CB.size;have hrow:=Tb.out.row;clear CB hh hown FA;rw[X6] at hrow;have Oc:=xf hrow;go_wp2_with (at_builtin;refine pn rfl _ _ rfl (w.heap.size+1) _ _ _ rfl (hrow.alloc _) ⟨w2.heap.size,0,none⟩ 1 (.slice A2 (AJ p m).length c2) rfl ?c1 rfl ?c2 ?c3 ?_)
   case c1=>rw[Addr.add_lit,xj _ _ _ _ (by simp)];rfl
   case c2=>omega
   case c3=>simp;omega
   intro v' w3 hown' hgrow hd;have SF:=xf (eR SH.out Oc.out (by rw[HZ0.out];exact xh _) hgrow hd);have Yz:=xf ((dz LH.out Oc.out (by omega) hgrow).more (M:=N+(k+1)*m) (by rw[Nat.succ_mul];omega));have Ky:=xf (Tb.out.push (l:=AJ p m) HOW.out (λb hb'=>heap_alloc_old _ _ hb') (by simp) hgrow X6.symm hown');have abq:Hid (∀x∈ls++[AJ p m],∃p,x=AJ p m):=xf λx hx=>by
    rcases ym.1 hx with hx|hx
    .exact abp.out x hx
    .simp at hx;exact⟨p,hx⟩
   clear hown' hgrow hd hrow;go_wp2;go_roundw
   case rel=>exact⟨k+1,by omega,by go_num,_,_,Ky.out,by simp[X6],abq.out,Yz.out,SF.out⟩
   case measure=>simp[intOf];omega
  .have E4:k=n:=by omega
   subst E4;have LH:=xf hh;clear hh;go_wp2;go_ret;exact⟨_,ls,xs,rfl,HO.out,X6,abp.out,LH.out,HK0.out _ HK.out⟩
end Go.Proofs.Ao
