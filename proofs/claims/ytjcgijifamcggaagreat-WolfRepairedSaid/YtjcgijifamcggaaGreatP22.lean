/- Parts of the proof. -/
import Derived.Test.YtjcgijifamcggaaGreatP15
import Derived.Test.YtjcgijifamcggaaGreatP14
import Derived.Test.YtjcgijifamcggaaGreatP00
import Derived.Test.YtjcgijifamcggaaGreatP19
import Derived.Test.YtjcgijifamcggaaGreatP21
import Derived.Test.YtjcgijifamcggaaGreatP18
import Derived.Deep.RegionLaw
import Derived.Deep.RegionHeld3
import Derived.Orders
import Derived.Deep.Quiet
set_option linter.all false
set_option maxHeartbeats 3200000
set_option maxRecDepth 1000000
namespace Go.Sq
open Go.RowKit
structure Hand (w:World)(hb B:Nat)(A:Option Addr)(cap:Nat)(l:List Int)(N:Nat):Prop where
 obj:∃n:Nat,∃s:Int,w.heap[hb]?=some (.cells #[.slice A l.length cap,.int .i64 n,.int .u64 s] 45 (0,0))/\n<=N
 Ow:RI w B A l
 apart:B<=hb
def Hand.lt {w:World}{hb B:Nat}{A:Option Addr}{cap:Nat}{l:List Int}{N:Nat}(h:Hand w hb B A cap l N):hb<w.heap.size:=by
 obtain⟨n,s,h1,_⟩:=h.obj;exact(xm.1 h1).1
def Hand.more {w:World}{hb B:Nat}{A:Option Addr}{cap:Nat}{l:List Int}{N M:Nat}(h:Hand w hb B A cap l N)(hm:N<=M):Hand w hb B A cap l M:=by
 obtain⟨n,s,h1,h2⟩:=h.obj;exact⟨⟨n,s,h1,by omega⟩,h.Ow,h.apart⟩
def Hand.gr {w w':World}{hb B:Nat}{A:Option Addr}{cap:Nat}{l:List Int}{N:Nat}(h:Hand w hb B A cap l N)(hg:Gr w w'):Hand w' hb B A cap l N:=by
 have hl:=h.lt;obtain⟨n,s,h1,h2⟩:=h.obj;exact⟨⟨n,s,(hg.below.block hb hl).trans h1,h2⟩,h.Ow.gr (by have:=h.apart;omega) hg,h.apart⟩
abbrev KH (hb:Nat)(w w':World):Prop:=KT (·=hb) w w'
end Go.Sq
namespace Go.Proofs.YtjcgijifamcggaaGreat
open Go.RowKit Go.Sq
def jz (x y:Int):0<=bits BinOp.xor IntKind.u64 x y:=by
 unfold bits IntKind.wrap;have h:IntKind.u64.signed=false:=rfl;simp only[h,yN,xP,if_false];exact Int.emod_nonneg _ (by decide)
def vW (hb B:Nat)(A:Option Addr)(cap:Nat)(l:List Int)(N:Nat)(w:World)(h:Hand w hb B A cap l N)(hN:N<=1048576) :
  Calls AG 16 #[.pointer (some ⟨hb,0,none⟩)] w λe w'=>(∃v:Int,e=.returned (.int .u64 v)/\0<=v)/\Hand w' hb B A cap l (N+1)/\KH hb w w':=by
 obtain⟨n,s,Dj,hn⟩:=h.obj;have HH:=xl h;have c0:w.cell? ⟨hb,0,none⟩=some (.slice A l.length cap):=by unfold World.cell?;rw[Dj];rfl
 have c1:w.cell? ⟨hb,1,none⟩=some (.int .i64 n):=by unfold World.cell?;rw[Dj];rfl
 have c2:w.cell? ⟨hb,2,none⟩=some (.int .u64 s):=by unfold World.cell?;rw[Dj];rfl
 have f1:w.frozen? ⟨hb,1,none⟩=false:=by unfold World.frozen?;rw[Dj];rfl
 have f2:w.frozen? ⟨hb,2,none⟩=false:=by unfold World.frozen?;rw[Dj];rfl
 have HO:=xl Dj;clear h Dj;have key : ∀ (v x y : Int) (W : World), W.heap = ((w.setCell ⟨hb, 1, none⟩ (.int .i64 (n + 1 : Nat))).setCell ⟨hb, 2, none⟩ (.int .u64 y)).heap -> W.os = w.os -> W.tape = w.tape -> W.output = w.output -> w.drawn <= W.drawn -> 0 <= v ->
   (∃v':Int,Ending.returned (.int .u64 v)=.returned (.int .u64 v')/\0<=v')/\Hand W hb B A cap l (N+1)/\KH hb w W:=λv x y W hW e1 e2 e3 e4 hv=>by
  have hB:=HH.out.apart;have hlt:=HH.out.lt;have F4:∀b,b≠hb->W.heap[b]?=w.heap[b]?:=λb hne=>by
   rw[hW,xE _ _ _ _ hne,xE _ _ _ _ hne]
  refine⟨⟨v,rfl,hv⟩,⟨⟨n+1,y,?_,by omega⟩,HH.out.Ow.keep λb o hb'=>xN (F4 b (by omega)),hB⟩,⟨e1,e2,e3,e4,?_,λb _ hne=>F4 b hne⟩⟩
  .rw[hW];exact Bn (Bn HO.out)
  .rw[hW];simp[World.setCell]
 have HKEY:=xl key;clear key;go_enter Sq.func16,Tryz.ntmps16;by_cases hlt:n<l.length
 .obtain⟨b,o,rfl,hb',JY⟩:=HH.out.Ow.at_ hlt;generalize l[n]?.getD 0=x at JY;go_wp2;go_region
  all_goals
   go_wp2;go_region
   all_goals
    go_wp2;go_ret;refine HKEY.out _ 0 _ _ rfl rfl rfl rfl (by simp[World.drew,World.setCell]<;>omega) ?_;exact Int.ediv_nonneg (jz _ _) (by omega)
 .go_wp2;go_region
  all_goals
   go_wp2;go_ret;refine HKEY.out _ 0 _ _ rfl rfl rfl rfl (by simp[World.drew,World.setCell]<;>omega) ?_;exact Int.ediv_nonneg (jz _ _) (by omega)
def gY (hb B:Nat)(A:Option Addr)(cap:Nat)(l:List Int)(N:Nat)(m:Int)(w:World)(h:Hand w hb B A cap l N)(hN:N<=1048576)(hm:m<=1048576) :
  Calls AG 7 #[.pointer (some ⟨hb,0,none⟩),.int .i64 m] w λe w'=>(∃k:Nat,e=.returned (.int .i64 k)/\((k:Int)<=m\/k=0))/\Hand w' hb B A cap l (N+1)/\KH hb w w':=by
 have HP:=xl (vW hb B A cap l N w h hN);have HH:=xl h;clear h;go_enter Sq.func7,Tryz.ntmps7;by_cases hm0:m<=0
 .go_wp2;go_ret;exact⟨⟨0,rfl,.inr rfl⟩,HH.out.more (by omega),KT.refl _ _⟩
 .go_wp2_with fail;refine HP.out.mono ?_;rintro e w' ⟨⟨v,rfl,hv⟩,hh,hk⟩;have KF:=xl hh;have HK:=xl hk;clear hh hk HP;have h1:IntKind.u64.wrap (m+1)=m+1:=by simp[IntKind.wrap,IntKind.bits,IntKind.signed];omega
  have h2:v % (m+1)<m+1:=Int.emod_lt_of_pos _ (by omega);have h3:0<=v % (m+1):=Int.emod_nonneg _ (by omega);go_wp2;go_ret;obtain⟨k,hk⟩:∃k:Nat,v % (m+1)=k:=⟨(v % (m+1)).toNat,by omega⟩;exact⟨⟨k,by show Ending.returned (Value.int .i64 (v % (m+1)))=_;rw[hk],.inl (by omega)⟩,KF.out,HK.out⟩
def dX (hb B:Nat)(A:Option Addr)(cap:Nat)(l:List Int)(N:Nat)(lo hi:Int)(w:World)(h:Hand w hb B A cap l N)(hN:N<=1048576)(h1:0<=lo/\lo<=1048576)(h2:lo<=hi/\hi<=1048576) :
  Calls AG 37 #[.pointer (some ⟨hb,0,none⟩),.int .i64 lo,.int .i64 hi] w λe w'=>(∃k:Nat,e=.returned (.int .i64 k)/\lo<=k/\(k:Int)<=hi)/\Hand w' hb B A cap l (N+1)/\KH hb w w':=by
 have HP:=xl (gY hb B A cap l N (hi-lo) w h hN (by omega));clear h;go_enter Sq.func37,Tryz.ntmps37;go_wp2_with fail;refine HP.out.mono ?_;rintro e w' ⟨⟨k,rfl,hk⟩,hh,CZ⟩;have KF:=xl hh;have HK:=xl CZ;clear hh CZ HP;go_wp2;go_ret;obtain⟨q,hq⟩:∃q:Nat,lo+k=q:=⟨(lo+k).toNat,by omega⟩;exact⟨⟨q,by show Ending.returned (Value.int .i64 (lo+k))=_;rw[hq],by omega,by omega⟩,KF.out,HK.out⟩
def lZ (hb B:Nat)(A A2:Option Addr)(cap c2:Nat)(l m:List Int)(N:Nat)(x:Int)(w:World)(h:Hand w hb B A cap l N)(hN:N<=1048576)(hm:m.length<=1048576)(Ea:F8 w (λb=>b≠hb/\b<w.heap.size) A2 m) :
  Calls AG 38 #[.pointer (some ⟨hb,0,none⟩),.int .i64 x,.slice A2 m.length c2] w λe w'=>(∃k:Int,e=.returned (.int .i64 k)/\k∈x::m)/\Hand w' hb B A cap l (N+1)/\KH hb w w':=by
 have HP:=xl (gY hb B A cap l N m.length w h hN (by omega));have HR:=xl Ea;clear h Ea;go_enter Sq.func38,Tryz.ntmps38;go_wp2_with fail;refine HP.out.mono ?_;rintro e w' ⟨⟨k,rfl,hk⟩,hh,CZ⟩;have KF:=xl hh;have HK:=xl CZ;by_cases Oa:k=0
 .subst Oa;clear hh CZ HP;go_wp2;go_ret;exact⟨⟨x,rfl,yL⟩,KF.out,HK.out⟩
 .have hkm:k-1<m.length:=by omega
  obtain⟨b,o,rfl,hb2,JY⟩:=HR.out (λe=>by rw[e] at hkm;simp at hkm);have hc:=JY (k-1) _ (xq hkm);have hc2:w'.cell? ⟨b,o+(k-1),none⟩=some (.int .i64 m[k-1]):=(xN (CZ.block b hb2.2 hb2.1)).trans hc;have T3:Hid (m[k-1]∈x::m):=xl (yU _ (yn hkm));generalize m[k-1]=y at hc2 T3;have e1:((k:Int)-1)=((k-1:Nat):Int):=by omega
  obtain⟨q,hq⟩:∃q,q=k-1:=⟨_,rfl⟩;rw[<-hq] at hc2 e1 hkm;obtain rfl:k=q+1:=by omega
  clear hh CZ HP JY hc Oa hq e1;have e2:((q+1:Nat):Int)-1=(q:Int):=by omega
  go_wp2;go_ret;exact⟨⟨y,rfl,T3.out⟩,KF.out,HK.out⟩
def qH (hb B:Nat)(A:Option Addr)(cap:Nat)(l:List Int)(N:Nat)(a b:Int)(w:World)(h:Hand w hb B A cap l N)(hN:N<=1048576)(hb1:0<=b/\b<=1048576) :
  Calls AG 39 #[.pointer (some ⟨hb,0,none⟩),.int .i64 a,.int .i64 b] w λe w'=>(∃v:Bool,e=.returned (.bool v))/\Hand w' hb B A cap l (N+1)/\KH hb w w':=by
 have HP:=xl (gY hb B A cap l N (b-1) w h hN (by omega));clear h;go_enter Sq.func39,Tryz.ntmps39;go_wp2_with fail;refine HP.out.mono ?_;rintro e w' ⟨⟨k,rfl,hk⟩,hh,CZ⟩;have KF:=xl hh;have HK:=xl CZ;clear hh CZ HP;go_wp2;go_ret;exact⟨⟨_,rfl⟩,KF.out,HK.out⟩
def qI (A:Option Addr)(cap:Nat)(l:List Int)(w:World)(h:RI w w.heap.size A l) :
  Calls AG 4 #[.slice A l.length cap] w λe w'=>e=.returned (.pointer (some ⟨w.heap.size,0,none⟩))/\Hand w' w.heap.size w.heap.size A cap l 0/\Gr w w':=by
 have HR:=xl h;clear h;go_enter Sq.func4,Tryz.ntmps4;go_wp2;go_ret;exact⟨rfl,⟨⟨0,88172645463325252,World.alloc_heap_new _ _,xp _⟩,HR.out.gr (xp _) ((Gr.refl w).alloc _),xp _⟩,(Gr.refl w).alloc _⟩
end Go.Proofs.YtjcgijifamcggaaGreat
namespace Go.Sq
open Go.RowKit
def Bd (p:Nat->Bool)(k:Nat):List Int:=((List.range k).filter p).map λn:Nat=>(n:Int)
def gZ {p q:Nat->Bool}{k:Nat}(h:∀i,i<k->p i=q i):Bd p k=Bd q k:=by
 unfold Bd;congr 1;exact zz λi hi=>h i (yb.1 hi)
def fo (p:Nat->Bool)(k:Nat):Bd p (k+1)=Bd p k++if p k=true then[(k:Int)] else[]:=by
 unfold Bd;rw[zn,yR,zf];cases h:p k<;>simp[h]
def CE {p:Nat->Bool}{k:Nat}{x:Int}:x∈Bd p k↔∃n:Nat,x=n/\n<k/\p n=true:=by
 unfold Bd;simp only[xU,yX,yb];constructor
 .rintro⟨n,⟨h1,h2⟩,rfl⟩;exact⟨n,rfl,h1,h2⟩
 .rintro⟨n,rfl,h1,h2⟩;exact⟨n,⟨h1,h2⟩,rfl⟩
def dT (p:Nat->Bool)(k:Nat):(Bd p k).length<=k:=by
 unfold Bd;rw[ye];exact xI (zb _ _) (by simp)
def cH (p:Nat->Bool)(k:Nat):(Bd p k).Pairwise (·<·):=by
 unfold Bd;rw[List.pairwise_map];exact(List.Pairwise.filter _ List.pairwise_lt_range).imp λh=>by omega
def hP (p:Nat->Bool)(k:Nat):De (Bd p k) k=0:=by
 rw[kv];intro i hi;have h1:=CE.1 (Dq (Bd p k) i hi);obtain⟨n,e,hn,_⟩:=h1;unfold Ep;rw[if_pos (by rw[e];omega),if_neg];rintro⟨h0,hle⟩;have:=List.pairwise_iff_getElem.1 (cH p k) (i-1) i (by omega) hi (by omega);rw[xq hi,xq (by omega)] at hle;simp only[Option.getD_some] at hle;omega
def C0 {w2 w3:World}{base size n:Nat}{e:TypeId}{v:Value}{xs:List Value}{o:Obj}(hown:w2.ownsRow base e size v n xs)(hg:(w2.alloc o).grownBy w3 v.ownBlock)(b:Nat)(hb:b<base)(hl:b<w2.heap.size):w3.heap[b]?=w2.heap[b]?:=by
 rw[hg.block b (by simp;omega) (dI hown hb),heap_alloc_old _ _ hl]
def fS {w2 w3:World}{v:Value}{o:Obj}(hg:(w2.alloc o).grownBy w3 v.ownBlock):w2.heap.size+1<=w3.heap.size:=by have:=hg.size;simpa using this
def eM {w0 w2 w3:World}{hb base size n:Nat}{e:TypeId}{v:Value}{xs:List Value}{o:Obj}(hK:KT (·=hb) w0 w2)(hown:w2.ownsRow base e size v n xs)(hbase:w0.heap.size<=base)(hg:(w2.alloc o).grownBy w3 v.ownBlock)(hd:(w2.alloc o).drawn<=w3.drawn):KT (·=hb) w0 w3 :=
 ⟨hg.os.trans hK.os,hg.tape.trans hK.tape,hg.output.trans hK.output,xI hK.drawn hd,by have:=fS hg;have:=hK.size;omega,λb hb' hne=>(C0 hown hg b (by omega) (by have:=hK.size;omega)).trans (hK.block b hb' hne)⟩
def dm {w2 w3:World}{hb B cap N base size n:Nat}{A:Option Addr}{l:List Int}{e:TypeId}{v:Value}{xs:List Value}{o:Obj}(h:Hand w2 hb B A cap l N)(hown:w2.ownsRow base e size v n xs)(hbase:hb<base)(hg:(w2.alloc o).grownBy w3 v.ownBlock):Hand w3 hb B A cap l N:=by
 have hl:=h.lt;obtain⟨m,s,ho,hm⟩:=h.obj;exact⟨⟨m,s,(C0 hown hg hb hbase hl).trans ho,hm⟩,h.Ow.keep λb o hb'=>xN (C0 hown hg b (by have:=h.apart;omega) (by have:=h.apart;omega)),h.apart⟩
def l6 {w w':World}{base size n hb:Nat}{v:Value}{e:TypeId}{xs:List Value}(h:w.ownsRow base e size v n xs)(hb':hb<base)(k:KT (·=hb) w w'):w'.ownsRow base e size v n xs :=
 Bb h λg hg hl=>k.block g hl λe=>by have:=(h.lt g hg).1;omega
end Go.Sq
namespace Go.Proofs.YtjcgijifamcggaaGreat
open Go.RowKit Go.Sq
def vY (hb B:Nat)(A:Option Addr)(cap:Nat)(l:List Int)(N n:Nat)(w:World)(h:Hand w hb B A cap l N)(hN:N<=1000000)(hn:n<=64) :
  Calls AG 15 #[.pointer (some ⟨hb,0,none⟩),.int .i64 n] w λe w'=>∃v p,e=.returned v/\w'.ownsRow w.heap.size 3 1 v (Bd p n).length ((Bd p n).map (Value.int .i64))/\Hand w' hb B A cap l (N+n)/\KH hb w w':=by
 have HH:=xl h;have hlt:=h.lt;clear h;go_enter Sq.func15,Tryz.ntmps15;go_wp2;go_loopw [5,6] (λv i wr=>∃k:Nat,k<=n/\i=.int .i64 k/\∃p,wr.ownsRow w.heap.size 3 1 v (Bd p k).length ((Bd p k).map (Value.int .i64))/\Hand wr hb B A cap l (N+k)/\KH hb w wr) (λ_ i _=>n-(intOf i).toNat)
 case atStart=>exact⟨0,by omega,rfl,λ_=>false,x9 _ _ _ _,HH.out,KT.refl _ _⟩
 case round =>
  obtain⟨k,hk,rfl,p,hown,hh,CZ⟩:=hrel;have hz:=CZ.size;have HK:=xl CZ;have HO:=xl hown;clear hown CZ;by_cases hlk:k<n
  .have HC:=xl (qH hb B A cap l (N+k) 1 2 wr hh (by omega) (by omega));clear hh;go_wp2_with fail;refine HC.out.mono ?_;rintro e w2 ⟨⟨v,rfl⟩,hh,CZ⟩;have S7:=xl (HK.out.trans CZ);have hown2:=l6 HO.out hlt CZ;have KF:=xl hh;have hz2:=CZ.size;have SJ:=xl hown2;have HP:=xl (fo (λj=>if j=k then v else p j) k);have YM:=xl (gZ (p:=λj=>if j=k then v else p j) (q:=p) (k:=k) λi hi=>if_neg (by omega))
   have JY:=dT p k;clear CZ hh HC;cases v with
   |true =>
    go_wp2_with (at_builtin;refine ip rfl _ _ rfl w.heap.size _ _ _ rfl (hown2.alloc _) ⟨w2.heap.size,0,none⟩ 1 (.int .i64 k) rfl ?c1 rfl ?c2 ?c3 ?_)
    case c1=>rw[xu _ _ _ _ (by simp)];rfl
    case c2=>omega
    case c3=>simp;omega
    intro v' w3 hown' hgrow hd;have S4:=xl (eM S7.out hown2 (xp _) hgrow hd)
    have G6:Hid (w3.ownsRow w.heap.size 3 1 v' (Bd (λj=>if j=k then true else p j) (k+1)).length ((Bd (λj=>if j=k then true else p j) (k+1)).map (Value.int .i64))):=xl (by
     rw[HP.out,YM.out,if_pos (by simp)];simpa using hown')
    have Ze:=xl ((dm KF.out hown2 hlt hgrow).more (M:=N+(k+1)) (by omega));clear hown' hgrow hd hown2;go_wp2;go_roundw
    case rel=>exact⟨k+1,by omega,by go_num,_,G6.out,Ze.out,S4.out⟩
    case measure=>simp[intOf];omega
   |false =>
    have G6:Hid (w2.ownsRow w.heap.size 3 1 _ (Bd (λj=>if j=k then false else p j) (k+1)).length ((Bd (λj=>if j=k then false else p j) (k+1)).map (Value.int .i64))):=xl (by
     rw[HP.out,YM.out,if_neg (by simp)];simpa using SJ.out)
    clear hown2;go_wp2;go_roundw
    case rel=>exact⟨k+1,by omega,by go_num,_,G6.out,KF.out,S7.out⟩
    case measure=>simp[intOf];omega
  .have Ik:k=n:=by omega
   subst Ik;have KF:=xl hh;clear hh;go_wp2;go_ret;exact⟨_,p,rfl,HO.out,KF.out,HK.out⟩
def oW (hb B:Nat)(A nA hA:Option Addr)(cap nc hc:Nat)(l:List Int)(N n m:Nat)(w:World)(h:Hand w hb B A cap l N)(hN:N<=100000)(hn:n<=64)(hm:m<=64) :
  Calls AG 6 #[.pointer (some ⟨hb,0,none⟩),.agg #[.slice nA n nc,.slice hA m hc]] w λe w'=>∃v ls xs,e=.returned v/\AY w' (w.heap.size+1) v ls xs/\ls.length=n/\(∀x∈ls,∃p,x=Bd p m)/\Hand w' hb B A cap l (N+n*m)/\KH hb w w':=by
 obtain⟨W0,hW0⟩:∃W0:World,W0=w.alloc (.cells #[.slice nA n nc,.slice hA m hc] 27):=⟨_,rfl⟩;have hg0:Gr w W0:=hW0▸(Gr.refl w).alloc _;have HZ0:Hid (W0.heap.size=w.heap.size+1):=xl (by rw[hW0];simp);have HH:=xl (h.gr hg0);have hlt:=h.lt;have HW:=xl hW0;have Ds:=xl hg0
 have HC:Hid (W0.cell? ⟨w.heap.size,0,none⟩=some (.slice nA n nc)/\W0.cell? ⟨w.heap.size,1,none⟩=some (.slice hA m hc)):=xl (by
  rw[hW0,xu _ _ _ _ rfl,xu _ _ _ _ rfl];exact⟨rfl,rfl⟩)
 have HK0:Hid (∀W,KT (·=hb) W0 W->KT (·=hb) w W):=xl λW hk=>⟨hk.os.trans hg0.below.os,hk.tape.trans hg0.below.tape,hk.output.trans hg0.below.output,xI hg0.drawn hk.drawn,xI hg0.size hk.size,λb hb' hne=>(hk.block b (xx hb' hg0.size) hne).trans (hg0.below.block b hb')⟩;clear hW0 hg0 h;go_enter Sq.func6,Tryz.ntmps6;go_wp2;rw[<-HW.out];go_loopw [5,6] (λv i wr=>∃k:Nat,k<=n/\i=.int .i64 k/\∃ls xs,AY wr (w.heap.size+1) v ls xs/\ls.length=k/\(∀x∈ls,∃p,x=Bd p m)/\Hand wr hb B A cap l (N+k*m)/\KH hb W0 wr) (λ_ i _=>n-(intOf i).toNat)
 case atStart=>exact⟨0,by omega,rfl,[],[],AY.nil _ _,rfl,λx hx=>by simp at hx,HH.out.more (by omega),KT.refl _ _⟩
 case round =>
  obtain⟨k,hk,rfl,ls,xs,Hx,SS,hall,hh,CZ⟩:=hrel;have hne:w.heap.size≠hb:=by omega
  have agS:=HZ0.out;have hc0:wr.cell? ⟨w.heap.size,0,none⟩=some (.slice nA n nc):=(xN (CZ.block w.heap.size (by omega) hne)).trans HC.out.1;have hc1:wr.cell? ⟨w.heap.size,1,none⟩=some (.slice hA m hc):=(xN (CZ.block w.heap.size (by omega) hne)).trans HC.out.2;have hz:w.heap.size<wr.heap.size:=by have:=CZ.size;omega
  have HK:=xl CZ;have HO:=xl Hx;have T7:=xl hall;clear CZ Hx hall agS;by_cases hlk:k<n
  .have F0:=xl (vY hb B A cap l (N+k*m) m wr hh (by have:k*m<=64*64:=Nat.mul_le_mul (by omega) hm;omega) hm);have HHR:=xl hh;clear hh;go_wp2_with fail;refine F0.out.mono ?_;rintro e w2 ⟨v2,p,rfl,hown,hh,CZ⟩;obtain⟨A2,c2,rfl,_⟩:=zY hown;have S7:=xl (HK.out.trans CZ);have SJ:=xl (HO.out.keep' (w':=w2) λb hb1 hb2=>CZ.block b hb2 (by omega));have HOW:=xl (B1 hown (show w.heap.size+1<=wr.heap.size by omega))
   have KF:=xl hh;have hz2:=CZ.size;have hrow:=SJ.out.row;clear CZ hh hown F0;rw[SS] at hrow;have Js:=xl hrow;go_wp2_with (at_builtin;refine tj rfl _ _ rfl (w.heap.size+1) _ _ _ rfl (hrow.alloc _) ⟨w2.heap.size,0,none⟩ 1 (.slice A2 (Bd p m).length c2) rfl ?c1 rfl ?c2 ?c3 ?_)
   case c1=>rw[Addr.add_lit,xu _ _ _ _ (by simp)];rfl
   case c2=>omega
   case c3=>simp;omega
   intro v' w3 hown' hgrow hd;have S4:=xl (eM S7.out Js.out (by rw[HZ0.out];exact xp _) hgrow hd);have Ze:=xl ((dm KF.out Js.out (by omega) hgrow).more (M:=N+(k+1)*m) (by rw[Nat.succ_mul];omega));have G6:=xl (SJ.out.push (l:=Bd p m) HOW.out (λb hb'=>heap_alloc_old _ _ hb') (by simp) hgrow SS.symm hown');have abX:Hid (∀x∈ls++[Bd p m],∃p,x=Bd p m):=xl λx hx=>by
    rcases yD.1 hx with hx|hx
    .exact T7.out x hx
    .simp at hx;exact⟨p,hx⟩
   clear hown' hgrow hd hrow;go_wp2;go_roundw
   case rel=>exact⟨k+1,by omega,by go_num,_,_,G6.out,by simp[SS],abX.out,Ze.out,S4.out⟩
   case measure=>simp[intOf];omega
  .have Ik:k=n:=by omega
   subst Ik;have KF:=xl hh;clear hh;go_wp2;go_ret;exact⟨_,ls,xs,rfl,HO.out,SS,T7.out,KF.out,HK0.out _ HK.out⟩
end Go.Proofs.YtjcgijifamcggaaGreat
namespace Go.Sq
open Go.RowKit
end Go.Sq
namespace Go.Proofs.YtjcgijifamcggaaGreat
open Go.RowKit Go.Sq
end Go.Proofs.YtjcgijifamcggaaGreat
namespace Go.Sq
open Go.RowKit
def kU {l:List Int}{k:Nat}(hk:k<l.length)(n:Int):n∈l.take (k+1)↔n∈l.take k\/l[k]?.getD 0=n:=by
 rw[aS 0 l k hk,yD,yT];constructor
 .rintro(h|h);exact .inl h;exact .inr h.symm
 .rintro(h|h);exact .inl h;exact .inr h.symm
end Go.Sq
namespace Go.Proofs.YtjcgijifamcggaaGreat
open Go.RowKit Go.Sq
def jX (A:Option Addr)(c:Nat)(l:List Int)(n:Int)(w:World)(B:Nat)(h:RI w B A l)(hl:l.length<=1048576) :
  Calls AG 12 #[.slice A l.length c,.int .i64 n] w λe w'=>(∃r:Int,e=.returned (.int .i64 r)/\(0<=r↔n∈l))/\w=w':=by
 have HR:=xl h;clear h;go_enter Sq.func12,Tryz.ntmps12;go_wp2;go_loop [5] (λi=>∃k:Nat,k<=l.length/\i=.int .i64 k/\n ∉ l.take k) (λi=>l.length-(intOf i).toNat)
 case atStart=>exact⟨0,by omega,rfl,by simp⟩
 case round =>
  obtain⟨k,hk,rfl,hno⟩:=hrel;have YN:=xl hno;clear hno;by_cases hlt:k<l.length
  .obtain⟨b,o,rfl,hb,hc⟩:=HR.out.at_ hlt;have HS:=xl (kU hlt n);have HM:=xl (Dq l k hlt);generalize l[k]?.getD 0=y at hc HS HM;by_cases hyn:y=n
   .have HF:Hid (0<=(k:Int)↔n∈l):=xl (by have:=HM.out;rw[hyn] at this;simp[this]);clear HS HM;go_wp2;go_ret;exact⟨⟨_,rfl,HF.out⟩,rfl⟩
   .have HN:Hid (n ∉ l.take (k+1)):=xl (by rw[HS.out];exact not_or.2 ⟨YN.out,hyn⟩);clear HS HM;go_wp2;go_round
    case rel=>exact⟨k+1,by omega,by go_num,HN.out⟩
    case measure=>simp[intOf];omega
  .have:k=l.length:=by omega
   have HF:Hid ((0:Int)<=-1↔n∈l):=xl (by have:=YN.out;rw[xZ (by omega)] at this;simp[this]);clear this;go_wp2;go_ret;exact⟨⟨_,rfl,HF.out⟩,rfl⟩
end Go.Proofs.YtjcgijifamcggaaGreat
namespace Go.Sq
open Go.RowKit
def oX (l:List Int)(h:∀x∈l,0<=x)(x i:Nat):(l.foldl (λx h=>x ||| 2 ^ h.toNat) x).testBit i=(x.testBit i||decide ((i:Int)∈l)):=by
 induction l generalizing x with
 |nil=>simp
 |cons a l ih =>
  rw[zw,ih (λy hy=>h y (by simp[hy])),Nat.testBit_or,Nat.testBit_two_pow,Bool.or_assoc];congr 1;have h0:=h a (by simp);by_cases e:a.toNat=i
  .have:(i:Int)=a:=by omega
   simp[e,this]
  .have:¬(i:Int)=a:=by omega
   simp[e,this]
def uC {l:List Int}(h:∀x∈l,0<=x)(i:Nat):(G4 l).testBit i=decide ((i:Int)∈l):=by
 unfold G4;rw[oX l h];simp
def kD {c:AW}{ls:List (List Int)}(hc:Bi c=0)(hn:ls.length=c.AK.length)(hl:∀x∈ls,∃p,x=Bd p c.AH.length):Ba c ls=0:=by
 have hm:BV ls.length c.AK.length c.AK.length=0:=cG.2 (by omega);unfold Ba;rw[if_neg (by simp[hc]),if_neg (by simp[hm])];refine dx λx hx=>?_;obtain⟨l,h1,rfl⟩:=xU.1 hx;obtain⟨p,rfl⟩:=hl l h1;exact hP _ _
def sumTo (f:Nat->Int):Nat->Int
 |0=>0
 |k+1=>sumTo f k+f k
def dp:∀ {l m:List Int},l.Pairwise (·<·)->m.Pairwise (·<·)->(∀x,x∈l↔x∈m)->l=m
 |[],[],_,_,_=>rfl
 |[],b::m,_,_,h=>absurd ((h b).2 (yL ..)) (by simp)
 |a::l,[],_,_,h=>absurd ((h a).1 (yL ..)) (by simp)
 |a::l,b::m,hl,hm,h=>by
  obtain⟨h1,h2⟩:=zS.1 hl;obtain⟨h3,h4⟩:=zS.1 hm;have e:a=b:=by
   rcases xC.1 ((h a).1 (yL ..)) with e|e
   .exact e
   .rcases xC.1 ((h b).2 (yL ..)) with e2|e2
    .exact e2.symm
    .have:=h3 a e;have:=h1 b e2;omega
  subst e;congr 1;refine dp h2 h4 λx=>⟨λhx=>?_,λhx=>?_⟩
  .rcases xC.1 ((h x).1 (yU _ hx)) with e|e
   .have:=h1 x hx;omega
   .exact e
  .rcases xC.1 ((h x).2 (yU _ hx)) with e|e
   .have:=h3 x hx;omega
   .exact e
def l7 {l:List Int}(h:∀i,i+1<l.length->l[i]?.getD 0<l[i+1]?.getD 0):l.Pairwise (·<·):=by
 induction l with
 |nil=>exact .nil
 |cons a l ih =>
  have ih':=ih λi hi=>by have:=h (i+1) (by simpa using hi);simpa using this
  refine zS.2 ⟨λb hb=>?_,ih'⟩;cases l with
  |nil=>cases hb
  |cons c l =>
   have h0:=h 0 (by simp);simp at h0;rcases xC.1 hb with rfl|hb
   .exact h0
   .have:=(zS.1 ih').1 b hb;omega
def oY {l:List Int}{m:Nat}(h:De l m=0):∃p,l=Bd p m:=by
 obtain⟨h1,_,h2⟩:=FM h;refine⟨λn=>decide ((n:Int)∈l),dp (l7 h2) (cH _ _) λx=>?_⟩;rw[CE];constructor
 .intro hx;have:=h1 x hx;refine⟨x.toNat,by omega,by omega,?_⟩;rw[show((x.toNat:Nat):Int)=x by omega];simpa using hx
 .rintro⟨n,rfl,_,hn⟩;simpa using hn
def IA {c:AW}{ls:List (List Int)}(h:Ba c ls=0):ls.length=c.AK.length/\∀x∈ls,De x c.AH.length=0:=by
 unfold Ba at h;split at h
 .exact absurd h (by assumption)
 .split at h
  .exact absurd h (by assumption)
  .rename_i h1 h2;refine⟨?_,λx hx=>aQ.1 h _ (xU.2 ⟨x,hx,rfl⟩)⟩;have h2:BV ls.length c.AK.length c.AK.length=0:=by simpa using h2
   unfold BV at h2;split at h2
   .omega
   .split at h2<;>omega
def eN {c:AW}{ls:List (List Int)}(h:Ba c ls=0):Bi c=0:=by
 unfold Ba at h;split at h
 .exact absurd h (by assumption)
 .simpa using ‹¬Bi c≠0›
def KG {c:AW}{ls:List (List Int)}(h:Ba c ls=0):ls.length<=1048576/\∀x∈ls,x.length<=1048576:=by
 have DV:=AW.Ok.of (eN h);obtain⟨h1,h2⟩:=IA h;have:=DV.n5;have:=DV.h4;refine⟨by omega,λx hx=>?_⟩;have:=(FM (h2 x hx)).2.1;omega
end Go.Sq
namespace Go.Proofs.YtjcgijifamcggaaGreat
open Go.RowKit Go.Sq
end Go.Proofs.YtjcgijifamcggaaGreat
namespace Go.Sq
open Go.RowKit
end Go.Sq
namespace Go.Proofs.YtjcgijifamcggaaGreat
open Go.RowKit Go.Sq
end Go.Proofs.YtjcgijifamcggaaGreat
namespace Go.Sq
open Go.RowKit
end Go.Sq
namespace Go.Proofs.YtjcgijifamcggaaGreat
open Go.RowKit Go.Sq
end Go.Proofs.YtjcgijifamcggaaGreat
namespace Go.Sq
open Go.RowKit
structure CO (w0:World)(hb B:Nat)(A:Option Addr)(cap:Nat)(l:List Int)(M base:Nat)(v:Value)(ns:List Int)(W:World):Prop where
 hand:Hand W hb B A cap l M
 En:W.heap[w0.heap.size+1]?=some (.cells #[v,.slice none 0 0] 27 (0,0))
 FU:W.heap[w0.heap.size]?=some (.cells #[.slice none 0 0,.slice none 0 0] 27 (0,0))
 own:W.ownsRow base 3 1 v ns.length (ns.map (Value.int .i64))
 kt:KT (·=hb) w0 W
 lt:hb<w0.heap.size
 bs:w0.heap.size+2<=base/\base<=W.heap.size
section
variable {w0 W W':World} {hb B:Nat} {A:Option Addr} {cap:Nat} {l:List Int} {M base:Nat} {v:Value} {ns:List Int}
def CO.drew (h:CO w0 hb B A cap l M base v ns W):CO w0 hb B A cap l M base v ns W.drew :=
 ⟨h.hand.gr (Gr.refl W).drew,h.En,h.FU,Bb h.own λ_ _ _=>rfl,⟨h.kt.os,h.kt.tape,h.kt.output,zy h.kt.drawn,h.kt.size,h.kt.block⟩,h.lt,h.bs⟩
def CO.alloc (h:CO w0 hb B A cap l M base v ns W)(o:Obj):CO w0 hb B A cap l M base v ns (W.alloc o) :=
 ⟨h.hand.gr ((Gr.refl W).alloc o),(heap_alloc_old _ _ (xm.1 h.En).1).trans h.En,(heap_alloc_old _ _ (xm.1 h.FU).1).trans h.FU,h.own.alloc o,h.kt.trans (KT.Cu ((Gr.refl W).alloc o)),h.lt,by have:=h.bs;simp;omega⟩
def CO.H8 (h:CO w0 hb B A cap l M base v ns W){M':Nat}(hh:Hand W' hb B A cap l M')(k:KT (·=hb) W W'):CO w0 hb B A cap l M' base v ns W' :=
 ⟨hh,(k.block _ (xm.1 h.En).1 (by have:=h.lt;omega)).trans h.En,(k.block _ (xm.1 h.FU).1 (by have:=h.lt;omega)).trans h.FU,l6 h.own (by have:=h.lt;have:=h.bs;omega) k,h.kt.trans k,h.lt,by have:=h.bs;have:=k.size;omega⟩
def Hand.set {W:World}{hb B cap N:Nat}{A:Option Addr}{l:List Int}(h:Hand W hb B A cap l N){p:Addr}(hp:hb<p.block)(x:Value):Hand (W.setCell p x) hb B A cap l N:=by
 obtain⟨n,s,h1,h2⟩:=h.obj;have hB:=h.apart;exact⟨⟨n,s,(xE _ _ _ _ (by omega)).trans h1,h2⟩,h.Ow.keep λb o hb'=>xN (xE _ _ _ _ (by show b≠p.block;omega)),hB⟩
def KT.set {w0 W:World}{hb:Nat}(h:KT (·=hb) w0 W){p:Addr}(hp:w0.heap.size<=p.block)(x:Value):KT (·=hb) w0 (W.setCell p x) :=
 ⟨h.os,h.tape,h.output,h.drawn,by have:=h.size;simpa [World.setCell] using this,λb hb' hne=>(xE _ _ _ _ (by omega)).trans (h.block b hb' hne)⟩
def CO.more (h:CO w0 hb B A cap l M base v ns W){M':Nat}(hm:M<=M'):CO w0 hb B A cap l M' base v ns W:=⟨h.hand.more hm,h.En,h.FU,h.own,h.kt,h.lt,h.bs⟩
def CO.push (h:CO w0 hb B A cap l M base v ns W){w6:World}{o:Obj}{v':Value}{z:Int}(hown:w6.ownsRow base 3 1 v' (ns++[z]).length ((ns++[z]).map (Value.int .i64)))(hg:(W.alloc o).grownBy w6 v.ownBlock)(hd:(W.alloc o).drawn<=w6.drawn) :
  CO w0 hb B A cap l M base v' (ns++[z]) (w6.setCell ⟨w0.heap.size+1,0,none⟩ v'):=by
 have hlt:=h.lt;have YO:=h.bs;have hq:=(C0 h.own hg (w0.heap.size+1) (by omega) (xm.1 h.En).1).trans h.En;have hr:=(C0 h.own hg w0.heap.size (by omega) (xm.1 h.FU).1).trans h.FU;refine⟨(dm h.hand h.own (by omega) hg).set (by show hb<w0.heap.size+1;omega) _,?_,(xE _ _ _ _ (by simp)).trans hr,ownsRow_setCell_below hown (by show w0.heap.size+1<base;omega) _,(eM h.kt h.own (by omega) hg hd).set (by show _<=w0.heap.size+1;omega) _,hlt,YO.1,by have:=fS hg;simp[World.setCell];omega⟩
 exact Bn hq
def xd {W:World}{K:Nat->Prop}{a b:Int}(hK:K W.heap.size):F8 (W.alloc (.cells #[.int .i64 a,.int .i64 b] 3)) K (some ⟨W.heap.size,0,none⟩) [a,b]:=λ_=>⟨_,0,rfl,hK,λi x hx=>by
 rw[xu _ _ _ _ rfl]
 match i,hx with
 |0,hx=>cases hx;rfl
 |1,hx=>cases hx;rfl⟩
def xe {W:World}{K:Nat->Prop}{a:Int}(hK:K W.heap.size):F8 (W.alloc (.cells #[.int .i64 a] 3)) K (some ⟨W.heap.size,0,none⟩) [a]:=λ_=>⟨_,0,rfl,hK,λi x hx=>by
 rw[xu _ _ _ _ rfl]
 match i,hx with
 |0,hx=>cases hx;rfl⟩
def CO.room (h:CO w0 hb B A cap l M base v ns W)(o:Obj):W.heap.size≠hb/\W.heap.size<(W.alloc o).heap.size:=by
 have:=h.hand.lt;simp;omega
def CO.cell (h:CO w0 hb B A cap l M base v ns W):W.cell? ⟨w0.heap.size+1,0,none⟩=some v/\W.frozen? ⟨w0.heap.size+1,0,none⟩=false/\w0.heap.size+1<W.heap.size:=⟨(cell_of_heap h.En 0).1,(cell_of_heap h.En 0).2,(xm.1 h.En).1⟩
def eO {W W':World}{K K':Nat->Prop}{A:Option Addr}{q:List Int}(h:F8 W K A q)(hk:∀b,K b->K' b)(hc:∀b o,K b->W'.cell? ⟨b,o,none⟩=W.cell? ⟨b,o,none⟩):F8 W' K' A q:=λhn=>by
 obtain⟨b,o,e,h1,h2⟩:=h hn;exact⟨b,o,e,hk b h1,λi x hx=>(hc _ _ h1).trans (h2 i x hx)⟩
def fT {W W':World}{K K':Nat->Prop}{A:Option Addr}{q:List BH}(h:Ed W K A q)(hk:∀b,K b->K' b)(hc:∀b o,K b->W'.cell? ⟨b,o,none⟩=W.cell? ⟨b,o,none⟩):Ed W' K' A q:=λhn=>by
 obtain⟨b,o,e,h1,h2⟩:=h hn;refine⟨b,o,e,hk b h1,λi x hx=>?_⟩;obtain⟨k0,k1,k2,A',c,k3,k4⟩:=h2 i x hx;exact⟨(hc _ _ h1).trans k0,(hc _ _ h1).trans k1,(hc _ _ h1).trans k2,A',c,(hc _ _ h1).trans k3,eO k4 hk hc⟩
def dw (h:BH)(y:Value):List Value:=[.int .i64 h.heads,.int .i64 h.DC,.int .i64 h.most,y]
structure CP (w0:World)(hb B:Nat)(A:Option Addr)(cap:Nat)(l:List Int)(M base:Nat)(v:Value)(ns:List Int)(u:Value)(hs:List BH)(xs:List Value)(W:World):Prop where
 hand:Hand W hb B A cap l M
 En:W.heap[w0.heap.size+1]?=some (.cells #[v,u] 27 (0,0))
 FU:W.heap[w0.heap.size]?=some (.cells #[.slice none 0 0,.slice none 0 0] 27 (0,0))
 own:W.ownsRow base 3 1 v ns.length (ns.map (Value.int .i64))
 Ct:W.ownsRow base 58 4 u hs.length xs
 G3:∀i h,hs[i]?=some h->∃y,(∀j,j<4->xs[i*4+j]?=(dw h y)[j]?)/\W.ownsRow base 3 1 y h.off.length (h.off.map (Value.int .i64))
 kt:KT (·=hb) w0 W
 lt:hb<w0.heap.size
 bs:w0.heap.size+2<=base/\base<=W.heap.size
variable {u:Value} {hs:List BH} {xs:List Value}
def CO.cp (h:CO w0 hb B A cap l M base v ns W):CP w0 hb B A cap l M base v ns (.slice none 0 0) [] [] W :=
 ⟨h.hand,h.En,h.FU,h.own,x9 _ _ _ _,λi h hi=>by simp at hi,h.kt,h.lt,h.bs⟩
def CP.keep (h:CP w0 hb B A cap l M base v ns u hs xs W){M':Nat}(hh:Hand W' hb B A cap l M')(hk:∀b,b<W.heap.size->b≠hb->W'.heap[b]?=W.heap[b]?)(kt:KT (·=hb) w0 W')(hz:W.heap.size<=W'.heap.size):CP w0 hb B A cap l M' base v ns u hs xs W':=by
 have hlt:=h.lt;have YO:=h.bs;have ok:∀ {e:TypeId} {sz n:Nat} {y:Value} {zs:List Value},W.ownsRow base e sz y n zs->W'.ownsRow base e sz y n zs:=λho=>Bb ho λg hg hl=>hk g hl (by have:=(ho.lt g hg).1;omega);refine⟨hh,(hk _ (xm.1 h.En).1 (by omega)).trans h.En,(hk _ (xm.1 h.FU).1 (by omega)).trans h.FU,ok h.own,ok h.Ct,λi x hi=>?_,kt,hlt,by omega⟩;obtain⟨y,h1,h2⟩:=h.G3 i x hi;exact⟨y,h1,ok h2⟩
def CP.H8 (h:CP w0 hb B A cap l M base v ns u hs xs W){M':Nat}(hh:Hand W' hb B A cap l M')(k:KT (·=hb) W W'):CP w0 hb B A cap l M' base v ns u hs xs W' :=
 h.keep hh (λb hb' hne=>k.block b hb' hne) (h.kt.trans k) k.size
def CP.alloc (h:CP w0 hb B A cap l M base v ns u hs xs W)(o:Obj):CP w0 hb B A cap l M base v ns u hs xs (W.alloc o) :=
 h.keep (h.hand.gr ((Gr.refl W).alloc o)) (λb hb' _=>heap_alloc_old _ _ hb') (h.kt.trans (KT.Cu ((Gr.refl W).alloc o))) (by simp)
def CP.more (h:CP w0 hb B A cap l M base v ns u hs xs W){M':Nat}(hm:M<=M'):CP w0 hb B A cap l M' base v ns u hs xs W:=⟨h.hand.more hm,h.En,h.FU,h.own,h.Ct,h.G3,h.kt,h.lt,h.bs⟩
def CP.cell (h:CP w0 hb B A cap l M base v ns u hs xs W):W.cell? ⟨w0.heap.size+1,1,none⟩=some u/\W.frozen? ⟨w0.heap.size+1,1,none⟩=false/\w0.heap.size+1<W.heap.size:=⟨(cell_of_heap h.En 1).1,(cell_of_heap h.En 1).2,(xm.1 h.En).1⟩
def CP.push (h:CP w0 hb B A cap l M base v ns u hs xs W){w6:World}{o:Obj}{u' y:Value}{x:BH}(hy:W.ownsRow base 3 1 y x.off.length (x.off.map (Value.int .i64)))(hown:w6.ownsRow base 58 4 u' (hs.length+1) (xs++dw x y))(hg:(W.alloc o).grownBy w6 u.ownBlock)(hd:(W.alloc o).drawn<=w6.drawn) :
  CP w0 hb B A cap l M base v ns u' (hs++[x]) (xs++dw x y) (w6.setCell ⟨w0.heap.size+1,1,none⟩ u'):=by
 have hlt:=h.lt;have YO:=h.bs;have Pb:xs.length=hs.length*4:=h.Ct.1;have hq:=(C0 h.Ct hg (w0.heap.size+1) (by omega) (xm.1 h.En).1).trans h.En;have hr:=(C0 h.Ct hg w0.heap.size (by omega) (xm.1 h.FU).1).trans h.FU;have ok:∀ {n:Nat} {z:Value} {zs:List Value},W.ownsRow base 3 1 z n zs->(w6.setCell ⟨w0.heap.size+1,1,none⟩ u').ownsRow base 3 1 z n zs:=λho=>Bb ho λg Dd hl =>
  (xE _ _ _ _ (by have:=(ho.lt g Dd).1;show g≠w0.heap.size+1;omega)).trans ((hg.block g (by simp;omega) (cx (by decide) ho h.Ct Dd)).trans (heap_alloc_old _ _ hl))
 refine⟨(dm h.hand h.Ct (by omega) hg).set (by show hb<w0.heap.size+1;omega) _,?_,(xE _ _ _ _ (by simp)).trans hr,ok h.own,?_,λi z hi=>?_,(eM h.kt h.Ct (by omega) hg hd).set (by show _<=w0.heap.size+1;omega) _,hlt,YO.1,by have:=fS hg;simp[World.setCell];omega⟩
 .exact Bn hq
 .rw[zd];exact ownsRow_setCell_below hown (by show w0.heap.size+1<base;omega) _
 .rcases yf i hs.length with hi'|hi'
  .rw[yz hi'] at hi;obtain⟨y',h1,h2⟩:=h.G3 i z hi;exact⟨y',λj hj=>by rw[yz (by omega)];exact h1 j hj,ok h2⟩
  .have e : i = hs.length := by
    have:=(xS.1 hi).1;simp at this;omega
   subst e;rw[yv (xp _)] at hi;simp at hi;subst hi;exact⟨y,λj hj=>by rw[yv (by omega),Pb];congr 1;omega,ok hy⟩
def CP.Dt (h:CP w0 hb B A cap l M base v ns u hs xs W):∃nA nc hA hc,v=.slice nA ns.length nc/\u=.slice hA hs.length hc/\F8 W (λb=>base<=b/\b<W.heap.size) nA ns/\Ed W (λb=>base<=b/\b<W.heap.size) hA hs:=by
 obtain⟨nA,nc,e1,h1⟩:=EU h.own;rcases h.Ct.2 with⟨rfl,h0⟩|⟨g,hc,cur,rfl,hgb,hgo,_⟩
 .have:hs=[]:=xT h0;subst this;exact⟨nA,nc,none,0,e1,rfl,h1,λhn=>absurd rfl hn⟩
 .refine⟨nA,nc,some ⟨g,0,none⟩,hc,e1,rfl,h1,λ_=>⟨g,0,rfl,⟨hgb,(xm.1 hgo).1⟩,λi x hi=>?_⟩⟩;obtain⟨y,hj,ho⟩:=h.G3 i x hi;obtain⟨A',c',rfl,hr⟩:=EU ho;have hcell:=h.Ct.cells (g:=g) rfl;have at_:∀j z,j<4->(dw x (.slice A' x.off.length c'))[j]?=some z->W.cell? ⟨g,0+i*4+j,none⟩=some z:=λj z hj4 hz=>by
   have:=hcell (i*4+j) z ((hj j hj4).trans hz);have e:(⟨g,0,none⟩:Addr).add (i*4+j)=⟨g,0+(i*4+j),none⟩:=by unfold Addr.add;split<;>simp_all
   rw[e,<-zu] at this;exact this
  exact⟨at_ 0 _ (by omega) rfl,at_ 1 _ (by omega) rfl,at_ 2 _ (by omega) rfl,A',c',at_ 3 _ (by omega) rfl,hr⟩
end
end Go.Sq
namespace Go.Proofs.YtjcgijifamcggaaGreat
open Go.RowKit Go.Sq
def dK {w:World}{ops:Array Oper}{o:Oper}{a:Act}{K:Act->World->Prop}{Q:Exit->Act->World->Prop}{E:Prop}(hgd:o.guard=none)(h:Oper.wp AG o a w K Q):if Region.wanted o (yielded ops a.tmps)=true then Oper.wp AG o a w K Q else E:=by
 have hw:Region.wanted o (yielded ops a.tmps)=true:=by simp[Region.wanted,hgd]
 rw[if_pos hw];exact h
def oZ {w:World}{ops:Array Oper}{o:Oper}{a:Act}{K:Act->World->Prop}{Q:Exit->Act->World->Prop}{E:Prop}(hgd:o.guard=none)(s x:Operand)(ho:o.op=.call { callee:=.builtin .append,args:=#[s,x],argTypes:=#[22,22] })(UJ:o.type=22)
  (base:Nat) (v:Value) (n:Nat) (xs:List Value) (hs:a.eval s=v) (hown:w.ownsRow base 3 1 v n xs) (y:Value) (h1:y.oneCell'=true) (hx:a.eval x=.slice (some ⟨w.heap.size,0,none⟩) 1 1) (hn:n<=1048576) (hbase:base<=w.heap.size)
  (h:∀v' w',w'.ownsRow base 3 1 v' (n+1) (xs++[y])->(w.alloc (.cells #[y] 3)).grownBy w' v.ownBlock->(w.alloc (.cells #[y] 3)).drawn<=w'.drawn->K (a.put o.dst v') w') :
  if Region.wanted o (yielded ops a.tmps)=true then Oper.wp AG o a (w.alloc (.cells #[y] 3)) K Q else E:=by
 have hw:Region.wanted o (yielded ops a.tmps)=true:=by simp[Region.wanted,hgd]
 rw[if_pos hw];obtain⟨i0,hi,hz0,hz1,hz2⟩:=info_parts Ac
 obtain⟨v',w',hr,h2,h3,h4⟩:=run_append_own (P:=AG) (w.alloc (.cells #[y] 3)) base 22 22 3 i0 _ 1 8 ((Sq.underlying 22).trans Tryz.underlying22) hi hz0 hz1 hz2 rfl (by decide) v n xs (hown.alloc _) ⟨w.heap.size,0,none⟩ 1 1 [y] rfl (λj u hj=>by
  match j,hj with
  |0,hj=>cases hj;rw[Addr.add_lit,xu _ _ _ _ (by simp)];rfl) (λu hu=>by simp at hu;subst hu;exact h1) (by unfold maxLen;omega) (by omega) (by simp;omega)
 have hd:=Go.Bl.Cy AG (Builtin.append_ #[22,22] 22 #[v,.slice (some ⟨w.heap.size,0,none⟩) 1 1]) (w.alloc (.cells #[y] 3)) #[];rw[Sem.runT_fst,hr] at hd;unfold Oper.wp execOp;simp only[ho,resolve,invoke,builtin,Sem.run_bind,Sem.run_pure,Result.andThen_ok,zr,yE,yH,hs,hx,hr,UJ];exact h v' w' h2 h3 hd
def wR {w:World}{ops:Array Oper}{rest:List Oper}{o:Oper}{a:Act}{Q:Exit->Act->World->Prop}(hgd:o.guard=none)(s x:Operand)(ho:o.op=.call { callee:=.builtin .append,args:=#[s,x],argTypes:=#[25,25] })
  (base:Nat) (v:Value) (n:Nat) (xs:List Value) (hs:a.eval s=v) (hown:w.ownsRow base 58 4 v n xs) (ad:Addr) (c:Nat) (news:List Value) (hx:a.eval x=.slice (some ad) 1 c) (h4:news.length=4) (hc:∀(j:Nat) (u:Value),news[j]?=some u->w.cell? (ad.add j)=some u) (h1:∀u∈news,u.oneCell'=true)
  (hn:n<=1048576) (hbase:base<=w.heap.size) (h:∀v' w',w'.ownsRow base 58 4 v' (n+1) (xs++news)->w.grownBy w' v.ownBlock->w.drawn<=w'.drawn->wpList AG ops Q rest (a.put o.dst v') w'):wpList AG ops Q (o::rest) a w:=by
 obtain⟨i0,hi,hz0,hz1,hz2⟩:=info_parts Ai;exact Bx hgd s x 25 ho base 58 i0 _ 4 48 Sq.underlying25 hi hz0 hz1 hz2 rfl (by decide) v n xs hs hown ad 1 c news hx (by omega) hc h1 (by unfold maxLen;omega) (by omega) hbase h
end Go.Proofs.YtjcgijifamcggaaGreat
namespace Go.Sq
open Go.RowKit
end Go.Sq
namespace Go.Proofs.YtjcgijifamcggaaGreat
open Go.RowKit Go.Sq
end Go.Proofs.YtjcgijifamcggaaGreat
namespace Go.Sq
def vZ {l:List Int}{m:Nat}(hl:∃p,l=Bd p m)(hm:m<=4):wl (G4 l)=l:=by
 obtain⟨p,rfl⟩:=hl;have hn:∀x∈Bd p m,0<=x:=λx hx=>by obtain⟨n,rfl,_⟩:=CE.1 hx;omega
 have e:wl (G4 (Bd p m))=Bd (G4 (Bd p m)).testBit 4:=rfl;rw[e];unfold Bd;have h1:(List.range 4).filter (G4 (((List.range m).filter p).map λn:Nat=>(n:Int))).testBit=(List.range m).filter p:=by
  have h2:(List.range 4)=List.range m++(List.range (4-m)).map (m+·):=by
   rw[<-List.range_add];congr 1;omega
  have hb:∀i:Nat,(G4 (((List.range m).filter p).map λn:Nat=>(n:Int))).testBit i=decide ((i:Int)∈Bd p m):=λi=>uC hn i;rw[h2,yR];have h3:(List.range m).filter (G4 (((List.range m).filter p).map λn:Nat=>(n:Int))).testBit=(List.range m).filter p:=by
   refine zz λi hi=>?_;rw[hb];have hi:=yb.1 hi;cases hp:p i with
   |true=>exact decide_eq_true (CE.2 ⟨i,rfl,hi,hp⟩)
   |false =>
    refine decide_eq_false λh=>?_;obtain⟨n,e,_,h⟩:=CE.1 h;obtain rfl:i=n:=by omega
    rw[hp] at h;cases h
  rw[h3];have h4:((List.range (4-m)).map (m+·)).filter (G4 (((List.range m).filter p).map λn:Nat=>(n:Int))).testBit=[]:=by
   refine List.filter_eq_nil_iff.2 λi hi=>?_;obtain⟨k,_,rfl⟩:=xU.1 hi;rw[hb];intro h;obtain⟨n,e,h1,_⟩:=CE.1 (of_decide_eq_true h);omega
  rw[h4,zv]
 rw[h1]
open Go.RowKit
end Go.Sq
namespace Go.Proofs.YtjcgijifamcggaaGreat
open Go.RowKit Go.Sq
end Go.Proofs.YtjcgijifamcggaaGreat
namespace Go.Sq
open Go.RowKit
def RI.cell' {w:World}{B:Nat}{ad:Addr}{l:List Int}(h:RI w B (some ad) l)(hB:B<=w.heap.size):∀j u,(l.map (Value.int .i64))[j]?=some u->w.cell? (ad.add j)=some u/\(ad.add j).block<w.heap.size:=λj u hj=>by
 rw[yw] at hj;cases hx:l[j]? with
 |none=>rw[hx] at hj;cases hj
 |some x =>
  rw[hx] at hj;obtain⟨b,o,e,hb,hc⟩:=h (λe=>by rw[e] at hx;simp at hx);obtain rfl:ad=⟨b,o,none⟩:=by injection e
  have e2:(⟨b,o,none⟩:Addr).add j=⟨b,o+j,none⟩:=Addr.add_lit _ _ _;rw[e2];exact⟨by rw[hc j x hx];exact hj,by show b<_;omega⟩
end Go.Sq
namespace Go.Proofs.YtjcgijifamcggaaGreat
open Go.RowKit Go.Sq
def jA (A:Option Addr)(c:Nat)(l:List Int)(w:World)(B:Nat)(h:RI w B A l)(hB:B<=w.heap.size)(hl:l.length<=1048576) :
  Calls AG 57 #[.slice A l.length c] w λe w'=>∃v,e=.returned v/\w'.ownsRow w.heap.size 3 1 v l.length (l.map (Value.int .i64))/\Gr w w':=by
 obtain⟨i0,hi,hz0,hz1,hz2⟩:=info_parts Ac;have HR:=xl h;clear h;cases A with
 |none =>
  have hl0:l=[]:=by
   cases l with
   |nil=>rfl
   |cons x l=>obtain⟨_,_,e,_⟩:=HR.out (by simp);cases e
  subst hl0;go_enter Sq.func57,Tryz.ntmps57;go_wp2;go_ret;exact⟨_,rfl,zQ w #[] 0 (xp _) (xQ _) rfl,(Gr.refl w).alloc _⟩
 |some ad =>
  have HC:=xl (HR.out.cell' hB);go_enter Sq.func57,Tryz.ntmps57;go_wp2_with (at_builtin;refine Bx rfl _ _ 22 rfl w.heap.size 3 i0 (.int .i64 0) 1 8 Sq.underlying22 hi hz0 hz1 hz2 rfl (by decide) _ _ _ rfl (zQ w #[] 0 (xp _) (xQ _) rfl) ad l.length c (l.map (Value.int .i64)) rfl ?qc1 ?qc2 ?qc3 ?qc4 ?qc5 ?qc6 ?_)
  case qc1=>simp
  case qc2=>intro j u hj;exact(xN (za _ _ _ (HC.out j u hj).2)).trans (HC.out j u hj).1
  case qc3=>intro u hu;obtain⟨x,_,rfl⟩:=xU.1 hu;rfl
  case qc4=>unfold maxLen;omega
  case qc5=>omega
  case qc6=>simp
  intro v' w1 hown hgrow hd;have hG:=xl (((Gr.refl w).alloc _).grown hgrow hd (by intro k hk;simp[Value.ownBlock] at hk;omega));have hO:=xl hown;clear hown hgrow hd;go_wp2;go_ret;exact⟨v',rfl,by simpa using hO.out,hG.out⟩
end Go.Proofs.YtjcgijifamcggaaGreat
namespace Go.Sq
open Go.RowKit
end Go.Sq
namespace Go.Proofs.YtjcgijifamcggaaGreat
open Go.RowKit Go.Sq
open Go.Bl (gW jw iE)
def Es:Code->Code
 |.seq _ c=>c
 |c=>c
def Cx:Code->Code
 |.seq c _=>c
 |c=>c
def Ca:Nat->Code->Code
 |0,c=>c
 |n+1,c=>Ca n (Es c)
structure Made (c:AW)(nA hA gA:Option Addr)(cb:Nat)(nc hc:Nat)(ls:List (List Int))(W:World):Prop where
 lt:cb<W.heap.size
 c0:W.cell? ⟨cb,0,none⟩=some (.slice nA c.AK.length nc)
 c1:W.cell? ⟨cb,1,none⟩=some (.slice hA c.AH.length hc)
 AK:RI W W.heap.size nA c.AK
 Ct:Dr W W.heap.size hA c.AH
 Ox:CR W W.heap.size gA ls
def Made.gr {c:AW}{nA hA gA:Option Addr}{cb nc hc:Nat}{ls:List (List Int)}{W W':World}(h:Made c nA hA gA cb nc hc ls W)(hg:Gr W W'):Made c nA hA gA cb nc hc ls W' :=
 ⟨xx h.lt hg.size,(hg.cell (p:=⟨cb,0,none⟩) h.lt).trans h.c0,(hg.cell (p:=⟨cb,1,none⟩) h.lt).trans h.c1,(h.AK.gr (xp _) hg).more hg.size,(h.Ct.keep λ_ _ hb=>hg.cell hb).more hg.size,(h.Ox.gr (xp _) hg).more hg.size⟩
structure GN (c:AW)(nA hA:Option Addr)(v:Value)(cb nc hc lo:Nat)(ls:List (List Int))(xs:List Value)(W:World):Prop where
 bd:lo<=cb/\cb<W.heap.size
 c0:W.cell? ⟨cb,0,none⟩=some (.slice nA c.AK.length nc)
 c1:W.cell? ⟨cb,1,none⟩=some (.slice hA c.AH.length hc)
 AK:F8 W (λb=>lo<=b/\b<W.heap.size) nA c.AK
 Ct:Ed W (λb=>lo<=b/\b<W.heap.size) hA c.AH
 Ox:AY W lo v ls xs
section
variable {c:AW} {nA hA:Option Addr} {v:Value} {cb nc hc lo:Nat} {ls:List (List Int)} {xs:List Value} {W W':World}
def GN.keep (h:GN c nA hA v cb nc hc lo ls xs W)(hz:W.heap.size<=W'.heap.size)(hk:∀b,lo<=b->b<W.heap.size->W'.heap[b]?=W.heap[b]?):GN c nA hA v cb nc hc lo ls xs W':=by
 obtain⟨h1,h2⟩:=h.bd;have hc':∀b o,lo<=b/\b<W.heap.size->W'.cell? ⟨b,o,none⟩=W.cell? ⟨b,o,none⟩:=λb o hb=>xN (hk b hb.1 hb.2);exact⟨⟨h1,by omega⟩,(hc' _ _ ⟨h1,h2⟩).trans h.c0,(hc' _ _ ⟨h1,h2⟩).trans h.c1,eO h.AK (λb hb=>⟨hb.1,by omega⟩) hc',fT h.Ct (λb hb=>⟨hb.1,by omega⟩) hc',h.Ox.keep' hk⟩
def GN.H8 {hb:Nat}(h:GN c nA hA v cb nc hc lo ls xs W)(hb':hb<lo)(k:KT (·=hb) W W'):GN c nA hA v cb nc hc lo ls xs W':=h.keep k.size λb h1 h2=>k.block b h2 (by omega)
def GN.made {gA:Option Addr}{gc:Nat}(h:GN c nA hA (.slice gA ls.length gc) cb nc hc lo ls xs W):Made c nA hA gA cb nc hc ls W:=by
 obtain⟨A,k,e,hg⟩:=h.Ox.Ky;injection e with e1 e2 e3
 subst e1;exact⟨h.bd.2,h.c0,h.c1,h.AK.ri λb hb=>hb.2,h.Ct.hs λb hb=>hb.2,hg⟩
end
end Go.Proofs.YtjcgijifamcggaaGreat
namespace Go.Sq
end Go.Sq
namespace Go.Proofs.YtjcgijifamcggaaGreat
open Go.RowKit Go.Sq
open Go.Bl (gW jw iE)
end Go.Proofs.YtjcgijifamcggaaGreat
namespace Go.Sq
open Go.RowKit
end Go.Sq
namespace Go.Proofs.YtjcgijifamcggaaGreat
open Go.RowKit Go.Sq
def IW {α:Type}(r:Nat->α)(i:Nat)(v:α):Nat->α:=λj=>if j=i then v else r j
def fh {α:Type}(r:Nat->α)(i:Nat)(v:α):IW r i v i=v:=if_pos rfl
def cX {α:Type}{r:Nat->α}{i j:Nat}{v:α}(h:j≠i):IW r i v j=r j:=if_neg h
def T (n:Nat)(u:Nat->Value):Array Value:=((List.range n).map u).toArray
def we {l:List Value}:l.toArray=T l.length λi=>l[i]?.getD undef:=by
 unfold T;congr 1;refine zE (by simp) λi h1 h2=>?_;simp[h1]
def jY {P:Program}{c:Code}{Q:Exit->Act->World->Prop}{l:List Value}{ds:List Deferred}{w:World}(n:Nat)(hn:l.length=n)(h:∀u:Nat->Value,(∀i,u i=l[i]?.getD undef)->c.wp P Q ⟨T n u,ds⟩ w):c.wp P Q ⟨l.toArray,ds⟩ w:=by
 rw[we,hn];exact h _ λ_=>rfl
end Go.Proofs.YtjcgijifamcggaaGreat
namespace Go.Bl
def Ka (md:Region.Mode)(ops:Array Oper)(i:Nat):List Nat:=match ops[i]? with
 |some o=>(o.after.toList.filter (Region.binds md)).map (·.on)
 |none=>[]
def FC {md:Region.Mode}{ops:Array Oper}{listed:Array Bool}{i:Nat}:i∈Region.ready md ops listed↔i<ops.size/\listed.getD i true=false/\∀j∈Ka md ops i,listed.getD j false=true:=by
 unfold Region.ready Ka;rw[yX,yb];refine and_congr_right λhi=>?_;rw[xD hi];simp only[yC,Option.getD_some,xG,yG,xU,yX,Array.mem_toList_iff];refine and_congr_right λ_=>?_;rw[xR];constructor
 .rintro h j ⟨e,⟨he,hb⟩,rfl⟩;have:=h e he;simpa [hb] using this
 .intro h e he;cases hb:Region.binds md e with
  |false=>rfl
  |true=>simpa using h e.on ⟨e,⟨he,hb⟩,rfl⟩
def ma (md:Region.Mode)(ops:Array Oper)(m:Nat):Bool :=
 (List.range m).all (λi=>(List.range' (i+1) (m-i)).any λj=>(Ka md ops j).contains i)&&(List.range' (m+1) (ops.size-m-1)).all (λi=>(Ka md ops i).contains (i-1))&&(List.range ops.size).all (λi=>(Ka md ops i).all λj=>decide (j<i)) &&
  (ops.toList.take m).all (λo=>match o.guard with|some (j,_)=>decide (j<m)|none=>true)&&decide (m<ops.size)
section
variable {md:Region.Mode} {ops:Array Oper} {m:Nat}
structure T9 (md:Region.Mode)(ops:Array Oper)(m:Nat):Prop where
 up:∀i,i<m->∃j,i<j/\j<=m/\i∈Ka md ops j
 next:∀i,m<i->i<ops.size->i-1∈Ka md ops i
 lt:∀i,i<ops.size->∀j∈Ka md ops i,j<i
 guard:∀i o j b,i<m->ops[i]?=some o->o.guard=some (j,b)->j<m
 size:m<ops.size
def uD (h:ma md ops m=true):T9 md ops m:=by
 simp only[ma,xG,yu,List.any_eq_true,yb,List.mem_range'_1,List.contains_iff_mem,decide_eq_true_eq] at h;obtain⟨⟨⟨⟨h1,h2⟩,h3⟩,h4⟩,h5⟩:=h;refine⟨λi hi=>?_,λi hi hn=>h2 i ⟨by omega,by omega⟩,h3,λi o j b hi ho hg=>?_,h5⟩
 .obtain⟨j,hj,hm⟩:=h1 i hi;exact⟨j,by omega,by omega,hm⟩
 .have:=h4 o (List.mem_iff_getElem?.2 ⟨i,by rw[zx,if_pos hi];simpa using ho⟩);rw[hg] at this;simpa using this
def filter_one {p:Nat->Bool}{n k:Nat}(hk:k<n)(h:∀i,i<n->(p i=true↔i=k)):(List.range n).filter p=[k]:=by
 have e:(List.range n).filter p=(List.range n).filter λi=>i==k:=zz λi hi=>by
  have:=h i (yb.1 hi);cases hp:p i with
  |true=>simpa using(this.1 hp)
  |false =>
   have:i≠k:=λe=>by rw[this.2 e] at hp;cases hp
   simpa using this
 rw[e,List.filter_beq,List.count_range];simp[hk]
def dY {l:Array Bool}{i:Nat}(h:i<l.size):l.getD i true=l.getD i false:=by
 simp[Array.getD,h]
end
end Go.Bl
namespace Go.Sq
open Go.RowKit Go.Bl Go.Proofs.YtjcgijifamcggaaGreat
variable {P:Program} {ops:Array Oper} {Q:Exit->Act->World->Prop} {n m:Nat} {u:Nat->Value} {ds:List Deferred} {w:World}
def kX {t:Nat}(h:t<n):(T n u)[t]?=some (u t):=by simp[T,h]
def ia:(T n u).size=n:=by simp[T]
def wj {t:Nat}(h:t<n):(⟨T n u,ds⟩:Act).eval (.tmp t)=u t:=by
 show(T n u).getD t undef=u t;rw[yq,kX h];rfl
def wS {d:Nat}{v:Value}:(T n u).setIfInBounds d v=T n (IW u d v):=by
 refine Array.ext (by rw[Array.size_setIfInBounds,ia,ia]) λi h1 h2=>?_;rw[ia] at h2;have e1:(T n (IW u d v))[i]?=some (IW u d v i):=kX h2;have e2:((T n u).setIfInBounds d v)[i]?=some (IW u d v i):=by
  rw[yK];split
  .rename_i e;subst e;rw[if_pos (by rw[ia];exact h2),fh]
  .rename_i e;rw[kX h2,cX (Ne.symm e)]
 rw[xD h1] at e2;rw[xD (by rw[ia];exact h2)] at e1;injection e1 with e1
 injection e2 with e2
 rw[e1,e2]
def Hs (u:Nat->Value):Option Nat->Value->Nat->Value
 |some d,v=>IW u d v
 |none,_=>u
def jB {d:Option Nat}{v:Value}:(⟨T n u,ds⟩:Act).put d v=⟨T n (Hs u d v),ds⟩:=by
 cases d with
 |none=>rfl
 |some d=>show Act.mk _ _=_;rw[wS];rfl
class Rfl (R:World->World->Prop):Prop where
 refl:∀w,R w w
class Goes (R:World->World->Prop):Prop extends Rfl R where
 trans:∀ {a b c},R a b->R b c->R a c
 drew:∀w,R w w.drew
instance:Goes Gr:={ refl:=Gr.refl,trans:=Gr.trans,drew:=λw=>(Gr.refl w).drew }
variable {R:World->World->Prop}
def Done (R:World->World->Prop)(P:Program)(ops:Array Oper)(Q:Exit->Act->World->Prop)(n:Nat)(ds:List Deferred)(i:Nat)(V:Value->World->Prop)(u:Nat->Value)(w:World):Prop :=
 wpOp P ops Q i (λa' w'=>∃v,a'=⟨T n (Hs u ((ops[i]?).bind (·.dst)) v),ds⟩/\R w w'/\V v w') ⟨T n u,ds⟩ w
def Done.weak {R R':World->World->Prop}{i:Nat}{V:Value->World->Prop}(hR:∀w',R w w'->R' w w')(h:Done R P ops Q n ds i V u w):Done R' P ops Q n ds i V u w :=
 wpOp_mono (λ_ _ ⟨v,h1,h2,h3⟩=>⟨v,h1,hR _ h2,h3⟩) h
def Till (R:World->World->Prop)(J:World->Prop)(c i:Nat)(w w':World):Prop:=R w w'/\(i≠c->J w->J w')
def IX (ops:Array Oper)(t:Nat):Bool:=ops.all λo=>o.dst != some t
structure Txt (md:Region.Mode)(ops:Array Oper)(m:Nat):Prop where
 lt:∀i,i<ops.size->∀j∈Ka md ops i,j<i
 one:∀(i j:Nat) (oi oj:Oper) (d:Nat),i<j->ops[i]?=some oi->ops[j]?=some oj->oi.dst=some d->oj.dst≠some d
 last:m=ops.size\/T9 md ops m
def Kd (md:Region.Mode)(ops:Array Oper)(m:Nat):Bool :=
 (List.range ops.size).all (λi=>(Ka md ops i).all λj=>decide (j<i))&&decide ((ops.toList.filterMap (·.dst)).Nodup)&&(decide (m=ops.size)||ma md ops m)
def Sc {md:Region.Mode}(h:Kd md ops m=true):Txt md ops m:=by
 simp only[Kd,xG,xV,yu,yb,decide_eq_true_eq] at h;obtain⟨⟨h1,h2⟩,h3⟩:=h;refine⟨h1,λi j oi oj d hij hi hj hd hdj=>?_,h3.imp id uD⟩;obtain⟨l⟩:=ops;simp only[yd] at hi hj;dsimp only at h2;clear h1 h3
 induction l generalizing i j with
 |nil=>simp at hi
 |cons o l ih =>
  cases i with
  |zero =>
   simp only[List.getElem?_cons_zero,Option.some.injEq] at hi;subst hi;rw[List.filterMap_cons,hd] at h2;have:=(List.nodup_cons.1 h2).1;refine this (List.mem_filterMap.2 ⟨oj,?_,hdj⟩);cases j with
   |zero=>omega
   |succ j=>exact yM (by simpa using hj)
  |succ i =>
   cases j with
   |zero=>omega
   |succ j =>
    refine ih i j (by omega) ?_ (by simpa using hi) (by simpa using hj);rw[List.filterMap_cons] at h2;cases ho:o.dst with
    |none=>rw[ho] at h2;exact h2
    |some x=>rw[ho] at h2;exact(List.nodup_cons.1 h2).2
def bL {l:Array Bool}{i j:Nat}(hs:i<l.size){b:Bool}:(l.setIfInBounds i true).getD j b=if j=i then true else l.getD j b:=by
 rw[yq,yK,yq];by_cases e:i=j
 .subst e;simp[hs]
 .rw[if_neg e,if_neg (Ne.symm e)]
def pa {md:Region.Mode}(L:T9 md ops m){k:Nat}{listed:Array Bool}(hk:k<ops.size)(hm:m<=k)(hs:listed.size=ops.size)(hl:∀i,i<ops.size->listed.getD i true=decide (i<k)):Region.ready md ops listed=[k]:=by
 have hd:∀j,j<ops.size->(listed.getD j false=true↔j<k):=λj hj=>by
  rw[<-dY (by omega),hl j hj];simp
 refine filter_one hk λi hi=>?_;have FL:=FC (md:=md) (ops:=ops) (listed:=listed) (i:=i);unfold Region.ready at FL;rw[yX,yb] at FL;have:_↔_:=⟨λh=>(FL.1 ⟨hi,h⟩).2,λh=>(FL.2 ⟨hi,h⟩).2⟩;rw[this,hl i hi];constructor
 .rintro⟨h1,h2⟩;have h1:¬i<k:=by simpa using h1
  by_cases e:i=k
  .exact e
  .have:=(hd (i-1) (by omega)).1 (h2 _ (L.next i (by omega) hi));omega
 .rintro rfl;exact⟨by simp,λj hj=>(hd j (Nat.lt_trans (L.lt i hi j hj) hi)).2 (L.lt i hi j hj)⟩
def mb {l:List Nat}(h:l.Nodup)(i:Nat):l.erase i=l.filter (· != i):=by
 induction l with
 |nil=>rfl
 |cons a l ih =>
  obtain⟨h1,h2⟩:=List.nodup_cons.1 h;rw[List.erase_cons,List.filter_cons];by_cases e:a=i
  .subst e;simp only[beq_self_eq_true,if_true,bne_self_eq_false,xP,if_false]
   exact(List.filter_eq_self.2 λb hb=>by
    have:b≠a:=λe=>h1 (e▸hb)
    simpa using this).symm
  .have e1:(a==i)=false:=by simpa using e
   have e2:(a != i)=true:=by simpa using e
   rw[e1,e2];simp only[xP,if_false,if_true];rw[ih h2]
def sI {md:Region.Mode}(L:T9 md ops m):∀(d k:Nat) (listed:Array Bool) (a:Act) (w:World),k+d=ops.size->m<=k->listed.size=ops.size->(∀i,i<ops.size->listed.getD i true=decide (i<k))->wpOps P ops Q (List.range' k d) a w->wpAny P md ops Q d listed a w:=by
 intro d
 induction d with
 |zero =>
  intro k listed a w hk hm hs hl h;refine⟨List.eq_nil_iff_forall_not_mem.2 λi hi=>?_,h⟩;obtain⟨h1,h2,_⟩:=FC.1 hi;rw[hl i h1] at h2;simp at h2;omega
 |succ d ih =>
  intro k listed a w hk hm hs hl h;have hr:=pa L (by omega) hm hs hl;refine⟨λe=>(by rw[hr] at e;cases e),λi hi=>?_⟩;rw[hr] at hi;obtain rfl:i=k:=by simpa using hi
  rw[List.range'_succ,wpOps_cons] at h;refine wpOp_mono (λa w h=>ih (i+1) _ a w (by omega) (by omega) (by simpa using hs) (λj hj=>?_) h) h;rw[bL (by omega),hl j hj];by_cases e:j=i
  .subst e;simp
  .rw[if_neg e];exact decide_eq_decide.2 (by omega)
def uE [Goes R](c:Nat)(J:World->Prop)(s dS:Nat)(S:(Nat->Value)->World->Prop)(hS1:∀u w w',R w w'->S u w->S u w')(hS2:∀u w d v,d≠dS->S u w->S (IW u d v) w){md:Region.Mode}(X:Txt md ops m)(Xz:s<m->∀i,i<ops.size->(ops[i]?).bind (·.dst)=some dS->i∈Ka md ops s)(V:Nat->Value->World->Prop)(Ht:∀i v w w',R w w'->V i v w->V i v w'){w0:World}{u0:Nat->Value}
  (step:∀i,i<m->∀u w,R w0 w->(∀t,IX ops t=true->u t=u0 t)->(∀j o t,i∈Ka md ops j->ops[j]?=some o->o.dst=some t->u t=u0 t)->(∀j∈Ka md ops i,∀o d,ops[j]?=some o->o.dst=some d->V j (u d) w)->(i=c->J w)->Done (Till R J c i) P ops Q n ds i (λv w'=>V i v w'/\(i=s->S (Hs u ((ops[i]?).bind (·.dst)) v) w')) u w)
  (fin:∀u w,R w0 w->(∀t,IX ops t=true->u t=u0 t)->(∀i,i<m->∀o d,ops[i]?=some o->o.dst=some d->V i (u d) w)->(s<m->S u w)->wpOps P ops Q (List.range' m (ops.size-m)) ⟨T n u,ds⟩ w) :
  ∀(fuel:Nat) (listed:Array Bool) (u:Nat->Value) (w:World),listed.size=ops.size->((List.range ops.size).filter λi=>!listed.getD i true).length=fuel->R w0 w->(∀t,(∀j o,ops[j]?=some o->o.dst=some t->listed.getD j true=false)->u t=u0 t)->(∀i,i<m->listed.getD i true=true->∀o d,ops[i]?=some o->o.dst=some d->V i (u d) w)->(∀i,m<=i->i<ops.size->listed.getD i true=false) ->
   (∀i,i<m->listed.getD i true=true->∀j∈Ka md ops i,listed.getD j true=true)->(listed.getD c true=false->J w)->(s<m->listed.getD s true=true->S u w)->wpAny P md ops Q fuel listed ⟨T n u,ds⟩ w:=by
 have agU:m<=ops.size:=by
  rcases X.last with h|h
  .omega
  .have:=h.size;omega
 have Sd:∀ {t:Nat} {listed:Array Bool},IX ops t=true->∀j o,ops[j]?=some o->o.dst=some t->listed.getD j true=false:=λ{t} {listed} ht j o hj hd=>by
  unfold IX at ht;rw[xR] at ht;have:=ht _ (xY hj);rw[hd] at this;simp at this
 intro fuel
 induction fuel with
 |zero =>
  intro listed u w hs hc hg hf hv C7 JV hj hSS;have hall:∀i,i<ops.size->listed.getD i true=true:=λi hi=>by
   cases hb:listed.getD i true with
   |true=>rfl
   |false =>
    have:i∈(List.range ops.size).filter λi=>!listed.getD i true:=yX.2 ⟨yb.2 hi,by rw[hb];rfl⟩;rw[xT hc] at this;cases this
  have hm:m=ops.size:=by
   rcases yB agU with h|h
   .have:=C7 m (xp _) h;rw[hall m h] at this;cases this
   .exact h
  refine⟨List.eq_nil_iff_forall_not_mem.2 λi hi=>?_,?_⟩
  .obtain⟨h1,h2,_⟩:=FC.1 hi;rw[hall i h1] at h2;cases h2
  .have:=fin u w hg (λt ht=>hf t (Sd ht)) (λi hi=>hv i hi (hall i (by omega))) (λhsm=>hSS hsm (hall s (by omega)));rw[hm,Nat.sub_self] at this;exact this
 |succ fuel ih =>
  intro listed u w hs hc hg hf hv C7 JV hj hSS;by_cases hex:∃i,i<m/\listed.getD i true=false
  .refine⟨λhr=>?_,λi hi=>?_⟩
   .exfalso;have hno:∀k i,i<=k->i<m->listed.getD i true=true:=by
     intro k
     induction k using Nat.strongRecOn with
     |ind k ihk =>
      intro i hik hi;cases hb:listed.getD i true with
      |true=>rfl
      |false =>
       have:i∈Region.ready md ops listed:=FC.2 ⟨by omega,hb,λj hj=>by
        have:=X.lt i (by omega) j hj;rw[<-dY (by omega)]
        exact ihk j (by omega) j (xp _) (by omega)⟩
       rw[hr] at this;cases this
    obtain⟨i,h1,h2⟩:=hex;rw[hno i i (xp _) h1] at h2;cases h2
   .obtain⟨h1,h2,h3⟩:=FC.1 hi;have him:i<m:=by
     rcases X.last with h|L
     .omega
     .refine Nat.not_le.1 λhle=>?_;have hup:∀d i0,i0+d=m->i0<m->listed.getD i0 true=false->listed.getD m true=true\/(∀j∈Ka md ops m,listed.getD j true=true)->False:=by
       intro d
       induction d using Nat.strongRecOn with
       |ind d ihd =>
        intro i0 hd Sw Gt hor;obtain⟨j,hj1,hj2,Ul⟩:=L.up i0 Sw;rcases yB hj2 with hj|hj
        .cases hb:listed.getD j true with
         |false=>exact ihd (m-j) (by omega) j (by omega) hj hb hor
         |true =>
          have:=JV j hj hb i0 Ul;rw[Gt] at this;cases this
        .subst hj;rcases hor with h|h
         .rw[C7 j (xp _) L.size] at h;cases h
         .rw[h i0 Ul] at Gt;cases Gt
      obtain⟨i0,Sw,Gt⟩:=hex;rcases yB hle with hlt|he
      .have:=h3 (i-1) (L.next i hlt h1);rw[<-dY (by omega),C7 (i-1) (by omega) (by omega)] at this;cases this
      .subst he
       exact hup (m-i0) i0 (by omega) Sw Gt (.inr λj hj=>by
        have:=h3 j hj;have:=L.lt m h1 j hj
        rw[dY (by omega)];exact h3 j hj)
    have agV:∀j∈Ka md ops i,∀o d,ops[j]?=some o->o.dst=some d->V j (u d) w:=λj hj o d ho hd=>by
     have:=X.lt i h1 j hj;exact hv j (by omega) (by rw[dY (by omega)];exact h3 j hj) o d ho hd
    refine wpOp_mono ?_ (step i him u w hg (λt ht=>hf t (Sd ht)) (λj o t hij hj hd=>hf t λj' o' hj' hd'=>?_) agV λe=>hj (by rw[<-e];exact h2))
    rotate_left
    .have XV : j' = j := by
      rcases Nat.lt_trichotomy j' j with h|h|h
      .exact absurd hd (X.one j' j _ _ _ h hj' hj hd')
      .exact h
      .exact absurd hd' (X.one j j' _ _ _ h hj hj' hd)
     subst XV;have hjs:j'<ops.size:=(xm.1 hj').1;by_cases hjm:j'<m
     .cases hb:listed.getD j' true with
      |false=>rfl
      |true =>
       have:=JV j' hjm hb i hij;rw[h2] at this;cases this
     .exact C7 j' (by omega) hjs
    rintro a' w' ⟨v,rfl,⟨hgr,XV⟩,hV,hVS⟩;refine ih _ _ w' (by simpa using hs) ?_ (Goes.trans hg hgr) (λt ht=>?_) (λj hj hl o d ho hd=>?_) (λj hj I4=>?_) (λj hj hl k hk=>?_) (λhl=>?_) λhsm hl=>?_
    .have e : ((List.range ops.size).filter fun j => !(listed.setIfInBounds i true).getD j true) = ((List.range ops.size).filter fun j => !listed.getD j true).erase i := by
      rw[mb (List.nodup_range.filter _),List.filter_filter];refine zz λj hj=>?_;rw[bL (by omega)];by_cases e:j=i
      .simp[e]
      .simp[e]
     rw[e,List.length_erase_of_mem (yX.2 ⟨yb.2 h1,by rw[h2];rfl⟩),hc];rfl
    .have SC : ops[i].dst ≠ some t := fun e => by
      have:=ht i ops[i] (xD h1) e;rw[bL (by omega),if_pos rfl] at this;cases this
     have:Hs u ((ops[i]?).bind (·.dst)) v t=u t:=by
      rw[xD h1];show Hs u ops[i].dst v t=u t;cases YP:ops[i].dst with
      |none=>rfl
      |some d=>exact cX λe=>SC (by rw[YP,e])
     rw[this];refine hf t λj o hj hd=>?_;have:=ht j o hj hd;rw[bL (by omega)] at this;by_cases e:j=i
     .rw[if_pos e] at this;cases this
     .rwa [if_neg e] at this
    .rw[bL (by omega)] at hl;by_cases e:j=i
     .subst e;rw[ho];show V j (Hs u o.dst v d) w';rw[hd];show V j (IW u d v d) w';rw[fh];exact hV
     .rw[if_neg e] at hl;have:Hs u ((ops[i]?).bind (·.dst)) v d=u d:=by
       rw[xD h1];show Hs u ops[i].dst v d=u d;cases YP:ops[i].dst with
       |none=>rfl
       |some d' =>
        refine cX λe'=>?_;subst e';rcases Nat.lt_or_gt_of_ne e with h|h
        .exact X.one j i _ _ _ h ho (xD h1) hd YP
        .exact X.one i j _ _ _ h (xD h1) ho YP hd
      rw[this];exact Ht _ _ _ _ hgr (hv j hj hl o d ho hd)
    .rw[bL (by omega),if_neg (by omega)];exact C7 j hj I4
    .rw[bL (by omega)] at hl;rw[bL (by omega)];by_cases ek:k=i
     .rw[if_pos ek]
     .rw[if_neg ek];by_cases e:j=i
      .subst e;have:=X.lt j h1 k hk;rw[dY (by omega)];exact h3 k hk
      .rw[if_neg e] at hl;exact JV j hj hl k hk
    .rw[bL (by omega)] at hl;by_cases e:c=i
     .rw[if_pos e] at hl;cases hl
     .rw[if_neg e] at hl;exact XV (Ne.symm e) (hj hl)
    .rw[bL (by omega)] at hl;by_cases e:s=i
     .exact hVS e.symm
     .rw[if_neg e] at hl;have hS:=hS1 _ _ _ hgr (hSS hsm hl);rw[xD h1];show S (Hs u ops[i].dst v) w';cases YP:ops[i].dst with
      |none=>exact hS
      |some d =>
       refine hS2 _ _ _ _ (λed=>?_) hS;subst ed;have:=JV s hsm hl i (Xz hsm i h1 (by rw[xD h1];exact YP));rw[h2] at this;cases this
  .have hall : ∀ i, i < m -> listed.getD i true = true := fun i hi => by
    cases hb:listed.getD i true with
    |true=>rfl
    |false=>exact absurd ⟨i,hi,hb⟩ hex
   have FK:=fin u w hg (λt ht=>hf t (Sd ht)) (λi hi=>hv i hi (hall i hi)) λhsm=>hSS hsm (hall s hsm);have hl:∀i,i<ops.size->listed.getD i true=decide (i<m):=λi hi=>by
    by_cases h:i<m
    .rw[hall i h];simp[h]
    .rw[C7 i (by omega) hi];simp[h]
   have MN:ops.size-m=fuel+1:=by
    rw[<-hc];have e:((List.range ops.size).filter λi=>!listed.getD i true)=List.range' m (ops.size-m):=by
     have h1:List.range ops.size=List.range' 0 m++List.range' m (ops.size-m):=by
      have:=List.range'_append (s:=0) (m:=m) (n:=ops.size-m) (step:=1);rw[Nat.one_mul,xM] at this;rw[List.range_eq_range',this];congr 1;omega
     rw[h1,yR];have h2:(List.range' 0 m).filter (λi=>!listed.getD i true)=[]:=List.filter_eq_nil_iff.2 λi hi=>by
      have:=List.mem_range'_1.1 hi;rw[hall i (by omega)];simp
     have h3:(List.range' m (ops.size-m)).filter (λi=>!listed.getD i true)=List.range' m (ops.size-m):=List.filter_eq_self.2 λi hi=>by
      have:=List.mem_range'_1.1 hi;rw[C7 i (by omega) (by omega)];rfl
     rw[h2,h3];rfl
    rw[e,List.length_range']
   rcases X.last with h|L
   .omega
   .rw[MN] at FK;exact sI L (fuel+1) m listed _ w (by omega) (xp _) hs hl FK
end Go.Sq
