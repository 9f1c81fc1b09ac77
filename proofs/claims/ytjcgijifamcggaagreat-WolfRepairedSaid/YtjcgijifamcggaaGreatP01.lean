/- Parts of the proof. -/
import Derived.Test.YtjcgijifamcggaaGreatP00
import Derived.Outline
import Derived.RangeFuncNested
import Derived.RangeFuncBound
import Derived.RangeFuncCalls
import Derived.RangeFuncLeaves
import Derived.Shelf.Abstract
import Derived.Shelf.RegionOpen
import Derived.OwnWalkIn
import Derived.TacticsInMore
import Derived.LoopNIn
import Derived.LoopIn
set_option linter.all false
set_option maxHeartbeats 12800000
set_option maxRecDepth 1000000
namespace Go.Proofs.YtjcgijifamcggaaGreat
open Go.RowKit Go.Sq
def jF (x:Int)(w:World):Calls AG 107 #[.int .i64 x] w λe w'=>e=.returned (.bool false)/\w=w':=by
 go_enter Sq.func107,Tryz.ntmps107;go_wp2;go_ret;simp
def nL (a b:Int)(w:World):Calls AG 86 #[.int .i64 a,.int .i64 b] w λe w'=>e=.returned (.int .i64 (dq a b))/\w=w':=by
 by_cases h1:a<b
 .have HS:=xl (show dq a b=-1 by simp[dq,h1]);go_enter Sq.func86,Tryz.ntmps86;go_wp2_with (go_at_call 107;refine(jF _ _).mono ?_;rintro e w' ⟨rfl,rfl⟩);go_ret;exact⟨av HS.out.symm,rfl⟩
 .by_cases h2:b<a
  .have HS:=xl (show dq a b=1 by simp[dq,h1,h2]);go_enter Sq.func86,Tryz.ntmps86;go_wp2_with (go_at_call 107;refine(jF _ _).mono ?_;rintro e w' ⟨rfl,rfl⟩);go_ret;exact⟨av HS.out.symm,rfl⟩
  .have HS:=xl (show dq a b=0 by simp[dq,h1,h2]);go_enter Sq.func86,Tryz.ntmps86;go_wp2_with (go_at_call 107;refine(jF _ _).mono ?_;rintro e w' ⟨rfl,rfl⟩);go_ret;exact⟨av HS.out.symm,rfl⟩
def adS (l:List Int)(x:Int)(e:Ending):Prop:=∃j:Int,e=.returned (.int .i64 j)/\decide (0<=j)=decide (x∈l)
def tu (A:Option Addr)(c:Nat)(l:List Int)(x:Int)(w:World)(B:Nat)(h:RI w B A l)(hl:l.length<=4611686018427387904) :
  Calls AG 44 #[.slice A l.length c,.int .i64 x] w λe w'=>adS l x e/\w=w':=by
 have HR:=xl h;clear h;go_enter Sq.func44,Tryz.ntmps44;go_wp2;go_loop [8] (λi=>∃k:Nat,k<=l.length/\i=.int .i64 k/\x ∉ l.take k) (λi=>l.length-(intOf i).toNat)
 case atStart=>exact⟨0,by omega,rfl,by simp⟩
 case round =>
  obtain⟨k,hk,rfl,hn⟩:=hrel;by_cases hlt:k<l.length
  .obtain⟨b,o,rfl,hb,hc⟩:=HR.out.at_ hlt;have HT:=xl (aS 0 l k hlt);have hm:=Dq l k hlt;have HN:=xl hn;clear hn;generalize l[k]?.getD 0=y at hc HT hm;by_cases hy:x=y
   .have hb2:((x:Int)==y)=true:=by simpa using hy
    clear hy;go_wp2;go_ret;refine⟨⟨k,rfl,?_⟩,rfl⟩;have:x∈l:=by rw[show x=y by simpa using hb2];exact hm
    simp[this]
   .have hb2:((x:Int)==y)=false:=by simpa using hy
    go_wp2;go_round
    case rel=>exact⟨k+1,by omega,by go_num,by rw[HT.out];simp[HN.out,hy]⟩
    case measure=>simp[intOf];omega
  .have:k=l.length:=by omega
   have HN:=xl hn;clear hn;go_wp2;go_ret;refine⟨⟨-1,rfl,?_⟩,rfl⟩;have h2:=HN.out;rw[xZ (by omega)] at h2;simp[h2]
def i3 (A:Option Addr)(c:Nat)(l:List Int)(x:Int)(w:World)(B:Nat)(h:RI w B A l)(hl:l.length<=4611686018427387904) :
  Calls AG 20 #[.slice A l.length c,.int .i64 x] w λe w'=>e=.returned (.bool (decide (x∈l)))/\w=w':=by
 have HR:=xl h;clear h;go_enter Sq.func20,Tryz.ntmps20;go_wp2_with fail;refine(tu A c l x w B HR.out hl).mono ?_;rintro e w' ⟨⟨j,rfl,hj⟩,rfl⟩;have HJ:=xl hj;clear hj;go_wp2;go_ret;refine⟨?_,rfl⟩;have:=HJ.out;show Ending.returned (.bool _)=_;rw[<-this]
def j7 (A A':Option Addr)(c c':Nat)(l m:List Int)(w:World)(B:Nat)(h:RI w B A l)(h':RI w B A' m)(hl:l.length<=4611686018427387904)(hm:m.length<=4611686018427387904) :
  Calls AG 49 #[.slice A l.length c,.slice A' m.length c'] w λe w'=>e=.returned (.int .i64 (F7 l m))/\w=w':=by
 have HR:=xl h;have Y0:=xl h';clear h h';go_enter Sq.func49,Tryz.ntmps49;go_wp2;go_loop [11] (λi=>∃k:Nat,k<=l.length/\k<=m.length/\i=.int .i64 k/\F7 l m=F7 (l.drop k) (m.drop k)) (λi=>l.length-(intOf i).toNat)
 case atStart=>exact⟨0,by omega,by omega,rfl,rfl⟩
 case round =>
  obtain⟨k,hk,Eo,rfl,hcm⟩:=hrel;have HC:=xl hcm;clear hcm;by_cases hlt:k<l.length
  .obtain⟨b,o,rfl,hb,hc⟩:=HR.out.at_ hlt;by_cases NC:k<m.length
   .obtain⟨b',o',rfl,hb',hc'⟩:=Y0.out.at_ NC;have HD:=xl (pw l m k hlt NC);generalize l[k]?.getD 0=x at hc HD;generalize m[k]?.getD 0=y at hc' HD;by_cases h1:x<y
    .have HS:=xl (show dq x y=-1 by simp[dq,h1]);have hcc:Calls AG 86 #[.int .i64 x,.int .i64 y] w λe w'=>e=.returned (.int .i64 (-1))/\w=w':=by rw[<-HS.out];exact nL x y w
     go_wp2_with (go_at_call 86;refine hcc.mono ?_;rintro e w' ⟨rfl,rfl⟩);go_ret;exact⟨av (by rw[HC.out,HD.out,if_pos h1]),rfl⟩
    .by_cases h2:y<x
     .have HS:=xl (show dq x y=1 by simp[dq,h1,h2]);have hcc:Calls AG 86 #[.int .i64 x,.int .i64 y] w λe w'=>e=.returned (.int .i64 1)/\w=w':=by rw[<-HS.out];exact nL x y w
      go_wp2_with (go_at_call 86;refine hcc.mono ?_;rintro e w' ⟨rfl,rfl⟩);go_ret;exact⟨av (by rw[HC.out,HD.out,if_neg (by omega),if_pos h2]),rfl⟩
     .have HS:=xl (show dq x y=0 by simp[dq,h1,h2]);have hcc:Calls AG 86 #[.int .i64 x,.int .i64 y] w λe w'=>e=.returned (.int .i64 0)/\w=w':=by rw[<-HS.out];exact nL x y w
      go_wp2_with (go_at_call 86;refine hcc.mono ?_;rintro e w' ⟨rfl,rfl⟩);go_round
      case rel=>exact⟨k+1,by omega,by omega,by go_num,by rw[HC.out,HD.out,if_neg (by omega),if_neg (by omega)]⟩
      case measure=>simp[intOf];omega
   .have:k=m.length:=by omega
    have HS:=xl (show F7 l m=1 by rw[HC.out,List.drop_of_length_le (l:=m) (by omega)];exact pv _ (by simp;omega));clear this;go_wp2;go_ret;exact⟨av HS.out.symm,rfl⟩
  .have FD:k=l.length:=by omega
   by_cases NC:l.length<m.length
   .have HS:=xl (show F7 l m=-1 by rw[HC.out,List.drop_of_length_le (l:=l) (by omega),kY,if_neg (by simp;omega)]);clear FD;go_wp2;go_ret;exact⟨av HS.out.symm,rfl⟩
   .have HS:=xl (show F7 l m=0 by rw[HC.out,List.drop_of_length_le (l:=l) (by omega),kY,if_pos (by simp;omega)]);clear FD;go_wp2;go_ret;exact⟨av HS.out.symm,rfl⟩
def wD (A:Option Addr)(c:Nat)(l:List Int)(w:World)(B:Nat)(h:RI w B A l)(hl:l.length<=1048576)(hx:∀x∈l,0<=x/\x<=1048576) :
  Calls AG 65 #[.slice A l.length c] w λe w'=>e=.returned (.int .i64 l.sum)/\w=w':=by
 have HR:=xl h;have HX:=xl hx;clear h hx;go_enter Sq.func65,Tryz.ntmps65;go_wp2;go_loop [3,8] (λs i=>∃k:Nat,k<=l.length/\i=.int .i64 k/\s=.int .i64 (l.take k).sum) (λ_ i=>l.length-(intOf i).toNat)
 case atStart=>exact⟨0,by omega,rfl,by simp⟩
 case round =>
  obtain⟨k,hk,rfl,rfl⟩:=hrel;by_cases hlt:k<l.length
  .obtain⟨b,o,rfl,hb,hc⟩:=HR.out.at_ hlt;have HS:=xl (kZ l k hlt);have hy:=HX.out _ (Dq l k hlt);obtain⟨hs1,hs2⟩:=EG 0 1048576 (l.take k) λy hy=>HX.out y (zp hy);have hs3:((l.take k).length:Int)*1048576<=1048576*1048576:=by
    have:(l.take k).length<=1048576:=by rw[yQ];omega
    omega
   have hs4:0<=(l.take k).sum:=by omega
   have hs5:(l.take k).sum<=1099511627776:=by omega
   clear hs1 hs2 hs3;generalize l[k]?.getD 0=y at hc HS hy;obtain⟨hy1,hy2⟩:=hy;go_wp2;go_round
   case rel=>exact⟨k+1,by omega,by go_num,by rw[HS.out]⟩
   case measure=>simp[intOf];omega
  .have:k=l.length:=by omega
   have HS:=xl (show(l.take k).sum=l.sum by rw[xZ (by omega)]);clear this;go_wp2;go_ret;exact⟨av HS.out,rfl⟩
def ii (x:Nat)(w:World)(hx:x<16):Calls AG 50 #[.int .u8 x] w λe w' =>
  ∃A c,e=.returned (.slice A (wl x).length c)/\RI w' w'.heap.size A (wl x)/\Gr w w':=(gh x w hx).mono λe w' ⟨v,h1,h2,h3⟩=>by
 obtain⟨A,c,rfl,h4⟩:=zY h2;exact⟨A,c,h1,h4,h3⟩
def pz (cb:Nat)(c:AW)(x:Nat)(w:World){nA hA:Option Addr}{nc hc:Nat}(h:CY w w.heap.size cb c nA hA nc hc)(h4:c.AH.length<=4)(hd:∀h∈c.AH,1<=h.DC/\h.DC<=5)(hx:c.has x) :
  Calls AG 91 #[.pointer (some ⟨cb,0,none⟩),.int .u8 x] w λe w'=>e=.returned (.int .i64 (c.DC x))/\Gr w w':=by
 have HP:=xl h;have HD:=xl hd;have HX:=xl hx;have JF:=z8 h4 hx;clear h hd hx;go_enter Sq.func91,Tryz.ntmps91;go_wp2_with fail;refine(ii x w JF).mono ?_;rintro e w1 ⟨A,cc,rfl,Ea,hgr⟩;have HR:=xl Ea;have HG:=xl hgr;have Hv:=xl (HP.out.gr (xp _) hgr);have hl:=bM x;clear Ea hgr;go_wp2;go_loop [5,11] (λs i=>∃k:Nat,k<=(wl x).length/\i=.int .i64 k/\s=.int .i64 ((c.IE x).take k).sum) (λ_ i=>(wl x).length-(intOf i).toNat)
 case atStart=>exact⟨0,by omega,rfl,by simp⟩
 case round =>
  obtain⟨k,hk,rfl,rfl⟩:=hrel;by_cases hlt:k<(wl x).length
  .obtain⟨b,o,rfl,hb,hcell⟩:=HR.out.at_ hlt;obtain⟨n,hn,Hu,ND,Y1⟩:=MT HX.out hlt;rw[hn] at hcell;have hc0:=Hv.out.c0;have hc1:=Hv.out.c1;obtain⟨hb2,ho2,rfl,JG,hh⟩:=Hv.out.Ct.at_ Hu;obtain⟨-,hdog,-,-⟩:=hh;have HS:=xl ((kZ (c.IE x) k (by rw[c.I6];exact hlt)).trans (by rw[c.S0 hlt hn]));obtain⟨hs1,hs2⟩:=MU c HX.out HD.out k;obtain⟨O5,KL⟩:=HD.out _ (c.GI Hu);have HN:=xl hn
   clear hn;go_wp2;go_round
   case rel=>exact⟨k+1,by omega,by go_num,by rw[HS.out]⟩
   case measure=>simp[intOf];omega
  .have FD:k=(wl x).length:=by omega
   have HS:=xl (show((c.IE x).take k).sum=c.DC x by rw[xZ (by rw[c.I6];omega)];rfl);clear FD;go_wp2;go_ret;exact⟨av HS.out,HG.out⟩
def s6 (cb br n night:Nat)(c:AW)(w:World){nA hA:Option Addr}{nc hc:Nat}(h:CY w w.heap.size cb c nA hA nc hc)(hn:n<c.AH.length)(ho:(c.h n).off.length<=5)(Y2:n<4) :
  Calls AG 88 #[.pointer (some ⟨cb,0,none⟩),.pointer (some ⟨br,0,none⟩),.int .i64 night,.int .i64 n] w λe w'=>e=.returned (.bool (YZ c night n))/\w=w':=by
 have HP:=xl h;have hc0:=h.c0;have hc1:=h.c1;obtain⟨b,o,rfl,hlt,hh⟩:=h.Ct.at_ hn;obtain⟨-,-,-,A,cc,Fq,Ea⟩:=hh;have HC:=xl (i3 A cc (c.h n).off night w w.heap.size Ea (by omega));clear h Ea;go_enter Sq.func88,Tryz.ntmps88;go_wp2_with fail;refine HC.out.mono ?_;rintro e w' ⟨rfl,rfl⟩;go_wp2;go_ret;exact⟨rfl,rfl⟩
def mU (cb br n night:Nat)(r:Nat->Nat)(w:World)(hr:Ec w w.heap.size br r)(hn:n<4)(hi:night<5)(hx:r (night-1)<16) :
  Calls AG 89 #[.pointer (some ⟨cb,0,none⟩),.pointer (some ⟨br,0,none⟩),.int .i64 night,.int .i64 n] w λe w'=>e=.returned (.bool (cZ r night n))/\w=w':=by
 rcases yg night with h0|h0
 .have HS:=xl (show cZ r night n=false by simp[cZ,h0]);subst h0;clear hr hx;go_enter Sq.func89,Tryz.ntmps89;go_wp2;go_ret;exact⟨aH HS.out.symm,rfl⟩
 .obtain⟨m,rfl⟩:∃m,night=m+1:=⟨night-1,by omega⟩;have HS:=xl (show cZ r (m+1) n=(r m).testBit n by simp[cZ]);have hc:=hr.2 m (by omega);rw[show m+1-1=m by omega] at hx;have HC:=xl (iZ (r m) n w hx hn);clear hr;go_enter Sq.func89,Tryz.ntmps89;go_wp2_with fail;refine HC.out.mono ?_;rintro e w' ⟨rfl,rfl⟩;go_wp2;go_ret;exact⟨aH HS.out.symm,rfl⟩
def mV (cb br n night:Nat)(c:AW)(r:Nat->Nat)(w:World){nA hA:Option Addr}{nc hc:Nat}(h:CY w w.heap.size cb c nA hA nc hc)(hr:Ec w w.heap.size br r)(hn:n<c.AH.length)(Y2:n<4)(hi:night<5)(hx:∀i,r i<16) :
  Calls AG 90 #[.pointer (some ⟨cb,0,none⟩),.pointer (some ⟨br,0,none⟩),.int .i64 night,.int .i64 n] w λe w'=>e=.returned (.bool (ge c r night n))/\w=w':=by
 have HP:=xl h;have HR:=xl hr;have HX:=xl hx;have hc0:=h.c0;have hc1:=h.c1;obtain⟨b,o,rfl,hlt,hh⟩:=h.Ct.at_ hn;obtain⟨-,-,hmost,-⟩:=hh;clear h hr hx;go_enter Sq.func90,Tryz.ntmps90;go_wp2;go_loop [9,12] (λs i=>∃k:Nat,k<=night/\i=.int .i64 k/\s=.int .i64 (DZ r n k)) (λ_ i=>night-(intOf i).toNat)
 case atStart=>exact⟨0,by omega,rfl,rfl⟩
 case round =>
  obtain⟨k,hk,rfl,rfl⟩:=hrel;have hle:=px r n k;by_cases hlt:k<night
  .have hc:=HR.out.2 k (by omega);have JF:=HX.out k;cases hb:(r k).testBit n with
   |true =>
    have HC:Hid (Calls AG 87 #[.int .u8 (r k),.int .i64 n] w λe w'=>e=.returned (.bool true)/\w=w'):=xl (by rw[<-hb];exact iZ (r k) n w JF Y2);have HS:=xl (show DZ r n (k+1)=DZ r n k+1 by simp[DZ,hb]);clear hb;go_wp2_with (go_at_call 87;refine HC.out.mono ?_;rintro e w' ⟨rfl,rfl⟩);go_round
    case rel=>exact⟨k+1,by omega,by go_num,by rw[HS.out];go_num⟩
    case measure=>simp[intOf];omega
   |false =>
    have HC:Hid (Calls AG 87 #[.int .u8 (r k),.int .i64 n] w λe w'=>e=.returned (.bool false)/\w=w'):=xl (by rw[<-hb];exact iZ (r k) n w JF Y2);have HS:=xl (show DZ r n (k+1)=DZ r n k by simp[DZ,hb]);clear hb;go_wp2_with (go_at_call 87;refine HC.out.mono ?_;rintro e w' ⟨rfl,rfl⟩);go_round
    case rel=>exact⟨k+1,by omega,by go_num,by rw[HS.out]⟩
    case measure=>simp[intOf];omega
  .have FD:k=night:=by omega
   subst FD;go_wp2;go_ret;exact⟨rfl,rfl⟩
def tv (p:Nat->Prop):∀j,j<0->p j:=λ_ h=>absurd h (zg _)
def Eu (x:Int×Int×Int):Value:=.agg #[.int .i64 x.1,.int .i64 x.2.1,.int .i64 x.2.2]
def jG (cb br night:Nat)(c:AW)(r:Nat->Nat)(w:World){nA hA:Option Addr}{nc hc:Nat}(h:CY w w.heap.size cb c nA hA nc hc)(hr:Ec w w.heap.size br r)(DV:c.Ok)(hi:night<c.AK.length)(hx:∀i,c.has (r i)) :
  Calls AG 53 #[.pointer (some ⟨cb,0,none⟩),.pointer (some ⟨br,0,none⟩),.int .i64 night] w λe w'=>e=.returned (Eu (Bq c r night))/\Gr w w':=by
 have HP:=xl h;have HR:=xl hr;have HX:=xl hx;have hbr:=hr.1;have hcb:=h.lt;have Su:=DV.n5;clear h hr hx;go_enter Sq.func53,Tryz.ntmps53;go_wp2;obtain⟨W0,hW0⟩:∃W0:World,W0=(w.alloc (.cells #[.int .i64 0,.int .i64 0,.int .i64 0] 71)).alloc (.cells #[.func (.func 88) #[] #[],.func (.func 89) #[] #[],.func (.func 90) #[] #[]] 154):=⟨_,rfl⟩;have hg0:Gr w W0:=by rw[hW0];exact((Gr.refl w).alloc _).alloc _
 have hz0:W0.heap.size=w.heap.size+2:=by rw[hW0];simp
 have KV:Hid (∀w2,Gr W0 w2->(w2.cell? ⟨w.heap.size,0,none⟩=some (.int .i64 0)/\w2.cell? ⟨w.heap.size,1,none⟩=some (.int .i64 0)/\w2.cell? ⟨w.heap.size,2,none⟩=some (.int .i64 0))/\w2.frozen? ⟨w.heap.size,0,none⟩=false/\w2.frozen? ⟨w.heap.size,1,none⟩=false/\w2.frozen? ⟨w.heap.size,2,none⟩=false):=xl λw2 hg=>by
  have e:∀o,w2.cell? ⟨w.heap.size,o,none⟩=(#[.int .i64 0,.int .i64 0,.int .i64 0]:Array Value)[o]?/\w2.frozen? ⟨w.heap.size,o,none⟩=false:=λo=>by
   rw[hg.cell (by show w.heap.size<_;omega),hg.frozen (by show w.heap.size<_;omega),hW0,xO _ _ _ (by simp),xu _ _ _ _ rfl,yS _ _ _ (by simp),yi _ _ _ _ rfl];exact⟨rfl,rfl⟩
  exact⟨⟨(e 0).1,(e 1).1,(e 2).1⟩,(e 0).2,(e 1).2,(e 2).2⟩
 rw[<-hW0];clear hW0;have h4:=DV.h4;go_loopw [14] (λi wr=>∃k:Nat,k<=3/\i=.int .i64 k/\(∀j,j<k->breaks c r night j=none)/\Gr W0 wr) (λi _=>3-(intOf i).toNat)
 case atStart=>exact⟨0,by omega,rfl,tv _,Gr.refl _⟩
 case round =>
  obtain⟨k,hk,rfl,hb,hgr⟩:=hrel;have Ds:=xl (hg0.trans hgr);have Fp:=xl hgr;clear hgr;obtain rfl|rfl|rfl|rfl:k=0\/k=1\/k=2\/k=3:=by omega
  ·
   have Sw:∀w,(Instr.index 154 (.agg #[.func (.func 88) #[] #[],.func (.func 89) #[] #[],.func (.func 90) #[] #[]]) (.int .i64 0)).run AG w=.ok (.func (.func 88) #[] #[]) w:=λ_=>by kernel_rfl
   have OG:=HX.out night;have XR:=z8 h4 OG;have S2:=(HR.out.on Ds.out).2 night (by omega);have HL:=xl (ii (r night) wr XR);have HB:=xl hb;have Hv:=xl (HP.out.on Ds.out);have Kh:=xl (HR.out.on Ds.out);clear hb;go_wp2_with fail;refine HL.out.mono ?_;rintro e w2 ⟨A,cc,rfl,Ea,hg2⟩;have IG:=xl Ea;have EX:=xl (Ds.out.trans hg2);have JO:=xl (Hv.out.on hg2);have O6:=xl (Kh.out.on hg2);have IY:=xl (Fp.out.trans hg2)
   obtain⟨⟨Ki,hr1,hr2⟩,Gt,XS,hf2⟩:=KV.out w2 IY.out;have hl:=bM (r night);have hz2:=hg2.size;clear Ea hg2;go_wp2;go_loop [25] (λi=>∃k:Nat,k<=(wl (r night)).length/\i=.int .i64 k/\((wl (r night)).take k).find? (λh=>I7 c r night 0 h.toNat)=none) (λi=>(wl (r night)).length-(intOf i).toNat)
   case atStart=>exact⟨0,by omega,rfl,by simp⟩
   case round =>
    obtain⟨k,hk,rfl,hnone⟩:=hrel;have HN:=xl hnone;clear hnone;by_cases hlt:k<(wl (r night)).length
    .obtain⟨b,o,rfl,hb,hcell⟩:=IG.out.at_ hlt;obtain⟨n,hn,Hu,ND,Y1⟩:=MT OG hlt;rw[hn] at hcell;have HE:=xl hn;clear hn;cases hq:I7 c r night 0 n with
     |true =>
      have HC:Hid (Calls AG 88 #[.pointer (some ⟨cb,0,none⟩),.pointer (some ⟨br,0,none⟩),.int .i64 night,.int .i64 n] w2 λe w'=>e=.returned (.bool true)/\w2=w'):=xl (by rw[<-hq];exact s6 cb br n night c w2 JO.out Hu (DV.off _ (c.GI Hu)).1 ND);have HF:=xl (show breaks c r night 0=some ((n:Nat):Int) by have:=fG hlt HN.out (by rw[HE.out];exact hq);rw[HE.out] at this;exact this);clear hq;go_wp2_with (go_at_call 88;refine HC.out.mono ?_;rintro e w' ⟨rfl,rfl⟩)
      obtain⟨s0,s1,s2⟩:=O4 Ki hr1 hr2;refine bodyPost_ret (v:=Eu (1,night,n)) (by simp[results,Tryz.results53,go_sem,Eu,s0,s1,s2]) rfl ⟨?_,?_⟩
      .exact congrArg Ending.returned (congrArg Eu (by unfold Bq;skip;rw[HF.out]))
      .exact((EX.out.setCell (xp _) _).setCell (xp _) _).setCell (xp _) _
     |false =>
      have HC:Hid (Calls AG 88 #[.pointer (some ⟨cb,0,none⟩),.pointer (some ⟨br,0,none⟩),.int .i64 night,.int .i64 n] w2 λe w'=>e=.returned (.bool false)/\w2=w'):=xl (by rw[<-hq];exact s6 cb br n night c w2 JO.out Hu (DV.off _ (c.GI Hu)).1 ND);have HF:=xl (gf hlt HN.out (by rw[HE.out];exact hq));clear hq;go_wp2_with (go_at_call 88;refine HC.out.mono ?_;rintro e w' ⟨rfl,rfl⟩);go_round
      case rel=>exact⟨k+1,by omega,by go_num,HF.out⟩
      case measure=>simp[intOf];omega
    .have HF:=xl (show breaks c r night 0=none by have:=HN.out;rw[xZ (by omega)] at this;exact this);clear HN;go_wp2;go_roundw
     case rel=>exact⟨1,by omega,by go_num,λj hj=>by
      rcases yB (yW hj) with h|rfl
      .exact HB.out j h
      .exact HF.out,IY.out⟩
     case measure=>simp[intOf]
  ·
   have Sw:∀w,(Instr.index 154 (.agg #[.func (.func 88) #[] #[],.func (.func 89) #[] #[],.func (.func 90) #[] #[]]) (.int .i64 1)).run AG w=.ok (.func (.func 89) #[] #[]) w:=λ_=>by kernel_rfl
   have OG:=HX.out night;have XR:=z8 h4 OG;have S2:=(HR.out.on Ds.out).2 night (by omega);have HL:=xl (ii (r night) wr XR);have HB:=xl hb;have Hv:=xl (HP.out.on Ds.out);have Kh:=xl (HR.out.on Ds.out);clear hb;go_wp2_with fail;refine HL.out.mono ?_;rintro e w2 ⟨A,cc,rfl,Ea,hg2⟩;have IG:=xl Ea;have EX:=xl (Ds.out.trans hg2);have JO:=xl (Hv.out.on hg2);have O6:=xl (Kh.out.on hg2);have IY:=xl (Fp.out.trans hg2)
   obtain⟨⟨Ki,hr1,hr2⟩,Gt,XS,hf2⟩:=KV.out w2 IY.out;have hl:=bM (r night);have hz2:=hg2.size;clear Ea hg2;go_wp2;go_loop [25] (λi=>∃k:Nat,k<=(wl (r night)).length/\i=.int .i64 k/\((wl (r night)).take k).find? (λh=>I7 c r night 1 h.toNat)=none) (λi=>(wl (r night)).length-(intOf i).toNat)
   case atStart=>exact⟨0,by omega,rfl,by simp⟩
   case round =>
    obtain⟨k,hk,rfl,hnone⟩:=hrel;have HN:=xl hnone;clear hnone;by_cases hlt:k<(wl (r night)).length
    .obtain⟨b,o,rfl,hb,hcell⟩:=IG.out.at_ hlt;obtain⟨n,hn,Hu,ND,Y1⟩:=MT OG hlt;rw[hn] at hcell;have HE:=xl hn;clear hn;cases hq:I7 c r night 1 n with
     |true =>
      have HC:Hid (Calls AG 89 #[.pointer (some ⟨cb,0,none⟩),.pointer (some ⟨br,0,none⟩),.int .i64 night,.int .i64 n] w2 λe w'=>e=.returned (.bool true)/\w2=w'):=xl (by rw[<-hq];exact mU cb br n night r w2 O6.out ND (by omega) (z8 h4 (HX.out _)));have HF:=xl (show breaks c r night 1=some ((n:Nat):Int) by have:=fG hlt HN.out (by rw[HE.out];exact hq);rw[HE.out] at this;exact this);clear hq;go_wp2_with (go_at_call 89;refine HC.out.mono ?_;rintro e w' ⟨rfl,rfl⟩)
      obtain⟨s0,s1,s2⟩:=O4 Ki hr1 hr2;refine bodyPost_ret (v:=Eu (2,night,n)) (by simp[results,Tryz.results53,go_sem,Eu,s0,s1,s2]) rfl ⟨?_,?_⟩
      .exact congrArg Ending.returned (congrArg Eu (by unfold Bq;skip;rw[HB.out 0 (by omega)];rw[HF.out]))
      .exact((EX.out.setCell (xp _) _).setCell (xp _) _).setCell (xp _) _
     |false =>
      have HC:Hid (Calls AG 89 #[.pointer (some ⟨cb,0,none⟩),.pointer (some ⟨br,0,none⟩),.int .i64 night,.int .i64 n] w2 λe w'=>e=.returned (.bool false)/\w2=w'):=xl (by rw[<-hq];exact mU cb br n night r w2 O6.out ND (by omega) (z8 h4 (HX.out _)));have HF:=xl (gf hlt HN.out (by rw[HE.out];exact hq));clear hq;go_wp2_with (go_at_call 89;refine HC.out.mono ?_;rintro e w' ⟨rfl,rfl⟩);go_round
      case rel=>exact⟨k+1,by omega,by go_num,HF.out⟩
      case measure=>simp[intOf];omega
    .have HF:=xl (show breaks c r night 1=none by have:=HN.out;rw[xZ (by omega)] at this;exact this);clear HN;go_wp2;go_roundw
     case rel=>exact⟨2,by omega,by go_num,λj hj=>by
      rcases yB (yW hj) with h|rfl
      .exact HB.out j h
      .exact HF.out,IY.out⟩
     case measure=>simp[intOf]
  ·
   have Sw:∀w,(Instr.index 154 (.agg #[.func (.func 88) #[] #[],.func (.func 89) #[] #[],.func (.func 90) #[] #[]]) (.int .i64 2)).run AG w=.ok (.func (.func 90) #[] #[]) w:=λ_=>by kernel_rfl
   have OG:=HX.out night;have XR:=z8 h4 OG;have S2:=(HR.out.on Ds.out).2 night (by omega);have HL:=xl (ii (r night) wr XR);have HB:=xl hb;have Hv:=xl (HP.out.on Ds.out);have Kh:=xl (HR.out.on Ds.out);clear hb;go_wp2_with fail;refine HL.out.mono ?_;rintro e w2 ⟨A,cc,rfl,Ea,hg2⟩;have IG:=xl Ea;have EX:=xl (Ds.out.trans hg2);have JO:=xl (Hv.out.on hg2);have O6:=xl (Kh.out.on hg2);have IY:=xl (Fp.out.trans hg2)
   obtain⟨⟨Ki,hr1,hr2⟩,Gt,XS,hf2⟩:=KV.out w2 IY.out;have hl:=bM (r night);have hz2:=hg2.size;clear Ea hg2;go_wp2;go_loop [25] (λi=>∃k:Nat,k<=(wl (r night)).length/\i=.int .i64 k/\((wl (r night)).take k).find? (λh=>I7 c r night 2 h.toNat)=none) (λi=>(wl (r night)).length-(intOf i).toNat)
   case atStart=>exact⟨0,by omega,rfl,by simp⟩
   case round =>
    obtain⟨k,hk,rfl,hnone⟩:=hrel;have HN:=xl hnone;clear hnone;by_cases hlt:k<(wl (r night)).length
    .obtain⟨b,o,rfl,hb,hcell⟩:=IG.out.at_ hlt;obtain⟨n,hn,Hu,ND,Y1⟩:=MT OG hlt;rw[hn] at hcell;have HE:=xl hn;clear hn;cases hq:I7 c r night 2 n with
     |true =>
      have HC:Hid (Calls AG 90 #[.pointer (some ⟨cb,0,none⟩),.pointer (some ⟨br,0,none⟩),.int .i64 night,.int .i64 n] w2 λe w'=>e=.returned (.bool true)/\w2=w'):=xl (by rw[<-hq];exact mV cb br n night c r w2 JO.out O6.out Hu ND (by omega) λi=>z8 h4 (HX.out i));have HF:=xl (show breaks c r night 2=some ((n:Nat):Int) by have:=fG hlt HN.out (by rw[HE.out];exact hq);rw[HE.out] at this;exact this);clear hq
      go_wp2_with (go_at_call 90;refine HC.out.mono ?_;rintro e w' ⟨rfl,rfl⟩);obtain⟨s0,s1,s2⟩:=O4 Ki hr1 hr2;refine bodyPost_ret (v:=Eu (3,night,n)) (by simp[results,Tryz.results53,go_sem,Eu,s0,s1,s2]) rfl ⟨?_,?_⟩
      .exact congrArg Ending.returned (congrArg Eu (by unfold Bq;skip;rw[HB.out 0 (by omega)];rw[HB.out 1 (by omega)];rw[HF.out]))
      .exact((EX.out.setCell (xp _) _).setCell (xp _) _).setCell (xp _) _
     |false =>
      have HC:Hid (Calls AG 90 #[.pointer (some ⟨cb,0,none⟩),.pointer (some ⟨br,0,none⟩),.int .i64 night,.int .i64 n] w2 λe w'=>e=.returned (.bool false)/\w2=w'):=xl (by rw[<-hq];exact mV cb br n night c r w2 JO.out O6.out Hu ND (by omega) λi=>z8 h4 (HX.out i));have HF:=xl (gf hlt HN.out (by rw[HE.out];exact hq));clear hq;go_wp2_with (go_at_call 90;refine HC.out.mono ?_;rintro e w' ⟨rfl,rfl⟩);go_round
      case rel=>exact⟨k+1,by omega,by go_num,HF.out⟩
      case measure=>simp[intOf];omega
    .have HF:=xl (show breaks c r night 2=none by have:=HN.out;rw[xZ (by omega)] at this;exact this);clear HN;go_wp2;go_roundw
     case rel=>exact⟨3,by omega,by go_num,λj hj=>by
      rcases yB (yW hj) with h|rfl
      .exact HB.out j h
      .exact HF.out,IY.out⟩
     case measure=>simp[intOf]
  ·
   have OG:=HX.out night;have S2:=(HR.out.on Ds.out).2 night (by omega);have HB:=xl hb;have Hv:=xl (HP.out.on Ds.out);obtain⟨⟨Ki,hr1,hr2⟩,Gt,XS,hf2⟩:=KV.out wr Fp.out;have hc0:=Hv.out.c0;obtain⟨nb,no,rfl,MV,I8⟩:=Hv.out.AK.at_ hi;have HD:=xl (pz cb c (r night) wr.drew (Hv.out.on (Gr.refl wr).drew) h4 DV.DC OG);have XT:=xl (show Bq c r night=if c.DC (r night)<c.need night then(4,(night:Int),-1) else(0,-1,-1) by unfold Bq;rw[HB.out 0 (by omega),HB.out 1 (by omega),HB.out 2 (by omega)])
   have Ui:cb<wr.heap.size:=Hv.out.lt;have hWlt:w.heap.size<wr.heap.size:=by have:=Fp.out.size;omega
   have Df:=xl ((Ds.out.drew));have EX:=xl ((Fp.out.drew));clear hb Ki hr1 hr2 Gt XS hf2;change wr.cell? ⟨nb,no+night,none⟩=some (.int .i64 (c.need night)) at I8;generalize c.need night=m at I8 XT;generalize c.DC (r night)=d at HD XT;by_cases hdm:d<m
   .have HL:=xl (show Bq c r night=(4,(night:Int),-1) by rw[XT.out,if_pos hdm]);clear XT;go_wp2;go_region_with (first|(go_at_call 91;refine HD.out.mono ?_;rintro e w3 ⟨rfl,hg3⟩;have q0:=(hg3.cell (p:=⟨cb,0,none⟩) Ui).trans hc0;have q1:=(hg3.cell (p:=⟨nb,no+night,none⟩) MV).trans I8;have DW:=xl (Df.out.trans hg3);obtain⟨⟨Ki,hr1,hr2⟩,Gt,XS,hf2⟩:=KV.out w3 (EX.out.trans hg3);clear hg3))
    all_goals
     go_wp2;obtain⟨s0,s1,s2⟩:=O4 Ki hr1 hr2;refine bodyPost_ret (v:=Eu (4,night,-1)) (by simp[results,Tryz.results53,go_sem,Eu,s0,s1,s2]) rfl ⟨?_,?_⟩
     .exact congrArg Ending.returned (congrArg Eu HL.out.symm)
     .exact((DW.out.setCell (xp _) _).setCell (xp _) _).setCell (xp _) _
   .have HL:=xl (show Bq c r night=(0,-1,-1) by rw[XT.out,if_neg hdm]);clear XT;go_wp2;go_region_with (first|(go_at_call 91;refine HD.out.mono ?_;rintro e w3 ⟨rfl,hg3⟩;have q0:=(hg3.cell (p:=⟨cb,0,none⟩) Ui).trans hc0;have q1:=(hg3.cell (p:=⟨nb,no+night,none⟩) MV).trans I8;have DW:=xl (Df.out.trans hg3);obtain⟨⟨Ki,hr1,hr2⟩,Gt,XS,hf2⟩:=KV.out w3 (EX.out.trans hg3);clear hg3))
    all_goals
     go_wp2;obtain⟨s0,s1,s2⟩:=O4 Ki hr1 hr2;refine bodyPost_ret (v:=Eu (0,-1,-1)) (by simp[results,Tryz.results53,go_sem,Eu,s0,s1,s2]) rfl ⟨?_,?_⟩
     .exact congrArg Ending.returned (congrArg Eu HL.out.symm)
     .exact((DW.out.setCell (xp _) _).setCell (xp _) _).setCell (xp _) _
end Go.Proofs.YtjcgijifamcggaaGreat
namespace Go.Sq
def G4 (l:List Int):Nat:=l.foldl (λx h=>x ||| 2 ^ h.toNat) 0
def ru (l:List Int)(k:Nat)(hk:k<l.length):G4 (l.take (k+1))=G4 (l.take k) ||| 2 ^ (l[k]?.getD 0).toNat:=by
 rw[aS 0 l k hk];unfold G4;rw[List.foldl_append];rfl
def wE:∀x:Fin 16,∀n:Fin 4,(x.val ||| 2 ^ n.val)<16:=by decide
def pA (l:List Int)(h:∀x∈l,0<=x/\x<4):G4 l<16:=by
 have key:∀(l:List Int) (x:Nat),(∀y∈l,0<=y/\y<4)->x<16->l.foldl (λx h=>x ||| 2 ^ h.toNat) x<16:=by
  intro l
  induction l with
  |nil=>intro x _ hx;exact hx
  |cons a l ih =>
   intro x h hx;have ha:=h a yL;exact ih _ (λy hy=>h y (yU _ hy)) (wE ⟨x,hx⟩ ⟨a.toNat,by omega⟩)
 exact key l 0 h (by decide)
open Go.RowKit
structure KT (T:Nat->Prop)(w w':World):Prop where
 os:w'.os=w.os
 tape:w'.tape=w.tape
 output:w'.output=w.output
 drawn:w.drawn<=w'.drawn
 size:w.heap.size<=w'.heap.size
 block:∀b,b<w.heap.size->¬T b->w'.heap[b]?=w.heap[b]?
def KT.refl (T:Nat->Prop)(w:World):KT T w w:=⟨rfl,rfl,rfl,xp _,xp _,λ_ _ _=>rfl⟩
def KT.trans {T:Nat->Prop}{a b c:World}(h:KT T a b)(k:KT T b c):KT T a c :=
 ⟨k.os.trans h.os,k.tape.trans h.tape,k.output.trans h.output,xI h.drawn k.drawn,xI h.size k.size,λx hx hT=>(k.block x (xx hx h.size) hT).trans (h.block x hx hT)⟩
def KT.Cu {T:Nat->Prop}{w w':World}(h:Gr w w'):KT T w w':=⟨h.below.os,h.below.tape,h.below.output,h.drawn,h.size,λb hb _=>h.below.block b hb⟩
def KT.mono {T T':Nat->Prop}{w w':World}(h:KT T w w')(hT:∀b,T b->T' b):KT T' w w':=⟨h.os,h.tape,h.output,h.drawn,h.size,λb hb hn=>h.block b hb λt=>hn (hT b t)⟩
def KT.setCell {T:Nat->Prop}(w:World){p:Addr}(hp:T p.block)(v:Value):KT T w (w.setCell p v) :=
 ⟨rfl,rfl,rfl,xp _,by simp[World.setCell],λb _ hT=>xE w p v b λe=>hT (e▸hp)⟩
def KT.putObj {T:Nat->Prop}(w:World){l:Nat}(hl:T l)(o:Obj):KT T w (w.putObj l o) :=
 ⟨rfl,rfl,rfl,xp _,by simp[World.putObj],λb _ hT=>World.putObj_heap_other λe=>hT (e▸hl)⟩
def KT.cell {T:Nat->Prop}{w w':World}(h:KT T w w'){p:Addr}(hp:p.block<w.heap.size)(hT:¬T p.block):w'.cell? p=w.cell? p:=xN (h.block _ hp hT)
def KT.frozen {T:Nat->Prop}{w w':World}(h:KT T w w'){p:Addr}(hp:p.block<w.heap.size)(hT:¬T p.block):w'.frozen? p=w.frozen? p:=zl (h.block _ hp hT)
def F8 (w:World)(K:Nat->Prop)(A:Option Addr)(l:List Int):Prop :=
 l≠[]->∃b o,A=some ⟨b,o,none⟩/\K b/\∀i x,l[i]?=some x->w.cell? ⟨b,o+i,none⟩=some (.int .i64 x)
def Mk (w:World)(K:Nat->Prop)(b o:Nat)(h:BH):Prop :=
 w.cell? ⟨b,o,none⟩=some (.int .i64 h.heads)/\w.cell? ⟨b,o+1,none⟩=some (.int .i64 h.DC)/\w.cell? ⟨b,o+2,none⟩=some (.int .i64 h.most) /\
  ∃A c,w.cell? ⟨b,o+3,none⟩=some (.slice A h.off.length c)/\F8 w K A h.off
def Ed (w:World)(K:Nat->Prop)(A:Option Addr)(l:List BH):Prop :=
 l≠[]->∃b o,A=some ⟨b,o,none⟩/\K b/\∀i h,l[i]?=some h->Mk w K b (o+i*4) h
structure Dg (w:World)(K:Nat->Prop)(cb:Nat)(c:AW)(sets:List Nat)(nA hA:Option Addr)(nc hc sb sc:Nat):Prop where
 lt:∀b,K b->b<w.heap.size
 kc:K cb
 c0:w.cell? ⟨cb,0,none⟩=some (.slice nA c.AK.length nc)
 c1:w.cell? ⟨cb,1,none⟩=some (.slice hA c.AH.length hc)
 c2:w.cell? ⟨cb,2,none⟩=some (.slice (some ⟨sb,0,none⟩) sets.length sc)
 ks:K sb
 sets:∀(i x:Nat),sets[i]?=some x->w.cell? ⟨sb,i,none⟩=some (.int .u8 (x:Int))
 AK:F8 w K nA c.AK
 Ct:Ed w K hA c.AH
section
variable {w w':World} {K:Nat->Prop} {B:Nat} {A:Option Addr}
def F8.ri {l:List Int}(h:F8 w K A l)(hK:∀b,K b->b<B):RI w B A l:=λhn=>by
 obtain⟨b,o,e,hb,hc⟩:=h hn;exact⟨b,o,e,hK b hb,hc⟩
def Mk.hat {b o:Nat}{h:BH}(ha:Mk w K b o h)(hK:∀b,K b->b<B):L3 w B b o h:=by
 obtain⟨h1,h2,h3,A,c,h4,h5⟩:=ha;exact⟨h1,h2,h3,A,c,h4,h5.ri hK⟩
def Ed.hs {l:List BH}(h:Ed w K A l)(hK:∀b,K b->b<B):Dr w B A l:=λhn=>by
 obtain⟨b,o,e,hb,hc⟩:=h hn;exact⟨b,o,e,hK b hb,λi h hi=>(hc i h hi).hat hK⟩
def F8.keep {l:List Int}(h:F8 w K A l)(hk:∀b o,K b->w'.cell? ⟨b,o,none⟩=w.cell? ⟨b,o,none⟩):F8 w' K A l:=λhn=>by
 obtain⟨b,o,e,hb,hc⟩:=h hn;exact⟨b,o,e,hb,λi x hx=>(hk _ _ hb).trans (hc i x hx)⟩
def Mk.keep {b o:Nat}{h:BH}(ha:Mk w K b o h)(hb:K b)(hk:∀b o,K b->w'.cell? ⟨b,o,none⟩=w.cell? ⟨b,o,none⟩):Mk w' K b o h:=by
 obtain⟨h1,h2,h3,A,c,h4,h5⟩:=ha;exact⟨(hk _ _ hb).trans h1,(hk _ _ hb).trans h2,(hk _ _ hb).trans h3,A,c,(hk _ _ hb).trans h4,h5.keep hk⟩
def Ed.keep {l:List BH}(h:Ed w K A l)(hk:∀b o,K b->w'.cell? ⟨b,o,none⟩=w.cell? ⟨b,o,none⟩):Ed w' K A l:=λhn=>by
 obtain⟨b,o,e,hb,hc⟩:=h hn;exact⟨b,o,e,hb,λi h hi=>(hc i h hi).keep hb hk⟩
variable {cb:Nat} {c:AW} {sets:List Nat} {nA hA:Option Addr} {nc hc sb sc:Nat}
def Dg.MW (h:Dg w K cb c sets nA hA nc hc sb sc):CY w w.heap.size cb c nA hA nc hc:=⟨h.lt _ h.kc,h.c0,h.c1,h.AK.ri h.lt,h.Ct.hs h.lt⟩
def Dg.keep (h:Dg w K cb c sets nA hA nc hc sb sc)(hz:w.heap.size<=w'.heap.size)(hk:∀b o,K b->w'.cell? ⟨b,o,none⟩=w.cell? ⟨b,o,none⟩):Dg w' K cb c sets nA hA nc hc sb sc :=
 ⟨λb hb=>xx (h.lt b hb) hz,h.kc,(hk _ _ h.kc).trans h.c0,(hk _ _ h.kc).trans h.c1,(hk _ _ h.kc).trans h.c2,h.ks,λi x hx=>(hk _ _ h.ks).trans (h.sets i x hx),h.AK.keep hk,h.Ct.keep hk⟩
end
abbrev Bt:=Nat->Nat
def upd (r:Bt)(n x:Nat):Bt:=λi=>if i=n then x else r i
def Cc (r:Bt):Value:=.agg #[.int .u8 (r 0),.int .u8 (r 1),.int .u8 (r 2),.int .u8 (r 3),.int .u8 (r 4)]
def Bz (c:AW)(sets:List Nat):Nat->Bt->Nat->List Bt
 |0,r,_=>[r]
 |k+1,r,n=>sets.flatMap λx=>if(Bq c (upd r n x) n).1=0 then Bz c sets k (upd r n x) (n+1) else[]
structure L4 (T K:Nat->Prop)(cb:Nat)(c:AW)(sets:List Nat)(nA hA:Option Addr)(nc hc sb sc bc by_ br bw l:Nat)(r:Bt)(w:World):Prop where
 Dt:Dg w K cb c sets nA hA nc hc sb sc
 kt:∀b,K b->¬T b
 xc:w.cell? ⟨bc,0,none⟩=some (.pointer (some ⟨cb,0,none⟩))/\¬T bc/\bc<w.heap.size
 xy:w.cell? ⟨by_,0,none⟩=some (.func (.yield l) #[] #[])/\¬T by_/\by_<w.heap.size
 xw:w.cell? ⟨bw,0,none⟩=some (.func (.func 52) #[] #[.pointer (some ⟨bc,0,none⟩),.pointer (some ⟨by_,0,none⟩),.pointer (some ⟨br,0,none⟩),.pointer (some ⟨bw,0,none⟩)])/\¬T bw/\bw<w.heap.size
 xr:(∀i,i<5->w.cell? ⟨br,i,none⟩=some (.int .u8 (r i))/\w.frozen? ⟨br,i,none⟩=false)/\¬T br/\br<w.heap.size
 ne:bc≠br/\by_≠br/\bw≠br/\∀b,K b->b≠br
 rs:∀i,c.has (r i)
section
variable {T K:Nat->Prop} {cb:Nat} {c:AW} {sets:List Nat} {nA hA:Option Addr} {nc hc sb sc bc by_ br bw l:Nat} {r:Bt} {w w':World}
def L4.on (h:L4 T K cb c sets nA hA nc hc sb sc bc by_ br bw l r w)(k:KT T w w'):L4 T K cb c sets nA hA nc hc sb sc bc by_ br bw l r w':=by
 refine⟨h.Dt.keep k.size λb o hb=>k.cell (p:=⟨b,o,none⟩) (h.Dt.lt b hb) (h.kt b hb),h.kt,⟨(k.cell h.xc.2.2 h.xc.2.1).trans h.xc.1,h.xc.2.1,xx h.xc.2.2 k.size⟩,⟨(k.cell h.xy.2.2 h.xy.2.1).trans h.xy.1,h.xy.2.1,xx h.xy.2.2 k.size⟩,
  ⟨(k.cell h.xw.2.2 h.xw.2.1).trans h.xw.1,h.xw.2.1,xx h.xw.2.2 k.size⟩,⟨λi hi=>?_,h.xr.2.1,xx h.xr.2.2 k.size⟩,h.ne,h.rs⟩
 obtain⟨h1,h2⟩:=h.xr.1 i hi;exact⟨(k.cell (p:=⟨br,i,none⟩) h.xr.2.2 h.xr.2.1).trans h1,(k.frozen (p:=⟨br,i,none⟩) h.xr.2.2 h.xr.2.1).trans h2⟩
def L4.set (h:L4 T K cb c sets nA hA nc hc sb sc bc by_ br bw l r w){n x:Nat}(hn:n<5)(hx:c.has x):L4 T K cb c sets nA hA nc hc sb sc bc by_ br bw l (upd r n x) (w.setCell ⟨br,n,none⟩ (.int .u8 x)):=by
 have other:∀b o,b≠br->(w.setCell ⟨br,n,none⟩ (.int .u8 x)).cell? ⟨b,o,none⟩=w.cell? ⟨b,o,none⟩:=λb o hb=>xB _ _ _ _ (by intro e;simp only[Addr.mk.injEq] at e;exact hb e.1.symm);have sz:(w.setCell ⟨br,n,none⟩ (.int .u8 x)).heap.size=w.heap.size:=by simp[World.setCell]
 refine⟨h.Dt.keep (by rw[sz];exact xp _) λb o hb=>other b o (h.ne.2.2.2 b hb),h.kt,⟨(other _ _ h.ne.1).trans h.xc.1,h.xc.2.1,by rw[sz];exact h.xc.2.2⟩,⟨(other _ _ h.ne.2.1).trans h.xy.1,h.xy.2.1,by rw[sz];exact h.xy.2.2⟩,
  ⟨(other _ _ h.ne.2.2.1).trans h.xw.1,h.xw.2.1,by rw[sz];exact h.xw.2.2⟩,⟨λi hi=>?_,h.xr.2.1,by rw[sz];exact h.xr.2.2⟩,h.ne,λi=>?_⟩
 .obtain⟨h1,h2⟩:=h.xr.1 i hi;refine⟨?_,(yt _ _ _ _).trans h2⟩;unfold upd;by_cases e:i=n
  .subst e;rw[if_pos rfl];exact xJ _ _ _ h1
  .rw[if_neg e,xB _ _ _ _ (by intro e';simp only[Addr.mk.injEq] at e';omega)];exact h1
 .unfold upd;split
  .exact hx
  .exact h.rs i
def L4.ros (h:L4 T K cb c sets nA hA nc hc sb sc bc by_ br bw l r w):Ec w w.heap.size br r:=⟨h.xr.2.2,λi hi=>(h.xr.1 i hi).1⟩
end
end Go.Sq
namespace Go.Proofs.YtjcgijifamcggaaGreat
open Go.RowKit Go.Sq Go.Shelf
attribute [local go_sem] Oper.semAt_some
def Vz (T:Nat->Prop)(J Jx:List Bt->World->Prop)(pre:List Bt)(ρ:Bt)(W:World)(e:Ending)(W':World):Prop :=
 (e=.returned (.bool true)/\J (pre++[ρ]) W'/\KT T W W')\/(e=.returned (.bool false)/\Jx (pre++[ρ]) W'/\KT T W W')
def pB (T':Nat->Prop)(St:World->Prop)(J Jx:List Bt->World->Prop)(pre L:List Bt)(W:World)(e:Ending)(W':World):Prop :=
 (e=.returned (.bool true)/\J (pre++L) W'/\St W'/\KT T' W W')\/(e=.returned (.bool false)/\(∃q,q <+: L/\Jx (pre++q) W')/\KT T' W W')
section
variable {T K:Nat->Prop} {cb:Nat} {c:AW} {sets:List Nat} {nA hA:Option Addr} {nc hc sb sc bc by_ br bw l:Nat} {J Jx:List Bt->World->Prop} {W0:World} {Lt:List Bt}
def pC (DV:c.Ok){r:Bt}{pre:List Bt}{W:World}(hs:L4 T K cb c sets nA hA nc hc sb sc bc by_ br bw l r W)(hk:KT (λb=>T b\/b=br) W0 W)(hj:J pre W)(hpl:pre++[r] <+: Lt)
  (hY:∀pre ρ W,pre++[ρ] <+: Lt->KT (λb=>T b\/b=br) W0 W->J pre W->YieldAt Fence.wide 0 AG l #[Cc ρ] W (Vz T J Jx pre ρ W)) :
  CallsIn Fence.wide 0 AG 52 #[.int .i64 c.AK.length,.pointer (some ⟨bc,0,none⟩),.pointer (some ⟨by_,0,none⟩),.pointer (some ⟨br,0,none⟩),.pointer (some ⟨bw,0,none⟩)] W
   (pB (λb=>T b\/b=br) (L4 T K cb c sets nA hA nc hc sb sc bc by_ br bw l r) J Jx pre [r] W):=by
 have HS:=xl hs;have Su:=DV.n5;obtain⟨fn,tmps,assign,body,hy,hR⟩:=hY pre r W hpl hk hj;have HR:=xl hR;have hxc:=hs.xc.1;have Jz:=hs.xy.1;have hc0:=hs.Dt.c0;have Ki:=(hs.xr.1 0 (by omega)).1;have hr1:=(hs.xr.1 1 (by omega)).1;have hr2:=(hs.xr.1 2 (by omega)).1;have hr3:=(hs.xr.1 3 (by omega)).1;have hr4:=(hs.xr.1 4 (by omega)).1;unfold Cc at hy;clear hs hk hj hY hR hpl;refine callsIn_of_wp Sq.func52 rfl trivial ?_ rfl
 simp only[Tryz.ntmps52,xF,xH,xK,Nat.reduceAdd,Nat.reduceSub,yj,yk,yx,ym,yI,yF]
 gi_wp2
 refine⟨rfl,HR.out.mono ?_⟩;rintro e W' (⟨rfl,hj,hk⟩|⟨rfl,hj,hk⟩)
 .have HJ:=xl hj;have HK:=xl hk;clear hj hk
  gi_wp2
  go_ret;exact .inl ⟨rfl,HJ.out,HS.out.on HK.out,HK.out.mono λb hb=>.inl hb⟩
 .have HJ:=xl hj;have HK:=xl hk;clear hj hk
  gi_wp2
  go_ret;exact .inr ⟨rfl,⟨[r],List.prefix_refl _,HJ.out⟩,HK.out.mono λb hb=>.inl hb⟩
def tx (k1 k2 k3:Int)(w:World):Sem.run AG (Instr.field 71 (.agg #[.int .i64 k1,.int .i64 k2,.int .i64 k3]) 0) w=.ok (.int .i64 k1) w:=by kernel_rfl
def gives (c:AW)(sets:List Nat)(k:Nat)(r:Bt)(n x:Nat):List Bt:=if(Bq c (upd r n x) n).1=0 then Bz c sets k (upd r n x) (n+1) else[]
def i4 (c:AW)(sets:List Nat)(k:Nat)(r:Bt)(n j:Nat)(hj:j<sets.length):(sets.take (j+1)).flatMap (gives c sets k r n)=(sets.take j).flatMap (gives c sets k r n)++gives c sets k r n (sets[j]?.getD 0):=by
 rw[aS 0 sets j hj,List.flatMap_append];simp
def pD (c:AW)(sets:List Nat)(k:Nat)(r:Bt)(n j:Nat)(hj:j<sets.length){q:List Bt}(h:q <+: gives c sets k r n (sets[j]?.getD 0)):(sets.take j).flatMap (gives c sets k r n)++q <+: sets.flatMap (gives c sets k r n):=by
 have e:sets.flatMap (gives c sets k r n)=(sets.take (j+1)).flatMap (gives c sets k r n)++(sets.drop (j+1)).flatMap (gives c sets k r n):=by
  rw[<-List.flatMap_append,List.take_append_drop]
 rw[e,i4 _ _ _ _ _ _ hj];obtain⟨s,hs⟩:=h;exact⟨s++(sets.drop (j+1)).flatMap (gives c sets k r n),by rw[<-hs];simp[zi]⟩
def mW (r:Bt)(n x y:Nat):upd (upd r n x) n y=upd r n y:=by
 funext i;unfold upd;split<;>rfl
def ld (r:Bt)(n:Nat):upd r n (r n)=r:=by
 funext i;unfold upd;split
 .rename_i h;rw[h]
 .rfl
def uU (DV:c.Ok)(Fs:∀x∈sets,c.has x)(L5:sets.length<=16)(XU:∀pre w w',J pre w->(∀b,T b->w'.heap[b]?=w.heap[b]?)->J pre w')
  (NF:∀pre w,J pre w->∀b,T b->b<w.heap.size) (Y3:¬T br)
  (hY:∀pre ρ W,pre++[ρ] <+: Lt->KT (λb=>T b\/b=br) W0 W->J pre W->YieldAt Fence.wide 0 AG l #[Cc ρ] W (Vz T J Jx pre ρ W)) :
  ∀(k n:Nat) (r:Bt) (pre:List Bt) (W:World),n+k=c.AK.length->L4 T K cb c sets nA hA nc hc sb sc bc by_ br bw l r W->KT (λb=>T b\/b=br) W0 W->J pre W->(∀i,n<=i->r i=0)->pre++Bz c sets k r n <+: Lt ->
  CallsIn Fence.wide 0 AG 52 #[.int .i64 n,.pointer (some ⟨bc,0,none⟩),.pointer (some ⟨by_,0,none⟩),.pointer (some ⟨br,0,none⟩),.pointer (some ⟨bw,0,none⟩)] W
   (pB (λb=>T b\/b=br) (L4 T K cb c sets nA hA nc hc sb sc bc by_ br bw l r) J Jx pre (Bz c sets k r n) W):=by
 intro k
 induction k with
 |zero =>
  intro n r pre W hn hs hk hj hz hpl;obtain rfl:n=c.AK.length:=by omega
  exact pC DV hs hk hj hpl hY
 |succ k ih =>
  intro n r pre W hn hs hk hj hz hpl;have VA:=xl hpl;have HS:=xl hs;have HK:=xl hk;have HJ:=xl hj;have HZ:=xl hz;have HIH:=xl ih;have HY:=xl hY;have HJT:=xl XU;have HTL:=xl NF;have HST:=xl Fs;have Su:=DV.n5;have Y4:n<c.AK.length:=by omega
  have hxc:=hs.xc.1;have hc0:=hs.Dt.c0;have hc2:=hs.Dt.c2;have hneq:((n:Int)==(c.AK.length:Int))=false:=by simpa using(by omega:¬(n:Int)=(c.AK.length:Int))
  have HW:Hid (Bz c sets (k+1) r n=sets.flatMap (gives c sets k r n)):=xl rfl;clear hs hk hj hz ih hY XU NF Fs hpl;refine callsIn_of_wp Sq.func52 rfl trivial ?_ rfl;simp only[Tryz.ntmps52,xF,xH,xK,Nat.reduceAdd,Nat.reduceSub,yj,yk,yx,ym,yI,yF]
  gi_wp2
  gi_loopw [25] (λi wr=>∃(j x:Nat),j<=sets.length/\i=.int .i64 j/\c.has x/\L4 T K cb c sets nA hA nc hc sb sc bc by_ br bw l (upd r n x) wr/\J (pre++(sets.take j).flatMap (gives c sets k r n)) wr/\KT (λb=>T b\/b=br) W wr) (λi _=>sets.length-(intOf i).toNat)
  case atStart =>
   exact⟨0,r n,by omega,rfl,HS.out.rs n,by rw[ld];exact HS.out,by simpa using HJ.out,KT.refl _ _⟩
  case round =>
   obtain⟨j,x,hj,rfl,hx,hs,XV,hk⟩:=hrel;have Kj:=xl hs;have Y5:=xl XV;have HK1:=xl hk;have hxx:=xl hx;clear hs XV hk hx;by_cases hlt:j<sets.length
   .obtain⟨y,hy⟩:∃y,sets[j]?=some y:=⟨sets[j],xq hlt⟩;have hyc:c.has y:=HST.out y (yM hy);have hcell:=Kj.out.Dt.sets j y hy;obtain⟨OG,hfn⟩:=Kj.out.xr.1 n (by omega);have hxc1:=Kj.out.xc.1;have JA:Hid (L4 T K cb c sets nA hA nc hc sb sc bc by_ br bw l (upd r n y) (wr.setCell ⟨br,n,none⟩ (.int .u8 y))):=xl (by have:=Kj.out.set (n:=n) (x:=y) (by omega) hyc;rwa [mW] at this);have hxc2:=JA.out.xc.1
    have VB:=xl (i4 c sets k r n j hlt);have HGP:=xl (λq=>pD c sets k r n j hlt (q:=q));have hyD:sets[j]?.getD 0=y:=by rw[hy];rfl
    have HD:=xl hyD;have XW:Hid (KT (λb=>T b\/b=br) W (wr.setCell ⟨br,n,none⟩ (.int .u8 y))):=xl (HK1.out.trans (KT.setCell wr (p:=⟨br,n,none⟩) (.inr rfl) _));have XX:Hid (J (pre++(sets.take j).flatMap (gives c sets k r n)) (wr.setCell ⟨br,n,none⟩ (.int .u8 y))):=xl (HJT.out _ _ _ Y5.out λb hb=>xE _ _ _ _ λe=>Y3 (by have e':b=br:=e;rw[<-e'];exact hb));have S3:=jG cb br n c (upd r n y) (wr.setCell ⟨br,n,none⟩ (.int .u8 y)) JA.out.Dt.MW JA.out.ros DV Y4 JA.out.rs
    unfold Eu at S3;have G5:Hid (gives c sets k r n y=if(Bq c (upd r n y) n).1=0 then Bz c sets k (upd r n y) (n+1) else[]):=xl rfl;generalize Bq c (upd r n y) n=lp at S3 G5;obtain⟨k1,k2,k3⟩:=lp;have HL:=xl (callsIn_wide (n:=0).2 S3);have hfd:=tx k1 k2 k3;clear S3 hy hyD;by_cases h0:k1=0
    .have Ds:=xl (show gives c sets k r n y=Bz c sets k (upd r n y) (n+1) by rw[G5.out,if_pos h0]);subst h0
     gi_wp2_with fail
     refine⟨trivial,rfl,HL.out.mono ?_⟩;rintro e w2 ⟨rfl,hg2⟩;have VC:=xl (KT.Cu (T:=λb=>T b\/b=br) hg2);have Uj:=xl (JA.out.on (KT.Cu (T:=T) hg2));have Y6:=xl (HJT.out _ _ w2 XX.out λb hb=>hg2.below.block b (HTL.out _ _ XX.out b hb));have Uk:=Uj.out.xw.1
     have HC:=xl (HIH.out (n+1) (upd r n y) _ w2 (by omega) Uj.out (HK.out.trans (XW.out.trans VC.out)) Y6.out (λi hi=>by unfold upd;rw[if_neg (by omega)];exact HZ.out i (by omega)) (by
      have h1:=HGP.out (Bz c sets k (upd r n y) (n+1)) (by rw[HD.out,Ds.out];exact List.prefix_refl _);rw[<-HW.out] at h1;rw[zi]
      exact((List.prefix_append_right_inj pre).2 h1).trans VA.out))
     have Hu:IntKind.i64.wrap ((n:Int)+1)=(n:Int)+1:=by simp[IntKind.wrap,IntKind.min,IntKind.max,IntKind.signed,IntKind.bits];omega
     clear hg2
     gi_wp2_with fail
     refine⟨trivial,rfl,HC.out.mono ?_⟩;rintro e w3 (⟨rfl,Ul,hs3,hk3⟩|⟨rfl,Y7,hk3⟩)
     .have HJ4:=xl Ul;have HS4:=xl hs3;have Y8:=xl (XW.out.trans (VC.out.trans hk3));clear Ul hs3 hk3
      gi_wp2
      go_roundw
      case rel =>
       exact⟨j+1,y,by omega,by go_num,hyc,HS4.out,by rw[VB.out,HD.out,Ds.out,<-zi];exact HJ4.out,Y8.out⟩
      case measure=>simp[intOf];omega
     .have HQ:=xl Y7;have Y8:=xl (XW.out.trans (VC.out.trans hk3));clear Y7 hk3
      gi_wp2
      go_ret;refine .inr ⟨rfl,?_,Y8.out⟩;obtain⟨q,q1,q2⟩:=HQ.out;refine⟨(sets.take j).flatMap (gives c sets k r n)++q,?_,by rw[<-zi];exact q2⟩;rw[HW.out];exact HGP.out q (by rw[HD.out,Ds.out];exact q1)
    .have Ds:=xl (show gives c sets k r n y=[] by rw[G5.out,if_neg h0]);have hb0:(k1==0)=false:=by simpa using h0
     gi_wp2_with fail
     refine⟨trivial,rfl,HL.out.mono ?_⟩;rintro e w2 ⟨rfl,hg2⟩;have VC:=xl (KT.Cu (T:=λb=>T b\/b=br) hg2);have Uj:=xl (JA.out.on (KT.Cu (T:=T) hg2));have Y6:=xl (HJT.out _ _ w2 XX.out λb hb=>hg2.below.block b (HTL.out _ _ XX.out b hb));clear hg2
     gi_wp2
     refine⟨λ_ h=>(by cases h),?_⟩
     gi_wp2
     go_roundw
     case rel=>exact⟨j+1,y,by omega,by go_num,hyc,Uj.out,by rw[VB.out,HD.out,Ds.out,zv];exact Y6.out,XW.out.trans VC.out⟩
     case measure=>simp[intOf];omega
   .obtain⟨OG,hfn⟩:=Kj.out.xr.1 n (by omega);have h0:c.has 0:=Nat.two_pow_pos _
    have JA:Hid (L4 T K cb c sets nA hA nc hc sb sc bc by_ br bw l r (wr.setCell ⟨br,n,none⟩ (.int .u8 0))):=xl (by
     have:=Kj.out.set (n:=n) (x:=0) (by omega) h0;rw[mW] at this;have e:upd r n 0=r:=by have:=ld r n;rwa [HZ.out n (xp _)] at this
     rwa [e] at this)
    have XW:Hid (KT (λb=>T b\/b=br) W (wr.setCell ⟨br,n,none⟩ (.int .u8 0))):=xl (HK1.out.trans (KT.setCell wr (p:=⟨br,n,none⟩) (.inr rfl) _));have XX:Hid (J (pre++Bz c sets (k+1) r n) (wr.setCell ⟨br,n,none⟩ (.int .u8 0))):=xl (HJT.out _ _ _ (by have:=Y5.out;rwa [xZ (by omega),<-HW.out] at this) λb hb=>xE _ _ _ _ λe=>Y3 (by have e':b=br:=e;rw[<-e'];exact hb))
    gi_wp2
    go_ret;exact .inl ⟨rfl,XX.out,JA.out,XW.out⟩
end
attribute [local go_sem] Oper.semAt_some
def lf (cb n:Nat)(r:Bt)(w:World):Calls AG 24 #[.pointer (some ⟨cb,0,none⟩),Cc r,.int .i64 n] w λe w' =>
  e=.returned (.func (.func 51) #[] #[.pointer (some ⟨w.heap.size,0,none⟩),.pointer (some ⟨w.heap.size+1,0,none⟩),.pointer (some ⟨w.heap.size+2,0,none⟩)]) /\
   w'=((w.alloc (.cells #[.pointer (some ⟨cb,0,none⟩)] 49)).alloc (.cells #[.int .u8 (r 0),.int .u8 (r 1),.int .u8 (r 2),.int .u8 (r 3),.int .u8 (r 4)] 52)).alloc (.cells #[.int .i64 n] 3):=by
 unfold Cc;have L6:∀(fn:Fn) (first cap:Array Value) (w:World),(Instr.makeFunc fn first cap).run AG w=.ok (.func fn first cap) w:=λ_ _ _ _=>rfl;go_enter Sq.func24,Tryz.ntmps24;go_wp2;go_ret;exact⟨rfl,rfl⟩
section
variable {T K:Nat->Prop} {cb:Nat} {c:AW} {sets:List Nat} {nA hA:Option Addr} {nc hc sb sc bc br bn l:Nat} {J Jx:List Bt->World->Prop} {W0:World}
structure Ml (T K:Nat->Prop)(cb:Nat)(c:AW)(sets:List Nat)(nA hA:Option Addr)(nc hc sb sc bc br bn:Nat)(r:Bt)(n:Nat)(w:World):Prop where
 Dt:Dg w K cb c sets nA hA nc hc sb sc
 kt:∀b,K b->¬T b
 xc:w.cell? ⟨bc,0,none⟩=some (.pointer (some ⟨cb,0,none⟩))/\¬T bc/\bc<w.heap.size
 xr:(∀i,i<5->w.cell? ⟨br,i,none⟩=some (.int .u8 (r i))/\w.frozen? ⟨br,i,none⟩=false)/\¬T br/\br<w.heap.size
 xn:w.cell? ⟨bn,0,none⟩=some (.int .i64 n)/\bn<w.heap.size
 ne:bc≠br/\∀b,K b->b≠br
 rs:∀i,c.has (r i)
def ta (DV:c.Ok)(Fs:∀x∈sets,c.has x)(L5:sets.length<=16)(XU:∀pre w w',J pre w->(∀b,T b->w'.heap[b]?=w.heap[b]?)->J pre w')
  (NF:∀pre w,J pre w->∀b,T b->b<w.heap.size)
  {k n:Nat} {r:Bt} {W:World} (hY:∀pre ρ W,pre++[ρ] <+: Bz c sets k r n->KT (λb=>T b\/b=br) W0 W->J pre W->YieldAt Fence.wide 0 AG l #[Cc ρ] W (Vz T J Jx pre ρ W))
  (hn:n+k=c.AK.length) (hs:Ml T K cb c sets nA hA nc hc sb sc bc br bn r n W) (hk:KT (λb=>T b\/b=br) W0 W) (hj:J [] W) (hz:∀i,n<=i->r i=0) :
  CallsIn Fence.wide 0 AG 51 #[.func (.yield l) #[] #[],.pointer (some ⟨bc,0,none⟩),.pointer (some ⟨br,0,none⟩),.pointer (some ⟨bn,0,none⟩)] W
   λe W'=>e=.returned (.tuple #[])/\KT (λb=>T b\/b=br) W W'/\(J (Bz c sets k r n) W'\/∃q,q <+: Bz c sets k r n/\Jx q W'):=by
 obtain⟨W1,hW1⟩:∃W1:World,W1=(W.alloc (.cells #[.func (.yield l) #[] #[]] 106)).alloc (.cells #[.func (.func 52) #[] #[.pointer (some ⟨bc,0,none⟩),.pointer (some ⟨W.heap.size,0,none⟩),.pointer (some ⟨br,0,none⟩),.pointer (some ⟨W.heap.size+1,0,none⟩)]] 107):=⟨_,rfl⟩;have g1:Gr W W1:=by rw[hW1];exact((Gr.refl W).alloc _).alloc _
 have hTW:=NF _ _ hj;have hz1:W1.heap.size=W.heap.size+2:=by rw[hW1];simp
 have Kj:Hid (L4 T K cb c sets nA hA nc hc sb sc bc W.heap.size br (W.heap.size+1) l r W1):=xl (by
  have k1:KT T W W1:=KT.Cu g1
  refine⟨hs.Dt.keep k1.size λb o hb=>k1.cell (p:=⟨b,o,none⟩) (hs.Dt.lt b hb) (hs.kt b hb),hs.kt,⟨(k1.cell hs.xc.2.2 hs.xc.2.1).trans hs.xc.1,hs.xc.2.1,by have:=hs.xc.2.2;omega⟩,⟨?_,λh=>by have:=hTW _ h;omega,by omega⟩,⟨?_,λh=>by have:=hTW _ h;omega,by omega⟩,
   ⟨λi hi=>⟨(k1.cell (p:=⟨br,i,none⟩) hs.xr.2.2 hs.xr.2.1).trans (hs.xr.1 i hi).1,(k1.frozen (p:=⟨br,i,none⟩) hs.xr.2.2 hs.xr.2.1).trans (hs.xr.1 i hi).2⟩,hs.xr.2.1,by have:=hs.xr.2.2;omega⟩,⟨hs.ne.1,?_,?_,hs.ne.2⟩,hs.rs⟩
  .rw[hW1,xO _ _ _ (by simp),xu _ _ _ _ rfl];rfl
  .rw[hW1,xu _ _ _ _ (by simp)];rfl
  .have:=hs.xr.2.2;omega
  .have:=hs.xr.2.2;omega)
 have Y5:Hid (J [] W1):=xl (XU _ _ _ hj λb hb=>g1.below.block b (hTW b hb));have HWT:=xl (uU (by_:=W.heap.size) (bw:=W.heap.size+1) DV Fs L5 XU NF hs.xr.2.1 hY k n r [] W1 hn Kj.out (hk.trans (KT.Cu g1)) Y5.out hz (by simp));have hxn:=hs.xn.1;have hbn:=hs.xn.2;have Df:=xl g1;have L6:∀(fn:Fn) (first cap:Array Value) (w:World),(Instr.makeFunc fn first cap).run AG w=.ok (.func fn first cap) w:=λ_ _ _ _=>rfl
 clear hs hk hj hz XU NF hY g1 hTW hz1;rw[hW1] at HWT;clear Kj Y5;refine callsIn_of_wp Sq.func51 rfl trivial ?_ rfl;simp only[Tryz.ntmps51,xF,xH,xK,Nat.reduceAdd,Nat.reduceSub,yj,yk,yx,ym,yI,yF]
 gi_wp2_with fail
 refine⟨trivial,rfl,HWT.out.mono ?_⟩;rw[<-hW1];rintro e w3 (⟨rfl,Ul,_,hk3⟩|⟨rfl,Y7,hk3⟩)
 .have Y6:=xl Ul;have S4:=xl ((KT.Cu Df.out).trans hk3);clear Ul hk3 hW1
  gi_wp2
  go_end0;exact⟨rfl,S4.out,.inl (by simpa using Y6.out)⟩
 .have HQ3:=xl Y7;have S4:=xl ((KT.Cu Df.out).trans hk3);clear Y7 hk3 hW1
  gi_wp2
  go_end0;refine⟨rfl,S4.out,.inr ?_⟩;obtain⟨q,h1,h2⟩:=HQ3.out;exact⟨q,h1,by simpa using h2⟩
end
end Go.Proofs.YtjcgijifamcggaaGreat
