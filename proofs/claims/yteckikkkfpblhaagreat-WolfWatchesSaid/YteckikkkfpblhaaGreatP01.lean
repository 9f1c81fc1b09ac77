/- Parts of the proof. -/
import Derived.Test.YteckikkkfpblhaaGreatP00
import Derived.Outline
import Derived.RangeFuncNested
import Derived.RangeFuncBound
import Derived.RangeFuncCalls
import Derived.RangeFuncLeaves
import Derived.Shelf.Abstract
import Derived.Shelf.RegionOpen
import Derived.OwnWalkIn
import Derived.TacticsInMore
import Derived.LoopNIn
import Derived.LoopIn
set_option linter.all false
set_option maxHeartbeats 12800000
set_option maxRecDepth 1000000
namespace Go.Proofs.Ao
open Go.RowKit Go.Sq
def jV (x:Int)(w:World):Calls An 130 #[.int .i64 x] w λe w'=>e=.returned (.bool false)/\w=w':=by
 go_enter Sq.func130,Tryz.ntmps130;go_wp2;go_ret;simp
def om (a b:Int)(w:World):Calls An 89 #[.int .i64 a,.int .i64 b] w λe w'=>e=.returned (.int .i64 (dC a b))/\w=w':=by
 by_cases h1:a<b
 .have HS:=xf (show dC a b=-1 by simp[dC,h1]);go_enter Sq.func89,Tryz.ntmps89;go_wp2_with (go_at_call 130;refine(jV _ _).mono ?_;rintro e w' ⟨rfl,rfl⟩);go_ret;exact⟨ao HS.out.symm,rfl⟩
 .by_cases h2:b<a
  .have HS:=xf (show dC a b=1 by simp[dC,h1,h2]);go_enter Sq.func89,Tryz.ntmps89;go_wp2_with (go_at_call 130;refine(jV _ _).mono ?_;rintro e w' ⟨rfl,rfl⟩);go_ret;exact⟨ao HS.out.symm,rfl⟩
  .have HS:=xf (show dC a b=0 by simp[dC,h1,h2]);go_enter Sq.func89,Tryz.ntmps89;go_wp2_with (go_at_call 130;refine(jV _ _).mono ?_;rintro e w' ⟨rfl,rfl⟩);go_ret;exact⟨ao HS.out.symm,rfl⟩
def acX (l:List Int)(x:Int)(e:Ending):Prop:=∃j:Int,e=.returned (.int .i64 j)/\decide (0<=j)=decide (x∈l)
def tx (A:Option Addr)(c:Nat)(l:List Int)(x:Int)(w:World)(B:Nat)(h:RI w B A l)(hl:l.length<=4611686018427387904) :
  Calls An 81 #[.slice A l.length c,.int .i64 x] w λe w'=>acX l x e/\w=w':=by
 have HR:=xf h;clear h;go_enter Sq.func81,Tryz.ntmps81;go_wp2;go_loop [8] (λi=>∃k:Nat,k<=l.length/\i=.int .i64 k/\x ∉ l.take k) (λi=>l.length-(intOf i).toNat)
 case atStart=>exact⟨0,by omega,rfl,by simp⟩
 case round =>
  obtain⟨k,hk,rfl,hn⟩:=hrel;by_cases hlt:k<l.length
  .obtain⟨b,o,rfl,hb,hc⟩:=HR.out.at_ hlt;have HT:=xf (bm 0 l k hlt);have hm:=Dd l k hlt;have HN:=xf hn;clear hn;generalize l[k]?.getD 0=y at hc HT hm;by_cases hy:x=y
   .have hb2:((x:Int)==y)=true:=by simpa using hy
    clear hy;go_wp2;go_ret;refine⟨⟨k,rfl,?_⟩,rfl⟩;have:x∈l:=by rw[show x=y by simpa using hb2];exact hm
    simp[this]
   .have hb2:((x:Int)==y)=false:=by simpa using hy
    go_wp2;go_round
    case rel=>exact⟨k+1,by omega,by go_num,by rw[HT.out];simp[HN.out,hy]⟩
    case measure=>simp[intOf];omega
  .have:k=l.length:=by omega
   have HN:=xf hn;clear hn;go_wp2;go_ret;refine⟨⟨-1,rfl,?_⟩,rfl⟩;have h2:=HN.out;rw[xN (by omega)] at h2;simp[h2]
def jl (A:Option Addr)(c:Nat)(l:List Int)(x:Int)(w:World)(B:Nat)(h:RI w B A l)(hl:l.length<=4611686018427387904) :
  Calls An 51 #[.slice A l.length c,.int .i64 x] w λe w'=>e=.returned (.bool (decide (x∈l)))/\w=w':=by
 have HR:=xf h;clear h;go_enter Sq.func51,Tryz.ntmps51;go_wp2_with fail;refine(tx A c l x w B HR.out hl).mono ?_;rintro e w' ⟨⟨j,rfl,hj⟩,rfl⟩;have HJ:=xf hj;clear hj;go_wp2;go_ret;refine⟨?_,rfl⟩;have:=HJ.out;show Ending.returned (.bool _)=_;rw[<-this]
def kv (A A':Option Addr)(c c':Nat)(l m:List Int)(w:World)(B:Nat)(h:RI w B A l)(h':RI w B A' m)(hl:l.length<=4611686018427387904)(hm:m.length<=4611686018427387904) :
  Calls An 60 #[.slice A l.length c,.slice A' m.length c'] w λe w'=>e=.returned (.int .i64 (FE l m))/\w=w':=by
 have HR:=xf h;have Yk:=xf h';clear h h';go_enter Sq.func60,Tryz.ntmps60;go_wp2;go_loop [11] (λi=>∃k:Nat,k<=l.length/\k<=m.length/\i=.int .i64 k/\FE l m=FE (l.drop k) (m.drop k)) (λi=>l.length-(intOf i).toNat)
 case atStart=>exact⟨0,by omega,by omega,rfl,rfl⟩
 case round =>
  obtain⟨k,hk,DO,rfl,hcm⟩:=hrel;have HC:=xf hcm;clear hcm;by_cases hlt:k<l.length
  .obtain⟨b,o,rfl,hb,hc⟩:=HR.out.at_ hlt;by_cases O0:k<m.length
   .obtain⟨b',o',rfl,hb',hc'⟩:=Yk.out.at_ O0;have HD:=xf (pR l m k hlt O0);generalize l[k]?.getD 0=x at hc HD;generalize m[k]?.getD 0=y at hc' HD;by_cases h1:x<y
    .have HS:=xf (show dC x y=-1 by simp[dC,h1]);have hcc:Calls An 89 #[.int .i64 x,.int .i64 y] w λe w'=>e=.returned (.int .i64 (-1))/\w=w':=by rw[<-HS.out];exact om x y w
     go_wp2_with (go_at_call 89;refine hcc.mono ?_;rintro e w' ⟨rfl,rfl⟩);go_ret;exact⟨ao (by rw[HC.out,HD.out,if_pos h1]),rfl⟩
    .by_cases h2:y<x
     .have HS:=xf (show dC x y=1 by simp[dC,h1,h2]);have hcc:Calls An 89 #[.int .i64 x,.int .i64 y] w λe w'=>e=.returned (.int .i64 1)/\w=w':=by rw[<-HS.out];exact om x y w
      go_wp2_with (go_at_call 89;refine hcc.mono ?_;rintro e w' ⟨rfl,rfl⟩);go_ret;exact⟨ao (by rw[HC.out,HD.out,if_neg (by omega),if_pos h2]),rfl⟩
     .have HS:=xf (show dC x y=0 by simp[dC,h1,h2]);have hcc:Calls An 89 #[.int .i64 x,.int .i64 y] w λe w'=>e=.returned (.int .i64 0)/\w=w':=by rw[<-HS.out];exact om x y w
      go_wp2_with (go_at_call 89;refine hcc.mono ?_;rintro e w' ⟨rfl,rfl⟩);go_round
      case rel=>exact⟨k+1,by omega,by omega,by go_num,by rw[HC.out,HD.out,if_neg (by omega),if_neg (by omega)]⟩
      case measure=>simp[intOf];omega
   .have:k=m.length:=by omega
    have HS:=xf (show FE l m=1 by rw[HC.out,List.drop_of_length_le (l:=m) (by omega)];exact pQ _ (by simp;omega));clear this;go_wp2;go_ret;exact⟨ao HS.out.symm,rfl⟩
  .have D6:k=l.length:=by omega
   by_cases O0:l.length<m.length
   .have HS:=xf (show FE l m=-1 by rw[HC.out,List.drop_of_length_le (l:=l) (by omega),lA,if_neg (by simp;omega)]);clear D6;go_wp2;go_ret;exact⟨ao HS.out.symm,rfl⟩
   .have HS:=xf (show FE l m=0 by rw[HC.out,List.drop_of_length_le (l:=l) (by omega),lA,if_pos (by simp;omega)]);clear D6;go_wp2;go_ret;exact⟨ao HS.out.symm,rfl⟩
def tg (A:Option Addr)(c:Nat)(l:List Int)(w:World)(B:Nat)(h:RI w B A l)(hl:l.length<=1048576)(hx:∀x∈l,0<=x/\x<=1048576) :
  Calls An 36 #[.slice A l.length c] w λe w'=>e=.returned (.int .i64 l.sum)/\w=w':=by
 have HR:=xf h;have HX:=xf hx;clear h hx;go_enter Sq.func36,Tryz.ntmps36;go_wp2;go_loop [3,8] (λs i=>∃k:Nat,k<=l.length/\i=.int .i64 k/\s=.int .i64 (l.take k).sum) (λ_ i=>l.length-(intOf i).toNat)
 case atStart=>exact⟨0,by omega,rfl,by simp⟩
 case round =>
  obtain⟨k,hk,rfl,rfl⟩:=hrel;by_cases hlt:k<l.length
  .obtain⟨b,o,rfl,hb,hc⟩:=HR.out.at_ hlt;have HS:=xf (lB l k hlt);have hy:=HX.out _ (Dd l k hlt);obtain⟨hs1,hs2⟩:=Eg 0 1048576 (l.take k) λy hy=>HX.out y (za hy);have hs3:((l.take k).length:Int)*1048576<=1048576*1048576:=by
    have:(l.take k).length<=1048576:=by rw[List.length_take];omega
    omega
   have hs4:0<=(l.take k).sum:=by omega
   have hs5:(l.take k).sum<=1099511627776:=by omega
   clear hs1 hs2 hs3;generalize l[k]?.getD 0=y at hc HS hy;obtain⟨hy1,hy2⟩:=hy;go_wp2;go_round
   case rel=>exact⟨k+1,by omega,by go_num,by rw[HS.out]⟩
   case measure=>simp[intOf];omega
  .have:k=l.length:=by omega
   have HS:=xf (show(l.take k).sum=l.sum by rw[xN (by omega)]);clear this;go_wp2;go_ret;exact⟨ao HS.out,rfl⟩
def iw (x:Nat)(w:World)(hx:x<16):Calls An 66 #[.int .u8 x] w λe w' =>
  ∃A c,e=.returned (.slice A (wl x).length c)/\RI w' w'.heap.size A (wl x)/\Gr w w':=(fy x w hx).mono λe w' ⟨v,h1,h2,h3⟩=>by
 obtain⟨A,c,rfl,h4⟩:=zG h2;exact⟨A,c,h1,h4,h3⟩
def pU (cb:Nat)(c:AD)(x:Nat)(w:World){nA hA:Option Addr}{nc hc:Nat}(h:Cn w w.heap.size cb c nA hA nc hc)(h4:c.Ap.length<=4)(hd:∀h∈c.Ap,1<=h.CJ/\h.CJ<=5)(hx:c.has x) :
  Calls An 97 #[.pointer (some ⟨cb,0,none⟩),.int .u8 x] w λe w'=>e=.returned (.int .i64 (c.CJ x))/\Gr w w':=by
 have HP:=xf h;have HD:=xf hd;have HX:=xf hx;have He:=zI h4 hx;clear h hd hx;go_enter Sq.func97,Tryz.ntmps97;go_wp2_with fail;refine(iw x w He).mono ?_;rintro e w1 ⟨A,cc,rfl,Ct,hgr⟩;have HR:=xf Ct;have HG:=xf hgr;have KC:=xf (HP.out.gr (xh _) hgr);have hl:=cG x;clear Ct hgr;go_wp2;go_loop [5,11] (λs i=>∃k:Nat,k<=(wl x).length/\i=.int .i64 k/\s=.int .i64 ((c.Io x).take k).sum) (λ_ i=>(wl x).length-(intOf i).toNat)
 case atStart=>exact⟨0,by omega,rfl,by simp⟩
 case round =>
  obtain⟨k,hk,rfl,rfl⟩:=hrel;by_cases hlt:k<(wl x).length
  .obtain⟨b,o,rfl,hb,hcell⟩:=HR.out.at_ hlt;obtain⟨n,hn,Ip,LY,hn3⟩:=MH HX.out hlt;rw[hn] at hcell;have hc0:=KC.out.c0;have hc1:=KC.out.c1;obtain⟨hb2,ho2,rfl,JX,hh⟩:=KC.out.CM.at_ Ip;obtain⟨-,hdog,-,-⟩:=hh;have HS:=xf ((lB (c.Io x) k (by rw[c.IJ];exact hlt)).trans (by rw[c.SD hlt hn]));obtain⟨hs1,hs2⟩:=MJ c HX.out HD.out k;obtain⟨JY,LL⟩:=HD.out _ (c.FH Ip);have HN:=xf hn
   clear hn;go_wp2;go_round
   case rel=>exact⟨k+1,by omega,by go_num,by rw[HS.out]⟩
   case measure=>simp[intOf];omega
  .have D6:k=(wl x).length:=by omega
   have HS:=xf (show((c.Io x).take k).sum=c.CJ x by rw[xN (by rw[c.IJ];omega)];rfl);clear D6;go_wp2;go_ret;exact⟨ao HS.out,HG.out⟩
def th (cb br n night:Nat)(c:AD)(w:World){nA hA:Option Addr}{nc hc:Nat}(h:Cn w w.heap.size cb c nA hA nc hc)(hn:n<c.Ap.length)(ho:(c.h n).off.length<=5)(Yl:n<4) :
  Calls An 94 #[.pointer (some ⟨cb,0,none⟩),.pointer (some ⟨br,0,none⟩),.int .i64 night,.int .i64 n] w λe w'=>e=.returned (.bool (Yj c night n))/\w=w':=by
 have HP:=xf h;have hc0:=h.c0;have hc1:=h.c1;obtain⟨b,o,rfl,hlt,hh⟩:=h.CM.at_ hn;obtain⟨-,-,-,A,cc,Gh,Ct⟩:=hh;have HC:=xf (jl A cc (c.h n).off night w w.heap.size Ct (by omega));clear h Ct;go_enter Sq.func94,Tryz.ntmps94;go_wp2_with fail;refine HC.out.mono ?_;rintro e w' ⟨rfl,rfl⟩;go_wp2;go_ret;exact⟨rfl,rfl⟩
def nB (cb br n night:Nat)(r:Nat->Nat)(w:World)(hr:DR w w.heap.size br r)(hn:n<4)(hi:night<5)(hx:r (night-1)<16) :
  Calls An 95 #[.pointer (some ⟨cb,0,none⟩),.pointer (some ⟨br,0,none⟩),.int .i64 night,.int .i64 n] w λe w'=>e=.returned (.bool (fw r night n))/\w=w':=by
 rcases xV night with h0|h0
 .have HS:=xf (show fw r night n=false by simp[fw,h0]);subst h0;clear hr hx;go_enter Sq.func95,Tryz.ntmps95;go_wp2;go_ret;exact⟨ap HS.out.symm,rfl⟩
 .obtain⟨m,rfl⟩:∃m,night=m+1:=⟨night-1,by omega⟩;have HS:=xf (show fw r (m+1) n=(r m).testBit n by simp[fw]);have hc:=hr.2 m (by omega);rw[show m+1-1=m by omega] at hx;have HC:=xf (ji (r m) n w hx hn);clear hr;go_enter Sq.func95,Tryz.ntmps95;go_wp2_with fail;refine HC.out.mono ?_;rintro e w' ⟨rfl,rfl⟩;go_wp2;go_ret;exact⟨ap HS.out.symm,rfl⟩
def nC (cb br n night:Nat)(c:AD)(r:Nat->Nat)(w:World){nA hA:Option Addr}{nc hc:Nat}(h:Cn w w.heap.size cb c nA hA nc hc)(hr:DR w w.heap.size br r)(hn:n<c.Ap.length)(Yl:n<4)(hi:night<5)(hx:∀i,r i<16) :
  Calls An 96 #[.pointer (some ⟨cb,0,none⟩),.pointer (some ⟨br,0,none⟩),.int .i64 night,.int .i64 n] w λe w'=>e=.returned (.bool (pT c r night n))/\w=w':=by
 have HP:=xf h;have HR:=xf hr;have HX:=xf hx;have hc0:=h.c0;have hc1:=h.c1;obtain⟨b,o,rfl,hlt,hh⟩:=h.CM.at_ hn;obtain⟨-,-,hmost,-⟩:=hh;clear h hr hx;go_enter Sq.func96,Tryz.ntmps96;go_wp2;go_loop [9,12] (λs i=>∃k:Nat,k<=night/\i=.int .i64 k/\s=.int .i64 (Ei r n k)) (λ_ i=>night-(intOf i).toNat)
 case atStart=>exact⟨0,by omega,rfl,rfl⟩
 case round =>
  obtain⟨k,hk,rfl,rfl⟩:=hrel;have hle:=pS r n k;by_cases hlt:k<night
  .have hc:=HR.out.2 k (by omega);have He:=HX.out k;cases hb:(r k).testBit n with
   |true =>
    have HC:Hid (Calls An 92 #[.int .u8 (r k),.int .i64 n] w λe w'=>e=.returned (.bool true)/\w=w'):=xf (by rw[<-hb];exact ji (r k) n w He Yl);have HS:=xf (show Ei r n (k+1)=Ei r n k+1 by simp[Ei,hb]);clear hb;go_wp2_with (go_at_call 92;refine HC.out.mono ?_;rintro e w' ⟨rfl,rfl⟩);go_round
    case rel=>exact⟨k+1,by omega,by go_num,by rw[HS.out];go_num⟩
    case measure=>simp[intOf];omega
   |false =>
    have HC:Hid (Calls An 92 #[.int .u8 (r k),.int .i64 n] w λe w'=>e=.returned (.bool false)/\w=w'):=xf (by rw[<-hb];exact ji (r k) n w He Yl);have HS:=xf (show Ei r n (k+1)=Ei r n k by simp[Ei,hb]);clear hb;go_wp2_with (go_at_call 92;refine HC.out.mono ?_;rintro e w' ⟨rfl,rfl⟩);go_round
    case rel=>exact⟨k+1,by omega,by go_num,by rw[HS.out]⟩
    case measure=>simp[intOf];omega
  .have D6:k=night:=by omega
   subst D6;go_wp2;go_ret;exact⟨rfl,rfl⟩
def tA (p:Nat->Prop):∀j,j<0->p j:=λ_ h=>absurd h (yr _)
def FI (x:Int×Int×Int):Value:=.agg #[.int .i64 x.1,.int .i64 x.2.1,.int .i64 x.2.2]
def nD (cb br night:Nat)(c:AD)(r:Nat->Nat)(w:World){nA hA:Option Addr}{nc hc:Nat}(h:Cn w w.heap.size cb c nA hA nc hc)(hr:DR w w.heap.size br r)(Du:c.Ok)(hi:night<c.Aq.length)(hx:∀i,c.has (r i)) :
  Calls An 72 #[.pointer (some ⟨cb,0,none⟩),.pointer (some ⟨br,0,none⟩),.int .i64 night] w λe w'=>e=.returned (FI (CY c r night))/\Gr w w':=by
 have HP:=xf h;have HR:=xf hr;have HX:=xf hx;have hbr:=hr.1;have hcb:=h.lt;have MK:=Du.n5;clear h hr hx;go_enter Sq.func72,Tryz.ntmps72;go_wp2;obtain⟨W0,hW0⟩:∃W0:World,W0=(w.alloc (.cells #[.int .i64 0,.int .i64 0,.int .i64 0] 135)).alloc (.cells #[.func (.func 94) #[] #[],.func (.func 95) #[] #[],.func (.func 96) #[] #[]] 160):=⟨_,rfl⟩;have hg0:Gr w W0:=by rw[hW0];exact((Gr.refl w).alloc _).alloc _
 have hz0:W0.heap.size=w.heap.size+2:=by rw[hW0];simp
 have KD:Hid (∀w2,Gr W0 w2->(w2.cell? ⟨w.heap.size,0,none⟩=some (.int .i64 0)/\w2.cell? ⟨w.heap.size,1,none⟩=some (.int .i64 0)/\w2.cell? ⟨w.heap.size,2,none⟩=some (.int .i64 0))/\w2.frozen? ⟨w.heap.size,0,none⟩=false/\w2.frozen? ⟨w.heap.size,1,none⟩=false/\w2.frozen? ⟨w.heap.size,2,none⟩=false):=xf λw2 hg=>by
  have e:∀o,w2.cell? ⟨w.heap.size,o,none⟩=(#[.int .i64 0,.int .i64 0,.int .i64 0]:Array Value)[o]?/\w2.frozen? ⟨w.heap.size,o,none⟩=false:=λo=>by
   rw[hg.cell (by show w.heap.size<_;omega),hg.frozen (by show w.heap.size<_;omega),hW0,xI _ _ _ (by simp),xj _ _ _ _ rfl,yF _ _ _ (by simp),xX _ _ _ _ rfl];exact⟨rfl,rfl⟩
  exact⟨⟨(e 0).1,(e 1).1,(e 2).1⟩,(e 0).2,(e 1).2,(e 2).2⟩
 rw[<-hW0];clear hW0;have h4:=Du.h4;go_loopw [14] (λi wr=>∃k:Nat,k<=3/\i=.int .i64 k/\(∀j,j<k->breaks c r night j=none)/\Gr W0 wr) (λi _=>3-(intOf i).toNat)
 case atStart=>exact⟨0,by omega,rfl,tA _,Gr.refl _⟩
 case round =>
  obtain⟨k,hk,rfl,hb,hgr⟩:=hrel;have B4:=xf (hg0.trans hgr);have D7:=xf hgr;clear hgr;obtain rfl|rfl|rfl|rfl:k=0\/k=1\/k=2\/k=3:=by omega
  ·
   have Sa:∀w,(Instr.index 160 (.agg #[.func (.func 94) #[] #[],.func (.func 95) #[] #[],.func (.func 96) #[] #[]]) (.int .i64 0)).run An w=.ok (.func (.func 94) #[] #[]) w:=λ_=>by kernel_rfl
   have Oy:=HX.out night;have TN:=zI h4 Oy;have hcr:=(HR.out.on B4.out).2 night (by omega);have HL:=xf (iw (r night) wr TN);have HB:=xf hb;have KC:=xf (HP.out.on B4.out);have TP:=xf (HR.out.on B4.out);clear hb;go_wp2_with fail;refine HL.out.mono ?_;rintro e w2 ⟨A,cc,rfl,Ct,hg2⟩;have Hf:=xf Ct;have Ea:=xf (B4.out.trans hg2);have Sb:=xf (KC.out.on hg2);have LZ:=xf (TP.out.on hg2);have Ex:=xf (D7.out.trans hg2)
   obtain⟨⟨KE,hr1,hr2⟩,F8,Xr,hf2⟩:=KD.out w2 Ex.out;have hl:=cG (r night);have hz2:=hg2.size;clear Ct hg2;go_wp2;go_loop [25] (λi=>∃k:Nat,k<=(wl (r night)).length/\i=.int .i64 k/\((wl (r night)).take k).find? (λh=>IK c r night 0 h.toNat)=none) (λi=>(wl (r night)).length-(intOf i).toNat)
   case atStart=>exact⟨0,by omega,rfl,by simp⟩
   case round =>
    obtain⟨k,hk,rfl,hnone⟩:=hrel;have HN:=xf hnone;clear hnone;by_cases hlt:k<(wl (r night)).length
    .obtain⟨b,o,rfl,hb,hcell⟩:=Hf.out.at_ hlt;obtain⟨n,hn,Ip,LY,hn3⟩:=MH Oy hlt;rw[hn] at hcell;have HE:=xf hn;clear hn;cases hq:IK c r night 0 n with
     |true =>
      have HC:Hid (Calls An 94 #[.pointer (some ⟨cb,0,none⟩),.pointer (some ⟨br,0,none⟩),.int .i64 night,.int .i64 n] w2 λe w'=>e=.returned (.bool true)/\w2=w'):=xf (by rw[<-hq];exact th cb br n night c w2 Sb.out Ip (Du.off _ (c.FH Ip)).1 LY);have HF:=xf (show breaks c r night 0=some ((n:Nat):Int) by have:=fM hlt HN.out (by rw[HE.out];exact hq);rw[HE.out] at this;exact this);clear hq;go_wp2_with (go_at_call 94;refine HC.out.mono ?_;rintro e w' ⟨rfl,rfl⟩)
      obtain⟨s0,s1,s2⟩:=OZ KE hr1 hr2;refine bodyPost_ret (v:=FI (1,night,n)) (by simp[results,Tryz.results72,go_sem,FI,s0,s1,s2]) rfl ⟨?_,?_⟩
      .exact congrArg Ending.returned (congrArg FI (by unfold CY;skip;rw[HF.out]))
      .exact((Ea.out.setCell (xh _) _).setCell (xh _) _).setCell (xh _) _
     |false =>
      have HC:Hid (Calls An 94 #[.pointer (some ⟨cb,0,none⟩),.pointer (some ⟨br,0,none⟩),.int .i64 night,.int .i64 n] w2 λe w'=>e=.returned (.bool false)/\w2=w'):=xf (by rw[<-hq];exact th cb br n night c w2 Sb.out Ip (Du.off _ (c.FH Ip)).1 LY);have HF:=xf (gv hlt HN.out (by rw[HE.out];exact hq));clear hq;go_wp2_with (go_at_call 94;refine HC.out.mono ?_;rintro e w' ⟨rfl,rfl⟩);go_round
      case rel=>exact⟨k+1,by omega,by go_num,HF.out⟩
      case measure=>simp[intOf];omega
    .have HF:=xf (show breaks c r night 0=none by have:=HN.out;rw[xN (by omega)] at this;exact this);clear HN;go_wp2;go_roundw
     case rel=>exact⟨1,by omega,by go_num,λj hj=>by
      rcases yf (yB hj) with h|rfl
      .exact HB.out j h
      .exact HF.out,Ex.out⟩
     case measure=>simp[intOf]
  ·
   have Sa:∀w,(Instr.index 160 (.agg #[.func (.func 94) #[] #[],.func (.func 95) #[] #[],.func (.func 96) #[] #[]]) (.int .i64 1)).run An w=.ok (.func (.func 95) #[] #[]) w:=λ_=>by kernel_rfl
   have Oy:=HX.out night;have TN:=zI h4 Oy;have hcr:=(HR.out.on B4.out).2 night (by omega);have HL:=xf (iw (r night) wr TN);have HB:=xf hb;have KC:=xf (HP.out.on B4.out);have TP:=xf (HR.out.on B4.out);clear hb;go_wp2_with fail;refine HL.out.mono ?_;rintro e w2 ⟨A,cc,rfl,Ct,hg2⟩;have Hf:=xf Ct;have Ea:=xf (B4.out.trans hg2);have Sb:=xf (KC.out.on hg2);have LZ:=xf (TP.out.on hg2);have Ex:=xf (D7.out.trans hg2)
   obtain⟨⟨KE,hr1,hr2⟩,F8,Xr,hf2⟩:=KD.out w2 Ex.out;have hl:=cG (r night);have hz2:=hg2.size;clear Ct hg2;go_wp2;go_loop [25] (λi=>∃k:Nat,k<=(wl (r night)).length/\i=.int .i64 k/\((wl (r night)).take k).find? (λh=>IK c r night 1 h.toNat)=none) (λi=>(wl (r night)).length-(intOf i).toNat)
   case atStart=>exact⟨0,by omega,rfl,by simp⟩
   case round =>
    obtain⟨k,hk,rfl,hnone⟩:=hrel;have HN:=xf hnone;clear hnone;by_cases hlt:k<(wl (r night)).length
    .obtain⟨b,o,rfl,hb,hcell⟩:=Hf.out.at_ hlt;obtain⟨n,hn,Ip,LY,hn3⟩:=MH Oy hlt;rw[hn] at hcell;have HE:=xf hn;clear hn;cases hq:IK c r night 1 n with
     |true =>
      have HC:Hid (Calls An 95 #[.pointer (some ⟨cb,0,none⟩),.pointer (some ⟨br,0,none⟩),.int .i64 night,.int .i64 n] w2 λe w'=>e=.returned (.bool true)/\w2=w'):=xf (by rw[<-hq];exact nB cb br n night r w2 LZ.out LY (by omega) (zI h4 (HX.out _)));have HF:=xf (show breaks c r night 1=some ((n:Nat):Int) by have:=fM hlt HN.out (by rw[HE.out];exact hq);rw[HE.out] at this;exact this);clear hq;go_wp2_with (go_at_call 95;refine HC.out.mono ?_;rintro e w' ⟨rfl,rfl⟩)
      obtain⟨s0,s1,s2⟩:=OZ KE hr1 hr2;refine bodyPost_ret (v:=FI (2,night,n)) (by simp[results,Tryz.results72,go_sem,FI,s0,s1,s2]) rfl ⟨?_,?_⟩
      .exact congrArg Ending.returned (congrArg FI (by unfold CY;skip;rw[HB.out 0 (by omega)];rw[HF.out]))
      .exact((Ea.out.setCell (xh _) _).setCell (xh _) _).setCell (xh _) _
     |false =>
      have HC:Hid (Calls An 95 #[.pointer (some ⟨cb,0,none⟩),.pointer (some ⟨br,0,none⟩),.int .i64 night,.int .i64 n] w2 λe w'=>e=.returned (.bool false)/\w2=w'):=xf (by rw[<-hq];exact nB cb br n night r w2 LZ.out LY (by omega) (zI h4 (HX.out _)));have HF:=xf (gv hlt HN.out (by rw[HE.out];exact hq));clear hq;go_wp2_with (go_at_call 95;refine HC.out.mono ?_;rintro e w' ⟨rfl,rfl⟩);go_round
      case rel=>exact⟨k+1,by omega,by go_num,HF.out⟩
      case measure=>simp[intOf];omega
    .have HF:=xf (show breaks c r night 1=none by have:=HN.out;rw[xN (by omega)] at this;exact this);clear HN;go_wp2;go_roundw
     case rel=>exact⟨2,by omega,by go_num,λj hj=>by
      rcases yf (yB hj) with h|rfl
      .exact HB.out j h
      .exact HF.out,Ex.out⟩
     case measure=>simp[intOf]
  ·
   have Sa:∀w,(Instr.index 160 (.agg #[.func (.func 94) #[] #[],.func (.func 95) #[] #[],.func (.func 96) #[] #[]]) (.int .i64 2)).run An w=.ok (.func (.func 96) #[] #[]) w:=λ_=>by kernel_rfl
   have Oy:=HX.out night;have TN:=zI h4 Oy;have hcr:=(HR.out.on B4.out).2 night (by omega);have HL:=xf (iw (r night) wr TN);have HB:=xf hb;have KC:=xf (HP.out.on B4.out);have TP:=xf (HR.out.on B4.out);clear hb;go_wp2_with fail;refine HL.out.mono ?_;rintro e w2 ⟨A,cc,rfl,Ct,hg2⟩;have Hf:=xf Ct;have Ea:=xf (B4.out.trans hg2);have Sb:=xf (KC.out.on hg2);have LZ:=xf (TP.out.on hg2);have Ex:=xf (D7.out.trans hg2)
   obtain⟨⟨KE,hr1,hr2⟩,F8,Xr,hf2⟩:=KD.out w2 Ex.out;have hl:=cG (r night);have hz2:=hg2.size;clear Ct hg2;go_wp2;go_loop [25] (λi=>∃k:Nat,k<=(wl (r night)).length/\i=.int .i64 k/\((wl (r night)).take k).find? (λh=>IK c r night 2 h.toNat)=none) (λi=>(wl (r night)).length-(intOf i).toNat)
   case atStart=>exact⟨0,by omega,rfl,by simp⟩
   case round =>
    obtain⟨k,hk,rfl,hnone⟩:=hrel;have HN:=xf hnone;clear hnone;by_cases hlt:k<(wl (r night)).length
    .obtain⟨b,o,rfl,hb,hcell⟩:=Hf.out.at_ hlt;obtain⟨n,hn,Ip,LY,hn3⟩:=MH Oy hlt;rw[hn] at hcell;have HE:=xf hn;clear hn;cases hq:IK c r night 2 n with
     |true =>
      have HC:Hid (Calls An 96 #[.pointer (some ⟨cb,0,none⟩),.pointer (some ⟨br,0,none⟩),.int .i64 night,.int .i64 n] w2 λe w'=>e=.returned (.bool true)/\w2=w'):=xf (by rw[<-hq];exact nC cb br n night c r w2 Sb.out LZ.out Ip LY (by omega) λi=>zI h4 (HX.out i));have HF:=xf (show breaks c r night 2=some ((n:Nat):Int) by have:=fM hlt HN.out (by rw[HE.out];exact hq);rw[HE.out] at this;exact this);clear hq
      go_wp2_with (go_at_call 96;refine HC.out.mono ?_;rintro e w' ⟨rfl,rfl⟩);obtain⟨s0,s1,s2⟩:=OZ KE hr1 hr2;refine bodyPost_ret (v:=FI (3,night,n)) (by simp[results,Tryz.results72,go_sem,FI,s0,s1,s2]) rfl ⟨?_,?_⟩
      .exact congrArg Ending.returned (congrArg FI (by unfold CY;skip;rw[HB.out 0 (by omega)];rw[HB.out 1 (by omega)];rw[HF.out]))
      .exact((Ea.out.setCell (xh _) _).setCell (xh _) _).setCell (xh _) _
     |false =>
      have HC:Hid (Calls An 96 #[.pointer (some ⟨cb,0,none⟩),.pointer (some ⟨br,0,none⟩),.int .i64 night,.int .i64 n] w2 λe w'=>e=.returned (.bool false)/\w2=w'):=xf (by rw[<-hq];exact nC cb br n night c r w2 Sb.out LZ.out Ip LY (by omega) λi=>zI h4 (HX.out i));have HF:=xf (gv hlt HN.out (by rw[HE.out];exact hq));clear hq;go_wp2_with (go_at_call 96;refine HC.out.mono ?_;rintro e w' ⟨rfl,rfl⟩);go_round
      case rel=>exact⟨k+1,by omega,by go_num,HF.out⟩
      case measure=>simp[intOf];omega
    .have HF:=xf (show breaks c r night 2=none by have:=HN.out;rw[xN (by omega)] at this;exact this);clear HN;go_wp2;go_roundw
     case rel=>exact⟨3,by omega,by go_num,λj hj=>by
      rcases yf (yB hj) with h|rfl
      .exact HB.out j h
      .exact HF.out,Ex.out⟩
     case measure=>simp[intOf]
  ·
   have Oy:=HX.out night;have hcr:=(HR.out.on B4.out).2 night (by omega);have HB:=xf hb;have KC:=xf (HP.out.on B4.out);obtain⟨⟨KE,hr1,hr2⟩,F8,Xr,hf2⟩:=KD.out wr D7.out;have hc0:=KC.out.c0;obtain⟨nb,no,rfl,ML,MM⟩:=KC.out.Aq.at_ hi;have HD:=xf (pU cb c (r night) wr.drew (KC.out.on (Gr.refl wr).drew) h4 Du.CJ Oy);have Xs:=xf (show CY c r night=if c.CJ (r night)<c.need night then(4,(night:Int),-1) else(0,-1,-1) by unfold CY;rw[HB.out 0 (by omega),HB.out 1 (by omega),HB.out 2 (by omega)])
   have TQ:cb<wr.heap.size:=KC.out.lt;have hWlt:w.heap.size<wr.heap.size:=by have:=D7.out.size;omega
   have Ch:=xf ((B4.out.drew));have Ea:=xf ((D7.out.drew));clear hb KE hr1 hr2 F8 Xr hf2;change wr.cell? ⟨nb,no+night,none⟩=some (.int .i64 (c.need night)) at MM;generalize c.need night=m at MM Xs;generalize c.CJ (r night)=d at HD Xs;by_cases hdm:d<m
   .have HL:=xf (show CY c r night=(4,(night:Int),-1) by rw[Xs.out,if_pos hdm]);clear Xs;go_wp2;go_region_with (first|(go_at_call 97;refine HD.out.mono ?_;rintro e w3 ⟨rfl,hg3⟩;have q0:=(hg3.cell (p:=⟨cb,0,none⟩) TQ).trans hc0;have q1:=(hg3.cell (p:=⟨nb,no+night,none⟩) ML).trans MM;have D8:=xf (Ch.out.trans hg3);obtain⟨⟨KE,hr1,hr2⟩,F8,Xr,hf2⟩:=KD.out w3 (Ea.out.trans hg3);clear hg3))
    all_goals
     go_wp2;obtain⟨s0,s1,s2⟩:=OZ KE hr1 hr2;refine bodyPost_ret (v:=FI (4,night,-1)) (by simp[results,Tryz.results72,go_sem,FI,s0,s1,s2]) rfl ⟨?_,?_⟩
     .exact congrArg Ending.returned (congrArg FI HL.out.symm)
     .exact((D8.out.setCell (xh _) _).setCell (xh _) _).setCell (xh _) _
   .have HL:=xf (show CY c r night=(0,-1,-1) by rw[Xs.out,if_neg hdm]);clear Xs;go_wp2;go_region_with (first|(go_at_call 97;refine HD.out.mono ?_;rintro e w3 ⟨rfl,hg3⟩;have q0:=(hg3.cell (p:=⟨cb,0,none⟩) TQ).trans hc0;have q1:=(hg3.cell (p:=⟨nb,no+night,none⟩) ML).trans MM;have D8:=xf (Ch.out.trans hg3);obtain⟨⟨KE,hr1,hr2⟩,F8,Xr,hf2⟩:=KD.out w3 (Ea.out.trans hg3);clear hg3))
    all_goals
     go_wp2;obtain⟨s0,s1,s2⟩:=OZ KE hr1 hr2;refine bodyPost_ret (v:=FI (0,-1,-1)) (by simp[results,Tryz.results72,go_sem,FI,s0,s1,s2]) rfl ⟨?_,?_⟩
     .exact congrArg Ending.returned (congrArg FI HL.out.symm)
     .exact((D8.out.setCell (xh _) _).setCell (xh _) _).setCell (xh _) _
end Go.Proofs.Ao
namespace Go.Sq
def Hw (l:List Int):Nat:=l.foldl (λx h=>x ||| 2 ^ h.toNat) 0
def rD (l:List Int)(k:Nat)(hk:k<l.length):Hw (l.take (k+1))=Hw (l.take k) ||| 2 ^ (l[k]?.getD 0).toNat:=by
 rw[bm 0 l k hk];unfold Hw;rw[List.foldl_append];rfl
def wn:∀x:Fin 16,∀n:Fin 4,(x.val ||| 2 ^ n.val)<16:=by decide
def pV (l:List Int)(h:∀x∈l,0<=x/\x<4):Hw l<16:=by
 have key:∀(l:List Int) (x:Nat),(∀y∈l,0<=y/\y<4)->x<16->l.foldl (λx h=>x ||| 2 ^ h.toNat) x<16:=by
  intro l
  induction l with
  |nil=>intro x _ hx;exact hx
  |cons a l ih =>
   intro x h hx;have ha:=h a yE;exact ih _ (λy hy=>h y (yS _ hy)) (wn ⟨x,hx⟩ ⟨a.toNat,by omega⟩)
 exact key l 0 h (by decide)
open Go.RowKit
structure KT (T:Nat->Prop)(w w':World):Prop where
 os:w'.os=w.os
 tape:w'.tape=w.tape
 output:w'.output=w.output
 drawn:w.drawn<=w'.drawn
 size:w.heap.size<=w'.heap.size
 block:∀b,b<w.heap.size->¬T b->w'.heap[b]?=w.heap[b]?
def KT.refl (T:Nat->Prop)(w:World):KT T w w:=⟨rfl,rfl,rfl,xh _,xh _,λ_ _ _=>rfl⟩
def KT.trans {T:Nat->Prop}{a b c:World}(h:KT T a b)(k:KT T b c):KT T a c :=
 ⟨k.os.trans h.os,k.tape.trans h.tape,k.output.trans h.output,xx h.drawn k.drawn,xx h.size k.size,λx hx hT=>(k.block x (xl hx h.size) hT).trans (h.block x hx hT)⟩
def zF {T:Nat->Prop}{w w':World}(h:Gr w w'):KT T w w':=⟨h.below.os,h.below.tape,h.below.output,h.drawn,h.size,λb hb _=>h.below.block b hb⟩
def KT.mono {T T':Nat->Prop}{w w':World}(h:KT T w w')(hT:∀b,T b->T' b):KT T' w w':=⟨h.os,h.tape,h.output,h.drawn,h.size,λb hb hn=>h.block b hb λt=>hn (hT b t)⟩
def KT.setCell {T:Nat->Prop}(w:World){p:Addr}(hp:T p.block)(v:Value):KT T w (w.setCell p v) :=
 ⟨rfl,rfl,rfl,xh _,by simp[World.setCell],λb _ hT=>xD w p v b λe=>hT (e▸hp)⟩
def KT.putObj {T:Nat->Prop}(w:World){l:Nat}(hl:T l)(o:Obj):KT T w (w.putObj l o) :=
 ⟨rfl,rfl,rfl,xh _,by simp[World.putObj],λb _ hT=>World.putObj_heap_other λe=>hT (e▸hl)⟩
def KT.cell {T:Nat->Prop}{w w':World}(h:KT T w w'){p:Addr}(hp:p.block<w.heap.size)(hT:¬T p.block):w'.cell? p=w.cell? p:=xH (h.block _ hp hT)
def KT.frozen {T:Nat->Prop}{w w':World}(h:KT T w w'){p:Addr}(hp:p.block<w.heap.size)(hT:¬T p.block):w'.frozen? p=w.frozen? p:=yV (h.block _ hp hT)
def FC (w:World)(K:Nat->Prop)(A:Option Addr)(l:List Int):Prop :=
 l≠[]->∃b o,A=some ⟨b,o,none⟩/\K b/\∀i x,l[i]?=some x->w.cell? ⟨b,o+i,none⟩=some (.int .i64 x)
def L3 (w:World)(K:Nat->Prop)(b o:Nat)(h:Be):Prop :=
 w.cell? ⟨b,o,none⟩=some (.int .i64 h.heads)/\w.cell? ⟨b,o+1,none⟩=some (.int .i64 h.CJ)/\w.cell? ⟨b,o+2,none⟩=some (.int .i64 h.most) /\
  ∃A c,w.cell? ⟨b,o+3,none⟩=some (.slice A h.off.length c)/\FC w K A h.off
def Dj (w:World)(K:Nat->Prop)(A:Option Addr)(l:List Be):Prop :=
 l≠[]->∃b o,A=some ⟨b,o,none⟩/\K b/\∀i h,l[i]?=some h->L3 w K b (o+i*4) h
structure CN (w:World)(K:Nat->Prop)(cb:Nat)(c:AD)(sets:List Nat)(nA hA:Option Addr)(nc hc sb sc:Nat):Prop where
 lt:∀b,K b->b<w.heap.size
 kc:K cb
 c0:w.cell? ⟨cb,0,none⟩=some (.slice nA c.Aq.length nc)
 c1:w.cell? ⟨cb,1,none⟩=some (.slice hA c.Ap.length hc)
 c2:w.cell? ⟨cb,2,none⟩=some (.slice (some ⟨sb,0,none⟩) sets.length sc)
 ks:K sb
 sets:∀(i x:Nat),sets[i]?=some x->w.cell? ⟨sb,i,none⟩=some (.int .u8 (x:Int))
 Aq:FC w K nA c.Aq
 CM:Dj w K hA c.Ap
section
variable {w w':World} {K:Nat->Prop} {B:Nat} {A:Option Addr}
def FC.ri {l:List Int}(h:FC w K A l)(hK:∀b,K b->b<B):RI w B A l:=λhn=>by
 obtain⟨b,o,e,hb,hc⟩:=h hn;exact⟨b,o,e,hK b hb,hc⟩
def L3.hat {b o:Nat}{h:Be}(ha:L3 w K b o h)(hK:∀b,K b->b<B):Kt w B b o h:=by
 obtain⟨h1,h2,h3,A,c,h4,h5⟩:=ha;exact⟨h1,h2,h3,A,c,h4,h5.ri hK⟩
def Dj.hs {l:List Be}(h:Dj w K A l)(hK:∀b,K b->b<B):BG w B A l:=λhn=>by
 obtain⟨b,o,e,hb,hc⟩:=h hn;exact⟨b,o,e,hK b hb,λi h hi=>(hc i h hi).hat hK⟩
def FC.keep {l:List Int}(h:FC w K A l)(hk:∀b o,K b->w'.cell? ⟨b,o,none⟩=w.cell? ⟨b,o,none⟩):FC w' K A l:=λhn=>by
 obtain⟨b,o,e,hb,hc⟩:=h hn;exact⟨b,o,e,hb,λi x hx=>(hk _ _ hb).trans (hc i x hx)⟩
def L3.keep {b o:Nat}{h:Be}(ha:L3 w K b o h)(hb:K b)(hk:∀b o,K b->w'.cell? ⟨b,o,none⟩=w.cell? ⟨b,o,none⟩):L3 w' K b o h:=by
 obtain⟨h1,h2,h3,A,c,h4,h5⟩:=ha;exact⟨(hk _ _ hb).trans h1,(hk _ _ hb).trans h2,(hk _ _ hb).trans h3,A,c,(hk _ _ hb).trans h4,h5.keep hk⟩
def Dj.keep {l:List Be}(h:Dj w K A l)(hk:∀b o,K b->w'.cell? ⟨b,o,none⟩=w.cell? ⟨b,o,none⟩):Dj w' K A l:=λhn=>by
 obtain⟨b,o,e,hb,hc⟩:=h hn;exact⟨b,o,e,hb,λi h hi=>(hc i h hi).keep hb hk⟩
variable {cb:Nat} {c:AD} {sets:List Nat} {nA hA:Option Addr} {nc hc sb sc:Nat}
def CN.KF (h:CN w K cb c sets nA hA nc hc sb sc):Cn w w.heap.size cb c nA hA nc hc:=⟨h.lt _ h.kc,h.c0,h.c1,h.Aq.ri h.lt,h.CM.hs h.lt⟩
def CN.keep (h:CN w K cb c sets nA hA nc hc sb sc)(hz:w.heap.size<=w'.heap.size)(hk:∀b o,K b->w'.cell? ⟨b,o,none⟩=w.cell? ⟨b,o,none⟩):CN w' K cb c sets nA hA nc hc sb sc :=
 ⟨λb hb=>xl (h.lt b hb) hz,h.kc,(hk _ _ h.kc).trans h.c0,(hk _ _ h.kc).trans h.c1,(hk _ _ h.kc).trans h.c2,h.ks,λi x hx=>(hk _ _ h.ks).trans (h.sets i x hx),h.Aq.keep hk,h.CM.keep hk⟩
end
abbrev Bl:=Nat->Nat
def upd (r:Bl)(n x:Nat):Bl:=λi=>if i=n then x else r i
def BI (r:Bl):Value:=.agg #[.int .u8 (r 0),.int .u8 (r 1),.int .u8 (r 2),.int .u8 (r 3),.int .u8 (r 4)]
def Bo (c:AD)(sets:List Nat):Nat->Bl->Nat->List Bl
 |0,r,_=>[r]
 |k+1,r,n=>sets.flatMap λx=>if(CY c (upd r n x) n).1=0 then Bo c sets k (upd r n x) (n+1) else[]
structure LM (T K:Nat->Prop)(cb:Nat)(c:AD)(sets:List Nat)(nA hA:Option Addr)(nc hc sb sc bc by_ br bw l:Nat)(r:Bl)(w:World):Prop where
 CZ:CN w K cb c sets nA hA nc hc sb sc
 kt:∀b,K b->¬T b
 xc:w.cell? ⟨bc,0,none⟩=some (.pointer (some ⟨cb,0,none⟩))/\¬T bc/\bc<w.heap.size
 xy:w.cell? ⟨by_,0,none⟩=some (.func (.yield l) #[] #[])/\¬T by_/\by_<w.heap.size
 xw:w.cell? ⟨bw,0,none⟩=some (.func (.func 87) #[] #[.pointer (some ⟨bc,0,none⟩),.pointer (some ⟨by_,0,none⟩),.pointer (some ⟨br,0,none⟩),.pointer (some ⟨bw,0,none⟩)])/\¬T bw/\bw<w.heap.size
 xr:(∀i,i<5->w.cell? ⟨br,i,none⟩=some (.int .u8 (r i))/\w.frozen? ⟨br,i,none⟩=false)/\¬T br/\br<w.heap.size
 ne:bc≠br/\by_≠br/\bw≠br/\∀b,K b->b≠br
 rs:∀i,c.has (r i)
section
variable {T K:Nat->Prop} {cb:Nat} {c:AD} {sets:List Nat} {nA hA:Option Addr} {nc hc sb sc bc by_ br bw l:Nat} {r:Bl} {w w':World}
def LM.on (h:LM T K cb c sets nA hA nc hc sb sc bc by_ br bw l r w)(k:KT T w w'):LM T K cb c sets nA hA nc hc sb sc bc by_ br bw l r w':=by
 refine⟨h.CZ.keep k.size λb o hb=>k.cell (p:=⟨b,o,none⟩) (h.CZ.lt b hb) (h.kt b hb),h.kt,⟨(k.cell h.xc.2.2 h.xc.2.1).trans h.xc.1,h.xc.2.1,xl h.xc.2.2 k.size⟩,⟨(k.cell h.xy.2.2 h.xy.2.1).trans h.xy.1,h.xy.2.1,xl h.xy.2.2 k.size⟩,
  ⟨(k.cell h.xw.2.2 h.xw.2.1).trans h.xw.1,h.xw.2.1,xl h.xw.2.2 k.size⟩,⟨λi hi=>?_,h.xr.2.1,xl h.xr.2.2 k.size⟩,h.ne,h.rs⟩
 obtain⟨h1,h2⟩:=h.xr.1 i hi;exact⟨(k.cell (p:=⟨br,i,none⟩) h.xr.2.2 h.xr.2.1).trans h1,(k.frozen (p:=⟨br,i,none⟩) h.xr.2.2 h.xr.2.1).trans h2⟩
def LM.set (h:LM T K cb c sets nA hA nc hc sb sc bc by_ br bw l r w){n x:Nat}(hn:n<5)(hx:c.has x):LM T K cb c sets nA hA nc hc sb sc bc by_ br bw l (upd r n x) (w.setCell ⟨br,n,none⟩ (.int .u8 x)):=by
 have other:∀b o,b≠br->(w.setCell ⟨br,n,none⟩ (.int .u8 x)).cell? ⟨b,o,none⟩=w.cell? ⟨b,o,none⟩:=λb o hb=>xq _ _ _ _ (by intro e;simp only[Addr.mk.injEq] at e;exact hb e.1.symm);have sz:(w.setCell ⟨br,n,none⟩ (.int .u8 x)).heap.size=w.heap.size:=by simp[World.setCell]
 refine⟨h.CZ.keep (by rw[sz];exact xh _) λb o hb=>other b o (h.ne.2.2.2 b hb),h.kt,⟨(other _ _ h.ne.1).trans h.xc.1,h.xc.2.1,by rw[sz];exact h.xc.2.2⟩,⟨(other _ _ h.ne.2.1).trans h.xy.1,h.xy.2.1,by rw[sz];exact h.xy.2.2⟩,
  ⟨(other _ _ h.ne.2.2.1).trans h.xw.1,h.xw.2.1,by rw[sz];exact h.xw.2.2⟩,⟨λi hi=>?_,h.xr.2.1,by rw[sz];exact h.xr.2.2⟩,h.ne,λi=>?_⟩
 .obtain⟨h1,h2⟩:=h.xr.1 i hi;refine⟨?_,(yg _ _ _ _).trans h2⟩;unfold upd;by_cases e:i=n
  .subst e;rw[if_pos rfl];exact xE _ _ _ h1
  .rw[if_neg e,xq _ _ _ _ (by intro e';simp only[Addr.mk.injEq] at e';omega)];exact h1
 .unfold upd;split
  .exact hx
  .exact h.rs i
def LM.ros (h:LM T K cb c sets nA hA nc hc sb sc bc by_ br bw l r w):DR w w.heap.size br r:=⟨h.xr.2.2,λi hi=>(h.xr.1 i hi).1⟩
end
end Go.Sq
namespace Go.Proofs.Ao
open Go.RowKit Go.Sq Go.Shelf
attribute [local go_sem] Oper.semAt_some
def U9 (T:Nat->Prop)(J Jx:List Bl->World->Prop)(pre:List Bl)(ρ:Bl)(W:World)(e:Ending)(W':World):Prop :=
 (e=.returned (.bool true)/\J (pre++[ρ]) W'/\KT T W W')\/(e=.returned (.bool false)/\Jx (pre++[ρ]) W'/\KT T W W')
def pW (T':Nat->Prop)(St:World->Prop)(J Jx:List Bl->World->Prop)(pre L:List Bl)(W:World)(e:Ending)(W':World):Prop :=
 (e=.returned (.bool true)/\J (pre++L) W'/\St W'/\KT T' W W')\/(e=.returned (.bool false)/\(∃q,q <+: L/\Jx (pre++q) W')/\KT T' W W')
section
variable {T K:Nat->Prop} {cb:Nat} {c:AD} {sets:List Nat} {nA hA:Option Addr} {nc hc sb sc bc by_ br bw l:Nat} {J Jx:List Bl->World->Prop} {W0:World} {Lt:List Bl}
def pX (Du:c.Ok){r:Bl}{pre:List Bl}{W:World}(hs:LM T K cb c sets nA hA nc hc sb sc bc by_ br bw l r W)(hk:KT (λb=>T b\/b=br) W0 W)(hj:J pre W)(hpl:pre++[r] <+: Lt)
  (hY:∀pre ρ W,pre++[ρ] <+: Lt->KT (λb=>T b\/b=br) W0 W->J pre W->YieldAt Fence.wide 0 An l #[BI ρ] W (U9 T J Jx pre ρ W)) :
  CallsIn Fence.wide 0 An 87 #[.int .i64 c.Aq.length,.pointer (some ⟨bc,0,none⟩),.pointer (some ⟨by_,0,none⟩),.pointer (some ⟨br,0,none⟩),.pointer (some ⟨bw,0,none⟩)] W
   (pW (λb=>T b\/b=br) (LM T K cb c sets nA hA nc hc sb sc bc by_ br bw l r) J Jx pre [r] W):=by
 have HS:=xf hs;have MK:=Du.n5;obtain⟨fn,tmps,assign,body,hy,hR⟩:=hY pre r W hpl hk hj;have HR:=xf hR;have hxc:=hs.xc.1;have Jg:=hs.xy.1;have hc0:=hs.CZ.c0;have KE:=(hs.xr.1 0 (by omega)).1;have hr1:=(hs.xr.1 1 (by omega)).1;have hr2:=(hs.xr.1 2 (by omega)).1;have hr3:=(hs.xr.1 3 (by omega)).1;have hr4:=(hs.xr.1 4 (by omega)).1;unfold BI at hy;clear hs hk hj hY hR hpl;refine callsIn_of_wp Sq.func87 rfl trivial ?_ rfl
 simp only[Tryz.ntmps87,xB,xz,xF,Nat.reduceAdd,Nat.reduceSub,yi,yj,yv,yn,yD,yt]
 gi_wp2
 refine⟨rfl,HR.out.mono ?_⟩;rintro e W' (⟨rfl,hj,hk⟩|⟨rfl,hj,hk⟩)
 .have HJ:=xf hj;have HK:=xf hk;clear hj hk
  gi_wp2
  go_ret;exact .inl ⟨rfl,HJ.out,HS.out.on HK.out,HK.out.mono λb hb=>.inl hb⟩
 .have HJ:=xf hj;have HK:=xf hk;clear hj hk
  gi_wp2
  go_ret;exact .inr ⟨rfl,⟨[r],List.prefix_refl _,HJ.out⟩,HK.out.mono λb hb=>.inl hb⟩
def tB (k1 k2 k3:Int)(w:World):Sem.run An (Instr.field 135 (.agg #[.int .i64 k1,.int .i64 k2,.int .i64 k3]) 0) w=.ok (.int .i64 k1) w:=by kernel_rfl
def gives (c:AD)(sets:List Nat)(k:Nat)(r:Bl)(n x:Nat):List Bl:=if(CY c (upd r n x) n).1=0 then Bo c sets k (upd r n x) (n+1) else[]
def jm (c:AD)(sets:List Nat)(k:Nat)(r:Bl)(n j:Nat)(hj:j<sets.length):(sets.take (j+1)).flatMap (gives c sets k r n)=(sets.take j).flatMap (gives c sets k r n)++gives c sets k r n (sets[j]?.getD 0):=by
 rw[bm 0 sets j hj,List.flatMap_append];simp
def pY (c:AD)(sets:List Nat)(k:Nat)(r:Bl)(n j:Nat)(hj:j<sets.length){q:List Bl}(h:q <+: gives c sets k r n (sets[j]?.getD 0)):(sets.take j).flatMap (gives c sets k r n)++q <+: sets.flatMap (gives c sets k r n):=by
 have e:sets.flatMap (gives c sets k r n)=(sets.take (j+1)).flatMap (gives c sets k r n)++(sets.drop (j+1)).flatMap (gives c sets k r n):=by
  rw[<-List.flatMap_append,List.take_append_drop]
 rw[e,jm _ _ _ _ _ _ hj];obtain⟨s,hs⟩:=h;exact⟨s++(sets.drop (j+1)).flatMap (gives c sets k r n),by rw[<-hs];simp[List.append_assoc]⟩
def nE (r:Bl)(n x y:Nat):upd (upd r n x) n y=upd r n y:=by
 funext i;unfold upd;split<;>rfl
def lC (r:Bl)(n:Nat):upd r n (r n)=r:=by
 funext i;unfold upd;split
 .rename_i h;rw[h]
 .rfl
def uV (Du:c.Ok)(E0:∀x∈sets,c.has x)(O1:sets.length<=16)(Xt:∀pre w w',J pre w->(∀b,T b->w'.heap[b]?=w.heap[b]?)->J pre w')
  (Nx:∀pre w,J pre w->∀b,T b->b<w.heap.size) (Ym:¬T br)
  (hY:∀pre ρ W,pre++[ρ] <+: Lt->KT (λb=>T b\/b=br) W0 W->J pre W->YieldAt Fence.wide 0 An l #[BI ρ] W (U9 T J Jx pre ρ W)) :
  ∀(k n:Nat) (r:Bl) (pre:List Bl) (W:World),n+k=c.Aq.length->LM T K cb c sets nA hA nc hc sb sc bc by_ br bw l r W->KT (λb=>T b\/b=br) W0 W->J pre W->(∀i,n<=i->r i=0)->pre++Bo c sets k r n <+: Lt ->
  CallsIn Fence.wide 0 An 87 #[.int .i64 n,.pointer (some ⟨bc,0,none⟩),.pointer (some ⟨by_,0,none⟩),.pointer (some ⟨br,0,none⟩),.pointer (some ⟨bw,0,none⟩)] W
   (pW (λb=>T b\/b=br) (LM T K cb c sets nA hA nc hc sb sc bc by_ br bw l r) J Jx pre (Bo c sets k r n) W):=by
 intro k
 induction k with
 |zero =>
  intro n r pre W hn hs hk hj hz hpl;obtain rfl:n=c.Aq.length:=by omega
  exact pX Du hs hk hj hpl hY
 |succ k ih =>
  intro n r pre W hn hs hk hj hz hpl;have HPL:=xf hpl;have HS:=xf hs;have HK:=xf hk;have HJ:=xf hj;have HZ:=xf hz;have HIH:=xf ih;have HY:=xf hY;have HJT:=xf Xt;have HTL:=xf Nx;have HST:=xf E0;have MK:=Du.n5;have Yn:n<c.Aq.length:=by omega
  have hxc:=hs.xc.1;have hc0:=hs.CZ.c0;have hc2:=hs.CZ.c2;have hneq:((n:Int)==(c.Aq.length:Int))=false:=by simpa using(by omega:¬(n:Int)=(c.Aq.length:Int))
  have HW:Hid (Bo c sets (k+1) r n=sets.flatMap (gives c sets k r n)):=xf rfl;clear hs hk hj hz ih hY Xt Nx E0 hpl;refine callsIn_of_wp Sq.func87 rfl trivial ?_ rfl;simp only[Tryz.ntmps87,xB,xz,xF,Nat.reduceAdd,Nat.reduceSub,yi,yj,yv,yn,yD,yt]
  gi_wp2
  gi_loopw [25] (λi wr=>∃(j x:Nat),j<=sets.length/\i=.int .i64 j/\c.has x/\LM T K cb c sets nA hA nc hc sb sc bc by_ br bw l (upd r n x) wr/\J (pre++(sets.take j).flatMap (gives c sets k r n)) wr/\KT (λb=>T b\/b=br) W wr) (λi _=>sets.length-(intOf i).toNat)
  case atStart =>
   exact⟨0,r n,by omega,rfl,HS.out.rs n,by rw[lC];exact HS.out,by simpa using HJ.out,KT.refl _ _⟩
  case round =>
   obtain⟨j,x,hj,rfl,hx,hs,TR,hk⟩:=hrel;have Oz:=xf hs;have Yo:=xf TR;have HK1:=xf hk;have hxx:=xf hx;clear hs TR hk hx;by_cases hlt:j<sets.length
   .obtain⟨y,hy⟩:∃y,sets[j]?=some y:=⟨sets[j],xi hlt⟩;have hyc:c.has y:=HST.out y (yI hy);have hcell:=Oz.out.CZ.sets j y hy;obtain⟨Oy,hfn⟩:=Oz.out.xr.1 n (by omega);have hxc1:=Oz.out.xc.1;have Jy:Hid (LM T K cb c sets nA hA nc hc sb sc bc by_ br bw l (upd r n y) (wr.setCell ⟨br,n,none⟩ (.int .u8 y))):=xf (by have:=Oz.out.set (n:=n) (x:=y) (by omega) hyc;rwa [nE] at this);have hxc2:=Jy.out.xc.1
    have Yp:=xf (jm c sets k r n j hlt);have HGP:=xf (λq=>pY c sets k r n j hlt (q:=q));have hyD:sets[j]?.getD 0=y:=by rw[hy];rfl
    have HD:=xf hyD;have TT:Hid (KT (λb=>T b\/b=br) W (wr.setCell ⟨br,n,none⟩ (.int .u8 y))):=xf (HK1.out.trans (KT.setCell wr (p:=⟨br,n,none⟩) (.inr rfl) _));have Xu:Hid (J (pre++(sets.take j).flatMap (gives c sets k r n)) (wr.setCell ⟨br,n,none⟩ (.int .u8 y))):=xf (HJT.out _ _ _ Yo.out λb hb=>xD _ _ _ _ λe=>Ym (by have e':b=br:=e;rw[<-e'];exact hb));have SE:=nD cb br n c (upd r n y) (wr.setCell ⟨br,n,none⟩ (.int .u8 y)) Jy.out.CZ.KF Jy.out.ros Du Yn Jy.out.rs
    unfold FI at SE;have Gt:Hid (gives c sets k r n y=if(CY c (upd r n y) n).1=0 then Bo c sets k (upd r n y) (n+1) else[]):=xf rfl;generalize CY c (upd r n y) n=lp at SE Gt;obtain⟨k1,k2,k3⟩:=lp;have HL:=xf (callsIn_wide (n:=0).2 SE);have hfd:=tB k1 k2 k3;clear SE hy hyD;by_cases h0:k1=0
    .have B4:=xf (show gives c sets k r n y=Bo c sets k (upd r n y) (n+1) by rw[Gt.out,if_pos h0]);subst h0
     gi_wp2_with fail
     refine⟨trivial,rfl,HL.out.mono ?_⟩;rintro e w2 ⟨rfl,hg2⟩;have Va:=xf (zF (T:=λb=>T b\/b=br) hg2);have TU:=xf (Jy.out.on (zF (T:=T) hg2));have Yq:=xf (HJT.out _ _ w2 Xu.out λb hb=>hg2.below.block b (HTL.out _ _ Xu.out b hb));have TV:=TU.out.xw.1
     have HC:=xf (HIH.out (n+1) (upd r n y) _ w2 (by omega) TU.out (HK.out.trans (TT.out.trans Va.out)) Yq.out (λi hi=>by unfold upd;rw[if_neg (by omega)];exact HZ.out i (by omega)) (by
      have h1:=HGP.out (Bo c sets k (upd r n y) (n+1)) (by rw[HD.out,B4.out];exact List.prefix_refl _);rw[<-HW.out] at h1;rw[List.append_assoc]
      exact((List.prefix_append_right_inj pre).2 h1).trans HPL.out))
     have Ip:IntKind.i64.wrap ((n:Int)+1)=(n:Int)+1:=by simp[IntKind.wrap,IntKind.min,IntKind.max,IntKind.signed,IntKind.bits];omega
     clear hg2
     gi_wp2_with fail
     refine⟨trivial,rfl,HC.out.mono ?_⟩;rintro e w3 (⟨rfl,TW,hs3,hk3⟩|⟨rfl,Yr,hk3⟩)
     .have HJ4:=xf TW;have HS4:=xf hs3;have Ys:=xf (TT.out.trans (Va.out.trans hk3));clear TW hs3 hk3
      gi_wp2
      go_roundw
      case rel =>
       exact⟨j+1,y,by omega,by go_num,hyc,HS4.out,by rw[Yp.out,HD.out,B4.out,<-List.append_assoc];exact HJ4.out,Ys.out⟩
      case measure=>simp[intOf];omega
     .have HQ:=xf Yr;have Ys:=xf (TT.out.trans (Va.out.trans hk3));clear Yr hk3
      gi_wp2
      go_ret;refine .inr ⟨rfl,?_,Ys.out⟩;obtain⟨q,q1,q2⟩:=HQ.out;refine⟨(sets.take j).flatMap (gives c sets k r n)++q,?_,by rw[<-List.append_assoc];exact q2⟩;rw[HW.out];exact HGP.out q (by rw[HD.out,B4.out];exact q1)
    .have B4:=xf (show gives c sets k r n y=[] by rw[Gt.out,if_neg h0]);have hb0:(k1==0)=false:=by simpa using h0
     gi_wp2_with fail
     refine⟨trivial,rfl,HL.out.mono ?_⟩;rintro e w2 ⟨rfl,hg2⟩;have Va:=xf (zF (T:=λb=>T b\/b=br) hg2);have TU:=xf (Jy.out.on (zF (T:=T) hg2));have Yq:=xf (HJT.out _ _ w2 Xu.out λb hb=>hg2.below.block b (HTL.out _ _ Xu.out b hb));clear hg2
     gi_wp2
     refine⟨λ_ h=>(by cases h),?_⟩
     gi_wp2
     go_roundw
     case rel=>exact⟨j+1,y,by omega,by go_num,hyc,TU.out,by rw[Yp.out,HD.out,B4.out,List.append_nil];exact Yq.out,TT.out.trans Va.out⟩
     case measure=>simp[intOf];omega
   .obtain⟨Oy,hfn⟩:=Oz.out.xr.1 n (by omega);have h0:c.has 0:=Nat.two_pow_pos _
    have Jy:Hid (LM T K cb c sets nA hA nc hc sb sc bc by_ br bw l r (wr.setCell ⟨br,n,none⟩ (.int .u8 0))):=xf (by
     have:=Oz.out.set (n:=n) (x:=0) (by omega) h0;rw[nE] at this;have e:upd r n 0=r:=by have:=lC r n;rwa [HZ.out n (xh _)] at this
     rwa [e] at this)
    have TT:Hid (KT (λb=>T b\/b=br) W (wr.setCell ⟨br,n,none⟩ (.int .u8 0))):=xf (HK1.out.trans (KT.setCell wr (p:=⟨br,n,none⟩) (.inr rfl) _));have Xu:Hid (J (pre++Bo c sets (k+1) r n) (wr.setCell ⟨br,n,none⟩ (.int .u8 0))):=xf (HJT.out _ _ _ (by have:=Yo.out;rwa [xN (by omega),<-HW.out] at this) λb hb=>xD _ _ _ _ λe=>Ym (by have e':b=br:=e;rw[<-e'];exact hb))
    gi_wp2
    go_ret;exact .inl ⟨rfl,Xu.out,Jy.out,TT.out⟩
end
attribute [local go_sem] Oper.semAt_some
def lD (cb n:Nat)(r:Bl)(w:World):Calls An 55 #[.pointer (some ⟨cb,0,none⟩),BI r,.int .i64 n] w λe w' =>
  e=.returned (.func (.func 86) #[] #[.pointer (some ⟨w.heap.size,0,none⟩),.pointer (some ⟨w.heap.size+1,0,none⟩),.pointer (some ⟨w.heap.size+2,0,none⟩)]) /\
   w'=((w.alloc (.cells #[.pointer (some ⟨cb,0,none⟩)] 69)).alloc (.cells #[.int .u8 (r 0),.int .u8 (r 1),.int .u8 (r 2),.int .u8 (r 3),.int .u8 (r 4)] 72)).alloc (.cells #[.int .i64 n] 3):=by
 unfold BI;have LN:∀(fn:Fn) (first cap:Array Value) (w:World),(Instr.makeFunc fn first cap).run An w=.ok (.func fn first cap) w:=λ_ _ _ _=>rfl;go_enter Sq.func55,Tryz.ntmps55;go_wp2;go_ret;exact⟨rfl,rfl⟩
section
variable {T K:Nat->Prop} {cb:Nat} {c:AD} {sets:List Nat} {nA hA:Option Addr} {nc hc sb sc bc br bn l:Nat} {J Jx:List Bl->World->Prop} {W0:World}
structure L4 (T K:Nat->Prop)(cb:Nat)(c:AD)(sets:List Nat)(nA hA:Option Addr)(nc hc sb sc bc br bn:Nat)(r:Bl)(n:Nat)(w:World):Prop where
 CZ:CN w K cb c sets nA hA nc hc sb sc
 kt:∀b,K b->¬T b
 xc:w.cell? ⟨bc,0,none⟩=some (.pointer (some ⟨cb,0,none⟩))/\¬T bc/\bc<w.heap.size
 xr:(∀i,i<5->w.cell? ⟨br,i,none⟩=some (.int .u8 (r i))/\w.frozen? ⟨br,i,none⟩=false)/\¬T br/\br<w.heap.size
 xn:w.cell? ⟨bn,0,none⟩=some (.int .i64 n)/\bn<w.heap.size
 ne:bc≠br/\∀b,K b->b≠br
 rs:∀i,c.has (r i)
def tj (Du:c.Ok)(E0:∀x∈sets,c.has x)(O1:sets.length<=16)(Xt:∀pre w w',J pre w->(∀b,T b->w'.heap[b]?=w.heap[b]?)->J pre w')
  (Nx:∀pre w,J pre w->∀b,T b->b<w.heap.size)
  {k n:Nat} {r:Bl} {W:World} (hY:∀pre ρ W,pre++[ρ] <+: Bo c sets k r n->KT (λb=>T b\/b=br) W0 W->J pre W->YieldAt Fence.wide 0 An l #[BI ρ] W (U9 T J Jx pre ρ W))
  (hn:n+k=c.Aq.length) (hs:L4 T K cb c sets nA hA nc hc sb sc bc br bn r n W) (hk:KT (λb=>T b\/b=br) W0 W) (hj:J [] W) (hz:∀i,n<=i->r i=0) :
  CallsIn Fence.wide 0 An 86 #[.func (.yield l) #[] #[],.pointer (some ⟨bc,0,none⟩),.pointer (some ⟨br,0,none⟩),.pointer (some ⟨bn,0,none⟩)] W
   λe W'=>e=.returned (.tuple #[])/\KT (λb=>T b\/b=br) W W'/\(J (Bo c sets k r n) W'\/∃q,q <+: Bo c sets k r n/\Jx q W'):=by
 obtain⟨W1,hW1⟩:∃W1:World,W1=(W.alloc (.cells #[.func (.yield l) #[] #[]] 149)).alloc (.cells #[.func (.func 87) #[] #[.pointer (some ⟨bc,0,none⟩),.pointer (some ⟨W.heap.size,0,none⟩),.pointer (some ⟨br,0,none⟩),.pointer (some ⟨W.heap.size+1,0,none⟩)]] 150):=⟨_,rfl⟩;have g1:Gr W W1:=by rw[hW1];exact((Gr.refl W).alloc _).alloc _
 have hTW:=Nx _ _ hj;have hz1:W1.heap.size=W.heap.size+2:=by rw[hW1];simp
 have Oz:Hid (LM T K cb c sets nA hA nc hc sb sc bc W.heap.size br (W.heap.size+1) l r W1):=xf (by
  have k1:KT T W W1:=zF g1
  refine⟨hs.CZ.keep k1.size λb o hb=>k1.cell (p:=⟨b,o,none⟩) (hs.CZ.lt b hb) (hs.kt b hb),hs.kt,⟨(k1.cell hs.xc.2.2 hs.xc.2.1).trans hs.xc.1,hs.xc.2.1,by have:=hs.xc.2.2;omega⟩,⟨?_,λh=>by have:=hTW _ h;omega,by omega⟩,⟨?_,λh=>by have:=hTW _ h;omega,by omega⟩,
   ⟨λi hi=>⟨(k1.cell (p:=⟨br,i,none⟩) hs.xr.2.2 hs.xr.2.1).trans (hs.xr.1 i hi).1,(k1.frozen (p:=⟨br,i,none⟩) hs.xr.2.2 hs.xr.2.1).trans (hs.xr.1 i hi).2⟩,hs.xr.2.1,by have:=hs.xr.2.2;omega⟩,⟨hs.ne.1,?_,?_,hs.ne.2⟩,hs.rs⟩
  .rw[hW1,xI _ _ _ (by simp),xj _ _ _ _ rfl];rfl
  .rw[hW1,xj _ _ _ _ (by simp)];rfl
  .have:=hs.xr.2.2;omega
  .have:=hs.xr.2.2;omega)
 have Yo:Hid (J [] W1):=xf (Xt _ _ _ hj λb hb=>g1.below.block b (hTW b hb));have TX:=xf (uV (by_:=W.heap.size) (bw:=W.heap.size+1) Du E0 O1 Xt Nx hs.xr.2.1 hY k n r [] W1 hn Oz.out (hk.trans (zF g1)) Yo.out hz (by simp));have hxn:=hs.xn.1;have hbn:=hs.xn.2;have Ch:=xf g1;have LN:∀(fn:Fn) (first cap:Array Value) (w:World),(Instr.makeFunc fn first cap).run An w=.ok (.func fn first cap) w:=λ_ _ _ _=>rfl
 clear hs hk hj hz Xt Nx hY g1 hTW hz1;rw[hW1] at TX;clear Oz Yo;refine callsIn_of_wp Sq.func86 rfl trivial ?_ rfl;simp only[Tryz.ntmps86,xB,xz,xF,Nat.reduceAdd,Nat.reduceSub,yi,yj,yv,yn,yD,yt]
 gi_wp2_with fail
 refine⟨trivial,rfl,TX.out.mono ?_⟩;rw[<-hW1];rintro e w3 (⟨rfl,TW,_,hk3⟩|⟨rfl,Yr,hk3⟩)
 .have Yq:=xf TW;have SF:=xf ((zF Ch.out).trans hk3);clear TW hk3 hW1
  gi_wp2
  go_end0;exact⟨rfl,SF.out,.inl (by simpa using Yq.out)⟩
 .have HQ3:=xf Yr;have SF:=xf ((zF Ch.out).trans hk3);clear Yr hk3 hW1
  gi_wp2
  go_end0;refine⟨rfl,SF.out,.inr ?_⟩;obtain⟨q,h1,h2⟩:=HQ3.out;exact⟨q,h1,by simpa using h2⟩
end
end Go.Proofs.Ao
