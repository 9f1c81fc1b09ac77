/- Parts of the proof. -/
import Derived.Test.YtgllajjoinefcaaGreatP06
set_option linter.all false
set_option maxHeartbeats 3200000
set_option maxRecDepth 1000000
open Go.Value renaming slice->Z,int->I,pointer->F
open Option renaming none->Y,some->J
open Go renaming World->U,Value->C,bodyPost_ret->G,Addr->H,Calls->bk,TypeId->cw,results_none->dt,leaves_cons->dS,info_parts->ed,Ending->ek
open Go.IntKind renaming i64->X
open Go.Obj renaming cells->O
open Go.World renaming setCell->R,cell?->bq,alloc_heap_new->cU,frozen?->di
open List renaming range->S
open Bool renaming false->L,true->ck
open Ne renaming symm->bb
open Go.Proofs renaming intOf->bh,size_putRow->bs,sortWorld->dy
open Go.Proofs.Tryz renaming results140->bo,results55->cd,ntmps99->dr,results98->eb
open Decidable renaming decide->bw
open Go.Lib renaming bitLen->cq
open Option.some renaming inj->cu
open Go.Addr renaming add->dn
open Array renaming getD->Array.LE,setIfInBounds->Array.L
open Eq renaming symm->Eq.LT
open Go.Addr renaming block->Go.Addr.Lo
open Go.BoundsCode renaming toNat->Go.BoundsCode.L
open Go.Calls renaming mono->Go.Calls.LT
open Go.CallsD renaming mono->Go.CallsD.LT
open Go.CallsIn renaming mono->Go.CallsIn.LT
open Go.Code renaming block->Go.Code.Lo
open Go.Ending renaming returned->Go.Ending.L
open Go.Instr renaming alloc->Go.Instr.Li
open Go.Obj renaming deferred->Go.Obj.L
open Go.Op renaming alloc->Go.Op.Li
open Go.RowKit.Below renaming block->Go.RowKit.Below.Lo
open Go.TypeDesc renaming pointer->Go.TypeDesc.S
open Go.Value renaming ownBlock->Go.Value.L,pointer->Go.Value.S
open Go.World renaming alloc->Go.World.Li,cell?->Go.World.L,frozen?->Go.World.H,grownBy->Go.World.O,ownsRow->Go.World.S,putObj->Go.World.SL,setCell->Go.World.LE
open Go.World.grownBy renaming block->Go.World.grownBy.Lo
open Go.World.ownsRow renaming alloc->Go.World.ownsRow.Li
open Int renaming toNat->Int.L
open List renaming length->List.L,set->List.SS,sum->List.Lo,take->List.LT,toArray->List.Li
open Nat renaming below->Nat.Ly,testBit->Nat.L
open Ne renaming symm->Ne.LT
open Option renaming getD->Option.LE
open UInt8 renaming toNat->UInt8.L
namespace Go.Sq
open Go.RowKit Go.Sort Go.Proofs Go.Lib
abbrev yj:=Fin 16
def Lm (x:yj):Value:=.int .u8 (x.val:Int)
def PG (a b:yj):Int:=IV (wl a.val) (wl b.val)
def Rz:OneCell Lm:=λ_=>rfl
def RA:SWO (ltOf PG):=by
 constructor
 all_goals decide +kernel
def Ki (m:Nat):Array yj:=((S (2 ^ m)).map (Fin.ofNat 16)).Li
def Ex:Nat->List Nat
 |0=>[0]
 |1=>[0,1]
 |2=>[0,1,3,2]
 |3=>[0,1,3,7,5,2,6,4]
 |_=>[0,1,3,7,15,11,5,13,9,2,6,14,10,4,12,8]
def five {p:Nat->Prop}(h:p 0/\p 1/\p 2/\p 3/\p 4):∀m,m<=4->p m:=λm hm=>by
 have:m=0\/m=1\/m=2\/m=3\/m=4:=by omega
 obtain⟨h0,h1,h2,h3,h4⟩:=h;rcases this with rfl|rfl|rfl|rfl|rfl<;>assumption
def RB:∀m,m<=4->(pdq (ltOf PG) (Ki m) 0 (Ki m).size (cq (Ki m).size) ck ck).toList.map Fin.val=Ex m :=
 five ⟨by decide +kernel,by decide +kernel,by decide +kernel,by decide +kernel,by decide +kernel⟩
def RD:∀m,m<=4->(Ki m).size=2 ^ m/\∀j,j<2 ^ m->((Ki m)[j]!).val=j :=
 five ⟨by decide +kernel,by decide +kernel,by decide +kernel,by decide +kernel,by decide +kernel⟩
def dv:∀m,m<=4->(Ex m).L=2 ^ m:=five ⟨rfl,rfl,rfl,rfl,rfl⟩
def mI:∀m,m<=4->∀x∈Ex m,x<2 ^ m:=five ⟨by decide,by decide,by decide,by decide,by decide⟩
def Gr.grow {w w':U}(h:Gr w w'):∃q os',w'=grow (w.drewN q) os':=by
 refine⟨w'.drawn-w.drawn,w'.heap.extract w.heap.size w'.heap.size,?_⟩;have hd:=h.drawn;have e:w'.heap=w.heap++w'.heap.extract w.heap.size w'.heap.size:=by
  apply Array.ext_getElem?;intro k;by_cases hk:k<w.heap.size
  .rw[Array.getElem?_append_left hk];exact h.Ly.Lo k hk
  .rw[Array.getElem?_append_right (by omega),Array.getElem?_extract];by_cases zo:k<w'.heap.size
   .rw[AJ (by omega)];congr 1;omega
   .rw[AE (by omega),Cf (by omega)]
 cases w with
 |mk wh wt wd wo wu =>
  cases w' with
  |mk vh vt vd vo vu =>
   have e1:=h.Ly.os;have e2:=h.Ly.tape;have e3:=h.Ly.output;simp only at e1 e2 e3 e hd;subst e1 e2 e3;unfold Sort.grow World.drewN;simp only[World.mk.injEq,and_true,true_and];exact⟨e,by omega⟩
def SortedIn (sets:List Nat)(g:Nat)(W W':U):Prop :=
 KT (·=g) W W'/\(∀(i x:Nat),sets[i]?=J x->W'.L ⟨g,i,Y⟩=J (.int .u8 (x:Int)))/\∀n c,GH W (.slice (J ⟨g,0,Y⟩) n c)->GH W' (.slice (J ⟨g,0,Y⟩) n c)
def tU (a b:Nat)(w:U)(ha:a<16)(hb:b<16) :
  bk DP 135 #[.int .u8 a,.int .u8 b] w λe w'=>e=.L (I X (IV (wl a) (wl b)))/\Gr w w':=by
 have a7:=dC a;have hlb:=dC b;have HL:=AB a7;have HL':=AB hlb;go_enter Sq.func135,Tryz.ntmps135;go_wp2_with fail;refine(gK a w ha).LT ?_;rintro e w1 ⟨v,rfl,ho,hg⟩;have hO:=AB ho;have hG:=AB hg;go_wp2_with fail;refine(gK b w1 hb).LT ?_;rintro e w2 ⟨v',rfl,a8,a6⟩;obtain⟨A,c,rfl,hr⟩:=RI.Fw hO.out;obtain⟨A',c',rfl,aA⟩:=RI.Fw a8;have hG2:=AB (hG.out.trans a6);have HC:=AB (kP A A' c c' (wl a) (wl b) w2 w2.heap.size ((hr.gr (AD _) a6).more a6.size) aA (by have:=HL.out;omega) (by have:=HL'.out;omega))
 go_wp2_with fail;refine HC.out.LT ?_;rintro e w3 ⟨rfl,rfl⟩;go_wp2;go_ret;exact⟨rfl,hG2.out⟩
def rI (m:Nat)(hm:m<=4):rH (2 ^ m) (λv W W'=>∃g cap,v=.slice (J ⟨g,0,Y⟩) (2 ^ m) cap/\SortedIn (Ex m) g W W'):=by
 intro W g cap B ho;obtain⟨zx,a7⟩:=RD m hm;have a6:=RB m hm;have zk:=dv m hm;have aC:1<=2 ^ m:=Nat.one_le_two_pow;have aD:2 ^ m<=16:=(five (p:=λm=>2 ^ m<=16) ⟨by decide,by decide,by decide,by decide,by decide⟩) m hm;have zY:g<W.heap.size:=(ho.lt g rfl).2;have hH:Holds Lm W g 0 (Ki m):=by
  intro j hj;rw[zx] at hj;refine⟨?_,?_⟩
  .have:=ho.cells (g:=g) rfl j (.int .u8 j) (by unfold LW;simp[hj]);rw[show(⟨g,0,Y⟩:H).add j=⟨g,0+j,Y⟩ by unfold dn;split<;>simp_all] at this;rw[this,Lm,a7 j hj]
  .obtain⟨h,_⟩|⟨g',c',cur,h,_,hb,_⟩:=ho.2
   .cases h
   .obtain⟨rfl⟩:g=g':=by injection h with h1;injection h1 with h2;injection h2
    simp[di,hb]
 have hC:CmpLays1 DP 135 #[] Lm PG g 0 (Ki m).size W:=by
  intro k os dk _ x y;refine(tU x.val y.val _ x.isLt y.isLt).LT ?_;rintro e w' ⟨he,hg⟩;exact⟨he,hg.grow⟩
 have h:=Any.slices_SortFunc_eq DC Lm Rz PG RA 135 #[] g 0 cap (Ki m) W DH hC hH zY (by rw[zx];omega);rw[zx] at h;refine h.LT ?_;rintro e W' ⟨he,n,os,hW⟩;refine⟨he,g,cap,rfl,?_,?_,?_⟩
 rotate_left 2
 .intro n1 c1 a8 a n2 c2 e2;obtain⟨cur,t,q1,q2⟩:=a8 a n2 c2 e2;have ea:a.Lo=g:=by injection e2 with z _ _;injection z with z;rw[<-z]
  rw[ea] at q1 ⊢;subst hW;refine⟨putCells Lm 0 (pdq (ltOf PG) (Ki m) 0 (2 ^ m) (cq (2 ^ m)) ck ck) cur,t,?_,λu hu=>?_⟩
  .unfold dy;rw[heap_grow_old _ _ (by rw[bs];exact zY)];unfold putRow mapBlock;have aA:(Sort.ahead W n).heap[g]?=J (.cells cur t (0,0)):=q1;simp only[Bv,if_true,aA]
   rfl
  .unfold putCells at hu;rw[Array.toList_mapIdx,List.mem_mapIdx] at hu;obtain⟨i,hi,rfl⟩:=hu;split
   .exact⟨_,rfl⟩
   .exact q2 _ (BU hi)
 .subst hW;refine⟨rfl,rfl,rfl,?_,?_,?_⟩
  .show W.drawn<=W.drawn+n;omega
  .have : W.heap.size <= (dy Lm W g 0 n (pdq (ltOf PG) (Ki m) 0 (2 ^ m) (cq (2 ^ m)) ck ck) os).heap.size := by
    unfold dy;rw[size_grow,bs];exact Nat.le_add_right _ _
   exact this
  .intro b hb zU;unfold dy;rw[heap_grow_old _ _ (by rw[bs];exact hb)];unfold putRow mapBlock;rw[Bv,AE (λh=>zU h.LT)]
   rfl
 .intro i x hx;rw[zx] at a6;have hi:i<2 ^ m:=by rw[<-zk];exact(Bd.1 hx).1
  generalize hd:pdq (ltOf PG) (Ki m) 0 (2 ^ m) (cq (2 ^ m)) ck ck=d at hW a6;have aB:d.size=2 ^ m:=by have:=AZ List.length a6;simpa [zk] using this
  have hS:=(holds_sortWorld Lm W g 0 n (Ki m) d os zY hH (by rw[aB,zx])) i (by omega);subst hW;rw[AU] at hS;rw[hS.1,Lm];rw[<-a6,BE,Array.getElem?_toList] at hx;rw[getElem!_pos d i (by omega)];rw[AL (by omega)] at hx;simp at hx;rw[hx]
def wj (l m:List Int)(k:Nat)(h1:k<l.L)(h2:k<m.L) :
  (l.LT k=m.LT k->l[k]?.LE 0=m[k]?.LE 0->l.LT (k+1)=m.LT (k+1))/\(l[k]?.LE 0≠m[k]?.LE 0->l≠m):=by
 refine⟨λh e=>?_,λh e=>h (by rw[e])⟩;rw[bu 0 l k h1,bu 0 m k h2,h,e]
def tV (l m:List (List Int))(k:Nat)(h1:k<l.L)(h2:k<m.L) :
  (l.LT k=m.LT k->l[k]?.LE []=m[k]?.LE []->l.LT (k+1)=m.LT (k+1))/\(l[k]?.LE []≠m[k]?.LE []->l≠m):=by
 refine⟨λh e=>?_,λh e=>h (by rw[e])⟩;rw[bu [] l k h1,bu [] m k h2,h,e]
def FX (w:U)(B:Nat)(A:Option H)(ls:List (List Int)):Prop :=
 ls≠[]->∃b o,A=J ⟨b,o,Y⟩/\b<B/\∀i l,ls[i]?=J l->∃A' c,w.L ⟨b,o+i,Y⟩=J (Z A' l.L c)/\RI w B A' l
def FX.keep {w w':U}{B:Nat}{A:Option H}{ls:List (List Int)}(h:FX w B A ls)(hk:∀b o,b<B->w'.L ⟨b,o,Y⟩=w.L ⟨b,o,Y⟩):FX w' B A ls:=λhn=>by
 obtain⟨b,o,e,hb,hc⟩:=h hn;refine⟨b,o,e,hb,λi l hl=>?_⟩;obtain⟨A',c,h1,h2⟩:=hc i l hl;exact⟨A',c,(hk _ _ hb).trans h1,h2.keep hk⟩
def FX.gr {w w':U}{B:Nat}{A:Option H}{ls:List (List Int)}(h:FX w B A ls)(hB:B<=w.heap.size)(hg:Gr w w'):FX w' B A ls:=h.keep λ_ _ hb=>hg.cell (AI hb hB)
def FX.more {w:U}{B B':Nat}{A:Option H}{ls:List (List Int)}(h:FX w B A ls)(hB:B<=B'):FX w B' A ls:=λhn=>by
 obtain⟨b,o,e,hb,hc⟩:=h hn;refine⟨b,o,e,by omega,λi l hl=>?_⟩;obtain⟨A',c,h1,h2⟩:=hc i l hl;exact⟨A',c,h1,h2.more hB⟩
def FX.nil {w:U}{B:Nat}{A:Option H}:FX w B A []:=λh=>AH rfl h
def FX.at_ {w:U}{B:Nat}{A:Option H}{ls:List (List Int)}(h:FX w B A ls){k:Nat}(hk:k<ls.L):∃b o A' c,A=J ⟨b,o,Y⟩/\b<B/\w.L ⟨b,o+k,Y⟩=J (Z A' (ls[k]?.LE []).L c)/\RI w B A' (ls[k]?.LE []):=by
 obtain⟨b,o,e,hb,hc⟩:=h (λe=>by rw[e] at hk;simp at hk);obtain⟨A',c,h1,h2⟩:=hc k _ (AG hk);refine⟨b,o,A',c,e,hb,?_⟩;rw[AG hk];exact⟨h1,h2⟩
def gn (l:List (List Int))(k:Nat)(h:k<l.L):l[k]?.LE []∈l:=by
 rw[AG h];exact BU h
def cP {w:U}{B b:Nat}{l:List Int}{t:cw}{f:Nat×Nat}(h:w.heap[b]?=J (.cells (l.map (I X)).Li t f))(hB:b<B):RI w B (J ⟨b,0,Y⟩) l:=λ_ =>
 ⟨b,0,rfl,hB,λi x hx=>by
  unfold bq;rw[h];show(l.map (I X)).Li[0+i]?=_
  rw[AU,Bw,BE,hx];rfl⟩
def heap_alloc_new (w:U)(o:Obj):(w.Li o).heap[w.heap.size]?=J o:=by
 show(w.heap.push o)[w.heap.size]?=_;simp
def ae (w:U)(o:Obj){b:Nat}(h:b<w.heap.size):(w.Li o).heap[b]?=w.heap[b]?:=by
 show(w.heap.push o)[b]?=_;simp[Ce,C9 h]
def ay (w:U)(o:Obj){b:Nat}(h:b=w.heap.size):(w.Li o).heap[b]?=J o:=by subst h;exact heap_alloc_new w o
def E1:List (List Int):=[[0],[1],[0,2]]
def kF (w:U):bk DP 51 #[] w λe w'=>∃A,e=.L (Z A E1.L 3)/\FX w' w'.heap.size A E1/\Gr w w':=by
 go_enter Sq.func51,Tryz.ntmps51;go_wp2;go_ret;refine⟨_,rfl,λ_=>⟨_,0,rfl,by simp,λi l hl=>?_⟩,((((Gr.refl w).Li _).Li _).Li _).Li _⟩
 match i,hl with
 |0,hl =>
  simp[E1] at hl;subst hl;refine⟨J ⟨w.heap.size,0,Y⟩,1,?_,cP (l:=[0]) (t:=3) (f:=(0,0)) ?_ (by simp;omega)⟩
  .rw[AF _ _ _ _ (by simp)];rfl
  .rw[ae _ _ (by simp;omega),ae _ _ (by simp;omega),ae _ _ (by simp),ay _ _ rfl];rfl
 |1,hl =>
  simp[E1] at hl;subst hl;refine⟨J ⟨w.heap.size+1,0,Y⟩,1,?_,cP (l:=[1]) (t:=3) (f:=(0,0)) ?_ (by simp)⟩
  .rw[AF _ _ _ _ (by simp)];rfl
  .rw[ae _ _ (by simp),ae _ _ (by simp),ay _ _ (by simp)];rfl
 |2,hl =>
  simp[E1] at hl;subst hl;refine⟨J ⟨w.heap.size+2,0,Y⟩,2,?_,cP (l:=[0,2]) (t:=3) (f:=(0,0)) ?_ (by simp)⟩
  .rw[AF _ _ _ _ (by simp)];rfl
  .rw[ae _ _ (by simp),ay _ _ (by simp)];rfl
 |k+3,hl=>simp[E1] at hl
def EH (l:List Int):Eb:=⟨l,[⟨12,3,2,[]⟩,⟨6,2,2,[0]⟩,⟨6,1,1,[]⟩]⟩
def rJ (A:Option H)(c:Nat)(l:List Int)(w:U):bk DP 46 #[Z A l.L c] w λe w'=>∃hA,e=.L (EG A hA (EH l) c 3)/\FY w' w'.heap.size hA (EH l).DR/\Gr w w'/\hA=J ⟨w.heap.size+2,0,Y⟩/\w'.heap[w.heap.size+1]?=J (O #[I X 0] 3 (0,0)) /\
      w'.heap[w.heap.size+2]?=J (O #[I X 12,I X 3,I X 2,.slice Y 0 0,I X 6,I X 2,I X 2,.slice (J ⟨w.heap.size+1,0,Y⟩) 1 1,I X 6,I X 1,I X 1,.slice Y 0 0] 48 (0,0)):=by
  go_enter Sq.func46,Tryz.ntmps46;go_wp2;obtain⟨W,hW⟩:∃W:U,W=((w.Li (O #[Z A l.L c,.slice (J ⟨w.heap.size+1+1,0,Y⟩) 3 3] 27)).Li (O #[I X 0] 3)).Li (O #[I X 12,I X 3,I X 2,.slice Y 0 0,I X 6,I X 2,I X 2,.slice (J ⟨w.heap.size+1,0,Y⟩) 1 1,I X 6,I X 1,I X 1,.slice Y 0 0] 48):=⟨_,rfl⟩
  rw[<-hW];have s0:W.L ⟨w.heap.size,0,Y⟩=J (Z A l.L c):=by
    rw[hW,A7 _ _ _ (by simp;omega),A7 _ _ _ (by simp),AF _ _ _ _ rfl];rfl
  have s1:W.L ⟨w.heap.size,1,Y⟩=J (.slice (J ⟨w.heap.size+1+1,0,Y⟩) 3 3):=by
    rw[hW,A7 _ _ _ (by simp;omega),A7 _ _ _ (by simp),AF _ _ _ _ rfl];rfl
  refine G (v:=EG A (J ⟨w.heap.size+1+1,0,Y⟩) (EH l) c 3) (by simp[results,Tryz.results46,go_sem,s0,s1,EG,EH]) rfl ⟨_,rfl,?_,?_,rfl,?_,?_⟩
  · have hz:w.heap.size+1+1<W.heap.size:=by rw[hW];simp
    have hc:∀o,W.L ⟨w.heap.size+1+1,o,Y⟩=(#[I X 12,I X 3,I X 2,.slice Y 0 0,I X 6,I X 2,I X 2,.slice (J ⟨w.heap.size+1,0,Y⟩) 1 1,I X 6,I X 1,I X 1,.slice Y 0 0]:Array C)[o]?:=λo=>by
      rw[hW,AF _ _ _ _ (by simp)]
    have a6:RI W W.heap.size (J ⟨w.heap.size+1,0,Y⟩) [0]:=cP (l:=[0]) (t:=3) (f:=(0,0)) (by
      rw[hW,ae _ _ (by simp),ay _ _ (by simp)];rfl) (by omega)
    refine λ_=>⟨_,0,rfl,hz,λi h hh=>?_⟩
    match i,hh with
    |0,hh=>simp[EH] at hh;subst hh;exact⟨hc _,hc _,hc _,Y,0,hc _,.nil⟩
    |1,hh=>simp[EH] at hh;subst hh;exact⟨hc _,hc _,hc _,_,1,hc _,a6⟩
    |2,hh=>simp[EH] at hh;subst hh;exact⟨hc _,hc _,hc _,Y,0,hc _,.nil⟩
    |k+3,hh=>simp[EH] at hh
  · rw[hW];exact(((Gr.refl w).Li _).Li _).Li _
  · rw[hW,ae _ _ (by simp),ay _ _ (by simp)]
  · rw[hW,ay _ _ (by simp)]
def mK (A:Option H)(c:Nat)(l:List Int)(w:U):bk DP 46 #[Z A l.L c] w λe w'=>∃hA,e=.L (EG A hA (EH l) c 3)/\FY w' w'.heap.size hA (EH l).DR/\Gr w w' :=
 (rJ A c l w).LT λe w' ⟨hA,h1,h2,h3,_⟩=>⟨hA,h1,h2,h3⟩
def fi (l:List Int)(d:Int):List Int:=if d∈l then l else(l++[d]).mergeSort λx y=>decide (x<=y)
def JU (c:Eb)(k:Nat)(d:Int):Eb:={ c with DR:=c.DR.SS k { c.h k with off:=fi (c.h k).off d } }
def JB (a b:EK):Nat->Nat
 |0=>0
 |n+1=>JB a b n+(wl (a n ^^^ b n)).L
def GY (r:EK):List EK->Option (EK×Nat)
 |[]=>Y
 |l@(_::_)=>l.foldl (λo ρ=>match o with
  |none=>J (ρ,JB ρ r 5)
  |some b=>if JB ρ r 5<b.2 then J (ρ,JB ρ r 5) else J b) Y
def jQ (r:EK)(l:List EK)(ρ:EK):GY r (l++[ρ])=(match GY r l with
  |none=>J (ρ,JB ρ r 5)
  |some b=>if JB ρ r 5<b.2 then J (ρ,JB ρ r 5) else J b):=by
 cases l with
 |nil=>rfl
 |cons a l =>
  show((a::l)++[ρ]).foldl _ Y=_;rw[List.foldl_append]
  rfl
def rL {r:EK}:∀(n:Nat) (l:List EK) (p:EK×Nat),l.L=n->GY r l=J p->p.1∈l:=by
 intro n
 induction n with
 |zero =>
  intro l p hl h;rw[Bf hl] at h;cases h
 |succ n ih =>
  intro l p hl h;obtain rfl|⟨l',b,rfl⟩:=List.eq_nil_or_concat l
  .simp at hl
  .rw[List.concat_eq_append] at h hl ⊢;rw[jQ] at h;have hl':l'.L=n:=by simpa using hl
   cases ho:GY r l' with
   |none=>rw[ho] at h;cases h;simp
   |some q =>
    rw[ho] at h;simp only at h;split at h
    .cases h;simp
    .have e:=cu h;rw[<-e];exact List.mem_append_left _ (ih l' q hl' ho)
def fQ {w:U}{B:Nat}{A:Option H}{l:List Int}{K:Nat->Prop}(h:RI w B A l)(hK:∀b,b<B->K b):IU w K A l:=λhn=>by
 obtain⟨b,o,e,hb,hc⟩:=h hn;exact⟨b,o,e,hK b hb,hc⟩
def yk {w:U}{B:Nat}{A:Option H}{l:List EO}{K:Nat->Prop}(h:FY w B A l)(hK:∀b,b<B->K b):Hg w K A l:=λhn=>by
 obtain⟨b,o,e,hb,hc⟩:=h hn;refine⟨b,o,e,hK b hb,λi x hx=>?_⟩;obtain⟨h1,h2,h3,A',c,h4,h5⟩:=hc i x hx;exact⟨h1,h2,h3,A',c,h4,fQ h5 hK⟩
def Ob (B cb g:Nat):Nat->Prop:=λb=>b<B\/b=cb\/b=g
def Pl (w:U)(cb g:Nat)(c:Eb)(sets:List Nat)(nA hA:Option H)(nc hc cap:Nat):Prop :=
 GH w (.slice (J ⟨g,0,Y⟩) sets.L cap)/\w.heap[cb]?=J (O #[Z nA c.DW.L nc,Z hA c.DR.L hc,.slice (J ⟨g,0,Y⟩) sets.L cap] 218 (0,0))
def jR (nA hA:Option H)(nc hc:Nat)(c:Eb)(w:U)(B:Nat)(hB:B<=w.heap.size)(hn:RI w B nA c.DW)(hh:FY w B hA c.DR)(hm:c.DR.L<=4) :
  bk DP 95 #[EG nA hA c nc hc] w λe w'=>e=.L (.S (J ⟨w.heap.size+1,0,Y⟩))/\Gr w w'/\∃g cap,w.heap.size+2<=g /\
   FZ w' (Ob B (w.heap.size+1) g) (w.heap.size+1) c (Ex c.DR.L) nA hA nc hc g cap/\Pl w' (w.heap.size+1) g c (Ex c.DR.L) nA hA nc hc cap:=by
 refine(oP nA hA nc hc c.DW.L c.DR.L w hm (rI c.DR.L hm)).LT ?_;rintro e w' ⟨rfl,g,cap,W,⟨g',cap',hv,hk,hs,hsf⟩,hg,zV,hz,h0,h1,h2,ho,a7,a8⟩;obtain⟨rfl,rfl⟩:g=g'/\cap=cap':=by injection hv with a b c;injection a with a;injection a with a;exact⟨a,c⟩
 have hgW:=(ho.lt g rfl).2;have a6:Gr w w':=⟨⟨hk.os.trans zV.Ly.os,hk.tape.trans zV.Ly.tape,hk.output.trans zV.Ly.output,AX zV.size hk.size,λb hb=>(hk.Lo b (AI hb zV.size) (by show b≠g;omega)).trans (zV.Ly.Lo b hb)⟩,AX zV.drawn hk.drawn⟩;refine⟨rfl,a6,g,cap,hg,?_,?_,?_⟩
 rotate_left
 .rw[dv _ hm];exact hsf _ _ a7
 .rw[dv _ hm];exact(hk.Lo _ hz (by show ¬w.heap.size+1=g;omega)).trans a8
 have zv:∀o,w'.L ⟨w.heap.size+1,o,Y⟩=W.L ⟨w.heap.size+1,o,Y⟩:=λo=>hk.cell (p:=⟨w.heap.size+1,o,Y⟩) hz (by show w.heap.size+1≠g;omega);refine⟨?_,Or.inr (Or.inl rfl),(zv 0).trans h0,(zv 1).trans h1,?_,Or.inr (Or.inr rfl),hs,fQ (hn.gr hB a6) λb hb=>Or.inl hb,yk (hh.keep λb o hb=>a6.cell (AI hb hB)) λb hb=>Or.inl hb⟩
 .rintro b (h|h|h)
  .have:=a6.size;omega
  .have:=hk.size;omega
  .have:=hk.size;omega
 .rw[dv _ hm];exact(zv 2).trans h2
def QZ (nA hA:Option H)(nc hc:Nat)(c:Eb)(B:Nat)(w:U)(e:ek)(w':U):Prop :=
 Gr w w' ∧ if Es c = 0 then ∃ cb g cap, e = .L (.tuple #[.S (J ⟨cb, 0, Y⟩), I X 0]) ∧ w.heap.size <= cb ∧ cb < g ∧ FZ w' (Ob B cb g) cb c (Ex c.DR.L) nA hA nc hc g cap ∧ Pl w' cb g c (Ex c.DR.L) nA hA nc hc cap
   else e=.L (.tuple #[.S Y,I X (Es c)])
def kG (nA hA:Option H)(nc hc:Nat)(c:Eb)(w:U)(B:Nat)(hB:B<=w.heap.size)(hn:RI w B nA c.DW)(hh:FY w B hA c.DR)(aC:c.DW.L<=4611686018427387904)(zC:c.DR.L<=4611686018427387904)
  (aD:∀h∈c.DR,h.off.L<=4611686018427387904) :
  bk DP 78 #[EG nA hA c nc hc] w (QZ nA hA nc hc c B w):=by
 have HN:=AB hn;have HH:=AB hh;have aF:=AB aD;unfold EG;obtain⟨W0,zM⟩:∃W0:U,W0=w.Li (O #[Z nA c.DW.L nc,Z hA c.DR.L hc] 27):=⟨_,rfl⟩;have zL:Gr w W0:=zM▸(Gr.refl w).Li _;have a8:RI W0 B nA c.DW:=HN.out.gr hB zL;have aA:FY W0 B hA c.DR:=HH.out.keep λb o hb=>zL.cell (AI hb hB);have zF:W0.heap.size=w.heap.size+1:=by rw[zM];simp
 have HW:=AB zM;have HC:=AB (oO nA hA nc hc c W0 B (by omega) a8 aA aC zC aF.out);have aB:=AB zL;have aG:=AB a8;have aH:=AB aA;unfold EG at HC;go_enter Sq.func78,Tryz.ntmps78;go_wp2_with fail;rw[<-HW.out];refine HC.out.LT ?_;rintro e w1 ⟨rfl,zJ⟩;have a7:=AB zJ;by_cases hE:Es c=0
 .rw[hE];have hm:=Eb.Ok.of hE;have a6:Gr W0 w1:=a7.out;have HS:=AB (jR nA hA nc hc c w1 B (by have:=a6.size;omega) (aG.out.gr (by omega) a6) (aH.out.keep λb o hb=>a6.cell (AI hb (by omega))) hm.h4);have zp:w1.L ⟨w.heap.size,0,Y⟩=J (Z nA c.DW.L nc):=(a6.cell (by show w.heap.size<_;omega)).trans (by rw[HW.out];simp);have zv:w1.L ⟨w.heap.size,1,Y⟩=J (Z hA c.DR.L hc):=(a6.cell (by show w.heap.size<_;omega)).trans (by rw[HW.out];simp)
  have zE:=a6.size;unfold EG at HS;have HE:=AB hE;go_wp2_with fail;refine HS.out.LT ?_;rintro e w2 ⟨rfl,zI,g,cap,hg,hK,hKF⟩;have aI:=AB hKF;have HR:=AB hK;have aJ:=AB zI;go_wp2;go_ret2;refine⟨aB.out.trans (a7.out.trans aJ.out),?_⟩;rw[AJ HE.out];exact⟨_,g,cap,rfl,by omega,by omega,HR.out,aI.out⟩
 .have HE:=AB hE;obtain⟨k,hk⟩:∃k,k=Es c:=⟨_,rfl⟩;rw[<-hk] at hE ⊢;have HK:=AB hk;clear hk;go_wp2;go_ret2;refine⟨aB.out.trans a7.out,?_⟩;rw[AE HE.out];show Ending.returned (.tuple #[.S Y,I X k])=_;rw[HK.out]
open Go.Shelf
attribute [local go_sem] Oper.semAt_some
def GI:EK:=λ_=>0
def gp {c:Eb}:∀i,c.LT (GI i):=λ_=>Nat.pos_of_ne_zero (by simp)
def mL {c:Eb}(a6:c.Ok):∀x∈Ex c.DR.L,c.LT x:=mI _ a6.h4
def oQ {c:Eb}(a6:c.Ok):(Ex c.DR.L).L<=16:=by
 rw[dv _ a6.h4];exact AX (CR (by omega) a6.h4) (by decide)
def isSome (c:Eb):Bool:=!(EJ c (Ex c.DR.L) c.DW.L GI 0).isEmpty
def rM {K:Nat->Prop}{cb:Nat}{c:Eb}{nA hA:Option H}{nc hc sb sc:Nat}(w:U)(aA:c.Ok)(hK:FZ w K cb c (Ex c.DR.L) nA hA nc hc sb sc) :
  bk DP 98 #[.S (J ⟨cb,0,Y⟩)] w λe w'=>e=.L (.bool (isSome c))/\Gr w w':=by
 rw[<-callsIn_wide (n:=0)];have HK:=AB hK;have aC:=hK.lt;have aD:=AB aC;clear hK aC;refine callsIn_of_wp_marks Sq.func98 rfl trivial ?_ rfl;simp only[Tryz.ntmps98,AR,AQ,AT,Nat.reduceAdd,Nat.reduceSub,Bz,BA,BQ,BI,BZ,BN]
 gi_wp2_with fail
 have a7:=me cb 0 GI (w.Li (O #[.bool L] 4));rw[<-callsIn_wide (n:=0)] at a7;refine⟨trivial,rfl,a7.LT ?_⟩;rintro e w1 ⟨rfl,aB⟩;have HS:=AB (ku (T0:=(·=w.heap.size)) (K:=K) (n:=0) (r:=GI) (HK.out.keep (w':=w.Li (O #[.bool L] 4)) (by simp) λb o hb=>A7 _ _ _ (aD.out b hb)) (λb hb=>by subst hb;simp) (λb hb h=>by have:=aD.out b hb;omega) gp);rw[<-aB] at HS;have HW:=AB aB
 clear aB a7;have hres:w1.heap[w.heap.size]?=J (O #[.bool L] 4 (0,0)):=by
  rw[HW.out,Cp _ _ _ (by simp;omega),Cp _ _ _ (by simp;omega),Cp _ _ _ (by simp)];exact cU w _
 have aG:=AB hres;have hz:w1.heap.size=w.heap.size+4:=by rw[HW.out];simp
 have HZ:=AB hz;have zJ:Gr w w1:=by rw[HW.out];exact((((Gr.refl w).Li _).Li _).Li _).Li _
 have HG:=AB zJ;clear hres hz zJ
 gi_wp2_with fail
 refine px (T0:=(·=w.heap.size)) (K:=K) (cb:=cb) (c:=c) (sets:=Ex c.DR.L) (nA:=nA) (hA:=hA) (nc:=nc) (hc:=hc) (sb:=sb) (sc:=sc) (bc:=w.heap.size+1) (br:=w.heap.size+1+1) (bn:=w.heap.size+1+2) (k:=c.DW.L) (n:=0) (r:=GI)
  aA (mL aA) (oQ aA) rfl (by omega) (λ_ _=>rfl) (by simpa using HS.out) (by rintro b rfl;have:=HZ.out;omega)
  (λpre W=>pre=[]/\W.heap[w.heap.size]?=J (O #[.bool L] 4 (0,0)))
  (λj pre W=>j=.ret/\pre≠[]/\W.heap[w.heap.size]?=J (O #[.bool ck] 4 (0,0)))
  (λpre W W' h hk=>⟨h.1,(hk _ rfl).trans h.2⟩) (λj pre W W' h hk=>⟨h.1,h.2.1,(hk _ rfl).trans h.2.2⟩) ⟨rfl,aG.out⟩
  ?_ ?_ ?_
 .intro l pre ρ W a6 aH;obtain⟨rfl,hb⟩:=aH;obtain⟨h1,h2,h3⟩:=one_cell hb;have HB:=AB (one_set (u:=.bool ck) hb);clear a6 hb
  gi_wp2
  exact⟨KT.LE (T:=(·=w.heap.size)) W (p:=⟨w.heap.size,0,Y⟩) rfl _,rfl,by simp,HB.out⟩
 .rintro D W hD a6 ⟨hL,hb⟩ hd;obtain⟨h1,h2,h3⟩:=one_cell hb;have HB:=AB (one_set (u:=.bool L) hb);have aI:=AB (a6.gr HG.out (by rintro b (rfl|rfl)<;>omega));have HL:=AB (show isSome c=L by unfold isSome;rw[hL];rfl);have a8:D≠w.heap.size:=λe=>by subst e;rw[hb] at hd;cases hd
  have HD:=AB (show(W.LE ⟨w.heap.size,0,Y⟩ (.bool L)).heap[D]?=J (.L (J [])) from(AP _ _ _ _ a8).trans hd);have hz:=HZ.out;clear a6 hb hd hL
  gi_wp2
  refine dV HD.out (v:=.bool L) ?_ ⟨by rw[HL.out],(aI.out.LE (AD _) _).SL (by omega) _⟩;have:=(one_cell HB.out).1;rw[<-cy (D:=D) (o:=.L Y) (p:=⟨w.heap.size,0,Y⟩) (bb a8)] at this;simp[results,eb,go_sem,this]
 .rintro D j q W hD a6 hq ⟨rfl,zU,hb⟩ hd;have a8:D≠w.heap.size:=λe=>by subst e;rw[hb] at hd;cases hd
  refine wpIn_ret ?_;refine dV hd (v:=.bool ck) ?_ ⟨?_,(a6.gr HG.out (by have:=HZ.out;rintro b (rfl|rfl)<;>omega)).SL (by have:=HZ.out;omega) _⟩
  .have:=(one_cell hb).1;rw[<-cy (D:=D) (o:=.L Y) (p:=⟨w.heap.size,0,Y⟩) (bb a8)] at this;simp[results,eb,go_sem,this]
  .refine aF ?_;unfold isSome;obtain⟨t,ht⟩:=hq;cases hw:EJ c (Ex c.DR.L) c.DW.L GI 0 with
   |nil=>rw[hw] at ht;exact AH (List.append_eq_nil_iff.1 ht).1 zU
   |cons a l=>rfl
def JC (l m:List Int):Bool:=bw (l.L<m.L)||(bw (l.L=m.L)&&bw (IV l m<0))
def JD (w:U)(kb:Nat):Option (List Int)->Prop
 |none=>w.heap[kb]?=J (O #[.int .i32 0,.int .u32 0,.slice Y 0 0,.bool L] 182 (0,0))
 |some l=>∃A c,w.heap[kb]?=J (O #[.int .i32 0,.int .u32 0,Z A l.L c,.bool ck] 182 (0,0))/\l.L<=4611686018427387904/\IU w (λb=>b≠kb/\b<w.heap.size) A l
def KN:Option (List Int)->List Int->List Int
 |none,x=>x
 |some b,x=>if JC x b then x else b
def Gk {W:U}{b:Nat}{v0 v1 v2 v3:C}{t:cw}(h:W.heap[b]?=J (O #[v0,v1,v2,v3] t (0,0))) :
  W.L ⟨b,0,Y⟩=J v0/\W.L ⟨b,1,Y⟩=J v1/\W.L ⟨b,2,Y⟩=J v2/\W.L ⟨b,3,Y⟩=J v3/\(∀i,W.H ⟨b,i,Y⟩=L)/\b<W.heap.size:=by
 refine⟨?_,?_,?_,?_,λi=>?_,(AC.1 h).1⟩
 .unfold bq;simp only[h];rfl
 .unfold bq;simp only[h];rfl
 .unfold bq;simp only[h];rfl
 .unfold bq;simp only[h];rfl
 .unfold di;simp[h]
def Eh {W:U}{b i:Nat}{a:Array C}{u:C}{t:cw}{f:Nat×Nat}(h:W.heap[b]?=J (.cells a t f)):(W.LE ⟨b,i,Y⟩ u).heap[b]?=J (.cells (a.L i u) t f):=by
 unfold R;simp only[Bv,if_true,h]
 rfl
def IU.keep' {w w':U}{kb:Nat}{A:Option H}{l:List Int}(h:IU w (λb=>b≠kb/\b<w.heap.size) A l)(hz:w.heap.size<=w'.heap.size)(hk:∀b o,b≠kb->w'.L ⟨b,o,Y⟩=w.L ⟨b,o,Y⟩):IU w' (λb=>b≠kb/\b<w'.heap.size) A l:=λhn=>by
 obtain⟨b,o,e,hb,hc⟩:=h hn;exact⟨b,o,e,⟨hb.1,AI hb.2 hz⟩,λi x hx=>(hk _ _ hb.1).trans (hc i x hx)⟩
def tW (A A':Option H)(c c':Nat)(l m:List Int)(w:U)(B:Nat)(h:RI w B A l)(h':RI w B A' m)(hl:l.L<=4611686018427387904)(hm:m.L<=4611686018427387904) :
  bk DP 100 #[Z A l.L c,Z A' m.L c'] w λe w'=>e=.L (.bool (JC l m))/\w=w':=by
 have HC:=AB (kP A A' c c' l m w B h h' hl hm);go_enter Sq.func100,Tryz.ntmps100;by_cases h1:l.L<m.L
 .have HL:=AB (show JC l m=ck by simp[JC,h1]);go_wp2;go_ret;exact⟨aF HL.out.LT,rfl⟩
 .by_cases h2:l.L=m.L
  .have HL:=AB (show JC l m=bw (IV l m<0) by simp[JC,h2]);rw[h2] at HC ⊢;generalize IV l m=q at HC HL;go_wp2_with (go_at_call 101;refine HC.out.LT ?_;rintro e w' ⟨rfl,rfl⟩);go_ret;exact⟨aF HL.out.LT,rfl⟩
  .have HL:=AB (show JC l m=L by simp[JC,h1,h2]);generalize l.L=a at h1 h2 hl ⊢;generalize m.L=b at h1 h2 hm ⊢;go_wp2;go_ret;exact⟨aF HL.out.LT,rfl⟩
def wm (kb:Nat)(xA:Option H)(xc:Nat)(x:List Int)(o:Option (List Int))(w:U)(hk:JD w kb o)(hx:IU w (λb=>b≠kb/\b<w.heap.size) xA x)(hl:x.L<=4611686018427387904) :
  bk DP 99 #[.S (J ⟨kb,0,Y⟩),Z xA x.L xc,.func (.func 100) #[] #[]] w λe w'=>e=.L (.tuple #[])/\KT (·=kb) w w'/\JD w' kb (J (KN o x)):=by
 have HX:=AB hx;cases o with
 |none =>
  obtain⟨h0,h1,h2,h3,hf,zY⟩:=Gk hk;have f0:=hf 0;have f2:=hf 2;have f3:=hf 3;have HK:=AB hk;go_enter_defers Sq.func99,dr;go_wp2_with (go_at_call 129;refine(Do ⟨kb,0,Y⟩ _ h0 f0).LT ?_;rintro e w' ⟨rfl,rfl⟩);have HS:=AB (Eh (i:=3) (u:=.bool ck) (Eh (i:=2) (u:=Z xA x.L xc) (Eh (i:=0) (u:=.int .i32 1) HK.out)));refine dS (f:=130) (args:=#[.S (J ⟨kb,0,Y⟩)]) (by simp) (by simp[go_sem]) ?_
  obtain⟨c0,_,_,_,cf,_⟩:=Gk HS.out;refine(Dn ⟨kb,0,Y⟩ .returning _ c0 (cf 0)).LT ?_;rintro e u' w'' ⟨rfl,rfl,rfl⟩;have a6:=Eh (i:=0) (u:=.int .i32 0) HS.out;refine⟨.tuple #[],dt rfl _ _ _,rfl,(((KT.LE (T:=(·=kb)) w (p:=⟨kb,0,Y⟩) rfl _).trans (KT.LE (T:=(·=kb)) _ (p:=⟨kb,2,Y⟩) rfl _)).trans (KT.LE (T:=(·=kb)) _ (p:=⟨kb,3,Y⟩) rfl _)).trans (KT.LE (T:=(·=kb)) _ (p:=⟨kb,0,Y⟩) rfl _),?_⟩
  refine⟨xA,xc,a6,hl,HX.out.keep' (by simp[R]) λb i hb=>?_⟩;rw[AN _ _ _ _ (by simp[bb hb]),AN _ _ _ _ (by simp[bb hb]),AN _ _ _ _ (by simp[bb hb]),AN _ _ _ _ (by simp[bb hb])]
 |some b =>
  obtain⟨bA,bc,hk,hbl,hb⟩:=hk;obtain⟨h0,h1,h2,h3,hf,zY⟩:=Gk hk;have f0:=hf 0;have HK:=AB hk;have HB:=AB hb;have kp:∀ {A:Option H} {l:List Int},IU w (λb=>b≠kb/\b<w.heap.size) A l->RI (w.LE ⟨kb,0,Y⟩ (.int .i32 1)) w.heap.size A l:=λh=>IU.ri (K:=λb=>b≠kb/\b<w.heap.size) (h.keep λb o hb=>AN _ _ _ _ (by simp[bb hb.1])) λb hb=>hb.2;have HC:=AB (tW xA bA xc bc x b (w.LE ⟨kb,0,Y⟩ (.int .i32 1)) w.heap.size (kp HX.out) (kp hb) hl hbl)
  obtain⟨v,hv⟩:∃v,v=JC x b:=⟨_,rfl⟩;rw[<-hv] at HC;have HV:=AB hv;clear hv;cases v with
  |true =>
   go_enter_defers Sq.func99,dr;go_wp2_with (first|(go_at_call 129;refine(Do ⟨kb,0,Y⟩ _ h0 f0).LT ?_;rintro e w' ⟨rfl,rfl⟩)|(go_at_call 100;refine HC.out.LT ?_;rintro e w' ⟨rfl,rfl⟩));have HS:=AB (Eh (i:=3) (u:=.bool ck) (Eh (i:=2) (u:=Z xA x.L xc) (Eh (i:=0) (u:=.int .i32 1) HK.out)));refine dS (f:=130) (args:=#[.S (J ⟨kb,0,Y⟩)]) (by simp) (by simp[go_sem]) ?_
   obtain⟨c0,_,_,_,cf,_⟩:=Gk HS.out;refine(Dn ⟨kb,0,Y⟩ .returning _ c0 (cf 0)).LT ?_;rintro e u' w'' ⟨rfl,rfl,rfl⟩;have a6:=Eh (i:=0) (u:=.int .i32 0) HS.out;refine⟨.tuple #[],dt rfl _ _ _,rfl,(((KT.LE (T:=(·=kb)) w (p:=⟨kb,0,Y⟩) rfl _).trans (KT.LE (T:=(·=kb)) _ (p:=⟨kb,2,Y⟩) rfl _)).trans (KT.LE (T:=(·=kb)) _ (p:=⟨kb,3,Y⟩) rfl _)).trans (KT.LE (T:=(·=kb)) _ (p:=⟨kb,0,Y⟩) rfl _),?_⟩
   have a7:KN (J b) x=x:=by simp[KN,<-HV.out]
   rw[a7];refine⟨xA,xc,a6,hl,HX.out.keep' (by simp[R]) λb i hb=>?_⟩;rw[AN _ _ _ _ (by simp[bb hb]),AN _ _ _ _ (by simp[bb hb]),AN _ _ _ _ (by simp[bb hb]),AN _ _ _ _ (by simp[bb hb])]
  |false =>
   go_enter_defers Sq.func99,dr;go_wp2_with (first|(go_at_call 129;refine(Do ⟨kb,0,Y⟩ _ h0 f0).LT ?_;rintro e w' ⟨rfl,rfl⟩)|(go_at_call 100;refine HC.out.LT ?_;rintro e w' ⟨rfl,rfl⟩));have HS:=AB (Eh (i:=0) (u:=.int .i32 1) HK.out);refine dS (f:=130) (args:=#[.S (J ⟨kb,0,Y⟩)]) (by simp) (by simp[go_sem]) ?_;obtain⟨c0,_,_,_,cf,_⟩:=Gk HS.out;refine(Dn ⟨kb,0,Y⟩ .returning _ c0 (cf 0)).LT ?_
   rintro e u' w'' ⟨rfl,rfl,rfl⟩;have a6:=Eh (i:=0) (u:=.int .i32 0) HS.out;refine⟨.tuple #[],dt rfl _ _ _,rfl,(KT.LE (T:=(·=kb)) w (p:=⟨kb,0,Y⟩) rfl _).trans (KT.LE (T:=(·=kb)) _ (p:=⟨kb,0,Y⟩) rfl _),?_⟩;have a7:KN (J b) x=b:=by simp[KN,<-HV.out]
   rw[a7];refine⟨bA,bc,a6,hbl,HB.out.keep' (by simp[R]) λb i hb=>?_⟩;rw[AN _ _ _ _ (by simp[bb hb]),AN _ _ _ _ (by simp[bb hb])]
def aR {w w':U}{base size n:Nat}{e:cw}{v:C}{xs:List C}(h:w.S base e size v n xs)(hk:∀g,v.L=J g->g<w.heap.size->w'.heap[g]?=w.heap[g]?):w'.S base e size v n xs:=by
 have zY:=h.lt;refine⟨h.1,?_⟩;obtain h0|⟨g,cap,cur,rfl,h1,h2,h3⟩:=h.2
 .exact .inl h0
 .exact .inr ⟨g,cap,cur,rfl,h1,(hk g rfl (zY g rfl).2).trans h2,h3⟩
def lf {w:U}{b1 b2 s1 s2 n1 n2:Nat}{e1 e2:cw}{v1 v2:C}{x1 x2:List C}(he:e1≠e2)(h1:w.S b1 e1 s1 v1 n1 x1)(h2:w.S b2 e2 s2 v2 n2 x2){g:Nat}(hg:v1.L=J g):J g≠v2.L:=by
 obtain⟨rfl,_⟩|⟨g1,c1,u1,rfl,_,a1,_⟩:=h1.2
 .cases hg
 .obtain⟨rfl,_⟩|⟨g2,c2,u2,rfl,_,a2,_⟩:=h2.2
  .intro h;cases h
  .intro h;obtain rfl:g1=g:=by injection hg
   obtain rfl:g1=g2:=by injection h
   rw[a1] at a2;injection a2 with a2
   injection a2 with _ h _
   exact he h
def dw {w:U}{B:Nat}{e:cw}{size n:Nat}{v:C}{xs:List C}(h:w.S B e size v n xs){b:Nat}(hb:b<B):J b≠v.L:=λhh=>by
 have:=(h.lt b hh.LT).1;omega
def gq {w:U}{B B':Nat}{e:cw}{size n:Nat}{v:C}{xs:List C}(h:w.S B e size v n xs)(hb:B'<=B):w.S B' e size v n xs:=by
 refine⟨h.1,?_⟩;obtain h0|⟨g,cap,cur,h1,h2,h3⟩:=h.2
 .exact .inl h0
 .exact .inr ⟨g,cap,cur,h1,by omega,h3⟩
structure EW (w:U)(base:Nat)(v:C)(ls:List (List Int))(xs:List C):Prop where
 row:w.S base 22 1 v ls.L xs
 cells:∀(i:Nat) (l:List Int),ls[i]?=J l->∃u,xs[i]?=J u/\w.S base 3 1 u l.L (l.map (I X))
def EW.nil (w:U)(base:Nat):EW w base (.slice Y 0 0) [] []:=⟨Bs _ _ _ _,λi l h=>by simp at h⟩
def EW.keep {w w':U}{base:Nat}{v:C}{ls:List (List Int)}{xs:List C}(h:EW w base v ls xs)(hk:∀b,b<w.heap.size->w'.heap[b]?=w.heap[b]?):EW w' base v ls xs :=
 ⟨aR h.row λg _ hl=>hk g hl,λi l hi=>by
  obtain⟨u,h1,h2⟩:=h.cells i l hi
  exact⟨u,h1,aR h2 λg _ hl=>hk g hl⟩⟩
def EW.keep' {w w':U}{base:Nat}{v:C}{ls:List (List Int)}{xs:List C}(h:EW w base v ls xs)(hk:∀b,base<=b->b<w.heap.size->w'.heap[b]?=w.heap[b]?):EW w' base v ls xs :=
 ⟨aR h.row λg hg hl=>hk g (h.row.lt g hg).1 hl,λi l hi=>by
  obtain⟨u,h1,h2⟩:=h.cells i l hi
  exact⟨u,h1,aR h2 λg hg hl=>hk g (h2.lt g hg).1 hl⟩⟩
def EW.push {w1 w w':U}{base n:Nat}{v v' u:C}{ls:List (List Int)}{xs:List C}{l:List Int}(h:EW w base v ls xs)(hu:w.S base 3 1 u l.L (l.map (I X)))
  (h1:∀b,b<w.heap.size->w1.heap[b]?=w.heap[b]?) (hs:w.heap.size<=w1.heap.size) (hg:w1.O w' v.L) (hn:n=ls.L) (hr:w'.S base 22 1 v' (n+1) (xs++[u])):EW w' base v' (ls++[l]) (xs++[u]):=by
 subst hn;have key:∀ {y:C} {m:Nat} {zs:List C},w.S base 3 1 y m zs->w'.S base 3 1 y m zs:=λhy=>aR hy λg a6 hl =>
  (hg.Lo g (AI hl hs) (lf (by decide) hy h.row a6)).trans (h1 g hl)
 have zk:xs.L=ls.L:=by have:=h.row.1;omega
 refine⟨by simpa using hr,λi y hi=>?_⟩;obtain zY|a8:=BP i ls.L
 .rw[Bn zY] at hi;obtain⟨z,hz,hzo⟩:=h.cells i y hi;exact⟨z,by rw[Bn (by omega)];exact hz,key hzo⟩
 .have a7 : i = ls.L := by
   have:=(Bd.1 hi).1;simp at this;omega
  subst a7;rw[Bo (AD _)] at hi;simp at hi;subst hi;exact⟨u,by rw[Bo (by omega),zk];simp,key hu⟩
def EW.Oc {w:U}{base:Nat}{v:C}{ls:List (List Int)}{xs:List C}(h:EW w base v ls xs):∃A c,v=Z A ls.L c/\FX w w.heap.size A ls:=by
 obtain⟨rfl,h0⟩|⟨g,cap,cur,rfl,h1,h2,h3⟩:=h.row.2
 .have:ls=[]:=Bf h0;subst this;exact⟨Y,0,rfl,.nil⟩
 .refine⟨_,cap,rfl,λ_=>⟨g,0,rfl,(AC.1 h2).1,λi l hi=>?_⟩⟩;obtain⟨u,hu,ho⟩:=h.cells i l hi;obtain⟨A,c,rfl,hr⟩:=RI.Fw ho;refine⟨A,c,?_,hr⟩;have:=h.row.cells (g:=g) rfl i _ hu;have e:(⟨g,0,Y⟩:H).add i=⟨g,0+i,Y⟩:=by unfold dn;split<;>simp_all
  rwa [e] at this
def Dw:(DP.info? 22).map (λi=>(i.zero,i.size,i.bytes))=J (J (.slice Y 0 0),1,24):=by
 rw[Dg];kernel_rfl
def aV (r:EK)(k:Nat):List (List Int):=(S k).map λi=>wl (r i)
def nU (r:EK)(k:Nat):aV r (k+1)=aV r k++[wl (r k)]:=by simp[aV,C1]
def eJ (r:EK)(k:Nat):(aV r k).L=k:=by simp[aV]
def oR (cb:Nat)(nA:Option H)(n nc:Nat)(r:EK)(w:U)(hcb:cb<w.heap.size)(zp:w.L ⟨cb,0,Y⟩=J (Z nA n nc))(hn:n<=5)(hr:∀i,i<5->r i<16) :
  bk DP 90 #[.S (J ⟨cb,0,Y⟩),ET r] w λe w'=>∃A c xs,e=.L (Z A n c)/\EW w' (w.heap.size+1) (Z A n c) (aV r n) xs/\Gr w w':=by
 obtain⟨i0,hi,zF,zE,zD⟩:=ed Dw;have HR:=AB hr;unfold ET;go_enter Sq.func90,Tryz.ntmps90;go_wp2;go_loopw [5,13] (λv i wr=>∃k:Nat,k<=n/\i=I X k/\∃xs,EW wr (w.heap.size+1) v (aV r k) xs/\(∀j,j<5->wr.L ⟨w.heap.size,j,Y⟩=J (.int .u8 (r j)))/\Gr w wr/\w.heap.size+1<=wr.heap.size) (λ_ i _=>n-(bh i).L)
 case atStart =>
  refine⟨0,by omega,rfl,[],EW.nil _ _,λj hj=>?_,(Gr.refl w).Li _,by simp⟩;rw[AF _ _ _ _ rfl]
  match j,hj with
  |0,_=>rfl
  |1,_=>rfl
  |2,_=>rfl
  |3,_=>rfl
  |4,_=>rfl
 case round =>
  obtain⟨k,hk,rfl,xs,aB,aC,zV,zx⟩:=hrel;have HG:=AB zV;have HO:=AB aB;have a8:=AB aC;by_cases zY:k<n
  .have hx:=HR.out k (by omega);have aD:=a8.out k (by omega);have HS:=AB (nU r k);have HL:=AB (gK (r k) wr hx);generalize zT:r k=x at hx aD HS HL;go_wp2_with fail;refine HL.out.LT ?_;rintro e w1 ⟨u,rfl,hou,zJ⟩;obtain⟨uA,uc,rfl,_⟩:=RI.Fw hou;have HU:=AB hou;have a6:=AB zJ;have hs1:=zJ.size;have a7:EW w1 (w.heap.size+1) _ (aV r k) xs:=HO.out.keep λb hb=>a6.out.Ly.Lo b hb;have HO1:=AB a7
   have hrow:=a7.row;have zk:=eJ r k;rw[zk] at hrow;go_wp2_with (at_builtin;refine EB rfl _ _ 50 rfl (w.heap.size+1) 22 i0 (.slice Y 0 0) 1 24 Sq.underlying50 hi zF zE zD rfl (by decide) _ _ _ rfl (hrow.Li _) ⟨w1.heap.size,0,Y⟩ 1 1 [Z uA (wl x).L uc] rfl rfl ?c1 ?c2 ?c3 ?c4 ?c5 ?_)
   case c1 =>
    intro j u hj
    match j,hj with
    |0,hj=>simp at hj;subst hj;simp[dn]
   case c2 =>
    intro u' hu;simp at hu;subst hu;rfl
   case c3=>unfold maxLen;omega
   case c4=>omega
   case c5=>simp;omega
   intro v' w2 hown' hgrow hd;have aF:=AB (((HG.out.trans a6.out).Li (O #[Z uA (wl x).L uc] 22)).SS hgrow hd λj hj=>by have:=(hrow.lt j hj).1;omega);have aI:w1.heap.size+1<=w2.heap.size:=by have:=hgrow.size;simpa using this
   have aG:Hid (EW w2 (w.heap.size+1) v' (aV r (k+1)) (xs++[Z uA (wl x).L uc])):=AB (by
    rw[HS.out]
    refine EW.push (HO1.out) (gq HU.out (by omega)) (λb hb=>heap_alloc_old w1 _ hb) (by simp) hgrow (eJ r k).LT hown')
   have aA:Hid (∀j,j<5->w2.L ⟨w.heap.size,j,Y⟩=J (.int .u8 (r j))):=AB λj hj =>
    hgrow.cell ((A7 _ _ _ (by show w.heap.size<w1.heap.size;omega)).trans ((a6.out.cell (by show w.heap.size<wr.heap.size;omega)).trans (a8.out j hj))) (dw hrow (by show w.heap.size<_;omega))
   have hz3:w.heap.size+1<=w2.heap.size:=by omega
   go_wp2;go_roundw
   case rel=>exact⟨k+1,by omega,by go_num,_,aG.out,aA.out,aF.out,by omega⟩
   case measure=>simp[Proofs.intOf];omega
  .have aH:k=n:=by omega
   subst aH;obtain⟨A,c,rfl,_⟩:=HO.out.Oc;have hl:=eJ r k;rw[hl] at HO ⊢;go_wp2;go_ret;exact⟨_,_,_,rfl,HO.out,HG.out⟩
def JV (l:List Int)(i k:Nat):List Int:=(S l.L).map λj=>if j<k/\i.L j=ck then l[j]?.LE 0 else 0
def aW (i k:Nat):List Int:=((S k).filter i.L).map λn:Nat=>(n:Int)
def KO (c:Eb)(i:Nat):Eb:={ c with DW:=JV c.DW i c.DW.L }
def FM (c:Eb):Nat->Option (List Int)
 |0=>Y
 |i+1=>if Go.Sq.isSome (KO c i) then FM c i else J (KN (FM c i) (aW i c.DW.L))
def jm (l:List Int)(i k:Nat):(JV l i k).L=l.L:=by simp[JV]
def eQ (l:List Int)(i k j:Nat)(hj:j<l.L):(JV l i k)[j]?=J (if j<k/\i.L j=ck then l[j]?.LE 0 else 0):=by simp[JV,hj]
def wn {c:Eb}(h:c.Ok)(i:Nat):(KO c i).Ok:=by
 have hl:(KO c i).DW.L=c.DW.L:=jm _ _ _;refine⟨by rw[hl];exact h.n1,by rw[hl];exact h.n5,λx hx=>?_,h.h1,h.h4,h.heads,h.F9,h.most,by rw[hl];exact h.off⟩;obtain⟨j,hj,rfl⟩:=List.getElem_of_mem hx;have hj':j<c.DW.L:=by rw[hl] at hj;exact hj
 have:=eQ c.DW i c.DW.L j hj';have e:(KO c i).DW[j]=if j<c.DW.L/\i.L j=ck then c.DW[j]?.LE 0 else 0:=by
  rw[AG (by rw[jm];exact hj')] at this;exact cu this
 rw[e];split
 .exact h.need _ (Gh c.DW j hj')
 .omega
def mM (i k:Nat):aW i (k+1)=aW i k++if i.L k then[(k:Int)] else[]:=by
 unfold aW;rw[C1,C6,Cs];cases h:i.L k<;>simp[h]
def jS (i k:Nat):(aW i k).L<=k:=by
 unfold aW;rw[B8];exact AX (CM _ _) (by simp)
def JD.gr {w w':U}{kb:Nat}{o:Option (List Int)}(h:JD w kb o)(hg:Gr w w'):JD w' kb o:=by
 cases o with
 |none=>exact(hg.Ly.Lo kb (AC.1 h).1).trans h
 |some l =>
  obtain⟨A,c,h1,h2,h3⟩:=h;refine⟨A,c,(hg.Ly.Lo kb (AC.1 h1).1).trans h1,h2,λhn=>?_⟩;obtain⟨b,o,e,hb,hc⟩:=h3 hn;exact⟨b,o,e,⟨hb.1,AI hb.2 hg.size⟩,λi x hx=>(hg.cell (p:=⟨b,o+i,Y⟩) hb.2).trans (hc i x hx)⟩
def jT {w:U}{ops:Array Oper}{rest:List Oper}{o:Oper}{a:Act}{Q:Exit->Act->U->Prop}(hgd:o.guard=Y)(s x:Operand)(ho:o.op=.call { callee:=.builtin .append,args:=#[s,x],argTypes:=#[22,22] })
  (base:Nat) (v:C) (n:Nat) (xs:List C) (hs:a.eval s=v) (zm:w.S base 3 1 v n xs) (ad:H) (c:Nat) (u:C) (hx:a.eval x=.slice (J ad) 1 c) (hc:w.L ad=J u) (h1:u.oneCell'=ck)
  (hn:n<=1048576) (hbase:base<=w.heap.size) (h:∀v' w',w'.S base 3 1 v' (n+1) (xs++[u])->w.O w' v.L->w.drawn<=w'.drawn->wpList DP ops Q rest (a.put o.dst v') w'):wpList DP ops Q (o::rest) a w:=by
 obtain⟨i0,hi,zF,zE,zD⟩:=ed Dl;refine EB hgd s x 22 ho base 3 i0 (I X 0) 1 8 Sq.underlying22 hi zF zE zD rfl (by decide) v n xs hs zm ad 1 c [u] hx rfl (λj u' hj=>?_) (λu' hu=>?_) (by unfold maxLen;omega) (by omega) hbase h
 .match j,hj with
  |0,hj =>
   simp at hj;subst hj;have:ad.add 0=ad:=by unfold dn;split<;>simp_all
   rw[this];exact hc
 .simp at hu;subst hu;exact h1
def wv:∀k:Fin 32,∀j:Fin 5,(bits BinOp.and X ((k.val:Int) / 2 ^ j.val) 1==1)=k.val.L j.val:=by decide +kernel
def mN {l:List Int}{i k m:Nat}(hm:m<l.L)(zU:m≠k):(JV l i (k+1))[m]?.LE 0=(JV l i k)[m]?.LE 0:=by
 rw[eQ _ _ _ _ hm,eQ _ _ _ _ hm];have:(m<k+1↔m<k):=by omega
 simp[this]
def mO {l:List Int}{i k:Nat}(hm:k<l.L):(JV l i (k+1))[k]?.LE 0=if i.L k=ck then l[k]?.LE 0 else 0:=by
 rw[eQ _ _ _ _ hm];simp
def tX {l:List Int}{i k:Nat}(hm:k<l.L):(JV l i k)[k]?.LE 0=0:=by
 rw[eQ _ _ _ _ hm];simp
def ct (n:Nat):Array Value:=madeCells (I X 0).cells (n*1)
def ip (n:Nat)(w:U)(hn:n<=1048576):(Instr.makeSlice 22 (I X (n:Int)) (I X (n:Int))).run DP w=.ok (.slice (J ⟨w.heap.size,0,Y⟩) n n) (w.Li (.cells (ct n) 3)):=by
 obtain⟨i0,hi,zF,zE,zD⟩:=ed Dl;have:=run_makeSlice (P:=DP) w 22 3 i0 (I X 0) Sq.underlying22 hi zF X X (n:Int) (n:Int) (by omega) (by omega) (by rw[zE];simp;omega) (by rw[zD];omega) (by omega);rw[zE] at this;simpa [ct] using this
def el (n j:Nat)(hj:j<n):(ct n)[j]?=J (I X 0):=by
 simp[ct,madeCells,Value.cells,hj,Nat.mod_one]
def wy (c:Eb)(w:U)(e:ek)(w':U):Prop :=
 Gr w w'/\if Es c≠0 then e=.L (.tuple #[.slice Y 0 0,I X (Es c)]) else if isSome c then e=.L (.tuple #[.slice Y 0 0,I X 11])
  else ∃A k,e=.L (.tuple #[Z A ((FM c (2 ^ c.DW.L)).LE []).L k,I X 0])/\RI w' w'.heap.size A ((FM c (2 ^ c.DW.L)).LE [])
def wA (nA hA:Option H)(nc hc:Nat)(c:Eb)(w:U)(B:Nat)(hB:B<=w.heap.size)(hn:RI w B nA c.DW)(hh:FY w B hA c.DR)
  (bJ:c.DW.L<=4611686018427387904) (zC:c.DR.L<=4611686018427387904) (b9:∀h∈c.DR,h.off.L<=4611686018427387904) :
  bk DP 49 #[EG nA hA c nc hc] w (wy c w):=by
 unfold EG;obtain⟨W0,zM⟩:∃W0:U,W0=w.Li (O #[Z nA c.DW.L nc,Z hA c.DR.L hc] 27):=⟨_,rfl⟩;have zL:Gr w W0:=zM▸(Gr.refl w).Li _;have zF:W0.heap.size=w.heap.size+1:=by rw[zM];simp
 have HW:=AB zM;have aD:=AB (kG nA hA nc hc c W0 B (by omega) (hn.gr hB zL) (hh.keep λb o hb=>zL.cell (AI hb hB)) bJ zC b9);have aS:=AB zL;have hcm:W0.L ⟨w.heap.size,0,Y⟩=J (Z nA c.DW.L nc)/\W0.L ⟨w.heap.size,1,Y⟩=J (Z hA c.DR.L hc):=by
  rw[zM];constructor
  all_goals rw[AF _ _ _ _ rfl];rfl
 have bB:=AB hcm;have HN:=AB hn;have HH:=AB hh;clear zM zL hn hh b9 hcm;go_enter Sq.func49,Tryz.ntmps49;unfold EG at aD;go_wp2_with fail;rw[<-HW.out];refine aD.out.LT ?_;rintro e w1 ⟨zJ,aF⟩;have aA:=AB zJ;by_cases hE:Es c=0
 .rw[AJ hE] at aF;obtain⟨cb,g,cap,rfl,hcb,bZ,hK,_⟩:=aF;have HK:=AB hK;have HE:=AB hE;have aP:=AB (Eb.Ok.of hE);have aG:=AB (rM w1 aP.out hK);clear zJ hK aD hE;obtain⟨v,hv⟩:∃v,v=isSome c:=⟨_,rfl⟩;rw[<-hv] at aG;have HV:=AB hv;clear hv;cases v with
  |true =>
   go_wp2_with (go_at_call 98;refine aG.out.LT ?_;rintro e w2 ⟨rfl,zI⟩;have aQ:=AB zI;clear zI);go_ret2;refine⟨aS.out.trans (aA.out.trans aQ.out),?_⟩;rw[AE (by simp[HE.out]),AJ HV.out.LT]
   rfl
  |false =>
   go_wp2_with fail;refine aG.out.LT ?_;rintro e w2 ⟨rfl,zI⟩;have aQ:=AB (aS.out.trans (aA.out.trans zI));have zp:w2.L ⟨w.heap.size,0,Y⟩=J (Z nA c.DW.L nc):=((aA.out.trans zI).cell (by show w.heap.size<_;omega)).trans bB.out.1;have zv:w2.L ⟨w.heap.size,1,Y⟩=J (Z hA c.DR.L hc):=((aA.out.trans zI).cell (by show w.heap.size<_;omega)).trans bB.out.2
   have zD:w.heap.size<w2.heap.size:=by have:=zI.size;have:=aA.out.size;omega
   have c0:=aP.out.n5;have bH:((2:Int) ^ c.DW.L)=((2 ^ c.DW.L:Nat):Int)/\2 ^ c.DW.L<=32:=by
    have:c.DW.L=0\/c.DW.L=1\/c.DW.L=2\/c.DW.L=3\/c.DW.L=4\/c.DW.L=5:=by omega
    rcases this with e|e|e|e|e|e<;>rw[e]<;>decide
   obtain⟨Ji,bK⟩:=bH;have hw:∀N:Nat,N<=32->IntKind.i64.wrap (N:Int)=N:=λN h=>by simp[IntKind.wrap,IntKind.bits,IntKind.signed];omega
   obtain⟨N,hN⟩:∃N,N=2 ^ c.DW.L:=⟨_,rfl⟩;rw[<-hN] at Ji bK;have bC:wrap64 ((2:Int) ^ c.DW.L)=(N:Int):=by
    rw[Ji];unfold wrap64;omega
   have c4:=λw=>ip c.DW.L w (by omega);have HNN:=AB hN;clear Ji hw hN;have bD:JD (w2.Li (O #[.int .i32 0,.int .u32 0,.slice Y 0 0,.bool L] 182)) w2.heap.size (FM c 0):=cU w2 _;have bL:=AB bD;clear bD;go_wp2;rw[bC];clear bC;have c5:=aQ.out.size;go_loopw [26] (λi wr=>∃k:Nat,k<=N/\i=I X k/\JD wr w2.heap.size (FM c k)/\Gr w wr/\wr.L ⟨w.heap.size,0,Y⟩=J (Z nA c.DW.L nc)/\wr.L ⟨w.heap.size,1,Y⟩=J (Z hA c.DR.L hc)/\w2.heap.size<wr.heap.size) (λi _=>N-(bh i).L)
   case atStart =>
    exact⟨0,by omega,rfl,bL.out,aQ.out.Li _,(A7 _ _ _ zD).trans zp,(A7 _ _ _ zD).trans zv,by simp⟩
   case round =>
    obtain⟨wq,rfl⟩:∃wq,wq=wr:=⟨_,rfl⟩;obtain⟨k,hk,rfl,bE,zV,zp,zv,cA⟩:=hrel;have aK:=AB bE;have a8:=AB zV;clear bE zV;have aH:w.heap.size<wq.heap.size:=by omega
    by_cases zY:k<N
    .go_wp2
     go_loopw [9,38] (λv i wr=>∃j:Nat,j<=c.DW.L/\i=I X j/\wr.S (wq.heap.size+2) 3 1 v (aW k j).L ((aW k j).map (I X)) /\
      (∀m,m<c.DW.L->wr.L ⟨wq.heap.size+1,m,Y⟩=J (I X ((JV c.DW k j)[m]?.LE 0))/\wr.H ⟨wq.heap.size+1,m,Y⟩=L) /\
      wr.L ⟨wq.heap.size,0,Y⟩=J (.slice (J ⟨wq.heap.size+1,0,Y⟩) c.DW.L c.DW.L)/\wr.L ⟨wq.heap.size,1,Y⟩=J (Z hA c.DR.L hc)/\Gr wq wr/\wq.heap.size+2<=wr.heap.size) (λ_ i _=>c.DW.L-(bh i).L)
     case atStart =>
      refine⟨0,by omega,rfl,Bs _ _ _ _,λm hm=>⟨?_,?_⟩,?_,?_,((Gr.refl wq).Li _).Li _,by simp⟩
      .rw[AF _ _ _ _ (by simp),el _ _ hm,eQ _ _ _ _ hm];simp
      .rw[Bt _ _ _ _ (by simp)]
      .rw[A7 _ _ _ (by simp),AF _ _ _ _ rfl];rfl
      .rw[A7 _ _ _ (by simp),AF _ _ _ _ rfl];rfl
     case round =>
      obtain⟨j,hj,rfl,zm,zW,hx0,hx1,bF,bM⟩:=hrel;have a7:=AB bF;have aB:=AB zW;clear bF zW;have bY:w.heap.size<wr.heap.size:=by omega
      have hc0i:wr.L ⟨w.heap.size,0,Y⟩=J (Z nA c.DW.L nc):=(a7.out.cell (by show w.heap.size<_;omega)).trans zp;by_cases aT:j<c.DW.L
      .obtain⟨nb,no,rfl,cB,bN⟩:=(HN.out.gr hB (a8.out.trans a7.out)).at_ aT;have HS:=AB (mM k j);have zX:=jS k j;obtain⟨aR,hfj⟩:=aB.out j aT;have aI:Hid ((bits BinOp.and X ((k:Int) / 2 ^ j) 1==1)=k.L j):=AB (wv ⟨k,by omega⟩ ⟨j,by omega⟩);obtain⟨x,hx⟩:∃x,x=c.DW[j]?.LE 0:=⟨_,rfl⟩;rw[<-hx] at bN;have HX:=AB hx;clear hx;cases hb:k.L j with
       |true =>
        rw[hb] at HS aI;have aU:=aI.out;have HB:=AB hb;clear hb;have bO:=zm.lt;go_wp2_with (at_builtin;refine jT rfl _ _ rfl (wq.heap.size+2) _ _ _ rfl ((ownsRow_setCell_below zm (by show wq.heap.size+1<_;omega) _).Li _) ⟨wr.heap.size,0,Y⟩ 1 (I X j) rfl ?c1 rfl ?c2 ?c3 ?_)
        case c2=>omega
        case c3=>(try simp);omega
        intro v' w3 hown' hgrow hd;have hG3:Gr wq w3:=((a7.out.LE (p:=⟨wq.heap.size+1,j,Y⟩) (by show _<=wq.heap.size+1;omega) _).Li _).SS hgrow hd λq hq=>by have:=(bO q hq).1;omega
        have aJ:∀b o,b<wq.heap.size+2->w3.L ⟨b,o,Y⟩=(wr.LE ⟨wq.heap.size+1,j,Y⟩ (I X x)).L ⟨b,o,Y⟩/\w3.H ⟨b,o,Y⟩=(wr.LE ⟨wq.heap.size+1,j,Y⟩ (I X x)).H ⟨b,o,Y⟩:=λb o hb=>by
         have zU:J b≠_:=dw zm (show b<wq.heap.size+2 from hb);have bP:=hgrow.Lo b (by simp[R];omega) zU;have aV:=bP.trans (ae _ _ (by simp[R];omega));exact⟨AY aV,BR aV⟩
        have aN:Hid (∀m,m<c.DW.L->w3.L ⟨wq.heap.size+1,m,Y⟩=J (I X ((JV c.DW k (j+1))[m]?.LE 0))/\w3.H ⟨wq.heap.size+1,m,Y⟩=L):=AB λm hm=>by
         obtain⟨e1,e2⟩:=aJ (wq.heap.size+1) m (by omega);refine⟨e1.trans ?_,e2.trans ((BH _ _ _ _).trans (aB.out m hm).2)⟩;by_cases aC:m=j
         .subst aC;rw[AW _ _ _ aR,mO hm,AJ HB.out,HX.out]
         .rw[AN _ _ _ _ (by simp[aC]),(aB.out m hm).1,mN hm aC]
        have H0:Hid (w3.L ⟨wq.heap.size,0,Y⟩=J (.slice (J ⟨wq.heap.size+1,0,Y⟩) c.DW.L c.DW.L)/\w3.L ⟨wq.heap.size,1,Y⟩=J (Z hA c.DR.L hc)):=AB
         ⟨(aJ _ _ (by omega)).1.trans ((AN _ _ _ _ (by simp)).trans hx0),(aJ _ _ (by omega)).1.trans ((AN _ _ _ _ (by simp)).trans hx1)⟩
        have aX:Hid (w3.S (wq.heap.size+2) 3 1 v' (aW k (j+1)).L ((aW k (j+1)).map (I X))):=AB (by rw[HS.out];simpa using hown');have aL:=AB hG3;have hz3:wq.heap.size+2<=w3.heap.size:=by have:=hgrow.size;simp[R] at this;omega
        clear hown' hgrow hd hG3 aJ aR hfj zm hx0 hx1 aU;go_wp2;go_roundw
        case rel=>exact⟨j+1,by omega,by go_num,aX.out,aN.out,H0.out.1,H0.out.2,aL.out,hz3⟩
        case measure=>simp[Proofs.intOf];omega
       |false =>
        rw[hb] at HS aI;have aU:=aI.out;have HB:=AB hb;clear hb;have aN:Hid (∀m,m<c.DW.L->wr.L ⟨wq.heap.size+1,m,Y⟩=J (I X ((JV c.DW k (j+1))[m]?.LE 0))/\wr.H ⟨wq.heap.size+1,m,Y⟩=L):=AB λm hm=>by
         refine⟨?_,(aB.out m hm).2⟩;by_cases aC:m=j
         .subst aC;rw[aR,mO hm,tX hm,AE (by rw[HB.out];simp)]
         .rw[(aB.out m hm).1,mN hm aC]
        have aX:Hid (wr.S (wq.heap.size+2) 3 1 _ (aW k (j+1)).L ((aW k (j+1)).map (I X))):=AB (by rw[HS.out];simpa using zm);have bQ:=AB hx0;have bR:=AB hx1;clear zm aR hfj hx0 hx1;go_wp2;go_roundw
        case rel=>exact⟨j+1,by omega,by go_num,aX.out,aN.out,bQ.out,bR.out,a7.out,bM⟩
        case measure=>simp[Proofs.intOf];omega
      .have aY:j=c.DW.L:=by omega
       clear aT hj;have zk:(KO c k).DW.L=c.DW.L:=jm _ _ _
       have bG:RI wr wr.heap.size (J ⟨wq.heap.size+1,0,Y⟩) (KO c k).DW:=λ_=>⟨_,0,rfl,by omega,λm y hm=>by
        have bS:m<c.DW.L:=by rw[<-zk];exact(Bd.1 hm).1
        rw[AU,(aB.out m bS).1,aY];have:(KO c k).DW=JV c.DW k c.DW.L:=rfl
        rw[<-this,hm];rfl⟩
       have HST : Hid (bk DP 95 #[.agg #[.slice (J ⟨wq.heap.size + 1, 0, Y⟩) c.DW.L c.DW.L, Z hA c.DR.L hc]] wr fun e w' => e = .L (.S (J ⟨wr.heap.size + 1, 0, Y⟩)) ∧ Gr wr w' ∧ ∃ g cap, wr.heap.size + 2 <= g ∧
         FZ w' (Ob wr.heap.size (wr.heap.size+1) g) (wr.heap.size+1) (KO c k) (Ex c.DR.L) (J ⟨wq.heap.size+1,0,Y⟩) hA c.DW.L hc g cap):=AB (by
        have:=jR (J ⟨wq.heap.size+1,0,Y⟩) hA c.DW.L hc (KO c k) wr wr.heap.size (AD _) bG (((HH.out.keep λb o hb=>(a8.out.trans a7.out).cell (AI hb hB))).more (by have:=(a8.out.trans a7.out).size;omega)) aP.out.h4;unfold EG at this;rw[zk] at this
        exact this.LT λe w' ⟨h1,h2,g,cap,h3,h4,_⟩=>⟨h1,h2,g,cap,h3,h4⟩)
       have hown2:=zm;rw[aY] at hown2;have hrow:∃A c',u9=Z A (aW k c.DW.L).L c'/\IU wr (λb=>b≠w2.heap.size/\b<wr.heap.size) A (aW k c.DW.L):=by
        obtain⟨A,c',e,h⟩:=RI.Fw hown2;refine⟨A,c',e,λzU=>?_⟩;obtain⟨b,o,e2,hb,zt⟩:=h zU;refine⟨b,o,e2,⟨?_,hb⟩,zt⟩;have:=(hown2.lt b (by rw[e,e2];rfl)).1;omega
       obtain⟨A,c',rfl,aZ⟩:=hrow;have bI:=AB aZ;clear bG hown2 zm aZ;go_wp2_with fail;refine HST.out.LT ?_;rintro e w3 ⟨rfl,zH,g3,cap3,hg3l,hK3⟩;have aL:=AB zH;have b5:=AB (rM (c:=KO c k) w3 (wn aP.out k) hK3);clear zH hK3 HST;obtain⟨v,hv⟩:∃v,v=isSome (KO c k):=⟨_,rfl⟩;rw[<-hv] at b5;have HV:=AB hv;clear hv;cases v with
       |true =>
        go_wp2_with fail;refine b5.out.LT ?_;rintro e w4 ⟨rfl,hg4⟩;have a6:=AB (a7.out.trans (aL.out.trans hg4))
        have bT:Hid (JD w4 w2.heap.size (FM c (k+1))):=AB (by
         have:FM c (k+1)=FM c k:=by show(if _ then _ else _)=_;rw[AJ HV.out.LT]
         rw[this];exact aK.out.gr a6.out)
        clear hg4;go_wp2;go_roundw
        case rel=>exact⟨k+1,by omega,by go_num,bT.out,a8.out.trans a6.out,(a6.out.cell aH).trans zp,(a6.out.cell aH).trans zv,by have:=a6.out.size;omega⟩
        case measure=>simp[Proofs.intOf];omega
       |false =>
        go_wp2_with fail;refine b5.out.LT ?_;rintro e w4 ⟨rfl,hg4⟩;have a6:=AB (a7.out.trans (aL.out.trans hg4));have aO:=aL.out.trans hg4
        have b6:=AB (wm w2.heap.size A c' (aW k c.DW.L) (FM c k) w4 (aK.out.gr a6.out) (λzU=>by
         obtain⟨b,o,e2,hb,zt⟩:=bI.out zU
         exact⟨b,o,e2,⟨hb.1,AI hb.2 aO.size⟩,λi y hy=>(aO.cell (p:=⟨b,o+i,Y⟩) hb.2).trans (zt i y hy)⟩) (by have:=jS k c.DW.L;omega))
        clear hg4 aO;go_wp2_with fail;refine b6.out.LT ?_;rintro e w5 ⟨rfl,aM,b7⟩
        have bU:Hid (JD w5 w2.heap.size (FM c (k+1))):=AB (by
         have:FM c (k+1)=J (KN (FM c k) (aW k c.DW.L)):=by show(if _ then _ else _)=_;rw[AE (by rw[<-HV.out];simp)]
         rw[this];exact b7)
        have bV:=AB (KT.gr (a8.out.trans a6.out) aM (by rintro b rfl;omega));have cC:=a6.out.size;have Lu:w5.L ⟨w.heap.size,0,Y⟩=J (Z nA c.DW.L nc):=(aM.cell (p:=⟨w.heap.size,0,Y⟩) (by show w.heap.size<_;omega) (by show w.heap.size≠_;omega)).trans ((a6.out.cell aH).trans zp);have bW:w5.L ⟨w.heap.size,1,Y⟩=J (Z hA c.DR.L hc):=(aM.cell (p:=⟨w.heap.size,1,Y⟩) (by show w.heap.size<_;omega) (by show w.heap.size≠_;omega)).trans ((a6.out.cell aH).trans zv)
        have cD:=aM.size;clear aM b7 b6;go_wp2;go_roundw
        case rel=>exact⟨k+1,by omega,by go_num,bU.out,bV.out,Lu,bW,by omega⟩
        case measure=>simp[Proofs.intOf];omega
    .have bX:k=N:=by omega
     subst bX;have b8:Hid (FM c (2 ^ c.DW.L)=FM c k):=AB (by rw[<-HNN.out]);obtain⟨o,ho⟩:∃o,o=FM c k:=⟨_,rfl⟩;rw[<-ho] at aK b8;clear ho zY;cases o with
     |none =>
      obtain⟨d0,d1,d2,d3,df,dl⟩:=Gk aK.out;go_wp2;go_ret2;refine⟨a8.out,?_⟩;rw[AE (by simp[HE.out]),AE (by rw[<-HV.out];simp),b8.out];exact⟨Y,0,rfl,.nil⟩
     |some b =>
      obtain⟨bA,bc,hkb,hbl,zT⟩:=aK.out;obtain⟨d0,d1,d2,d3,df,dl⟩:=Gk hkb;have HRK:=AB zT;clear hkb zT;go_wp2;go_ret2;refine⟨a8.out,?_⟩;rw[AE (by simp[HE.out]),AE (by rw[<-HV.out];simp),b8.out];exact⟨bA,bc,rfl,IU.ri HRK.out λb hb=>hb.2⟩
 .rw[AE hE] at aF;subst aF;have HE:=AB hE;obtain⟨k,hk⟩:∃k,k=Es c:=⟨_,rfl⟩;rw[<-hk] at hE ⊢;have HK:=AB hk;clear hk zJ aD;go_wp2;go_ret2;refine⟨aS.out.trans aA.out,?_⟩;rw[AJ HE.out];show Ending.returned (.tuple #[.slice Y 0 0,I X k])=_;rw[HK.out]
def Eo (c:Eb)(ls:List (List Int)):Int :=
 if Es c≠0 then Es c else if Fc ls.L c.DW.L c.DW.L≠0 then Fc ls.L c.DW.L c.DW.L else bE (ls.map λl=>Gs l c.DR.L)
def DY (ls:List (List Int)):EK:=λi=>K3 (ls[i]?.LE [])
def I3 {w:U}{b:Nat}{r:EK}(h:∀i,i<5->w.L ⟨b,i,Y⟩=J (.int .u8 (r i))) :
  w.L ⟨b,0,Y⟩=J (.int .u8 (r 0))/\w.L ⟨b,1,Y⟩=J (.int .u8 (r 1))/\w.L ⟨b,2,Y⟩=J (.int .u8 (r 2))/\w.L ⟨b,3,Y⟩=J (.int .u8 (r 3))/\w.L ⟨b,4,Y⟩=J (.int .u8 (r 4)) :=
 ⟨h 0 (by omega),h 1 (by omega),h 2 (by omega),h 3 (by omega),h 4 (by omega)⟩
def Gl (w:U)(b:Nat)(v0 v1 v2 v3 v4:C):World:=((((w.LE ⟨b,0,Y⟩ v0).LE ⟨b,1,Y⟩ v1).LE ⟨b,2,Y⟩ v2).LE ⟨b,3,Y⟩ v3).LE ⟨b,4,Y⟩ v4
def bP {w:U}{b:Nat}{r:EK}(h:∀i,i<5->w.L ⟨b,i,Y⟩=J (.int .u8 (r i)))(v0 v1 v2 v3 v4:C) :
  (Gl w b v0 v1 v2 v3 v4).L ⟨b,0,Y⟩=J v0/\(Gl w b v0 v1 v2 v3 v4).L ⟨b,1,Y⟩=J v1/\(Gl w b v0 v1 v2 v3 v4).L ⟨b,2,Y⟩=J v2/\(Gl w b v0 v1 v2 v3 v4).L ⟨b,3,Y⟩=J v3/\(Gl w b v0 v1 v2 v3 v4).L ⟨b,4,Y⟩=J v4:=by
 have ne:∀(W:U) (i j:Nat) (v:C),i≠j->(W.LE ⟨b,i,Y⟩ v).L ⟨b,j,Y⟩=W.L ⟨b,j,Y⟩:=λW i j v a6=>AN _ _ _ _ (by simp[bb a6]);obtain⟨h0,h1,h2,h3,h4⟩:=I3 h;unfold Gl;refine⟨?_,?_,?_,?_,?_⟩
 .rw[ne _ _ _ _ (by decide),ne _ _ _ _ (by decide),ne _ _ _ _ (by decide),ne _ _ _ _ (by decide)];exact AW _ _ _ h0
 .rw[ne _ _ _ _ (by decide),ne _ _ _ _ (by decide),ne _ _ _ _ (by decide)];exact AW _ _ _ (by rw[ne _ _ _ _ (by decide)];exact h1)
 .rw[ne _ _ _ _ (by decide),ne _ _ _ _ (by decide)];exact AW _ _ _ (by rw[ne _ _ _ _ (by decide),ne _ _ _ _ (by decide)];exact h2)
 .rw[ne _ _ _ _ (by decide)];exact AW _ _ _ (by rw[ne _ _ _ _ (by decide),ne _ _ _ _ (by decide),ne _ _ _ _ (by decide)];exact h3)
 .exact AW _ _ _ (by rw[ne _ _ _ _ (by decide),ne _ _ _ _ (by decide),ne _ _ _ _ (by decide),ne _ _ _ _ (by decide)];exact h4)
def jU (w:U)(b:Nat)(v0 v1 v2 v3 v4:C){k:Nat}(hk:k≠b):(Gl w b v0 v1 v2 v3 v4).heap[k]?=w.heap[k]?:=by
 unfold Gl;rw[AP _ _ _ _ (by exact hk),AP _ _ _ _ (by exact hk),AP _ _ _ _ (by exact hk),AP _ _ _ _ (by exact hk),AP _ _ _ _ (by exact hk)]
def dN {w0 w:U}{b:Nat}(h:Gr w0 w)(hb:w0.heap.size<=b)(v0 v1 v2 v3 v4:C):Gr w0 (Gl w b v0 v1 v2 v3 v4):=((((h.LE (p:=⟨b,0,Y⟩) hb v0).LE (p:=⟨b,1,Y⟩) hb v1).LE (p:=⟨b,2,Y⟩) hb v2).LE (p:=⟨b,3,Y⟩) hb v3).LE (p:=⟨b,4,Y⟩) hb v4
def lg (w:U)(b:Nat)(v0 v1 v2 v3 v4:C):(Gl w b v0 v1 v2 v3 v4).heap.size=w.heap.size:=by simp[Gl,R]
def yl (nA hA:Option H)(nc hc:Nat)(c:Eb)(ls:List (List Int))(B:Nat)(w:U)(e:ek)(w':U):Prop :=
 Gr w w' ∧ if Eo c ls = 0 then ∃ cb g cap, e = .L (.tuple #[.S (J ⟨cb, 0, Y⟩), ET (DY ls), I X 0]) ∧ w.heap.size <= cb ∧ cb < g ∧ FZ w' (Ob B cb g) cb c (Ex c.DR.L) nA hA nc hc g cap
   else ∃(p:C) (r:EK),e=.L (.tuple #[p,ET r,I X (Eo c ls)])
structure FW (nA hA:Option H)(nc hc:Nat)(c:Eb)(K:Nat->Prop)(cb g cap:Nat)(w:U)(r:EK)(wr:U):Prop where
 x5:∀i,i<5->wr.L ⟨w.heap.size+1,i,Y⟩=J (.int .u8 ((λ_=>0:EK) i:Nat))
 f5:∀i,i<5->wr.H ⟨w.heap.size+1,i,Y⟩=L
 x7:∀i,i<5->wr.L ⟨w.heap.size+2,i,Y⟩=J (.int .u8 (r i:Nat))
 f7:∀i,i<5->wr.H ⟨w.heap.size+2,i,Y⟩=L
 c0:wr.L ⟨w.heap.size,0,Y⟩=J (Z nA c.DW.L nc)
 c1:wr.L ⟨w.heap.size,1,Y⟩=J (Z hA c.DR.L hc)
 K:FZ wr K cb c (Ex c.DR.L) nA hA nc hc g cap
 gr:Gr w wr
def FW.SS {nA hA:Option H}{nc hc:Nat}{c:Eb}{K:Nat->Prop}{cb g cap:Nat}{w wr:U}{r:EK}(h:FW nA hA nc hc c K cb g cap w r wr)(hK:¬K (w.heap.size+2)){k x:Nat}(hk:k<5) :
  FW nA hA nc hc c K cb g cap w (upd r k x) (wr.LE ⟨w.heap.size+2,k,Y⟩ (.int .u8 (x:Int))):=by
 have ho:∀b o,b≠w.heap.size+2->(wr.LE ⟨w.heap.size+2,k,Y⟩ (.int .u8 (x:Int))).L ⟨b,o,Y⟩=wr.L ⟨b,o,Y⟩:=λb o hb=>AN _ _ _ _ (λe=>hb (AZ Addr.block e).LT);refine⟨λi hi=>(ho _ _ (by omega)).trans (h.x5 i hi),λi hi=>(BH _ _ _ _).trans (h.f5 i hi),λi hi=>?_,λi hi=>(BH _ _ _ _).trans (h.f7 i hi),(ho _ _ (by omega)).trans h.c0,(ho _ _ (by omega)).trans h.c1,h.K.keep (by simp[R]) λb o hb=>ho b o λe=>hK (e▸hb),h.gr.LE (by show _<=w.heap.size+2;omega) _⟩
 unfold upd;by_cases e:i=k
 .subst e;rw[AJ rfl];exact AW _ _ _ (h.x7 i hi)
 .rw[AE e];exact(AN _ _ _ _ (by simp[e])).trans (h.x7 i hi)
def FW.fin {nA hA:Option H}{nc hc:Nat}{c:Eb}{K:Nat->Prop}{cb g cap:Nat}{w wr:U}{r:EK}(h:FW nA hA nc hc c K cb g cap w r wr)(hK:¬K (w.heap.size+1))(v0 v1 v2 v3 v4:C) :
  FZ (Gl wr (w.heap.size+1) v0 v1 v2 v3 v4) K cb c (Ex c.DR.L) nA hA nc hc g cap/\Gr w (Gl wr (w.heap.size+1) v0 v1 v2 v3 v4) :=
 ⟨h.K.keep (by rw[lg];exact AD _) λb o hb=>AY (jU _ _ _ _ _ _ _ λe=>hK (e▸hb)),dN h.gr (by omega) _ _ _ _ _⟩
def _root_.Go.Sq.FZ.drew {w:U}{K:Nat->Prop}{cb:Nat}{c:Eb}{sets:List Nat}{nA hA:Option H}{nc hc sb sc:Nat}(h:FZ w K cb c sets nA hA nc hc sb sc):FZ w.drew K cb c sets nA hA nc hc sb sc :=
 h.keep (AD _) λ_ _ _=>rfl
def Gm (ls:List (List Int))(k:Nat):EK:=λi=>if i<k then K3 (ls[i]?.LE []) else 0
def tY (ls:List (List Int))(k:Nat):upd (Gm ls k) k (K3 (ls[k]?.LE []))=Gm ls (k+1):=by
 funext i;unfold upd Gm;by_cases e:i=k
 .subst e;rw[AJ rfl,AJ (by omega)]
 .rw[AE e];by_cases h:i<k
  .rw[AJ h,AJ (by omega)]
  .rw[AE h,AE (by omega)]
def tZ (ls:List (List Int)):Gm ls ls.L=DY ls:=by
 funext i;unfold Gm DY;by_cases h:i<ls.L
 .rw[AJ h]
 .rw[AE h,BV (by omega)];rfl
def jV (ls:List (List Int))(n:Int){i:Nat}(hi:i<ls.L):(ls.map λl=>Gs l n)[i]?.LE 0=Gs (ls[i]?.LE []) n:=by simp[hi]
def mP (nA hA gA:Option H)(nc hc gc:Nat)(c:Eb)(ls:List (List Int))(w:U)(B:Nat)(hB:B<=w.heap.size)(hn:RI w B nA c.DW)(hh:FY w B hA c.DR)(hg:FX w B gA ls)
  (aW:c.DW.L<=4611686018427387904) (zC:c.DR.L<=4611686018427387904) (aP:∀h∈c.DR,h.off.L<=4611686018427387904) (b6:ls.L<=4611686018427387904) (zr:∀x∈ls,x.L<=4611686018427387904) :
  bk DP 55 #[EG nA hA c nc hc,Z gA ls.L gc] w (yl nA hA nc hc c ls B w):=by
 have HG:=AB hg;have HL4:=AB zr;unfold EG;obtain⟨W0,zM⟩:∃W0:U,W0=((w.Li (O #[Z nA c.DW.L nc,Z hA c.DR.L hc] 27)).Li (O #[.int .u8 0,.int .u8 0,.int .u8 0,.int .u8 0,.int .u8 0] 115)).Li (O #[.int .u8 0,.int .u8 0,.int .u8 0,.int .u8 0,.int .u8 0] 115):=⟨_,rfl⟩;have zL:Gr w W0:=zM▸(((Gr.refl w).Li _).Li _).Li _;have zF:W0.heap.size=w.heap.size+3:=by rw[zM];simp
 have HW:=AB zM;have aG:=AB (kG nA hA nc hc c W0 B (by omega) (hn.gr hB zL) (hh.keep λb o hb=>zL.cell (AI hb hB)) aW zC aP);have aK:=AB zL;have hcm:W0.L ⟨w.heap.size,0,Y⟩=J (Z nA c.DW.L nc)/\W0.L ⟨w.heap.size,1,Y⟩=J (Z hA c.DR.L hc):=by
  rw[zM];constructor
  all_goals rw[A7 _ _ _ (by simp;omega),A7 _ _ _ (by simp),AF _ _ _ _ rfl];rfl
 have aQ:=AB hcm;have aR:∀i,i<5->W0.L ⟨w.heap.size+1,i,Y⟩=J (.int .u8 ((λ_=>0:EK) i:Nat))/\W0.L ⟨w.heap.size+2,i,Y⟩=J (.int .u8 ((λ_=>0:EK) i:Nat))/\W0.H ⟨w.heap.size+1,i,Y⟩=L/\W0.H ⟨w.heap.size+2,i,Y⟩=false:=λi hi=>by
  rw[zM,A7 _ _ _ (by simp),Cm _ _ _ (by simp),AF _ _ _ _ (by simp),AF _ _ _ _ (by simp),Bt _ _ _ _ (by simp),Bt _ _ _ _ (by simp)]
  match i,hi with
  |0,_=>exact⟨rfl,rfl,rfl,rfl⟩
  |1,_=>exact⟨rfl,rfl,rfl,rfl⟩
  |2,_=>exact⟨rfl,rfl,rfl,rfl⟩
  |3,_=>exact⟨rfl,rfl,rfl,rfl⟩
  |4,_=>exact⟨rfl,rfl,rfl,rfl⟩
 have aS:=AB aR;clear zM zL hn hh hg zr aP hcm aR;go_enter Sq.func55,Tryz.ntmps55;unfold EG at aG;go_wp2_with fail;rw[<-HW.out];refine aG.out.LT ?_;rintro e w1 ⟨zJ,aH⟩;have a6:=AB zJ;by_cases hE:Es c=0
 .rw[AJ hE] at aH;obtain⟨cb,g,cap,rfl,hcb,aX,hK,_⟩:=aH;have HK:=AB hK;have HE:=AB hE;have aT:=AB (Eb.Ok.of hE);have aN:¬Ob B cb g (w.heap.size+2)/\¬Ob B cb g (w.heap.size+1):=by unfold Ob;omega
  have aJ:=AB aN;have b7:=aT.out.n5;have b8:=aT.out.h4;have hfw:FW nA hA nc hc c (Ob B cb g) cb g cap w (Gm ls 0) w1:=by
   have h5:∀i,i<5->w1.L ⟨w.heap.size+1,i,Y⟩=J (.int .u8 ((λ_=>0:EK) i:Nat))/\w1.L ⟨w.heap.size+2,i,Y⟩=J (.int .u8 ((λ_=>0:EK) i:Nat))/\w1.H ⟨w.heap.size+1,i,Y⟩=L/\w1.H ⟨w.heap.size+2,i,Y⟩=false:=λi hi=>by
    obtain⟨a,b,c,d⟩:=aS.out i hi;exact⟨(a6.out.cell (by show w.heap.size+1<_;omega)).trans a,(a6.out.cell (by show w.heap.size+2<_;omega)).trans b,(a6.out.frozen (by show w.heap.size+1<_;omega)).trans c,(a6.out.frozen (by show w.heap.size+2<_;omega)).trans d⟩
   exact⟨λi hi=>(h5 i hi).1,λi hi=>(h5 i hi).2.2.1,λi hi=>by rw[(h5 i hi).2.1];simp[Gm],λi hi=>(h5 i hi).2.2.2,(a6.out.cell (by show w.heap.size<_;omega)).trans aQ.out.1,(a6.out.cell (by show w.heap.size<_;omega)).trans aQ.out.2,hK,aK.out.trans zJ⟩
  clear zJ hK aG hE aN;have a7:=AB hfw;have zp:=hfw.c0;have zv:=hfw.c1;clear hfw;by_cases hM:Fc ls.L c.DW.L c.DW.L=0
  .have zk:c.DW.L=ls.L:=by have:=dK.1 hM;omega
   have HM:=AB hM;have HF:=AB (show Eo c ls=bE (ls.map λl=>Gs l c.DR.L) by unfold Eo;rw[AE (by simp[HE.out]),AE (by simp[hM])]);have aL:bk DP 56 #[I X ls.L,I X c.DW.L,I X c.DW.L] w1 λe w'=>e=.L (I X 0)/\w1=w':=by rw[<-hM];exact il _ _ _ _
   have aB:=AB aL;have HLEN:=AB zk;have b9:ls.L<=5:=by omega
   clear hM aL zk;go_wp2_with (go_at_call 56;refine aB.out.LT ?_;rintro e w' ⟨rfl,rfl⟩);go_loopw [38] (λi wr=>∃k:Nat,k<=ls.L/\i=I X k/\FW nA hA nc hc c (Ob B cb g) cb g cap w (Gm ls k) wr/\∀j,j<k->Gs (ls[j]?.LE []) c.DR.L=0) (λi _=>ls.L-(bh i).L)
   case atStart=>exact⟨0,by omega,rfl,a7.out,λj hj=>AH hj (by omega)⟩
   case round =>
    obtain⟨k,hk,rfl,hfw,hz⟩:=hrel;have a8:=AB hfw;have HZ:=AB hz;have zp:=hfw.c0;have zv:=hfw.c1;obtain⟨a0,a1,a2,a3,a4⟩:=I3 hfw.x5;obtain⟨b0,b1,b2,b3,b4⟩:=I3 hfw.x7;have c0:=hfw.f5 0 (by omega);have c1:=hfw.f5 1 (by omega);have c2:=hfw.f5 2 (by omega);have c3:=hfw.f5 3 (by omega);have c4:=hfw.f5 4 (by omega);have aC:=AB (bP hfw.x5);clear hfw hz;by_cases zY:k<ls.L
    .obtain⟨b,o,A',c',rfl,hb,aY,aM⟩:=(HG.out.gr hB a8.out.gr).at_ zY;have hx:=HL4.out _ (gn ls k zY);have HA:=AB (jV ls c.DR.L zY);have HU:=AB (tY ls k);generalize ls[k]?.LE []=l at aY aM hx HA HU;have aI:=AB (i6 A' c' l c.DR.L wr B aM hx (by omega) (by omega));have aO:=AB aM;clear aM;by_cases hE:Gs l c.DR.L=0
     .rw[hE] at aI;have aU:=Ku hE;have aV:=AB (Ry A' c' l wr B aO.out hx λx hx=>by have:=aU.1 x hx;omega);have aZ:Hid (∀j,j<k+1->Gs (ls[j]?.LE []) c.DR.L=0):=AB λj hj=>by
       obtain h|h:=BP j k
       .exact HZ.out j h
       .have:j=k:=by omega
        subst this;have:=HA.out;rw[hE] at this;rw[<-jV ls _ zY];exact this
      have HF3:Hid (FW nA hA nc hc c (Ob B cb g) cb g cap w (Gm ls (k+1)) (wr.LE ⟨w.heap.size+2,k,Y⟩ (.int .u8 (K3 l:Int)))):=AB (by rw[<-HU.out];exact a8.out.SS aJ.out.1 (by omega));have bA:=a8.out.f7 k (by omega);have bB:=a8.out.x7 k (by omega);clear aU hE HU HA aO HZ;generalize K3 l=x at aV HF3;clear a8 a0 a1 a2 a3 a4 b0 b1 b2 b3 b4 c0 c1 c2 c3 c4 aC;go_wp2_with (first|(go_at_call 77;refine aI.out.LT ?_;rintro e w' ⟨rfl,rfl⟩)|(go_at_call 103;refine aV.out.LT ?_;rintro e w' ⟨rfl,rfl⟩))
      go_roundw
      case rel=>exact⟨k+1,by omega,by go_num,HF3.out,aZ.out⟩
      case measure=>simp[Proofs.intOf];omega
     .have aD := Lib.hid (show Eo c ls = Gs l c.DR.L by
       rw[HF.out,ce (k:=k) (by simpa using zY) (λi hi=>by rw[jV ls _ (by omega)];exact HZ.out i hi) (by rw[HA.out];exact hE),HA.out])
      have aF:=AB hE;clear hE HU HA aO HZ;generalize Gs l c.DR.L=q at aI aD aF;have hqe:(q != 0)=true:=by simp[aF.out]
      go_wp2_with (go_at_call 77;refine aI.out.LT ?_;rintro e w' ⟨rfl,rfl⟩);have aA:=AB (a8.out.fin aJ.out.2 (.int .u8 (Gm ls k 0:Nat)) (.int .u8 (Gm ls k 1:Nat)) (.int .u8 (Gm ls k 2:Nat)) (.int .u8 (Gm ls k 3:Nat)) (.int .u8 (Gm ls k 4:Nat))).2;go_region
      all_goals
       go_wp2;obtain⟨s0,s1,s2,s3,s4⟩:=aC.out (.int .u8 (Gm ls k 0:Nat)) (.int .u8 (Gm ls k 1:Nat)) (.int .u8 (Gm ls k 2:Nat)) (.int .u8 (Gm ls k 3:Nat)) (.int .u8 (Gm ls k 4:Nat));unfold Gl at s0 s1 s2 s3 s4;refine G (v:=.tuple #[.S Y,ET (Gm ls k),I X q]) (by simp[results,cd,go_sem,ET,s0,s1,s2,s3,s4]) rfl ⟨?_,?_⟩
       .first|exact aA.out|exact aA.out.drew
       .rw[AE (aD.out▸aF.out),aD.out];exact⟨_,_,rfl⟩
    .have b5:k=ls.L:=by omega
     subst b5;clear zY;rw[tZ] at a8 b0 b1 b2 b3 b4;obtain⟨HFK,aA⟩:Hid (FZ (Gl wr (w.heap.size+1) (.int .u8 (DY ls 0:Nat)) (.int .u8 (DY ls 1:Nat)) (.int .u8 (DY ls 2:Nat)) (.int .u8 (DY ls 3:Nat)) (.int .u8 (DY ls 4:Nat))) (Ob B cb g) cb c (Ex c.DR.L) nA hA nc hc g cap)/\Hid (Gr w (Gl wr (w.heap.size+1) (.int .u8 (DY ls 0:Nat)) (.int .u8 (DY ls 1:Nat)) (.int .u8 (DY ls 2:Nat)) (.int .u8 (DY ls 3:Nat)) (.int .u8 (DY ls 4:Nat)))):=⟨AB (a8.out.fin aJ.out.2 _ _ _ _ _).1,AB (a8.out.fin aJ.out.2 _ _ _ _ _).2⟩
     have HZZ:=AB (show Eo c ls=0 by
      rw[HF.out];exact dU λi hi=>by
       have hi':i<ls.L:=by simpa using hi
       rw[jV ls _ hi'];exact HZ.out i hi')
     go_wp2;go_region
     all_goals
      go_wp2;obtain⟨s0,s1,s2,s3,s4⟩:=aC.out (.int .u8 (DY ls 0:Nat)) (.int .u8 (DY ls 1:Nat)) (.int .u8 (DY ls 2:Nat)) (.int .u8 (DY ls 3:Nat)) (.int .u8 (DY ls 4:Nat));unfold Gl at s0 s1 s2 s3 s4;refine G (v:=.tuple #[.S (J ⟨cb,0,Y⟩),ET (DY ls),I X 0]) (by simp[results,cd,go_sem,ET,s0,s1,s2,s3,s4]) rfl ⟨?_,?_⟩
      .first|exact aA.out|exact aA.out.drew
      .rw[AJ HZZ.out];exact⟨cb,g,cap,rfl,by omega,aX,by first|exact HFK.out|exact HFK.out.drew⟩
  .have aD:=AB (show Eo c ls=Fc ls.L c.DW.L c.DW.L by unfold Eo;rw[AE (by simp[HE.out]),AJ hM]);have aF:=AB hM;have aB:=AB (il ls.L c.DW.L c.DW.L w1);clear hM;generalize Fc ls.L c.DW.L c.DW.L=q at aD aF aB;have hqe:(q != 0)=true:=by simp[aF.out]
   obtain⟨a0,a1,a2,a3,a4⟩:=I3 a7.out.x5;obtain⟨b0,b1,b2,b3,b4⟩:=I3 a7.out.x7;have c0:=a7.out.f5 0 (by omega);have c1:=a7.out.f5 1 (by omega);have c2:=a7.out.f5 2 (by omega);have c3:=a7.out.f5 3 (by omega);have c4:=a7.out.f5 4 (by omega);have bC:=a7.out.c0;have bD:=a7.out.c1;have aC:=AB (bP a7.out.x5);have aA:=AB (a7.out.fin aJ.out.2 (.int .u8 (Gm ls 0 0:Nat)) (.int .u8 (Gm ls 0 1:Nat)) (.int .u8 (Gm ls 0 2:Nat)) (.int .u8 (Gm ls 0 3:Nat)) (.int .u8 (Gm ls 0 4:Nat))).2
   go_wp2_with (go_at_call 56;refine aB.out.LT ?_;rintro e w' ⟨rfl,rfl⟩);go_region
   all_goals
    go_wp2;obtain⟨s0,s1,s2,s3,s4⟩:=aC.out (.int .u8 (Gm ls 0 0:Nat)) (.int .u8 (Gm ls 0 1:Nat)) (.int .u8 (Gm ls 0 2:Nat)) (.int .u8 (Gm ls 0 3:Nat)) (.int .u8 (Gm ls 0 4:Nat));unfold Gl at s0 s1 s2 s3 s4;refine G (v:=.tuple #[.S Y,ET (Gm ls 0),I X q]) (by simp[results,cd,go_sem,ET,s0,s1,s2,s3,s4]) rfl ⟨?_,?_⟩
    .first|exact aA.out|exact aA.out.drew
    .rw[AE (aD.out▸aF.out),aD.out];exact⟨_,_,rfl⟩
 .rw[AE hE] at aH;subst aH;have HF:=AB (show Eo c ls=Es c by unfold Eo;rw[AJ hE]);have h5:∀i,i<5->w1.L ⟨w.heap.size+1,i,Y⟩=J (.int .u8 ((λ_=>0:EK) i:Nat))/\w1.L ⟨w.heap.size+2,i,Y⟩=J (.int .u8 ((λ_=>0:EK) i:Nat))/\w1.H ⟨w.heap.size+1,i,Y⟩=L/\w1.H ⟨w.heap.size+2,i,Y⟩=false:=λi hi=>by
   obtain⟨a,b,c,d⟩:=aS.out i hi;exact⟨(a6.out.cell (by show w.heap.size+1<_;omega)).trans a,(a6.out.cell (by show w.heap.size+2<_;omega)).trans b,(a6.out.frozen (by show w.heap.size+1<_;omega)).trans c,(a6.out.frozen (by show w.heap.size+2<_;omega)).trans d⟩
  obtain⟨a0,b0,c0,d0⟩:=h5 0 (by omega);obtain⟨a1,b1,c1,d1⟩:=h5 1 (by omega);obtain⟨a2,b2,c2,d2⟩:=h5 2 (by omega);obtain⟨a3,b3,c3,d3⟩:=h5 3 (by omega);obtain⟨a4,b4,c4,d4⟩:=h5 4 (by omega);have aC:=AB (bP (w:=w1) (b:=w.heap.size+1) (r:=λ_=>0) (λi hi=>(h5 i hi).1) (.int .u8 0) (.int .u8 0) (.int .u8 0) (.int .u8 0) (.int .u8 0));have HE:=AB hE;clear h5 aG zJ;obtain⟨k,hk⟩:∃k,k=Es c:=⟨_,rfl⟩;rw[<-hk] at hE ⊢
  have HK:=AB hk;clear hk;go_wp2;go_region
  all_goals
   go_wp2;obtain⟨s0,s1,s2,s3,s4⟩:=aC.out;unfold Gl at s0 s1 s2 s3 s4;refine G (v:=.tuple #[.S Y,.agg #[.int .u8 0,.int .u8 0,.int .u8 0,.int .u8 0,.int .u8 0],I X k]) (by simp[results,cd,go_sem,s0,s1,s2,s3,s4]) rfl ⟨?_,?_⟩
   .first|exact(dN (aK.out.trans a6.out) (by omega) _ _ _ _ _)|exact(dN (aK.out.trans a6.out) (by omega) _ _ _ _ _).drew|exact(dN (aK.out.trans a6.out).drew (by omega) _ _ _ _ _)
   .rw[HF.out,HK.out,AE HE.out];exact⟨_,λ_=>0,rfl⟩
def iL:Es (EH [3,2,4])=0:=by decide +kernel
def t7:(GY (DY [[0,1],[1],[]]) (EJ (JU (EH [3,2,4]) 2 0) (Ex 3) 3 GI 0)).map (λp=>((S 3).map λi=>wl (p.1 i),p.2))=J (E1,3):=by decide +kernel
def lO:Es (EH [3,2,5])=0:=by decide +kernel
def jW:isSome (EH [3,2,5])=false:=by decide +kernel
def p7:FM (EH [3,2,5]) 8=J [1,2]:=by decide +kernel
abbrev Ec:Eb:=EH [3,2,4]
def Gd (i:Nat):Nat:=(Ex 3)[i]?.LE 0
def Fq (x:Nat):EK:=λj=>if j=0 then x else 0
def Od (i:Nat):Int:=(F4 Ec (Fq (Gd i)) 0).1
def ID:∀i,i<8->(Od i=0↔i=1\/i=4):=by decide +kernel
def p8:EJ Ec (Ex 3) 2 (Fq (Gd 4)) 1=[]:=by
 have:(EJ Ec (Ex 3) 2 (Fq (Gd 4)) 1).L=0:=by decide +kernel
 exact Bf this
def p9:(EJ Ec (Ex 3) 2 (Fq (Gd 1)) 1).L=1:=by decide +kernel
def jn:∀x∈Ex 3,Ec.LT x:=λx hx=>mI 3 (by decide) x hx
def gt (i:Nat)(hi:i<8):∀j,Ec.LT (Fq (Gd i) j):=by
 intro j;unfold Fq;split
 .refine jn _ ?_;have:∀i,i<8->Gd i∈Ex 3:=by decide
  exact this i hi
 .show 0<2 ^ 3;decide
def Ou (w:U)(B:Nat)(A:Option H)(l:List Int):Prop :=
 l≠[]->∃b o,A=J ⟨b,o,Y⟩/\b<B/\∀(i:Nat) (x:Int),l[i]?=J x->w.L ⟨b,o+i*5+4,Y⟩=J (I X x)/\∃(n0 n1 n2:Int) (A:Option H) (m c:Nat),
  w.L ⟨b,o+i*5,Y⟩=J (I X n0)/\w.L ⟨b,o+i*5+1,Y⟩=J (I X n1)/\w.L ⟨b,o+i*5+2,Y⟩=J (I X n2)/\w.L ⟨b,o+i*5+3,Y⟩=J (Z A m c)
def Ou.gr {w w':U}{B:Nat}{A:Option H}{l:List Int}(h:Ou w B A l)(hB:B<=w.heap.size)(hg:Gr w w'):Ou w' B A l:=λhn=>by
 obtain⟨b,o,e,hb,hc⟩:=h hn;refine⟨b,o,e,hb,λi x hx=>?_⟩;have k:∀o,w'.L ⟨b,o,Y⟩=w.L ⟨b,o,Y⟩:=λo=>hg.cell (p:=⟨b,o,Y⟩) (AI hb hB);obtain⟨h1,n0,n1,n2,A,m,c,h2,h3,h4,h5⟩:=hc i x hx;exact⟨(k _).trans h1,n0,n1,n2,A,m,c,(k _).trans h2,(k _).trans h3,(k _).trans h4,(k _).trans h5⟩
def EM (l:List Int):Nat->Int
 |0=>-1
 |k+1=>if 0<l[k]?.LE 0/\(EM l k<0\/l[(EM l k).L]?.LE 0<l[k]?.LE 0) then k else EM l k
def jo (l:List Int)(k:Nat):-1<=EM l k/\EM l k<k:=by
 induction k with
 |zero=>simp[EM]
 |succ k ih =>
  unfold EM;split
  .omega
  .omega
def yq (A:Option H)(c:Nat)(l:List Int)(w:U)(B:Nat)(hB:B<=w.heap.size)(h:Ou w B A l)(hl:l.L<=4611686018427387904) :
  bk DP 106 #[Z A l.L c] w λe w'=>e=.L (I X (EM l l.L))/\Gr w w':=by
 have HR:=AB h;go_enter Sq.func106,Tryz.ntmps106;go_wp2;go_loopw [3,8] (λs i wr=>∃k:Nat,k<=l.L/\i=I X k/\s=I X (EM l k)/\Gr w wr) (λ_ i _=>l.L-(bh i).L)
 case atStart=>exact⟨0,by omega,rfl,rfl,.refl _⟩
 case round =>
  obtain⟨k,hk,rfl,rfl,hg⟩:=hrel;have HG:=AB hg;by_cases zY:k<l.L
  .obtain⟨b,o,e,hb,hc⟩:=HR.out.gr hB HG.out (λe=>by rw[e] at zY;simp at zY);subst e;obtain⟨c4,n0,n1,n2,A',m,c',c0,c1,c2,c3⟩:=hc k _ (AG zY)
   have HM:=AB (show EM l (k+1)=if 0<l[k]/\(EM l k<0\/l[(EM l k).L]?.LE 0<l[k]) then(k:Int) else EM l k by
    show(if _ then _ else _)=_
    rw[AG zY];rfl)
   have a7:=jo l k;have HCC:=AB hc;clear hc;have hz:=HG.out.size;generalize l[k]=x at c4 HM;by_cases hx:0<x
   .by_cases hm:EM l k<0
    .have a6:=AB (show EM l (k+1)=k by rw[HM.out,AJ ⟨hx,.inl hm⟩]);clear HM a7;generalize EM l k=q at hm a6;have a8:bw (x > 0)=true:=by simp;omega
     have aA:bw (q<0)=true:=by simp;omega
     go_wp2;go_region;go_wp2;go_roundw
     case rel=>exact⟨k+1,by omega,by go_num,AZ (Value.int .i64) a6.out.LT,(HG.out.Li _).drew⟩
     case measure=>simp[Proofs.intOf];omega
    .obtain⟨j,hj⟩:∃j:Nat,EM l k=j:=⟨(EM l k).L,by omega⟩;rw[hj] at HM hm a7 ⊢;have hjk:j<k:=by omega
     obtain⟨y4,_⟩:=HCC.out j _ (AG (show j<l.L by omega));have HY:=AB (show l[(j:Int).L]?.LE 0=l[j] by rw[Cn,AG (by omega)];rfl);generalize l[j]=y at y4 HY;have aD:j<l.L:=by omega
     have HJ:=AB hj;clear hj hm a7;have a8:bw (x > 0)=true:=by simp;omega
     have aF:bw ((j:Int)<0)=false:=by simp
     have hbl:b<wr.heap.size:=by omega
     by_cases aB:y<x
     .have a6:=AB (show EM l (k+1)=k by rw[HM.out,AJ ⟨hx,.inr (by rw[HY.out];exact aB)⟩]);have aA:bw (x > y)=true:=by simp;omega
      clear HM HY;go_wp2;go_quiet (fail);go_wp2;go_roundw
      case rel=>exact⟨k+1,by omega,by go_num,AZ (Value.int .i64) a6.out.LT,(HG.out.Li _).drewN _⟩
      case measure=>simp[Proofs.intOf];omega
     .have a6:=AB (show EM l (k+1)=j by rw[HM.out,AE (by rw[HY.out];omega)]);have aA:bw (x > y)=false:=by simp;omega
      clear HM HY;go_wp2;go_quiet (fail);go_wp2;go_roundw
      case rel=>exact⟨k+1,by omega,by go_num,AZ (Value.int .i64) a6.out.LT,(HG.out.Li _).drewN _⟩
      case measure=>simp[Proofs.intOf];omega
   .have a6:=AB (show EM l (k+1)=EM l k by rw[HM.out,AE (by omega)]);have a8:bw (x > 0)=false:=by simp;omega
    clear HM a7;generalize hq:EM l k=q at a6;clear hq;go_wp2;go_region;go_wp2;go_roundw
    case rel=>exact⟨k+1,by omega,by go_num,AZ (Value.int .i64) a6.out.LT,(HG.out.Li _).drew⟩
    case measure=>simp[Proofs.intOf];omega
  .have aC:k=l.L:=by omega
   subst aC;go_wp2;go_ret;exact⟨rfl,HG.out⟩
def Hn (n:Nat)(rs:List (Int×Int))(k:Nat):Int :=
 if Ha (rs[k]?.LE (0,0)).1 0 (n-1)=L then 3 else if Ha (rs[k]?.LE (0,0)).2 0 60=L then 1 else if(rs.LT k).any (·.1==(rs[k]?.LE (0,0)).1)=ck then 4 else 0
def cZ (n:Nat)(rs:List (Int×Int)):Int:=bE ((S rs.L).map (Hn n rs))
def bp (rs:List (Int×Int)):Nat->Nat->Int
 |0,_=>0
 |k+1,j=>if(rs[k]?.LE (0,0)).1=j then(rs[k]?.LE (0,0)).2 else bp rs k j
def E2 (n:Nat)(rs:List (Int×Int))(k:Nat):List Int:=(S n).map (bp rs k)
def dY (n:Nat)(rs:List (Int×Int))(k:Nat):(E2 n rs k).L=n:=by simp[E2]
def qc {n:Nat}{rs:List (Int×Int)}{k j:Nat}(hj:j<n):(E2 n rs k)[j]?=J (bp rs k j):=by simp[E2,hj]
def dx (c:Eb)(ls:List (List Int))(rs:List (Int×Int)):Int:=if Eo c ls≠0 then Eo c ls else cZ c.DW.L rs
def nV {n:Nat}{rs:List (Int×Int)}(h:∀k,k<rs.L->Hn n rs k=0)(k j:Nat)(hk:k<=rs.L):0<=bp rs k j/\bp rs k j<=60:=by
 induction k with
 |zero=>simp[bp]
 |succ k ih =>
  have:=h k (by omega);unfold bp;split
  .unfold Hn at this;split at this
   .omega
   .split at this
    .omega
    .rename_i h1 h2;simp[Ha] at h2;omega
  .exact ih (by omega)
def dO (n:Int)(s:List Int×List (Int×Int)):List Int×List (Int×Int) :=
 if EM s.1 s.1.L<0 then s else(s.1.SS (EM s.1 s.1.L).L (s.1[(EM s.1 s.1.L).L]?.LE 0-1),s.2++[(n,EM s.1 s.1.L)])
def Fa (n:Int)(s:List Int×List (Int×Int)):Nat->List Int×List (Int×Int)
 |0=>s
 |m+1=>dO n (Fa n s m)
def Kv (c:Eb)(r:EK)(ws:List Int)(k:Nat):Nat:=(ws[k]?.LE 0-c.F9 (r k)).L
def En (c:Eb)(r:EK)(ws:List Int):Nat->List Int×List (Int×Int)
 |0=>(c.DR.map (·.heads),[])
 |k+1=>Fa k (En c r ws k) (Kv c r ws k)
def FQ (c:Eb)(r:EK)(ws:List Int):List (Int×Int):=(En c r ws ws.L).2
def iq {n:Int}{s:List Int×List (Int×Int)}(h:EM s.1 s.1.L<0):dO n s=s:=AJ h
def qd {n:Int}{s:List Int×List (Int×Int)}(h:EM s.1 s.1.L<0)(m:Nat):Fa n s m=s:=by
 induction m with
 |zero=>rfl
 |succ m ih=>rw[Fa,ih];exact iq h
def nW {n:Int}{s:List Int×List (Int×Int)}{k m:Nat}(h:EM (Fa n s k).1 (Fa n s k).1.L<0)(hm:k<=m):Fa n s m=Fa n s k:=by
  induction m with
  | zero => obtain rfl : k = 0 := by omega
            rfl
  |succ m ih =>
    obtain h1|h1:=BP m k
    · obtain rfl:k=m+1:=by omega
      rfl
    · rw[Fa,ih h1];exact iq h
def mS {c:Eb}{r:EK}{ws:List Int}{k m:Nat}(h:EM (En c r ws k).1 (En c r ws k).1.L<0)(hm:k<=m):En c r ws m=En c r ws k:=by
  induction m with
  | zero => obtain rfl : k = 0 := by omega
            rfl
  |succ m ih =>
    obtain h1|h1:=BP m k
    · obtain rfl:k=m+1:=by omega
      rfl
    · rw[En,ih h1];exact qd h _
def nX {c:Eb}{r:EK}{ws:List Int}{k m:Nat}(hk:k<ws.L)(hm:m<=Kv c r ws k)(h:EM (Fa k (En c r ws k) m).1 (Fa k (En c r ws k) m).1.L<0):FQ c r ws=(Fa k (En c r ws k) m).2:=by
 have e:En c r ws (k+1)=Fa k (En c r ws k) m:=by rw[En];exact nW h hm
 unfold FQ;rw[mS (k:=k+1) (by rw[e];exact h) (by omega),e]
structure Ho (c:Eb)(n:Nat)(s:List Int×List (Int×Int)):Prop where
 len:s.1.L=c.DR.L
 Li:∀x∈s.1,0<=x/\x<=40
 count:s.1.Lo+s.2.L<=160
 night:∀p∈s.2,0<=p.1/\p.1<n/\0<=p.2/\p.2<c.DR.L
def rX (l:List Int)(k:Nat)(h:0<=EM l k):0<l[(EM l k).L]?.LE 0:=by
 induction k with
 |zero=>simp[EM] at h
 |succ k ih =>
  unfold EM at h ⊢;by_cases hc:0<l[k]?.LE 0/\(EM l k<0\/l[(EM l k).L]?.LE 0<l[k]?.LE 0)
  .rw[AJ hc];simpa using hc.1
  .rw[AE hc] at h ⊢;exact ih h
def wK (l:List Int)(k:Nat)(x:Int)(h:k<l.L):(l.SS k x).Lo=l.Lo-l[k]?.LE 0+x:=by
 induction l generalizing k with
 |nil=>simp at h
 |cons a l ih =>
  cases k with
  |zero=>simp;omega
  |succ k =>
   simp only[Be,List.sum_cons,Bu];rw[ih k (by simpa using h)];omega
def Ho.step {c:Eb}{n:Nat}{s:List Int×List (Int×Int)}{d:Nat}(hd:d<n)(h:Ho c n s):Ho c n (dO d s):=by
 unfold dO;split
 .exact h
 .rename_i hm;have h1:=jo s.1 s.1.L;have h2:=rX s.1 s.1.L (by omega);have hl:(EM s.1 s.1.L).L<s.1.L:=by omega
  have h3:=h.Li _ (Gh s.1 _ hl);refine⟨by simp[h.len],λx hx=>?_,?_,λp hp=>?_⟩
  .obtain h4|rfl:=C4 hx
   .exact h.Li x h4
   .omega
  .have h4:=h.count;show(s.1.SS _ _).Lo+((s.2++[((d:Int),EM s.1 s.1.L)]).L:Nat)<=160;rw[wK _ _ _ hl,B1];simp only[AQ,AT,Int.natCast_add];omega
  .obtain h4|h4:=BK.1 hp
   .exact h.night p h4
   .simp only[AM,AK,or_false] at h4;subst h4;have:=h.len;show(0:Int)<=d/\(d:Int)<n/\_/\_;omega
def Ho.it {c:Eb}{n:Nat}{s:List Int×List (Int×Int)}{d:Nat}(hd:d<n)(h:Ho c n s)(m:Nat):Ho c n (Fa d s m):=by
 induction m with
 |zero=>exact h
 |succ m ih=>exact ih.step hd
def Ho.all {c:Eb}(hc:c.Ok){r:EK}{ws:List Int}{n:Nat}(hn:ws.L<=n)(k:Nat)(hk:k<=ws.L):Ho c n (En c r ws k):=by
 induction k with
 |zero =>
  refine⟨by simp[En],λx hx=>?_,?_,λp hp=>by simp[En] at hp⟩
  .simp only[En,BO] at hx;obtain⟨h,hh,rfl⟩:=hx;have:=hc.heads h hh;omega
  .have := GL 1 40 (c.DR.map (·.heads)) fun x hx => by
    simp only[BO] at hx;obtain⟨h,hh,rfl⟩:=hx;exact hc.heads h hh
   have h4:=hc.h4;simp only[En,AT,B8] at *;omega
 |succ k ih=>exact(ih (by omega)).it (by omega) _
def lj {c:Eb}(hc:c.Ok)(r:EK)(ws:List Int):Ho c ws.L (En c r ws ws.L):=Ho.all hc (AD _) _ (AD _)
def jZ {c:Eb}(hc:c.Ok)(r:EK)(ws:List Int):(FQ c r ws).L<=160:=by
 have h:=lj hc r ws;have h1:=GL 0 40 _ h.Li;have h2:=h.count;unfold FQ;omega
def J6 (p:Int)(on:List Int)(h:Int):Nat->Int
 |0=>0
 |k+1=>J6 p on h k+if on[k]?.LE 0=h then p / on.L+(if(k:Int)<p % on.L then 1 else 0) else 0
def mT {p:Int}(hp:0<=p/\p<=99)(on:List Int)(h:Int)(k:Nat):0<=J6 p on h k/\J6 p on h k<=100*k:=by
 induction k with
 |zero=>simp[J6]
 |succ k ih =>
  have h1:0<=p / (on.L:Int):=Int.ediv_nonneg hp.1 (by omega);have h2:p / (on.L:Int)<=p:=Int.ediv_le_self _ hp.1;unfold J6;split
  .split<;>omega
  .omega
def Hp (p:Int)(r:EK)(ls:List (Int×Int))(h t:Nat):Nat->Int
 |0=>0
 |k+1=>Hp p r ls h t k+if(ls[k]?.LE (0,0)).2=t/\h≠t then J6 p (wl (r (ls[k]?.LE (0,0)).1.L)) h (wl (r (ls[k]?.LE (0,0)).1.L)).L else 0
def mU {p:Int}(hp:0<=p/\p<=99)(r:EK)(ls:List (Int×Int))(h t:Nat)(k:Nat):0<=Hp p r ls h t k/\Hp p r ls h t k<=400*k:=by
 induction k with
 |zero=>simp[Hp]
 |succ k ih =>
  have h1:=mT hp (wl (r (ls[k]?.LE (0,0)).1.L)) h (wl (r (ls[k]?.LE (0,0)).1.L)).L;have h2:=dC (r (ls[k]?.LE (0,0)).1.L);unfold Hp;split<;>omega
def L5 (n:Nat)(M:Nat->Nat->Int):List (List Int):=(S n).map λh=>(S n).map (M h)
def gv (n:Nat)(M:Nat->Nat->Int):(L5 n M).L=n:=by simp[L5]
def wL {n:Nat}{M:Nat->Nat->Int}{h:Nat}(hh:h<n):(L5 n M)[h]?=J ((S n).map (M h)):=by simp[L5,hh]
def JG (c:Eb)(r:EK)(p:Int)(ws:List Int):List (List Int):=L5 c.DR.L λh t=>Hp p r (FQ c r ws) h t (FQ c r ws).L
def Ig (M:List (List Int)):Nat->Nat->Int
 |0,_=>0
 |k+1,j=>Ig M k j-(if j=k then(M[k]?.LE []).Lo else 0)+(M[k]?.LE [])[j]?.LE 0
def Ov (M:List (List Int)):List Int:=(S M.L).map (Ig M M.L)
def wM (l:List Int)(n:Nat)(h:∀x∈l,0<=x/\x<n):K3 l<2 ^ n:=by
 have key:∀(l:List Int) (x:Nat),(∀y∈l,0<=y/\y<n)->x<2 ^ n->l.foldl (λx h=>x ||| 2 ^ h.L) x<2 ^ n:=by
  intro l
  induction l with
  |nil=>intro x _ hx;exact hx
  |cons a l ih =>
   intro x h hx;have ha:=h a CE;exact ih _ (λy hy=>h y (Cz _ hy)) (Nat.or_lt_two_pow hx (Nat.pow_lt_pow_right (by omega) (by omega)))
 exact key l 0 h (Nat.two_pow_pos n)
def ir {c:Eb}{ls:List (List Int)}(hE:Eo c ls=0)(i:Nat):c.LT (DY ls i):=by
 unfold Eo at hE;split at hE
 .rename_i h;exact AH hE h
 .split at hE
  .rename_i h;exact AH hE h
  .unfold DY Eb.LT;cases hl:ls[i]? with
   |none=>exact Nat.two_pow_pos _
   |some l =>
    have:=bO.1 hE (Gs l c.DR.L) (BO.2 ⟨l,Cc hl,rfl⟩);exact wM l _ (Ku this).1
structure Jv (w:U)(base:Nat)(v:C)(n m:Nat)(M:Nat->Nat->Int)(bl:Nat->Nat):Prop where
 row:∃xs,w.S base 22 1 v m xs/\∀h,h<m->xs[h]?=J (.slice (J ⟨bl h,0,Y⟩) n n)
 cells:∀h,h<m->base<=bl h/\∃l:Array C,w.heap[bl h]?=J (.cells l 3 (0,0))/\∀t,t<n->l[t]?=J (I X (M h t))
 inj:∀h h',h<m->h'<m->bl h=bl h'->h=h'
def DU {w:U}{b:Nat}{l:Array C}{ty:cw}(h:w.heap[b]?=J (.cells l ty (0,0)))(o:Nat):w.L ⟨b,o,Y⟩=l[o]?/\w.H ⟨b,o,Y⟩=false:=by
 unfold bq di;rw[h];simp
def rY {w:U}{base size n:Nat}{e e':cw}{v:C}{xs:List C}(h:w.S base e size v n xs)(zU:e≠e'){b:Nat}{l:Array C}(hb:w.heap[b]?=J (.cells l e' (0,0))):J b≠v.L:=λhh=>by
 obtain⟨rfl,_⟩|⟨g,cap,cur,rfl,_,k,_⟩:=h.2
 .cases hh
 .have e1:b=g:=by injection hh
  subst e1;rw[hb] at k;injection k with k
  injection k with _ k _
  exact zU k.LT
section
variable {w w':U} {base n m:Nat} {v:C} {M M':Nat->Nat->Int} {bl:Nat->Nat}
def Jv.nil (w:U)(base n:Nat)(M:Nat->Nat->Int)(bl:Nat->Nat):Jv w base (.slice Y 0 0) n 0 M bl:=⟨⟨[],Bs _ _ _ _,λh hh=>AH hh (by omega)⟩,λh hh=>AH hh (by omega),λh h' hh=>AH hh (by omega)⟩
def Jv.keep (h:Jv w base v n m M bl)(hk:∀b,base<=b->b<w.heap.size->w'.heap[b]?=w.heap[b]?):Jv w' base v n m M bl:=by
 obtain⟨xs,h1,h2⟩:=h.row;refine⟨⟨xs,aR h1 λg hg hl=>hk g (h1.lt g hg).1 hl,h2⟩,λa ha=>?_,h.inj⟩;obtain⟨c1,l,c2,c3⟩:=h.cells a ha;exact⟨c1,l,(hk _ c1 (AC.1 c2).1).trans c2,c3⟩
def Jv.gr (h:Jv w base v n m M bl)(hg:Gr w w'):Jv w' base v n m M bl:=h.keep λb _ hb=>hg.Ly.Lo b hb
def Jv.drew (h:Jv w base v n m M bl):Jv w.drew base v n m M bl:=h.keep λ_ _ _=>rfl
def Jv.congr (h:Jv w base v n m M bl)(e:∀a t,a<m->t<n->M a t=M' a t):Jv w base v n m M' bl:=by
 refine⟨h.row,λa ha=>?_,h.inj⟩;obtain⟨c1,l,c2,c3⟩:=h.cells a ha;exact⟨c1,l,c2,λt ht=>by rw[<-e a t ha ht];exact c3 t ht⟩
def Jv.at_ (h:Jv w base v n m M bl){a t:Nat}(ha:a<m)(ht:t<n):base<=bl a/\bl a<w.heap.size/\w.L ⟨bl a,t,Y⟩=J (I X (M a t))/\w.H ⟨bl a,t,Y⟩=false:=by
 obtain⟨c1,l,c2,c3⟩:=h.cells a ha;exact⟨c1,(AC.1 c2).1,(DU c2 t).1.trans (c3 t ht),(DU c2 t).2⟩
def Jv.ME {A:Option H}{k c:Nat}(h:Jv w base (Z A k c) n m M bl){a:Nat}(ha:a<m):∃g,A=J ⟨g,0,Y⟩/\g<w.heap.size/\w.L ⟨g,a,Y⟩=J (.slice (J ⟨bl a,0,Y⟩) n n):=by
 obtain⟨xs,h1,h2⟩:=h.row;obtain⟨_,h0⟩|⟨g,cap,cur,hv,k1,k2,k3⟩:=h1.2
 .omega
 .have hA:A=J ⟨g,0,Y⟩:=by injection hv
  subst hA;have:=h1.cells (g:=g) rfl a _ (h2 a ha);have e:(⟨g,0,Y⟩:H).add a=⟨g,0+a,Y⟩:=by unfold dn;split<;>simp_all
  rw[e,AU] at this;exact⟨g,rfl,(AC.1 k2).1,this⟩
def Jv.push {w1:U}{v':C}{q:Nat}{xs:List C}{z:Array C}(h:Jv w base v n m (λ_ _=>0) bl)(hr:w.S base 22 1 v m xs)(hx:∀h,h<m->xs[h]?=J (.slice (J ⟨bl h,0,Y⟩) n n))
  (hq:base<=q) (hqw:w.heap.size<=q) (h1:∀b,b<w.heap.size->w1.heap[b]?=w.heap[b]?) (hz:w1.heap[q]?=J (.cells z 3 (0,0))) (hzz:∀t,t<n->z[t]?=J (I X 0)) (hs:w.heap.size<=w1.heap.size)
  (hg:w1.O w' v.L) (a6:w'.S base 22 1 v' (m+1) (xs++[.slice (J ⟨q,0,Y⟩) n n])):Jv w' base v' n (m+1) (λ_ _=>0) (λa=>if a=m then q else bl a):=by
 have zk:xs.L=m:=by have:=hr.1;omega
 have hqv:J q≠v.L:=λe=>by have:=(hr.lt q e.LT).2;omega
 refine⟨⟨_,a6,λa ha=>?_⟩,λa ha=>?_,λa a' ha ha' e=>?_⟩
 .try dsimp only
  by_cases e:a=m
  .subst e;rw[AJ rfl,Bo (by omega),zk];simp
  .rw[AE e,Bn (by omega)];exact hx a (by omega)
 .try dsimp only
  by_cases e:a=m
  .subst e;rw[AJ rfl];exact⟨hq,z,(hg.Lo q (AC.1 hz).1 hqv).trans hz,hzz⟩
  .rw[AE e];obtain⟨c1,l,c2,c3⟩:=h.cells a (by omega);have zY:=(AC.1 c2).1;exact⟨c1,l,(hg.Lo (bl a) (by omega) (rY hr (by decide) c2)).trans ((h1 _ zY).trans c2),c3⟩
 .try dsimp only at e
  have key:∀a,a<m->bl a<w.heap.size:=λa ha=>by
   obtain⟨_,l,c2,_⟩:=h.cells a ha;exact(AC.1 c2).1
  by_cases e1:a=m
  .by_cases e2:a'=m
   .omega
   .rw[AJ e1,AE e2] at e;have:=key a' (by omega);omega
  .by_cases e2:a'=m
   .rw[AE e1,AJ e2] at e;have:=key a (by omega);omega
   .rw[AE e1,AE e2] at e;exact h.inj a a' (by omega) (by omega) e
def Jv.SS (h:Jv w base v n m M bl){a t:Nat}(ha:a<m)(ht:t<n)(y:Int)(hM:∀a' t',a'<m->t'<n->M' a' t'=if a'=a/\t'=t then y else M a' t'):Jv (w.LE ⟨bl a,t,Y⟩ (I X y)) base v n m M' bl:=by
 obtain⟨xs,h1,h2⟩:=h.row;obtain⟨c1,l,c2,c3⟩:=h.cells a ha;have hblk:∀g,g≠bl a->(w.LE ⟨bl a,t,Y⟩ (I X y)).heap[g]?=w.heap[g]?:=λg hg=>by
  rw[Go.Em.EC];exact AE hg
 refine⟨⟨xs,aR h1 λg hg _=>hblk g λe=>rY h1 (by decide) c2 (by rw[<-e];exact hg.LT),h2⟩,λa' ha'=>?_,h.inj⟩;obtain⟨d1,l',d2,d3⟩:=h.cells a' ha';by_cases e:a'=a
 .subst e;refine⟨d1,l.L t (I X y),?_,λt' a6=>?_⟩
  .rw[Go.Em.EC,AJ rfl,c2];simp[Go.Em.IB]
  .rw[hM a' t' ha' a6,B3];by_cases e2:t=t'
   .subst e2;have hl:=(AC.1 (c3 t ht)).1;simp[hl]
   .rw[AE e2,AE (λh=>e2 h.2.LT)];exact c3 t' a6
 .refine⟨d1,l',(hblk _ λe2=>e (h.inj a' a ha' ha e2)).trans d2,λt' a6=>?_⟩;rw[hM a' t' ha' a6,AE (λh=>e h.1)];exact d3 t' a6
def Jv.Oc {A:Option H}{c:Nat}(h:Jv w base (Z A m c) m m M bl):FX w w.heap.size A (L5 m M):=λhn=>by
 have hm:0<m:=by
  obtain e|e:=BJ m
  .exact AH (Bf ((gv m M).trans e)) hn
  .exact e
 obtain⟨g,rfl,hg,_⟩:=h.ME hm;refine⟨g,0,rfl,hg,λi l hl=>?_⟩;have hi:i<m:=by have:=(Bd.1 hl).1;rwa [gv] at this
 rw[wL hi] at hl;cases hl;obtain⟨g',e,_,hc⟩:=h.ME hi;have e':g'=g:=by injection e with e;injection e with e;exact e.LT
 subst e';refine⟨J ⟨bl i,0,Y⟩,m,by simpa using hc,λ_=>⟨_,0,rfl,?_,λj x hx=>?_⟩⟩
 .obtain⟨_,l,c2,_⟩:=h.cells i hi;exact(AC.1 c2).1
 .have hj:j<m:=by have:=(Bd.1 hx).1;simpa using this
  have a6:x=M i j:=by
   rw[BE,List.getElem?_range hj] at hx;exact(cu hx).LT
  rw[AU,a6];exact(h.at_ hi hj).2.2.1
end
def Ih (w:U)(B:Nat)(A:Option H)(l:List (Int×Int)):Prop :=
 l≠[]->∃b o,A=J ⟨b,o,Y⟩/\b<B/\∀(i:Nat) (x:Int×Int),l[i]?=J x->w.L ⟨b,o+i*2,Y⟩=J (I X x.1)/\w.L ⟨b,o+i*2+1,Y⟩=J (I X x.2)
def Ih.keep {w w':U}{B:Nat}{A:Option H}{l:List (Int×Int)}(h:Ih w B A l)(hk:∀b o,b<B->w'.L ⟨b,o,Y⟩=w.L ⟨b,o,Y⟩):Ih w' B A l:=λhn=>by
 obtain⟨b,o,e,hb,hc⟩:=h hn;exact⟨b,o,e,hb,λi x hx=>⟨(hk _ _ hb).trans (hc i x hx).1,(hk _ _ hb).trans (hc i x hx).2⟩⟩
def Ih.gr {w w':U}{B:Nat}{A:Option H}{l:List (Int×Int)}(h:Ih w B A l)(hB:B<=w.heap.size)(hg:Gr w w'):Ih w' B A l:=h.keep λ_ _ hb=>hg.cell (AI hb hB)
def Ih.at_ {w:U}{B:Nat}{A:Option H}{l:List (Int×Int)}(h:Ih w B A l){k:Nat}(hk:k<l.L):∃b o,A=J ⟨b,o,Y⟩/\b<B/\w.L ⟨b,o+k*2,Y⟩=J (I X (l[k]?.LE (0,0)).1)/\w.L ⟨b,o+k*2+1,Y⟩=J (I X (l[k]?.LE (0,0)).2):=by
 obtain⟨b,o,e,hb,hc⟩:=h (λe=>by rw[e] at hk;simp at hk);obtain⟨h1,h2⟩:=hc k _ (AG hk);exact⟨b,o,e,hb,by rw[AG hk];exact h1,by rw[AG hk];exact h2⟩
def wN (a b q:Int)(pb:Nat)(w:U)(hp:pb<w.heap.size)(hc:w.L ⟨pb,0,Y⟩=J (I X q)) :
  bk DP 191 #[.agg #[I X a,I X b],.S (J ⟨pb,0,Y⟩)] w λe w'=>e=.L (.bool (a==q))/\Gr w w':=by
 go_enter Sq.func191,Tryz.ntmps191;go_wp2;go_ret;exact⟨rfl,(Gr.refl w).Li _⟩
def nY (A:Option H)(c pb:Nat)(q:Int)(l:List (Int×Int))(w:U)(B:Nat)(hB:B<=w.heap.size)(h:Ih w B A l)(hl:l.L<=4611686018427387904)(hp:pb<w.heap.size)(hc:w.L ⟨pb,0,Y⟩=J (I X q)) :
  bk DP 217 #[Z A l.L c,.func (.func 191) #[] #[.S (J ⟨pb,0,Y⟩)]] w λe w'=>(∃n:Int,e=.L (I X n)/\(0<=n↔l.any (·.1==q)=ck))/\Gr w w':=by
 have HR:=AB h;go_enter Sq.func217,Tryz.ntmps217;go_wp2;go_loopw [8] (λi wr=>∃k:Nat,k<=l.L/\i=I X k/\(l.LT k).any (·.1==q)=L/\Gr w wr) (λi _=>l.L-(bh i).L)
 case atStart=>exact⟨0,by omega,rfl,by simp,.refl _⟩
 case round =>
  obtain⟨k,hk,rfl,ha,hg⟩:=hrel;have HA:=AB ha;have HG:=AB hg;by_cases zY:k<l.L
  .obtain⟨b,o,rfl,hb,h1,h2⟩:=(HR.out.gr hB HG.out).at_ zY;have HT:=AB (bu (0,0) l k zY);have HM:Hid (l[k]?.LE (0,0)∈l):=AB (by rw[AG zY];exact BU zY);generalize l[k]?.LE (0,0)=x at h1 h2 HT HM;have hz:=HG.out.size;have HC:=AB (wN x.1 x.2 q pb wr (by omega) ((HG.out.cell hp).trans hc));obtain⟨v,hv⟩:∃v,v=(x.1==q):=⟨_,rfl⟩;rw[<-hv] at HC;have HV:=AB hv;clear hv;cases v with
   |true =>
    go_wp2_with (go_at_call 191;refine HC.out.LT ?_;rintro e w2 ⟨rfl,zI⟩;have a6:=AB zI;clear zI);go_ret;refine⟨⟨k,rfl,⟨λ_=>List.any_eq_true.2 ⟨x,HM.out,HV.out.LT⟩,λ_=>by omega⟩⟩,HG.out.trans a6.out⟩
   |false =>
    go_wp2_with (go_at_call 191;refine HC.out.LT ?_;rintro e w2 ⟨rfl,zI⟩;have a6:=AB zI;clear zI);go_roundw
    case rel=>exact⟨k+1,by omega,by go_num,by rw[HT.out,List.any_append,HA.out];simp[<-HV.out],HG.out.trans a6.out⟩
    case measure=>simp[Proofs.intOf];omega
  .have a7:k=l.L:=by omega
   have HZ:=AB (show l.any (·.1==q)=L by have:=HA.out;rwa [a7,Bj (by omega)] at this);clear a7;go_wp2;go_ret;exact⟨⟨-1,rfl,by rw[HZ.out];simp⟩,HG.out⟩
def rZ (A:Option H)(c pb:Nat)(q:Int)(l:List (Int×Int))(w:U)(B:Nat)(hB:B<=w.heap.size)(h:Ih w B A l)(hl:l.L<=4611686018427387904)(hp:pb<w.heap.size)(hc:w.L ⟨pb,0,Y⟩=J (I X q)) :
  bk DP 190 #[Z A l.L c,.func (.func 191) #[] #[.S (J ⟨pb,0,Y⟩)]] w λe w'=>e=.L (.bool (l.any (·.1==q)))/\Gr w w':=by
 have HC:=AB (nY A c pb q l w B hB h hl hp hc);clear h;go_enter Sq.func190,Tryz.ntmps190;go_wp2_with fail;refine HC.out.LT ?_;rintro e w2 ⟨⟨n,rfl,hn⟩,hg⟩;have HG:=AB hg
 have HN:=AB (show bw (0<=n)=l.any (·.1==q) by
  cases hv:l.any (·.1==q) with
  |true=>simp[hn.2 hv]
  |false=>simp;have:=λh=>hn.1 h;rw[hv] at this;exact Int.not_le.1 λh=>by cases this h)
 clear hn hg;go_wp2;go_ret;exact⟨aF HN.out,HG.out⟩
def r7 {n:Nat}{rs:List (Int×Int)}(h:cZ n rs=0):∀k,k<rs.L->Hn n rs k=0:=by
 have key:∀l:List Int,bE l=0->∀x∈l,x=0:=λl h x hx=>by
  unfold bE at h;cases hf:l.find? (λx=>x != 0) with
  |none=>simpa using C5.1 hf x hx
  |some y =>
   rw[hf] at h;have:=List.find?_some hf;simp at this;exact AH h this
 intro k hk;exact key _ h _ (BO.2 ⟨k,by simpa using hk,rfl⟩)
def _root_.Go.Sq.Ih.LT {w:U}{B:Nat}{A:Option H}{l:List (Int×Int)}(h:Ih w B A l)(k:Nat):Ih w B A (l.LT k):=λhn=>by
 obtain⟨b,o,e,hb,hc⟩:=h (λe=>hn (by rw[e];simp))
 exact⟨b,o,e,hb,λi x hx=>hc i x (by
  rw[CF] at hx;split at hx
  .exact hx
  .cases hx)⟩
def qe {W:U}{cb:Nat}{c:Eb}{nA hA:Option H}{nc hc:Nat}(h:Fz W W.heap.size cb c nA hA nc hc):Fz W.drew W.drew.heap.size cb c nA hA nc hc:=(h.keep (w':=W.drew) λ_ _ _=>rfl:Fz W.drew W.heap.size cb c nA hA nc hc)
def wO {W:U}{A:Option H}{l:List Int}(h:RI W W.heap.size A l):RI W.drew W.drew.heap.size A l:=h
def oX (nA hA:Option H)(nc hc:Nat)(c:Eb)(ls:List (List Int))(rs:List (Int×Int))(w:U)(e:ek)(w':U):Prop :=
 Gr w w'/\if dx c ls rs=0 then ∃cb A k,e=.L (.tuple #[.S (J ⟨cb,0,Y⟩),ET (DY ls),Z A c.DW.L k,I X 0])/\Fz w' w'.heap.size cb c nA hA nc hc/\RI w' w'.heap.size A (E2 c.DW.L rs rs.L)
  else ∃r:EK,e=.L (.tuple #[.S Y,ET r,.slice Y 0 0,I X (dx c ls rs)])
def qg {n:Nat}{rs:List (Int×Int)}{k:Nat}(hk:k<rs.L)(hp:∀j,j<k->Hn n rs j=0)(h:Hn n rs k≠0):cZ n rs=Hn n rs k:=by
 have e:∀j,j<rs.L->((S rs.L).map (Hn n rs))[j]?.LE 0=Hn n rs j:=λj hj=>by simp[hj]
 unfold cZ;rw[ce (k:=k) (by simpa using hk) (λi hi=>by rw[e i (by omega)];exact hp i hi) (by rw[e k hk];exact h),e k hk]
def nZ {n:Nat}{rs:List (Int×Int)}(hp:∀j,j<rs.L->Hn n rs j=0):cZ n rs=0:=dU λi hi=>by
 rw[B8,List.length_range] at hi;simp[hi,hp i hi]
def n7 (nA hA gA rA:Option H)(nc hc gc rc:Nat)(c:Eb)(ls:List (List Int))(rs:List (Int×Int))(w:U)(B:Nat)(hB:B<=w.heap.size)(hn:RI w B nA c.DW)(hh:FY w B hA c.DR)(hg:FX w B gA ls)(hr:Ih w B rA rs)
  (bR:c.DW.L<=4611686018427387904) (zC:c.DR.L<=4611686018427387904) (bS:∀h∈c.DR,h.off.L<=4611686018427387904) (bT:ls.L<=4611686018427387904) (zr:∀x∈ls,x.L<=4611686018427387904) (cI:rs.L<=4611686018427387904) (cJ:rs.L<=rc) :
  bk DP 140 #[EG nA hA c nc hc,Z gA ls.L gc,Z rA rs.L rc] w (oX nA hA nc hc c ls rs w):=by
 have HR:=AB hr;unfold EG;obtain⟨W0,zM⟩:∃W0:U,W0=(w.Li (O #[Z nA c.DW.L nc,Z hA c.DR.L hc] 27)).Li (O #[.int .u8 0,.int .u8 0,.int .u8 0,.int .u8 0,.int .u8 0] 114):=⟨_,rfl⟩;have zL:Gr w W0:=zM▸((Gr.refl w).Li _).Li _;have zF:W0.heap.size=w.heap.size+2:=by rw[zM];simp
 have HW:=AB zM;have aL:=AB (mP nA hA gA nc hc gc c ls W0 B (by omega) (hn.gr hB zL) (hh.keep λb o hb=>zL.cell (AI hb hB)) (hg.gr hB zL) bR zC bS bT zr);have aM:=AB zL;have hcm:W0.L ⟨w.heap.size,0,Y⟩=J (Z nA c.DW.L nc)/\W0.L ⟨w.heap.size,1,Y⟩=J (Z hA c.DR.L hc):=by
  rw[zM];constructor
  all_goals rw[A7 _ _ _ (by simp),AF _ _ _ _ rfl];rfl
 have aS:=AB hcm;have a7:∀i,i<5->W0.L ⟨w.heap.size+1,i,Y⟩=J (.int .u8 ((λ_=>0:EK) i:Nat))/\W0.H ⟨w.heap.size+1,i,Y⟩=false:=λi hi=>by
  rw[zM,AF _ _ _ _ (by simp),Bt _ _ _ _ (by simp)]
  match i,hi with
  |0,_=>exact⟨rfl,rfl⟩
  |1,_=>exact⟨rfl,rfl⟩
  |2,_=>exact⟨rfl,rfl⟩
  |3,_=>exact⟨rfl,rfl⟩
  |4,_=>exact⟨rfl,rfl⟩
 have bD:=AB a7;go_enter Sq.func140,Tryz.ntmps140;unfold EG at aL;go_wp2_with fail;rw[<-HW.out];refine aL.out.LT ?_;rintro e w1 ⟨zJ,aC⟩;by_cases aD:Eo c ls=0
 case neg =>
  have zU:(Eo c ls != 0)=true:=by simpa using aD
  have bE:Hid (dx c ls rs=Eo c ls):=AB (AJ aD);rw[AE aD] at aC;have bF:=AB aD;obtain⟨p,r,rfl⟩:=aC;have hg1z:=zJ.size;have a7:∀i,i<5->(w1.Li (O #[.int .u8 (r 0),.int .u8 (r 1),.int .u8 (r 2),.int .u8 (r 3),.int .u8 (r 4)] 115)).L ⟨w.heap.size+1,i,Y⟩=J (.int .u8 ((λ_=>0:EK) i:Nat))/\(w1.Li (O #[.int .u8 (r 0),.int .u8 (r 1),.int .u8 (r 2),.int .u8 (r 3),.int .u8 (r 4)] 115)).H ⟨w.heap.size+1,i,Y⟩=false:=λi hi=>by
   obtain⟨a,b⟩:=bD.out i hi;have hG:=zJ.trans ((Gr.refl w1).Li (O #[.int .u8 (r 0),.int .u8 (r 1),.int .u8 (r 2),.int .u8 (r 3),.int .u8 (r 4)] 115));exact⟨(hG.cell (by show w.heap.size+1<_;omega)).trans a,(hG.frozen (by show w.heap.size+1<_;omega)).trans b⟩
  obtain⟨b0,c0⟩:=a7 0 (by omega);obtain⟨b1,c1⟩:=a7 1 (by omega);obtain⟨b2,c2⟩:=a7 2 (by omega);obtain⟨b3,c3⟩:=a7 3 (by omega);obtain⟨b4,c4⟩:=a7 4 (by omega);have a8:=AB (bP (λi hi=>(a7 i hi).1) (.int .u8 (r 0:Nat)) (.int .u8 (r 1:Nat)) (.int .u8 (r 2:Nat)) (.int .u8 (r 3:Nat)) (.int .u8 (r 4:Nat)));have aG:=AB (dN ((aM.out.trans zJ).Li (O #[.int .u8 (r 0),.int .u8 (r 1),.int .u8 (r 2),.int .u8 (r 3),.int .u8 (r 4)] 115)) (b:=w.heap.size+1) (by omega) (.int .u8 (r 0:Nat)) (.int .u8 (r 1:Nat)) (.int .u8 (r 2:Nat)) (.int .u8 (r 3:Nat)) (.int .u8 (r 4:Nat))).drew
  unfold ET;unfold Gl at aG;generalize hq:Eo c ls=e0 at zU bE bF;replace hq:=AB hq;clear a7 aD;go_wp2;go_region
  all_goals
   go_wp2;obtain⟨s0,s1,s2,s3,s4⟩:=a8.out;unfold Gl at s0 s1 s2 s3 s4;refine G (v:=.tuple #[.S Y,ET r,.slice Y 0 0,I X e0]) (by simp[results,bo,go_sem,ET,s0,s1,s2,s3,s4]) rfl ⟨aG.out,?_⟩;rw[bE.out,AE bF.out];exact⟨r,rfl⟩
 have aT:=AB aD;clear aD;rw[AJ aT.out] at aC;have bG:Hid (dx c ls rs=cZ c.DW.L rs):=AB (AE λh=>h aT.out);obtain⟨cb,g,cap,rfl,hcb,cK,hK⟩:=aC
 have bH:=AB (Eb.Ok.of (show Es c=0 by
  have:=aT.out;unfold Eo at this;split at this
  .exact AH this (by assumption)
  .simpa using ‹¬Es c≠0›))
 have cL:=bH.out.n5;have cM:=bH.out.n1;obtain⟨W1,zu⟩:∃W1:U,W1=w1.Li (O #[.int .u8 (DY ls 0),.int .u8 (DY ls 1),.int .u8 (DY ls 2),.int .u8 (DY ls 3),.int .u8 (DY ls 4)] 115):=⟨_,rfl⟩;have aU:Gr w1 W1:=zu▸(Gr.refl w1).Li _;have zE:W1.heap.size=w1.heap.size+1:=by rw[zu];simp
 have hzz:=zJ.size;have aH:Gr W0 W1:=zJ.trans aU;have aV:=AB aH;have HK:=AB hK;have bL:=AB aU;have bI:Hid (∀i,i<5->W1.L ⟨w1.heap.size,i,Y⟩=J (.int .u8 (DY ls i:Nat))):=AB λi hi=>by
  rw[zu,AF _ _ _ _ (by simp)]
  match i,hi with
  |0,_=>rfl
  |1,_=>rfl
  |2,_=>rfl
  |3,_=>rfl
  |4,_=>rfl
 have aW:Hid (∀i,i<5->W1.L ⟨w.heap.size+1,i,Y⟩=J (.int .u8 ((λ_=>0:EK) i:Nat))/\W1.H ⟨w.heap.size+1,i,Y⟩=L):=AB λi hi=>by
  obtain⟨a,b⟩:=bD.out i hi;exact⟨(aH.cell (by show w.heap.size+1<_;omega)).trans a,(aH.frozen (by show w.heap.size+1<_;omega)).trans b⟩
 have bU:Hid (W1.L ⟨w.heap.size,0,Y⟩=J (Z nA c.DW.L nc)/\W1.L ⟨w.heap.size,1,Y⟩=J (Z hA c.DR.L hc)):=AB
  ⟨(aH.cell (by show w.heap.size<_;omega)).trans aS.out.1,(aH.cell (by show w.heap.size<_;omega)).trans aS.out.2⟩
 have bV:=AB zu;have zp:w1.L ⟨w.heap.size,0,Y⟩=J (Z nA c.DW.L nc):=(zJ.cell (by show w.heap.size<_;omega)).trans aS.out.1;have cN:w.heap.size<w1.heap.size:=by omega
 have cO:=λw=>ip c.DW.L w (by omega);unfold ET;go_wp2;rw[<-bV.out];go_loopw [33] (λi wr=>∃k:Nat,k<=rs.L/\(∀j,j<k->Hn c.DW.L rs j=0)/\i=I X k/\Gr W1 wr/\W1.heap.size<wr.heap.size/\∀j,j<c.DW.L->wr.L ⟨W1.heap.size,j,Y⟩=J (I X (bp rs k j))/\wr.H ⟨W1.heap.size,j,Y⟩=L) (λi _=>rs.L-(bh i).L)
 case atStart =>
  refine⟨0,by omega,λj hj=>AH hj (BY _),rfl,(Gr.refl W1).Li _,by simp,λj hj=>⟨?_,?_⟩⟩
  .rw[AF _ _ _ _ (by simp),el _ _ hj];rfl
  .rw[Bt _ _ _ _ (by simp)]
 case round =>
  obtain⟨k,hk,aX,rfl,zV,cP,zW⟩:=hrel;have aI:=AB aX;clear aX;have aA:=AB zV;have aY:=AB zW;have zp:=(zV.cell (by show w.heap.size<_;omega)).trans bU.out.1;have cQ:=zV.size;by_cases zY:k<rs.L
  .have bJ:=AB (HR.out.gr hB (aM.out.trans (aV.out.trans aA.out)));obtain⟨b,o,rfl,hb,h1,h2⟩:=bJ.out.at_ zY;have aB:Hid (Hn c.DW.L rs k=if Ha (rs[k]?.LE (0,0)).1 0 (c.DW.L-1)=L then 3 else if Ha (rs[k]?.LE (0,0)).2 0 60=L then 1 else if(rs.LT k).any (·.1==(rs[k]?.LE (0,0)).1)=ck then 4 else 0):=AB rfl;have bM:Hid (Hn c.DW.L rs k≠0->dx c ls rs=Hn c.DW.L rs k/\dx c ls rs≠0):=AB λh=>by rw[bG.out,qg zY aI.out h];exact⟨rfl,h⟩
   have aZ:Hid (∀j:Nat,bp rs (k+1) j=if(rs[k]?.LE (0,0)).1=(j:Int) then(rs[k]?.LE (0,0)).2 else bp rs k j):=AB λj=>rfl;generalize rs[k]?.LE (0,0)=x at h1 h2 aB aZ;obtain⟨xn,xv⟩:=x;dsimp only at h1 h2 aB aZ
   have aJ : Hid (∀ (V : U) (E : Int), Gr wr V -> E ≠ 0 -> Hn c.DW.L rs k = E -> (∀ i, i < 5 -> V.L ⟨w1.heap.size, i, Y⟩ = J (.int .u8 (DY ls i : Nat))) ∧ (∀ i, i < 5 -> V.L ⟨w.heap.size + 1, i, Y⟩ = J (.int .u8 ((fun _ => 0 : EK) i : Nat)) ∧ V.H ⟨w.heap.size + 1, i, Y⟩ = L) ∧
     oX nA hA nc hc c ls rs w (.L (.tuple #[.S Y,ET (DY ls),.slice Y 0 0,I X E])) (Gl V (w.heap.size+1) (.int .u8 (DY ls 0:Nat)) (.int .u8 (DY ls 1:Nat)) (.int .u8 (DY ls 2:Nat)) (.int .u8 (DY ls 3:Nat)) (.int .u8 (DY ls 4:Nat))).drew):=AB λV E hV hE he=>by
    have aN:=aA.out.trans hV;refine⟨λi hi=>(aN.cell (by show w1.heap.size<_;omega)).trans (bI.out i hi),λi hi=>⟨(aN.cell (by show w.heap.size+1<_;omega)).trans (aW.out i hi).1,(aN.frozen (by show w.heap.size+1<_;omega)).trans (aW.out i hi).2⟩,(dN (aM.out.trans (aV.out.trans aN)) (by omega) _ _ _ _ _).drew,?_⟩;obtain⟨q1,q2⟩:=bM.out (by rw[he];exact hE);rw[AE q2,q1,he];exact⟨_,rfl⟩
   obtain⟨y1,aO⟩:∃y,y=Ha xn 0 (c.DW.L-1):=⟨_,rfl⟩;obtain⟨y2,aP⟩:∃y,y=Ha xv 0 60:=⟨_,rfl⟩;have bW:Hid (∀W,bk DP 57 #[I X xn,I X 0,I X (c.DW.L-1)] W λe w'=>e=.L (.bool y1)/\W=w'):=AB λW=>by rw[aO];exact bN _ _ _ W
   have bX:Hid (∀W,bk DP 57 #[I X xv,I X 0,I X 60] W λe w'=>e=.L (.bool y2)/\W=w'):=AB λW=>by rw[aP];exact bN _ _ _ W
   rw[<-aO,<-aP] at aB;have bY:=AB aO;have HY2:=AB aP;clear aO aP;obtain⟨W2,zn⟩:∃W2:U,W2=wr.Li (O #[I X xn,I X xv] 107):=⟨_,rfl⟩;have zI:Gr wr W2:=zn▸(Gr.refl wr).Li _;have zD:W2.heap.size=wr.heap.size+1:=by rw[zn];simp
   have aQ:W2.L ⟨wr.heap.size,0,Y⟩=J (I X xn)/\W2.L ⟨wr.heap.size,1,Y⟩=J (I X xv):=by
    rw[zn,AF _ _ _ _ rfl,AF _ _ _ _ rfl];exact⟨rfl,rfl⟩
   have b5:=AB aQ;have aR:=AB zI;have bZ:=AB zn;have hwr:w.heap.size<wr.heap.size:=by omega
   have cR:((k:Nat):Int)<=(rc:Int):=by omega
   have e20:=aQ.1;have e21:=aQ.2;have e2c:=(zI.cell (p:=⟨w.heap.size,0,Y⟩) (by show w.heap.size<_;omega)).trans zp;clear aQ zI zn;go_wp2_with fail;rw[<-bZ.out];refine(bW.out _).LT ?_;rintro e w' ⟨rfl,rfl⟩;cases y1 with
   |false =>
    obtain⟨aw,zw,a6⟩:=aJ.out W2 3 aR.out (by decide) (by rw[aB.out];rfl);obtain⟨a0,a1,a2,a3,a4⟩:=I3 (w:=W2) (b:=w1.heap.size) (r:=DY ls) aw;obtain⟨b0,c0⟩:=zw 0 (by omega);obtain⟨b1,c1⟩:=zw 1 (by omega);obtain⟨b2,c2⟩:=zw 2 (by omega);obtain⟨b3,c3⟩:=zw 3 (by omega);obtain⟨b4,c4⟩:=zw 4 (by omega);have a8:=AB (bP (λi hi=>(zw i hi).1) (.int .u8 (DY ls 0:Nat)) (.int .u8 (DY ls 1:Nat)) (.int .u8 (DY ls 2:Nat)) (.int .u8 (DY ls 3:Nat)) (.int .u8 (DY ls 4:Nat)))
    unfold Gl at a6;replace a6:=AB a6;clear aw zw;go_wp2;go_region
    all_goals
     go_wp2;obtain⟨s0,s1,s2,s3,s4⟩:=a8.out;unfold Gl at s0 s1 s2 s3 s4;exact G (v:=.tuple #[.S Y,ET (DY ls),.slice Y 0 0,I X 3]) (by simp[results,bo,go_sem,ET,s0,s1,s2,s3,s4]) rfl a6.out
   |true =>
   go_wp2_with fail;refine(bX.out _).LT ?_;rintro e w' ⟨rfl,rfl⟩;cases y2 with
   |false =>
    obtain⟨aw,zw,a6⟩:=aJ.out W2 1 aR.out (by decide) (by rw[aB.out];rfl);obtain⟨a0,a1,a2,a3,a4⟩:=I3 (w:=W2) (b:=w1.heap.size) (r:=DY ls) aw;obtain⟨b0,c0⟩:=zw 0 (by omega);obtain⟨b1,c1⟩:=zw 1 (by omega);obtain⟨b2,c2⟩:=zw 2 (by omega);obtain⟨b3,c3⟩:=zw 3 (by omega);obtain⟨b4,c4⟩:=zw 4 (by omega);have a8:=AB (bP (λi hi=>(zw i hi).1) (.int .u8 (DY ls 0:Nat)) (.int .u8 (DY ls 1:Nat)) (.int .u8 (DY ls 2:Nat)) (.int .u8 (DY ls 3:Nat)) (.int .u8 (DY ls 4:Nat)))
    unfold Gl at a6;replace a6:=AB a6;clear aw zw;go_wp2;go_region
    all_goals
     go_wp2;obtain⟨s0,s1,s2,s3,s4⟩:=a8.out;unfold Gl at s0 s1 s2 s3 s4;exact G (v:=.tuple #[.S Y,ET (DY ls),.slice Y 0 0,I X 1]) (by simp[results,bo,go_sem,ET,s0,s1,s2,s3,s4]) rfl a6.out
   |true =>
   have r1:=bY.out.LT;obtain⟨j,rfl⟩:∃j:Nat,xn=j:=⟨xn.L,by simp[Ha] at r1;omega⟩;have c5:j<c.DW.L:=by simp[Ha] at r1;omega
   clear r1;have aK:=rZ (J ⟨b,o,Y⟩) rc wr.heap.size j (rs.LT k) W2 B (by omega) ((bJ.out.LT k).gr (by omega) aR.out) (by simp;omega) (by omega) b5.out.1;have cA:(rs.LT k).L=k:=by simp;omega
   obtain⟨y3,b6⟩:∃y,y=(rs.LT k).any (·.1==(j:Int)):=⟨_,rfl⟩;rw[cA,<-b6] at aK;rw[<-b6] at aB;have bO:=AB aK;clear aK b6;go_wp2_with fail;refine bO.out.LT ?_;rintro e w3 ⟨rfl,zH⟩;have aF:=aR.out.trans zH;have cB:=AB aF;have hz3:=zH.size;have d0:w3.L ⟨wr.heap.size,0,Y⟩=J (I X j):=(zH.cell (by show wr.heap.size<_;omega)).trans b5.out.1;have d1:w3.L ⟨wr.heap.size,1,Y⟩=J (I X xv):=(zH.cell (by show wr.heap.size<_;omega)).trans b5.out.2
   have b7:∀i,i<c.DW.L->w3.L ⟨W1.heap.size,i,Y⟩=J (I X (bp rs k i))/\w3.H ⟨W1.heap.size,i,Y⟩=false:=λi hi=>⟨(aF.cell (by show W1.heap.size<_;omega)).trans (aY.out i hi).1,(aF.frozen (by show W1.heap.size<_;omega)).trans (aY.out i hi).2⟩;have bK:=AB b7;obtain⟨e1,e2⟩:=b7 j c5;rw[zE] at e1 e2;cases y3 with
   |true =>
    clear e1 e2;obtain⟨aw,zw,a6⟩:=aJ.out w3 4 cB.out (by decide) (by rw[aB.out];rfl);obtain⟨a0,a1,a2,a3,a4⟩:=I3 (w:=w3) (b:=w1.heap.size) (r:=DY ls) aw;obtain⟨b0,c0⟩:=zw 0 (by omega);obtain⟨b1,c1⟩:=zw 1 (by omega);obtain⟨b2,c2⟩:=zw 2 (by omega);obtain⟨b3,c3⟩:=zw 3 (by omega);obtain⟨b4,c4⟩:=zw 4 (by omega);have a8:=AB (bP (λi hi=>(zw i hi).1) (.int .u8 (DY ls 0:Nat)) (.int .u8 (DY ls 1:Nat)) (.int .u8 (DY ls 2:Nat)) (.int .u8 (DY ls 3:Nat)) (.int .u8 (DY ls 4:Nat)))
    unfold Gl at a6;replace a6:=AB a6;clear aw zw;go_wp2;go_region
    all_goals
     go_wp2;obtain⟨s0,s1,s2,s3,s4⟩:=a8.out;unfold Gl at s0 s1 s2 s3 s4;exact G (v:=.tuple #[.S Y,ET (DY ls),.slice Y 0 0,I X 4]) (by simp[results,bo,go_sem,ET,s0,s1,s2,s3,s4]) rfl a6.out
   |false =>
   have bQ:Hid (∀i,i<c.DW.L->(w3.LE ⟨w1.heap.size+1,j,Y⟩ (I X xv)).L ⟨W1.heap.size,i,Y⟩=J (I X (bp rs (k+1) i))/\(w3.LE ⟨w1.heap.size+1,j,Y⟩ (I X xv)).H ⟨W1.heap.size,i,Y⟩=L):=AB λi hi=>by
    rw[BH,aZ.out];refine⟨?_,(bK.out i hi).2⟩;rw[zE];by_cases e:i=j
    .subst e;rw[AW _ _ _ e1,AJ rfl]
    .rw[AN _ _ _ _ (by simp[bb e]),AE (by omega)];have:=(bK.out i hi).1
     rwa [zE] at this
   have cC:Hid (Gr W1 (w3.LE ⟨w1.heap.size+1,j,Y⟩ (I X xv))):=AB ((aA.out.trans aF).LE (p:=⟨w1.heap.size+1,j,Y⟩) (by show _<=w1.heap.size+1;omega) _);go_wp2;go_roundw
   case rel => exact ⟨k + 1, by omega, fun j' hj' => by
     by_cases e:j'=k
     .subst e;rw[aB.out];rfl
     .exact aI.out j' (by omega),by go_num,cC.out,by simp[R];omega,bQ.out⟩
   case measure=>simp[Proofs.intOf];omega
  .have cD:k=rs.L:=by omega
   subst cD
   have cE:∀W:U,wr.heap.size<=W.heap.size->(∀o,W.L ⟨w1.heap.size+1,o,Y⟩=wr.L ⟨w1.heap.size+1,o,Y⟩)->RI W W.heap.size (J ⟨w1.heap.size+1,0,Y⟩) (E2 c.DW.L rs rs.L):=λW hW hk _=>⟨_,0,rfl,by omega,λi x hx=>by
    have hi:i<c.DW.L:=by have:=(Bd.1 hx).1;rwa [dY] at this
    rw[qc hi] at hx;cases hx;rw[AU,hk,<-zE]
    exact(aY.out i hi).1⟩
   have cF:=AB cE;have cG:∀W:U,wr.heap.size<=W.heap.size->(∀b o,b≠w.heap.size+1->W.L ⟨b,o,Y⟩=wr.L ⟨b,o,Y⟩)->Fz W W.heap.size cb c nA hA nc hc:=λW hW hk =>
    (HK.out.keep (w':=W) (by omega) λb o hb=>(hk b o λe=>by rcases hb with h|h|h<;>omega).trans ((bL.out.trans aA.out).cell (p:=⟨b,o,Y⟩) (HK.out.lt b hb))).NP
   have cH:=AB cG;have b8:=AB (λ(b o:Nat) (hb:b≠w.heap.size+1)=>AY (a:=⟨b,o,Y⟩) (jU wr (w.heap.size+1) (.int .u8 (DY ls 0:Nat)) (.int .u8 (DY ls 1:Nat)) (.int .u8 (DY ls 2:Nat)) (.int .u8 (DY ls 3:Nat)) (.int .u8 (DY ls 4:Nat)) hb));have b9:=AB (lg wr (w.heap.size+1) (.int .u8 (DY ls 0:Nat)) (.int .u8 (DY ls 1:Nat)) (.int .u8 (DY ls 2:Nat)) (.int .u8 (DY ls 3:Nat)) (.int .u8 (DY ls 4:Nat)))
   obtain⟨a0,a1,a2,a3,a4⟩:=I3 (w:=wr) (b:=w1.heap.size) (r:=DY ls) λi hi=>(aA.out.cell (by show w1.heap.size<_;omega)).trans (bI.out i hi);have a7:∀i,i<5->wr.L ⟨w.heap.size+1,i,Y⟩=J (.int .u8 ((λ_=>0:EK) i:Nat))/\wr.H ⟨w.heap.size+1,i,Y⟩=false:=λi hi=>by
    obtain⟨a,b⟩:=aW.out i hi;exact⟨(aA.out.cell (by show w.heap.size+1<_;omega)).trans a,(aA.out.frozen (by show w.heap.size+1<_;omega)).trans b⟩
   obtain⟨b0,c0⟩:=a7 0 (by omega);obtain⟨b1,c1⟩:=a7 1 (by omega);obtain⟨b2,c2⟩:=a7 2 (by omega);obtain⟨b3,c3⟩:=a7 3 (by omega);obtain⟨b4,c4⟩:=a7 4 (by omega);have a8:=AB (bP (λi hi=>(a7 i hi).1) (.int .u8 (DY ls 0:Nat)) (.int .u8 (DY ls 1:Nat)) (.int .u8 (DY ls 2:Nat)) (.int .u8 (DY ls 3:Nat)) (.int .u8 (DY ls 4:Nat)));have aG:=AB (dN (aM.out.trans (aV.out.trans aA.out)) (b:=w.heap.size+1) (by omega) (.int .u8 (DY ls 0:Nat)) (.int .u8 (DY ls 1:Nat)) (.int .u8 (DY ls 2:Nat)) (.int .u8 (DY ls 3:Nat)) (.int .u8 (DY ls 4:Nat)))
   obtain⟨Wf,hWf⟩:∃Wf:U,Wf=Gl wr (w.heap.size+1) (.int .u8 (DY ls 0:Nat)) (.int .u8 (DY ls 1:Nat)) (.int .u8 (DY ls 2:Nat)) (.int .u8 (DY ls 3:Nat)) (.int .u8 (DY ls 4:Nat)):=⟨_,rfl⟩;rw[<-hWf] at b8 b9 aG;have bA:=AB (qe (cH.out Wf (B9 b9.out.LT) b8.out));have bB:=AB (wO (cF.out Wf (B9 b9.out.LT) λo=>b8.out _ o (by omega)));have bC:=AB aG.out.drew;rw[hWf] at bC bA bB
   unfold Gl at bC bA bB;go_wp2;go_region
   all_goals
    go_wp2;obtain⟨s0,s1,s2,s3,s4⟩:=a8.out;unfold Gl at s0 s1 s2 s3 s4;refine G (v:=.tuple #[.S (J ⟨cb,0,Y⟩),ET (DY ls),.slice (J ⟨w1.heap.size+1,0,Y⟩) c.DW.L c.DW.L,I X 0]) (by simp[results,bo,go_sem,ET,s0,s1,s2,s3,s4]) rfl ⟨bC.out,?_⟩;rw[bG.out,AJ (nZ aI.out)];exact⟨cb,_,_,rfl,bA.out,bB.out⟩
def ua (nA hA gA rA:Option H)(nc hc gc rc:Nat)(c:Eb)(ls:List (List Int))(rs:List (Int×Int))(w:U)(B:Nat)(hB:B<=w.heap.size)(hn:RI w B nA c.DW)(hh:FY w B hA c.DR)(hg:FX w B gA ls)(hr:Ih w B rA rs)
  (a6:c.DW.L<=4611686018427387904) (zC:c.DR.L<=4611686018427387904) (a7:∀h∈c.DR,h.off.L<=4611686018427387904) (a8:ls.L<=4611686018427387904) (zr:∀x∈ls,x.L<=4611686018427387904) (aA:rs.L<=4611686018427387904) (aB:rs.L<=rc)
  (hF:Eo c ls=0) (hR:cZ c.DW.L rs=0) :
  bk DP 140 #[EG nA hA c nc hc,Z gA ls.L gc,Z rA rs.L rc] w λe w'=>Gr w w'/\∃cb A k,e=.L (.tuple #[.S (J ⟨cb,0,Y⟩),ET (DY ls),Z A c.DW.L k,I X 0]) /\
   Fz w' w'.heap.size cb c nA hA nc hc/\RI w' w'.heap.size A (E2 c.DW.L rs rs.L):=by
 refine(n7 nA hA gA rA nc hc gc rc c ls rs w B hB hn hh hg hr a6 zC a7 a8 zr aA aB).LT ?_;rintro e w' ⟨h1,h2⟩;rw[AJ (show dx c ls rs=0 by unfold dx;rw[AE (λh=>h hF)];exact hR)] at h2;exact⟨h1,h2⟩
end Go.Sq
