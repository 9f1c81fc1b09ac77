/- Parts of the proof. -/
import Derived.Test.YtgllajjoinefcaaGreatP09
set_option linter.all false
set_option maxHeartbeats 6400000
set_option maxRecDepth 1000000
open Go.Value renaming int->Z,slice->F,pointer->O
open Go.IntKind renaming i64->Y,signed->G,wrap->bb,bits->bc
open Option renaming some->U,none->I
open Go renaming World->E,Value->bh,bodyPost_end->bo,results_none->bq,wpOps_cons->br,Calls->bw,Addr->cq,bodyPost_ret->cE,run_underlying->cK,TypeId->dn,info_parts->ek,Exit->fq,Operand->fu,typeInfo->fW,Oper->gg
open Go.Obj renaming cells->L
open List renaming range'->bk,length_pos_iff->dt,prefix_refl->ez
open Go.Code renaming region->bl
open Go.Proofs renaming intOf->bn
open Bool renaming false->bW,true->cd
open Go.World renaming cell?->cf,frozen?->ea,setCell->eV
open Go.Instr renaming typeAssert->cu
open Go.Addr renaming add_lit->cw
open Go.Proofs.Tryz renaming ntmps75->cF,f42->cU,ntmps113->dy,results218->eA,results194->eC,results151->eF,results73->eG,results74->eH,results43->eT,ntmps117->e5,ntmps150->e9,ntmps218->fc,ntmps194->fl,ntmps151->fo,ntmps73->fx,ntmps74->fz
open Decidable renaming decide->df
open Go.Builtin renaming append_->di,copy_->ed,firstCells->eo,lenOf->e6
open Go.Exit renaming jump->dr
open Array renaming getD->Array.LE,setIfInBounds->Array.L
open Eq renaming symm->Eq.LT
open Go renaming underlying->Go.LT
open Go.Addr renaming block->Go.Addr.Lo
open Go.BoundsCode renaming toNat->Go.BoundsCode.L
open Go.Calls renaming mono->Go.Calls.LT
open Go.Code renaming block->Go.Code.Lo
open Go.Ending renaming returned->Go.Ending.L
open Go.Instr renaming alloc->Go.Instr.Li
open Go.Op renaming alloc->Go.Op.Li
open Go.Program renaming funcs->Go.Program.L,underlying->Go.Program.LT
open Go.Proofs.Tryz renaming underlying33->Go.Proofs.Tryz.Ly
open Go.RowKit.Below renaming block->Go.RowKit.Below.Lo
open Go.TypeDesc renaming pointer->Go.TypeDesc.S
open Go.Value renaming ownBlock->Go.Value.L,pointer->Go.Value.S
open Go.World renaming alloc->Go.World.Li,cell?->Go.World.L,frozen?->Go.World.H,grownBy->Go.World.O,ownsRow->Go.World.S,setCell->Go.World.LE
open Go.World.ownsRow renaming alloc->Go.World.ownsRow.Li
open Int renaming toNat->Int.L
open List renaming below->List.Ly,length->List.L,set->List.SS,take->List.LT,toArray->List.Li
open Nat renaming below->Nat.Ly
open Ne renaming symm->Ne.LT
open Option renaming getD->Option.LE,isNone->Option.L
open UInt8 renaming toNat->UInt8.L
namespace Go.Sq
open Go.RowKit
def PT:bh->Nat
 |.slice _ n _=>n
 |_=>0
def nz (w:E)(K:Nat->Prop)(A:Option cq)(l:List EE):Prop :=
 l≠[]->∃b o,A=U ⟨b,o,I⟩/\K b/\∀i c,l[i]?=U c->NA w b (o+i*5) c
structure ED (w0:E)(hb B:Nat)(A:Option cq)(cap:Nat)(l:List Int)(M base eb:Nat)(pts bend:Int)(lA:Option cq)(ls:List Int)(v:bh)(cs:List EE)(W:E):Prop where
 hand:Hand W hb B A cap l M
 Fy:W.heap[eb]?=U (L #[i64 pts,i64 bend,v] 31 (0,0))
 Gf:W.heap[w0.heap.size]?=U (L #[i64 0,i64 0,.slice I 0 0] 31 (0,0))
 LE:W.S base 83 5 v cs.L (Je cs)
 row:IU W (λb=>b≠hb/\b≠eb/\b<base) lA ls
 kt:KT (·=hb) w0 W
 lt:hb<w0.heap.size
 bs:w0.heap.size<eb/\eb<base/\base<=W.heap.size
section
variable {w0 W W':E} {hb B:Nat} {A lA:Option cq} {cap:Nat} {l ls:List Int} {M M' base eb:Nat} {pts bend:Int} {v:bh} {cs:List EE}
def ED.Gb (h:ED w0 hb B A cap l M base eb pts bend lA ls v cs W)(hh:Hand W' hb B A cap l M')(k:KT (·=hb) W W'):ED w0 hb B A cap l M' base eb pts bend lA ls v cs W':=by
 have h1:=h.lt;have h2:=h.bs;exact⟨hh,(k.Lo _ (AC.1 h.Fy).1 (by omega)).trans h.Fy,(k.Lo _ (AC.1 h.Gf).1 (by omega)).trans h.Gf,da h.LE (by omega) k,h.row.keep λb o hb'=>k.cell (p:=⟨b,o,I⟩) (by show b<_;have:=hb'.2.2;omega) hb'.1,h.kt.trans k,h1,h2.1,h2.2.1,by have:=k.size;omega⟩
def ED.more (h:ED w0 hb B A cap l M base eb pts bend lA ls v cs W)(hm:M<=M'):ED w0 hb B A cap l M' base eb pts bend lA ls v cs W:=⟨h.hand.more hm,h.Fy,h.Gf,h.LE,h.row,h.kt,h.lt,h.bs⟩
def ED.cell (h:ED w0 hb B A cap l M base eb pts bend lA ls v cs W):W.L ⟨eb,0,I⟩=U (Z Y pts)/\W.L ⟨eb,1,I⟩=U (Z Y bend)/\W.L ⟨eb,2,I⟩=U v/\W.H ⟨eb,2,I⟩=bW/\eb<W.heap.size:=⟨(DU h.Fy 0).1,(DU h.Fy 1).1,(DU h.Fy 2).1,(DU h.Fy 2).2,(AC.1 h.Fy).1⟩
end
open Go.Proofs
open Go.Em
section
variable {w0 W W':E} {hb B:Nat} {A lA:Option cq} {cap:Nat} {l ls:List Int} {M M' base eb:Nat} {pts bend:Int} {v:bh} {cs:List EE}
def xf (h:ED w0 hb B A cap l M base eb pts bend lA ls v cs W){w6:E}{v':bh}{c:EE}(zm:w6.S base 83 5 v' (cs.L+1) (Je cs++Mm c))(hg:W.O w6 v.L)(hd:W.drawn<=w6.drawn) :
  ED w0 hb B A cap l M base eb pts bend lA ls v' (cs++[c]) (w6.LE ⟨eb,2,I⟩ v'):=by
 have zY:=h.lt;obtain⟨b1,b2,b3⟩:=h.bs;have hq:=(cW h.LE hg eb (by omega) (AC.1 h.Fy).1).trans h.Fy;have hr:=(cW h.LE hg w0.heap.size (by omega) (AC.1 h.Gf).1).trans h.Gf;have hz:=hg.size;have e:Je (cs++[c])=Je cs++Mm c:=by rw[ut];simp[Je]
 have hown2:w6.S base 83 5 v' (cs++[c]).L (Je (cs++[c])):=by rw[e,B1];exact zm
 refine⟨(lC h.hand h.LE (by omega) hg).SS (by show hb<eb;omega) _,Eh hq,(AP _ _ _ _ (by show w0.heap.size≠eb;omega)).trans hr,ownsRow_setCell_below hown2 (by show eb<base;omega) _,h.row.keep λb o' hb'=>?_,(pm h.kt h.LE (by omega) hg hd).SS (by show _<=eb;omega) _,zY,b1,b2,by simp[eV];omega⟩;rw[AN _ _ _ _ (by intro e;cases e;exact hb'.2.1 rfl)];exact AY (cW h.LE hg b hb'.2.2 (by omega))
def PU (h:ED w0 hb B A cap l M base eb pts bend lA ls v cs W):∃cA k,v=F cA cs.L k/\∀X,X=((W.LE ⟨w0.heap.size,0,I⟩ (i64 pts)).LE ⟨w0.heap.size,1,I⟩ (i64 bend)).LE ⟨w0.heap.size,2,I⟩ v->X.heap[w0.heap.size]?=U (L #[i64 pts,i64 bend,v] 31 (0,0))/\nz X (λb=>w0.heap.size<=b/\b<X.heap.size) cA cs/\Hand X hb B A cap l M/\KH hb w0 X:=by
 have zY:=h.lt;obtain⟨b1,b2,b3⟩:=h.bs;obtain⟨cA,k,rfl,a6⟩:=F3.Fw h.LE;refine⟨cA,k,rfl,?_⟩;rintro X rfl;have e1:=Eh (u:=i64 pts) (i:=0) h.Gf;have e2:=Eh (u:=i64 bend) (i:=1) e1;have e3:=Eh (u:=F cA cs.L k) (i:=2) e2;refine⟨e3,λhn=>?_,((h.hand.SS (p:=⟨w0.heap.size,0,I⟩) zY _).SS (p:=⟨w0.heap.size,1,I⟩) zY _).SS (p:=⟨w0.heap.size,2,I⟩) zY _,((h.kt.SS (p:=⟨w0.heap.size,0,I⟩) (AD _) _).SS (p:=⟨w0.heap.size,1,I⟩) (AD _) _).SS (p:=⟨w0.heap.size,2,I⟩) (AD _) _⟩
 obtain⟨b,o,e,hbl,hc⟩:=a6 hn;subst e;have a7:base<=b:=by
  obtain⟨hz,_⟩|⟨g,cap,cur,hz,hg,_⟩:=h.LE.2
  .cases hz
  .cases hz;exact hg
 refine⟨b,o,rfl,⟨by omega,by simp[eV];omega⟩,λi c hi=>(hc i c hi).keep λo=>?_⟩;exact((AY (AP _ _ _ _ (by show b≠w0.heap.size;omega))).trans (AY (AP _ _ _ _ (by show b≠w0.heap.size;omega)))).trans (AY (AP _ _ _ _ (by show b≠w0.heap.size;omega)))
end
def PV (hb B:Nat)(A:Option cq)(cap:Nat)(l:List Int)(M n:Nat)(v:bh)(w:E):Prop:=(∃c,v=O6 c/\EE.Ok n c)/\Hand w hb B A cap l M
def Ae {hb B cap N eb base pts c n:Nat}{A rA:Option cq}{l rs:List Int}{xs:List bh}{v:bh}{W:E}{u:Nat->bh}{Q:fq->Act->E->Prop}(h0:u 0=.S (U ⟨hb,0,I⟩))(h7:u 7=.S (U ⟨eb,0,I⟩))(h8:u 8=F rA rs.L c)(hh:Hand W hb B A cap l N)(hN:N<=90000)
  (hp:1<=pts/\pts<=4) (a7:pts<=rs.L) (a8:∀x∈rs,0<=x/\x<=9) (hbase:base<=W.heap.size) (aA:eb<base) (hn:n<=1000)
  (HC:Hid (∀V,KT (·=hb) W V->(V.L ⟨eb,2,I⟩=U v/\V.L ⟨eb,0,I⟩=U (Z Y pts)/\V.H ⟨eb,2,I⟩=bW)/\V.S base 83 5 v n xs/\IU V (λb=>b≠hb/\b<V.heap.size) rA rs))
  (hK:∀V W' u' v' k,KT (·=hb) W V->Hand V hb B A cap l (N+20)->V.S base 83 5 v n xs->Fr (pn 8) u' u->EE.Ok pts k->W'.S base 83 5 v' (n+1) (xs++Mm k)->V.O W' v.L->V.drawn<=W'.drawn->Q .normal ⟨T 64 u',[]⟩ (W'.LE ⟨eb,2,I⟩ v')):(bl 8 (pn 8) cd).wp DP Q ⟨T 64 u,[]⟩ W:=by
 refine PR (R:=NI hb B A cap l (N+20)) (λk w=>k=6->Hand w hb B A cap l N) 8 (λk _=>hh.gr (Gr.refl W).drew)<|Ew (Gg 2 (FI h7))<|Ew (Fj (Ed 0) λw hg=>(HC.out w hg.1).1.1)<|Ew (Ez h0)<|Ew (Gg 0 (FI h7))<|Ew (Fj (Ed 3) λw hg=>(HC.out w hg.1).1.2.1)<|Ew (Ez h8) <|
  Ew (O9 Sq.func38 [2,4,5] (PV hb B A cap l (N+20) pts) (λ_ _ _ hg h=>⟨h.1,hg.2 h.2⟩) λw hg hj=>(sM hb B A rA cap c l rs N pts w (hj rfl) (by omega) hp (HC.out w hg.1).2.2 a7 a8).LT ?_) <|
  Ew (JL (PS W.heap.size λxs=>∃k,xs=Mm k/\EE.Ok pts k) (ny hh.lt) ?_)<|G7 λu w hg hf hv=>?_
 .rintro e w2 ⟨k,rfl,h2,h3,h4⟩;exact⟨_,rfl,⟨⟨h4,λ_=>h3⟩,λk h1 _ _ e=>AH e h1⟩,⟨k,rfl,h2⟩,h3⟩
 .intro u w hg hf hl hd;obtain⟨⟨k,e59,hk⟩,_⟩:=hd.at_ 6 59;refine aP (op:=.buildSlice 29 1 #[(0,.tmp 59)]) rfl (.slice (U ⟨w.heap.size,0,I⟩) 1 1) (w.Li (.cells (Mm k).Li 83)) (λev a6=>?_) ⟨NI.EF ((Gr.refl w).Li _),λj hj _ h e=>(h e).gr ((Gr.refl w).Li _)⟩ ⟨_,_,83,rfl,⟨k,rfl,hk⟩,hg.1.size,heap_alloc_new _ _⟩;have e1:=(a6.t 59).trans e59;unfold O6 i64 at e1;unfold Mm i64;clear hg hf hl hd a6 HC hK hk
  go_simp
 .have er:bk 8 ((pn 8).size-8)=[8,9,10]:=by kernel_rfl
  rw[er,br];obtain⟨b,_,t,e60,⟨k,rfl,hk⟩,hbl,aB⟩:=hv.at_ 7 60;obtain⟨_,hH⟩:=hv.at_ 6 59;have e54:=hv.at_ 1 54;have hz:=hg.1.size;obtain⟨⟨c2,_,f2⟩,zm,_⟩:=HC.out w hg.1;refine kj (op:=.call { callee:=.builtin .append,args:=#[.tmp 54,.tmp 60],argTypes:=#[29,29] }) rfl trivial λo h1 h2 h3=>?_;refine sK (t:=29) ((Sq.LT 29).trans Tryz.underlying29) DM rfl (by decide) (.tmp 54) (.tmp 60) h2 h3 base _ n xs ((iD (by decide)).trans e54) zm ⟨b,0,I⟩ 1 (Mm k) ((iD (by decide)).trans e60) rfl (sL aB) (λy hy=>?_) (by omega) (by decide) (by omega) λv' w' h5 h6 aC=>?_
  .simp only[Mm,AM,AK,or_false] at hy;rcases hy with rfl|rfl|rfl|rfl|rfl<;>rfl
  .rw[h1,dZ,br];have e7:(Hq u (U 61) v') 7=.S (U ⟨eb,0,I⟩):=(cH (by decide)).trans ((hf.at_ 7).trans h7);have hbe:=cW zm h6 eb aA (by omega);have c2':w'.L ⟨eb,2,I⟩=U v:=(AY hbe).trans c2;have aD:w'.H ⟨eb,2,I⟩=false:=(BR hbe).trans f2;refine sE (op:=.fieldAddr 31 (.tmp 7) 2) rfl (.S (U ⟨eb,2,I⟩)) w' (λev a6=>?_) ?_
   .have e1:=(a6.t 7).trans e7;clear hg hf hv a6 HC hK h5 h6 zm;go_simp
   rw[br];obtain⟨g',c',rfl,_,_⟩:=h5.form (by omega);refine fX (op:=.store 29 (.tmp 62) (.tmp 61)) rfl (w'.LE ⟨eb,2,I⟩ (.slice (U ⟨g',0,I⟩) (n+1) c')) (λev a6=>?_) ?_
   .have e1:=(a6.t 62).trans (bQ ..);have e2:=(a6.t 61).trans ((cH (by decide)).trans (bQ ..));clear hg hf hv a6 HC hK h5 h6 zm;go_simp
   exact hK w w' _ _ k hg.1 hH zm (OD (OD hf (by kernel_rfl) _) (by kernel_rfl) _) hk h5 h6 aC
def uD (np nc:Nat)(hnp:1<=np/\np<=4)(bN:nc<=7)(hb B:Nat)(A:Option cq)(cap:Nat)(l:List Int)(N:Nat)(w:E)(h:Hand w hb B A cap l N)(hN:N<=50000) :
  bw DP 8 #[.S (U ⟨hb,0,I⟩),Z Y np,Z Y nc] w λe w'=>∃x cA k,e=.L (JX x cA k)/\x.Ok/\x.pts<=np/\x.Eg.L<=nc/\nz w' (λb=>w.heap.size<=b/\b<w'.heap.size) cA x.Eg/\Hand w' hb B A cap l (N+1000)/\KH hb w w':=by
 have zY:=h.lt;obtain⟨W0,zM⟩:∃W0:E,W0=w.Li (L #[i64 0,i64 0,.slice I 0 0] 31):=⟨_,rfl⟩;have zL:Gr w W0:=by rw[zM];exact(Gr.refl w).Li _
 have zF:W0.heap.size=w.heap.size+1:=by rw[zM];simp
 have aQ:Hid (W0.heap[w.heap.size]?=U (L #[i64 0,i64 0,.slice I 0 0] 31 (0,0))):=AB (by rw[zM];exact heap_alloc_new _ _);have aR:=AB (cV hb B A cap l N 1 np W0 (h.gr zL) (by omega) (by omega) (by omega));have bD:=AB zL;have HW:=AB zM;clear h zL zM;unfold i64 at HW;go_enter Sq.func8,Tryz.ntmps8;go_wp2_with fail;rw[<-HW.out];refine aR.out.LT ?_;rintro e w1 ⟨⟨pts,rfl,Ji,bO⟩,hh,a6⟩
 have aT:=AB (aO hb B A cap l (N+1) 9 w1 hh (by omega) (by omega));have aU:=AB (KT.trans (KT.EF bD.out) a6);have aV:Hid (w1.heap[w.heap.size]?=U (L #[i64 0,i64 0,.slice I 0 0] 31 (0,0))):=AB ((a6.Lo _ (by omega) (by omega)).trans aQ.out);have zE:=a6.size;clear hh a6 aR aQ;go_wp2_with fail;refine aT.out.LT ?_;rintro e w2 ⟨⟨b0,rfl,hb0⟩,hh,a6⟩;have hb9:b0<=9:=by omega
 have aH:=AB (KT.trans aU.out a6);have aI:Hid (w2.heap[w.heap.size]?=U (L #[i64 0,i64 0,.slice I 0 0] 31 (0,0))):=AB ((a6.Lo _ (by omega) (by omega)).trans aV.out);have zD:=a6.size;obtain⟨W3,hW3⟩:∃W3:E,W3=w2.Li (L #[Z Y 2,Z Y b0] 3):=⟨_,rfl⟩;have zH:Gr w2 W3:=by rw[hW3];exact(Gr.refl _).Li _
 have hz3:W3.heap.size=w2.heap.size+1:=by rw[hW3];simp
 have aW:=AB (gy hb B A (U ⟨w2.heap.size,0,I⟩) cap 2 l [2,(b0:Int)] (N+2) 1 W3 (hh.gr zH) (by omega) (by simp) (hW3▸yC ⟨by omega,by simp⟩));have aX:=AB (aH.out.trans (.EF zH));have aY:Hid (W3.heap[w.heap.size]?=U (L #[i64 0,i64 0,.slice I 0 0] 31 (0,0))):=AB ((zH.Ly.Lo _ (by omega)).trans aI.out);have bE:=AB hW3;clear hh a6 aT aV aI aU aH hW3 zH hb0;go_wp2_with fail
 rw[<-bE.out];refine aW.out.LT ?_;rintro e w4 ⟨⟨bend,rfl,JN⟩,hh,a6⟩;have aK:0<=bend/\bend<=9:=by simp only[AM,AK,or_false] at JN;omega
 have bP:=a6.size;have hk4:=aX.out.trans a6;have hq4:=(a6.Lo _ (by omega) (by omega)).trans aY.out;obtain⟨W5,aA⟩:∃W5:E,W5=w4.Li (L #[Z Y pts,Z Y bend,.slice I 0 0] 31):=⟨_,rfl⟩;have aJ:Gr w4 W5:=by rw[aA];exact(Gr.refl _).Li _
 have bQ:W5.heap.size=w4.heap.size+1:=by rw[aA];simp
 have aZ:=AB (aO hb B A cap l (N+3) 9 W5 (hh.gr aJ) (by omega) (by omega));have HQ5:Hid (W5.heap[w.heap.size]?=U (L #[i64 0,i64 0,.slice I 0 0] 31 (0,0))):=AB ((aJ.Ly.Lo _ (by omega)).trans hq4);have aL:Hid (W5.heap[w4.heap.size]?=U (L #[i64 pts,i64 bend,.slice I 0 0] 31 (0,0))):=AB (by rw[aA];exact heap_alloc_new _ _);have b5:=AB (hk4.trans (.EF aJ));have bF:=AB aA
 obtain⟨eb,aM⟩:∃eb,eb=w4.heap.size:=⟨_,rfl⟩;rw[<-aM] at aL;clear hh a6 aW hk4 hq4 aJ aA JN aY aX;go_wp2_with fail;rw[<-bF.out,<-aM];have hge1:w.heap.size<eb/\eb<W5.heap.size:=by omega
 clear aM;refine aZ.out.LT ?_;rintro e w6 ⟨⟨o0,rfl,ho0⟩,hh,a6⟩;have ho9:o0<=9:=by omega
 have hz6:=a6.size;obtain⟨W7,aB⟩:∃W7:E,W7=w6.Li (L #[Z Y o0] 3):=⟨_,rfl⟩;have aC:Gr w6 W7:=by rw[aB];exact(Gr.refl _).Li _
 have hz7:W7.heap.size=w6.heap.size+1:=by rw[aB];simp
 have HH7:=AB (hh.gr aC);have HK7:=AB ((b5.out.trans a6).trans (.EF aC));have HQ7:Hid (W7.heap[w.heap.size]?=U (L #[i64 0,i64 0,.slice I 0 0] 31 (0,0))):=AB ((aC.Ly.Lo _ (by omega)).trans ((a6.Lo _ (by omega) (by omega)).trans HQ5.out));have HE7:Hid (W7.heap[eb]?=U (L #[i64 pts,i64 bend,.slice I 0 0] 31 (0,0))):=AB ((aC.Ly.Lo _ (by omega)).trans ((a6.Lo _ (by omega) (by omega)).trans aL.out))
 have HR7:Hid (W7.S w6.heap.size 3 1 (.slice (U ⟨w6.heap.size,0,I⟩) 1 1) 1 [Z Y o0]):=AB ⟨rfl,.inr ⟨w6.heap.size,1,#[Z Y o0],rfl,AD _,by rw[aB];exact heap_alloc_new _ _,AD _,by decide,rfl,rfl⟩⟩;have bG:=AB aB;clear hh a6 aC aB HQ5 aL b5 aZ ho0;go_wp2;obtain⟨rb,aN⟩:∃rb,rb=w6.heap.size:=⟨_,rfl⟩;rw[<-bG.out,<-aN];rw[<-aN] at HR7;have bR:w.heap.size<eb/\eb<rb/\rb<W7.heap.size:=by omega
 clear aN;go_loopw [8] (λv wr=>∃rs:List Int,1<=rs.L/\rs.L<=pts/\(∀x∈rs,0<=x/\x<=9)/\wr.S rb 3 1 v rs.L (rs.map (Z Y))/\Hand wr hb B A cap l (N+4+rs.L)/\KT (·=hb) w wr/\W7.heap.size<=wr.heap.size/\wr.heap[w.heap.size]?=U (L #[i64 0,i64 0,.slice I 0 0] 31 (0,0))/\wr.heap[eb]?=U (L #[i64 pts,i64 bend,.slice I 0 0] 31 (0,0))) (λv _=>pts-PT v)
 case atStart=>exact⟨[(o0:Int)],by simp,by simp;omega,λx hx=>by simp only[AM,AK,or_false] at hx;omega,HR7.out,HH7.out.more (by omega),HK7.out,AD _,HQ7.out,HE7.out⟩
 case round =>
  obtain⟨rs,zi,zz,b6,zm,hh,a6,zx,hq,he⟩:=hrel;obtain⟨g,c,rfl,zQ,_⟩:=zm.form (by omega);obtain⟨e0,e1,e2⟩:wr.L ⟨eb,0,I⟩=U (Z Y pts)/\wr.L ⟨eb,1,I⟩=U (Z Y bend)/\wr.L ⟨eb,2,I⟩=U (.slice I 0 0):=⟨(DU he 0).1,(DU he 1).1,(DU he 2).1⟩;obtain⟨n,hn⟩:∃n,n=rs.L:=⟨_,rfl⟩;rw[<-hn] at hh;have HH:=AB hh;have HK:=AB a6;have HQ:=AB hq
  have HE:=AB he;have HO:=AB zm;have HX:=AB b6;have HN:=AB hn;rw[<-hn] at zi zz;rw[<-hn];clear hh a6 hq he zm b6 hn;by_cases bM:n<pts
  .have hy:=HX.out (rs[n-1]?.LE 0) (by rw[AG (by have:=HN.out;omega)];exact BU _);have a8:Hid (∀V,KT (·=hb) wr V->V.L ⟨eb,1,I⟩=U (Z Y bend)/\V.L ⟨g,n-1,I⟩=U (Z Y (rs[n-1]?.LE 0))/\V.S rb 3 1 (.slice (U ⟨g,0,I⟩) n c) n (rs.map (Z Y))):=AB λV hV=>by
    have ho:=da HO.out (by omega) hV;rw[<-HN.out] at ho;refine⟨(hV.cell (p:=⟨eb,1,I⟩) (by show eb<_;omega) (by show ¬eb=hb;omega)).trans e1,?_,ho⟩;have:=ho.cells (g:=g) rfl (n-1) (Z Y (rs[n-1]?.LE 0)) (by rw[BE,AG (by have:=HN.out;omega)];rfl)
    rwa [cw,AU] at this
   generalize rs[n-1]?.LE 0=y at hy a8;go_wp2;refine bI 64 rfl λu hu=>?_;refine Ad (hu 0) (hu 7) (hu 8) HH.out (by omega) (by omega) aK hy (by omega) a8 λV W' u' v' x aD hhV aF hf x1 x2 hown' hgrow hd e8=>?_;rw[aS (n:=64) [27,28,29,30,31,32,33,34,35,36,37,38,39,40,41,42,43,44,45,8] (by kernel_rfl) rfl hu hf];simp only[Bg,Bq,Be,Bh];rw[e8];have b7:=pm (HK.out.trans aD) aF (by omega) hgrow hd
   have hzV:=aD.size;have hzW:=hgrow.size;have bH:=AB (lC hhV aF (by omega) hgrow);have aI:Hid (W'.heap[w.heap.size]?=U (L #[i64 0,i64 0,.slice I 0 0] 31 (0,0))):=AB ((cW aF hgrow _ (by omega) (by omega)).trans ((aD.Lo _ (by omega) (by omega)).trans HQ.out));have aP:Hid (W'.heap[eb]?=U (L #[i64 pts,i64 bend,.slice I 0 0] 31 (0,0))):=AB ((cW aF hgrow _ (by omega) (by omega)).trans ((aD.Lo _ (by omega) (by omega)).trans HE.out))
   have aH:=AB b7
   have bJ:Hid (W'.S rb 3 1 v' (rs++[x]).L ((rs++[x]).map (Z Y))):=AB (by
    rw[B1,<-HN.out,Cs];exact hown')
   have hv':PT v'=n+1:=by
    obtain⟨g2,c2,rfl,_,_⟩:=hown'.form (by omega);rfl
   have HL:=AB hv';clear aD hhV aF hf hown' hgrow hd e8 b7 hv' hu a8;go_wp2;go_roundw
   case rel=>exact⟨rs++[x],by simp,by rw[B1,<-HN.out];simp;omega,λz hz=>by
    obtain hz|hz:=BK.1 hz
    .exact HX.out z hz
    .simp only[AM,AK,or_false] at hz;omega,bJ.out,bH.out.more (by rw[B1,<-HN.out];simp;omega),aH.out,by omega,aI.out,aP.out⟩
   case measure=>rw[HL.out];simp[PT];omega
  .have hnp2:n=pts:=by omega
   have b8:=AB (aO hb B A cap l _ nc wr HH.out (by omega) (by omega));go_wp2_with fail;refine b8.out.LT ?_;rintro e w8 ⟨⟨q,rfl,hq8⟩,hh,a6⟩;have bS:q<=nc:=by omega
   have hz8:=a6.size;obtain⟨base,hbase⟩:∃base,base=w8.heap.size:=⟨_,rfl⟩
   have hrow:IU w8 (λb=>b≠hb/\b≠eb/\b<base) (U ⟨g,0,I⟩) rs:=λ_=>⟨g,0,rfl,⟨by omega,by omega,by omega⟩,λi x hx=>by
    have:=(da HO.out (show hb<rb by omega) a6).cells (g:=g) rfl i (Z Y x) (by rw[BE,hx];rfl)
    rwa [cw] at this⟩
   have a7:Hid (ED w hb B A cap l (N+10+pts) base eb pts bend (U ⟨g,0,I⟩) rs (.slice I 0 0) [] w8):=AB ⟨hh.more (by omega),(a6.Lo _ (by omega) (by omega)).trans HE.out,(a6.Lo _ (by omega) (by omega)).trans HQ.out,Bs _ _ _ _,hrow,HK.out.trans a6,zY,⟨by omega,by omega,by omega⟩⟩;have bT:w.heap.size<base:=by omega
   have b9:n=rs.L:=HN.out;have bA:=AB b9;clear hh a6 b8 hq8 hrow hbase b9;go_wp2;go_loopw [9] (λi wr=>∃j:Nat,j<=q/\i=Z Y j/\∃v cs,ED w hb B A cap l (N+10+pts+20*(q-j)) base eb pts bend (U ⟨g,0,I⟩) rs v cs wr/\cs.L=q-j/\∀c∈cs,EE.Ok pts c) (λi _=>(bn i).L)
   case atStart=>exact⟨q,by omega,rfl,_,[],a7.out.more (by omega),by simp,λx hx=>by simp at hx⟩
   case round =>
    obtain⟨wq,rfl⟩:∃wq,wq=wr:=⟨_,rfl⟩;obtain⟨j,hj,rfl,v,cs,a7,bK,zW⟩:=hrel;have bB:=AB zW;clear zW;by_cases bU:0<j
    .replace a7:=AB a7;go_wp2;have hwq:=a7.out.kt.size;refine bI 64 rfl λu hu=>?_;have zX:pts<=(rs.L:Int):=by have:=bA.out;omega
     have h8:u 8=.slice (U ⟨g,0,I⟩) pts c:=hu 8;have hpl:pts=rs.L:=by have:=bA.out;omega
     rw[hpl] at h8;refine Ae (N:=N+10+pts+20*(q-j)) (n:=cs.L) (pts:=pts) (eb:=eb) (base:=base) (xs:=Je cs) (v:=v) (hu 0) (hu 7) h8 a7.out.hand (by omega) (by omega) (by omega) HX.out a7.out.bs.2.2 a7.out.bs.2.1 (by omega) (AB λV kV=>?_) λV W' u' v' x kV hV oV hf hx hown' hgrow hd=>?_
     .have hE:=a7.out;have hs:=hE.bs;have hq:=(kV.Lo _ (AC.1 hE.Fy).1 (by omega)).trans hE.Fy;exact⟨⟨(DU hq 2).1,(DU hq 0).1,(DU hq 2).2⟩,da hE.LE (by omega) kV,JK hE.row (λb hb'=>⟨hb'.1,by have:=hb'.2.2;have:=kV.size;omega⟩) λb o hb'=>kV.cell (p:=⟨b,o,I⟩) (by show b<_;have:=hb'.2.2;omega) hb'.1⟩
     .rw[aS (n:=64) [53,54,55,56,57,58,59,60,61,62] (by kernel_rfl) rfl hu hf];simp only[Bg,Bq,Be,Bh];have aP:=AB (xf (a7.out.Gb hV kV) hown' hgrow hd);have HXC:=AB hx;clear hV oV hf hown' hgrow hd hu kV hx;go_wp2;go_roundw
      case rel=>exact⟨j-1,by omega,by go_num,_,_,aP.out.more (by omega),by simp[bK];omega,λz hz=>by
       obtain hz|hz:=BK.1 hz
       .exact bB.out z hz
       .simp only[AM,AK,or_false] at hz;subst hz;exact HXC.out⟩
      case measure=>simp[Proofs.intOf];omega
    .have bC:j=0:=by omega
     subst bC;obtain⟨cA,k,rfl,aG⟩:=PU a7;have hq:cs.L=q:=by omega
     rw[hq] at aG;have HF:=AB (aG _ rfl);have bL:=AB hq;obtain⟨c0,c1,c2,f2,l0⟩:=a7.cell;have r0:=(DU a7.Gf 0).1;have r1:=(DU a7.Gf 1).1;have r2:=(DU a7.Gf 2).1;have g0:=(DU a7.Gf 0).2;have g1:=(DU a7.Gf 1).2;have g2:=(DU a7.Gf 2).2;replace a7:=AB a7;clear aG;go_wp2;obtain⟨s,s3,s4,s5⟩:=HF.out;have s0:=(DU s 0).1
     have s1:=(DU s 1).1;have s2:=(DU s 2).1;unfold i64 at *;refine cE (v:=.agg #[Z Y pts,Z Y bend,F cA q k]) (by simp[results,Tryz.results8,go_sem,s0,s1,s2]) rfl ⟨⟨pts,bend,cs⟩,cA,k,?_,⟨⟨by show 1<=pts;omega,by show pts<=4;omega⟩,aK,by show cs.L<=7;omega,bB.out⟩,by show pts<=np;omega,by show cs.L<=nc;omega,s3,s4.more (by omega),s5⟩
     unfold JX i64;rw[<-bL.out]
def Pa (a b c:Int)(h1:b<=a)(h2:a<=c)(w:E):bw DP 41 #[Z Y a,Z Y b,Z Y c] w λe w'=>e=.L (.bool cd)/\w=w':=by
 go_enter Sq.func41,Tryz.ntmps41;go_wp2;go_ret;exact⟨rfl,rfl⟩
def qB (x:FB)(A:Option cq)(k:Nat)(c:EE)(w:E)(hx:x.pts<=4)(hc:c.Ok x.pts) :
  bw DP 113 #[JX x A k,O6 c] w λe w'=>e=.L (Z Y 0)/\Gr w w':=by
 obtain⟨k1,k2⟩:=hc.kind;obtain⟨a1,a2,a3⟩:=hc.at_;obtain⟨e1,e2,e3⟩:=hc.er;have hp:=hc.pt;have ho:=hc.ot;have a6:=hc.RN;have HY:=AB Pa;have HG:Hid (∀o1 o2,Gr w ((w.Li o1).Li o2)):=AB λo1 o2=>((Gr.refl w).Li o1).Li o2;obtain⟨kd,pt,ot,at_,er⟩:=c;dsimp only at k1 k2 a1 a2 a3 e1 e2 e3 hp ho a6;unfold JX O6 i64;dsimp only;clear hc;by_cases h5:kd=5
 .subst h5;obtain⟨q1,q2⟩:=a6 rfl;have a1:=a1 rfl;have e3:=e3 (by decide);clear ho a6 a2;go_enter Sq.func113,dy;go_wp2_with (go_at_call 41;refine(HY.out _ _ _ ?_ ?_ _).LT ?_;(first|omega|skip);(first|omega|skip);rintro e w' ⟨rfl,rfl⟩)
  all_goals first|omega|skip
  go_ret;exact⟨rfl,HG.out _ _⟩
 .have ho:=ho h5;have a2:=a2 h5;subst ho;clear a6 a1;by_cases h2:kd=2
  .subst h2;go_enter Sq.func113,dy;go_wp2_with (go_at_call 41;refine(HY.out _ _ _ ?_ ?_ _).LT ?_;(first|omega|skip);(first|omega|skip);rintro e w' ⟨rfl,rfl⟩)
   all_goals first|omega|skip
   go_ret;exact⟨rfl,HG.out _ _⟩
  .have e3:=e3 h2;go_enter Sq.func113,dy;go_wp2_with (go_at_call 41;refine(HY.out _ _ _ ?_ ?_ _).LT ?_;(first|omega|skip);(first|omega|skip);rintro e w' ⟨rfl,rfl⟩)
   all_goals first|omega|skip
   go_ret;exact⟨rfl,HG.out _ _⟩
def ol (x:FB)(A:Option cq)(k:Nat)(w:E)(hx:x.Ok)(hc:F3 w w.heap.size A x.Eg) :
  bw DP 66 #[JX x A k] w λe w'=>e=.L (Z Y 0)/\Gr w w':=by
 obtain⟨p1,p2⟩:=hx.pts;obtain⟨b1,b2⟩:=hx.bend;have hm:=hx.many;have HY:=AB Pa;have HX:=AB hx;have HC:=AB hc;clear hx hc;obtain⟨W0,zM⟩:∃W0:E,W0=w.Li (L #[Z Y x.pts,Z Y x.bend,F A x.Eg.L k] 31):=⟨_,rfl⟩;have a8:Hid (Gr w W0):=AB (by rw[zM];exact(Gr.refl w).Li _);have zF:W0.heap.size=w.heap.size+1:=by rw[zM];simp
 have HE:Hid (∀W,Gr W0 W->W.L ⟨w.heap.size,0,I⟩=U (Z Y x.pts)/\W.L ⟨w.heap.size,1,I⟩=U (Z Y x.bend)/\W.L ⟨w.heap.size,2,I⟩=U (F A x.Eg.L k)):=AB λW hg=>by
  rw[hg.cell (by show w.heap.size<_;rw[zM];simp),hg.cell (by show w.heap.size<_;rw[zM];simp),hg.cell (by show w.heap.size<_;rw[zM];simp),zM,AF _ _ _ _ rfl,AF _ _ _ _ rfl,AF _ _ _ _ rfl];exact⟨rfl,rfl,rfl⟩
 have HW:=AB zM;clear zM;unfold JX i64;go_enter Sq.func66,Tryz.ntmps66;go_wp2_with (go_at_call 41;refine(HY.out _ _ _ ?_ ?_ _).LT ?_;(first|omega|skip);(first|omega|skip);rintro e w' ⟨rfl,rfl⟩)
 all_goals first|omega|skip
 rw[<-HW.out];have zE:W0.heap.size=w.heap.size+1:=zF;obtain⟨c0,c1,c2⟩:=HE.out W0 (Gr.refl _);go_loopw [23] (λi wr=>∃j:Nat,j<=x.Eg.L/\i=Z Y j/\Gr W0 wr) (λi _=>x.Eg.L-(bn i).L)
 case atStart=>exact⟨0,by omega,rfl,.refl _⟩
 case round =>
  obtain⟨j,hj,rfl,hg⟩:=hrel;have HG:=AB hg;by_cases zY:j<x.Eg.L
  .obtain⟨b,o,rfl,hb,h0,h1,h2,h3,h4⟩:=(HC.out.gr (AD _) (a8.out.trans HG.out)).at_ zY;have a6:=fJ HX.out zY;have a7:=AB λW=>qB x (U ⟨b,o,I⟩) k (x.Eg[j]?.LE .none) W p2 a6;have hz:=HG.out.size;generalize x.Eg[j]?.LE .none=c at h0 h1 h2 h3 h4 a6 a7;unfold JX O6 at a7;unfold i64 at *;obtain⟨kd,pt,ot,at_,er⟩:=c;dsimp only at h0 h1 h2 h3 h4;clear a6;obtain⟨d0,d1,d2⟩:=HE.out (wr.Li (L #[Z Y kd,Z Y pt,Z Y ot,Z Y at_,Z Y er] 83)) (HG.out.Li _)
   obtain⟨wq,rfl⟩:∃wq,wq=wr:=⟨_,rfl⟩;go_wp2_with (go_at_call 113;refine(a7.out _).LT ?_;rintro e w2 ⟨rfl,zI⟩;have aA:=AB zI;clear zI);go_roundw
   case rel=>exact⟨j+1,by omega,by go_num,HG.out.trans (((Gr.refl _).Li _).trans aA.out)⟩
   case measure=>simp[Proofs.intOf];omega
  .go_wp2;go_ret;exact⟨rfl,a8.out.trans HG.out⟩
def uE (f g:Eu)(pb:Nat)(w:E)(hp:pb<w.heap.size)(hc:Jt w pb 0 f) :
  bw DP 117 #[Js g,.S (U ⟨pb,0,I⟩)] w λe w'=>e=.L (.bool (Ik g f))/\Gr w w':=by
 obtain⟨h0,h1,h2⟩:=hc;unfold Js i64 at *;have HS:Hid (Ik g f=(if g.pt=f.pt then g.yr==f.yr else bW)):=AB (by unfold Ik;by_cases e:g.pt=f.pt<;>simp[e]);have HG:Hid (∀o,Gr w (w.Li o)):=AB λo=>(Gr.refl w).Li o;by_cases e1:g.pt=f.pt
 .rw[AJ e1] at HS;have a6:(g.pt:Int)=f.pt:=by omega
  go_enter Sq.func117,e5;go_wp2;go_ret;exact⟨aF HS.out.LT,HG.out _⟩
 .rw[AE e1] at HS;have a6:¬(g.pt:Int)=f.pt:=by omega
  go_enter Sq.func117,e5;go_wp2;go_ret;exact⟨aF HS.out.LT,HG.out _⟩
def JM (l:FL):Prop:=∀i j,j<i->i<l.L->Ik (FC l j) (FC l i)=bW
def uF {l:FL}{i j:Nat}(h:j<i):FC (l.LT i) j=FC l j:=by unfold FC;rw[List.getElem?_take_of_lt h]
def E6.LT {w:E}{B:Nat}{A:Option cq}{l:FL}(h:E6 w B A l)(i:Nat):E6 w B A (l.LT i):=λhn=>by
 obtain⟨b,o,e,hb,hc⟩:=h (λe=>hn (by rw[e];simp));refine⟨b,o,e,hb,λj c hj=>hc j c ?_⟩;rw[CF] at hj;split at hj
 .exact hj
 .cases hj
def sN (A:Option cq)(c pb:Nat)(f:Eu)(l:FL)(w:E)(h:E6 w w.heap.size A l)(hl:l.L<=4611686018427387904)(hp:pb<w.heap.size)(hc:Jt w pb 0 f)(hno:∀j,j<l.L->Ik (FC l j) f=bW) :
  bw DP 147 #[F A l.L c,.func (.func 117) #[] #[.S (U ⟨pb,0,I⟩)]] w λe w'=>e=.L (Z Y (-1))/\Gr w w':=by
 have HR:=AB h;have HC:=AB hc;have a6:=AB hno;clear h hc hno;go_enter Sq.func147,Tryz.ntmps147;go_wp2;go_loopw [8] (λi wr=>∃k:Nat,k<=l.L/\i=Z Y k/\Gr w wr) (λi _=>l.L-(bn i).L)
 case atStart=>exact⟨0,by omega,rfl,.refl _⟩
 case round =>
  obtain⟨k,hk,rfl,hg⟩:=hrel;have HG:=AB hg;by_cases zY:k<l.L
  .obtain⟨b,o,rfl,hb,h1,h2,h3⟩:=(HR.out.gr (AD _) HG.out).at_ zY;have hz:=HG.out.size
   have HS:Hid (bw DP 117 #[Js (FC l k),.S (U ⟨pb,0,I⟩)] wr λe w'=>e=.L (.bool bW)/\Gr wr w'):=AB (by
    have:=uE f (FC l k) pb wr (by omega) (HC.out.keep λ_=>HG.out.cell hp)
    rwa [a6.out k zY] at this)
   generalize FC l k=x at h1 h2 h3 HS;obtain⟨pt,yr,at_⟩:=x;unfold Js at HS;unfold i64 at *;dsimp only at h1 h2 h3;go_wp2_with (go_at_call 117;refine HS.out.LT ?_;rintro e w2 ⟨rfl,zI⟩;have a7:=AB zI;clear zI);go_roundw
   case rel=>exact⟨k+1,by omega,by go_num,HG.out.trans a7.out⟩
   case measure=>simp[Proofs.intOf];omega
  .go_wp2;go_ret;exact⟨rfl,HG.out⟩
def xg (A:Option cq)(c pb:Nat)(f:Eu)(l:FL)(w:E)(h:E6 w w.heap.size A l)(hl:l.L<=4611686018427387904)(hp:pb<w.heap.size)(hc:Jt w pb 0 f)(hno:∀j,j<l.L->Ik (FC l j) f=bW) :
  bw DP 116 #[F A l.L c,.func (.func 117) #[] #[.S (U ⟨pb,0,I⟩)]] w λe w'=>e=.L (.bool bW)/\Gr w w':=by
 have HC:=AB (sN A c pb f l w h hl hp hc hno);clear h;go_enter Sq.func116,Tryz.ntmps116;go_wp2_with (go_at_call 147;refine HC.out.LT ?_;rintro e w2 ⟨rfl,hg⟩;have HG:=AB hg;clear hg);go_ret;exact⟨rfl,HG.out⟩
def nB (x:FB)(A fA:Option cq)(k fk:Nat)(l:FL)(w:E)(hx:1<=x.pts/\x.pts<=4)(hl:l.L<=8)(a7:∀f∈l,f.Ok x.pts)(hno:JM l)(hf:E6 w w.heap.size fA l)(aG:l.L<=fk) :
  bw DP 71 #[JX x A k,F fA l.L fk] w λe w'=>e=.L (Z Y 0)/\Gr w w':=by
 obtain⟨p1,p2⟩:=hx;have HY:=AB Pa;have HF:=AB hf;have aC:=AB a7;have aD:=AB hno;clear hf a7 hno;obtain⟨W0,zM⟩:∃W0:E,W0=w.Li (L #[Z Y x.pts,Z Y x.bend,F A x.Eg.L k] 31):=⟨_,rfl⟩;have a6:Hid (Gr w W0):=AB (by rw[zM];exact(Gr.refl w).Li _);have zF:W0.heap.size=w.heap.size+1:=by rw[zM];simp
 have HE:Hid (∀W,Gr W0 W->W.L ⟨w.heap.size,0,I⟩=U (Z Y x.pts)):=AB λW hg=>by
  rw[hg.cell (by show w.heap.size<_;rw[zM];simp),zM,AF _ _ _ _ rfl]
  rfl
 have HW:=AB zM;clear zM;unfold JX i64;go_enter Sq.func71,Tryz.ntmps71;go_wp2;rw[<-HW.out];go_loopw [12] (λi wr=>∃j:Nat,j<=l.L/\i=Z Y j/\Gr W0 wr) (λi _=>l.L-(bn i).L)
 case atStart=>exact⟨0,by omega,rfl,.refl _⟩
 case round =>
  obtain⟨j,hj,rfl,hg⟩:=hrel;have HG:=AB hg;by_cases zY:j<l.L
  .obtain⟨b,o,rfl,hb,h0,h1,h2⟩:=(HF.out.gr (AD _) (a6.out.trans HG.out)).at_ zY;obtain⟨q1,⟨q2,q3⟩,q4,q5⟩:=aC.out _ (Kw zY);have hz:=HG.out.size;have a8:(l.LT j).L=j:=by rw[CT];omega
   have HH:Hid (∀o1:Obj,o1=L #[Z Y (FC l j).pt,Z Y (FC l j).yr,Z Y (FC l j).at_] 86->bw DP 116 #[.slice (U ⟨b,o,I⟩) j fk,.func (.func 117) #[] #[.S (U ⟨wr.heap.size,0,I⟩)]] (wr.Li o1) λe w'=>e=.L (.bool bW)/\Gr (wr.Li o1) w'):=AB λo1 e=>by
    have aA:Gr w (wr.Li o1):=(a6.out.trans HG.out).Li _
    have:=xg (U ⟨b,o,I⟩) fk wr.heap.size (FC l j) (l.LT j) (wr.Li o1) (((HF.out.gr (AD _) aA).more aA.size).LT j) (by omega) (by simp) (by
     subst e
     exact⟨AF _ _ _ _ rfl,AF _ _ _ _ rfl,AF _ _ _ _ rfl⟩) (λi hi=>by rw[uF (by omega)];exact aD.out j i (by omega) zY)
    rwa [a8] at this
   clear a8;have Lu:∀o,(wr.Li o).L ⟨w.heap.size,0,I⟩=U (Z Y x.pts):=λo=>HE.out _ (HG.out.Li o);have aB:=Lu (L #[Z Y (FC l j).pt,Z Y (FC l j).yr,Z Y (FC l j).at_] 86);clear Lu;generalize FC l j=c at h0 h1 h2 q1 q2 q3 q4 q5 HH aB;unfold i64 at *;obtain⟨pt,yr,at_⟩:=c;dsimp only at h0 h1 h2 q1 q2 q3 q4 q5 HH aB;obtain⟨wq,rfl⟩:∃wq,wq=wr:=⟨_,rfl⟩;go_wp2_with (first|(go_at_call 41;refine(HY.out _ _ _ ?_ ?_ _).LT ?_;(first|omega|skip);(first|omega|skip);rintro e w' ⟨rfl,rfl⟩)|(go_at_call 116;refine(HH.out _ rfl).LT ?_;rintro e w2 ⟨rfl,zI⟩;have aF:=AB zI;clear zI))
   all_goals first|omega|skip
   go_roundw
   case rel=>exact⟨j+1,by omega,by go_num,HG.out.trans (((Gr.refl _).Li _).trans aF.out)⟩
   case measure=>simp[Proofs.intOf];omega
  .go_wp2;go_ret;exact⟨rfl,a6.out.trans HG.out⟩
def qC (x:FB)(A fA:Option cq)(k fk:Nat)(l:FL)(w:E)(hx:x.Ok)(hc:F3 w w.heap.size A x.Eg)(hl:l.L<=8)(a6:∀f∈l,f.Ok x.pts)(hno:JM l)(hf:E6 w w.heap.size fA l)(a7:l.L<=fk) :
  bw DP 40 #[JX x A k,F fA l.L fk] w λe w'=>e=.L (Z Y 0)/\Gr w w':=by
 obtain⟨W0,zM⟩:∃W0:E,W0=w.Li (L #[Z Y x.pts,Z Y x.bend,F A x.Eg.L k] 31):=⟨_,rfl⟩;have zL:Gr w W0:=by rw[zM];exact(Gr.refl w).Li _
 have HE:Hid (∀W,Gr W0 W->W.L ⟨w.heap.size,0,I⟩=U (Z Y x.pts)/\W.L ⟨w.heap.size,1,I⟩=U (Z Y x.bend)/\W.L ⟨w.heap.size,2,I⟩=U (F A x.Eg.L k)):=AB λW hg=>by
  rw[hg.cell (by show w.heap.size<_;rw[zM];simp),hg.cell (by show w.heap.size<_;rw[zM];simp),hg.cell (by show w.heap.size<_;rw[zM];simp),zM,AF _ _ _ _ rfl,AF _ _ _ _ rfl,AF _ _ _ _ rfl];exact⟨rfl,rfl,rfl⟩
 have H1:=AB (ol x A k W0 hx ((hc.gr (AD _) zL).more zL.size));have H2:Hid (∀W,Gr W0 W->bw DP 71 #[JX x A k,F fA l.L fk] W λe w'=>e=.L (Z Y 0)/\Gr W w'):=AB λW hg=>nB x A fA k fk l W hx.pts hl a6 hno ((hf.gr (AD _) (zL.trans hg)).more (zL.trans hg).size) a7;have aA:=AB zL;have HW:=AB zM;clear hx hc hl a6 hno hf a7 zL zM;unfold JX i64 at *;go_enter Sq.func40,Tryz.ntmps40
 go_wp2_with fail;rw[<-HW.out];refine H1.out.LT ?_;rintro e w1 ⟨rfl,hg⟩;have a8:=AB hg;obtain⟨c0,c1,c2⟩:=HE.out w1 hg;clear hg;go_wp2_with fail;refine(H2.out w1 a8.out).LT ?_;rintro e w2 ⟨rfl,hg⟩;have aB:=AB hg;clear hg;go_wp2;go_ret;exact⟨rfl,aA.out.trans (a8.out.trans aB.out)⟩
def Kq (l:FL)(f:Eu):Nat->Bool
 |0=>bW
 |k+1=>Kq l f k||Ik (FC l k) f
def kl {l:FL}{f:Eu}:∀ {k},Kq l f k=bW->∀j,j<k->Ik (FC l j) f=bW
 |0,_,j,hj=>by omega
 |k+1,h,j,hj=>by
  unfold Kq at h;rw[Cb] at h;by_cases e:j=k
  .subst e;exact h.2
  .exact kl h.1 j (by omega)
def kL {l:FL}{f:Eu}{i:Nat}(h:i<l.L):FC (l++[f]) i=FC l i:=by unfold FC;rw[Bn h]
def uG {l:FL}{f:Eu}:FC (l++[f]) l.L=f:=by unfold FC;rw[Bo (AD _)];simp
def JM.push {l:FL}{f:Eu}(h:JM l)(hm:Kq l f l.L=bW):JM (l++[f]):=λi j hj hi=>by
 rw[B1,AQ,AT] at hi;by_cases e:i=l.L
 .subst e;rw[uG,kL hj];exact kl hm j hj
 .rw[kL (by omega),kL (by omega)];exact h i j hj (by omega)
def sO (w:E)(K:Nat->Prop)(A:Option cq)(l:List Eu):Prop :=
 l≠[]->∃b o,A=U ⟨b,o,I⟩/\K b/\∀i c,l[i]?=U c->Jt w b (o+i*3) c
def Sq.Ly:DP.LT 33=U (.slice 86):=(Sq.LT 33).trans Tryz.underlying33
def Af {w:E}{ops:Array gg}{rest:List gg}{o:gg}{a:Act}{Q:fq->Act->E->Prop}(hgd:o.guard=I)(s x:fu)(ho:o.op=.call { callee:=.builtin .append,args:=#[s,x],argTypes:=#[33,33] })
  (base:Nat) (v:bh) (n:Nat) (xs:List bh) (hs:a.eval s=v) (zm:w.S base 86 3 v n xs) (ad:cq) (c:Nat) (news:List bh) (hx:a.eval x=.slice (U ad) 1 c) (h4:news.L=3) (hc:∀(j:Nat) (u:bh),news[j]?=U u->w.L (ad.add j)=U u) (h1:∀u∈news,u.oneCell'=cd)
  (hn:n<=1048576) (hbase:base<=w.heap.size) (h:∀v' w',w'.S base 86 3 v' (n+1) (xs++news)->w.O w' v.L->w.drawn<=w'.drawn->wpList DP ops Q rest (a.put o.dst v') w'):wpList DP ops Q (o::rest) a w:=by
 obtain⟨i0,hi,zF,zE,zD⟩:=ek Dy;exact EB hgd s x 33 ho base 86 i0 _ 3 24 Sq.Ly hi zF zE zD rfl (by decide) v n xs hs zm ad 1 c news hx (by omega) hc h1 (by unfold maxLen;omega) (by omega) hbase h
def om (x:FB)(cA:Option cq)(ck:Nat)(hb B:Nat)(A:Option cq)(cap:Nat)(l:List Int)(N:Nat)(w:E)(hx:1<=x.pts/\x.pts<=4)(h:Hand w hb B A cap l N)(hN:N<=50000) :
  bw DP 9 #[.S (U ⟨hb,0,I⟩),JX x cA ck] w λe w'=>∃fs fA fk,e=.L (F fA (List.length fs) fk)/\fs.L<=6/\fs.L<=fk/\(∀f∈fs,f.Ok x.pts)/\JM fs/\sO w' (λb=>w.heap.size<=b/\b<w'.heap.size) fA fs/\Hand w' hb B A cap l (N+1000)/\KH hb w w':=by
 have zY:=h.lt;obtain⟨p1,p2⟩:=hx;obtain⟨W0,zM⟩:∃W0:E,W0=w.Li (L #[Z Y x.pts,Z Y x.bend,F cA x.Eg.L ck] 31):=⟨_,rfl⟩;have zL:Gr w W0:=by rw[zM];exact(Gr.refl w).Li _
 have zF:W0.heap.size=w.heap.size+1:=by rw[zM];simp
 have HE:Hid (∀W,KT (·=hb) W0 W->W.L ⟨w.heap.size,0,I⟩=U (Z Y x.pts)):=AB λW hk=>by
  rw[hk.cell (p:=⟨w.heap.size,0,I⟩) (by show w.heap.size<_;omega) (by show w.heap.size≠hb;omega),zM,AF _ _ _ _ rfl]
  rfl
 have HU:=AB (aO hb B A cap l N 6 W0 (h.gr zL) (by omega) (by omega));have aZ:=AB zL;have HW:=AB zM;clear h zL zM;unfold JX i64;go_enter Sq.func9,Tryz.ntmps9;go_wp2_with fail;rw[<-HW.out];refine HU.out.LT ?_;rintro e w1 ⟨⟨n,rfl,hn⟩,hh,a6⟩;have b5:=AB hh;have b6:=AB a6;have zE:=a6.size;have hn6:n<=6:=by omega
 clear hh a6 HU hn;go_wp2;go_loopw [5,6] (λv i wr=>∃j:Nat,j<=n/\i=Z Y j/\∃fs:List Eu,fs.L+j<=n/\wr.S W0.heap.size 86 3 v fs.L (G6 fs)/\(∀f∈fs,f.Ok x.pts)/\JM fs/\Hand wr hb B A cap l (N+1+3*(n-j))/\KT (·=hb) W0 wr) (λ_ i _=>(bn i).L)
 case atStart=>exact⟨n,by omega,rfl,[],by simp,Bs _ _ _ _,λf hf=>by simp at hf,λi j _ hi=>by simp at hi,b5.out.more (by omega),b6.out⟩
 case round =>
  obtain⟨wq,rfl⟩:∃wq,wq=wr:=⟨_,rfl⟩;obtain⟨j,hj,rfl,fs,bD,zm,aC,hno,hh,a6⟩:=hrel;have bE:=a6.size;by_cases bF:0<j
  .have aD:=AB aC;have aF:=AB hno;have HO:=AB zm;have hx0:=HE.out _ a6;have HK:=AB a6;have aL:=AB (aO hb B A cap l _ (x.pts-1) wq hh (by omega) (by omega));clear aC hno hh zm a6;go_wp2_with fail;refine aL.out.LT ?_;rintro e w2 ⟨⟨pt,rfl,b7⟩,hh,a6⟩;have aX:pt<x.pts:=by omega
   have aM:=AB (aO hb B A cap l _ 30 w2 hh (by omega) (by omega));have aN:=AB (KT.trans HK.out a6);have aP:=AB (da HO.out (show hb<W0.heap.size by omega) a6);have zD:=a6.size;clear hh a6 aL HK HO b7;go_wp2_with fail;refine aM.out.LT ?_;rintro e w3 ⟨⟨yr,rfl,hyr⟩,hh,a6⟩;have hyr2:yr<=30:=by omega
   have aQ:=AB (aO hb B A cap l _ 9 w3 hh (by omega) (by omega));have aR:=AB (KT.trans aN.out a6);have aS:=AB (da aP.out (show hb<W0.heap.size by omega) a6);have hz3:=a6.size;clear hh a6 aM aN aP hyr;go_wp2_with fail;refine aQ.out.LT ?_;rintro e w4 ⟨⟨at_,rfl,hat⟩,hh,a6⟩;have hat2:at_<=9:=by omega
   have b8:=AB (KT.trans aR.out a6);have aI:=AB (da aS.out (show hb<W0.heap.size by omega) a6);have HH4:=AB hh;have bG:=a6.size;clear hh a6 aQ aR aS hat;obtain⟨vA,vc,rfl,a8⟩:=E6.Fw aI.out;have aT:fs.L<=vc:=by
    obtain⟨_,h0⟩|⟨g,cap',cur,e,_,_,h1,_⟩:=aI.out.2
    .omega
    .injection e with _ _ e2;omega
   obtain⟨W5,aA⟩:∃W5:E,W5=w4.Li (L #[Z Y pt,Z Y yr,Z Y at_] 86):=⟨_,rfl⟩;have aU:Gr w4 W5:=by rw[aA];exact(Gr.refl _).Li _
   have aV:Hid (∀W,Gr W5 W->W.L ⟨w4.heap.size,0,I⟩=U (Z Y pt)/\W.L ⟨w4.heap.size,1,I⟩=U (Z Y yr)/\W.L ⟨w4.heap.size,2,I⟩=U (Z Y at_)):=AB λW hg=>by
    have hl:w4.heap.size<W5.heap.size:=by rw[aA];simp
    rw[hg.cell (p:=⟨w4.heap.size,0,I⟩) hl,hg.cell (p:=⟨w4.heap.size,1,I⟩) hl,hg.cell (p:=⟨w4.heap.size,2,I⟩) hl,aA,AF _ _ _ _ rfl,AF _ _ _ _ rfl,AF _ _ _ _ rfl];exact⟨rfl,rfl,rfl⟩
   have aB:=AB aU;have b9:=AB aA;have aJ:=AB a8;obtain⟨f,hf⟩:∃f:Eu,f=⟨pt,yr,at_⟩:=⟨_,rfl⟩;have HF:=AB hf;clear aU aA a8 hf;go_wp2;rw[<-b9.out];go_loopw [8,9] (λm i wr=>∃t:Nat,t<=fs.L/\i=Z Y t/\m=.bool (Kq fs f t)/\Gr W5 wr) (λ_ i _=>fs.L-(bn i).L)
   case atStart=>exact⟨0,by omega,rfl,rfl,.refl _⟩
   case round =>
    obtain⟨t,ht,rfl,rfl,hg⟩:=hrel;have HG:=AB hg;by_cases htk:t<fs.L
    .obtain⟨b,o,rfl,hb,c0,c1,c2⟩:=(aJ.out.gr (AD _) (aB.out.trans HG.out)).at_ htk;obtain⟨d0,d1,d2⟩:=aV.out _ hg
     have a7:Hid (Kq fs f (t+1)=(Kq fs f t||(if((FC fs t).pt:Int)=pt then(FC fs t).yr==yr else bW))):=AB (by
      show(Kq fs f t||Ik (FC fs t) f)=_;rw[HF.out];unfold Ik;by_cases e:(FC fs t).pt=pt
      .rw[AJ (by omega)];simp[e]
      .rw[AE (by omega)];simp[e])
     generalize Kq fs f t=m at a7;generalize FC fs t=y at c0 c1 c2 a7;obtain⟨ypt,yyr,yat⟩:=y;unfold i64 at c0 c1 c2;dsimp only at c0 c1 c2 a7;clear hg;by_cases e1:(ypt:Int)=pt
     .rw[AJ e1] at a7;cases m
      all_goals
       go_wp2;go_region;go_wp2;go_roundw
       case rel=>exact⟨t+1,by omega,by go_num,by rw[a7.out];simp,by first|exact HG.out|exact HG.out.drew⟩
       case measure=>simp[Proofs.intOf];omega
     .rw[AE e1] at a7;have e1b:((ypt:Int)==pt)=false:=by simpa using e1
      cases m
      all_goals
       go_wp2;go_region;go_wp2;go_roundw
       case rel=>exact⟨t+1,by omega,by go_num,by rw[a7.out];simp,by first|exact HG.out|exact HG.out.drew⟩
       case measure=>simp[Proofs.intOf];omega
    .have aW:t=fs.L:=by omega
     have HMF:Hid (∀b,Kq fs f t=b->Kq fs f fs.L=b):=AB λb h=>by rw[<-aW];exact h
     have hzw:=hg.size;have bH:=aB.out.size;have aG:Hid (wr.S W0.heap.size 86 3 (F vA fs.L vc) fs.L (G6 fs)):=AB (da aI.out (show hb<W0.heap.size by omega) (.EF (aB.out.trans hg)));have aK:=AB (b8.out.trans (.EF (aB.out.trans hg)));have HH5:=AB (HH4.out.gr (aB.out.trans hg));obtain⟨d0,d1,d2⟩:=aV.out _ hg;clear hg aW;by_cases hm:Kq fs f t=cd
     .rw[hm];go_wp2;go_roundw
      case rel=>exact⟨j-1,by omega,by go_num,fs,by omega,aG.out,aD.out,aF.out,HH5.out.more (by omega),aK.out⟩
      case measure=>simp[Proofs.intOf];omega
     .rw[Bool.not_eq_true] at hm;have HM:=AB hm;rw[hm];clear hm;have aH:=aG.out;go_wp2_with (at_builtin;refine Af rfl _ _ rfl W0.heap.size _ _ _ rfl (aH.Li _) ⟨wr.heap.size,0,I⟩ 1 [Z Y pt,Z Y yr,Z Y at_] rfl rfl ?c1 ?c2 ?c3 ?c4 ?_)
      case c1 =>
       intro q z hq;rw[cw,AU,AF _ _ _ _ (by simp)]
       match q,hq with
       |0,hq=>exact hq
       |1,hq=>exact hq
       |2,hq=>exact hq
       |q+3,hq=>simp at hq
      case c2=>intro z hz;simp at hz;rcases hz with rfl|rfl|rfl<;>rfl
      case c3=>omega
      case c4=>have:=aK.out.size;simp;omega
      intro u' w9 hown' hgrow hd;have hk9:=gC aK.out aG.out (AD _) hgrow hd;have hh9:=eN HH5.out aG.out (show hb<W0.heap.size by omega) hgrow;have e1:G6 (fs++[f])=G6 fs++[Z Y pt,Z Y yr,Z Y at_]:=by rw[uu,HF.out];rfl
      have bA:Hid (w9.S W0.heap.size 86 3 u' (fs++[f]).L (G6 (fs++[f]))):=AB (by rw[e1,B1,zF];exact hown');have bB:=AB hk9;have bC:=AB hh9;clear hown' hgrow hd aH hk9 hh9 e1;go_wp2;go_roundw
      case rel=>exact⟨j-1,by omega,by go_num,fs++[f],by simp;omega,bA.out,λy hy=>by
       obtain hy|hy:=BK.1 hy
       .exact aD.out y hy
       .simp only[AM,AK,or_false] at hy;subst hy;rw[HF.out]
        exact⟨aX,by show 0<=(yr:Int)/\(yr:Int)<=30;omega,by show 0<=(at_:Int)/\(at_:Int)<=9;omega⟩,aF.out.push (HMF.out _ HM.out),bC.out.more (by omega),bB.out⟩
      case measure=>simp[Proofs.intOf];omega
  .have aY:j=0:=by omega
   subst aY;obtain⟨vA,vc,rfl,a8⟩:=E6.Fw zm;have aT:fs.L<=vc:=by
    obtain⟨_,h0⟩|⟨g,cap',cur,e,_,_,h1,_⟩:=zm.2
    .omega
    .injection e with _ _ e2;omega
   have aD:=AB aC;have aF:=AB hno;have HH:=AB hh;have HK:=AB a6;have HO:=AB zm;have aJ:=AB a8;clear aC hno hh a6 zm a8;go_wp2;go_ret;refine⟨fs,vA,vc,rfl,by omega,aT,aD.out,aF.out,λhn=>?_,HH.out.more (by omega),KT.trans (KT.EF aZ.out) HK.out⟩;obtain⟨b,o,e,hb',hc⟩:=aJ.out hn;refine⟨b,o,e,⟨?_,hb'⟩,hc⟩;subst e;obtain⟨e,_⟩|⟨g,cap',cur,e,h1,_⟩:=HO.out.2
   .cases e
   .cases e;omega
def xh {w:E}{a o:Nat}{l:List Eu}(h:∀i c,l[i]?=U c->Jt w a (o+i*3) c)(zk:(G6 l).L=l.L*3)(j:Nat)(v:bh)(hj:(G6 l)[j]?=U v):w.L ((⟨a,o,I⟩:cq).add j)=U v:=by
 have zY:j<l.L*3:=by have:=(Bd.1 hj).1;omega
 have hi:j / 3<l.L:=by omega
 obtain⟨h0,h1,h2⟩:=h (j / 3) _ (AG hi);rw[cw];have e:j=j / 3*3+j % 3:=by omega
 rw[e,iO l (j / 3) _ (AG hi) (j % 3) (by omega)] at hj;rw[e];rcases(show j % 3=0\/j % 3=1\/j % 3=2 by omega) with q|q|q<;>rw[q] at hj ⊢
 .exact h0.trans hj
 .exact h1.trans hj
 .exact h2.trans hj
def OE (l:List Eu):∀v∈G6 l,v.oneCell'=true:=by
 induction l with
 |nil=>intro v hv;simp[G6] at hv
 |cons c l ih =>
  intro v hv;obtain hv|hv:=BK.1 hv
  .simp only[Oz,AM,AK,or_false] at hv;rcases hv with rfl|rfl|rfl<;>rfl
  .exact ih v hv
def ML {w:E}{base b B hc:Nat}{A:Option cq}{l:List Eu}(h0:w.S base 86 3 (.slice (U ⟨b,0,I⟩) 0 0) 0 [])(hh:E6 w B A l)(hl:l.L<=20)(hbase:base<=w.heap.size) :
  ∃v' w',(di #[33,33] 33 #[.slice (U ⟨b,0,I⟩) 0 0,F A l.L hc]).run DP w=.ok v' w'/\Gr w w'/\w'.S base 86 3 v' l.L (G6 l):=by
 have ht:=Sq.Ly;obtain⟨i0,hi,zF,zE,zD⟩:=ek Dy;by_cases hn:l=[]
 .subst hn;refine⟨.slice (U ⟨b,0,I⟩) 0 0,w,?_,.refl w,h0⟩;cases A<;>simp[di,cK ht,sizeOf,fW,hi,e6,eo,loadCells,loadCellsFrom,storeCells]
 .have a6:=dt.2 hn;obtain⟨a,o,rfl,hb,zW⟩:=hh hn;have hnews:=xh zW (JJ l);obtain⟨v',w',hr,h2,_⟩:=run_append_own (P:=DP) w base 33 33 86 i0 _ 3 24 ht hi zF zE zD rfl (by decide) _ 0 [] h0 ⟨a,o,I⟩ l.L hc (G6 l) (JJ l) hnews (OE l) (by unfold maxLen;omega) (by omega) hbase
  have zz:=run_append_grow (P:=DP) w 33 33 86 i0 _ ht hi zF ⟨b,0,I⟩ 0 0 [] (by simp) (λj u hj=>by simp at hj) ⟨a,o,I⟩ l.L hc (G6 l) (by rw[zE];exact JJ l) hnews (by omega) (by omega) (by
   rw[zD];exact growslice_fits (by omega) (by omega))
  rw[hr] at zz;injection zz with _ e2
  have hg:Gr w w':=e2▸(Gr.refl w).drew.Li _;exact⟨v',w',hr,hg,by simpa using h2⟩
def lD (a:Option cq)(n k:Nat)(w:E):(binOp .eql 33 (.slice a n k) (.slice I 0 0)).run DP w=.ok (.bool a.L) w:=by
 have h:=run_equal_slice_nil (P:=DP) w 33 86 a n k Sq.Ly;simp[binOp,h]
def sP {w w':E}{ops:Array gg}{rest:List gg}{o:gg}{a:Act}{Q:fq->Act->E->Prop}{v1 v2 v':bh}(hgd:o.guard=I)(s x:fu)(ho:o.op=.call { callee:=.builtin .append,args:=#[s,x],argTypes:=#[33,33] })(a6:o.type=33)(hs:a.eval s=v1)(hx:a.eval x=v2)
  (hr:(di #[33,33] 33 #[v1,v2]).run DP w=.ok v' w') (h:wpList DP ops Q rest (a.put o.dst v') w'):wpList DP ops Q (o::rest) a w :=
 wpList_plain hgd λ_ hK=>by
  rw[<-a6] at hr;unfold Oper.wp execOp;simp only[ho,resolve,invoke,builtin,Sem.run_bind,Sem.run_pure,Result.andThen_ok,CA,Ca,CB,hs,hx];rw[a6] at hr ⊢;rw[hr];exact hK _ _ h
def sQ (A:Option cq)(k:Nat)(l:List Eu)(w:E)(h:E6 w w.heap.size A l)(hl:l.L<=20):bw DP 150 #[F A l.L k] w λe w'=>∃v,e=.L v/\Gr w w'/\w'.S w.heap.size 86 3 v l.L (G6 l):=by
 cases A with
 |none =>
  have hn:l=[]:=by
   by_cases e:l=[]
   .exact e
   .obtain⟨b,o,q,_⟩:=h e;cases q
  subst hn;have heq:=lD I 0 k w;go_enter Sq.func150,e9;go_wp2;go_ret;exact⟨_,rfl,.refl _,Bs _ _ _ _⟩
 |some a =>
  have hg:Gr w (w.Li (L #[] 86)):=(Gr.refl w).Li _;obtain⟨v',w',hr,zI,ho⟩:=ML (w:=w.Li (L #[] 86)) (base:=w.heap.size) (b:=w.heap.size) (hc:=k) (A:=U a) (l:=l) ⟨rfl,.inr ⟨w.heap.size,0,#[],rfl,AD _,heap_alloc_new w _,AD _,Bc _,by simp,by simp⟩⟩ (h.gr (AD _) hg) hl (by simp);have HO:=AB ho;have HG:=AB (hg.trans zI);have heq:=lD (U a) l.L k w;have HR:=AB hr;clear h hg zI ho hr
  go_enter Sq.func150,e9;go_wp2_with (at_builtin;refine sP rfl _ _ rfl rfl rfl rfl HR.out ?_);go_ret;exact⟨_,rfl,HG.out,HO.out⟩
structure BW (ob cb gb n:Nat)(s:BS)(W:E):Prop where
 out:W.heap[ob]?=U (L #[.slice (U ⟨gb,0,I⟩) n n] 90 (0,0))
 OG:W.heap[cb]?=U (L #[.bool s.2] 4 (0,0))
 row:W.heap[gb]?=U (.cells (s.1.map (Z Y)).Li 94 (0,0))
 len:s.1.L=n*2
 ne:ob≠cb/\ob≠gb/\cb≠gb
section
variable {ob cb gb n:Nat} {s:BS} {W W':E}
def BW.at_ (h:BW ob cb gb n s W){i:Nat}(hi:i<n*2):W.L ⟨gb,i,I⟩=U (Z Y (D5 s.1 i))/\W.H ⟨gb,i,I⟩=false:=by
 constructor
 .unfold cf;rw[h.row];have:i<s.1.L:=by rw[h.len];exact hi
  simp[D5,AG this]
 .unfold ea;rw[h.row];simp
def BW.keep (h:BW ob cb gb n s W)(k:∀b,b=ob\/b=cb\/b=gb->W'.heap[b]?=W.heap[b]?):BW ob cb gb n s W' :=
 ⟨(k _ (.inl rfl)).trans h.out,(k _ (.inr (.inl rfl))).trans h.OG,(k _ (.inr (.inr rfl))).trans h.row,h.len,h.ne⟩
def BW.lt (h:BW ob cb gb n s W):ob<W.heap.size/\cb<W.heap.size/\gb<W.heap.size:=⟨(AC.1 h.out).1,(AC.1 h.OG).1,(AC.1 h.row).1⟩
def BW.gr (h:BW ob cb gb n s W)(g:Gr W W'):BW ob cb gb n s W':=h.keep λb hb=>g.Ly.Lo b (by have:=h.lt;rcases hb with rfl|rfl|rfl<;>omega)
def BW.SS (h:BW ob cb gb n s W)(i:Nat)(m:Int):BW ob cb gb n (s.1.SS i m,cd) ((W.LE ⟨gb,i,I⟩ (Z Y m)).LE ⟨cb,0,I⟩ (.bool cd)):=by
 obtain⟨n1,n2,n3⟩:=h.ne;refine⟨((AP _ _ _ _ (by show ob≠cb;exact n1)).trans (AP _ _ _ _ (by show ob≠gb;exact n2))).trans h.out,?_,?_,by rw[Cu];exact h.len,h.ne⟩
 .have e1:(W.LE ⟨gb,i,I⟩ (Z Y m)).heap[cb]?=U (L #[.bool s.2] 4 (0,0)):=(AP _ _ _ _ (by show cb≠gb;exact n3)).trans h.OG;exact Eh (u:=.bool cd) (i:=0) e1
 .refine(AP _ _ _ _ (by show gb≠cb;exact λe=>n3 e.LT)).trans ?_;rw[Eh h.row];congr 2;simp[List.map_set]
end
def iQ (ob cb gb n p:Nat)(m:Int)(s:BS)(w:E)(h:BW ob cb gb n s w)(hp:p<n)(hn:n<=4) :
  bw DP 73 #[Z Y p,Z Y m,.S (U ⟨ob,0,I⟩),.S (U ⟨cb,0,I⟩)] w λe w'=>e=.L (.tuple #[])/\BW ob cb gb n (I2 p m s) w'/\KT (λb=>b=cb\/b=gb) w w':=by
 have HB:=AB h;have c0:w.L ⟨ob,0,I⟩=U (.slice (U ⟨gb,0,I⟩) n n):=(DU h.out 0).1;obtain⟨c1,c2⟩:=h.at_ (i:=p*2) (by omega);have c4:w.L ⟨cb,0,I⟩=U (.bool s.2):=(DU h.OG 0).1;have c5:=(DU h.OG 0).2;have c6:(w.LE ⟨gb,p*2,I⟩ (Z Y m)).L ⟨cb,0,I⟩=U (.bool s.2):=(AY (AP _ _ _ _ (by show cb≠gb;exact h.ne.2.2))).trans c4;have c7:(w.LE ⟨gb,p*2,I⟩ (Z Y m)).H ⟨cb,0,I⟩=false:=(BR (AP _ _ _ _ (by show cb≠gb;exact h.ne.2.2))).trans c5
 have zY:=h.lt;have a8:=AB h.ne;unfold I2;have a6:=λm=>h.SS (p*2) m;have a7:=AB a6;clear h a6;generalize D5 s.1 (p*2)=y at c1;by_cases hy:y<m
 .rw[AJ hy];go_enter Sq.func73,fx;go_wp2;exact bo (bq eG _ _ _) rfl ⟨rfl,a7.out m,(KT.LE _ (.inr rfl) _).trans (KT.LE _ (.inl rfl) _)⟩
 .rw[AE hy];go_enter Sq.func73,fx;go_wp2;exact bo (bq eG _ _ _) rfl ⟨rfl,HB.out,.refl _ _⟩
def fY (ob cb gb n p:Nat)(m:Int)(s:BS)(w:E)(h:BW ob cb gb n s w)(hp:p<n)(hn:n<=4) :
  bw DP 74 #[Z Y p,Z Y m,.S (U ⟨ob,0,I⟩),.S (U ⟨cb,0,I⟩)] w λe w'=>e=.L (.tuple #[])/\BW ob cb gb n (H8 p m s) w'/\KT (λb=>b=cb\/b=gb) w w':=by
 have HB:=AB h;have c0:w.L ⟨ob,0,I⟩=U (.slice (U ⟨gb,0,I⟩) n n):=(DU h.out 0).1;obtain⟨c1,c2⟩:=h.at_ (i:=p*2+1) (by omega);have c4:w.L ⟨cb,0,I⟩=U (.bool s.2):=(DU h.OG 0).1;have c5:=(DU h.OG 0).2;have c6:(w.LE ⟨gb,p*2+1,I⟩ (Z Y m)).L ⟨cb,0,I⟩=U (.bool s.2):=(AY (AP _ _ _ _ (by show cb≠gb;exact h.ne.2.2))).trans c4
 have c7:(w.LE ⟨gb,p*2+1,I⟩ (Z Y m)).H ⟨cb,0,I⟩=false:=(BR (AP _ _ _ _ (by show cb≠gb;exact h.ne.2.2))).trans c5;have zY:=h.lt;have a8:=AB h.ne;unfold H8;have a6:=λm=>h.SS (p*2+1) m;have a7:=AB a6;clear h a6;generalize D5 s.1 (p*2+1)=y at c1;by_cases hy:m<y
 .rw[AJ hy];go_enter Sq.func74,fz;go_wp2;exact bo (bq eH _ _ _) rfl ⟨rfl,a7.out m,(KT.LE _ (.inr rfl) _).trans (KT.LE _ (.inl rfl) _)⟩
 .rw[AE hy];go_enter Sq.func74,fz;go_wp2;exact bo (bq eH _ _ _) rfl ⟨rfl,HB.out,.refl _ _⟩
section
variable {R S:E->E->Prop} {H:E->Prop} {ops:Array gg} {Q:fq->Act->E->Prop} {n k:Nat} {ds:List Deferred} {u0:Nat->bh} {w0:E} {l:List (bh->E->Prop)} {d:Option Tmp} {g:Option (Nat×Bool)} {ty:dn} {a:Nat} {u:Nat->bh} {w:E}
def qD {i:Nat}{f:FuncId}{args:Array fu}{ats:Array dn}{t:dn}{V:bh->E->Prop}(h:opAt ops i=U (d,.call { callee:=.value (.tmp a),args:=args,argTypes:=ats },g,t)){fn:Func}(hf:DP.L[f]?=U fn)(vals a6:Array bh)
  (hu:u a=.func (.func f) #[] a6) (ha:∀ev,Nb n u ev->args.map ev=vals) (hc:bw DP f (vals++a6) w λe w'=>∃v,e=.L v/\R w w'/\V v w') (hl:Lets ops n u g) (a7:a<n) (hn:(fn.name == "runtime.NumGoroutine")=bW) (hb:fn.body.L=bW):Done R DP ops Q n ds i V u w:=by
 refine iP h hl λo h1 h2 h3=>?_;unfold Oper.wp;rw[dR,h2,kk hf hu a7 ha hn hb,Oper.upon_enter];refine hc.LT ?_;rintro e w' ⟨v,rfl,h5,h6⟩;refine⟨v,?_,h5,h6⟩;rw[h1];exact dZ
def PX {f:FuncId}{fn:Func}{args:Array fu}{ats:Array dn}(xs:List bh)(a6 vals:Array bh)(hf:DP.L[f]?=U fn)(pa:At R ops n u0 w0 k l a (.func (.func f) #[] a6))(js:List Nat)(V:bh->E->Prop)(hm:Jf R V)(hc:∀w,R w0 w->bw DP f vals w λe w'=>∃v,e=.L v/\S w w'/\V v w')
  (h:opAt ops k=U (d,.call { callee:=.value (.tmp a),args:=args,argTypes:=ats },g,ty):=by exact rfl) (ha:MJ ops n k js args.toList=true:=by kernel_rfl) (hx:js.map (Vr l)=xs.map (λx v _=>v=x):=by exact rfl) (hv:xs.Li++a6=vals:=by simp)
  (h1:Mn ops n k g=true:=by kernel_rfl) (h2:Gv l g=λv _=>v=.bool (gb g):=by exact rfl) (hn:(fn.name == "runtime.NumGoroutine")=false:=by kernel_rfl) (hb:fn.body.L=false:=by kernel_rfl):St R S H ops Q n ds u0 w0 k l V :=
 λ_=>⟨hm,λu w hg hf' hl hd _=>qD h hf xs.Li a6 (pa.2 u w hg hf' hl hd) (λev he=>by
  rw[<-Array.toList_inj,CV]
  exact kK hd he js _ xs ha hx) (by rw[hv];exact hc w hg) (cx hd h1 h2) pa.1 hn hb⟩
def sR {m:Nat}[Goes R](C:Nat->E->Prop)(s:Nat)(P:E->Prop)(hP:∀w w',R w w'->P w->P w')(dS:Nat)(hd:IQ ops dS=cd){id:Nat}(a8:∀k,C k w0.drew)(X:PN .any ops m)(l:List (bh->E->Prop))(a7:KW R l)
  (step:IM (λi=>∀u w,R w0 w->Fr ops u u0->Late ops i u u0->NB ops (Vl l) i u w->C i w->Done (Le R C .any ops i) DP ops Q n ds i (Vl l i) u w) m) (hs:∀v w,Vl l s v w->P w)
  (fin:∀u w,R w0 w->Fr ops u u0->Ends ops (Vl l) m u w->(s<m->P w)->wpOps DP ops Q (bk m (ops.size-m)) ⟨T n u,ds⟩ w):(bl id ops cd).wp DP Q ⟨T n u0,ds⟩ w0:=by
 refine wp_region_any mixed ?_;have a6:∀i,i<ops.size->(Array.replicate ops.size bW).LE i cd=false:=λi hi=>by
  rw[Bx,By,AJ hi];rfl
 have aB:m<=ops.size:=by
  obtain h|h:=X.last
  .omega
  .have:=h.size;omega
 refine pi C s dS (λ_ w=>P w) (λ_ _ _ h=>hP _ _ h) (λ_ _ _ _ _ h=>h) X (λhsm i hi he=>?_) (Vl l) (λi v w w' hg h=>a7.at_ i v w w' hg h) (λi hi u w h1 h2 h3 h4 h5=>(step.at_ i hi u w h1 h2 h3 h4 h5).imp λv w' h=>⟨h,λe=>hs v w' (e▸h)⟩) fin ops.size _ u0 _ (by simp) ?_ (Goes.drew w0) (λ_ _=>rfl) (λi hi hl=>?_) (λi _ hi=>a6 i hi) (λi hi hl=>?_) (λk _=>a8 k) λhsm hl=>?_
 .exfalso;unfold IQ at hd;rw[Bb] at hd;rw[AL hi] at he;have:=hd _ (Array.getElem_mem hi);have aA:ops[i].dst=U dS:=he;rw[aA] at this;simp at this
 .rw[CZ.2 λi hi=>by rw[a6 i (BM.1 hi)];rfl,List.length_range]
 .rw[a6 i (by omega)] at hl;cases hl
 .rw[a6 i (by omega)] at hl;cases hl
 .rw[a6 s (by omega)] at hl;cases hl
def PY {C:Nat->E->Prop}{m:Nat}[Goes R]{id:Nat}(s dS:Nat)(fin:∀u w,R w0 w->Fr ops u u0->Ends ops (Vr l) m u w->(∃v,Vr l s v w)->wpOps DP ops Q (bk m (ops.size-m)) ⟨T n u,ds⟩ w)(hd:IQ ops dS=true:=by kernel_rfl)(hsm:s<m:=by decide)(hk:k=m:=by exact rfl)(h:O8 R C ops Q n ds m u0 w0 k l):(bl id ops cd).wp DP Q ⟨T n u0,ds⟩ w0:=by
 subst hk;have hX:=h.txt;refine sR C s (λw=>∃v,Vr l s v w) (λw w' r ⟨v,hv⟩=>⟨v,h.LT s v w w' r hv⟩) dS hd h.c0 hX l.reverse (gD h.LT) (IM.of λi hi=>?_) (λv w hv=>⟨v,hv⟩) λu w a b c d=>fin u w a b c (d hsm)
 have:=h.step i hi (by
  obtain h|h:=hX.last
  .omega
  .have:=h.size;omega) []
 rw[Ct] at this;exact this
end
def IP (W:E)(gb:Nat)(l:FL):Prop:=∃cs,W.heap[gb]?=U (.cells cs 86 (0,0))/\∀i c,l[i]?=U c->cs[i*3]?=U (i64 c.pt)/\cs[i*3+1]?=U (i64 c.yr)/\cs[i*3+2]?=U (i64 c.at_)
def jt (W:E)(gb o:Nat)(f:Eu):World:=((W.LE ⟨gb,o,I⟩ (i64 f.pt)).LE ⟨gb,o+1,I⟩ (i64 f.yr)).LE ⟨gb,o+2,I⟩ (i64 f.at_)
section
variable {W W':E} {gb:Nat} {l:FL}
def IP.keep (h:IP W gb l)(k:W'.heap[gb]?=W.heap[gb]?):IP W' gb l:=let ⟨cs,h1,h2⟩:=h;⟨cs,k.trans h1,h2⟩
def IP.lt (h:IP W gb l):gb<W.heap.size:=let ⟨_,h1,_⟩:=h;(AC.1 h1).1
def IP.gr (h:IP W gb l)(g:Gr W W'):IP W' gb l:=h.keep (g.Ly.Lo gb h.lt)
def IP.at_ (h:IP W gb l){i:Nat}(hi:i<l.L):Jt W gb (i*3) (FC l i):=by
 obtain⟨cs,h1,h2⟩:=h;obtain⟨a,b,c⟩:=h2 i (FC l i) (by unfold FC;rw[AG hi];rfl);unfold Jt cf;rw[h1];exact⟨a,b,c⟩
def IP.fro (h:IP W gb l)(o:Nat):W.H ⟨gb,o,I⟩=false:=by
 obtain⟨cs,h1,_⟩:=h;unfold ea;rw[h1];simp
def IP.fus (h:IP W gb l):E6 W W.heap.size (U ⟨gb,0,I⟩) l:=λ_=>⟨gb,0,rfl,h.lt,λi c hi=>by
 obtain⟨cs,h1,h2⟩:=h;obtain⟨a,b,c⟩:=h2 i c hi;unfold Jt cf;rw[h1,AU]
 exact⟨a,b,c⟩⟩
def IP.put (h:IP W gb l){i:Nat}(hi:i<l.L)(f:Eu):IP (jt W gb (i*3) f) gb (l.SS i f):=by
 obtain⟨cs,h1,h2⟩:=h;refine⟨((cs.L (i*3) (i64 f.pt)).L (i*3+1) (i64 f.yr)).L (i*3+2) (i64 f.at_),Eh (Eh (Eh h1)),λj c hj=>?_⟩;obtain⟨a1,a2,a3⟩:=h2 i _ (AG hi);have b1:=(AC.1 a1).1;have b2:=(AC.1 a2).1;have b3:=(AC.1 a3).1;by_cases e:j=i
 .subst e;rw[List.getElem?_set_self hi] at hj;cases hj;refine⟨?_,?_,?_⟩
  .rw[AV (by omega),AV (by omega),BG b1]
  .rw[AV (by omega),BG (by simpa using b2)]
  .rw[BG (by simpa using b3)]
 .rw[List.getElem?_set_ne (Ne.symm e)] at hj;obtain⟨c1,c2,c3⟩:=h2 j c hj;refine⟨?_,?_,?_⟩
  .rw[AV (by omega),AV (by omega),AV (by omega)];exact c1
  .rw[AV (by omega),AV (by omega),AV (by omega)];exact c2
  .rw[AV (by omega),AV (by omega),AV (by omega)];exact c3
def po (W:E)(gb o:Nat)(f:Eu):KT (·=gb) W (jt W gb o f):=by
 unfold jt;have k:∀(W:E) (o:Nat) (v:bh),KT (·=gb) W (W.LE ⟨gb,o,I⟩ v):=λW o v=>KT.LE (T:=λx=>x=gb) W (p:=⟨gb,o,I⟩) rfl v;exact((k W o _).trans (k _ (o+1) _)).trans (k _ (o+2) _)
def IP.Fw {base:Nat}{v:bh}(h:W.S base 86 3 v l.L (G6 l)):(l=[]/\∃A c,v=F A 0 c)\/∃g c,v=.slice (U ⟨g,0,I⟩) l.L c/\base<=g/\IP W g l:=by
 obtain⟨rfl,h0⟩|⟨g,cap,cur,rfl,hb,hg,a6⟩:=h.2
 .exact .inl ⟨Bf (by simpa using h0),I,0,rfl⟩
 .refine .inr ⟨g,cap,rfl,hb,cur,hg,λi c hi=>?_⟩;have hc:=h.cells (g:=g) rfl;have key:∀j,j<3->∀u,(Oz c)[j]?=U u->cur[i*3+j]?=U u:=λj hj u hu=>by
   have:=hc (i*3+j) u (by rw[iO l i c hi j hj];exact hu);have e:(⟨g,0,I⟩:cq).add (i*3+j)=⟨g,i*3+j,I⟩:=by
    unfold Addr.add;split
    .rename_i h0;simp;first|done|omega
    .simp
   rw[e] at this;unfold cf at this;rw[hg] at this;exact this
  exact⟨key 0 (by omega) _ rfl,key 1 (by omega) _ rfl,key 2 (by omega) _ rfl⟩
end
def Kr:Value:=.func (.func 120) #[] #[]
def OH (kb:Nat):Value:=.func (.func 152) #[] #[.S (U ⟨kb,0,I⟩)]
noncomputable abbrev qE (k:Nat):Array Oper:=OC k Tryz.f152
noncomputable abbrev cX (k:Nat):Array Oper:=OC k Tryz.f218
example:G9 .any (qE 1) 7=true:=by decide +kernel
example:G9 .any (cX 4) 17=true:=by decide +kernel
example:G9 .any (cX 6) 16=true:=by decide +kernel
example:bk 16 ((cX 6).size-16)=[16,17]:=by decide +kernel
def xi (f g:Eu)(kb:Nat)(w:E)(hk:w.L ⟨kb,0,I⟩=U Kr)(hkb:kb<w.heap.size) :
  bw DP 152 #[Js f,Js g,.S (U ⟨kb,0,I⟩)] w λe w'=>e=.L (Z Y (cI f.yr g.yr))/\Gr w w':=by
 obtain⟨W,hW⟩:∃W:E,W=(w.Li (L #[Z Y f.pt,Z Y f.yr,Z Y f.at_] 86)).Li (L #[Z Y g.pt,Z Y g.yr,Z Y g.at_] 86):=⟨_,rfl⟩;have hg:Gr w W:=hW▸((Gr.refl w).Li _).Li _;have hz:W.heap.size=w.heap.size+2:=by rw[hW];simp
 have HK:Hid (∀W',Gr W W'->W'.L ⟨kb,0,I⟩=U Kr/\Jt W' w.heap.size 0 f/\Jt W' (w.heap.size+1) 0 g):=AB λW' a6=>by
  have k:∀b o,b<W.heap.size->W'.L ⟨b,o,I⟩=W.L ⟨b,o,I⟩:=λb o hb=>a6.cell hb;have e1:W.heap[w.heap.size]?=U (L #[Z Y f.pt,Z Y f.yr,Z Y f.at_] 86 (0,0)):=by
   rw[hW,ae _ _ (by simp)];exact heap_alloc_new _ _
  have e2:W.heap[w.heap.size+1]?=U (L #[Z Y g.pt,Z Y g.yr,Z Y g.at_] 86 (0,0)):=by
   rw[hW];exact ay _ _ (by simp)
  refine⟨(k _ _ (by omega)).trans ((hg.cell hkb).trans hk),⟨(k _ _ (by omega)).trans (DU e1 0).1,(k _ _ (by omega)).trans (DU e1 1).1,(k _ _ (by omega)).trans (DU e1 2).1⟩,⟨(k _ _ (by omega)).trans (DU e2 0).1,(k _ _ (by omega)).trans (DU e2 1).1,(k _ _ (by omega)).trans (DU e2 2).1⟩⟩
 have HW:=AB hW;have HG:=AB hg;clear hW hg hz hk;unfold Js i64;go_enter Sq.func152,Tryz.ntmps152;go_wp2_with fail;rw[<-HW.out];rename_i a7;refine bI 13 rfl λu hu=>?_;refine cv (R:=Gr) (ops:=qE 1) 7<|Ea (Fj (FI (hu 2)) λw hg=>(HK.out w hg).1)<|Ea (MH (Js f) (FI (hu 3)) rfl (λw hg ev he=>?_))<|Ea (PX [Js f] #[] #[Js f] Sq.func120 (Ed 0) [1] (λv _=>v=Z Y f.yr) (aX _) (λw hg=>(pk f w).LT λ_ _ h=>⟨_,h.1,h.2,rfl⟩)) <|
  Ea (Fj (FI (hu 2)) λw hg=>(HK.out w hg).1)<|Ea (MH (Js g) (FI (hu 4)) rfl (λw hg ev he=>?_))<|Ea (PX [Js g] #[] #[Js g] Sq.func120 (Ed 3) [4] (λv _=>v=Z Y g.yr) (aX _) (λw hg=>(pk g w).LT λ_ _ h=>⟨_,h.1,h.2,rfl⟩)) <|
  Ea (RQ Sq.func139 [2,5] (λw hg=>(lW f.yr g.yr w).LT λ_ _ h=>⟨h.1,h.2▸Gr.refl _⟩))<|Lf λu' w' hg hf hv=>?_
 .obtain⟨_,⟨c0,c1,c2⟩,_⟩:=HK.out w hg;clear hg;unfold Js i64 at *;go_simp
 .obtain⟨_,_,⟨c0,c1,c2⟩⟩:=HK.out w hg;clear hg;unfold Js i64 at *;go_simp
 .have er:bk 7 ((qE 1).size-7)=[7]:=by kernel_rfl
  rw[er,br];refine lB (d:=U 5) rfl ?_;have e12:=hv.at_ 6 12;rw[aS (n:=13) [6,7,8,9,10,11,12,5] (by kernel_rfl) rfl hu (OD hf (by kernel_rfl) _)];simp only[Bg,Bq,Be,Bh];rw[show Hq u' (U 5) (u' 12) 5=Z Y (cI f.yr g.yr) from(bQ ..).trans e12];refine a7 _ _ ?_;go_wp2;go_ret;exact⟨rfl,HG.out.trans hg⟩
def Ag {R:E->E->Prop}{ops:Array gg}{Q:fq->Act->E->Prop}{n i:Nat}{ds:List Deferred}{V:bh->E->Prop}{u:Nat->bh}{w:E}{d:Option Nat}{K:Act->E->Prop}(h:Done R DP ops Q n ds i V u w)(hd:(ops[i]?).bind (·.dst)=d)(hK:∀v w',R w w'->V v w'->K ⟨T n (Hq u d v),ds⟩ w'):wpOp DP ops Q i K ⟨T n u,ds⟩ w:=by
 subst hd;exact sx (λ_ _ ⟨v,e,h2,h3⟩=>e▸hK v _ h2 h3) h
structure Sw (gb:Nat)(m m1:FL)(w w':E):Prop where
 kt:KT (·=gb) w w'
 a:IP w gb m->IP w' gb m\/IP w' gb m1
 b:IP w gb m1->IP w' gb m1
instance {gb:Nat} {m m1:FL}:Goes (Sw gb m m1):={ refl:=λw=>⟨.refl _ _,.inl,id⟩,trans:=λh k=>⟨h.kt.trans k.kt,λx=>(h.a x).elim k.a λy=>.inr (k.b y),k.b ∘ h.b⟩,drew:=λw=>⟨KT.EF (Gr.refl w).drew,λh=>.inl (h.keep rfl),λh=>h.keep rfl⟩ }
section
variable {gb kb n cap j:Nat} {m:FL} {W:E} {u:Nat->bh} {Q:fq->Act->E->Prop} (h0:u 0=.slice (U ⟨gb,0,I⟩) n cap) (h1:u 1=Z Y 0) (h3:u 3=OH kb) (h9:u 9=Z Y ((j+1:Nat):Int)) (hB:IP W gb m) (hl:m.L=n) (hj:j+1<n) (hn:n<=19)
include h0 h1 h3 h9 hB hl hj hn
theorem xj (hk:W.L ⟨kb,0,I⟩=U Kr)(hkb:kb<W.heap.size)
  (hK:∀W' u',Gr W W'->Fr (cX 4) u' u->u' 34=.bool (df ((FC m (j+1)).yr<(FC m j).yr))->Q .normal ⟨T 53 u',[]⟩ W'):(bl 4 (cX 4) cd).wp DP Q ⟨T 53 u,[]⟩ W:=by
 have HB:=AB λw (r:Gr W w)=>hB.gr r;have HC:Hid (∀w,Gr W w->w.L ⟨kb,0,I⟩=U Kr/\kb<w.heap.size):=AB λw r=>⟨(r.cell hkb).trans hk,AI hkb r.size⟩;have Lu:df ((0:Int)<((j+1:Nat):Int))=true:=Ci (by omega);have a8:IntKind.i64.wrap (((j+1:Nat):Int)-1)=(j:Int):=by simp[bb,bc,G];omega
 refine cv (R:=Gr) 17<|Ea (Ez h9)<|Ea (Ez h1)<|Ea (J0 (.bool cd) (Ed 0) (Ed 1) rfl)<|Ea (ND 2)<|Ea (Ez h3)<|Ea (Ez h0)<|Ea (Ez h9)<|Ea (Il ((j+1)*3) 3 (Ed 5) (Ed 6))<|Ea (MH (Js (FC m (j+1))) (Ed 7) rfl ?_) <|
  Ea (Ez h0)<|Ea (Ez h9)<|Ea (Kn (j:Int) (Ed 10))<|Ea (Il (j*3) 3 (Ed 9) (Ed 11))<|Ea (MH (Js (FC m j)) (Ed 12) rfl ?_) <|
  Ea (PX [Js (FC m (j+1)),Js (FC m j)] #[.S (U ⟨kb,0,I⟩)] #[Js (FC m (j+1)),Js (FC m j),.S (U ⟨kb,0,I⟩)] Sq.func152 (Ed 4) [8,13] (λv _=>v=Z Y (cI (FC m (j+1)).yr (FC m j).yr)) (aX _) (λw hg=>(xi (FC m (j+1)) (FC m j) kb w (HC.out w hg).1 (HC.out w hg).2).LT λ_ _ h=>⟨_,h.1,h.2,rfl⟩)) <|
  Ea (Ko (.bool (df ((FC m (j+1)).yr<(FC m j).yr))) ?_)<|Ea (Ko (.bool (df ((FC m (j+1)).yr<(FC m j).yr))) ?_)<|Lf λu' w' hg hf hv=>?_
 .intro w hg ev he;obtain⟨c0,c1,c2⟩:=(HB.out w hg).at_ (i:=j+1) (by omega);clear hg;unfold Js i64 at *;go_simp
 .intro w hg ev he;obtain⟨c0,c1,c2⟩:=(HB.out w hg).at_ (i:=j) (by omega);clear hg;unfold Js i64 at *;go_simp
 .intro u w hg hf hl hd;refine aI (op:=.binOp .lss 3 (.tmp 32) (.const (Z Y 0)) 3) rfl (λev a6=>?_) (cx hd (by kernel_rfl) (by exact rfl));have e1:=(a6.t 32).trans (hd.at_ 14 32);have e2:=a6.2.1;have ec:df (cI (FC m (j+1)).yr (FC m j).yr<0)=df ((FC m (j+1)).yr<(FC m j).yr):=by
   unfold cI;split
   .rename_i h;simp[h]
   .rename_i h;split<;>simp[h]
  clear hg hf hl hd a6 hK HB HC hB;go_simp
 .intro u w hg hf hl hd;refine aI (op:=.pick (.tmp 21) (.tmp 33) (.const (.bool bW))) rfl (λev a6=>?_) trivial;have e1:=(a6.t 21).trans (hd.at_ 3 21);have e3:=(a6.t 33).trans (hd.at_ 15 33);have a7:ev (.tmp 21)=.bool true:=e1;unfold execOp Iy;simp[a7,e3,asBool]
 .have er:bk 17 ((cX 4).size-17)=[]:=by kernel_rfl
  rw[er];exact hK _ _ hg hf (hv.at_ 16 34)
theorem xl (hK:∀W' u',IP W' gb (KU m (j+1) j)->KT (·=gb) W W'->Fr (cX 6) u' u->Q .normal ⟨T 53 u',[]⟩ W'):(bl 6 (cX 6) cd).wp DP Q ⟨T 53 u,[]⟩ W:=by
 have a8:IntKind.i64.wrap (((j+1:Nat):Int)-1)=(j:Int):=by simp[bb,bc,G];omega
 refine PR (R:=Sw gb m (m.SS (j+1) (FC m j))) (λk w=>k=9\/k=13\/k=15->IP w gb m) 16 (λ_ _=>hB.keep rfl)<|Ew (Ez h0)<|Ew (Ez h9)<|Ew (Ez h0)<|Ew (Ez h9)<|Ew (Kn (j:Int) (Ed 3))<|Ew (Ez h0)<|Ew (Ez h9)<|Ew (Kn (j:Int) (Ed 6))<|Ew (Il (j*3) 3 (Ed 5) (Ed 7))<|Ew (NF (λv _=>v=Js (FC m j)) (aX _) ?_) <|
  Ew (Ez h0)<|Ew (Ez h9)<|Ew (Il ((j+1)*3) 3 (Ed 10) (Ed 11))<|Ew (NF (λv _=>v=Js (FC m (j+1))) (aX _) ?_)<|Ew (Il ((j+1)*3) 3 (Ed 0) (Ed 1))<|Ew (NF (λ_ w=>IP w gb (m.SS (j+1) (FC m j))) (λ_ _ _ r h=>r.b h) ?_)<|PY 15 99 λu' w' hg hf hv hS=>?_
 .intro u w hg hf hl' hd hC;obtain⟨c0,c1,c2⟩:=(hC (.inl rfl)).at_ (i:=j) (by omega);refine aI (op:=.load 86 (.tmp 45)) rfl λev a6=>?_;have e1:=(a6.t 45).trans (hd.at_ 8 45);clear hg hf hl' hd hC a6 hK hB;unfold Js i64 at *;go_simp
 .intro u w hg hf hl' hd hC;obtain⟨c0,c1,c2⟩:=(hC (.inr (.inl rfl))).at_ (i:=j+1) (by omega);refine aI (op:=.load 86 (.tmp 49)) rfl λev a6=>?_;have e1:=(a6.t 49).trans (hd.at_ 12 49);clear hg hf hl' hd hC a6 hK hB;unfold Js i64 at *;go_simp
 .intro u w hg hf hl' hd hC;have hb:=hC (.inr (.inr rfl));have hb1:=hb.put (i:=j+1) (by omega) (FC m j);have f0:=hb.fro;obtain⟨a0,a1,a2⟩:=hb.at_ (i:=j+1) (by omega);refine sI (op:=.store 86 (.tmp 51) (.tmp 46)) (t:=0) rfl (jt w gb ((j+1)*3) (FC m j)) (λev he=>?_) ⟨⟨po _ _ _ _,λ_=>.inr hb1,λh=>?_⟩,λk h1 h2 _ h3=>?_⟩ hb1 trivial
  .have e1:=(he.t 51).trans (hd.at_ 14 51);have e2:=(he.t 46).trans (hd.at_ 9 46);clear hg hf hl' hd hC he hK hB hb hb1;generalize (j+1)*3=o at *;unfold Js jt i64 at *;go_simp
  .have:=h.put (i:=j+1) (by rw[Cu];omega) (FC m j)
   rwa [List.set_set] at this
  .obtain rfl|rfl|rfl:=h3
   .exact AH (Cv.1 (by kernel_rfl)) h2
   .exact AH (Cv.1 (by kernel_rfl)) h2
   .exact AH rfl h1
 .have er:bk 16 ((cX 6).size-16)=[16,17]:=by kernel_rfl
  have e39:=hv.at_ 2 39;have a7:=hv.at_ 4 41;have e50:=hv.at_ 13 50;obtain⟨_,hb1⟩:=hS;replace hb1:IP w' gb (m.SS (j+1) (FC m j)):=hb1;rw[er,br];refine Ag (R:=Rd) (d:=U 52) (ki 3 rfl e39 a7 (by omega) rfl) rfl λv w2 zI hv2=>?_;subst hv2;have hc:=hb1.keep (W':=w2) (by rw[zI.heap]);have zv:=hc.put (i:=j) (by rw[Cu];omega) (FC m (j+1));have f1:=hc.fro;obtain⟨b0,b1,b2⟩:=hc.at_ (i:=j) (by rw[Cu];omega)
  rw[br];refine fX (d:=I) (op:=.store 86 (.tmp 52) (.tmp 50)) (t:=0) rfl (jt w2 gb (j*3) (FC m (j+1))) (λev he=>?_) ?_
  .have e1:=(he.t 52).trans (bQ ..);have e2:=(he.t 50).trans ((cH (by decide)).trans e50);clear hv hf hg he hK hB hb1 zI hc zv;generalize j*3=o at *;unfold Js jt i64 at *;go_simp
  show Q .normal _ _;have f52:IQ (cX 6) 52=false:=by kernel_rfl
  exact hK _ _ zv ((hg.kt.trans (KT.EF zI.gr)).trans (po _ _ _ _)) λt ht=>(cH λe=>by rw[e,f52] at ht;cases ht).trans (hf t ht)
end
def uH {W:E}{u:Nat->bh}{Q:fq->Act->E->Prop}(h1:u 1=Z Y 0)(h9:u 9=Z Y ((0:Nat):Int))
  (hK:∀W' u',Gr W W'->Fr (cX 4) u' u->u' 34=.bool bW->Q .normal ⟨T 53 u',[]⟩ W'):(bl 4 (cX 4) cd).wp DP Q ⟨T 53 u,[]⟩ W:=by
 refine cv (R:=Gr) 17<|Ea (Ez h9)<|Ea (Ez h1)<|Ea (J0 (.bool bW) (Ed 0) (Ed 1) rfl)<|Ea (ND 2)<|Ea (ey rfl)<|Ea (ey rfl)<|Ea (ey rfl)<|Ea (ey rfl)<|Ea (ey rfl)<|Ea (ey rfl)<|Ea (ey rfl)<|Ea (ey rfl)<|Ea (ey rfl)<|Ea (ey rfl)<|Ea (ey rfl)<|Ea (ey rfl) <|
  Ea (Ko (.bool bW) ?_)<|Lf λu' w' hg hf hv=>?_
 .intro u w hg hf hl hd;refine aI (op:=.pick (.tmp 21) (.tmp 33) (.const (.bool bW))) rfl (λev a6=>?_) trivial;have e1:ev (.tmp 21)=.bool false:=(a6.t 21).trans (hd.at_ 3 21);have e2:=a6.2.1;unfold execOp Iy;simp[e1,e2,asBool]
 .have er:bk 17 ((cX 4).size-17)=[]:=by kernel_rfl
  rw[er];exact hK _ _ hg hf (hv.at_ 16 34)
def xm (gb kb cap:Nat)(l:FL)(w:E)(hB:IP w gb l)(h0:0<l.L)(hl:l.L<=19)(hk:w.L ⟨kb,0,I⟩=U Kr)(hkb:kb<w.heap.size)(zU:kb≠gb) :
  bw DP 218 #[.slice (U ⟨gb,0,I⟩) l.L cap,Z Y 0,Z Y l.L,OH kb] w λe w'=>e=.L (.tuple #[])/\IP w' gb (F7 l)/\KT (·=gb) w w':=by
 have HK:Hid (∀W,KT (·=gb) w W->W.L ⟨kb,0,I⟩=U Kr/\kb<W.heap.size):=AB λW h=>⟨(h.cell (p:=⟨kb,0,I⟩) hkb zU).trans hk,AI hkb h.size⟩;have HB:=AB hB;clear hB hk hkb;obtain⟨n,hn⟩:∃n,n=l.L:=⟨_,rfl⟩;rw[<-hn] at h0 hl ⊢;have HN:=AB hn;clear hn;go_enter Sq.func218,fc;go_wp2;go_loopw [8] (λi wr=>∃k:Nat,1<=k/\k<=n/\i=Z Y k/\IP wr gb (Ij k l)/\KT (·=gb) w wr) (λi _=>n-(bn i).L)
 case atStart=>exact⟨1,by omega,by omega,by go_num,HB.out,.refl _ _⟩
 case round =>
  obtain⟨k,aK,aL,rfl,hb,a6⟩:=hrel;have aC:=AB hb;have aD:=AB a6;clear hb a6 HB;by_cases zY:k<n
  .obtain⟨wq,rfl⟩:∃wq,wq=wr:=⟨_,rfl⟩;go_wp2;go_loopw [9] (λi wr=>∃(j:Nat) (m:FL),j<=k/\i=Z Y j/\m.L=n/\JI j m=Ij (k+1) l/\IP wr gb m/\KT (·=gb) w wr) (λi _=>(bn i).L)
   case atStart=>exact⟨k,_,by omega,rfl,by rw[eM,HN.out],rfl,aC.out,aD.out⟩
   case round =>
    clear aC aD;obtain⟨j,m,hj,rfl,aI,hsk,hb,a6⟩:=hrel;have a7:=AB hb;have a8:=AB a6;have aF:=AB aI;have aG:=AB hsk;clear hb a6 aI hsk;cases j with
    |zero =>
     go_wp2_with fail;refine bI 53 rfl λu hu=>?_;refine uH (hu 1) (hu 9) λW2 u' hg hf aH=>?_;rw[aS (n:=53) [18,19,20,21,22,23,24,25,26,27,28,29,30,31,32,33,34] (by kernel_rfl) rfl hu hf];simp only[Bg,Bq,Be,Bh];rw[aH];have aA:=AB (a7.out.gr hg);have aB:=AB (a8.out.trans (KT.EF hg));clear hg hf hu a7 a8;go_wp2;go_roundw
     case rel=>exact⟨k+1,by omega,by omega,by go_num,by rw[<-aG.out];exact aA.out,aB.out⟩
     case measure=>simp[Proofs.intOf];omega
    |succ j =>
     go_wp2_with fail;obtain⟨k1,k2⟩:=HK.out _ a8.out;refine bI 53 rfl λu hu=>?_;refine xj (gb:=gb) (kb:=kb) (n:=n) (cap:=cap) (j:=j) (m:=m) (hu 0) (hu 1) (hu 3) (hu 9) a7.out aF.out (by omega) hl k1 k2 λW2 u' hg hf aH=>?_;rw[aS (n:=53) [18,19,20,21,22,23,24,25,26,27,28,29,30,31,32,33,34] (by kernel_rfl) rfl hu hf];simp only[Bg,Bq,Be,Bh];rw[aH];have aA:=AB (a7.out.gr hg);have aB:=AB (a8.out.trans (KT.EF hg))
     clear hg hf hu a7 a8 k1 k2;by_cases hy:(FC m (j+1)).yr<(FC m j).yr
     .have HY:=AB hy;rw[Ci hy];clear hy;go_wp2_with fail;refine bI 53 rfl λu hu=>?_;refine xl (gb:=gb) (kb:=kb) (n:=n) (cap:=cap) (j:=j) (m:=m) (hu 0) (hu 1) (hu 3) (hu 9) aA.out aF.out (by omega) hl λW3 u' hb3 zy hf=>?_;rw[aS (n:=53) [37,38,39,40,41,42,43,44,45,46,47,48,49,50,51,52] (by kernel_rfl) rfl hu hf];simp only[Bg,Bq,Be,Bh];have aJ:=AB hb3;have HT4:=AB (aB.out.trans zy);clear hb3 zy hf hu aA aB
      go_wp2;go_roundw
      case rel=>exact⟨j,KU m (j+1) j,by omega,by go_num,by rw[iA,aF.out],by rw[<-aG.out];conv=>{ rhs;unfold JI };rw[AJ HY.out],aJ.out,HT4.out⟩
      case measure=>simp[Proofs.intOf]
     .have hs:Ij (k+1) l=m:=by rw[<-aG.out];unfold JI;rw[AE hy]
      have HS:=AB hs;rw[B4 hy];clear hy hs;go_wp2;go_roundw
      case rel=>exact⟨k+1,by omega,by omega,by go_num,by rw[HS.out];exact aA.out,aB.out⟩
      case measure=>simp[Proofs.intOf];omega
  .have hkk:k=n:=by omega
   have hs:Ij k l=F7 l:=by rw[hkk,HN.out];rfl
   have HS:=AB hs;clear hs;go_wp2;exact bo (bq eA _ _ _) rfl ⟨rfl,by rw[<-HS.out];exact aC.out,aD.out⟩
def uI (v f:bh)(w:E):bw DP 218 #[v,Z Y 0,Z Y 0,f] w λe w'=>e=.L (.tuple #[])/\w'=w:=by
 go_enter Sq.func218,fc;go_wp2;go_loopw [8] (λi wr=>i=Z Y 1/\wr=w) (λi _=>0)
 case atStart=>exact⟨rfl,rfl⟩
 case round =>
  obtain⟨rfl,rfl⟩:=hrel;go_wp2;exact bo (bq eA _ _ _) rfl ⟨rfl,rfl⟩
def uJ (gb kb cap:Nat)(l:FL)(w:E)(hB:IP w gb l)(h0:0<l.L)(hl:l.L<=19)(hk:w.L ⟨kb,0,I⟩=U Kr)(hkb:kb<w.heap.size)(zU:kb≠gb) :
  bw DP 194 #[.slice (U ⟨gb,0,I⟩) l.L cap,Z Y l.L,OH kb] w λe w'=>e=.L (.tuple #[])/\IP w' gb (F7 l)/\KT (·=gb) w w':=by
 have HI:=AB (xm gb kb cap l w hB h0 hl hk hkb zU);clear hB hk hkb;generalize F7 l=m at *;obtain⟨n,hn⟩:∃n,n=l.L:=⟨_,rfl⟩;rw[<-hn] at h0 hl HI ⊢;clear hn;have a6:df ((20:Int)<=(n:Int))=false:=B4 (by omega);have a7:df ((20:Int)<(n:Int))=false:=B4 (by omega);go_enter Sq.func194,fl;go_wp2;go_loopw [7,8] (λa i wr=>a=Z Y 0/\i=Z Y 20/\wr=w) (λ_ _ _=>0)
 case atStart=>exact⟨rfl,rfl,rfl⟩
 case round =>
  obtain⟨rfl,rfl,rfl⟩:=hrel;go_wp2_with fail;refine HI.out.LT ?_;rintro e w2 ⟨rfl,hb,hk⟩;have HB:=AB hb;have HK:=AB hk;clear hb hk HI;go_wp2;go_loopw [6] (λi wr=>i=Z Y 20/\wr=w2) (λi _=>0)
  case atStart=>exact⟨rfl,rfl⟩
  case round =>
   obtain⟨rfl,rfl⟩:=hrel;go_wp2;exact bo (bq eC _ _ _) rfl ⟨rfl,HB.out,HK.out⟩
def sT (v f:bh)(w:E):bw DP 194 #[v,Z Y 0,f] w λe w'=>e=.L (.tuple #[])/\w'=w:=by
 have HI:=AB (uI v f w);go_enter Sq.func194,fl;go_wp2;go_loopw [7,8] (λa i wr=>a=Z Y 0/\i=Z Y 20/\wr=w) (λ_ _ _=>0)
 case atStart=>exact⟨rfl,rfl,rfl⟩
 case round =>
  obtain⟨rfl,rfl,rfl⟩:=hrel;go_wp2_with fail;refine HI.out.LT ?_;rintro e w2 ⟨rfl,rfl⟩;clear HI;go_wp2;go_loopw [6] (λi wr=>i=Z Y 20/\wr=w2) (λi _=>0)
  case atStart=>exact⟨rfl,rfl⟩
  case round =>
   obtain⟨rfl,rfl⟩:=hrel;go_wp2;exact bo (bq eC _ _ _) rfl ⟨rfl,rfl⟩
def uK (gb kb cap:Nat)(l:FL)(w:E)(hB:IP w gb l)(h0:0<l.L)(hl:l.L<=19)(hk:w.L ⟨kb,0,I⟩=U Kr)(hkb:kb<w.heap.size)(zU:kb≠gb) :
  bw DP 151 #[.slice (U ⟨gb,0,I⟩) l.L cap,OH kb] w λe w'=>e=.L (.tuple #[])/\IP w' gb (F7 l)/\KT (·=gb) w w':=by
 have HI:=AB (uJ gb kb cap l w hB h0 hl hk hkb zU);clear hB hk hkb;generalize F7 l=m at *;go_enter Sq.func151,fo;go_wp2_with fail;refine HI.out.LT ?_;rintro e w2 ⟨rfl,hb,hk⟩;have HB:=AB hb;have HK:=AB hk;clear hb hk HI;go_wp2;exact bo (bq eF _ _ _) rfl ⟨rfl,HB.out,HK.out⟩
def lE (A:Option cq)(cap:Nat)(f:bh)(w:E):bw DP 151 #[F A 0 cap,f] w λe w'=>e=.L (.tuple #[])/\w'=w:=by
 have HI:=AB (sT (F A 0 cap) f w);go_enter Sq.func151,fo;go_wp2_with fail;refine HI.out.LT ?_;rintro e w2 ⟨rfl,rfl⟩;clear HI;go_wp2;exact bo (bq eF _ _ _) rfl ⟨rfl,rfl⟩
def uL (A:Option cq)(k:Nat)(l:FL)(w:E)(h:E6 w w.heap.size A l)(hl:l.L<=19) :
  bw DP 119 #[F A l.L k,Kr] w λe w'=>∃D c,e=.L (.slice D l.L c)/\Gr w w'/\E6 w' w'.heap.size D (F7 l):=by
 obtain⟨W,hW⟩:∃W:E,W=w.Li (L #[.func (.func 120) #[] #[]] 211):=⟨_,rfl⟩;have hg:Gr w W:=hW▸(Gr.refl w).Li _;have hz:W.heap.size=w.heap.size+1:=by rw[hW];simp
 have HC:=AB (sQ A k l W ((h.gr (AD _) hg).more hg.size) (by omega));have HK:Hid (∀W',Gr W W'->W'.L ⟨w.heap.size,0,I⟩=U Kr):=AB λW' a7=>(a7.cell (by show w.heap.size<_;omega)).trans (by rw[hW,AF _ _ _ _ rfl];rfl);have HW:=AB hW;have HG:=AB hg;have HZ:=AB hz;clear h hW hg hz;unfold Kr;go_enter Sq.func119,Tryz.ntmps119;go_wp2_with fail;rw[<-HW.out];refine HC.out.LT ?_;rintro e w2 ⟨v,rfl,zI,ho⟩
 have a6:=AB zI;have zo:=HK.out w2 zI;have zD:=zI.size;have hz:=HZ.out;obtain⟨rfl,D,c,rfl⟩|⟨g,c,rfl,hbg,hb⟩:=IP.Fw ho
 .have HS:=AB λf=>lE D c f w2;clear zI ho zo;go_wp2_with fail;refine(HS.out _).LT ?_;rintro e w3 ⟨rfl,rfl⟩;go_wp2;go_ret;exact⟨_,_,rfl,HG.out.trans a6.out,.nil⟩
 .by_cases hn:l=[]
  .subst hn;have HS:=AB λf=>lE (U ⟨g,0,I⟩) c f w2;clear zI ho zo hb;go_wp2_with fail;refine(HS.out _).LT ?_;rintro e w3 ⟨rfl,rfl⟩;go_wp2;go_ret;exact⟨_,_,rfl,HG.out.trans a6.out,.nil⟩
  .have h0:=dt.2 hn;have hs:=uK g w.heap.size c l w2 hb h0 hl zo (by omega) (by omega);unfold OH at hs;have HS:=AB hs;have HBG:=AB hbg;clear zI ho zo hb hs hbg;go_wp2_with fail;refine HS.out.LT ?_;rintro e w3 ⟨rfl,hb3,zy⟩;have zH:Gr W w3:=⟨⟨zy.os.trans a6.out.Ly.os,zy.tape.trans a6.out.Ly.tape,zy.output.trans a6.out.Ly.output,AX a6.out.size zy.size,λb hb=>(zy.Lo b (AI hb a6.out.size) (by have:=HBG.out;omega)).trans (a6.out.Ly.Lo b hb)⟩,AX a6.out.drawn zy.drawn⟩
   have a8:=AB (HG.out.trans zH);have hf:=hb3.fus;have HF:=AB hf;clear hb3 zy zH hf;go_wp2;go_ret;exact⟨_,_,rfl,a8.out,HF.out⟩
def xp (A:Option cq)(k p:Nat)(y:Int)(l:FL)(w:E)(h:E6 w w.heap.size A l)(hl:l.L<=19) :
  bw DP 76 #[F A l.L k,Z Y p,Z Y y] w λe w'=>e=.L (.tuple #[Z Y (FH l p y).1,.bool (FH l p y).2])/\Gr w w':=by
 have hs:=uL A k l w h hl;unfold Kr at hs;have HS:=AB hs;have zk:(F7 l).L=l.L:=eM _ _;have HF:Hid (FH l p y=G5 (F7 l) p y l.L):=AB (by unfold FH;rw[zk]);generalize FH l p y=r at HF ⊢;obtain⟨n,hn⟩:∃n,n=l.L:=⟨_,rfl⟩;rw[<-hn] at HF HS hl ⊢;have HN:=AB (hn.trans zk.LT);clear zk hn h hs;generalize F7 l=m at *;go_enter Sq.func76,Tryz.ntmps76;go_wp2_with fail
 refine HS.out.LT ?_;rintro e w1 ⟨D,c,rfl,hg,hf⟩;have HG:=AB hg;have HM:=AB hf;clear hg hf HS;go_wp2;go_loopw [8,9,15] (λa b i wr=>∃q:Nat,q<=n/\i=Z Y q/\a=Z Y (G5 m p y q).1/\b=.bool (G5 m p y q).2/\Gr w1 wr) (λ_ _ i _=>n-(bn i).L)
 case atStart=>exact⟨0,by omega,rfl,rfl,rfl,.refl _⟩
 case round =>
  obtain⟨q,hq,rfl,rfl,rfl,hg⟩:=hrel;have a7:=AB hg;have a6:Hid (∀o,Gr w1 (wr.Li o)):=AB λo=>hg.trans ((Gr.refl wr).Li o);by_cases zY:q<n
  .obtain⟨b,o,rfl,hb,h1,h2,h3⟩:=(HM.out.gr (AD _) hg).at_ (k:=q) (by have:=HN.out;omega);have hz:=hg.size;have HQ:Hid (G5 m p y (q+1)=if(FC m q).pt=p/\(FC m q).yr<=y then((FC m q).at_,cd) else G5 m p y q):=AB rfl;generalize FC m q=x at h1 h2 h3 HQ;generalize G5 m p y q=z at HQ;obtain⟨z1,z2⟩:=z;obtain⟨pt,yr,at_⟩:=x;unfold i64 at *;dsimp only at h1 h2 h3;clear hg;by_cases hp:pt=p
   .subst hp;by_cases hy:yr<=y
    .have e2:df (yr<=y)=true:=by simp[hy]
     have HE:=AB (HQ.out.trans (AJ ⟨rfl,hy⟩));go_wp2;go_roundw
     case rel=>exact⟨q+1,by omega,by go_num,by rw[HE.out],by rw[HE.out],a6.out _⟩
     case measure=>simp[Proofs.intOf];omega
    .have e2:df (yr<=y)=false:=by simp[hy]
     have HE:=AB (HQ.out.trans (AE λh=>hy h.2));go_wp2;go_roundw
     case rel=>exact⟨q+1,by omega,by go_num,by rw[HE.out],by rw[HE.out],a6.out _⟩
     case measure=>simp[Proofs.intOf];omega
   .have e1:¬((pt:Int)=(p:Int)):=by omega
    have HE:=AB (HQ.out.trans (AE λh=>hp h.1));clear hp;go_wp2;go_roundw
    case rel=>exact⟨q+1,by omega,by go_num,by rw[HE.out],by rw[HE.out],a6.out _⟩
    case measure=>simp[Proofs.intOf];omega
  .have a8:q=n:=by omega
   subst a8;have HE:=AB HF.out.LT;clear hg;rw[HE.out];go_wp2;go_ret2;exact⟨rfl,HG.out.trans a7.out⟩
def tk (f:Int×Bool)(x:Int):Int:=if f.2=cd then max 0 (x-f.1) else 0
def xq (A:Option cq)(k p:Nat)(y lo hi:Int)(l:FL)(w:E)(h:E6 w w.heap.size A l)(hl:l.L<=19)(hb:0<=lo/\lo<=9/\0<=hi/\hi<=9)(hf:0<=(FH l p y).1/\(FH l p y).1<=9) :
  bw DP 43 #[F A l.L k,.agg #[Z Y lo,Z Y hi],Z Y p,Z Y y] w λe w'=>e=.L (.agg #[Z Y (tk (FH l p y) lo),Z Y (tk (FH l p y) hi)])/\Gr w w':=by
 obtain⟨W,hW⟩:∃W:E,W=(w.Li (L #[Z Y lo,Z Y hi] 94)).Li (L #[Z Y 0,Z Y 0] 94):=⟨_,rfl⟩;have hg:Gr w W:=hW▸((Gr.refl w).Li _).Li _;have hz:W.heap.size=w.heap.size+2:=by rw[hW];simp
 have HC:=AB (xp A k p y l W ((h.gr (AD _) hg).more hg.size) hl);have HK:Hid (∀W',Gr W W'->W'.heap[w.heap.size]?=U (L #[Z Y lo,Z Y hi] 94 (0,0))/\W'.heap[w.heap.size+1]?=U (L #[Z Y 0,Z Y 0] 94 (0,0))):=AB λW' a7=>by
  rw[a7.Ly.Lo _ (by omega),a7.Ly.Lo _ (by omega),hW];exact⟨(ae _ _ (by simp)).trans (heap_alloc_new _ _),ay _ _ (by simp)⟩
 have HW:=AB hW;have HG:=AB hg;clear h hW hg;generalize FH l p y=f at *;obtain⟨f1,f2⟩:=f;dsimp only at hf;obtain⟨a0,ha0⟩:∃a0,a0=tk (f1,f2) lo:=⟨_,rfl⟩;obtain⟨a1,ha1⟩:∃a1,a1=tk (f1,f2) hi:=⟨_,rfl⟩;rw[<-ha0,<-ha1];have a8:=AB ha0;have aA:=AB ha1;clear ha0 ha1;go_enter Sq.func43,Tryz.ntmps43;go_wp2_with fail;rw[<-HW.out];refine HC.out.LT ?_;rintro e w2 ⟨rfl,zI⟩;have a6:=AB (HG.out.trans zI);have HX:Hid (∀W',KT (·=w.heap.size+1) w2 W'->Gr w W'):=AB λW' hk=>⟨⟨hk.os.trans a6.out.Ly.os,hk.tape.trans a6.out.Ly.tape,hk.output.trans a6.out.Ly.output,AX a6.out.size hk.size,λb hb=>(hk.Lo b (AI hb a6.out.size) (by omega)).trans (a6.out.Ly.Lo b hb)⟩,AX a6.out.drawn hk.drawn⟩
 obtain⟨q1,q2⟩:=HK.out w2 zI;have c0:w2.L ⟨w.heap.size,0,I⟩=U (Z Y lo):=(DU q1 0).1;have c1:w2.L ⟨w.heap.size,1,I⟩=U (Z Y hi):=(DU q1 1).1;have d0:w2.L ⟨w.heap.size+1,0,I⟩=U (Z Y 0):=(DU q2 0).1;have d1:w2.L ⟨w.heap.size+1,1,I⟩=U (Z Y 0):=(DU q2 1).1;have e0:=(DU q2 0).2;have e1:=(DU q2 1).2
 have zD:=zI.size;have aB:Hid (∀u v,KT (·=w.heap.size+1) w2 ((w2.LE ⟨w.heap.size+1,0,I⟩ u).LE ⟨w.heap.size+1,1,I⟩ v)):=AB λu v=>(KT.LE (T:=λb=>b=w.heap.size+1) w2 (p:=⟨w.heap.size+1,0,I⟩) rfl u).trans (KT.LE (T:=λb=>b=w.heap.size+1) _ (p:=⟨w.heap.size+1,1,I⟩) rfl v);clear zI HC q1 q2;cases f2 with
 |false =>
  obtain rfl:a0=0:=a8.out;obtain rfl:a1=0:=aA.out;go_wp2;refine cE (v:=.agg #[Z Y 0,Z Y 0]) (by simp[results,eT,go_sem,d0,d1,e0,e1]) rfl ⟨rfl,HX.out _ (aB.out _ _)⟩
 |true =>
  obtain rfl:a0=max 0 (lo-f1):=a8.out;obtain rfl:a1=max 0 (hi-f1):=aA.out;have aC:IntKind.i64.wrap (lo-f1)=lo-f1:=by simp[bb,bc,G];omega
  have hw2:IntKind.i64.wrap (hi-f1)=hi-f1:=by simp[bb,bc,G];omega
  go_wp2;refine cE (v:=.agg #[Z Y (max 0 (lo-f1)),Z Y (max 0 (hi-f1))]) (by simp[results,eT,go_sem,d0,d1,e0,e1]) rfl ⟨rfl,HX.out _ (aB.out _ _)⟩
def PZ (c:EE):Value :=
 if c.kind=1 then .iface 137 (.agg #[i64 c.pt,i64 c.at_])
 else if c.kind=2 then .iface 139 (.agg #[i64 c.pt,i64 c.at_,i64 c.er])
 else if c.kind=3 then .iface 140 (.agg #[i64 c.pt,i64 c.at_])
 else if c.kind=4 then .iface 141 (.agg #[i64 c.pt,i64 c.at_])
 else .iface 143 (.agg #[i64 c.pt,i64 c.ot,i64 c.at_])
def uM (c:EE)(w:E):bw DP 75 #[O6 c] w λe w'=>e=.L (PZ c)/\Gr w w':=by
 have HG:Hid (∀o,Gr w (w.Li o)):=AB λo=>(Gr.refl w).Li o;unfold O6 PZ i64;obtain⟨kd,pt,ot,at_,er⟩:=c;dsimp only;by_cases h1:kd=1
 .subst h1;rw[AJ rfl];go_enter Sq.func75,cF;go_wp2;go_ret;exact⟨rfl,HG.out _⟩
 rw[AE h1];by_cases h2:kd=2
 .subst h2;rw[AJ rfl];go_enter Sq.func75,cF;go_wp2;go_ret;exact⟨rfl,HG.out _⟩
 rw[AE h2];by_cases h3:kd=3
 .subst h3;rw[AJ rfl];go_enter Sq.func75,cF;go_wp2;go_ret;exact⟨rfl,HG.out _⟩
 rw[AE h3];by_cases h4:kd=4
 .subst h4;rw[AJ rfl];go_enter Sq.func75,cF;go_wp2;go_ret;exact⟨rfl,HG.out _⟩
 rw[AE h4];go_enter Sq.func75,cF;go_wp2;go_ret;exact⟨rfl,HG.out _⟩
def MM:TypeDesc->Bool
 |.interface _=>bW
 |_=>cd
def iF (t:dn)(v:bh)(w:E)(h:(DP.LT t).map MM=U cd):(cu (.iface t v) 134 t cd).run DP w=.ok (.tuple #[v,.bool cd]) w:=by
 cases hu:DP.LT t with
 |none=>rw[hu] at h;cases h
 |some d =>
  rw[hu] at h;cases d<;>first|(simp[cu,cK hu];done)|(cases h)
def ee (u t:dn)(v z:bh)(w:E)(zU:u≠t)(h:(DP.LT t).map MM=U cd)(hz:(DP.info? t).map (·.zero)=U (U z)):(cu (.iface u v) 134 t cd).run DP w=.ok (.tuple #[z,.bool bW]) w:=by
 cases hi:DP.info? t with
 |none=>rw[hi] at hz;cases hz
 |some i =>
  have zD:i.zero=U z:=by rw[hi] at hz;simpa using hz
  cases hu:DP.LT t with
  |none=>rw[hu] at h;cases h
  |some d =>
   rw[hu] at h;cases d<;>first|(simp[cu,cK hu,zU,zeroValue,fW,hi,zD];done)|(cases h)
def fZ:(DP.LT 137).map MM=U true:=by rw[Sq.LT];kernel_rfl
def iR:(DP.LT 139).map MM=U true:=by rw[Sq.LT];kernel_rfl
def kM:(DP.LT 140).map MM=U true:=by rw[Sq.LT];kernel_rfl
def pp:(DP.LT 141).map MM=U true:=by rw[Sq.LT];kernel_rfl
def xu:(DP.LT 143).map MM=U true:=by rw[Sq.LT];kernel_rfl
def iS:(DP.info? 137).map (·.zero)=U (U (.agg #[Z Y 0,Z Y 0])):=by rw[Dg];kernel_rfl
@[go_sem] theorem as137 (v:Value)(w:World):(Instr.typeAssert (.iface 137 v) 134 137 true).run DP w=.ok (.tuple #[v,.bool true]) w:=iF _ _ _ fZ
@[go_sem] theorem Qo (v:Value)(w:World):(Instr.typeAssert (.iface 139 v) 134 137 true).run DP w=.ok (.tuple #[.agg #[.int .i64 0,.int .i64 0],.bool false]) w:=ee _ _ _ _ _ (by decide) fZ iS
@[go_sem] theorem Qp (v:Value)(w:World):(Instr.typeAssert (.iface 140 v) 134 137 true).run DP w=.ok (.tuple #[.agg #[.int .i64 0,.int .i64 0],.bool false]) w:=ee _ _ _ _ _ (by decide) fZ iS
@[go_sem] theorem Qq (v:Value)(w:World):(Instr.typeAssert (.iface 141 v) 134 137 true).run DP w=.ok (.tuple #[.agg #[.int .i64 0,.int .i64 0],.bool false]) w:=ee _ _ _ _ _ (by decide) fZ iS
@[go_sem] theorem Qr (v:Value)(w:World):(Instr.typeAssert (.iface 143 v) 134 137 true).run DP w=.ok (.tuple #[.agg #[.int .i64 0,.int .i64 0],.bool false]) w:=ee _ _ _ _ _ (by decide) fZ iS
def kN:(DP.info? 139).map (·.zero)=U (U (.agg #[Z Y 0,Z Y 0,Z Y 0])):=by rw[Dg];kernel_rfl
@[go_sem] theorem as139 (v:Value)(w:World):(Instr.typeAssert (.iface 139 v) 134 139 true).run DP w=.ok (.tuple #[v,.bool true]) w:=iF _ _ _ iR
@[go_sem] theorem Qs (v:Value)(w:World):(Instr.typeAssert (.iface 140 v) 134 139 true).run DP w=.ok (.tuple #[.agg #[.int .i64 0,.int .i64 0,.int .i64 0],.bool false]) w:=ee _ _ _ _ _ (by decide) iR kN
@[go_sem] theorem Qt (v:Value)(w:World):(Instr.typeAssert (.iface 141 v) 134 139 true).run DP w=.ok (.tuple #[.agg #[.int .i64 0,.int .i64 0,.int .i64 0],.bool false]) w:=ee _ _ _ _ _ (by decide) iR kN
@[go_sem] theorem Qu (v:Value)(w:World):(Instr.typeAssert (.iface 143 v) 134 139 true).run DP w=.ok (.tuple #[.agg #[.int .i64 0,.int .i64 0,.int .i64 0],.bool false]) w:=ee _ _ _ _ _ (by decide) iR kN
def pq:(DP.info? 140).map (·.zero)=U (U (.agg #[Z Y 0,Z Y 0])):=by rw[Dg];kernel_rfl
@[go_sem] theorem as140 (v:Value)(w:World):(Instr.typeAssert (.iface 140 v) 134 140 true).run DP w=.ok (.tuple #[v,.bool true]) w:=iF _ _ _ kM
@[go_sem] theorem Qv (v:Value)(w:World):(Instr.typeAssert (.iface 141 v) 134 140 true).run DP w=.ok (.tuple #[.agg #[.int .i64 0,.int .i64 0],.bool false]) w:=ee _ _ _ _ _ (by decide) kM pq
@[go_sem] theorem Qw (v:Value)(w:World):(Instr.typeAssert (.iface 143 v) 134 140 true).run DP w=.ok (.tuple #[.agg #[.int .i64 0,.int .i64 0],.bool false]) w:=ee _ _ _ _ _ (by decide) kM pq
def xx:(DP.info? 141).map (·.zero)=U (U (.agg #[Z Y 0,Z Y 0])):=by rw[Dg];kernel_rfl
@[go_sem] theorem as141 (v:Value)(w:World):(Instr.typeAssert (.iface 141 v) 134 141 true).run DP w=.ok (.tuple #[v,.bool true]) w:=iF _ _ _ pp
@[go_sem] theorem Qx (v:Value)(w:World):(Instr.typeAssert (.iface 143 v) 134 141 true).run DP w=.ok (.tuple #[.agg #[.int .i64 0,.int .i64 0],.bool false]) w:=ee _ _ _ _ _ (by decide) pp xx
@[go_sem] theorem as143 (v:Value)(w:World):(Instr.typeAssert (.iface 143 v) 134 143 true).run DP w=.ok (.tuple #[v,.bool true]) w:=iF _ _ _ xu
def xz (n:Nat)(hn:1<=n/\n<=4)(w:E):bw DP 149 #[.int .u64 1,.int .u64 n] w λe w'=>e=.L (.tuple #[.int .u64 0,.int .u64 n])/\Gr w w':=by
 have h4:n=1\/n=2\/n=3\/n=4:=by omega
 clear hn;obtain rfl|rfl|rfl|rfl:=h4
 all_goals
  go_enter Sq.func149,Tryz.ntmps149;go_wp2;exact cE (results_tmp2 Tryz.results149 _ _ _) rfl ⟨rfl,.refl _⟩
def Ah (n:Nat)(hn:1<=n/\n<=4)(w:E):bw DP 118 #[.int .u64 1,.int .u64 n] w λe w'=>e=.L (.tuple #[.int .u64 0,.int .u64 n])/\Gr w w':=by
 have HM:=AB (xz n hn w);go_enter Sq.func118,Tryz.ntmps118;go_wp2_with fail;refine HM.out.LT ?_;rintro e w2 ⟨rfl,hg⟩;have HG:=AB hg;clear hg;go_wp2;exact cE (results_tmp2 Tryz.results118 _ _ _) rfl ⟨rfl,HG.out⟩
def Jg (k n:Nat):List Int:=Ii k++List.replicate ((n-k)*2) 0
def Dz:(DP.info? 94).map (λi=>(i.zero,i.size,i.bytes))=U (U (.agg #[Z Y 0,Z Y 0]),2,16):=by rw[Dg];kernel_rfl
def Sq.underlying90:DP.LT 90=U (.slice 94):=(Sq.LT 90).trans Tryz.underlying90
def n4 {n:Nat}(h:1<=n/\n<=4):n=1\/n=2\/n=3\/n=4:=by omega
def yE (n:Nat)(hn:1<=n/\n<=4):madeCells (Value.agg #[Z Y 0,Z Y 0]).cells (n*2)=((Jg 0 n).map (Z Y)).Li:=by
 rcases n4 hn with rfl|rfl|rfl|rfl<;>kernel_rfl
def yF (n:Nat)(hn:1<=n/\n<=4)(w:E):(Instr.makeSlice 90 (Z Y n) (Z Y n)).run DP w=.ok (.slice (U ⟨w.heap.size,0,I⟩) n n) (w.Li (.cells ((Jg 0 n).map (Z Y)).Li 94)):=by
 obtain⟨i0,hi,zF,zE,zD⟩:=ek Dz;have:=run_makeSlice (P:=DP) w 90 94 i0 (.agg #[Z Y 0,Z Y 0]) Sq.underlying90 hi zF Y Y (n:Int) (n:Int) (by omega) (by omega) (by rw[zE];simp;omega) (by rw[zD];omega) (by omega);rw[zE,Cn,yE n hn] at this;exact this
def Ps (a:Array bh):Nat->List bh->Array bh
 |_,[]=>a
 |o,v::r=>Ps (a.L o v) (o+1) r
def Jl {b:Nat}{t:dn}:∀(vs:List bh) (o:Nat) (a:Array bh) (w:E),w.heap[b]?=U (.cells a t (0,0))->(w.setCells b o vs).heap[b]?=U (.cells (Ps a o vs) t (0,0))/\KT (·=b) w (w.setCells b o vs)
 |[],_,_,w,h=>⟨h,.refl _ _⟩
 |v::r,o,a,w,h=>by
  obtain⟨h1,h2⟩:=Jl r (o+1) (a.L o v) (w.LE ⟨b,o,I⟩ v) (Eh h);exact⟨h1,(KT.LE (T:=(·=b)) w (p:=⟨b,o,I⟩) rfl v).trans h2⟩
def yG (w:E)(b o a6 a8:Nat)(a:cq)(a7 aA:Nat)(m:Nat)(cs:List bh)(hm:Nat.min a7 a6=m)(hn:cs.L=m*2)
  (aB:∀j v,cs[j]?=U v->w.L (a.add j)=U v) (hc:∀j,j<cs.L->(w.L ⟨b,o+j,I⟩).isSome=cd) (hf:∀j,j<cs.L->w.H ⟨b,o+j,I⟩=bW) (h1:∀v∈cs,v.oneCell'=cd) (ty:dn) :
  (ed #[90,90] ty #[.slice (U ⟨b,o,I⟩) a6 a8,.slice (U a) a7 aA]).run DP w=.ok (goInt m) (w.setCells b o cs):=by
 obtain⟨i0,hi,zF,zE,zD⟩:=ek Dz;have hl:=run_loadCells_list (P:=DP) w a cs aB;have zG:=run_storeCells_cells (P:=DP) b o cs 0 w (by simpa using hc) (by simpa using hf) h1;simp[ed,cK Sq.underlying90,e6,eo,sizeOf,fW,hi,zE,hm,<-hn,hl,zG]
def Mh {gb:Nat}{n k m:Nat}(hn:1<=n/\n<=4)(hk:k<n){sb so:Nat}(w:E)(h:w.heap[gb]?=U (.cells ((Jg k n).map (Z Y)).Li 94 (0,0)))(hs:∀j v,((Ii m).map (Z Y))[j]?=U v->w.L ⟨sb,so+j,I⟩=U v)(hm:1<=m/\k+m<=n)(a6 a8 a7 aA:Nat)(aB:Nat.min a7 a6=m)(ty:dn) :
  ∃w',(ed #[90,90] ty #[.slice (U ⟨gb,k*2,I⟩) a6 a8,.slice (U ⟨sb,so,I⟩) a7 aA]).run DP w=.ok (goInt m) w'/\w'.heap[gb]?=U (.cells ((Jg (k+m) n).map (Z Y)).Li 94 (0,0))/\KT (·=gb) w w':=by
 have hl:((Ii m).map (Z Y)).L=m*2:=by rw[B8,bT]
 have aC:(Jg k n).L=n*2:=by unfold Jg;rw[B1,bT,List.length_replicate];omega
 obtain⟨h1,h2⟩:=Jl ((Ii m).map (Z Y)) (k*2) _ w h;refine⟨_,yG w gb (k*2) a6 a8 ⟨sb,so,I⟩ a7 aA m _ aB hl (λj v hj=>by rw[cw];exact hs j v hj) (λj hj=>?_) (λj hj=>?_) (λv hv=>?_) ty,?_,h2⟩
 .unfold cf;rw[h];rw[hl] at hj;simp[aC];omega
 .unfold ea;rw[h];simp
 .obtain⟨x,_,rfl⟩:=BO.1 hv
  rfl
 .rw[h1];have zy:k=0\/k=1\/k=2\/k=3:=by omega
  have hm4:m=1\/m=2\/m=3\/m=4:=by omega
  obtain⟨_,hmn⟩:=hm;clear hs aB hl aC h1 h2 h;rcases n4 hn with rfl|rfl|rfl|rfl<;>rcases zy with rfl|rfl|rfl|rfl<;>rcases hm4 with rfl|rfl|rfl|rfl<;>first|rfl|omega
def Mi:∀ {j m:Nat},m<=j->Ii m <+: Ii j
  | 0, m, h => by have : m = 0 := by omega
                  subst this;exact ez _
  |j+1,m,h=>by
    by_cases e:m=j+1
    · subst e;exact ez _
    · exact(Mi (show m<=j by omega)).trans (List.prefix_append _ _)
def uN {m j n i:Nat}{v:bh}(h:m<=j)(hi:((Ii m).map (Z Y))[i]?=U v):((Jg j n).map (Z Y))[i]?=U v:=by
 obtain⟨t,ht⟩:=Mi h;unfold Jg;rw[<-ht,Cy,Cs,Bn (Bd.1 hi).1];exact hi
def Ai {w W w':E}{g:Nat}(h:Gr w W)(k:KT (·=g) W w')(hg:w.heap.size<=g):Gr w w' :=
 ⟨⟨k.os.trans h.Ly.os,k.tape.trans h.Ly.tape,k.output.trans h.Ly.output,AX h.size k.size,λb hb=>(k.Lo b (AI hb h.size) (by omega)).trans (h.Ly.Lo b hb)⟩,AX h.drawn k.drawn⟩
def uO (gb k n:Nat)(hn:1<=n/\n<=4)(w:E)(h:w.heap[gb]?=U (L #[Z Y 0,Z Y 9] 94 (0,0))):bw DP 72 #[.slice (U ⟨gb,0,I⟩) 1 k,Z Y n] w λe w'=>∃g,e=.L (.slice (U ⟨g,0,I⟩) n n)/\w.heap.size<=g/\Gr w w'/\w'.heap[g]?=U (.cells ((Ii n).map (Z Y)).Li 94 (0,0)):=by
 have HM:=AB (Ah n hn w);have HN:=AB hn;have a7:=hn.1;have aI:=hn.2;have e1:IntKind.u64.wrap (n:Int)=n:=by simp[bb,bc,G];omega
 have e2:IntKind.i64.wrap (n:Int)=n:=by simp[bb,bc,G];omega
 have aC:=yF n hn;have HB:=AB h;clear hn h;go_enter Sq.func72,Tryz.ntmps72;go_wp2_with fail;refine HM.out.LT ?_;rintro e w2 ⟨rfl,hg⟩;have HG:=AB hg;have zD:=hg.size;have zQ:=(AC.1 HB.out).1
 obtain⟨w4,r1,h4,k4⟩:=Mh (gb:=w2.heap.size) (k:=0) (m:=1) HN.out (by omega) (sb:=gb) (so:=0) (w2.Li (.cells ((Jg 0 n).map (Z Y)).Li 94)) (heap_alloc_new _ _) (λj v hj=>by
  have e:(w2.Li (.cells ((Jg 0 n).map (Z Y)).Li 94)).heap[gb]?=U (L #[Z Y 0,Z Y 9] 94 (0,0)):=(((hg.Li _).Ly.Lo gb zQ)).trans HB.out;unfold cf;rw[e]
  simpa [Ii] using hj) ⟨AD _,by omega⟩ n n 1 k (Nat.min_eq_left a7) 3
 rw[Nat.zero_mul] at r1;have a8:=AB k4;have H4:=AB h4;have aD:w2.heap.size<w4.heap.size:=by have:=k4.size;simp at this;omega
 have aF:Hid (Gr w (w2.Li (.cells ((Jg 0 n).map (Z Y)).Li 94))):=AB (hg.Li _);clear hg k4 h4;go_wp2;obtain⟨g,hg⟩:∃g,g=w2.heap.size:=⟨_,rfl⟩;rw[<-hg] at zD aD H4 a8;rw[<-hg];have HGG:=AB hg;clear hg r1 aC;go_loopw [8] (λi wr=>∃j:Nat,1<=j/\j<=n/\i=Z Y j/\wr.heap[g]?=U (.cells ((Jg j n).map (Z Y)).Li 94 (0,0))/\KT (·=g) (w2.Li (.cells ((Jg 0 n).map (Z Y)).Li 94)) wr) (λi _=>n-(bn i).L)
 case atStart=>exact⟨1,AD _,a7,rfl,by simpa using H4.out,a8.out⟩
 case round =>
  obtain⟨j,hj1,aJ,rfl,hrow,a6⟩:=hrel;have aA:=AB a6;by_cases aG:j<n
  .obtain⟨m,hm⟩:∃m,m=min j (n-j):=⟨_,rfl⟩
   obtain⟨w5,r5,h5,k5⟩:=Mh (gb:=g) (k:=j) (m:=m) HN.out aG (sb:=g) (so:=0) wr.drew hrow (λi v hi=>by
    have e:wr.drew.heap[g]?=U (.cells ((Jg j n).map (Z Y)).Li 94 (0,0)):=hrow;unfold cf;rw[e];have:=uN (m:=m) (j:=j) (n:=n) (by omega) hi
    simpa using this) ⟨by omega,by omega⟩ (n-j) (n-j) j n (by rw[hm]) 3
   have HM5:=AB hm;have H5:=AB h5;have aH:=AB k5;have aK:1<=m/\j+m<=n:=by omega
   clear a6 h5 k5 hm hrow;go_wp2;go_region;go_wp2;go_roundw
   case rel=>exact⟨j+m,by omega,by omega,by go_num,H5.out,aA.out.trans ((KT.EF (Gr.refl _).drew).trans aH.out)⟩
   case measure=>simp[Proofs.intOf];omega
  .have aB:j=n:=by omega
   subst aB
   have HR:Hid (wr.heap[g]?=U (.cells ((Ii j).map (Z Y)).Li 94 (0,0))):=AB (by
    have:Jg j j=Ii j:=by unfold Jg;simp
    rw[this] at hrow;exact hrow)
   clear a6 hrow;go_wp2;go_ret;refine⟨g,rfl,by omega,Ai aF.out aA.out (by omega),HR.out⟩
def BW.rd {ob cb gb n:Nat}{s:BS}{W W':E}(h:BW ob cb gb n s W)(r:Rd W W'):BW ob cb gb n s W':=h.keep λb _=>by rw[r.heap]
def RR (s:BS):Prop:=∀i,-1000<=D5 s.1 i/\D5 s.1 i<=1000
def KT.rd {T:Nat->Prop}{w w' w2:E}(r:Rd w w')(k:KT T w' w2):KT T w w2:=KT.trans (KT.EF r.gr) k
def RS:Code->Code
 |.seq a (.scope b)=>.seq a b
 |c=>c
def Lr (n:Nat)(f:Func):Array Oper:=(Ka n (RS (f.body.LE .skip))).LE #[]
noncomputable abbrev cJ (k:Nat):Array Oper:=Lr k cU
example:G9 .any (Lr 9 cU) 11=true:=by decide +kernel
example:G9 .any (Lr 10 cU) 11=true:=by decide +kernel
example:G9 .any (Lr 11 cU) 11=true:=by decide +kernel
example:G9 .any (Lr 12 cU) 11=true:=by decide +kernel
example:G9 .any (Lr 34 cU) 12=true:=by decide +kernel
example:G9 .any (Lr 35 cU) 12=true:=by decide +kernel
section
variable {ob cb gb n xb p:Nat} {bend:Int} {s:BS} {W:E} {u:Nat->bh} {Q:fq->Act->E->Prop} (h1:u 1=.S (U ⟨xb,0,I⟩)) (h4:u 4=.S (U ⟨ob,0,I⟩)) (h8:u 8=Z Y p)
 (hB:BW ob cb gb n s W) (hS:RR s) (hp:p+1<n) (hn:n<=4) (hb:W.L ⟨xb,1,I⟩=U (Z Y bend)) (JN:0<=bend/\bend<=9)
include h1 h4 h8 hB hS hp hn hb JN
theorem yH (h6:u 6=.func (.func 73) #[] #[.S (U ⟨ob,0,I⟩),.S (U ⟨cb,0,I⟩)])
  (hK:∀W' u',BW ob cb gb n (m8 bend p s) W'->KT (λb=>b=cb\/b=gb) W W'->Fr (cJ 9) u' u->Q .normal ⟨T 187 u',[]⟩ W'):(bl 9 (cJ 9) cd).wp DP Q ⟨T 187 u,[]⟩ W:=by
 have HR:=AB λw (r:Rd W w)=>hB.rd r;have ew:IntKind.i64.wrap ((p:Int)+1)=(p:Int)+1:=by simp[bb,bc,G];omega
 have es:IntKind.i64.wrap (D5 s.1 ((p+1)*2)-bend)=D5 s.1 ((p+1)*2)-bend:=by have:=hS ((p+1)*2);simp[bb,bc,G];omega
 refine cv (R:=Rd) 11<|Ea (Ez h6)<|Ea (Ez h8)<|Ea (Fj (FI h4) λw hg=>(DU (HR.out w hg).out 0).1)<|Ea (Ez h8)<|Ea (Kn ((p+1:Nat):Int) (Ed 3))<|Ea (Il ((p+1)*2) 2 (Ed 2) (Ed 4))<|Ea (Ko (.S (U ⟨gb,(p+1)*2,I⟩)) ?_)<|Ea (Fj (Ed 6) λw hg=>((HR.out w hg).at_ (by omega)).1)<|Ea (Gg 1 (FI h1))<|Ea (Fj (Ed 8) λw hg=>(hg.cell _).trans hb)<|Ea (J0 (Z Y (D5 s.1 ((p+1)*2)-bend)) (Ed 7) (Ed 9))<|G7 λu w hg hf hv=>?_
 .intro u w hg hf hl hd;refine aI (op:=.indexAddr 94 (.tmp 36) (.const (Z Y 0))) rfl λev a6=>?_;have e1:=(a6.t 36).trans (hd.at_ 5 36);have e2:=a6.2.1;clear hg hf hl hd a6 hK HR hS hB;go_simp
 .have er:bk 11 ((cJ 9).size-11)=[11]:=by kernel_rfl
  rw[er,br];refine dT (f:=73) rfl Sq.func73 #[Z Y p,Z Y (D5 s.1 ((p+1)*2)-bend)] _ (hv.at_ 0 31) (λev a6=>?_) ?_
  .have e1:=(a6.t 32).trans (hv.at_ 1 32);have e2:=(a6.t 41).trans (hv.at_ 10 41);simp[e1,e2]
  .refine(iQ ob cb gb n p _ s w (HR.out w hg) (by omega) hn).LT ?_;rintro e w2 ⟨rfl,b2,k2⟩;exact⟨_,rfl,hK _ _ b2 (KT.rd hg k2) (OD hf (by kernel_rfl) _)⟩
theorem xB (h6:u 6=.func (.func 73) #[] #[.S (U ⟨ob,0,I⟩),.S (U ⟨cb,0,I⟩)])
  (hK:∀W' u',BW ob cb gb n (m9 bend p s) W'->KT (λb=>b=cb\/b=gb) W W'->Fr (cJ 10) u' u->Q .normal ⟨T 187 u',[]⟩ W'):(bl 10 (cJ 10) cd).wp DP Q ⟨T 187 u,[]⟩ W:=by
 have HR:=AB λw (r:Rd W w)=>hB.rd r;have ew:IntKind.i64.wrap ((p:Int)+1)=(p:Int)+1:=by simp[bb,bc,G];omega
 have es:IntKind.i64.wrap (D5 s.1 (p*2)-bend)=D5 s.1 (p*2)-bend:=by have:=hS (p*2);simp[bb,bc,G];omega
 refine cv (R:=Rd) 11<|Ea (Ez h6)<|Ea (Ez h8)<|Ea (Kn ((p+1:Nat):Int) (Ed 1))<|Ea (Fj (FI h4) λw hg=>(DU (HR.out w hg).out 0).1)<|Ea (Ez h8)<|Ea (Il (p*2) 2 (Ed 3) (Ed 4))<|Ea (Ko (.S (U ⟨gb,p*2,I⟩)) ?_)<|Ea (Fj (Ed 6) λw hg=>((HR.out w hg).at_ (by omega)).1)<|Ea (Gg 1 (FI h1))<|Ea (Fj (Ed 8) λw hg=>(hg.cell _).trans hb)<|Ea (J0 (Z Y (D5 s.1 (p*2)-bend)) (Ed 7) (Ed 9))<|G7 λu w hg hf hv=>?_
 .intro u w hg hf hl hd;refine aI (op:=.indexAddr 94 (.tmp 48) (.const (Z Y 0))) rfl λev a6=>?_;have e1:=(a6.t 48).trans (hd.at_ 5 48);have e2:=a6.2.1;clear hg hf hl hd a6 hK HR hS hB;go_simp
 .have er:bk 11 ((cJ 10).size-11)=[11]:=by kernel_rfl
  rw[er,br];refine dT (f:=73) rfl Sq.func73 #[Z Y ((p+1:Nat):Int),Z Y (D5 s.1 (p*2)-bend)] _ (hv.at_ 0 43) (λev a6=>?_) ?_
  .have e1:=(a6.t 45).trans (hv.at_ 2 45);have e2:=(a6.t 53).trans (hv.at_ 10 53);simp[e1,e2]
  .refine(iQ ob cb gb n (p+1) _ s w (HR.out w hg) (by omega) hn).LT ?_;rintro e w2 ⟨rfl,b2,k2⟩;exact⟨_,rfl,hK _ _ b2 (KT.rd hg k2) (OD hf (by kernel_rfl) _)⟩
theorem xC (h7:u 7=.func (.func 74) #[] #[.S (U ⟨ob,0,I⟩),.S (U ⟨cb,0,I⟩)])
  (hK:∀W' u',BW ob cb gb n (na bend p s) W'->KT (λb=>b=cb\/b=gb) W W'->Fr (cJ 11) u' u->Q .normal ⟨T 187 u',[]⟩ W'):(bl 11 (cJ 11) cd).wp DP Q ⟨T 187 u,[]⟩ W:=by
 have HR:=AB λw (r:Rd W w)=>hB.rd r;have ew:IntKind.i64.wrap ((p:Int)+1)=(p:Int)+1:=by simp[bb,bc,G];omega
 have es:IntKind.i64.wrap (D5 s.1 ((p+1)*2+1)+bend)=D5 s.1 ((p+1)*2+1)+bend:=by have:=hS ((p+1)*2+1);simp[bb,bc,G];omega
 refine cv (R:=Rd) 11<|Ea (Ez h7)<|Ea (Ez h8)<|Ea (Fj (FI h4) λw hg=>(DU (HR.out w hg).out 0).1)<|Ea (Ez h8)<|Ea (Kn ((p+1:Nat):Int) (Ed 3))<|Ea (Il ((p+1)*2) 2 (Ed 2) (Ed 4))<|Ea (Ko (.S (U ⟨gb,(p+1)*2+1,I⟩)) ?_)<|Ea (Fj (Ed 6) λw hg=>((HR.out w hg).at_ (by omega)).1)<|Ea (Gg 1 (FI h1))<|Ea (Fj (Ed 8) λw hg=>(hg.cell _).trans hb)<|Ea (J0 (Z Y (D5 s.1 ((p+1)*2+1)+bend)) (Ed 7) (Ed 9))<|G7 λu w hg hf hv=>?_
 .intro u w hg hf hl hd;refine aI (op:=.indexAddr 94 (.tmp 60) (.const (Z Y 1))) rfl λev a6=>?_;have e1:=(a6.t 60).trans (hd.at_ 5 60);have e2:=a6.2.1;clear hg hf hl hd a6 hK HR hS hB;go_simp
 .have er:bk 11 ((cJ 11).size-11)=[11]:=by kernel_rfl
  rw[er,br];refine dT (f:=74) rfl Sq.func74 #[Z Y p,Z Y (D5 s.1 ((p+1)*2+1)+bend)] _ (hv.at_ 0 55) (λev a6=>?_) ?_
  .have e1:=(a6.t 56).trans (hv.at_ 1 56);have e2:=(a6.t 65).trans (hv.at_ 10 65);simp[e1,e2]
  .refine(fY ob cb gb n p _ s w (HR.out w hg) (by omega) hn).LT ?_;rintro e w2 ⟨rfl,b2,k2⟩;exact⟨_,rfl,hK _ _ b2 (KT.rd hg k2) (OD hf (by kernel_rfl) _)⟩
theorem xD (h7:u 7=.func (.func 74) #[] #[.S (U ⟨ob,0,I⟩),.S (U ⟨cb,0,I⟩)])
  (hK:∀W' u',BW ob cb gb n (nd bend p s) W'->KT (λb=>b=cb\/b=gb) W W'->Fr (cJ 12) u' u->Q .normal ⟨T 187 u',[]⟩ W'):(bl 12 (cJ 12) cd).wp DP Q ⟨T 187 u,[]⟩ W:=by
 have HR:=AB λw (r:Rd W w)=>hB.rd r;have ew:IntKind.i64.wrap ((p:Int)+1)=(p:Int)+1:=by simp[bb,bc,G];omega
 have es:IntKind.i64.wrap (D5 s.1 (p*2+1)+bend)=D5 s.1 (p*2+1)+bend:=by have:=hS (p*2+1);simp[bb,bc,G];omega
 refine cv (R:=Rd) 11<|Ea (Ez h7)<|Ea (Ez h8)<|Ea (Kn ((p+1:Nat):Int) (Ed 1))<|Ea (Fj (FI h4) λw hg=>(DU (HR.out w hg).out 0).1)<|Ea (Ez h8)<|Ea (Il (p*2) 2 (Ed 3) (Ed 4))<|Ea (Ko (.S (U ⟨gb,p*2+1,I⟩)) ?_)<|Ea (Fj (Ed 6) λw hg=>((HR.out w hg).at_ (by omega)).1)<|Ea (Gg 1 (FI h1))<|Ea (Fj (Ed 8) λw hg=>(hg.cell _).trans hb)<|Ea (J0 (Z Y (D5 s.1 (p*2+1)+bend)) (Ed 7) (Ed 9))<|G7 λu w hg hf hv=>?_
 .intro u w hg hf hl hd;refine aI (op:=.indexAddr 94 (.tmp 72) (.const (Z Y 1))) rfl λev a6=>?_;have e1:=(a6.t 72).trans (hd.at_ 5 72);have e2:=a6.2.1;clear hg hf hl hd a6 hK HR hS hB;go_simp
 .have er:bk 11 ((cJ 12).size-11)=[11]:=by kernel_rfl
  rw[er,br];refine dT (f:=74) rfl Sq.func74 #[Z Y ((p+1:Nat):Int),Z Y (D5 s.1 (p*2+1)+bend)] _ (hv.at_ 0 67) (λev a6=>?_) ?_
  .have e1:=(a6.t 69).trans (hv.at_ 2 69);have e2:=(a6.t 77).trans (hv.at_ 10 77);simp[e1,e2]
  .refine(fY ob cb gb n (p+1) _ s w (HR.out w hg) (by omega) hn).LT ?_;rintro e w2 ⟨rfl,b2,k2⟩;exact⟨_,rfl,hK _ _ b2 (KT.rd hg k2) (OD hf (by kernel_rfl) _)⟩
end
section
variable {ob cb gb n qb pt ot:Nat} {at_:Int} {s:BS} {W:E} {u:Nat->bh} {Q:fq->Act->E->Prop} (OP:u 15=.S (U ⟨qb,0,I⟩)) (h4:u 4=.S (U ⟨ob,0,I⟩))
 (hB:BW ob cb gb n s W) (hS:RR s) (hp:pt<n) (ho:ot<n) (hn:n<=4) (hq:W.L ⟨qb,0,I⟩=U (Z Y pt)/\W.L ⟨qb,1,I⟩=U (Z Y ot)/\W.L ⟨qb,2,I⟩=U (Z Y at_)) (hat:-9<=at_/\at_<=9)
include OP h4 hB hS hp ho hn hq hat
theorem xE (h7:u 7=.func (.func 74) #[] #[.S (U ⟨ob,0,I⟩),.S (U ⟨cb,0,I⟩)])
  (hK:∀W' u',BW ob cb gb n (H8 pt (D5 s.1 (ot*2+1)+at_) s) W'->KT (λb=>b=cb\/b=gb) W W'->Fr (cJ 34) u' u->Q .normal ⟨T 187 u',[]⟩ W'):(bl 34 (cJ 34) cd).wp DP Q ⟨T 187 u,[]⟩ W:=by
 have HR:=AB λw (r:Rd W w)=>hB.rd r;have es:IntKind.i64.wrap (D5 s.1 (ot*2+1)+at_)=D5 s.1 (ot*2+1)+at_:=by have:=hS (ot*2+1);simp[bb,bc,G];omega
 refine cv (R:=Rd) 12<|Ea (Ez h7)<|Ea (Gg 0 (FI OP))<|Ea (Fj (Ed 1) λw hg=>(hg.cell _).trans hq.1)<|Ea (Fj (FI h4) λw hg=>(DU (HR.out w hg).out 0).1)<|Ea (Gg 1 (FI OP))<|Ea (Fj (Ed 4) λw hg=>(hg.cell _).trans hq.2.1)<|Ea (Il (ot*2) 2 (Ed 3) (Ed 5))<|Ea (Ko (.S (U ⟨gb,ot*2+1,I⟩)) ?_)<|Ea (Fj (Ed 7) λw hg=>((HR.out w hg).at_ (by omega)).1)<|Ea (Gg 2 (FI OP))<|Ea (Fj (Ed 9) λw hg=>(hg.cell _).trans hq.2.2)<|Ea (J0 (Z Y (D5 s.1 (ot*2+1)+at_)) (Ed 8) (Ed 10))<|G7 λu w hg hf hv=>?_
 .intro u w hg hf hl hd;refine aI (op:=.indexAddr 94 (.tmp 152) (.const (Z Y 1))) rfl λev a6=>?_;have e1:=(a6.t 152).trans (hd.at_ 6 152);have e2:=a6.2.1;clear hg hf hl hd a6 hK HR hS hB;go_simp
 .have er:bk 12 ((cJ 34).size-12)=[12]:=by kernel_rfl
  rw[er,br];refine dT (f:=74) rfl Sq.func74 #[Z Y pt,Z Y (D5 s.1 (ot*2+1)+at_)] _ (hv.at_ 0 146) (λev a6=>?_) ?_
  .have e1:=(a6.t 148).trans (hv.at_ 2 148);have e2:=(a6.t 157).trans (hv.at_ 11 157);simp[e1,e2]
  .refine(fY ob cb gb n pt _ s w (HR.out w hg) (by omega) hn).LT ?_;rintro e w2 ⟨rfl,b2,k2⟩;exact⟨_,rfl,hK _ _ b2 (KT.rd hg k2) (OD hf (by kernel_rfl) _)⟩
theorem xF (h6:u 6=.func (.func 73) #[] #[.S (U ⟨ob,0,I⟩),.S (U ⟨cb,0,I⟩)])
  (hK:∀W' u',BW ob cb gb n (I2 ot (D5 s.1 (pt*2)-at_) s) W'->KT (λb=>b=cb\/b=gb) W W'->Fr (cJ 35) u' u->Q .normal ⟨T 187 u',[]⟩ W'):(bl 35 (cJ 35) cd).wp DP Q ⟨T 187 u,[]⟩ W:=by
 have HR:=AB λw (r:Rd W w)=>hB.rd r;have es:IntKind.i64.wrap (D5 s.1 (pt*2)-at_)=D5 s.1 (pt*2)-at_:=by have:=hS (pt*2);simp[bb,bc,G];omega
 refine cv (R:=Rd) 12<|Ea (Ez h6)<|Ea (Gg 1 (FI OP))<|Ea (Fj (Ed 1) λw hg=>(hg.cell _).trans hq.2.1)<|Ea (Fj (FI h4) λw hg=>(DU (HR.out w hg).out 0).1)<|Ea (Gg 0 (FI OP))<|Ea (Fj (Ed 4) λw hg=>(hg.cell _).trans hq.1)<|Ea (Il (pt*2) 2 (Ed 3) (Ed 5))<|Ea (Ko (.S (U ⟨gb,pt*2,I⟩)) ?_)<|Ea (Fj (Ed 7) λw hg=>((HR.out w hg).at_ (by omega)).1)<|Ea (Gg 2 (FI OP))<|Ea (Fj (Ed 9) λw hg=>(hg.cell _).trans hq.2.2)<|Ea (J0 (Z Y (D5 s.1 (pt*2)-at_)) (Ed 8) (Ed 10))<|G7 λu w hg hf hv=>?_
 .intro u w hg hf hl hd;refine aI (op:=.indexAddr 94 (.tmp 165) (.const (Z Y 0))) rfl λev a6=>?_;have e1:=(a6.t 165).trans (hd.at_ 6 165);have e2:=a6.2.1;clear hg hf hl hd a6 hK HR hS hB;go_simp
 .have er:bk 12 ((cJ 35).size-12)=[12]:=by kernel_rfl
  rw[er,br];refine dT (f:=73) rfl Sq.func73 #[Z Y ot,Z Y (D5 s.1 (pt*2)-at_)] _ (hv.at_ 0 159) (λev a6=>?_) ?_
  .have e1:=(a6.t 161).trans (hv.at_ 2 161);have e2:=(a6.t 170).trans (hv.at_ 11 170);simp[e1,e2]
  .refine(iQ ob cb gb n ot _ s w (HR.out w hg) (by omega) hn).LT ?_;rintro e w2 ⟨rfl,b2,k2⟩;exact⟨_,rfl,hK _ _ b2 (KT.rd hg k2) (OD hf (by kernel_rfl) _)⟩
end
variable {P:Program} {a:Act} {w:E} {Q:fq->Act->E->Prop}
def gF {l:Nat}{J:Act->E->Prop}(h:Q .ret a w):dr l J Q .ret a w:=h
def lF {l:Nat}{J:Act->E->Prop}(h:J a w):dr l J Q (.goto l) a w:=⟨rfl,h⟩
def lU {r1 r2 r3 r4 rest:Code}(l:Nat)(J:Act->E->Prop)(μ:Act->E->Nat)(hf:findLabel (.seq r1 (.seq r2 (.seq r3 (.seq r4 (.seq (.label l) rest))))) l=U (.seq .skip rest))
  (pass:∀a w,J a w->rest.wp P (dr l (λa' w'=>J a' w'/\μ a' w'<μ a w) Q) a w)
  (first:∀R:Code,(∀a w,J a w->R.wp P (dr l J Q) a w)->(Code.seq r1 (.seq r2 (.seq r3 (.seq r4 (.seq (.label l) R))))).wp P (dr l J Q) a w):(Code.scope (.seq r1 (.seq r2 (.seq r3 (.seq r4 (.seq (.label l) rest)))))).wp P Q a w :=
 wp_scope_jumps l J μ hf (first rest λa w h=>Code.wp_mono (λe a w hq=>by
  cases e with
  |goto l'=>exact⟨hq.1,hq.2.1⟩
  |_=>exact hq) (pass a w h)) λa w h=>wp_seq (wp_skip (pass a w h))
def yI (u:Nat->bh):T 187 u=#[u 0,u 1,u 2,u 3,u 4,u 5,u 6,u 7,u 8,u 9,u 10,u 11,u 12,u 13,u 14,u 15,u 16,u 17,u 18,u 19,u 20,u 21,u 22,u 23,u 24,u 25,u 26,u 27,u 28,u 29,u 30,u 31,u 32,u 33,u 34,u 35,u 36,u 37,u 38,u 39,u 40,u 41,u 42,u 43,u 44,u 45,u 46,u 47,u 48,u 49,u 50,u 51,u 52,u 53,u 54,u 55,u 56,u 57,u 58,u 59,u 60,u 61,u 62,u 63,u 64,u 65,u 66,u 67,u 68,u 69,u 70,u 71,u 72,u 73,u 74,u 75,u 76,u 77,u 78,u 79,u 80,u 81,u 82,u 83,u 84,u 85,u 86,u 87,u 88,u 89,u 90,u 91,u 92,u 93,u 94,u 95,u 96,u 97,u 98,u 99,u 100,u 101,u 102,u 103,u 104,u 105,u 106,u 107,u 108,u 109,u 110,u 111,u 112,u 113,u 114,u 115,u 116,u 117,u 118,u 119,u 120,u 121,u 122,u 123,u 124,u 125,u 126,u 127,u 128,u 129,u 130,u 131,u 132,u 133,u 134,u 135,u 136,u 137,u 138,u 139,u 140,u 141,u 142,u 143,u 144,u 145,u 146,u 147,u 148,u 149,u 150,u 151,u 152,u 153,u 154,u 155,u 156,u 157,u 158,u 159,u 160,u 161,u 162,u 163,u 164,u 165,u 166,u 167,u 168,u 169,u 170,u 171,u 172,u 173,u 174,u 175,u 176,u 177,u 178,u 179,u 180,u 181,u 182,u 183,u 184,u 185,u 186]:=by kernel_rfl
noncomputable def P0 (gb n:Nat)(w:E):Nat:=open Classical in if h:∃l:List Int,w.heap[gb]?=U (.cells (l.map (Z Y)).Li 94 (0,0)) then(JH h.choose n).L else 0
def sU {ob cb gb n:Nat}{s:BS}{W:E}(h:BW ob cb gb n s W):P0 gb n W=(JH s.1 n).L:=by
 unfold P0;have he:∃l:List Int,W.heap[gb]?=U (.cells (l.map (Z Y)).Li 94 (0,0)):=⟨_,h.row⟩;rw[dif_pos he];have e:=he.choose_spec.LT.trans h.row;have e2:he.choose.map (Z Y)=s.1.map (Z Y):=by
  have:=Option.some.inj e;injection this with e3
  simpa using e3
 rw[(List.map_inj_right (λx y a6=>by injection a6)).1 e2]
def bR {w W W':E}{cb gb:Nat}(h:Gr w W)(k:KT (λb=>b=cb\/b=gb) W W')(hc:w.heap.size<=cb)(hg:w.heap.size<=gb):Gr w W' :=
 ⟨⟨k.os.trans h.Ly.os,k.tape.trans h.Ly.tape,k.output.trans h.Ly.output,AX h.size k.size,λb hb=>(k.Lo b (AI hb h.size) (by omega)).trans (h.Ly.Lo b hb)⟩,AX h.drawn k.drawn⟩
def Hr.sm {n:Nat}{K:Int}{l:List Int}{s:BS}(h:Hr n K l s)(hK:K<=1000):RR s:=λi=>by have:=h.bd i;omega
def xG {x:FB}{f:Nat}{l:List Int}(h:Kl x f l=bounds_ x/\JH l x.pts<f)(hl:I5 x.pts l)(hb:¬J9 (FT x l).1 x.pts):bounds_ x=none:=by
 rw[<-h.1];have:=iz _ hl.ord;obtain⟨k,rfl⟩:∃k,f=k+1:=⟨f-1,by omega⟩;unfold Kl;rw[AE hb]
def xH {x:FB}{f:Nat}{l:List Int}(h:Kl x f l=bounds_ x/\JH l x.pts<f)(hl:I5 x.pts l)(hb:J9 (FT x l).1 x.pts)(hc:(FT x l).2=bW):bounds_ x=U (FT x l).1:=by
 rw[<-h.1];have:=iz _ hl.ord;obtain⟨k,rfl⟩:∃k,f=k+1:=⟨f-1,by omega⟩;unfold Kl;rw[AJ hb,AE (by rw[hc];simp)]
def OI {x:FB}(hx:x.Ok){f:Nat}{l:List Int}(h:Kl x f l=bounds_ x/\JH l x.pts<f)(hl:I5 x.pts l)(hb:J9 (FT x l).1 x.pts)(hc:(FT x l).2=cd):∃f',(Kl x f' (FT x l).1=bounds_ x/\JH (FT x l).1 x.pts<f')/\(JH (FT x l).1 x.pts).L<(JH l x.pts).L/\I5 x.pts (FT x l).1:=by
 have h0:=iz _ hl.ord;have hr:=KS hx hl hb;have h1:=iz _ hr.ord;have zY:JH (FT x l).1 x.pts<JH l x.pts:=by
  obtain e|e:=(Lq hx hl).rel.ch hc
  .cases e
  .exact e
 obtain⟨k,rfl⟩:∃k,f=k+1:=⟨f-1,by omega⟩;refine⟨k,⟨?_,by omega⟩,by omega,hr⟩;rw[<-h.1]
 conv=>rhs;unfold Kl
 rw[AJ hb,AJ hc]
end Go.Sq
