/- Parts of the proof. -/
import Derived.Test.YtghipmneleifpaaGreatP22
import Derived.Test.YtghipmneleifpaaGreatP00
import Derived.Test.YtghipmneleifpaaGreatP19
import Derived.Test.YtghipmneleifpaaGreatP21
import Derived.Test.YtghipmneleifpaaGreatP18
set_option linter.all false
set_option maxHeartbeats 6400000
set_option maxRecDepth 1000000
open Go.Value renaming slice->a6,int->a7,pointer->br,bool->b8
open Go.IntKind renaming i64->a8,signed->cq,wrap->cw,bits->cE
open Option renaming none->bh,some->bk
open Go renaming World->bl,Value->bn,wpOps_cons->bo,wp_seq->b9,Exit->cu,Addr->cF
open Go.Obj renaming cells->bq
open Go.Proofs renaming intOf->bs
open Bool renaming false->bw,true->b7
open Go.Code renaming region->bD,wp->b6
open Go.World renaming alloc_heap_new->bW
open List renaming flatMap_cons->b5,flatMap_nil->cf,range'->cK
namespace Go.Sq
open Go.RowKit
def wD {α β:Type}{l:List α}{F:α->List β}{b:Nat}(h:∀x∈l,(F x).length<=b):(l.flatMap F).length<=l.length*b:=by
 induction l with
 |nil=>simp
 |cons x l ih =>
  have h1:=h x (by simp);have h2:=ih λy hy=>h y (by simp[hy]);rw[b5,Ad,yV,Nat.succ_mul];omega
def nd {c:Cc}(Dx:c.Ok)(k:Nat)(r:CR)(n:Nat):(Cv c (Cy c.B2.length) k r n).length<=16 ^ k:=by
 rw[t8,zy];exact yR (AF _ _) (yR (qm _ _) (Nat.pow_le_pow_left (iK Dx) _))
def kQ {w:bl}{base e s n c:Nat}{A:Option cF}{xs:List bn}(h:w.ownsRow base e s (a6 A n c) n xs):n<=c:=by
 rcases h.2 with⟨h1,rfl⟩|⟨g,cap,cur,hv,_,_,h3,_⟩
 .exact zf _
 .cases hv;exact h3
def sk (r:CR)(n x:Nat):CG (upd r n x) (n+1)=CG r n++[wl x]:=by
 rw[i4];congr 1
 .refine List.map_congr_left λi hi=>?_;have:=zB.1 hi;show wl (upd r n x i)=_;unfold upd;rw[if_neg (by omega)]
 .unfold upd;rw[if_pos rfl]
def so {w w':bl}{bb b2:Nat}{B V u:bn}{L:List (List Int)}{l:List Int}{xs:List bn}(h:Ce w bb B L xs)(hu:w.ownsRow b2 3 1 u l.length (l.map (a7 a8)))(hg:Gr w w')(hb2:bb<=b2)(hb:bb<=w.heap.size)(hr:w'.ownsRow w.heap.size 22 1 V (L.length+1) (xs++[u])):Ce w' bb V (L++[l]) (xs++[u]):=by
 have hlen:xs.length=L.length:=by have:=h.row.1;omega
 refine⟨by simpa using Dp hr hb,λi z hi=>?_⟩;rcases zC i L.length with hlt|GK
 .rw[zo hlt] at hi;obtain⟨y,h1,h2⟩:=h.cells i z hi;exact⟨y,by rw[zo (by omega)];exact h1,cZ h2 hg⟩
 .have Uv : i = L.length := by
   have:=(ze.1 hi).1;simp at this;omega
  subst Uv;rw[zv (yL _)] at hi;simp at hi;subst hi;exact⟨u,by rw[zv (by omega),hlen];simp,cZ (Dp hu hb2) hg⟩
def DF.append {w w':bl}{base b2:Nat}{v v' u:bn}{L M:List (List (List Int))}{xs ys:List bn}(h:DF w base v L xs)(hu:DF w base u M ys)(hv:w.ownsRow b2 26 1 v L.length xs)(hg:w.grownBy w' v.ownBlock)(hr:w'.ownsRow base 26 1 v' (L.length+M.length) (xs++ys)):DF w' base v' (L++M) (xs++ys):=by
 have hlen:xs.length=L.length:=by have:=h.row.1;omega
 have key:∀ {y:bn} {l:List (List Int)} {zs:List bn},Ce w base y l zs->Ce w' base y l zs:=λhy=>hy.past (by decide) (by decide) hv hg;refine⟨by simpa using hr,λi l hi=>?_⟩;rcases zC i L.length with hlt|GK
 .rw[zo hlt] at hi;obtain⟨z,zs,h1,h2⟩:=h.cells i l hi;exact⟨z,zs,by rw[zo (by omega)];exact h1,key h2⟩
 .rw[zv GK] at hi;obtain⟨z,zs,h1,h2⟩:=hu.cells _ l hi;exact⟨z,zs,by rw[zv (by omega),hlen];exact h1,key h2⟩
def nY {w:bl}{base:Nat}{v:bn}{L:List (List (List Int))}{xs:List bn}(h:DF w base v L xs):∀y∈xs,y.oneCell'=true:=λy hy=>by
 obtain⟨i,hi,rfl⟩:=zZ.1 hy;have hl:xs.length=L.length:=by have:=h.row.1;omega
 obtain⟨z,zs,h1,h2⟩:=h.cells i L[i] (yM (by omega));rw[yM hi] at h1;injection h1 with h1
 obtain⟨A,c,e⟩:=DR h2.row;rw[h1,e];rfl
open Go.Proofs
section
variable {w:bl} {ops:Array Oper} {rest:List Oper} {o:Oper} {a:Act} {Q:cu->Act->bl->Prop}
def uf (hgd:o.guard=bh)(s x:Operand)(ho:o.op=.call { callee:=.builtin .append,args:=#[s,x],argTypes:=#[40,40] })
  (base B:Nat) (v u:bn) (n m:Nat) (xs ys:List bn) (hs:a.eval s=v) (hown:w.ownsRow base 26 1 v n xs) (hx:a.eval x=u) (hu:w.ownsRow B 26 1 u m ys) (hy:∀y∈ys,y.oneCell'=b7)
  (hn:n+m<=1048576) (hbase:base<=w.heap.size) (h:∀v' w',w'.ownsRow base 26 1 v' (n+m) (xs++ys)->w.grownBy w' v.ownBlock->w.drawn<=w'.drawn->wpList B1 ops Q rest (a.put o.dst v') w'):wpList B1 ops Q (o::rest) a w:=by
 have ht:B1.underlying 40=bk (.slice 26):=(Sq.underlying 40).trans Tryz.underlying40;obtain⟨i0,hi,hz0,hz1,hz2⟩:=info_parts BX;have hl:=hu.1;rcases hu.2 with⟨rfl,h0⟩|⟨g,c,cur,rfl,h1,h2,h3⟩
 .subst h0;have e:ys=[]:=zj (by omega);subst e;refine wpList_append_own_none hgd s x 40 ho base 26 i0 1 ht hi v n xs hs hown hx ?_;exact h v w (by simpa using hown) (World.grownBy.refl w _) (yL _)
 .exact CE hgd s x 40 ho base 26 i0 _ 1 24 ht hi hz0 hz1 hz2 rfl (by decide) v n xs hs hown ⟨g,0,bh⟩ m c ys hx (by omega) (λj u hj=>hu.cells (g:=g) rfl j u hj) hy (by unfold maxLen;omega) (by omega) hbase h
end
def sr (n:Nat)(hn:n<=4):∀(k f:Nat),f+k=n->∀w:bl,Calls B1 70 #[a7 a8 f,a7 a8 n] w λe w'=>∃v xs,e=.returned v/\Gr w w'/\Ce w' w.heap.size v (subs n k) xs:=by
 intro k
 induction k using Nat.strongRecOn with
 |ind k ih =>
  intro f hf w;have ZE:=yJ ih;clear ih;go_enter Sq.func70,Tryz.ntmps70;go_wp2;go_loopw [5,6] (λv i wr=>∃(j:Nat) (L:List (List Int)) (xs:List bn),f<=j/\j<=n/\i=a7 a8 j/\Gr w wr/\Ce wr w.heap.size v L xs/\L++(subs n (n-j)).tail=subs n k) (λ_ i _=>n-(bs i).toNat)
  case atStart =>
   exact⟨f,[[]],_,yL _,by omega,rfl,(Gr.refl w).alloc _,ua (yL _) (heap_alloc_new _ _),by rw[show n-f=k by omega];exact sd n k⟩
  case round =>
   obtain⟨wq,rfl⟩:∃wq,wq=wr:=⟨_,rfl⟩;obtain⟨j,L,xs,hfj,hj,rfl,hgr,Fg,OU⟩:=hrel;have HG:=yJ hgr;have HO:=yJ Fg;by_cases hlt:j<n
   .have HC:=yJ (ZE.out (n-j-1) (by omega) (j+1) (by omega) wq);rw[Int.natCast_add,Int.natCast_one] at HC;rw[se hlt] at OU;have QH:=m7 n hn (n-j-1) (by omega);have hLl:L.length<=16:=by
     have:=congrArg List.length OU;have h2:=m7 n hn k (by omega);rw[Ad] at this;omega
    have adT:=yJ OU;have HXL:=yJ (λx hx=>yR (ud n (n-j-1) x hx) (show n-j-1<=1000 by omega));generalize hR:subs n (n-j-1)=R at HC adT QH HXL;replace hR:=yJ hR;clear hgr Fg OU;go_wp2_with fail;refine HC.out.mono ?_;rintro e w1 ⟨vr,rs,rfl,hg1,hgr⟩;obtain⟨vA,vc,rfl⟩:=DR hgr.row;have NG:=yJ hgr;have DO:=yJ hg1;have hz1:=hg1.size;have HO1:=yJ (HO.out.gr hg1);have Xy:Hid (∀g,(a6 vA R.length vc).ownBlock=bk g->bk g≠u5.ownBlock):=yJ λg h1 h2=>by
     have a1:=(hgr.row.lt g h1).1;have a2:=(HO.out.row.lt g h2.symm).2;omega
    have hz0:=HG.out.size;clear hg1 hgr HC;go_wp2;go_loopw [5,8] (λv i wr=>∃(q:Nat) (ys:List bn),q<=R.length/\i=a7 a8 q/\Gr w wr/\Ce wr w.heap.size v (L++(R.take q).map ((j:Int)::·)) ys/\Ce wr wq.heap.size (a6 vA R.length vc) R rs/\∀g,(a6 vA R.length vc).ownBlock=bk g->bk g≠v.ownBlock) (λ_ i _=>R.length-(bs i).toNat)
    case atStart=>exact⟨0,xs,by omega,rfl,HG.out.trans DO.out,by simpa using HO1.out,NG.out,Xy.out⟩
    case round =>
     obtain⟨q,ys,hq,rfl,Ml,hoi,Em,hai⟩:=hrel;have JY:=yJ Ml;have SE:=yJ hoi;have KQ:=yJ Em;have HAI:=yJ hai;have YB:=Ml.size;by_cases hlq:q<R.length
     .obtain⟨g,cr,hv,Jn,hgz⟩:=Em.form (by omega);obtain⟨rfl,rfl⟩:vA=bk ⟨g,0,bh⟩/\vc=cr:=by injection hv with a b c;exact⟨a,c⟩
      clear hv;obtain⟨A,c,hcell,hrow⟩:=Em.at_ hlq;have VT:Hid (R.take (q+1)=R.take q++[R[q]]):=yJ (by rw[AH,yM hlq];rfl);have OD:(L++(R.take q).map ((j:Int)::·)).length<=32:=by simp;omega
      have UO:=HXL.out _ (zx hlq);generalize R[q]=x at hcell hrow VT UO;have Je:=yJ hrow;clear Ml hoi Em hai hrow;go_wp2_with (at_builtin;refine ub rfl _ _ rfl wr.heap.size wq.heap.size _ _ 1 x.length [a7 a8 j] (x.map (a7 a8)) rfl (wn wr (yL _) j) rfl (al Je.out λb _ hb=>heap_alloc_old _ _ hb) (wv x) ?c1 ?c2 ?_)
      case c1=>omega
      case c2=>simp
      intro u w2 hown2 hgrow2 Mp
      have G2:Hid (Gr wr w2):=yJ (((Gr.refl wr).alloc _).grown hgrow2 Mp λk hk=>by
       have:wr.heap.size=k:=by injection hk
       omega)
      have hU:w2.ownsRow wr.heap.size 3 1 u (x.length+1) (((j:Int)::x).map (a7 a8)):=by
       rw[Nat.add_comm];exact hown2
      obtain⟨uA,uc,rfl⟩:=DR hU;have HU:Hid (w2.ownsRow wr.heap.size 3 1 (a6 uA (x.length+1) uc) ((j:Int)::x).length (((j:Int)::x).map (a7 a8))):=yJ hU;have hz2:=G2.out.size;have R5:=yJ ((SE.out.gr G2.out).gr ((Gr.refl w2).alloc (bq #[a6 uA (x.length+1) uc] 22)));clear hown2 hgrow2 Mp hU;go_wp2_with (at_builtin;refine wm ((Sq.underlying 26).trans Tryz.underlying26) By rfl _ _ rfl w.heap.size _ _ _ rfl R5.out.row ⟨w2.heap.size,0,bh⟩ 1 (a6 uA (x.length+1) uc) rfl cells_one rfl ?c1 ?c2 ?_)
      case c1=>omega
      case c2=>simp;omega
      intro v' w3 KE OV NZ hv3;have aiW:(L++(R.take q).map ((j:Int)::·)).length=L.length+q:=by rw[Ad,zy,AQ];omega
      obtain⟨GN,Mh,hp3⟩:=Qz (l:=(j:Int)::x) SE.out KQ.out HAI.out G2.out HU.out (by omega) OV (by rw[aiW];first|exact KE|(rw[Nat.min_eq_left (by omega)] at KE;exact KE)) NZ hv3
      have G5:Hid (Ce w3 w.heap.size v' (L++(R.take (q+1)).map ((j:Int)::·)) (ys++[a6 uA (x.length+1) uc])):=yJ (by
       rw[VT.out,AZ,<-AI];exact GN)
      have QF:=yJ Mh;have HP3:=yJ hp3;have Gu:=yJ (((JY.out.trans G2.out).alloc _).grown OV NZ λb hb=>(SE.out.row.lt b hb).1);clear KE OV NZ hv3 GN Mh hp3;go_wp2;go_roundw
      case rel=>exact⟨q+1,_,by omega,by go_num,Gu.out,G5.out,QF.out,HP3.out⟩
      case measure=>simp[Proofs.intOf];omega
     .have hqn:q=R.length:=by omega
      subst hqn;rw[AT] at hoi;have Zm:=yJ hoi
      have HSE:Hid ((L++R.map ((j:Int)::·))++(subs n (n-(j+1))).tail=subs n k):=yJ (by
       rw[show n-(j+1)=n-j-1 by omega,hR.out,AI];exact adT.out)
      clear Ml hoi Em hai;go_wp2;go_roundw
      case rel=>exact⟨j+1,_,_,by omega,by omega,by go_num,JY.out,Zm.out,HSE.out⟩
      case measure=>simp[Proofs.intOf];omega
   .have Oz:j=n:=by omega
    subst Oz
    have Zm:Hid (Ce wq w.heap.size u5 (subs j k) xs):=yJ (by
     rw[Nat.sub_self] at OU;have e:L=subs j k:=by simpa [subs] using OU
     rw[<-e];exact Fg)
    clear hgr Fg OU HO;go_wp2;go_ret;exact⟨_,_,rfl,HG.out,Zm.out⟩
def nf (c:Cc)(Dx:c.Ok):∀(k n:Nat),n+k=c.B3.length->∀(r:CR),(∀i,c.has (r i))->∀(nA hA:Option cF) (nc hc:Nat) (w:bl) (B:Nat),B<=w.heap.size->RI w B nA c.B3->Db w B hA c.B2 ->
  ∀(bb:Nat) (BV:bn) (xs:List bn),Ce w bb BV (CG r n) xs->bb<=w.heap.size->Calls B1 31 #[Cj nA hA c nc hc,BV] w λe w'=>∃v ys,e=.returned v/\Gr w w'/\DF w' bb v ((Cv c (Cy c.B2.length) k r n).map λr=>CG r c.B3.length) ys/\w'.ownsRow w.heap.size 26 1 v (Cv c (Cy c.B2.length) k r n).length ys:=by
 intro k
 induction k with
 |zero =>
  intro n NP r hx nA hA nc hc w B hB hn hh bb BV xs Mo O5;obtain rfl:n=c.B3.length:=by omega
  unfold Cj;obtain⟨W0,hW0⟩:∃W0:bl,W0=w.alloc (bq #[a6 nA c.B3.length nc,a6 hA c.B2.length hc] 25):=⟨_,rfl⟩;have hg0:Gr w W0:=hW0▸(Gr.refl w).alloc _;have hz0:W0.heap.size=w.heap.size+1:=by rw[hW0];simp
  have hc0:W0.cell? ⟨w.heap.size,0,bh⟩=bk (a6 nA c.B3.length nc):=by rw[hW0,yN _ _ _ _ rfl];rfl
  have HW:=yJ hW0;have HBV:=yJ (Mo.gr hg0);obtain⟨bA,bc,rfl⟩:=DR Mo.row;rw[CZ] at HBV ⊢;have Du:=yJ hg0;clear hW0 hg0 Mo hn hh;go_enter Sq.func31,Tryz.ntmps31;go_wp2;rw[<-HW.out];go_wp2;go_ret;have hnw:(W0.alloc (bq #[a6 bA c.B3.length bc] 26)).heap[w.heap.size+1]?=bk (bq #[a6 bA c.B3.length bc] 26 (0,0)):=by rw[<-hz0];exact heap_alloc_new _ _
  refine⟨_,[a6 bA c.B3.length bc],rfl,Du.out.alloc _,⟨⟨rfl,.inr ⟨w.heap.size+1,1,_,rfl,by omega,hnw,yL _,by unfold maxLen;simp,rfl,rfl⟩⟩,λi l hi=>?_⟩,rfl,.inr ⟨w.heap.size+1,1,_,rfl,by omega,hnw,yL _,by unfold maxLen;simp,rfl,rfl⟩⟩
  match i,hi with
  |0,hi=>cases hi;exact⟨_,xs,rfl,HBV.out.gr ((Gr.refl _).alloc _)⟩
 |succ k ih =>
  intro n NP r hx nA hA nc hc w B hB hn hh bb BV xs Mo O5;unfold Cj;obtain⟨W0,hW0⟩:∃W0:bl,W0=w.alloc (bq #[a6 nA c.B3.length nc,a6 hA c.B2.length hc] 25):=⟨_,rfl⟩;have hg0:Gr w W0:=hW0▸(Gr.refl w).alloc _;have hz0:W0.heap.size=w.heap.size+1:=by rw[hW0];simp
  have hc0:W0.cell? ⟨w.heap.size,0,bh⟩=bk (a6 nA c.B3.length nc)/\W0.cell? ⟨w.heap.size,1,bh⟩=bk (a6 hA c.B2.length hc):=by rw[hW0,yN _ _ _ _ rfl,yN _ _ _ _ rfl];exact⟨rfl,rfl⟩
  have Lu:=yJ hc0;have HW:=yJ hW0;have HBV:=yJ (Mo.gr hg0);obtain⟨bA,bc,rfl⟩:=DR Mo.row;rw[CZ] at HBV ⊢;have Du:=yJ hg0;have HP:Hid (DW W0 W0.heap.size w.heap.size c nA hA nc hc):=yJ ⟨by omega,hc0.1,hc0.2,(hn.gr hB hg0).more (by omega),(hh.keep λb o hb=>hg0.cell (yO hb hB)).more (by omega)⟩;have h4:=Dx.h4;have Mr:=Dx.n5;have HS:=sr c.B2.length h4 c.B2.length 0 (yZ _) W0
  rw[sa _ h4,show((0:Nat):Int)=0 from rfl] at HS;have HX:=yJ hx;have HSX:=yJ (gq Dx);have aiX:=iK Dx;have HWK:Hid (Cv c (Cy c.B2.length) (k+1) r n=(Cy c.B2.length).flatMap λx=>if(Ci c (upd r n x) n).1=0 then Cv c (Cy c.B2.length) k (upd r n x) (n+1) else[]):=yJ rfl;have HWL:Hid (∀x,(Cv c (Cy c.B2.length) k (upd r n x) (n+1)).length<=16 ^ k):=yJ λx=>nd Dx _ _ _
  have hk4:16 ^ k<=65536:=yR (Av (by omega) (show k<=4 by omega)) (by decide)
  have ZE:=yJ λ(x:Nat) (hx:c.has x)=>ih (n+1) (by omega) (upd r n x) (λi=>by
   unfold upd;split
   .exact hx
   .exact HX.out i) nA hA nc hc
  have HL1:=yJ λ(x:Nat) (hx:c.has x)=>(show ∀i,c.has (upd r n x i) from λi=>by
   unfold upd;split
   .exact hx
   .exact HX.out i)
  replace HS:=yJ HS;generalize Cy c.B2.length=S at HS HSX aiX HWK HWL ZE ⊢;have hne:((n:Int)==(c.B3.length:Int))=false:=by simp;omega
  clear hW0 hg0 Mo hn hh hc0 ih hx;go_enter Sq.func31,Tryz.ntmps31;have hq0:=Lu.out.1;have Xi:=Lu.out.2;have hql:w.heap.size<W0.heap.size:=by omega
  go_wp2_with fail;rw[<-HW.out];go_wp2_with fail;refine HS.out.mono ?_;rintro e w1 ⟨vS,sx,rfl,hg1,hsg⟩;obtain⟨sA,sc,rfl⟩:=DR hsg.row;rw[zy] at *;have HSG:=yJ hsg;have DO:=yJ hg1;clear hsg hg1 HS hq0 Xi;go_wp2;go_loopw [5,7] (λv i wr=>∃(j:Nat) (ys:List bn),j<=S.length/\i=a7 a8 j/\Gr w1 wr/\DF wr bb v (((S.take j).flatMap λx=>if(Ci c (upd r n x) n).1=0 then Cv c S k (upd r n x) (n+1) else[]).map λr=>CG r c.B3.length) ys/\wr.ownsRow w1.heap.size 26 1 v ((S.take j).flatMap λx=>if(Ci c (upd r n x) n).1=0 then Cv c S k (upd r n x) (n+1) else[]).length ys) (λ_ i _=>S.length-(bs i).toNat)
  case atStart=>exact⟨0,[],by omega,rfl,.refl _,DF.nil _ _,zF _ _ _ _⟩
  case round =>
   obtain⟨j,ys,hj,rfl,hgr,XD,how⟩:=hrel;obtain⟨wq,rfl⟩:∃wq,wq=wr:=⟨_,rfl⟩;have HG:=yJ hgr;have HCU:=yJ XD;have HOW:=yJ how;have YA:=hgr.size;by_cases hlt:j<S.length
   .have hz1:=DO.out.size;have hgq:=DO.out.trans hgr;have hz0q:=hgq.size;obtain⟨sg,sc',hv,hsgb,adU⟩:=HSG.out.form (by rw[zy];omega);obtain⟨rfl,rfl⟩:sA=bk ⟨sg,0,bh⟩/\sc=sc':=by injection hv with a b c;exact⟨a,c⟩
    obtain⟨u0,UI,UJ⟩:=HSG.out.cells j (wl S[j]) (by rw[zL,yM hlt];rfl);obtain⟨A,lc,rfl⟩:=DR UJ;have hcell:=HSG.out.row.cells (g:=sg) rfl j _ UI;rw[Addr.add_lit,yZ] at hcell;have hxS:=HSX.out _ (zx hlt);have VT:Hid (S.take (j+1)=S.take j++[S[j]]):=yJ (by rw[AH,yM hlt];rfl)
    have HFL:Hid (((S.take j).flatMap λx=>if(Ci c (upd r n x) n).1=0 then Cv c S k (upd r n x) (n+1) else[]).length<=j*16 ^ k):=yJ (by
     refine yR (wD (b:=16 ^ k) λx _=>?_) (Nat.mul_le_mul_right _ (by rw[AQ];omega));split
     .exact HWL.out x
     .exact zf _)
    have HWX:=yJ (HWL.out S[j]);have HIX:=yJ (ZE.out _ hxS);have ZJ:=HL1.out _ hxS;have UO:=bF S[j];generalize S[j]=x at UJ hcell hxS VT HWX HIX ZJ UO UI;have HU2:=yJ (cZ UJ hgr);have PD:Hid (∀V,Gr wq V->V.cell? ⟨sg,j,bh⟩=bk (a6 A (wl x).length lc)/\sg<V.heap.size):=yJ λV hV=>⟨((hgr.trans hV).cell (p:=⟨sg,j,bh⟩) adU).trans hcell,yO adU (hgr.trans hV).size⟩;have HBB:Hid (∀V,Gr wq V->V.ownsRow bb 22 1 (a6 bA n bc) n xs):=yJ λV hV=>by
     have:=cZ HBV.out.row (hgq.trans hV)
     rwa [CZ] at this
    clear UI UJ hcell hv XD how hgr;go_wp2;rename_i Uh;refine kO 52 rfl λu hu=>?_;refine xJ (k:=j) (sn:=S.length) (hu 1) (hu 6) (hu 7) hlt (by omega) HBB PD λW5 u6 Gg hrow Nx=>?_;rw[iC (n:=52) [29,30,31,32,33,34,35,36,37,8] (by kernel_rfl) rfl hu Nx];have KZ:Gr W0 W5:=hgq.trans Gg;have HNG:=yJ (so (HBV.out.gr hgq) HU2.out Gg (show bb<=W0.heap.size by have:=Du.out.size;omega) (by have:=Du.out.size;omega) (by rw[CZ];exact hrow))
    rw[<-sk] at HNG;obtain⟨gA,gc,e8⟩:=DR hrow;rw[e8] at HNG hrow;have VZ:=kQ hrow;have hP:=HP.out.on KZ;have XE:=yJ hP;have Hk:=yJ (HG.out.trans Gg);have Zn:=yJ (HCU.out.gr Gg);have Zo:=yJ (cZ HOW.out Gg);obtain⟨_,_,he,PZ⟩:=HNG.out.K5;rw[CZ] at he;cases he;have Me:=je nA hA gA nc hc gc c (upd r n x) n W5 W5.heap.size (yL _) hP.B3 hP.DI PZ Dx (by omega) ZJ (by omega)
    unfold Cj at Me;replace Me:=yJ Me;have k0:=hP.c0;have k1:=hP.c1;have kl:=hP.lt;have NN:=Gg.size;clear hu Nx HBB PD Gg KZ hP hrow PZ HCU HOW;refine Uh _ _ ?_;simp only[Af,Bl,AC,AL,e8];clear e8;generalize IM c (upd r n x) n=lq at Me;obtain⟨q1,q2,q3⟩:=lq;unfold Dc at Me;dsimp only at Me;by_cases hl0:(Ci c (upd r n x) n).1=0
    .rw[decide_eq_false (by simpa using hl0)] at Me
     have Zp:Hid (((S.take (j+1)).flatMap λx=>if(Ci c (upd r n x) n).1=0 then Cv c S k (upd r n x) (n+1) else[])=((S.take j).flatMap λx=>if(Ci c (upd r n x) n).1=0 then Cv c S k (upd r n x) (n+1) else[])++Cv c S k (upd r n x) (n+1)):=yJ (by
      rw[VT.out,AW,b5,cf,Ay,if_pos hl0])
     generalize ((S.take j).flatMap λx=>if(Ci c (upd r n x) n).1=0 then Cv c S k (upd r n x) (n+1) else[])=L0 at Zp HFL Zn Zo;obtain⟨L1,hLE⟩:∃L1,L1=((S.take (j+1)).flatMap λx=>if(Ci c (upd r n x) n).1=0 then Cv c S k (upd r n x) (n+1) else[]):=⟨_,rfl⟩;rw[<-hLE] at Zp;replace hLE:=yJ hLE;clear hl0;go_wp2_with fail;refine Me.out.mono ?_;rintro e w6 ⟨rfl,QU⟩;obtain⟨w7,Px⟩:∃w7:bl,w7=w6.alloc (bq #[a7 a8 q1,a7 a8 q2,a7 a8 q3] 42):=⟨_,rfl⟩
     have T7:Gr W5 w7:=Px▸QU.alloc _;have hz7:=T7.size;have Y1:=yJ Px;have HP7:=XE.out.on T7;have HR7:=HIX.out w7 w7.heap.size (yL _) HP7.B3 HP7.DI bb (a6 gA (n+1) gc) (xs++[a6 A (wl x).length lc]) (HNG.out.gr T7) (by have:=Du.out.size;omega);unfold Cj at HR7;replace HR7:=yJ HR7;have ai3:=yJ (Zn.out.gr T7);have ai4:=yJ (cZ Zo.out T7);have HG7:=yJ (Hk.out.trans T7)
     replace k0:=(XE.out.on QU).c0;replace k1:=(XE.out.on QU).c1;replace kl:=(XE.out.on QU).lt;clear QU T7 Px HP7 Me HIX;go_wp2_with fail;rw[<-Y1.out];refine HR7.out.mono ?_;rintro e w8 ⟨v8,zs,rfl,OG,Zq,adX⟩;have ai5:=yJ (ai3.out.gr OG);have Zr:=yJ (cZ ai4.out OG);have HM8:=yJ Zq;have HN8:=yJ adX;have XF:=yJ (HG7.out.trans OG);have HSL:=yJ (nY Zq);have hwx:=HWX.out;have QP:=HFL.out
     have hjb:j*16 ^ k+16 ^ k<=1048576:=by
      have:j*16 ^ k<=15*65536:=Nat.mul_le_mul (by omega) hk4;omega
     have hz8:=XF.out.size;clear OG Zq adX HR7;go_wp2_with (at_builtin;refine uf rfl _ _ rfl w1.heap.size w7.heap.size _ _ _ _ _ _ rfl Zr.out rfl HN8.out HSL.out (by omega) (by omega) ?_);intro v' w9 Ir OW hd9;have HG9:=yJ (XF.out.grown OW hd9 λb hb=>(Zr.out.lt b hb).1)
     have HO9:Hid (DF w9 bb v' (L1.map λr=>CG r c.B3.length) (ys++zs)):=yJ (by
      rw[Zp.out,AZ]
      exact ai5.out.append HM8.out (by rw[zy];exact Zr.out) OW (by rw[zy,zy];exact Dp Ir (by have:=Du.out.size;omega)))
     have HR9:Hid (w9.ownsRow w1.heap.size 26 1 v' L1.length (ys++zs)):=yJ (by rw[Zp.out,Ad];exact Ir);clear Ir OW hd9;go_wp2;go_roundw
     case rel=>exact⟨j+1,_,by omega,by go_num,HG9.out,by rw[<-hLE.out];exact HO9.out,by rw[<-hLE.out];exact HR9.out⟩
     case measure=>simp[Proofs.intOf];omega
    .rw[decide_eq_true hl0] at Me
     have Zp:Hid (((S.take (j+1)).flatMap λx=>if(Ci c (upd r n x) n).1=0 then Cv c S k (upd r n x) (n+1) else[])=((S.take j).flatMap λx=>if(Ci c (upd r n x) n).1=0 then Cv c S k (upd r n x) (n+1) else[])):=yJ (by
      rw[VT.out,AW,b5,cf,Ay,if_neg hl0,Ay])
     clear hl0;go_wp2_with fail;refine Me.out.mono ?_;rintro e w6 ⟨rfl,QU⟩;have HG6:=yJ (QU.alloc (bq #[a7 a8 q1,a7 a8 q2,a7 a8 q3] 42));clear QU;go_wp2;go_roundw
     case rel=>exact⟨j+1,ys,by omega,by go_num,Hk.out.trans HG6.out,by rw[Zp.out];exact Zn.out.gr HG6.out,by rw[Zp.out];exact cZ Zo.out HG6.out⟩
     case measure=>simp[Proofs.intOf];omega
   .have Oz:j=S.length:=by omega
    subst Oz;rw[AT] at XD how;have QS:=yJ XD;have Zm:=yJ how;have HGE:=yJ (Du.out.trans (DO.out.trans hgr));clear hgr XD how HCU HOW;go_wp2;go_ret;rw[HWK.out];exact⟨_,_,rfl,HGE.out,QS.out,Dp Zm.out (by have:=Du.out.size;have:=DO.out.size;omega)⟩
def ss {x m:Nat}(hm:m<=4)(hx:x<2 ^ m):wl x=Cr x.testBit m:=by
 refine gF (ew _ 4) (ew _ _) λz=>?_;show z∈Cr x.testBit 4↔_;rw[Ea,Ea];constructor
 .rintro⟨n,e,_,hb⟩;exact⟨n,e,gJ hx hb,hb⟩
 .rintro⟨n,e,hn,hb⟩;exact⟨n,e,by omega,hb⟩
def ug {c:Cc}(Dx:c.Ok)(k:Nat):∀r∈Cv c (Cy c.B2.length) k EB 0,∀x∈CG r c.B3.length,∃p,x=Cr p c.B2.length:=λr hr x hx=>by
 obtain⟨i,_,rfl⟩:=zu.1 hx;exact⟨_,ss Dx.h4 (iu (gq Dx) _ _ _ dO r hr i)⟩
def nZ (hb B:Nat)(A nA hA:Option cF)(cap nc hc:Nat)(l:List Int)(N:Nat)(c:Cc)(w:bl)(h:Hand w hb B A cap l N)(hN:N<=90000)(Dx:c.Ok)(hn:RI w w.heap.size nA c.B3)(hh:Db w w.heap.size hA c.B2) :
  Calls B1 9 #[.pointer (bk ⟨hb,0,bh⟩),Cj nA hA c nc hc] w λe w'=>∃v ls xs,e=.returned v/\Ce w' w.heap.size v ls xs/\ls.length=c.B3.length/\(∀x∈ls,∃p,x=Cr p c.B2.length)/\Hand w' hb B A cap l (N+1000)/\KH hb w w':=by
 unfold Cj;obtain⟨W0,hW0⟩:∃W0:bl,W0=w.alloc (bq #[a6 nA c.B3.length nc,a6 hA c.B2.length hc] 25):=⟨_,rfl⟩;have hg0:Gr w W0:=hW0▸(Gr.refl w).alloc _;have hz0:W0.heap.size=w.heap.size+1:=by rw[hW0];simp
 have hlt:=h.lt;have HW:=yJ hW0;have Du:=yJ hg0;have Lu:Hid (W0.cell? ⟨w.heap.size,0,bh⟩=bk (a6 nA c.B3.length nc)/\W0.cell? ⟨w.heap.size,1,bh⟩=bk (a6 hA c.B2.length hc)):=yJ (by rw[hW0,yN _ _ _ _ rfl,yN _ _ _ _ rfl];exact⟨rfl,rfl⟩);have HR:=nf c Dx c.B3.length 0 (yZ _) EB dO nA hA nc hc W0 W0.heap.size (yL _) ((hn.gr (yL _) hg0).more (by omega)) ((hh.keep λb o hb=>hg0.cell (p:=⟨b,o,bh⟩) hb).more (by omega)) W0.heap.size (.slice bh 0 0) [] (Ce.nil _ _) (yL _)
 unfold Cj at HR;have HWH:=yJ (ug Dx c.B3.length);have HWL:=yJ (nd Dx c.B3.length EB 0);have hb16:16 ^ c.B3.length<=1048576:=yR (Av (by omega) Dx.n5) (by decide);have Mr:=Dx.n5;have h4:=Dx.h4;have hnm:c.B3.length*c.B2.length<=20:=Nat.mul_le_mul Mr h4;have HH:=yJ (h.gr hg0);generalize Cv c (Cy c.B2.length) c.B3.length EB 0=R at HR HWH HWL;replace HR:=yJ HR
 clear hW0 hg0 hn hh h;go_enter Sq.func9,Tryz.ntmps9;obtain⟨k0,k1⟩:=Lu.out;have kl:w.heap.size<W0.heap.size:=by omega
 go_wp2_with fail;rw[<-HW.out];go_wp2_with fail;refine HR.out.mono ?_;rintro e w1 ⟨v,ys,rfl,hg1,XD,how⟩;obtain⟨LA,Lc,rfl⟩:=DR how;have HCU:=yJ XD;have DO:=yJ (Du.out.trans hg1);have hz1:=hg1.size;have WT:=yJ (HH.out.gr hg1);have Gb:=HWL.out;have q0:=(hg1.cell (p:=⟨w.heap.size,0,bh⟩) kl).trans k0;have q1:=(hg1.cell (p:=⟨w.heap.size,1,bh⟩) kl).trans k1;have ql:w.heap.size<w1.heap.size:=by omega
 have HQ:=yJ (And.intro q0 q1);clear hg1 how XD k0 k1 HR Lu;by_cases hR:0<R.length
 .have hdd:decide ((R.length:Int) > 0)=true:=by simp;omega
  go_wp2_with fail;refine(mO hb B A cap l N 2 3 w1 WT.out (by omega) (by omega)).mono ?_;rintro e w2 ⟨⟨v,rfl⟩,hh2,hk2⟩;have LF:=yJ hh2;have QJ:=yJ hk2;have hz2:=hk2.size;have hne:¬w.heap.size=hb:=by omega
  replace q0:=(hk2.cell (p:=⟨w.heap.size,0,bh⟩) ql hne).trans HQ.out.1;replace q1:=(hk2.cell (p:=⟨w.heap.size,1,bh⟩) ql hne).trans HQ.out.2;replace ql:w.heap.size<w2.heap.size:=by omega
  clear hh2 hk2;cases v with
  |true =>
   have hwr:IntKind.i64.wrap ((R.length:Int)-1)=(R.length:Int)-1:=by simp[cw,cE,cq];omega
   go_wp2_with fail;refine(iy hb B A cap l _ _ w2 LF.out (by omega) (by omega)).mono ?_;rintro e w3 ⟨⟨q,rfl,hq⟩,Uj,hk3⟩;have hqR:q<R.length:=by omega
   obtain⟨g,Oc,hv,hgb,Jn⟩:=HCU.out.form (by rw[zy];exact hR);obtain⟨rfl,rfl⟩:LA=bk ⟨g,0,bh⟩/\Lc=Oc:=by injection hv with a b c;exact⟨a,c⟩
   obtain⟨gA,gc,zs,hcell,KI⟩:=HCU.out.at_ (q:=q) (by rw[zy];exact hqR);rw[List.getElem_map] at hcell KI;have HLS:=yJ (HWH.out _ (zx hqR));have HLE:=yJ (CZ R[q] c.B3.length);generalize CG R[q] c.B3.length=ls at hcell KI HLS HLE;have Uk:=QJ.out.trans hk3;have hz3:=Uk.size;have ai8:=(Uk.cell (p:=⟨g,q,bh⟩) Jn (by show ¬g=hb;omega)).trans hcell;have hgl3:g<w3.heap.size:=by omega
   obtain⟨gA',gc',he,PZ⟩:=(KI.keep' (w':=w3) λb h1 h2=>Uk.block b h2 (by show ¬b=hb;omega)).K5;obtain⟨rfl,rfl⟩:gA=gA'/\gc=gc':=by injection he with a b c;exact⟨a,c⟩
   have SD:=yJ (kj gA gc ls w3 PZ (by rw[HLE.out];omega) (λx hx=>by
    obtain⟨p,rfl⟩:=HLS.out x hx
    exact yR (eu _ _) (by omega)))
   have Rb:=yJ Uj;have Mt:=yJ Uk;clear Uj hk3 Uk PZ he hcell KI hv q0 q1;go_wp2_with fail;refine SD.out.mono ?_;rintro e w4 ⟨v,xs,rfl,Fg,hg4⟩;have PF:=yJ Fg;have Lj:=yJ hg4;clear Fg hg4;go_wp2;go_ret;exact⟨_,ls,xs,rfl,du PF.out (by omega),HLE.out,HLS.out,(Rb.out.gr Lj.out).more (by omega),(KT.Dh DO.out).trans (Mt.out.trans (KT.Dh Lj.out))⟩
  |false =>
   go_wp2_with fail;refine(ki hb B A nA hA cap nc hc l (N+1) c.B3.length c.B2.length w2 LF.out (by omega) (by omega) (by omega)).mono ?_;rintro e w3 ⟨v,ls,xs,rfl,Fg,J6,hall,Uj,hk3⟩;have PF:=yJ Fg;have Nu:=yJ hall;have Rb:=yJ Uj;have Mt:=yJ hk3;clear Fg hall Uj hk3;go_wp2;go_ret;exact⟨_,ls,xs,rfl,du PF.out (by omega),J6,Nu.out,Rb.out.more (by omega),(KT.Dh DO.out).trans (QJ.out.trans Mt.out)⟩
 .have hR0:R.length=0:=by omega
  have hdd:decide ((R.length:Int) > 0)=false:=decide_eq_false (by omega);go_wp2_with fail;refine(ki hb B A nA hA cap nc hc l N c.B3.length c.B2.length w1 WT.out (by omega) (by omega) (by omega)).mono ?_;rintro e w3 ⟨v,ls,xs,rfl,Fg,J6,hall,Uj,hk3⟩;have PF:=yJ Fg;have Nu:=yJ hall;have Rb:=yJ Uj;have Mt:=yJ hk3;clear Fg hall Uj hk3;go_wp2;go_ret;exact⟨_,ls,xs,rfl,du PF.out (by omega),J6,Nu.out,Rb.out.more (by omega),(KT.Dh DO.out).trans Mt.out⟩
open Go.Ct
def QB (p:Int×Int×Int)(v:bn)(w:bl):Prop:=∃b,v=.pointer (bk ⟨b,0,bh⟩)/\b<w.heap.size/\w.cell? ⟨b,0,bh⟩=bk (a7 a8 p.1)/\w.cell? ⟨b,1,bh⟩=bk (a7 a8 p.2.1)/\w.cell? ⟨b,2,bh⟩=bk (a7 a8 p.2.2)
def Jw (p:Int×Int×Int):IK Gr (QB p):=λv w w' hg ⟨b,e,h1,h2,h3,h4⟩ =>
 ⟨b,e,yO h1 hg.size,(hg.cell (p:=⟨b,0,bh⟩) h1).trans h2,(hg.cell (p:=⟨b,1,bh⟩) h1).trans h3,(hg.cell (p:=⟨b,2,bh⟩) h1).trans h4⟩
def EJ (x:Ny):Int×Int×Int:=KN x.c x.ls
noncomputable def aJ:Code:=Tryz.f3.body.getD .skip
noncomputable def q9 (n:Nat):Code:=EF (DC n aJ)
noncomputable def xK:Code:=inBody (inBody (Hx (q9 10)))
noncomputable def fL (n:Nat):Code:=DC n (inBody (EF (Hx xK)))
noncomputable abbrev cg (k:Nat):Array Oper:=Jv k Tryz.f3
def V5 {U:Nat->bn}{t:Nat}:EU U bh undef t=U t:=rfl
def Mf {U:Nat->bn}{d t:Nat}{v:bn}:EU (EU U bh undef) (bk d) v t=Jg U d v t:=rfl
structure K8 (W:bl)(cb co rb ro ob k cc rc mc nc hc:Nat)(mA nA hA:Option cF)(x:Ny)(u:Nat->bn):Prop where
 u19:u 19=.slice (bk ⟨cb,co,bh⟩) 5 cc
 u20:u 20=.slice (bk ⟨rb,ro,bh⟩) 5 rc
 Zs:u 21=a7 a8 (k:Nat)
 k5:k<5
 u22:u 22=.pointer (bk ⟨ob,0,bh⟩)
 u23:u 23=a6 mA x.ls.length mc
 GU:Qx W cb co rb ro k x
 cap:x.ls.length<=x.gc
 lt:ob<W.heap.size
 o0:W.cell? ⟨ob,0,bh⟩=bk (a6 nA x.c.B3.length nc)
 o1:W.cell? ⟨ob,1,bh⟩=bk (a6 hA x.c.B2.length hc)
 n:RI W W.heap.size nA x.c.B3
 h:Db W W.heap.size hA x.c.B2
 m:Da W W.heap.size mA x.ls
section
variable {W:bl} {cb co rb ro ob k cc rc mc nc hc:Nat} {mA nA hA:Option cF} {x:Ny} {u:Nat->bn}
def K8.gr (h:K8 W cb co rb ro ob k cc rc mc nc hc mA nA hA x u){W':bl}(hg:Gr W W'){u':Nat->bn}(e9:u' 19=u 19)(U9:u' 20=u 20)(e11:u' 21=u 21)(e12:u' 22=u 22)(e13:u' 23=u 23):K8 W' cb co rb ro ob k cc rc mc nc hc mA nA hA x u' :=
 ⟨e9.trans h.u19,U9.trans h.u20,e11.trans h.Zs,h.k5,e12.trans h.u22,e13.trans h.u23,h.GU.gr hg,h.cap,yO h.lt hg.size,(hg.cell (p:=⟨ob,_,bh⟩) h.lt).trans h.o0,(hg.cell (p:=⟨ob,_,bh⟩) h.lt).trans h.o1,h.n.on hg,h.h.on hg,h.m.on hg⟩
def K8.cells (h:K8 W cb co rb ro ob k cc rc mc nc hc mA nA hA x u)(V:bl)(hV:Gr W V):(V.cell? ⟨cb,co+k*2,bh⟩=bk (.slice x.nA x.c.B3.length x.nc)/\V.cell? ⟨cb,co+k*2+1,bh⟩=bk (.slice x.hA x.c.B2.length x.hc)/\V.cell? ⟨rb,ro+k,bh⟩=bk (.slice x.gA x.ls.length x.gc)/\V.cell? ⟨ob,0,bh⟩=bk (a6 nA x.c.B3.length nc)/\V.cell? ⟨ob,1,bh⟩=bk (a6 hA x.c.B2.length hc))/\cb<V.heap.size/\rb<V.heap.size/\ob<V.heap.size:=by
 have:=h.gr (u':=u) hV rfl rfl rfl rfl rfl;exact⟨⟨this.GU.c0,this.GU.c1,this.GU.r0,this.o0,this.o1⟩,this.GU.lt.1,this.GU.lt.2,this.lt⟩
end
def xL {cb co rb ro k cc rc:Nat}{x:Ny}{W:bl}{u:Nat->bn}{Q:cu->Act->bl->Prop}(V9:u 19=.slice (bk ⟨cb,co,bh⟩) 5 cc)(h20:u 20=.slice (bk ⟨rb,ro,bh⟩) 5 rc)(QC:u 21=a7 a8 (k:Nat))(hk:k<5)(hx:Qx W cb co rb ro k x)(VZ:x.ls.length<=x.gc)
  (hK:∀W' u',Gr W W'->u' 19=u 19->u' 20=u 20->u' 21=u 21->(∃ob mc nc hc mA nA hA,K8 W' cb co rb ro ob k cc rc mc nc hc mA nA hA x u')->Q .normal ⟨T 155 u',[]⟩ W'):(bD 14 (cg 14) b7).wp B1 Q ⟨T 155 u,[]⟩ W:=by
 have H23:=yJ (λV (hV:Gr W V)=>qj x.nA x.hA x.nc x.hc x.c V _ (yL _) (hx.at_.gr hV).n (hx.at_.gr hV).h hx.small.n hx.small.h hx.small.o);have H33:=yJ (λV (hV:Gr W V)=>kj x.gA x.gc x.ls V (hx.at_.gr hV).g (yR hx.small.l (by omega)) (λy hy=>yR (hx.small.g y hy) (by omega)));refine dQ (R:=Gr) (m:=11) (by kernel_rfl) [λv _=>v=.slice (bk ⟨cb,co,bh⟩) 5 cc,λv _=>v=a7 a8 (k:Nat),λv _=>v=.pointer (bk ⟨cb,co+k*2,bh⟩),λv _=>v=.agg #[.slice x.nA x.c.B3.length x.nc,.slice x.hA x.c.B2.length x.hc],Zj x.c W,λv _=>v=.slice (bk ⟨rb,ro,bh⟩) 5 rc,λv _=>v=a7 a8 (k:Nat),λv _=>v=.pointer (bk ⟨rb,ro+k,bh⟩),λv _=>v=.slice x.gA x.ls.length x.gc,XA x.ls W,adM W] ⟨aa _,aa _,aa _,aa _,tW _ _,aa _,aa _,aa _,aa _,r8 _ _,tX _,trivial⟩ ⟨⟨⟨⟨⟨⟨⟨⟨⟨⟨⟨trivial,?_⟩,?_⟩,?_⟩,?_⟩,?_⟩,?_⟩,?_⟩,?_⟩,?_⟩,?_⟩,?_⟩ λu w hg hf hv=>?_
 .intro u w hg hf hl hd;exact ai rfl ((hf.at_ 19).trans V9)
 .intro u w hg hf hl hd;exact ai rfl ((hf.at_ 21).trans QC)
 .intro u w hg hf hl hd;exact aU 2 rfl (hd.at_ 0 90) (hd.at_ 1 91)
 .intro u w hg hf hl hd;refine aq (op:=.load 25 (.tmp 92)) (t:=25) rfl (λev he=>?_);have e92:=(he.t 92).trans (hd.at_ 2 92);obtain⟨c0,c1,r0,⟨cl,rl⟩,_,_⟩:=hx.gr hg;clear hg hf hl hd he;go_simp
 .intro u w hg hf hl hd;exact bf rfl Sq.func11 #[.agg #[.slice x.nA x.c.B3.length x.nc,.slice x.hA x.c.B2.length x.hc]] (λev he=>by simp[((he.t 93).trans (hd.at_ 3 93))]) ((H23.out w hg).mono λe w' h=>xG hg h)
 .intro u w hg hf hl hd;exact ai rfl ((hf.at_ 20).trans h20)
 .intro u w hg hf hl hd;exact ai rfl ((hf.at_ 21).trans QC)
 .intro u w hg hf hl hd;exact aU 1 rfl (hd.at_ 5 95) (hd.at_ 6 96)
 .intro u w hg hf hl hd;obtain⟨c0,c1,r0,⟨cl,rl⟩,_,_⟩:=hx.gr hg;exact aS rfl (hd.at_ 7 97) (by assumption)
 .intro u w hg hf hl hd;refine bf rfl Sq.func10 #[.slice x.gA x.ls.length x.gc] (λev he=>by simp[((he.t 98).trans (hd.at_ 8 98))]) ((H33.out w hg).mono λe w' h=>?_)
  .obtain⟨v,xs,rfl,h1,h2⟩:=h;exact⟨v,rfl,h2,xs,du h1 hg.size⟩
 .intro u w hg hf hl hd;refine aV (op:=.alloc 25) (t:=0) rfl _ (w.alloc (bq #[.slice bh 0 0,.slice bh 0 0] 25)) (λev he=>?_) ((Gr.refl w).alloc _) ⟨_,rfl,hg.size,bW _ _⟩;clear hg hf hl hd he;go_simp
 .obtain⟨b,e12,hb1,hb2⟩:=hv.at_ 10 22;obtain⟨nA,hA,nc,hc,e55,hr,hh⟩:=hv.at_ 4 94;obtain⟨xs,Fg⟩:=hv.at_ 9 99;have er:cK 11 ((cg 14).size-11)=[11,12]:=by kernel_rfl
  rw[er,bo];refine fY (d:=bh) (op:=.store 25 (.tmp 22) (.tmp 94)) (t:=0) rfl ((w.setCell ⟨b,0,bh⟩ (a6 nA x.c.B3.length nc)).setCell ⟨b,1,bh⟩ (a6 hA x.c.B2.length hc)) (λev he=>?_) ?_
  .have e1:=(he.t 22).trans e12;have e2:=(he.t 94).trans e55;obtain⟨⟨q1,q2,q3,q4⟩,q5⟩:=D4 hb2;unfold Cj at e2;clear hv hf hg hr hh Fg hb2 he hK;go_simp
  .rw[bo];refine iB (d:=bk 23) rfl ?_;show Q .normal _ _;obtain⟨mA,mc,e60,hm⟩:=(Nz (x:=a6 nA x.c.B3.length nc) (y:=a6 hA x.c.B2.length hc) hb2 Fg).K5;obtain⟨o0,o1⟩:=VW (x:=a6 nA x.c.B3.length nc) (y:=a6 hA x.c.B2.length hc) hb2;have ne:∀i,i≠23->EU (EU u bh undef) (bk 23) (EU u bh undef 99) i=u i:=λi hi=>CU hi
   have e9:=(ne 19 (by decide)).trans (hf.at_ 19);have U9:=(ne 20 (by decide)).trans (hf.at_ 20);have e11:=(ne 21 (by decide)).trans (hf.at_ 21);refine hK _ _ (ko hg hb1) e9 U9 e11 ⟨b,mc,nc,hc,mA,nA,hA,e9.trans V9,U9.trans h20,e11.trans QC,hk,(ne 22 (by decide)).trans e12,(az ..).trans e60,hx.gr (ko hg hb1),VZ,by rw[fk];exact(D4 hb2).2,o0,o1,(oU hb2 hr).ri λb hb=>by rw[fk];exact hb.2,(we hb2 hh).hs λb hb=>by rw[fk];exact hb.2,hm⟩
def xM {cb co rb ro ob k cc rc mc nc hc:Nat}{mA nA hA:Option cF}{x:Ny}{W:bl}{u:Nat->bn}{Q:cu->Act->bl->Prop}(hu:K8 W cb co rb ro ob k cc rc mc nc hc mA nA hA x u)
  (hK:∀W' u',Gr W W'->(∀t,Fl (cg 15) t=b7->u' t=u t)->QB (EJ x) (u' 24) W'->u' 25=a7 a8 (Cg x.c x.ls)->Q .normal ⟨T 155 u',[]⟩ W'):(bD 15 (cg 15) bw).wp B1 Q ⟨T 155 u,[]⟩ W:=by
 have HC:=yJ (λV hV=>hu.cells V hV);have hk:=hu.k5;have b1:=hu.GU.small.n;have b2:=hu.GU.small.h;have b3:=hu.GU.small.l;have H54:=wj nA hA mA nc hc mc x.c x.ls W W.heap.size (yL _) hu.n hu.h hu.m (by omega) (by omega) (λh hh=>yR (hu.GU.small.o h hh) (by omega)) (by omega) (λy hy=>yR (hu.GU.small.g y hy) (by omega));refine wp_region ?_;rw[show List.range (cg 15).size=[0,1,2,3,4,5,6,7,8] from by kernel_rfl,bo]
 refine dJ (d:=bk 101) (op:=.load 25 (.tmp 22)) (t:=25) rfl (.agg #[a6 nA x.c.B3.length nc,a6 hA x.c.B2.length hc]) W (λev he=>?_) ?_
 .obtain⟨⟨c0,c1,r0,o0,o1⟩,cl,rl,ol⟩:=HC.out W (.refl W);have OJ:=(he.t 22).trans hu.u22;clear he H54 hK;go_simp
 rw[bo];refine oS (d:=bk 102) rfl ?_;rw[bo];refine vY (d:=bk 103) rfl Sq.func13 #[.agg #[a6 nA x.c.B3.length nc,a6 hA x.c.B2.length hc],a6 mA x.ls.length mc] (λev he=>?_) (H54.mono ?_)
 .have e1:ev (.tmp 101)=.agg #[a6 nA x.c.B3.length nc,a6 hA x.c.B2.length hc]:=(he.t 101).trans ((CU (by decide)).trans (az ..));have e2:ev (.tmp 102)=a6 mA x.ls.length mc:=(he.t 102).trans ((az ..).trans ((CU (by decide)).trans hu.u23));simp[e1,e2]
 rintro e w2 ⟨rfl,g2⟩;refine⟨_,rfl,?_⟩;rw[bo];refine oS (d:=bk 100) rfl ?_;rw[bo];refine dJ (d:=bk 104) (op:=.extract (.tmp 100) 0) (t:=42) rfl (Dc (EJ x)) w2 (λev he=>?_) ?_
 .have e1:ev (.tmp 100)=.tuple #[Dc (EJ x),a7 a8 (Cg x.c x.ls)]:=(he.t 100).trans ((az ..).trans (az ..));clear he H54 hK g2;go_simp
 rw[bo];refine dJ (d:=bk 105) (op:=.extract (.tmp 100) 1) (t:=43) rfl (a7 a8 (Cg x.c x.ls)) w2 (λev he=>?_) ?_
 .have e1:ev (.tmp 100)=.tuple #[Dc (EJ x),a7 a8 (Cg x.c x.ls)]:=(he.t 100).trans ((CU (by decide)).trans ((az ..).trans (az ..)));clear he H54 hK g2;go_simp
 rw[bo];refine dJ (d:=bk 24) (op:=.alloc 42) (t:=0) rfl (.pointer (bk ⟨w2.heap.size,0,bh⟩)) (w2.alloc (bq #[a7 a8 0,a7 a8 0,a7 a8 0] 42)) (λev he=>?_) ?_
 .clear he H54 hK g2;go_simp
 have hb2:(w2.alloc (bq #[a7 a8 0,a7 a8 0,a7 a8 0] 42)).heap[w2.heap.size]?=bk (bq #[a7 a8 0,a7 a8 0,a7 a8 0] 42 (0,0)):=bW _ _;rw[bo];refine fY (d:=bh) (op:=.store 42 (.tmp 24) (.tmp 104)) (t:=0) rfl ((((w2.alloc (bq #[a7 a8 0,a7 a8 0,a7 a8 0] 42)).setCell ⟨w2.heap.size,0,bh⟩ (a7 a8 (EJ x).1)).setCell ⟨w2.heap.size,1,bh⟩ (a7 a8 (EJ x).2.1)).setCell ⟨w2.heap.size,2,bh⟩ (a7 a8 (EJ x).2.2)) (λev he=>?_) ?_
 .have e1:ev (.tmp 24)=.pointer (bk ⟨w2.heap.size,0,bh⟩):=(he.t 24).trans (az ..);have e2:ev (.tmp 104)=Dc (EJ x):=(he.t 104).trans ((CU (by decide)).trans ((CU (by decide)).trans (az ..)));obtain⟨q1,f1⟩:=cell_of_heap hb2 0;obtain⟨q2,f2⟩:=cell_of_heap hb2 1;obtain⟨q3,f3⟩:=cell_of_heap hb2 2;unfold Dc at e2;clear he H54 hK g2 hb2;go_simp
 rw[bo];refine iB (d:=bk 25) rfl ?_;show Q .normal _ _;obtain⟨d0,d1,d2⟩:=Ia (x:=a7 a8 (EJ x).1) (y:=a7 a8 (EJ x).2.1) (z:=a7 a8 (EJ x).2.2) hb2;refine hK _ _ (gG (g2.alloc _) g2.size _ _ _) (λt ht=>?_) ⟨w2.heap.size,?_,by simp[World.setCell],d0,d1,d2⟩ ?_
 .have hn:∀d,Fl (cg 15) d=bw->t≠d:=λd hd e=>by rw[e,hd] at ht;cases ht
  exact Mf.trans ((CU (hn 25 (by kernel_rfl))).trans ((CU (hn 24 (by kernel_rfl))).trans ((CU (hn 105 (by kernel_rfl))).trans ((CU (hn 104 (by kernel_rfl))).trans ((CU (hn 100 (by kernel_rfl))).trans ((CU (hn 103 (by kernel_rfl))).trans ((CU (hn 102 (by kernel_rfl))).trans (CU (hn 101 (by kernel_rfl))))))))))
 .exact Mf.trans ((CU (by decide)).trans (az ..))
 .exact Mf.trans ((az ..).trans (V5.trans ((CU (by decide)).trans (az ..))))
def xN {cb co rb ro ob k cc rc mc nc hc:Nat}{mA nA hA:Option cF}{x:Ny}{W:bl}{u:Nat->bn}{Q:cu->Act->bl->Prop}(hu:K8 W cb co rb ro ob k cc rc mc nc hc mA nA hA x u)
  (hK:∀W' u',Gr W W'->(∀t,Fl (cg 16) t=b7->u' t=u t)->QB (EJ x) (u' 26) W'->u' 27=a7 a8 (Cg x.c x.ls)->Q .normal ⟨T 155 u',[]⟩ W'):(bD 16 (cg 16) b7).wp B1 Q ⟨T 155 u,[]⟩ W:=by
 have HC:=yJ (λV hV=>hu.cells V hV);have hk:=hu.k5;have b1:=hu.GU.small.n;have b2:=hu.GU.small.h;have b3:=hu.GU.small.l;have H55:=yJ (λV (hV:Gr W V)=>qq x.nA x.hA x.gA x.nc x.hc x.gc x.c x.ls V V.heap.size (yL _) (hu.GU.at_.gr hV).n (hu.GU.at_.gr hV).h (hu.GU.at_.gr hV).g hu.cap (by omega) (by omega) (λh hh=>yR (hu.GU.small.o h hh) (by omega)) (by omega) (λy hy=>yR (hu.GU.small.g y hy) (by omega)))
 refine mV (R:=RB W (bq #[a7 a8 0,a7 a8 0,a7 a8 0] 42) (bq #[a7 a8 (EJ x).1,a7 a8 (EJ x).2.1,a7 a8 (EJ x).2.2] 42)) (m:=15) 13 26 (Qy W (bq #[a7 a8 (EJ x).1,a7 a8 (EJ x).2.1,a7 a8 (EJ x).2.2] 42) 26) mZ oV (by kernel_rfl) (by kernel_rfl) [λv _=>v=.slice (bk ⟨cb,co,bh⟩) 5 cc,λv _=>v=a7 a8 (k:Nat),λv _=>v=.pointer (bk ⟨cb,co+k*2,bh⟩),λv _=>v=.agg #[.slice x.nA x.c.B3.length x.nc,.slice x.hA x.c.B2.length x.hc],λv _=>v=.slice (bk ⟨rb,ro,bh⟩) 5 rc,λv _=>v=a7 a8 (k:Nat),λv _=>v=.pointer (bk ⟨rb,ro+k,bh⟩),λv _=>v=.slice x.gA x.ls.length x.gc,λv _=>v=.tuple #[Dc (EJ x),a7 a8 (Cg x.c x.ls)],λv _=>v=.tuple #[Dc (EJ x),a7 a8 (Cg x.c x.ls)],λv _=>v=Dc (EJ x),λv _=>v=a7 a8 (Cg x.c x.ls),Zk W (bq #[a7 a8 0,a7 a8 0,a7 a8 0] 42) (bq #[a7 a8 (EJ x).1,a7 a8 (EJ x).2.1,a7 a8 (EJ x).2.2] 42),λ_ _=>True,λv _=>v=a7 a8 (Cg x.c x.ls)] ⟨aa _,aa _,aa _,aa _,aa _,aa _,aa _,aa _,aa _,aa _,aa _,aa _,lE,λ_ _ _ _ h=>h,aa _,trivial⟩ ?_ ⟨⟨⟨⟨⟨⟨⟨⟨⟨⟨⟨⟨⟨⟨⟨trivial,?_⟩,?_⟩,?_⟩,?_⟩,?_⟩,?_⟩,?_⟩,?_⟩,?_⟩,?_⟩,?_⟩,?_⟩,?_⟩,?_⟩,?_⟩ λu w hg hf hv hS=>?_
 .intro u w hg hf hl hd;have f26:=(hd.at_ 12 26);have f116:=(hd.at_ 10 116);obtain⟨b,e8,hb1,hb2⟩:=f26;refine lD (op:=.store 42 (.tmp 26) (.tmp 116)) (t:=0) rfl (((w.setCell ⟨b,0,bh⟩ (a7 a8 (EJ x).1)).setCell ⟨b,1,bh⟩ (a7 a8 (EJ x).2.1)).setCell ⟨b,2,bh⟩ (a7 a8 (EJ x).2.2)) (λev he=>?_) ?_ ⟨trivial,b,e8,hb1,?_⟩
  .have e1:=(he.t 26).trans e8;have e2:=(he.t 116).trans f116;obtain⟨⟨⟨_,d0⟩,f0⟩,⟨⟨_,d1⟩,f1⟩,⟨_,d2⟩,f2⟩:=adO hb2;unfold Dc at e2;clear hf hg hl hd hb2 he hK f116;go_simp
  .exact m8 hb1 hb2
  .exact fG hb2
 .intro _ u w hg hf hl hd;exact ai rfl ((hf.at_ 19).trans hu.u19)
 .intro _ u w hg hf hl hd;exact ai rfl ((hf.at_ 21).trans hu.Zs)
 .intro _ u w hg hf hl hd;exact aU 2 rfl (hd.at_ 0 107) (hd.at_ 1 108)
 .intro _ u w hg hf hl hd;refine aq (op:=.load 25 (.tmp 109)) (t:=25) rfl (λev he=>?_);have e109:=(he.t 109).trans (hd.at_ 2 109);obtain⟨⟨c0,c1,r0,o0,o1⟩,cl,rl,ol⟩:=HC.out w hg.gr;clear hg hf hl hd he;go_simp
 .intro _ u w hg hf hl hd;exact ai rfl ((hf.at_ 20).trans hu.u20)
 .intro _ u w hg hf hl hd;exact ai rfl ((hf.at_ 21).trans hu.Zs)
 .intro _ u w hg hf hl hd;exact aU 1 rfl (hd.at_ 4 111) (hd.at_ 5 112)
 .intro _ u w hg hf hl hd;obtain⟨⟨c0,c1,r0,o0,o1⟩,cl,rl,ol⟩:=HC.out w hg.gr;exact aS rfl (hd.at_ 6 113) (by assumption)
 .intro _ u w hg hf hl hd;exact bf rfl Sq.func14 #[.agg #[.slice x.nA x.c.B3.length x.nc,.slice x.hA x.c.B2.length x.hc],.slice x.gA x.ls.length x.gc] (λev he=>by simp[((he.t 110).trans (hd.at_ 3 110)),((he.t 114).trans (hd.at_ 7 114))]) ((H55.out w hg.gr).mono λe w' h=>⟨_,h.1,.Dh h.2,rfl⟩)
 .intro _ u w hg hf hl hd;exact ai rfl (hd.at_ 8 115)
 .intro _ u w hg hf hl hd;exact dI rfl (hd.at_ 9 106) rfl rfl
 .intro _ u w hg hf hl hd;exact dI rfl (hd.at_ 9 106) rfl rfl
 .intro _ u w hg hf hl hd;refine aV (op:=.alloc 42) (t:=0) rfl _ (w.alloc (bq #[a7 a8 0,a7 a8 0,a7 a8 0] 42)) (λev he=>?_) (.Dh ((Gr.refl w).alloc _)) ⟨_,rfl,hg.size,.inl (bW _ _)⟩;clear hg hf hl hd he;go_simp
 .exact λh=>absurd rfl h
 .intro _ u w hg hf hl hd;exact cD rfl (hd.at_ 11 117)
 .obtain⟨b,e8,hb1,hb2⟩:=hS (by decide);have er:cK 15 ((cg 16).size-15)=[]:=by kernel_rfl
  rw[er];show Q .normal _ _;obtain⟨d0,_⟩:=cell_of_heap hb2 0;obtain⟨d1,_⟩:=cell_of_heap hb2 1;obtain⟨d2,_⟩:=cell_of_heap hb2 2;exact hK _ _ hg.gr hf ⟨b,e8,(yK.1 hb2).1,d0,d1,d2⟩ (hv.at_ 14 27)
def uh (x y:Operand)(xs ys:Array bn)(w:bl):(eqGuard .neq 42 x y (.agg xs) (.agg ys)).run B1 w=.ok () w:=run_eqGuard_agg w .neq 42 x y xs ys (by kernel_rfl)
def xO {cb co rb ro ob k cc rc mc nc hc:Nat}{mA nA hA:Option cF}{x:Ny}{W:bl}{u:Nat->bn}{Q:cu->Act->bl->Prop}(hu:K8 W cb co rb ro ob k cc rc mc nc hc mA nA hA x u)(r24:QB (EJ x) (u 24) W)(h25:u 25=a7 a8 (Cg x.c x.ls))(r26:QB (EJ x) (u 26) W)(h27:u 27=a7 a8 (Cg x.c x.ls))
  (hK:∀W' u',Gr W W'->(∀t,Fl (cg 17) t=b7->u' t=u t)->u' 153=.bool bw->Q .normal ⟨T 155 u',[]⟩ W'):(bD 17 (cg 17) b7).wp B1 Q ⟨T 155 u,[]⟩ W:=by
 have HC:=yJ (λV hV=>hu.cells V hV);have hk:=hu.k5;have b1:=hu.GU.small.n;have b2:=hu.GU.small.h;have H56:=yJ (λV (hV:Gr W V)=>oD nA hA nc hc x.c V V.heap.size (yL _) (hu.n.on hV) (hu.h.on hV) (by omega) (by omega) (λh hh=>yR (hu.GU.small.o h hh) (by omega)));have H57:=yJ (λV (hV:Gr W V)=>kk x.nA x.hA x.nc x.hc x.c V V.heap.size (yL _) (hu.GU.at_.gr hV).n (hu.GU.at_.gr hV).h (by omega) (by omega) (λh hh=>yR (hu.GU.small.o h hh) (by omega)))
 have H29:=yJ (λV (hV:Gr W V)=>nX nA hA x.nA x.hA nc hc x.nc x.hc x.c V (hu.n.on hV) (hu.h.on hV) (hu.GU.at_.gr hV).n (hu.GU.at_.gr hV).h hu.GU.small.n hu.GU.small.h hu.GU.small.o);have H28:=yJ (λV (hV:Gr W V)=>(fJ mA x.gA mc x.gc x.ls x.ls V _ (yL _) (hu.m.on hV) (hu.GU.at_.gr hV).g (yR hu.GU.small.l (by omega)) (yR hu.GU.small.l (by omega)) (λy hy=>yR (hu.GU.small.g y hy) (by omega)) (λy hy=>yR (hu.GU.small.g y hy) (by omega))).mono λe w' h=>(by rw[decide_eq_true rfl] at h;exact h:e=.returned (.bool b7)/\Gr V w'))
 refine dQ (R:=Gr) (m:=36) (by kernel_rfl) [λv _=>v=.agg #[a6 nA x.c.B3.length nc,a6 hA x.c.B2.length hc],λv _=>v=a7 a8 (Cn x.c),λv _=>v=.slice (bk ⟨cb,co,bh⟩) 5 cc,λv _=>v=a7 a8 (k:Nat),λv _=>v=.pointer (bk ⟨cb,co+k*2,bh⟩),λv _=>v=.agg #[.slice x.nA x.c.B3.length x.nc,.slice x.hA x.c.B2.length x.hc],λv _=>v=a7 a8 (Cn x.c),λv _=>v=.bool bw,λv _=>v=.bool bw,λv _=>v=Dc (EJ x),λv _=>v=Dc (EJ x),λv _=>v=.bool bw,λv _=>v=.bool bw,λv _=>v=.bool bw,λv _=>v=a7 a8 (Cg x.c x.ls),λv _=>v=a7 a8 (Cg x.c x.ls),λv _=>v=.bool bw,λv _=>v=.bool bw,λv _=>v=.bool bw,λv _=>v=.agg #[a6 nA x.c.B3.length nc,a6 hA x.c.B2.length hc],λv _=>v=.slice (bk ⟨cb,co,bh⟩) 5 cc,λv _=>v=a7 a8 (k:Nat),λv _=>v=.pointer (bk ⟨cb,co+k*2,bh⟩),λv _=>v=.agg #[.slice x.nA x.c.B3.length x.nc,.slice x.hA x.c.B2.length x.hc],λv _=>v=.bool b7,λv _=>v=.bool bw,λv _=>v=.bool bw,λv _=>v=.bool bw,λv _=>v=a6 mA x.ls.length mc,λv _=>v=.slice (bk ⟨rb,ro,bh⟩) 5 rc,λv _=>v=a7 a8 (k:Nat),λv _=>v=.pointer (bk ⟨rb,ro+k,bh⟩),λv _=>v=.slice x.gA x.ls.length x.gc,λv _=>v=.bool b7,λv _=>v=.bool bw,λv _=>v=.bool bw] ⟨aa _,aa _,aa _,aa _,aa _,aa _,aa _,aa _,aa _,aa _,aa _,aa _,aa _,aa _,aa _,aa _,aa _,aa _,aa _,aa _,aa _,aa _,aa _,aa _,aa _,aa _,aa _,aa _,aa _,aa _,aa _,aa _,aa _,aa _,aa _,aa _,trivial⟩ ⟨⟨⟨⟨⟨⟨⟨⟨⟨⟨⟨⟨⟨⟨⟨⟨⟨⟨⟨⟨⟨⟨⟨⟨⟨⟨⟨⟨⟨⟨⟨⟨⟨⟨⟨⟨trivial,?_⟩,?_⟩,?_⟩,?_⟩,?_⟩,?_⟩,?_⟩,?_⟩,?_⟩,?_⟩,?_⟩,?_⟩,?_⟩,?_⟩,?_⟩,?_⟩,?_⟩,?_⟩,?_⟩,?_⟩,?_⟩,?_⟩,?_⟩,?_⟩,?_⟩,?_⟩,?_⟩,?_⟩,?_⟩,?_⟩,?_⟩,?_⟩,?_⟩,?_⟩,?_⟩,?_⟩ λu w hg hf hv=>?_
 .intro u w hg hf hl hd;refine aq (op:=.load 25 (.tmp 22)) (t:=25) rfl (λev he=>?_);have OJ:=(he.t 22).trans ((hf.at_ 22).trans hu.u22);obtain⟨⟨c0,c1,r0,o0,o1⟩,cl,rl,ol⟩:=HC.out w hg;clear hg hf hl hd he;go_simp
 .intro u w hg hf hl hd;exact bf rfl Sq.func15 #[.agg #[a6 nA x.c.B3.length nc,a6 hA x.c.B2.length hc]] (λev he=>by simp[((he.t 118).trans (hd.at_ 0 118))]) ((H56.out w hg).mono λe w' h=>⟨_,h.1,h.2,rfl⟩)
 .intro u w hg hf hl hd;exact ai rfl ((hf.at_ 19).trans hu.u19)
 .intro u w hg hf hl hd;exact ai rfl ((hf.at_ 21).trans hu.Zs)
 .intro u w hg hf hl hd;exact aU 2 rfl (hd.at_ 2 120) (hd.at_ 3 121)
 .intro u w hg hf hl hd;refine aq (op:=.load 25 (.tmp 122)) (t:=25) rfl (λev he=>?_);have e122:=(he.t 122).trans (hd.at_ 4 122);obtain⟨⟨c0,c1,r0,o0,o1⟩,cl,rl,ol⟩:=HC.out w hg;clear hg hf hl hd he;go_simp
 .intro u w hg hf hl hd;exact bf rfl Sq.func16 #[.agg #[.slice x.nA x.c.B3.length x.nc,.slice x.hA x.c.B2.length x.hc]] (λev he=>by simp[((he.t 123).trans (hd.at_ 5 123))]) ((H57.out w hg).mono λe w' h=>⟨_,h.1,h.2,rfl⟩)
 .intro u w hg hf hl hd;refine aq (op:=.binOp BinOp.neq 43 (.tmp 119) (.tmp 124) 43) (t:=4) rfl (λev he=>?_);have e119:=(he.t 119).trans (hd.at_ 1 119);have e124:=(he.t 124).trans (hd.at_ 6 124);clear hg hf hl hd he;go_simp
 .intro u w hg hf hl hd;exact ai rfl (hd.at_ 7 125)
 .intro u w hg hf hl hd;refine aq (op:=.load 42 (.tmp 24)) (t:=42) rfl (λev he=>?_) (hl:=aN (hd.at_ 8 126));obtain⟨b,e9,d9,d0,d1,d2⟩:=Jw _ _ _ _ hg r24;have e24:=(he.t 24).trans ((hf.at_ 24).trans e9);unfold Dc;clear hg hf hl hd he;go_simp
 .intro u w hg hf hl hd;refine aq (op:=.load 42 (.tmp 26)) (t:=42) rfl (λev he=>?_) (hl:=aN (hd.at_ 8 126));obtain⟨b,e9,d9,d0,d1,d2⟩:=Jw _ _ _ _ hg r26;have e26:=(he.t 26).trans ((hf.at_ 26).trans e9);unfold Dc;clear hg hf hl hd he;go_simp
 .intro u w hg hf hl hd;refine aq (op:=.binOp BinOp.neq 42 (.tmp 127) (.tmp 128) 42) (t:=4) rfl (λev he=>?_) (hl:=aN (hd.at_ 8 126));have ajc:=((he.t 127).trans (hd.at_ 9 127));have ajd:=((he.t 128).trans (hd.at_ 10 128));have Xi:=uh;have hq2:=wy;clear hg hf hl hd he hK;unfold Dc at ajc ajd;go_simp
 .intro u w hg hf hl hd;refine aq (op:=.pick (.tmp 126) (.const (b8 b7)) (.tmp 129)) (t:=4) rfl (λev he=>?_);have e126:=(he.t 126).trans (hd.at_ 8 126);have e129:=(he.t 129).trans (hd.at_ 11 129);have ec:=he.2.1;clear hg hf hl hd he;go_simp
 .intro u w hg hf hl hd;exact ai rfl (hd.at_ 12 130)
 .intro u w hg hf hl hd;exact ai rfl ((hf.at_ 25).trans h25) (hl:=aN (hd.at_ 13 131))
 .intro u w hg hf hl hd;exact ai rfl ((hf.at_ 27).trans h27) (hl:=aN (hd.at_ 13 131))
 .intro u w hg hf hl hd;refine aq (op:=.binOp BinOp.neq 43 (.tmp 132) (.tmp 133) 43) (t:=4) rfl (λev he=>?_) (hl:=aN (hd.at_ 13 131));have e132:=(he.t 132).trans (hd.at_ 14 132);have e133:=(he.t 133).trans (hd.at_ 15 133);clear hg hf hl hd he;go_simp
 .intro u w hg hf hl hd;refine aq (op:=.pick (.tmp 131) (.const (b8 b7)) (.tmp 134)) (t:=4) rfl (λev he=>?_);have e131:=(he.t 131).trans (hd.at_ 13 131);have e134:=(he.t 134).trans (hd.at_ 16 134);have ec:=he.2.1;clear hg hf hl hd he;go_simp
 .intro u w hg hf hl hd;exact ai rfl (hd.at_ 17 135)
 .intro u w hg hf hl hd;refine aq (op:=.load 25 (.tmp 22)) (t:=25) rfl (λev he=>?_) (hl:=aN (hd.at_ 18 136));have OJ:=(he.t 22).trans ((hf.at_ 22).trans hu.u22);obtain⟨⟨c0,c1,r0,o0,o1⟩,cl,rl,ol⟩:=HC.out w hg;clear hg hf hl hd he;go_simp
 .intro u w hg hf hl hd;exact ai rfl ((hf.at_ 19).trans hu.u19) (hl:=aN (hd.at_ 18 136))
 .intro u w hg hf hl hd;exact ai rfl ((hf.at_ 21).trans hu.Zs) (hl:=aN (hd.at_ 18 136))
 .intro u w hg hf hl hd;exact aU 2 rfl (hd.at_ 20 138) (hd.at_ 21 139) (hl:=aN (hd.at_ 18 136))
 .intro u w hg hf hl hd;refine aq (op:=.load 25 (.tmp 140)) (t:=25) rfl (λev he=>?_) (hl:=aN (hd.at_ 18 136));have e140:=(he.t 140).trans (hd.at_ 22 140);obtain⟨⟨c0,c1,r0,o0,o1⟩,cl,rl,ol⟩:=HC.out w hg;clear hg hf hl hd he;go_simp
 .intro u w hg hf hl hd;exact bf rfl Sq.func17 #[.agg #[a6 nA x.c.B3.length nc,a6 hA x.c.B2.length hc],.agg #[.slice x.nA x.c.B3.length x.nc,.slice x.hA x.c.B2.length x.hc]] (λev he=>by simp[((he.t 137).trans (hd.at_ 19 137)),((he.t 141).trans (hd.at_ 23 141))]) ((H29.out w hg).mono λe w' h=>⟨_,h.1,h.2,rfl⟩) (hl:=aN (hd.at_ 18 136))
 .intro u w hg hf hl hd;refine aq (op:=.unOp UnOp.not 4 (.tmp 142)) (t:=4) rfl (λev he=>?_) (hl:=aN (hd.at_ 18 136));have e142:=(he.t 142).trans (hd.at_ 24 142);clear hg hf hl hd he;go_simp
 .intro u w hg hf hl hd;refine aq (op:=.pick (.tmp 136) (.const (b8 b7)) (.tmp 143)) (t:=4) rfl (λev he=>?_);have e136:=(he.t 136).trans (hd.at_ 18 136);have e143:=(he.t 143).trans (hd.at_ 25 143);have ec:=he.2.1;clear hg hf hl hd he;go_simp
 .intro u w hg hf hl hd;exact ai rfl (hd.at_ 26 144)
 .intro u w hg hf hl hd;exact ai rfl ((hf.at_ 23).trans hu.u23) (hl:=aN (hd.at_ 27 145))
 .intro u w hg hf hl hd;exact ai rfl ((hf.at_ 20).trans hu.u20) (hl:=aN (hd.at_ 27 145))
 .intro u w hg hf hl hd;exact ai rfl ((hf.at_ 21).trans hu.Zs) (hl:=aN (hd.at_ 27 145))
 .intro u w hg hf hl hd;exact aU 1 rfl (hd.at_ 29 147) (hd.at_ 30 148) (hl:=aN (hd.at_ 27 145))
 .intro u w hg hf hl hd;obtain⟨⟨c0,c1,r0,o0,o1⟩,cl,rl,ol⟩:=HC.out w hg;exact aS rfl (hd.at_ 31 149) (by assumption) (hl:=aN (hd.at_ 27 145))
 .intro u w hg hf hl hd;exact bf rfl Sq.func18 #[a6 mA x.ls.length mc,.slice x.gA x.ls.length x.gc] (λev he=>by simp[((he.t 146).trans (hd.at_ 28 146)),((he.t 150).trans (hd.at_ 32 150))]) ((H28.out w hg).mono λe w' h=>⟨_,h.1,h.2,rfl⟩) (hl:=aN (hd.at_ 27 145))
 .intro u w hg hf hl hd;refine aq (op:=.unOp UnOp.not 4 (.tmp 151)) (t:=4) rfl (λev he=>?_) (hl:=aN (hd.at_ 27 145));have e151:=(he.t 151).trans (hd.at_ 33 151);clear hg hf hl hd he;go_simp
 .intro u w hg hf hl hd;refine aq (op:=.pick (.tmp 145) (.const (b8 b7)) (.tmp 152)) (t:=4) rfl (λev he=>?_);have e145:=(he.t 145).trans (hd.at_ 27 145);have e152:=(he.t 152).trans (hd.at_ 34 152);have ec:=he.2.1;clear hg hf hl hd he;go_simp
 .exact hK w u hg hf (hv.at_ 35 153)
def xP  {W:bl} {u:Nat->bn} {Q:cu->Act->bl->Prop}
  (hK:∀W' u',Gr W W'->Fr (cg 11) u' u->u' 21=a7 a8 0->Q .normal ⟨T 155 u',[]⟩ W'):(bD 11 (cg 11) bw).wp B1 Q ⟨T 155 u,[]⟩ W:=by
 refine gD (R:=Gr) (m:=1) (by kernel_rfl) [λv _=>v=a7 a8 0] ⟨aa _,trivial⟩ ⟨trivial,?_⟩ λu w hg hf hv=>?_
 .intro u w hg hf hl hd;exact mS rfl rfl
 .exact hK w u hg hf (hv.at_ 0 21)
def xQ {cb co k cc:Nat}{W:bl}{u:Nat->bn}{Q:cu->Act->bl->Prop}(V9:u 19=.slice (bk ⟨cb,co,bh⟩) 5 cc)(QC:u 21=a7 a8 (k:Nat))
  (hK:∀W' u',Gr W W'->Fr (cg 12) u' u->u' 87=.bool (decide ((k:Int)<5))->Q .normal ⟨T 155 u',[]⟩ W'):(bD 12 (cg 12) bw).wp B1 Q ⟨T 155 u,[]⟩ W:=by
 refine gD (R:=Gr) (m:=4) (by kernel_rfl) [λv _=>v=a7 a8 (k:Nat),λv _=>v=.slice (bk ⟨cb,co,bh⟩) 5 cc,λv _=>v=a7 a8 5,λv _=>v=.bool (decide ((k:Int)<5))] ⟨aa _,aa _,aa _,aa _,trivial⟩ ⟨⟨⟨⟨trivial,?_⟩,?_⟩,?_⟩,?_⟩ λu w hg hf hv=>?_
 .intro u w hg hf hl hd;exact ai rfl ((hf.at_ 21).trans QC)
 .intro u w hg hf hl hd;exact ai rfl ((hf.at_ 19).trans V9)
 .intro u w hg hf hl hd;refine aq (op:=.call { callee:=Callee.builtin Builtin.len,args:=#[.tmp 85],argTypes:=#[39] }) (t:=3) rfl (λev he=>?_);have e85:=(he.t 85).trans (hd.at_ 1 85);clear hg hf hl hd he;go_simp
 .intro u w hg hf hl hd;refine aq (op:=.binOp BinOp.lss 3 (.tmp 84) (.tmp 86) 3) (t:=4) rfl (λev he=>?_);have e84:=(he.t 84).trans (hd.at_ 0 84);have e86:=(he.t 86).trans (hd.at_ 2 86);clear hg hf hl hd he;go_simp
 .exact hK w u hg hf (hv.at_ 3 87)
def xR {k:Nat}{W:bl}{u:Nat->bn}{Q:cu->Act->bl->Prop}(QC:u 21=a7 a8 (k:Nat))(hk:k<5)
  (hK:∀W' u',Gr W W'->Fr (cg 13) u' u->u' 21=a7 a8 ((k+1:Nat):Int)->Q .normal ⟨T 155 u',[]⟩ W'):(bD 13 (cg 13) bw).wp B1 Q ⟨T 155 u,[]⟩ W:=by
 refine gD (R:=Gr) (m:=3) (by kernel_rfl) [λv _=>v=a7 a8 (k:Nat),λv _=>v=a7 a8 ((k+1:Nat):Int),λv _=>v=a7 a8 ((k+1:Nat):Int)] ⟨aa _,aa _,aa _,trivial⟩ ⟨⟨⟨trivial,?_⟩,?_⟩,?_⟩ λu w hg hf hv=>?_
 .intro u w hg hf hl hd;exact ai rfl ((hl.at_ 2 21).trans QC)
 .intro u w hg hf hl hd;refine aq (op:=.binOp BinOp.add 3 (.tmp 88) (.const (a7 a8 1)) 3) (t:=3) rfl (λev he=>?_);have e88:=(he.t 88).trans (hd.at_ 0 88);have hw:IntKind.i64.wrap ((k:Int)+1)=(k:Int)+1:=by simp[cw,cE,cq];omega
  have ec:=he.2.1;clear hg hf hl hd he;go_simp
 .intro u w hg hf hl hd;exact cD rfl (hd.at_ 1 89)
 .exact hK w u hg hf (hv.at_ 2 21)
def PH:fL 0=.seq (.region 14 (cg 14) b7) (fL 1)/\fL 1=.seq (.region 15 (cg 15) bw) (fL 2)/\fL 2=.seq (.region 16 (cg 16) b7) (fL 3)/\fL 3=.seq (.region 17 (cg 17) b7) (.cond (.tmp 153) (XB (fL 3)) .skip):=⟨by kernel_rfl,by kernel_rfl,by kernel_rfl,by kernel_rfl⟩
def Ul:q9 10=.seq (.region 11 (cg 11) bw) (.block 0 (.loop xK))/\xK=.seq (.seq (.region 12 (cg 12) bw) (.cond (.tmp 87) .skip (.exit 0))) (.seq (.block 1 (fL 0)) (.region 13 (cg 13) bw)):=⟨by kernel_rfl,by kernel_rfl⟩
def xS {cb co rb ro ob k cc rc mc nc hc:Nat}{mA nA hA:Option cF}{x:Ny}{W:bl}{u:Nat->bn}{Q:cu->Act->bl->Prop}(hu:K8 W cb co rb ro ob k cc rc mc nc hc mA nA hA x u)(hK:∀W' u',Gr W W'->u' 19=u 19/\u' 20=u 20/\u' 21=u 21->Q .normal ⟨T 155 u',[]⟩ W'):(fL 1).wp B1 Q ⟨T 155 u,[]⟩ W:=by
 obtain⟨_,e1,e2,e3⟩:=PH;rw[e1];refine b9 (xM hu λW1 u1 g1 f1 r24 h25=>?_);have UI:=hu.gr g1 (u':=u1) (f1 19 (by kernel_rfl)) (f1 20 (by kernel_rfl)) (f1 21 (by kernel_rfl)) (f1 22 (by kernel_rfl)) (f1 23 (by kernel_rfl));show b6 _ _ _ _ _;rw[e2];refine b9 (xN UI λW2 u2 g2 f2 r26 h27=>?_);have UJ:=UI.gr g2 (u':=u2) (f2 19 (by kernel_rfl)) (f2 20 (by kernel_rfl)) (f2 21 (by kernel_rfl)) (f2 22 (by kernel_rfl)) (f2 23 (by kernel_rfl))
 replace r24:QB (EJ x) (u2 24) W2:=by rw[f2 24 (by kernel_rfl)];exact Jw _ _ _ _ g2 r24
 replace h25:=(f2 25 (by kernel_rfl)).trans h25;show b6 _ _ _ _ _;rw[e3];refine b9 (xO UJ r24 h25 r26 h27 λW3 u3 g3 f3 aje=>?_);show b6 _ _ _ _ _;refine wp_cond_false ((fX (by decide)).trans aje) (wp_skip ?_);exact hK W3 u3 (g1.trans (g2.trans g3))
  ⟨(f3 19 (by kernel_rfl)).trans ((f2 19 (by kernel_rfl)).trans (f1 19 (by kernel_rfl))),(f3 20 (by kernel_rfl)).trans ((f2 20 (by kernel_rfl)).trans (f1 20 (by kernel_rfl))),(f3 21 (by kernel_rfl)).trans ((f2 21 (by kernel_rfl)).trans (f1 21 (by kernel_rfl)))⟩
def wE {cb co rb ro cc rc:Nat}{F:Nat->Ny}{W:bl}{u:Nat->bn}{Q:cu->Act->bl->Prop}(V9:u 19=.slice (bk ⟨cb,co,bh⟩) 5 cc)(h20:u 20=.slice (bk ⟨rb,ro,bh⟩) 5 rc)(hx:∀k,k<5->Qx W cb co rb ro k (F k))(hc:∀k,k<5->(F k).ls.length<=(F k).gc)(hK:∀W' u',Gr W W'->Q .normal ⟨T 155 u',[]⟩ W'):(q9 10).wp B1 Q ⟨T 155 u,[]⟩ W:=by
 obtain⟨e1,e2⟩:=Ul;obtain⟨e3,_⟩:=PH;rw[e1];refine b9 (xP λW1 u1 g1 f1 QC=>?_);show b6 _ _ _ _ _;refine wp_block (wp_loop (λa w=>∃u k,a=⟨T 155 u,[]⟩/\Gr W w/\u 19=.slice (bk ⟨cb,co,bh⟩) 5 cc/\u 20=.slice (bk ⟨rb,ro,bh⟩) 5 rc/\u 21=a7 a8 (k:Nat)/\k<=5) (λa _=>5-(bs (a.tmps.getD 21 undef)).toNat) ⟨u1,0,rfl,g1,(f1.at_ 19).trans V9,(f1.at_ 20).trans h20,QC,by omega⟩ ?_)
 rintro a w ⟨u,k,rfl,hg,V9,h20,QC,hk⟩;have em:∀u:Nat->bn,(T 155 u).getD 21 undef=u 21:=λu=>by rw[zW,iO (by decide)];rfl
 rw[e2];refine b9 (b9 (xQ V9 QC λW2 u2 g2 f2 h87=>?_));show b6 _ _ _ _ _;by_cases hlt:k<5
 .have hd:decide ((k:Int)<5)=true:=by simp;omega
  rw[hd] at h87;refine wp_cond_true ((fX (by decide)).trans h87) (wp_skip ?_);show b6 _ _ _ _ _;refine b9 (wp_block ?_);rw[e3];refine b9 (xL (k:=k) (x:=F k) ((f2.at_ 19).trans V9) ((f2.at_ 20).trans h20) ((f2.at_ 21).trans QC) hlt ((hx k hlt).gr (hg.trans g2)) (hc k hlt) λW3 u3 g3 k9 k10 k11 hm=>?_);obtain⟨ob,mc,nc,hc',mA,nA,hA,hm⟩:=hm;show b6 _ _ _ _ _;refine xS hm λW4 u4 g4 m=>?_
  show b6 _ _ _ _ _;refine xR (k:=k) (m.2.2.trans hm.Zs) hlt λW5 u5 g5 f5 i21=>?_;refine⟨⟨u5,k+1,rfl,hg.trans (g2.trans (g3.trans (g4.trans g5))),(f5.at_ 19).trans (m.1.trans hm.u19),(f5.at_ 20).trans (m.2.1.trans hm.u20),i21,by omega⟩,?_⟩;show 5-(bs ((T 155 u5).getD 21 undef)).toNat<5-(bs ((T 155 u).getD 21 undef)).toNat;rw[em,em,i21,QC];simp[bs];omega
 .have hd:decide ((k:Int)<5)=false:=by simp;omega
  rw[hd] at h87;refine wp_cond_false ((fX (by decide)).trans h87) (wp_exit ?_);exact(show(if(0:Nat)=0 then Q .normal ⟨T 155 u2,[]⟩ W2 else Q (.exit 0) ⟨T 155 u2,[]⟩ W2) from by rw[if_pos rfl];exact hK W2 u2 (hg.trans g2))
end Go.Sq
