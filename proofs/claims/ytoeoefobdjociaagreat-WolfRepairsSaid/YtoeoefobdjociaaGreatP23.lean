/- Parts of the proof. -/
import Derived.Test.YtoeoefobdjociaaGreatP22
set_option linter.all false
set_option maxHeartbeats 6400000
set_option maxRecDepth 1000000
open Go.Value renaming slice->Z,int->Y,pointer->bs
open Go.IntKind renaming i64->J
open Option renaming none->U,some->I
open Go renaming Value->X,World->E,bodyPost_ret->O,Calls->cf
open Go.Proofs renaming intOf->N
open Go.Proofs.Tryz renaming results14->C,underlying26->H,f16->bl,ntmps28->bq
open List renaming flatMap_cons->D,flatMap_nil->ak,length->br,range->bw
open Go.Obj renaming cells->G
open Nat renaming strongRecOn->bh,min_eq_left->bk,add_comm->bn,sub_self->bo
namespace Go.Sq
open Go.RowKit
def xE {α β:Type}{l:List α}{F:α->List β}{b:Nat}(h:∀x∈l,(F x).length<=b):(l.flatMap F).length<=l.length*b:=by
 induction l with
 |nil=>simp
 |cons x l ih =>
  have h1:=h x (by simp);have h2:=ih λy hy=>h y (by simp[hy]);rw[D,BH,AM,Nat.succ_mul];omega
def jz {c:D9}(a6:c.Ok)(k:Nat)(r:EH)(n:Nat):(Eh c (En c.DV.length) k r n).length<=16 ^ k:=by
 rw[mZ,Bq];exact AH (CM _ _) (AH (qL _ _) (Nat.pow_le_pow_left (iP a6) _))
def xF {w:E}{base e s n c:Nat}{A:Option Addr}{xs:List X}(h:w.ownsRow base e s (Z A n c) n xs):n<=c:=by
 obtain⟨h1,rfl⟩|⟨g,cap,cur,hv,_,_,h3,_⟩:=h.2
 .exact AU _
 .cases hv;exact h3
def ta (r:EH)(n x:Nat):Ew (upd r n x) (n+1)=Ew r n++[wl x]:=by
 rw[i8];congr 1
 .refine List.map_congr_left λi hi=>?_;have:=Bu.1 hi;show wl (upd r n x i)=_;unfold upd;rw[AD (by omega)]
 .unfold upd;rw[AF rfl]
def td {w w':E}{bb b2:Nat}{B V u:X}{L:List (List Int)}{l:List Int}{xs:List X}(h:Ec w bb B L xs)(hu:w.ownsRow b2 3 1 u l.length (l.map (Y J)))(hg:Gr w w')(zq:bb<=b2)(hb:bb<=w.heap.size)(hr:w'.ownsRow w.heap.size 22 1 V (L.length+1) (xs++[u])):Ec w' bb V (L++[l]) (xs++[u]):=by
 have zl:xs.length=L.length:=by have:=h.row.1;omega
 refine⟨by simpa using Fe hr hb,λi z hi=>?_⟩;obtain zY|a7:=Br i L.length
 .rw[Bl zY] at hi;obtain⟨y,h1,h2⟩:=h.cells i z hi;exact⟨y,by rw[Bl (by omega)];exact h1,dg h2 hg⟩
 .have a6 : i = L.length := by
   have:=(AV.1 hi).1;simp at this;omega
  subst a6;rw[Bo (AA _)] at hi;simp at hi;subst hi;exact⟨u,by rw[Bo (by omega),zl];simp,dg (Fe hu zq) hg⟩
def Fo.append {w w':E}{base b2:Nat}{v v' u:X}{L M:List (List (List Int))}{xs ys:List X}(h:Fo w base v L xs)(hu:Fo w base u M ys)(hv:w.ownsRow b2 26 1 v L.length xs)(hg:w.grownBy w' v.ownBlock)(hr:w'.ownsRow base 26 1 v' (L.length+M.length) (xs++ys)):Fo w' base v' (L++M) (xs++ys):=by
 have zl:xs.length=L.length:=by have:=h.row.1;omega
 have key:∀ {y:X} {l:List (List Int)} {zs:List X},Ec w base y l zs->Ec w' base y l zs:=λhy=>hy.past (by decide) (by decide) hv hg;refine⟨by simpa using hr,λi l hi=>?_⟩;obtain zY|a6:=Br i L.length
 .rw[Bl zY] at hi;obtain⟨z,zs,h1,h2⟩:=h.cells i l hi;exact⟨z,zs,by rw[Bl (by omega)];exact h1,key h2⟩
 .rw[Bo a6] at hi;obtain⟨z,zs,h1,h2⟩:=hu.cells _ l hi;exact⟨z,zs,by rw[Bo (by omega),zl];exact h1,key h2⟩
def ot {w:E}{base:Nat}{v:X}{L:List (List (List Int))}{xs:List X}(h:Fo w base v L xs):∀y∈xs,y.oneCell'=true:=λy hy=>by
 obtain⟨i,hi,rfl⟩:=Cc.1 hy;have hl:xs.length=L.length:=by have:=h.row.1;omega
 obtain⟨z,zs,h1,h2⟩:=h.cells i L[i] (AB (by omega));rw[AB hi] at h1;injection h1 with h1
 obtain⟨A,c,e⟩:=E9 h2.row;rw[h1,e];rfl
open Go.Proofs
section
variable {w:E} {ops:Array Oper} {rest:List Oper} {o:Oper} {a:Act} {Q:Exit->Act->E->Prop}
def uT (hgd:o.guard=U)(s x:Operand)(ho:o.op=.call { callee:=.builtin .append,args:=#[s,x],argTypes:=#[35,35] })
  (base B:Nat) (v u:X) (n m:Nat) (xs ys:List X) (hs:a.eval s=v) (zm:w.ownsRow base 26 1 v n xs) (hx:a.eval x=u) (hu:w.ownsRow B 26 1 u m ys) (hy:∀y∈ys,y.oneCell'=true)
  (hn:n+m<=1048576) (hbase:base<=w.heap.size) (h:∀v' w',w'.ownsRow base 26 1 v' (n+m) (xs++ys)->w.grownBy w' v.ownBlock->w.drawn<=w'.drawn->wpList DU ops Q rest (a.put o.dst v') w'):wpList DU ops Q (o::rest) a w:=by
 have ht:DU.underlying 35=I (.slice 26):=(Sq.underlying 35).trans Tryz.underlying35;obtain⟨i0,hi,zF,zE,zD⟩:=info_parts DQ;have hl:=hu.1;obtain⟨rfl,h0⟩|⟨g,c,cur,rfl,h1,h2,h3⟩:=hu.2
 .subst h0;have e:ys=[]:=Bc (by omega);subst e;refine wpList_append_own_none hgd s x 35 ho base 26 i0 1 ht hi v n xs hs zm hx ?_;exact h v w (by simpa using zm) (World.grownBy.refl w _) (AA _)
 .exact EA hgd s x 35 ho base 26 i0 _ 1 24 ht hi zF zE zD rfl (by decide) v n xs hs zm ⟨g,0,U⟩ m c ys hx (by omega) (λj u hj=>hu.cells (g:=g) rfl j u hj) hy (by unfold maxLen;omega) (by omega) hbase h
end
def te (n:Nat)(hn:n<=4):∀(k f:Nat),f+k=n->∀w:E,cf DU 65 #[Y J f,Y J n] w λe w'=>∃v xs,e=.returned v/\Gr w w'/\Ec w' w.heap.size v (subs n k) xs:=by
 intro k
 induction k using bh with
 |ind k ih =>
  intro f hf w;have aR:=Ay ih;clear ih;go_enter Sq.func65,Tryz.ntmps65;go_wp2;go_loopw [5,6] (λv i wr=>∃(j:Nat) (L:List (List Int)) (xs:List X),f<=j/\j<=n/\i=Y J j/\Gr w wr/\Ec wr w.heap.size v L xs/\L++(subs n (n-j)).tail=subs n k) (λ_ i _=>n-(N i).toNat)
  case atStart =>
   exact⟨f,[[]],_,AA _,by omega,rfl,(Gr.refl w).alloc _,Md (AA _) (heap_alloc_new _ _),by rw[show n-f=k by omega];exact sV n k⟩
  case round =>
   obtain⟨wq,rfl⟩:∃wq,wq=wr:=⟨_,rfl⟩;obtain⟨j,L,xs,bD,hj,rfl,zV,aB,a6⟩:=hrel;have HG:=Ay zV;have HO:=Ay aB;by_cases zY:j<n
   .have HC:=Ay (aR.out (n-j-1) (by omega) (j+1) (by omega) wq);rw[C9,Int.natCast_one] at HC;rw[sW zY] at a6;have aS:=m8 n hn (n-j-1) (by omega);have hLl:L.length<=16:=by
     have:=AX br a6;have h2:=m8 n hn k (by omega);rw[BH] at this;omega
    have aD:=Ay a6;have aJ:=Ay (λx hx=>AH (uQ n (n-j-1) x hx) (show n-j-1<=1000 by omega));generalize hR:subs n (n-j-1)=R at HC aD aS aJ;replace hR:=Ay hR;clear zV aB a6;go_wp2_with fail;refine HC.out.mono ?_;rintro e w1 ⟨vr,rs,rfl,zJ,zV⟩;obtain⟨vA,vc,rfl⟩:=E9 zV.row;have aT:=Ay zV;have aU:=Ay zJ;have zE:=zJ.size;have aV:=Ay (HO.out.gr zJ);have aW:Hid (∀g,(Z vA R.length vc).ownBlock=I g->I g≠u5.ownBlock):=Ay λg h1 h2=>by
     have a1:=(zV.row.lt g h1).1;have a2:=(HO.out.row.lt g h2.symm).2;omega
    have zF:=HG.out.size;clear zJ zV HC;go_wp2;go_loopw [5,8] (λv i wr=>∃(q:Nat) (ys:List X),q<=R.length/\i=Y J q/\Gr w wr/\Ec wr w.heap.size v (L++(R.take q).map ((j:Int)::·)) ys/\Ec wr wq.heap.size (Z vA R.length vc) R rs/\∀g,(Z vA R.length vc).ownBlock=I g->I g≠v.ownBlock) (λ_ i _=>R.length-(N i).toNat)
    case atStart=>exact⟨0,xs,by omega,rfl,HG.out.trans aU.out,by simpa using aV.out,aT.out,aW.out⟩
    case round =>
     obtain⟨q,ys,hq,rfl,aC,hoi,aA,hai⟩:=hrel;have aK:=Ay aC;have aF:=Ay hoi;have aX:=Ay aA;have aY:=Ay hai;have bE:=aC.size;by_cases aG:q<R.length
     .obtain⟨g,cr,hv,zQ,bF⟩:=aA.form (by omega);obtain⟨rfl,rfl⟩:vA=I ⟨g,0,U⟩/\vc=cr:=by injection hv with a b c;exact⟨a,c⟩
      clear hv;obtain⟨A,c,hcell,hrow⟩:=aA.at_ aG;have aL:Hid (R.take (q+1)=R.take q++[R[q]]):=Ay (by rw[BZ,AB aG];rfl);have bG:(L++(R.take q).map ((j:Int)::·)).length<=32:=by simp;omega
      have aZ:=aJ.out _ (Bh aG);generalize R[q]=x at hcell hrow aL aZ;have aP:=Ay hrow;clear aC hoi aA hai hrow;go_wp2_with (at_builtin;refine m7 rfl _ _ rfl wr.heap.size wq.heap.size _ _ 1 x.length [Y J j] (x.map (Y J)) rfl (pu wr (AA _) j) rfl (ar aP.out λb _ hb=>ae _ _ hb) (pv x) ?c1 ?c2 ?_)
      case c1=>omega
      case c2=>simp
      intro u w2 hown2 hgrow2 aM
      have G2:Hid (Gr wr w2):=Ay (((Gr.refl wr).alloc _).grown hgrow2 aM λk hk=>by
       have:wr.heap.size=k:=by injection hk
       omega)
      have hU:w2.ownsRow wr.heap.size 3 1 u (x.length+1) (((j:Int)::x).map (Y J)):=by
       rw[bn];exact hown2
      obtain⟨uA,uc,rfl⟩:=E9 hU;have HU:Hid (w2.ownsRow wr.heap.size 3 1 (Z uA (x.length+1) uc) ((j:Int)::x).length (((j:Int)::x).map (Y J))):=Ay hU;have zD:=G2.out.size;have b5:=Ay ((aF.out.gr G2.out).gr ((Gr.refl w2).alloc (G #[Z uA (x.length+1) uc] 22)));clear hown2 hgrow2 aM hU;go_wp2_with (at_builtin;refine pt ((Sq.underlying 26).trans H) Du rfl _ _ rfl w.heap.size _ _ _ rfl b5.out.row ⟨w2.heap.size,0,U⟩ 1 (Z uA (x.length+1) uc) rfl cells_one rfl ?c1 ?c2 ?_)
      case c1=>omega
      case c2=>simp;omega
      intro v' w3 a7 a8 aH hv3;have aQ:(L++(R.take q).map ((j:Int)::·)).length=L.length+q:=by rw[BH,Bq,CT];omega
      obtain⟨Iq,aN,aO⟩:=KY (l:=(j:Int)::x) aF.out aX.out aY.out G2.out HU.out (by omega) a8 (by rw[aQ];first|exact a7|(rw[bk (by omega)] at a7;exact a7)) aH hv3
      have b6:Hid (Ec w3 w.heap.size v' (L++(R.take (q+1)).map ((j:Int)::·)) (ys++[Z uA (x.length+1) uc])):=Ay (by
       rw[aL.out,CQ,<-Ce];exact Iq)
      have b7:=Ay aN;have b8:=Ay aO;have b9:=Ay (((aK.out.trans G2.out).alloc _).grown a8 aH λb hb=>(aF.out.row.lt b hb).1);clear a7 a8 aH hv3 Iq aN aO;go_wp2;go_roundw
      case rel=>exact⟨q+1,_,by omega,by go_num,b9.out,b6.out,b7.out,b8.out⟩
      case measure=>simp[Proofs.intOf];omega
     .have bA:q=R.length:=by omega
      subst bA;rw[Ct] at hoi;have aI:=Ay hoi
      have bB:Hid ((L++R.map ((j:Int)::·))++(subs n (n-(j+1))).tail=subs n k):=Ay (by
       rw[show n-(j+1)=n-j-1 by omega,hR.out,Ce];exact aD.out)
      clear aC hoi aA hai;go_wp2;go_roundw
      case rel=>exact⟨j+1,_,_,by omega,by omega,by go_num,aK.out,aI.out,bB.out⟩
      case measure=>simp[Proofs.intOf];omega
   .have bC:j=n:=by omega
    subst bC
    have aI:Hid (Ec wq w.heap.size u5 (subs j k) xs):=Ay (by
     rw[bo] at a6;have e:L=subs j k:=by simpa [subs] using a6
     rw[<-e];exact aB)
    clear zV aB a6 HO;go_wp2;go_ret;exact⟨_,_,rfl,HG.out,aI.out⟩
def fw (c:D9)(aG:c.Ok):∀(k n:Nat),n+k=c.DW.length->∀(r:EH),(∀i,c.has (r i))->∀(nA hA:Option Addr) (nc hc:Nat) (w:E) (B:Nat),B<=w.heap.size->RI w B nA c.DW->EN w B hA c.DV ->
  ∀(bb:Nat) (BV:X) (xs:List X),Ec w bb BV (Ew r n) xs->bb<=w.heap.size->cf DU 28 #[Ef nA hA c nc hc,BV] w λe w'=>∃v ys,e=.returned v/\Gr w w'/\Fo w' bb v ((Eh c (En c.DV.length) k r n).map λr=>Ew r c.DW.length) ys/\w'.ownsRow w.heap.size 26 1 v (Eh c (En c.DV.length) k r n).length ys:=by
 intro k
 induction k with
 |zero =>
  intro n bU r hx nA hA nc hc w B hB hn hh bb BV xs aA bV;obtain rfl:n=c.DW.length:=by omega
  unfold Ef;obtain⟨W0,zM⟩:∃W0:E,W0=w.alloc (G #[Z nA c.DW.length nc,Z hA c.DV.length hc] 25):=⟨_,rfl⟩;have zL:Gr w W0:=zM▸(Gr.refl w).alloc _;have zF:W0.heap.size=w.heap.size+1:=by rw[zM];simp
  have zp:W0.cell? ⟨w.heap.size,0,U⟩=I (Z nA c.DW.length nc):=by rw[zM,AE _ _ _ _ rfl];rfl
  have HW:=Ay zM;have aH:=Ay (aA.gr zL);obtain⟨bA,bc,rfl⟩:=E9 aA.row;rw[EE] at aH ⊢;have a7:=Ay zL;clear zM zL aA hn hh;go_enter Sq.func28,bq;go_wp2;rw[<-HW.out];go_wp2;go_ret;have hnw:(W0.alloc (G #[Z bA c.DW.length bc] 26)).heap[w.heap.size+1]?=I (G #[Z bA c.DW.length bc] 26 (0,0)):=by rw[<-zF];exact heap_alloc_new _ _
  refine⟨_,[Z bA c.DW.length bc],rfl,a7.out.alloc _,⟨⟨rfl,.inr ⟨w.heap.size+1,1,_,rfl,by omega,hnw,AA _,by unfold maxLen;simp,rfl,rfl⟩⟩,λi l hi=>?_⟩,rfl,.inr ⟨w.heap.size+1,1,_,rfl,by omega,hnw,AA _,by unfold maxLen;simp,rfl,rfl⟩⟩
  match i,hi with
  |0,hi=>cases hi;exact⟨_,xs,rfl,aH.out.gr ((Gr.refl _).alloc _)⟩
 |succ k ih =>
  intro n bU r hx nA hA nc hc w B hB hn hh bb BV xs aA bV;unfold Ef;obtain⟨W0,zM⟩:∃W0:E,W0=w.alloc (G #[Z nA c.DW.length nc,Z hA c.DV.length hc] 25):=⟨_,rfl⟩;have zL:Gr w W0:=zM▸(Gr.refl w).alloc _;have zF:W0.heap.size=w.heap.size+1:=by rw[zM];simp
  have zp:W0.cell? ⟨w.heap.size,0,U⟩=I (Z nA c.DW.length nc)/\W0.cell? ⟨w.heap.size,1,U⟩=I (Z hA c.DV.length hc):=by rw[zM,AE _ _ _ _ rfl,AE _ _ _ _ rfl];exact⟨rfl,rfl⟩
  have bG:=Ay zp;have HW:=Ay zM;have aH:=Ay (aA.gr zL);obtain⟨bA,bc,rfl⟩:=E9 aA.row;rw[EE] at aH ⊢;have a7:=Ay zL;have HP:Hid (FE W0 W0.heap.size w.heap.size c nA hA nc hc):=Ay ⟨by omega,zp.1,zp.2,(hn.gr hB zL).more (by omega),(hh.keep λb o hb=>zL.cell (AC hb hB)).more (by omega)⟩;have h4:=aG.h4;have cD:=aG.n5;have HS:=te c.DV.length h4 c.DV.length 0 (AO _) W0;rw[sR _ h4,show((0:Nat):Int)=0 from rfl] at HS
  have HX:=Ay hx;have HSX:=Ay (fi aG);have bQ:=iP aG;have HWK:Hid (Eh c (En c.DV.length) (k+1) r n=(En c.DV.length).flatMap λx=>if(Ej c (upd r n x) n).1=0 then Eh c (En c.DV.length) k (upd r n x) (n+1) else[]):=Ay rfl;have aW:Hid (∀x,(Eh c (En c.DV.length) k (upd r n x) (n+1)).length<=16 ^ k):=Ay λx=>jz aG _ _ _;have hk4:16 ^ k<=65536:=AH (BN (by omega) (show k<=4 by omega)) (by decide)
  have bH:=Ay λ(x:Nat) (hx:c.has x)=>ih (n+1) (by omega) (upd r n x) (λi=>by
   unfold upd;split
   .exact hx
   .exact HX.out i) nA hA nc hc
  have HL1:=Ay λ(x:Nat) (hx:c.has x)=>(show ∀i,c.has (upd r n x i) from λi=>by
   unfold upd;split
   .exact hx
   .exact HX.out i)
  replace HS:=Ay HS;generalize En c.DV.length=S at HS HSX bQ HWK aW bH ⊢;have zU:((n:Int)==(c.DW.length:Int))=false:=by simp;omega
  clear zM zL aA hn hh zp ih hx;go_enter Sq.func28,bq;have bW:=bG.out.1;have bX:=bG.out.2;have cE:w.heap.size<W0.heap.size:=by omega
  go_wp2_with fail;rw[<-HW.out];go_wp2_with fail;refine HS.out.mono ?_;rintro e w1 ⟨vS,sx,rfl,zJ,aX⟩;obtain⟨sA,sc,rfl⟩:=E9 aX.row;rw[Bq] at *;have aZ:=Ay aX;have aQ:=Ay zJ;clear aX zJ HS bW bX;go_wp2;go_loopw [5,7] (λv i wr=>∃(j:Nat) (ys:List X),j<=S.length/\i=Y J j/\Gr w1 wr/\Fo wr bb v (((S.take j).flatMap λx=>if(Ej c (upd r n x) n).1=0 then Eh c S k (upd r n x) (n+1) else[]).map λr=>Ew r c.DW.length) ys/\wr.ownsRow w1.heap.size 26 1 v ((S.take j).flatMap λx=>if(Ej c (upd r n x) n).1=0 then Eh c S k (upd r n x) (n+1) else[]).length ys) (λ_ i _=>S.length-(N i).toNat)
  case atStart=>exact⟨0,[],by omega,rfl,.refl _,Fo.nil _ _,Bw _ _ _ _⟩
  case round =>
   obtain⟨j,ys,hj,rfl,zV,aJ,how⟩:=hrel;obtain⟨wq,rfl⟩:∃wq,wq=wr:=⟨_,rfl⟩;have HG:=Ay zV;have b5:=Ay aJ;have HOW:=Ay how;have cF:=zV.size;by_cases zY:j<S.length
   .have zE:=aQ.out.size;have aR:=aQ.out.trans zV;have hz0q:=aR.size;obtain⟨sg,sc',hv,hsgb,b6⟩:=aZ.out.form (by rw[Bq];omega);obtain⟨rfl,rfl⟩:sA=I ⟨sg,0,U⟩/\sc=sc':=by injection hv with a b c;exact⟨a,c⟩
    obtain⟨u0,b7,aS⟩:=aZ.out.cells j (wl S[j]) (by rw[BK,AB zY];rfl);obtain⟨A,lc,rfl⟩:=E9 aS;have hcell:=aZ.out.row.cells (g:=sg) rfl j _ b7;rw[Addr.add_lit,AO] at hcell;have b8:=HSX.out _ (Bh zY);have b9:Hid (S.take (j+1)=S.take j++[S[j]]):=Ay (by rw[BZ,AB zY];rfl)
    have bI:Hid (((S.take j).flatMap λx=>if(Ej c (upd r n x) n).1=0 then Eh c S k (upd r n x) (n+1) else[]).length<=j*16 ^ k):=Ay (by
     refine AH (xE (b:=16 ^ k) λx _=>?_) (Nat.mul_le_mul_right _ (by rw[CT];omega));split
     .exact aW.out x
     .exact AU _)
    have HWX:=Ay (aW.out S[j]);have bB:=Ay (bH.out _ b8);have bJ:=HL1.out _ b8;have bY:=aY S[j];generalize S[j]=x at aS hcell b8 b9 HWX bB bJ bY b7;have HU2:=Ay (dg aS zV);have bK:Hid (∀V,Gr wq V->V.cell? ⟨sg,j,U⟩=I (Z A (wl x).length lc)/\sg<V.heap.size):=Ay λV hV=>⟨((zV.trans hV).cell (p:=⟨sg,j,U⟩) b6).trans hcell,AC b6 (zV.trans hV).size⟩;have HBB:Hid (∀V,Gr wq V->V.ownsRow bb 22 1 (Z bA n bc) n xs):=Ay λV hV=>by
     have:=dg aH.out.row (aR.trans hV)
     rwa [EE] at this
    clear b7 aS hcell hv aJ how zV;go_wp2;rename_i bZ;refine iF 52 rfl λu hu=>?_;refine yD (k:=j) (sn:=S.length) (hu 1) (hu 6) (hu 7) zY (by omega) HBB bK λW5 u6 aB hrow bL=>?_;rw[fv (n:=52) [29,30,31,32,33,34,35,36,37,8] (by kernel_rfl) rfl hu bL];have bM:Gr W0 W5:=aR.trans aB;have aT:=Ay (td (aH.out.gr aR) HU2.out aB (show bb<=W0.heap.size by have:=a7.out.size;omega) (by have:=a7.out.size;omega) (by rw[EE];exact hrow))
    rw[<-ta] at aT;obtain⟨gA,gc,e8⟩:=E9 hrow;rw[e8] at aT hrow;have hcap:=xF hrow;have hP:=HP.out.on bM;have aU:=Ay hP;have bN:=Ay (HG.out.trans aB);have aM:=Ay (b5.out.gr aB);have aN:=Ay (dg HOW.out aB);obtain⟨_,_,he,bO⟩:=aT.out.J4;rw[EE] at he;cases he;have a6:=og nA hA gA nc hc gc c (upd r n x) n W5 W5.heap.size (AA _) hP.DW hP.Fx bO aG (by omega) bJ (by omega)
    unfold Ef at a6;replace a6:=Ay a6;have k0:=hP.c0;have k1:=hP.c1;have kl:=hP.lt;have cG:=aB.size;clear hu bL HBB bK aB bM hP hrow bO b5 HOW;refine bZ _ _ ?_;simp only[B7,CR,Cf,Cx,e8];clear e8;generalize J8 c (upd r n x) n=lq at a6;obtain⟨q1,q2,q3⟩:=lq;unfold Gw at a6;dsimp only at a6;by_cases hl0:(Ej c (upd r n x) n).1=0
    .rw[Bx (by simpa using hl0)] at a6
     have aC:Hid (((S.take (j+1)).flatMap λx=>if(Ej c (upd r n x) n).1=0 then Eh c S k (upd r n x) (n+1) else[])=((S.take j).flatMap λx=>if(Ej c (upd r n x) n).1=0 then Eh c S k (upd r n x) (n+1) else[])++Eh c S k (upd r n x) (n+1)):=Ay (by
      rw[b9.out,CD,D,ak,B6,AF hl0])
     generalize ((S.take j).flatMap λx=>if(Ej c (upd r n x) n).1=0 then Eh c S k (upd r n x) (n+1) else[])=L0 at aC bI aM aN;obtain⟨L1,aK⟩:∃L1,L1=((S.take (j+1)).flatMap λx=>if(Ej c (upd r n x) n).1=0 then Eh c S k (upd r n x) (n+1) else[]):=⟨_,rfl⟩;rw[<-aK] at aC;replace aK:=Ay aK;clear hl0;go_wp2_with fail;refine a6.out.mono ?_;rintro e w6 ⟨rfl,a8⟩;obtain⟨w7,bC⟩:∃w7:E,w7=w6.alloc (G #[Y J q1,Y J q2,Y J q3] 124):=⟨_,rfl⟩
     have aD:Gr W5 w7:=bC▸a8.alloc _;have hz7:=aD.size;have c2:=Ay bC;have bD:=aU.out.on aD;have aL:=bB.out w7 w7.heap.size (AA _) bD.DW bD.Fx bb (Z gA (n+1) gc) (xs++[Z A (wl x).length lc]) (aT.out.gr aD) (by have:=a7.out.size;omega);unfold Ef at aL;replace aL:=Ay aL;have bR:=Ay (aM.out.gr aD);have bS:=Ay (dg aN.out aD);have HG7:=Ay (bN.out.trans aD)
     replace k0:=(aU.out.on a8).c0;replace k1:=(aU.out.on a8).c1;replace kl:=(aU.out.on a8).lt;clear a8 aD bC bD a6 bB;go_wp2_with fail;rw[<-c2.out];refine aL.out.mono ?_;rintro e w8 ⟨v8,zs,rfl,aV,aO,bE⟩;have bT:=Ay (bR.out.gr aV);have aP:=Ay (dg bS.out aV);have HM8:=Ay aO;have HN8:=Ay bE;have HG8:=Ay (HG7.out.trans aV);have HSL:=Ay (ot aO);have hwx:=HWX.out;have cH:=bI.out
     have hjb:j*16 ^ k+16 ^ k<=1048576:=by
      have:j*16 ^ k<=15*65536:=Nat.mul_le_mul (by omega) hk4;omega
     have hz8:=HG8.out.size;clear aV aO bE aL;go_wp2_with (at_builtin;refine uT rfl _ _ rfl w1.heap.size w7.heap.size _ _ _ _ _ _ rfl aP.out rfl HN8.out HSL.out (by omega) (by omega) ?_);intro v' w9 aI aF bP;have c3:=Ay (HG8.out.grown aF bP λb hb=>(aP.out.lt b hb).1)
     have c4:Hid (Fo w9 bb v' (L1.map λr=>Ew r c.DW.length) (ys++zs)):=Ay (by
      rw[aC.out,CQ]
      exact bT.out.append HM8.out (by rw[Bq];exact aP.out) aF (by rw[Bq,Bq];exact Fe aI (by have:=a7.out.size;omega)))
     have HR9:Hid (w9.ownsRow w1.heap.size 26 1 v' L1.length (ys++zs)):=Ay (by rw[aC.out,BH];exact aI);clear aI aF bP;go_wp2;go_roundw
     case rel=>exact⟨j+1,_,by omega,by go_num,c3.out,by rw[<-aK.out];exact c4.out,by rw[<-aK.out];exact HR9.out⟩
     case measure=>simp[Proofs.intOf];omega
    .rw[BE hl0] at a6
     have aC:Hid (((S.take (j+1)).flatMap λx=>if(Ej c (upd r n x) n).1=0 then Eh c S k (upd r n x) (n+1) else[])=((S.take j).flatMap λx=>if(Ej c (upd r n x) n).1=0 then Eh c S k (upd r n x) (n+1) else[])):=Ay (by
      rw[b9.out,CD,D,ak,B6,AD hl0,B6])
     clear hl0;go_wp2_with fail;refine a6.out.mono ?_;rintro e w6 ⟨rfl,a8⟩;have bF:=Ay (a8.alloc (G #[Y J q1,Y J q2,Y J q3] 124));clear a8;go_wp2;go_roundw
     case rel=>exact⟨j+1,ys,by omega,by go_num,bN.out.trans bF.out,by rw[aC.out];exact aM.out.gr bF.out,by rw[aC.out];exact dg aN.out bF.out⟩
     case measure=>simp[Proofs.intOf];omega
   .have c5:j=S.length:=by omega
    subst c5;rw[Ct] at aJ how;have cA:=Ay aJ;have cB:=Ay how;have cC:=Ay (a7.out.trans (aQ.out.trans zV));clear zV aJ how b5 HOW;go_wp2;go_ret;rw[HWK.out];exact⟨_,_,rfl,cC.out,cA.out,Fe cB.out (by have:=a7.out.size;have:=aQ.out.size;omega)⟩
def uU {c:D9}(a6:c.Ok):∀r∈Eh c (En c.DV.length) c.DW.length EM 0,(∀i,r i<2 ^ c.DV.length)/\∀i,c.DW.length<=i->r i=0:=λr hr=>⟨fJ (fi a6) _ _ _ cn r hr,λi hi=>by
 rw[mZ] at hr;obtain⟨x,hx,rfl⟩:=Bf.1 hr;have hl:=(xp (Ca.1 hx).1).1;rw[xq,AD (by omega)]
 rfl⟩
def km (W:E)(g:EH)(R:List EH)(n:Nat)(j:Nat)(b:X):Prop:=∃ρ A c,b=Z A n c/\ρ∈R/\ER W W.heap.size A (Ew ρ n)/\F6 g (R.take j)=I (ρ,FM ρ g 5)
def ov (nA hA gA:Option Addr)(nc hc gc:Nat)(c:D9)(ls:List (List Int))(h d:Int)(w:E)(B:Nat)(hB:B<=w.heap.size)(hn:RI w B nA c.DW)(hh:EN w B hA c.DV)(hg:ER w B gA ls)
  (bT:c.DW.length<=4611686018427387904) (zC:c.DV.length<=4611686018427387904) (bG:∀h∈c.DV,h.off.length<=4611686018427387904) (bU:ls.length<=4611686018427387904) (zr:∀x∈ls,x.length<=4611686018427387904) :
  cf DU 14 #[Ef nA hA c nc hc,Z gA ls.length gc,Y J h,Y J d] w (cT c ls h d w):=by
 unfold Ef;obtain⟨W0,zM⟩:∃W0:E,W0=w.alloc (G #[Z nA c.DW.length nc,Z hA c.DV.length hc] 25):=⟨_,rfl⟩;have zL:Gr w W0:=zM▸(Gr.refl w).alloc _;have zF:W0.heap.size=w.heap.size+1:=by rw[zM];simp
 have aP:Hid (∀V,Gr W0 V->(V.cell? ⟨w.heap.size,0,U⟩=I (Z nA c.DW.length nc)/\V.cell? ⟨w.heap.size,1,U⟩=I (Z hA c.DV.length hc))/\w.heap.size<V.heap.size):=Ay λV hV=>by
  have:=hV.size;rw[hV.cell (by show w.heap.size<_;omega),hV.cell (by show w.heap.size<_;omega),zM,AE _ _ _ _ rfl,AE _ _ _ _ rfl];exact⟨⟨rfl,rfl⟩,by omega⟩
 have hf:=n8 nA hA gA nc hc gc c ls W0 B (by omega) (hn.gr hB zL) (hh.keep λb o hb=>zL.cell (AC hb hB)) (hg.gr hB zL) bT zC bG bU zr;unfold Ef at hf;have HF:=Ay hf;have HN:=Ay λV (hV:Gr W0 V)=>hn.gr hB (zL.trans hV);have HH:=Ay λV (hV:Gr W0 V)=>(hh.keep λb o hb=>(zL.trans hV).cell (p:=⟨b,o,U⟩) (AC hb hB):EN V B hA c.DV);have HG:=Ay λV (hV:Gr W0 V)=>hg.gr hB (zL.trans hV);have HW:=Ay zM
 have aQ:=Ay zL;have hBz:B<=W0.heap.size:=by omega
 clear zM zL hn hh hg hf bG zr;go_enter Sq.func14,Tryz.ntmps14;obtain⟨⟨k0,k1⟩,kl⟩:=aP.out W0 (.refl _);go_wp2_with fail;rw[<-HW.out];refine HF.out.mono ?_;rintro e w1 ⟨rfl,zJ⟩;have aB:=Ay zJ;obtain⟨⟨q0,q1⟩,ql⟩:=aP.out w1 zJ;clear zJ HF k0 k1 kl;by_cases h0:Ek c ls=0
 .have aU:=Ay h0;have a7:=Ay (D9.Ok.of (dO h0));have aZ:=Ay (jd h0).1;have b5:=a7.out.n5;have h4:=a7.out.h4;have cB:=a7.out.n1;have cC:=a7.out.h1;rw[h0,aZ.out];clear h0;obtain⟨x1,hx1⟩:∃x,x=FC h 0 (c.DV.length-1):=⟨_,rfl⟩;obtain⟨x2,hx2⟩:∃x,x=FC d 0 (c.DW.length-1):=⟨_,rfl⟩;have hb1:=dW h 0 (c.DV.length-1) w1;have zq:=dW d 0 (c.DW.length-1) w1;rw[<-hx1] at hb1;rw[<-hx2] at zq
  have aV:=Ay hb1;have bH:=Ay zq;have b6:=Ay hx1;have b7:=Ay hx2;clear hb1 zq hx1 hx2;go_wp2_with fail;refine aV.out.mono ?_;rintro e w' ⟨rfl,rfl⟩;have aA:Hid ((x1&&x2)=false->cT c ls h d w (.returned (.tuple #[.slice U 0 0,Y J 0,Y J 3])) w1):=Ay λhx=>by
   refine⟨aQ.out.trans aB.out,?_⟩;rw[AD (by simp[aU.out]),AF (by rw[<-b6.out,<-b7.out];exact hx)]
  cases x1 with
  |false =>
   go_wp2;exact O (v:=.tuple #[.slice U 0 0,Y J 0,Y J 3]) (by simp[results,C,go_sem]) rfl (aA.out rfl)
  |true =>
   go_wp2_with fail;refine bH.out.mono ?_;rintro e w' ⟨rfl,rfl⟩;cases x2 with
   |false =>
    go_wp2;exact O (v:=.tuple #[.slice U 0 0,Y J 0,Y J 3]) (by simp[results,C,go_sem]) rfl (aA.out rfl)
   |true =>
    clear aA aV bH;obtain⟨k,rfl,hk⟩:∃k:Nat,h=k/\k<c.DV.length:=by
     have:=b6.out.symm;simp[FC] at this;exact⟨h.toNat,by omega,by omega⟩
    obtain⟨KC,b8⟩:0<=d/\d<c.DW.length:=by
     have:=b7.out.symm;simp[FC] at this;omega
    have bI:Hid (¬(FC (k:Int) 0 (c.DV.length-1)&&FC d 0 (c.DW.length-1))=false):=Ay (by rw[<-b6.out,<-b7.out];decide);have b9:=uS nA hA nc hc k d c w1 B (by have:=aB.out.size;omega) (HN.out w1 aB.out) (HH.out w1 aB.out) a7.out hk;unfold Ef at b9;have bA:=Ay b9;have aK:=uR (d:=d) a7.out hk;have hlc:(Ho c k d).DV.length=c.DV.length:=Dd ..;have bJ:(Ho c k d).DW=c.DW:=rfl
    have aH:=Ay λhA' hc' V (h1:RI V V.heap.size nA c.DW) (h2:EN V V.heap.size hA' (Ho c k d).DV)=>fw (Ho c k d) aK c.DW.length 0 (AO _) EM cn nA hA' nc hc' V V.heap.size (AA _) h1 h2 V.heap.size (.slice U 0 0) [] (Ec.nil _ _) (AA _);have aL:=uU aK;have zl:=jz aK c.DW.length EM 0;rw[hlc,bJ,gM a7.out hk KC b8] at aL;rw[hlc,gM a7.out hk KC b8] at zl
    unfold Ef at aH;rw[hlc,bJ] at aH bA;have c5:16 ^ c.DW.length<=1048576:=AH (BN (by omega) b5) (by decide);simp only[gM a7.out hk KC b8] at aH
    have aS:Hid (∀e w',Gr w w'->(match F6 (D4 ls) (Eh (G8 c k d) (En c.DV.length) c.DW.length EM 0) with
     |none=>e=.returned (.tuple #[.slice U 0 0,Y J 0,Y J 11])
     |some p=>∃A k,e=.returned (.tuple #[Z A c.DW.length k,Y J p.2,Y J 0])/\ER w' w'.heap.size A (Ew p.1 c.DW.length))->cT c ls k d w e w'):=Ay λe w' hg hm=>by
     refine⟨hg,?_⟩;rw[AD (by simp[aU.out]),AD bI.out];exact hm
    generalize Eh (G8 c k d) (En c.DV.length) c.DW.length EM 0=R at aH aL zl aS;have HM:=Ay aL;clear aL b9 bI aK;have bB:Hid (∀ρ∈R,FM ρ (D4 ls) 5=FM ρ (D4 ls) c.DW.length):=Ay λρ aC=>uO ρ (D4 ls) c.DW.length (λi hi=>by rw[(HM.out ρ aC).2 i hi,xB (by rw[aZ.out];exact hi)]) 5 b5
    have bC:Hid (∀V ρ A c4,Gr W0 V->ρ∈R->ER V V.heap.size A (Ew ρ c.DW.length)->cf DU 45 #[.agg #[Z nA c.DW.length nc,Z hA c.DV.length hc],Z gA c.DW.length gc,Z A c.DW.length c4] V λe w'=>e=.returned (Y J ((FM ρ (D4 ls) c.DW.length:Nat):Int))/\Gr V w'):=Ay λV ρ A c4 hV aC aD=>m9 nA hA gA A nc hc gc c4 c.DW.length c (D4 ls) ρ V V.heap.size (AA _) (by
     rw[sY aU.out aZ.out]
     exact(HG.out V hV).more (by have:=hV.size;omega)) aD h4 (fH aU.out) (HM.out ρ aC).1 b5
    have cA:=Ay (aQ.out.trans aB.out);clear q0 q1 ql;obtain⟨⟨q0,q1⟩,ql⟩:=aP.out w1 aB.out;go_wp2_with fail;refine bA.out.mono ?_;rintro e w2 ⟨hA',hc',rfl,zI,bK,hs2⟩;have bL:=Ay (aH.out hA' hc' w2 bK hs2);have bV:=Ay (aB.out.trans zI);clear zI bK hs2 bA aH q0 q1 ql;go_wp2_with fail;refine bL.out.mono ?_;rintro e w3 ⟨v,ys,rfl,zH,aW,how⟩;obtain⟨LA,Lc,rfl⟩:=E9 how;have bW:=Ay aW
    have bM:=Ay (bV.out.trans zH);clear zH how bL;by_cases hR:0<R.length
    .obtain⟨gL,cL,hv,_,aR⟩:=aW.form (by simpa using hR);obtain⟨rfl,rfl⟩:LA=I ⟨gL,0,U⟩/\Lc=cL:=by injection hv with a b c;exact⟨a,c⟩
     have bD:Hid (∀q (hq:q<R.length),∃A c',w3.cell? ⟨gL,q,U⟩=I (Z A c.DW.length c')/\ER w3 w3.heap.size A (Ew R[q] c.DW.length)):=Ay λq hq=>by
      obtain⟨A,c',ys,hcell,aM⟩:=bW.out.at_ (q:=q) (by simpa using hq);rw[C4] at hcell aM;rw[EE] at hcell aM;obtain⟨A2,c2,e,aD⟩:=aM.J4;injection e with e1 _ _
      exact⟨A,c',hcell,e1▸aD⟩
     have bN:decide ((R.length:Int)=0)=false:=Bx (by omega);obtain⟨A0,c0,zp,zL⟩:=bD.out 0 hR
     have aV:Hid (km w3 (D4 ls) R c.DW.length 1 (Z A0 c.DW.length c0)):=Ay ⟨R[0],A0,c0,rfl,Bh hR,zL,by
      rw[show R.take 1=[R[0]] by rw[BZ,AB hR];rfl];rfl⟩
     clear aW hv zL;go_wp2;clear bN;go_loopw [13,14] (λb i wr=>∃j:Nat,1<=j/\j<=R.length/\i=Y J j/\Gr w3 wr/\∃b',b'=b/\km w3 (D4 ls) R c.DW.length j b') (λ_ i _=>R.length-(N i).toNat)
     case atStart=>exact⟨1,by omega,by omega,rfl,.refl _,_,rfl,aV.out⟩
     case round =>
      obtain⟨j,hj1,hj,rfl,zV,_,rfl,ρ,A4,c4,rfl,aC,aD,aN⟩:=hrel;have a8:=Ay zV;have bO:=Ay aN;have aG:=Ay (And.intro aC aD);have aT:=(aD.gr (AA _) zV).more zV.size;have a6:=bM.out.trans zV;by_cases zY:j<R.length
      .obtain⟨A3,c3,hc3,zH⟩:=bD.out j zY;have HJ:=Ay (And.intro (Bh zY) zH)
       have aX:Hid (F6 (D4 ls) (R.take (j+1))=if FM R[j] (D4 ls) 5<FM ρ (D4 ls) 5 then I (R[j],FM R[j] (D4 ls) 5) else I (ρ,FM ρ (D4 ls) 5)):=Ay (by
        rw[BZ,AB zY];refine(gy (D4 ls) (R.take j) R[j]).trans ?_
        rw[bO.out])
       generalize R[j]=σ at aX HJ zH;have bP:=Ay λV (hV:Gr wr V)=>bC.out V σ A3 c3 (a6.trans hV) HJ.out.1 ((HJ.out.2.gr (AA _) (a8.out.trans hV)).more (a8.out.trans hV).size);have aY:=Ay λV (hV:Gr wr V)=>bC.out V ρ A4 c4 (a6.trans hV) aG.out.1 ((aG.out.2.gr (AA _) (a8.out.trans hV)).more (a8.out.trans hV).size);have bS:=(zV.cell (p:=⟨gL,j,U⟩) aR).trans hc3;have bQ:Hid (∀V,Gr wr V->(V.cell? ⟨w.heap.size,0,U⟩=I (Z nA c.DW.length nc)/\V.cell? ⟨w.heap.size,1,U⟩=I (Z hA c.DV.length hc)/\V.cell? ⟨gL,j,U⟩=I (Z A3 c.DW.length c3))/\w.heap.size<V.heap.size/\gL<V.heap.size):=Ay λV hV=>by
        obtain⟨⟨a0,a1⟩,al⟩:=aP.out V (a6.trans hV);exact⟨⟨a0,a1,((a8.out.trans hV).cell (p:=⟨gL,j,U⟩) aR).trans hc3⟩,al,AC aR (a8.out.trans hV).size⟩
       have bE:=bB.out σ HJ.out.1;have hf2:=bB.out ρ aG.out.1;rw[bE,hf2] at aX;have bX:=Ay bE;have bY:=Ay hf2;clear aN aC aD aT zH zV bE hf2 bS;go_wp2;rename_i bZ;refine iF 75 rfl λu2 hu=>?_;refine xz (hu 1) (hu 4) (hu 12) (hu 13) (hu 14) zY bQ bP aY λW5 u6 aI bR aJ=>?_;rw[fv (n:=75) [54,55,56,57,58,59,60,61,62,63,64,65] (by kernel_rfl) rfl hu bR];have aF:=Ay (a8.out.trans aI)
       have cD:=(aF.out.cell (p:=⟨gL,j,U⟩) aR).trans hc3;have hgL5:gL<W5.heap.size:=AC aR aF.out.size;clear hu bR aI bP aY bQ a6;refine bZ _ _ ?_;simp only[B7,CR,Cf,Cx];by_cases aO:FM σ (D4 ls) c.DW.length<FM ρ (D4 ls) c.DW.length
       .rw[BE (by omega)] at aJ;simp only[aJ];have bF:Hid (km w3 (D4 ls) R c.DW.length (j+1) (Z A3 c.DW.length c3)):=Ay ⟨σ,A3,c3,rfl,HJ.out.1,HJ.out.2,by rw[aX.out,AF aO,bX.out]⟩;clear aJ aO;go_wp2;go_roundw
        case rel=>exact⟨j+1,by omega,by omega,by go_num,aF.out,_,rfl,bF.out⟩
        case measure=>simp[Proofs.intOf];omega
       .rw[Bx (by omega)] at aJ;simp only[aJ];have bF:Hid (km w3 (D4 ls) R c.DW.length (j+1) (Z A4 c.DW.length c4)):=Ay ⟨ρ,A4,c4,rfl,aG.out.1,aG.out.2,by rw[aX.out,AD aO,bY.out]⟩;clear aJ aO;go_wp2;go_roundw
        case rel=>exact⟨j+1,by omega,by omega,by go_num,aF.out,_,rfl,bF.out⟩
        case measure=>simp[Proofs.intOf];omega
      .have hjR:j=R.length:=by omega
       subst hjR;have aY:=Ay (bC.out wr ρ A4 c4 a6 aC aT);obtain⟨⟨a0,a1⟩,al⟩:=aP.out wr a6;have aF:=Ay (aQ.out.trans a6);clear aN aC aD aT zV a6;go_wp2_with fail;refine aY.out.mono ?_;rintro e w5 ⟨rfl,aI⟩;go_wp2;refine O (v:=.tuple #[Z A4 c.DW.length c4,Y J ((FM ρ (D4 ls) c.DW.length:Nat):Int),Y J 0]) (by simp[results,C,go_sem]) rfl (aS.out _ _ (aF.out.trans aI) ?_)
       have hN:=bO.out;rw[Ct] at hN;rw[hN];exact⟨A4,c4,by rw[bB.out ρ aG.out.1],(aG.out.2.gr (AA _) (a8.out.trans aI)).more (a8.out.trans aI).size⟩
    .have hR0:R=[]:=Bc (by omega);subst hR0;have aF:=Ay (aQ.out.trans bM.out);clear aW;go_wp2;exact O (v:=.tuple #[.slice U 0 0,Y J 0,Y J 11]) (by simp[results,C,go_sem]) rfl (aS.out _ _ aF.out rfl)
 .have aA:Hid (cT c ls h d w (.returned (.tuple #[.slice U 0 0,Y J 0,Y J (Ek c ls)])) w1):=Ay ⟨aQ.out.trans aB.out,by rw[AF h0]⟩;generalize Ek c ls=e0 at h0 aA ⊢;have bN:decide (e0=0)=false:=Bx h0;go_wp2;exact O (v:=.tuple #[.slice U 0 0,Y J 0,Y J e0]) (by simp[results,C,go_sem]) rfl aA.out
def IJ (n:Nat):Nat->Nat->List (List Int)
 |_,0=>[[]]
 |0,_+1=>[]
 |k+1,m+1=>(IJ n k m).map (((n-(k+1):Nat):Int)::·)++IJ n k (m+1)
def gj (n:Nat):∀k m,(IJ n k m).length<=2 ^ k
 |k,0=>by unfold IJ;exact Nat.pos_of_ne_zero (by simp)
 |0,m+1=>by unfold IJ;simp
 |k+1,m+1=>by
  unfold IJ;rw[BH,Bq];have:=gj n k m;have:=gj n k (m+1);rw[Nat.pow_succ];omega
def iW (n:Nat):∀k m,∀x∈IJ n k m,x.length=m
 |k,0,x,h=>by unfold IJ at h;simp at h;subst h;rfl
 |0,m+1,x,h=>by unfold IJ at h;simp at h
 |k+1,m+1,x,h=>by
  unfold IJ at h;obtain h|h:=Bp.1 h
  .obtain⟨y,hy,rfl⟩:=Bf.1 h;rw[AM,iW n k m y hy]
  .exact iW n k (m+1) x h
def uV {n j m:Nat}(h:j<n)(hm:m≠0):IJ n (n-j) m=(IJ n (n-j-1) (m-1)).map ((j:Int)::·)++IJ n (n-j-1) m:=by
 obtain⟨k,hk⟩:∃k,n-j=k+1:=⟨n-j-1,by omega⟩;obtain⟨m,rfl⟩:∃m',m=m'+1:=⟨m-1,by omega⟩;rw[hk,show k+1-1=k by omega,show m+1-1=m by omega];show(IJ n k m).map (((n-(k+1):Nat):Int)::·)++_=_;rw[show n-(k+1)=j by omega]
def uW {n m:Nat}(hm:m≠0):IJ n 0 m=[]:=by
 obtain⟨m,rfl⟩:∃m',m=m'+1:=⟨m-1,by omega⟩
 rfl
def ow (n:Nat)(hn:n<=5):∀(k f m:Nat),f+k=n->m<=5->∀w:E,cf DU 52 #[Y J f,Y J n,Y J m] w λe w'=>∃v xs,e=.returned v/\Gr w w'/\Ec w' w.heap.size v (IJ n k m) xs:=by
 intro k
 induction k using bh with
 |ind k ih =>
  intro f m hf hm w;have aS:=Ay ih;clear ih;go_enter Sq.func52,Tryz.ntmps52;by_cases aD:m=0
  .subst aD;go_wp2;go_ret;exact⟨.slice (I ⟨w.heap.size,0,U⟩) 1 1,[.slice U 0 0],rfl,(Gr.refl w).alloc _,by rw[show IJ n k 0=[[]] by cases k<;>rfl];exact Md (AA _) (heap_alloc_new _ _)⟩
  have KC:(((m:Nat):Int)==0)=false:=beq_eq_false_iff_ne.2 (by omega);go_wp2;clear KC;go_loopw [7,8] (λv i wr=>∃(j:Nat) (L:List (List Int)) (xs:List X),f<=j/\j<=n/\i=Y J j/\Gr w wr/\Ec wr w.heap.size v L xs/\L++IJ n (n-j) m=IJ n k m) (λ_ i _=>n-(N i).toNat)
  case atStart =>
   exact⟨f,[],_,AA _,by omega,rfl,Gr.refl w,Ec.nil _ _,by rw[show n-f=k by omega];rfl⟩
  case round =>
   obtain⟨wq,rfl⟩:∃wq,wq=wr:=⟨_,rfl⟩;obtain⟨j,L,xs,bE,hj,rfl,zV,aB,a6⟩:=hrel;have HG:=Ay zV;have HO:=Ay aB;by_cases zY:j<n
   .have HC:=Ay (aS.out (n-j-1) (by omega) (j+1) (m-1) (by omega) (by omega) wq);rw[C9,Int.natCast_one,show((m-1:Nat):Int)=((m:Nat):Int)-1 by omega] at HC;rw[uV zY aD] at a6;have aT:(IJ n (n-j-1) (m-1)).length<=32:=AH (gj n (n-j-1) (m-1)) (AH (BN (by omega) (show n-j-1<=5 by omega)) (by decide));have hLl:L.length<=32:=by
     have:=AX br a6;have h2:(IJ n k m).length<=32:=AH (gj n k m) (AH (BN (by omega) (show k<=5 by omega)) (by decide));rw[BH] at this;omega
    have aF:=Ay a6;have aK:=Ay (λx hx=>AH (BR (iW n (n-j-1) (m-1) x hx)) (show m-1<=1000 by omega));generalize hR:IJ n (n-j-1) (m-1)=R at HC aF aT aK;replace hR:=Ay hR;clear zV aB a6;go_wp2_with fail;refine HC.out.mono ?_;rintro e w1 ⟨vr,rs,rfl,zJ,zV⟩;obtain⟨vA,vc,rfl⟩:=E9 zV.row;have aU:=Ay zV;have aV:=Ay zJ;have zE:=zJ.size;have aW:=Ay (HO.out.gr zJ);have aX:Hid (∀g,(Z vA R.length vc).ownBlock=I g->I g≠u7.ownBlock):=Ay λg h1 h2=>by
     have a1:=(zV.row.lt g h1).1;have a2:=(HO.out.row.lt g h2.symm).2;omega
    have zF:=HG.out.size;clear zJ zV HC;go_wp2;go_loopw [7,10] (λv i wr=>∃(q:Nat) (ys:List X),q<=R.length/\i=Y J q/\Gr w wr/\Ec wr w.heap.size v (L++(R.take q).map ((j:Int)::·)) ys/\Ec wr wq.heap.size (Z vA R.length vc) R rs/\∀g,(Z vA R.length vc).ownBlock=I g->I g≠v.ownBlock) (λ_ i _=>R.length-(N i).toNat)
    case atStart=>exact⟨0,xs,by omega,rfl,HG.out.trans aV.out,by simpa using aW.out,aU.out,aX.out⟩
    case round =>
     obtain⟨q,ys,hq,rfl,aC,hoi,aA,hai⟩:=hrel;have aL:=Ay aC;have aG:=Ay hoi;have aY:=Ay aA;have aZ:=Ay hai;have bF:=aC.size;by_cases aH:q<R.length
     .obtain⟨g,cr,hv,zQ,bG⟩:=aA.form (by omega);obtain⟨rfl,rfl⟩:vA=I ⟨g,0,U⟩/\vc=cr:=by injection hv with a b c;exact⟨a,c⟩
      clear hv;obtain⟨A,c,hcell,hrow⟩:=aA.at_ aH;have aM:Hid (R.take (q+1)=R.take q++[R[q]]):=Ay (by rw[BZ,AB aH];rfl);have bH:(L++(R.take q).map ((j:Int)::·)).length<=64:=by simp;omega
      have b5:=aK.out _ (Bh aH);generalize R[q]=x at hcell hrow aM b5;have aQ:=Ay hrow;clear aC hoi aA hai hrow;go_wp2_with (at_builtin;refine m7 rfl _ _ rfl wr.heap.size wq.heap.size _ _ 1 x.length [Y J j] (x.map (Y J)) rfl (pu wr (AA _) j) rfl (ar aQ.out λb _ hb=>ae _ _ hb) (pv x) ?c1 ?c2 ?_)
      case c1=>omega
      case c2=>simp
      intro u w2 hown2 hgrow2 aN
      have G2:Hid (Gr wr w2):=Ay (((Gr.refl wr).alloc _).grown hgrow2 aN λk hk=>by
       have:wr.heap.size=k:=by injection hk
       omega)
      have hU:w2.ownsRow wr.heap.size 3 1 u (x.length+1) (((j:Int)::x).map (Y J)):=by
       rw[bn];exact hown2
      obtain⟨uA,uc,rfl⟩:=E9 hU;have HU:Hid (w2.ownsRow wr.heap.size 3 1 (Z uA (x.length+1) uc) ((j:Int)::x).length (((j:Int)::x).map (Y J))):=Ay hU;have zD:=G2.out.size;have b6:=Ay ((aG.out.gr G2.out).gr ((Gr.refl w2).alloc (G #[Z uA (x.length+1) uc] 22)));clear hown2 hgrow2 aN hU;go_wp2_with (at_builtin;refine pt ((Sq.underlying 26).trans H) Du rfl _ _ rfl w.heap.size _ _ _ rfl b6.out.row ⟨w2.heap.size,0,U⟩ 1 (Z uA (x.length+1) uc) rfl cells_one rfl ?c1 ?c2 ?_)
      case c1=>omega
      case c2=>simp;omega
      intro v' w3 a7 a8 aI hv3;have aR:(L++(R.take q).map ((j:Int)::·)).length=L.length+q:=by rw[BH,Bq,CT];omega
      obtain⟨Iq,aO,aP⟩:=KY (l:=(j:Int)::x) aG.out aY.out aZ.out G2.out HU.out (by omega) a8 (by rw[aR];first|exact a7|(rw[bk (by omega)] at a7;exact a7)) aI hv3
      have b7:Hid (Ec w3 w.heap.size v' (L++(R.take (q+1)).map ((j:Int)::·)) (ys++[Z uA (x.length+1) uc])):=Ay (by
       rw[aM.out,CQ,<-Ce];exact Iq)
      have b8:=Ay aO;have b9:=Ay aP;have bA:=Ay (((aL.out.trans G2.out).alloc _).grown a8 aI λb hb=>(aG.out.row.lt b hb).1);clear a7 a8 aI hv3 Iq aO aP;go_wp2;go_roundw
      case rel=>exact⟨q+1,_,by omega,by go_num,bA.out,b7.out,b8.out,b9.out⟩
      case measure=>simp[Proofs.intOf];omega
     .have bB:q=R.length:=by omega
      subst bB;rw[Ct] at hoi;have aJ:=Ay hoi
      have bC:Hid ((L++R.map ((j:Int)::·))++IJ n (n-(j+1)) m=IJ n k m):=Ay (by
       rw[show n-(j+1)=n-j-1 by omega,Ce];exact aF.out)
      clear aC hoi aA hai;go_wp2;go_roundw
      case rel=>exact⟨j+1,_,_,by omega,by omega,by go_num,aL.out,aJ.out,bC.out⟩
      case measure=>simp[Proofs.intOf];omega
   .have bD:j=n:=by omega
    subst bD
    have aJ:Hid (Ec wq w.heap.size u7 (IJ j k m) xs):=Ay (by
     rw[bo] at a6;have e:L=IJ j k m:=by rw[uW aD,B6] at a6;exact a6
     rw[<-e];exact aB)
    clear zV aB a6 HO;go_wp2;go_ret;exact⟨_,_,rfl,HG.out,aJ.out⟩
def G4 (n:Nat):List (List Int):=(bw n).flatMap λm=>IJ n n (m+1)
def Mf (i:Nat):Nat:=(ay i 5).length*32+(31-(bw 5).foldl (λs b=>s+if i.testBit b then 2 ^ (4-b) else 0) 0)
def JK:∀n:Fin 6,(∀i,i<2 ^ n.val->∀j,j<2 ^ n.val->Ja (ay i n) (ay j n)=decide (Mf i<Mf j))/\((G4 n).Pairwise λa b=>Mf (GF a)<Mf (GF b)) /\
  (∀l∈G4 n,ay (GF l) n=l/\GF l<2 ^ n.val)/\(∀i,i<2 ^ n.val->GF (ay i n)=i/\(i≠0->ay i n∈G4 n)):=by decide +kernel
def ko {c:D9}(hn:c.DW.length<=5):∀m,m<=2 ^ c.DW.length->match Fg c m with
  |none=>∀i,i<m->isSome (Ff c i)=true
  |some x=>∃i,i<m/\x=ay i c.DW.length/\isSome (Ff c i)=false/\∀j,j<m->isSome (Ff c j)=false->Mf i<=Mf j:=by
 intro m
 induction m with
 |zero=>intro _;exact λi hi=>AI hi (BJ _)
 |succ m ih =>
  intro hm;have h:=ih (by omega);unfold Fg;cases hs:isSome (Ff c m) with
  |true =>
   rw[AF rfl];cases hc:Fg c m with
   |none =>
    rw[hc] at h;intro i hi;by_cases e:i=m
    .rw[e];exact hs
    .exact h i (by omega)
   |some x =>
    rw[hc] at h;obtain⟨i,h1,h2,h3,h4⟩:=h;refine⟨i,by omega,h2,h3,λj hj hb=>?_⟩;by_cases e:j=m
    .rw[e,hs] at hb;cases hb
    .exact h4 j (by omega) hb
  |false =>
   rw[AD (by simp)];cases hc:Fg c m with
   |none =>
    rw[hc] at h;refine⟨m,by omega,rfl,hs,λj hj hb=>?_⟩;by_cases e:j=m
    .rw[e];exact AA _
    .rw[h j (by omega)] at hb;cases hb
   |some x =>
    rw[hc] at h;obtain⟨i,h1,rfl,h3,h4⟩:=h;have hl:=(JK ⟨c.DW.length,by omega⟩).1 m (show m<2 ^ c.DW.length by omega) i (show i<2 ^ c.DW.length by omega);show ∃i',_/\Jr (I (ay i c.DW.length)) (ay m c.DW.length)=_/\_;unfold Jr;simp only[hl,decide_eq_true_eq];by_cases hk:Mf m<Mf i
    .rw[AF hk];refine⟨m,by omega,rfl,hs,λj hj hb=>?_⟩;by_cases e:j=m
     .rw[e];exact AA _
     .have:=h4 j (by omega) hb;omega
    .rw[AD hk];refine⟨i,by omega,rfl,h3,λj hj hb=>?_⟩;by_cases e:j=m
     .rw[e];omega
     .exact h4 j (by omega) hb
def nf {c c':D9}(h:∀r k,(Ej c r k).1=0->(Ej c' r k).1=0)(S:List Nat):∀(k:Nat) (r:EH) (n:Nat),∀ρ∈Eh c S k r n,ρ∈Eh c' S k r n
 |0,_,_,_,a6=>a6
 |k+1,r,n,ρ,a6=>by
  unfold Eh at a6 ⊢;obtain⟨x,hx,hy⟩:=CU.1 a6;refine CU.2 ⟨x,hx,?_⟩;by_cases h0:(Ej c (upd r n x) n).1=0
  .rw[AF h0] at hy;rw[AF (h _ _ h0)];exact nf h S k _ _ ρ hy
  .rw[AD h0] at hy;cases hy
def xG {c c':D9}(hh:c'.DV=c.DV)(hn:c'.DW.length=c.DW.length)(h:∀r k,(Ej c r k).1=0->(Ej c' r k).1=0)(hs:isSome c=true):isSome c'=true:=by
 unfold isSome at hs ⊢;rw[hh,hn];cases hw:Eh c (En c.DV.length) c.DW.length EM 0 with
 |nil=>rw[hw] at hs;cases hs
 |cons ρ l =>
  have:=nf h (En c.DV.length) c.DW.length EM 0 ρ (by rw[hw];exact B4);cases hw':Eh c' (En c.DV.length) c.DW.length EM 0 with
  |nil=>rw[hw'] at this;cases this
  |cons _ _=>rfl
def OM {c:D9}(i k:Nat):(Ff c i).need k=c.need k\/(Ff c i).need k=0:=by
 unfold D9.need Ff;obtain h|h:=Br k c.DW.length
 .rw[cH _ _ _ _ h];by_cases e:k<c.DW.length/\i.testBit k=true
  .rw[AF e];exact .inl rfl
  .rw[AD e];exact .inr rfl
 .rw[BD (by rw[cS];exact h)];exact .inr rfl
def uX {c:D9}(a6:c.Ok)(x:Nat):0<=c.E3 x:=by
 unfold D9.E3;refine qx _ λy hy=>?_;obtain⟨h,_,rfl⟩:=Bf.1 hy;obtain hl|hl:=Br h.toNat c.DV.length
 .have:=(a6.E3 _ (c.Gs hl)).1;omega
 .unfold D9.h;rw[BD hl];decide
def uY {c:D9}(a6:c.Ok)(i:Nat)(hs:isSome c=true):isSome (Ff c i)=true:=by
 refine xG (c:=c) (c':=Ff c i) rfl (cS _ _ _) (λr k h0=>?_) hs;have hb:∀j,breaks (Ff c i) r k j=breaks c r k j:=λj=>rfl;have hd:(Ff c i).E3 (r k)=c.E3 (r k):=rfl;have hp:=uX a6 (r k);unfold Ej at h0 ⊢;rw[hb,hb,hb,hd];cases b0:breaks c r k 0 with
 |some _=>rw[b0] at h0;exact h0
 |none =>
  rw[b0] at h0;cases b1:breaks c r k 1 with
  |some _=>rw[b1] at h0;exact h0
  |none =>
   rw[b1] at h0;cases b2:breaks c r k 2 with
   |some _=>rw[b2] at h0;exact h0
   |none =>
    rw[b2] at h0;have:¬c.E3 (r k)<c.need k:=λh=>by
     dsimp only at h0;rw[AF h] at h0;cases h0
    dsimp only;rw[AD (by rcases OM (c:=c) i k with e|e<;>omega)]
def uZ {c:D9}:isSome (Ff c 0)=true:=by
 have hz:∀k,(Ej (Ff c 0) EM k).1=0:=λk=>by
  have hn:(Ff c 0).need k=0:=by
   unfold D9.need Ff;obtain h|h:=Br k c.DW.length
   .rw[cH _ _ _ _ h,AD (by simp)];rfl
   .rw[BD (by rw[cS];exact h)];rfl
  have hb:∀j,breaks (Ff c 0) EM k j=none:=λj=>by unfold breaks;rw[show wl (EM k)=[] from(by decide:wl 0=[])];rfl
  have hd:(Ff c 0).E3 (EM k)=0:=by unfold D9.E3;rw[show wl (EM k)=[] from(by decide:wl 0=[])];rfl
  unfold Ej;rw[hb,hb,hb,hn,hd]
  rfl
 have h0:∀m,0∈En m:=λm=>by
  unfold En;split<;>simp
 have hu:∀n,upd EM n 0=EM:=λn=>by
  funext j;unfold upd;split<;>rfl
 have key:∀k n,EM∈Eh (Ff c 0) (En c.DV.length) k EM n:=λk=>by
  induction k with
  |zero=>intro n;exact BS.2 rfl
  |succ k ih =>
   intro n;unfold Eh;refine CU.2 ⟨0,h0 _,?_⟩;rw[hu,AF (hz n)];exact ih _
 have:=key (Ff c 0).DW.length 0;unfold isSome;show(!(Eh (Ff c 0) (En c.DV.length) (Ff c 0).DW.length EM 0).isEmpty)=true;cases hw:Eh (Ff c 0) (En c.DV.length) (Ff c 0).DW.length EM 0 with
 |nil=>rw[hw] at this;cases this
 |cons _ _=>rfl
def xH {c:D9}(hn:c.DW.length<=5):Ff c (2 ^ c.DW.length-1)=c:=by
 have:Jh c.DW (2 ^ c.DW.length-1) c.DW.length=c.DW:=List.ext_getElem? λj=>by
  obtain h|h:=Br j c.DW.length
  .rw[cH _ _ _ _ h,AF ⟨h,by rw[Nat.testBit_two_pow_sub_one];simpa using h⟩,AB h];rfl
  .rw[BD (by rw[cS];exact h),BD h]
 unfold Ff;rw[this]
def tf {c:D9}(a7:c.Ok):(G4 c.DW.length).find? (λl=>!isSome (Ff c (GF l)))=if isSome c then U else I ((Fg c (2 ^ c.DW.length)).getD []):=by
 have a8:=a7.n5;obtain⟨-,f2,f3,f4⟩:=JK ⟨c.DW.length,by omega⟩;dsimp only at f2 f3 f4;cases hs:isSome c with
 |true =>
  rw[AF rfl,Cu];intro l _;rw[uY a7 _ hs];simp
 |false =>
  rw[AD (by simp)];have hp:0<2 ^ c.DW.length:=Nat.pow_pos (by omega);have h:=ko a8 (2 ^ c.DW.length) (AA _);cases hc:Fg c (2 ^ c.DW.length) with
  |none =>
   rw[hc] at h;have:=h (2 ^ c.DW.length-1) (by omega);rw[xH a8,hs] at this;cases this
  |some x =>
   rw[hc] at h;obtain⟨i,h1,rfl,h3,h4⟩:=h;have aA:i≠0:=λe=>by rw[e,uZ] at h3;cases h3
   obtain⟨e1,e2⟩:=f4 i h1;have a6:=e2 aA;show _=I (ay i c.DW.length);cases hf:(G4 c.DW.length).find? (λl=>!isSome (Ff c (GF l))) with
   |none =>
    have:=Cu.1 hf _ a6;rw[e1,h3] at this;simp at this
   |some l =>
    obtain⟨Iq,xs,ys,hab,hno⟩:=List.find?_eq_some_iff_append.1 hf;have hl:l∈G4 c.DW.length:=by rw[hab];simp
    obtain⟨g1,g2⟩:=f3 l hl;have hk:=h4 (GF l) g2 (by simpa using Iq);rw[hab] at a6 f2;congr 1;obtain hm|hm:=Bp.1 a6
    .have:=hno _ hm;rw[e1,h3] at this;simp at this
    .obtain e|hm:=AJ.1 hm
     .exact e.symm
     .have:=(CX.1 (List.pairwise_append.1 f2).2.1).1 _ hm;rw[e1] at this;omega
open Go.Eu
def xI {gL nL Lc lb many lc nb no n nc sb xb cb i k x:Nat}{vv:Int}{uo:X}{W:E}{u:Nat->X}{Q:Exit->Act->E->Prop}(h1:u 1=.pointer (I ⟨cb,0,U⟩))(h7:u 7=.slice (I ⟨gL,0,U⟩) nL Lc)(h8:u 8=Y J (i:Nat))(h9:u 9=.pointer (I ⟨xb,0,U⟩))(h10:u 10=Y J (k:Nat))(hi:i<nL)(hk:k<many)(hx:x<n)
  (HC:Hid (∀V,Gr W V->(((V.cell? ⟨xb,0,U⟩=I (.slice (I ⟨sb,0,U⟩) n n)/\V.cell? ⟨gL,i,U⟩=I (.slice (I ⟨lb,0,U⟩) many lc))/\V.cell? ⟨lb,k,U⟩=I (Y J (x:Nat)))/\(V.cell? ⟨cb,0,U⟩=I (.slice (I ⟨nb,no,U⟩) n nc)/\V.cell? ⟨nb,no+x,U⟩=I (Y J vv))/\V.cell? ⟨sb,x,U⟩=I uo/\V.frozen? ⟨sb,x,U⟩=false)/\sb<V.heap.size/\True))
  (hK:∀W5 u',Gr W W5->(∀t,FL (II 17 bl) t=true->u' t=u t)->Q .normal ⟨T 71 u',[]⟩ (W5.setCell ⟨sb,x,U⟩ (Y J vv))):(Code.region 17 (II 17 bl) true).wp DU Q ⟨T 71 u,[]⟩ W:=by
 refine aW (R:=Gr) 20<|Ea (JJ 0 (G9 h9))<|Ea (Gp (El 0) λw hg=>by obtain⟨⟨⟨⟨k1,k2⟩,k3⟩,⟨k4,k5⟩,k6,k7⟩,l1⟩:=HC.out w hg;assumption)<|Ea (Es h7)<|Ea (Es h8)<|Ea (Ha i 1 (El 2) (El 3))<|Ea (Gp (El 4) λw hg=>by obtain⟨⟨⟨⟨k1,k2⟩,k3⟩,⟨k4,k5⟩,k6,k7⟩,l1⟩:=HC.out w hg;assumption)<|Ea (Es h10)<|Ea (Ha k 1 (El 5) (El 6))<|Ea (Gp (El 7) λw hg=>by obtain⟨⟨⟨⟨k1,k2⟩,k3⟩,⟨k4,k5⟩,k6,k7⟩,l1⟩:=HC.out w hg;assumption)<|Ea (JJ 0 (G9 h1))<|Ea (Gp (El 9) λw hg=>by obtain⟨⟨⟨⟨k1,k2⟩,k3⟩,⟨k4,k5⟩,k6,k7⟩,l1⟩:=HC.out w hg;assumption)<|Ea (Es h7)<|Ea (Es h8)<|Ea (Ha i 1 (El 11) (El 12))<|Ea (Gp (El 13) λw hg=>by obtain⟨⟨⟨⟨k1,k2⟩,k3⟩,⟨k4,k5⟩,k6,k7⟩,l1⟩:=HC.out w hg;assumption)<|Ea (Es h10)<|Ea (Ha k 1 (El 14) (El 15))<|Ea (Gp (El 16) λw hg=>by obtain⟨⟨⟨⟨k1,k2⟩,k3⟩,⟨k4,k5⟩,k6,k7⟩,l1⟩:=HC.out w hg;assumption)<|Ea (Ha (no+x) 1 (El 10) (El 17))<|Ea (Gp (El 18) λw hg=>by obtain⟨⟨⟨⟨k1,k2⟩,k3⟩,⟨k4,k5⟩,k6,k7⟩,l1⟩:=HC.out w hg;assumption)<|Gc λu w hg hf hv=>?_
 .have er:List.range' 20 ((II 17 bl).size-20)=[20,21]:=by kernel_rfl
  have e43:=hv.at_ 1 43;have e50:=hv.at_ 8 50;have e61:=hv.at_ 19 61;obtain⟨⟨⟨⟨k1,k2⟩,k3⟩,⟨k4,k5⟩,k6,k7⟩,l1,l2⟩:=HC.out w hg;rw[er,wpOps_cons];refine ft (d:=I 62) (op:=.indexAddr 22 (.tmp 43) (.tmp 50)) (t:=0) rfl (.pointer (I ⟨sb,x,U⟩)) w (λev he=>?_) ?_
  .have e1:=(he.t 43).trans e43;have e2:=(he.t 50).trans e50;clear hv hf hg he hK;go_simp
   all_goals (intro h9;omega)
  rw[wpOps_cons];refine eP (d:=U) (op:=.store 3 (.tmp 62) (.tmp 61)) (t:=0) rfl (w.setCell ⟨sb,x,U⟩ (Y J vv)) (λev he=>?_) ?_
  .have e1:=(he.t 62).trans (aV ..);have e2:=(he.t 61).trans ((Fh (by decide)).trans e61);clear hv hf hg he hK;go_simp
  show Q .normal _ _;have f62:FL (II 17 bl) 62=false:=by kernel_rfl
  exact hK w _ hg λt ht=>(Fh λe=>by rw[e,f62] at ht;cases ht).trans (hf t ht)
end Go.Sq
