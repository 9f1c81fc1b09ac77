/- Parts of the proof. -/
import Derived.Test.YtjcgijifamcggaaGreatP23
import Derived.Test.YtjcgijifamcggaaGreatP24
import Derived.Test.YtjcgijifamcggaaGreatP00
import Derived.Test.YtjcgijifamcggaaGreatP22
import Derived.Test.YtjcgijifamcggaaGreatP20
import Derived.Test.YtjcgijifamcggaaGreatP21
set_option linter.all false
set_option maxHeartbeats 6400000
set_option maxRecDepth 1000000
namespace Go.Sq
open Go.RowKit Go.Bl Go.Proofs.YtjcgijifamcggaaGreat
section
variable {w W:World} {b:Nat} {x y z:Int}
def ag8 (h:w.heap[b]?=some (.cells #[.int .i64 0,.int .i64 0,.int .i64 0] 71)\/w.heap[b]?=some (.cells #[.int .i64 x,.int .i64 y,.int .i64 z] 71)):((∃v,w.cell? ⟨b,0,none⟩=some v)/\w.frozen? ⟨b,0,none⟩=false)/\((∃v,w.cell? ⟨b,1,none⟩=some v)/\w.frozen? ⟨b,1,none⟩=false)/\(∃v,w.cell? ⟨b,2,none⟩=some v)/\w.frozen? ⟨b,2,none⟩=false:=by
 rcases h with h|h<;>exact⟨⟨⟨_,(cell_of_heap h 0).1⟩,(cell_of_heap h 0).2⟩,⟨⟨_,(cell_of_heap h 1).1⟩,(cell_of_heap h 1).2⟩,⟨_,(cell_of_heap h 2).1⟩,(cell_of_heap h 2).2⟩
def ig (h:w.heap[b]?=some (.cells #[.int .i64 0,.int .i64 0,.int .i64 0] 71)\/w.heap[b]?=some (.cells #[.int .i64 x,.int .i64 y,.int .i64 z] 71)):(((w.setCell ⟨b,0,none⟩ (.int .i64 x)).setCell ⟨b,1,none⟩ (.int .i64 y)).setCell ⟨b,2,none⟩ (.int .i64 z)).heap[b]?=some (.cells #[.int .i64 x,.int .i64 y,.int .i64 z] 71):=by
 rcases h with h|h<;>exact Bn (i:=2) (Bn (i:=1) (Bn (i:=0) h))
def sT (hb:W.heap.size<=b)(h:w.heap[b]?=some (.cells #[.int .i64 0,.int .i64 0,.int .i64 0] 71)\/w.heap[b]?=some (.cells #[.int .i64 x,.int .i64 y,.int .i64 z] 71)):RB W (.cells #[.int .i64 0,.int .i64 0,.int .i64 0] 71) (.cells #[.int .i64 x,.int .i64 y,.int .i64 z] 71) w (((w.setCell ⟨b,0,none⟩ (.int .i64 x)).setCell ⟨b,1,none⟩ (.int .i64 y)).setCell ⟨b,2,none⟩ (.int .i64 z)):=by
 have hs:∀b',b'≠b->(((w.setCell ⟨b,0,none⟩ (.int .i64 x)).setCell ⟨b,1,none⟩ (.int .i64 y)).setCell ⟨b,2,none⟩ (.int .i64 z)).heap[b']?=w.heap[b']?:=λb' h=>(xE _ _ _ _ h).trans ((xE _ _ _ _ h).trans (xE _ _ _ _ h));refine⟨rfl,rfl,rfl,xp _,by simp[World.setCell],λb' hb'=>?_⟩;by_cases e:b'=b
 .subst e;rcases h with h|h
  .exact .inr ⟨hb,h,ig (.inl h)⟩
  .exact .inl ((ig (.inr h)).trans h.symm)
 .exact .inl (hs b' e)
end
def qZ {c:AW}{r:Bt}{k i:Nat}(hi:i<k)(h:(Bq c r i).1≠0):(cJ c r k).1≠0:=by
 induction k with
 |zero=>omega
 |succ k ih =>
  rw[cJ];split
  .rename_i hz;rcases yB (yW hi) with h1|rfl
   .exact absurd hz (ih h1)
   .exact h
  .assumption
def OB {c:AW}{ls:List (List Int)}(hf:Ba c ls=0):(CL c ls=true->D9 c ls=(0,-1,-1))/\(CL c ls=false->(D9 c ls).1≠0):=by
 unfold D9 CL;rw[if_pos hf];constructor
 .intro h;rw[yu] at h;exact ic λi hi=>by simpa using h i (yb.2 hi)
 .intro h;rw[List.all_eq_false] at h;obtain⟨i,hi,h⟩:=h;exact qZ (yb.1 hi) (by simpa using h)
end Go.Sq
namespace Go.Proofs.YtjcgijifamcggaaGreat
open Go.RowKit Go.Sq Go.Bl
def uO (x y:Operand)(xs ys:Array Value)(w:World):(eqGuard .eql 71 x y (.agg xs) (.agg ys)).run AG w=.ok () w:=run_eqGuard_agg w .eql 71 x y xs ys (by kernel_rfl)
def uP (a b c a' b' c':Int)(w:World):(Op.equalIn 10000 71 (.agg #[.int .i64 a,.int .i64 b,.int .i64 c]) (.agg #[.int .i64 a',.int .i64 b',.int .i64 c'])).run AG w=.ok (a==a'&&(b==b'&&c==c')) w:=by
 rw[run_equalIn_agg w 9999 71 _ _ (by kernel_rfl) (by kernel_rfl)];have e:(AG.fieldsOf 71).toList=[{ name := "Kind",type:=3,offset:=0,embedded:=false,tag := "",pkgPath := "",byteOffset:=0 },{ name := "Night",type:=3,offset:=1,embedded:=false,tag := "",pkgPath := "",byteOffset:=8 },{ name := "Herder",type:=3,offset:=2,embedded:=false,tag := "",pkgPath := "",byteOffset:=16 }]:=by kernel_rfl
 rw[e];have hu:AG.underlying 3=some (.int .i64):=(Sq.underlying 3).trans Tryz.underlying3;simp[Op.eqFields,go_sem];by_cases h1:a=a'<;>by_cases h2:b=b'<;>by_cases h3:c=c'<;>simp[h1,h2,h3]
noncomputable def Sn:Array Oper:=Jy (Cx (inBody (Cx (Es (inBody (inBody (Es (Cx (Ca 3 (Tryz.f9.body.getD .skip))))))))))
def wy {nA hA A:Option Addr}{nc hc cc q g n cap k:Nat}{c:AW}{ls:List (List Int)}{W:World}{u:Nat->Value}{Q:Exit->Act->World->Prop}(h1:u 1=.pointer (some ⟨q,0,none⟩))(h5:u 5=.slice (some ⟨g,0,none⟩) n cap)(h6:u 6=.int .i64 (k:Nat))(Ik:k<n)
  (HC:Hid (∀V,Gr W V->(V.cell? ⟨q,0,none⟩=some (.slice nA c.AK.length nc)/\V.cell? ⟨q,1,none⟩=some (.slice hA c.AH.length hc)/\V.cell? ⟨g,k,none⟩=some (.slice A ls.length cc))/\q<V.heap.size/\g<V.heap.size))
  (HQ:Hid (∀V,Gr W V->Calls AG 28 #[.agg #[.slice nA c.AK.length nc,.slice hA c.AH.length hc],.slice A ls.length cc] V λe w'=>e=.returned (.tuple #[Eu (D9 c ls),.int .i64 (Ba c ls)])/\Gr V w'))
  (hK:∀W' u' b,Gr W W'->(∀t,IX Sn t=true->u' t=u t)->u' 7=.pointer (some ⟨b,0,none⟩)->u' 8=.int .i64 (Ba c ls)->W.heap.size<=b ->
   (W'.cell? ⟨b,0,none⟩=some (.int .i64 (D9 c ls).1)/\W'.cell? ⟨b,1,none⟩=some (.int .i64 (D9 c ls).2.1)/\W'.cell? ⟨b,2,none⟩=some (.int .i64 (D9 c ls).2.2))->Q .normal ⟨T 44 u',[]⟩ W'):(Code.region 6 Sn true).wp AG Q ⟨T 44 u,[]⟩ W:=by
 refine sK (R:=RB W (.cells #[.int .i64 0,.int .i64 0,.int .i64 0] 71) (.cells #[.int .i64 (D9 c ls).1,.int .i64 (D9 c ls).2.1,.int .i64 (D9 c ls).2.2] 71)) (m:=12) 10 7 (Sm W (.cells #[.int .i64 (D9 c ls).1,.int .i64 (D9 c ls).2.1,.int .i64 (D9 c ls).2.2] 71) 7) sR uM (by kernel_rfl) (by kernel_rfl) [λv _=>v=.agg #[.slice nA c.AK.length nc,.slice hA c.AH.length hc],λv _=>v=.slice (some ⟨g,0,none⟩) n cap,λv _=>v=.int .i64 (k:Nat),λv _=>v=.pointer (some ⟨g,k,none⟩),λv _=>v=.slice A ls.length cc,λv _=>v=.tuple #[Eu (D9 c ls),.int .i64 (Ba c ls)],λv _=>v=.tuple #[Eu (D9 c ls),.int .i64 (Ba c ls)],λv _=>v=Eu (D9 c ls),λv _=>v=.int .i64 (Ba c ls),aca W (.cells #[.int .i64 0,.int .i64 0,.int .i64 0] 71) (.cells #[.int .i64 (D9 c ls).1,.int .i64 (D9 c ls).2.1,.int .i64 (D9 c ls).2.2] 71),λ_ _=>True,λv _=>v=.int .i64 (Ba c ls)] ⟨al _,al _,al _,al _,al _,al _,al _,al _,al _,qX,λ_ _ _ _ h=>h,al _,trivial⟩ ?_ ⟨⟨⟨⟨⟨⟨⟨⟨⟨⟨⟨⟨trivial,?_⟩,?_⟩,?_⟩,?_⟩,?_⟩,?_⟩,?_⟩,?_⟩,?_⟩,?_⟩,?_⟩,?_⟩ λu w hg hf hv hS=>?_
 .intro u w hg hf hl hd;have f7:=(hd.at_ 9 7);have f29:=(hd.at_ 7 29);obtain⟨b,e7,hb1,hb2⟩:=f7;refine qW (op:=.store 71 (.tmp 7) (.tmp 29)) (t:=0) rfl (((w.setCell ⟨b,0,none⟩ (.int .i64 (D9 c ls).1)).setCell ⟨b,1,none⟩ (.int .i64 (D9 c ls).2.1)).setCell ⟨b,2,none⟩ (.int .i64 (D9 c ls).2.2)) (λev he=>?_) ?_ ⟨trivial,b,e7,hb1,?_⟩
  .have e1:=(he.t 7).trans e7;have e2:=(he.t 29).trans f29;obtain⟨⟨⟨_,d0⟩,f0⟩,⟨⟨_,d1⟩,f1⟩,⟨_,d2⟩,f2⟩:=ag8 hb2;unfold Eu at e2;clear hf hg hl hd hb2 he hK f29;go_simp
  .exact sT hb1 hb2
  .exact ig hb2
 .intro _ u w hg hf hl hd;refine aM (op:=.load 27 (.tmp 1)) (t:=27) rfl (λev he=>?_);have e1:=(he.t 1).trans ((hf.at_ 1).trans h1);obtain⟨⟨c0,c1,r0⟩,cl,rl⟩:=HC.out w hg.gr;clear hg hf hl hd he;go_simp
 .intro _ u w hg hf hl hd;exact aU rfl ((hf.at_ 5).trans h5)
 .intro _ u w hg hf hl hd;exact aU rfl ((hf.at_ 6).trans h6)
 .intro _ u w hg hf hl hd;refine aM (op:=.indexAddr 35 (.tmp 24) (.tmp 25)) (t:=0) rfl (λev he=>?_);have e24:=(he.t 24).trans (hd.at_ 1 24);have e25:=(he.t 25).trans (hd.at_ 2 25);clear hg hf hl hd he;go_simp
  all_goals (intro h9;omega)
 .intro _ u w hg hf hl hd;refine aM (op:=.load 29 (.tmp 26)) (t:=29) rfl (λev he=>?_);have e26:=(he.t 26).trans (hd.at_ 3 26);obtain⟨⟨c0,c1,r0⟩,cl,rl⟩:=HC.out w hg.gr;clear hg hf hl hd he;go_simp
 .intro _ u w hg hf hl hd;exact fi rfl Sq.func28 #[.agg #[.slice nA c.AK.length nc,.slice hA c.AH.length hc],.slice A ls.length cc] (λev he=>by simp[((he.t 23).trans (hd.at_ 0 23)),((he.t 27).trans (hd.at_ 4 27))]) ((HQ.out w hg.gr).mono λe w' h=>⟨_,h.1,.Cu h.2,rfl⟩)
 .intro _ u w hg hf hl hd;exact aU rfl (hd.at_ 5 28)
 .intro _ u w hg hf hl hd;exact ib rfl (hd.at_ 6 22) rfl rfl
 .intro _ u w hg hf hl hd;exact ib rfl (hd.at_ 6 22) rfl rfl
 .intro _ u w hg hf hl hd;refine eP (op:=.alloc 71) (t:=0) rfl _ (w.alloc (.cells #[.int .i64 0,.int .i64 0,.int .i64 0] 71)) (λev he=>?_) (.Cu ((Gr.refl w).alloc _)) ⟨_,rfl,hg.size,.inl (World.alloc_heap_new _ _)⟩;clear hg hf hl hd he;go_simp
 .exact λh=>absurd rfl h
 .intro _ u w hg hf hl hd;exact mO rfl (hd.at_ 8 30)
 .obtain⟨b,e7,hb1,hb2⟩:=hS (by decide);have er:List.range' 12 (Sn.size-12)=[]:=by kernel_rfl
  rw[er];show Q .normal _ _;obtain⟨d0,_⟩:=cell_of_heap hb2 0;obtain⟨d1,_⟩:=cell_of_heap hb2 1;obtain⟨d2,_⟩:=cell_of_heap hb2 2;exact hK _ _ b hg.gr hf e7 (hv.at_ 11 8) hb1 ⟨d0,d1,d2⟩
def wT (nA hA:Option Addr)(nc hc:Nat)(c:AW)(w:World)(B:Nat)(hB:B<=w.heap.size)(hn:RI w B nA c.AK)(hh:Dr w B hA c.AH)(Ij:Bi c=0)(hN:c.AK.length<=3) :
  Calls AG 9 #[Bp nA hA c nc hc] w λe w'=>∃v xs,e=.returned (.tuple #[v,.bool true])/\Gr w w'/\BQ w' w.heap.size v (ie c) xs:=by
 unfold Bp;obtain⟨W0,hW0⟩:∃W0:World,W0=w.alloc (.cells #[.slice nA c.AK.length nc,.slice hA c.AH.length hc] 27):=⟨_,rfl⟩;have hg0:Gr w W0:=hW0▸(Gr.refl w).alloc _;have hz0:W0.heap.size=w.heap.size+1:=by rw[hW0];simp
 have EZ:=xl (AW.Ok.of Ij);have TD:=EZ.out.h4;have WY:=xl Ij;have HC:=xl (qU c.AK.length c.AH.length hN TD W0)
 have OX:Hid (W0.cell? ⟨w.heap.size,0,none⟩=some (.slice nA c.AK.length nc)/\W0.cell? ⟨w.heap.size,1,none⟩=some (.slice hA c.AH.length hc)):=xl (by
  rw[hW0,xu _ _ _ _ rfl,xu _ _ _ _ rfl];exact⟨rfl,rfl⟩)
 have HN:=xl (hn.gr hB hg0);have HH:=xl (hh.keep λb o hb=>hg0.cell (p:=⟨b,o,none⟩) (xx hb hB));have Ds:=xl hg0;have HW:=xl hW0;clear hW0 hg0 hn hh Ij;go_enter Sq.func9,Tryz.ntmps9;go_wp2_with fail;rw[<-HW.out];refine HC.out.mono ?_;rintro e W1 ⟨vL,xL,rfl,hg1,G9⟩;obtain⟨gA,gc,rfl⟩:∃A k,vL=.slice A (Dl c.AK.length c.AH.length).length k:=CV G9.row
 have W6:Hid ((Dl c.AK.length c.AH.length).length<=4096):=xl (by
  rw[fp]
  exact xI (jC _ _) (xI (zH (fV _ TD _ (xp _)) _) (xI (yy (by omega) hN) (by decide))))
 have YR:Hid (∀ls∈Dl c.AK.length c.AH.length,Ba c ls=0):=xl λls h=>j5 WY.out h;have HRL:Hid (ie c=(Dl c.AK.length c.AH.length).filter (CL c)):=xl rfl;generalize Dl c.AK.length c.AH.length=L at G9 W6 YR HRL;have Vr:=xl G9;have Df:=xl hg1;have hz1:=hg1.size;have OW:=W6.out;clear G9 hg1 HC;go_wp2;go_loopw [4,6] (λv i wr=>∃(j:Nat) (xs:List Value),j<=L.length/\i=.int .i64 j/\Gr W1 wr/\BQ wr w.heap.size v ((L.take j).filter (CL c)) xs/\wr.ownsRow W1.heap.size 29 1 v ((L.take j).filter (CL c)).length xs) (λ_ i _=>L.length-(intOf i).toNat)
 case atStart=>exact⟨0,[],by omega,rfl,.refl _,BQ.nil _ _,x9 _ _ _ _⟩
 case round =>
  obtain⟨j,xs,hj,rfl,hgr,G9,how⟩:=hrel;have HG:=xl hgr;have YS:=xl G9;have HOW:=xl how;have Yq:=hgr.size;by_cases hlt:j<L.length
  .obtain⟨g,cap,hv,IJ,Tz⟩:=(Vr.out.gr hgr).form (by omega);obtain⟨rfl,rfl⟩:gA=some ⟨g,0,none⟩/\gc=cap:=by injection hv with a b c;exact⟨a,c⟩
   obtain⟨A,cc,ys,hcell,Eh⟩:=(Vr.out.gr hgr).at_ hlt;have JD:=xl (YR.out _ (yn hlt));have O0:Hid (L.take (j+1)=L.take j++[L[j]]):=xl (by rw[zh,xq hlt];rfl);generalize L[j]=ls at hcell Eh JD O0;obtain⟨A',c',he,Mc⟩:=Eh.Ky;obtain⟨rfl,rfl⟩:A=A'/\cc=c':=by injection he with a b c;exact⟨a,c⟩
   obtain⟨IZ,hl2⟩:=KG JD.out;have Qt:=xl (Df.out.trans hgr);have HQ:Hid (∀V,Gr wr V->Calls AG 28 #[.agg #[.slice nA c.AK.length nc,.slice hA c.AH.length hc],.slice A ls.length cc] V λe w'=>e=.returned (.tuple #[Eu (D9 c ls),.int .i64 (Ba c ls)])/\Gr V w'):=xl λV hV =>
    uH nA hA A nc hc cc c ls V wr.heap.size hV.size (((HN.out.gr (by omega) (Qt.out.trans hV)).more (by omega))) ((HH.out.keep λb o hb=>(Qt.out.trans hV).cell (p:=⟨b,o,none⟩) (by show b<_;omega)).more (by omega)) (Mc.gr (xp _) hV)
     (by omega) (by omega) (λh hh=>xI (EZ.out.off h hh).1 (by omega)) (by omega) (λx hx=>xI (hl2 x hx) (by omega))
   have Yw:Hid (∀V,Gr wr V->(V.cell? ⟨w.heap.size,0,none⟩=some (.slice nA c.AK.length nc)/\V.cell? ⟨w.heap.size,1,none⟩=some (.slice hA c.AH.length hc)/\V.cell? ⟨g,j,none⟩=some (.slice A ls.length cc))/\w.heap.size<V.heap.size/\g<V.heap.size):=xl λV hV=>by
    have:=hV.size;have VS:=Qt.out.trans hV;exact⟨⟨(VS.cell (p:=⟨w.heap.size,0,none⟩) (by show w.heap.size<_;omega)).trans OX.out.1,(VS.cell (p:=⟨w.heap.size,1,none⟩) (by show w.heap.size<_;omega)).trans OX.out.2,(hV.cell (p:=⟨g,j,none⟩) Tz).trans hcell⟩,by omega,by omega⟩
   replace Eh:=xl (qV Eh (show w.heap.size<=W0.heap.size by omega));clear he hv hgr G9 how Mc hcell;go_wp2;rename_i hKK;refine jY 44 rfl λu hu=>?_;refine wy (q:=w.heap.size) (g:=g) (n:=L.length) (cap:=gc) (k:=j) (hu 1) (hu 5) (hu 6) hlt Yw HQ λW5 u5 b G8 DX e7 e8 XI Pe=>?_;have e0:=(DX 0 (by kernel_rfl)).trans (hu 0);have e1:=(DX 1 (by kernel_rfl)).trans (hu 1);have e2:=(DX 2 (by kernel_rfl)).trans (hu 2)
   have e3:=(DX 3 (by kernel_rfl)).trans (hu 3);have e4:=(DX 4 (by kernel_rfl)).trans (hu 4);have e5:=(DX 5 (by kernel_rfl)).trans (hu 5);have e6:=(DX 6 (by kernel_rfl)).trans (hu 6);have e9:=(DX 9 (by kernel_rfl)).trans (hu 9);have PT:=(DX 10 (by kernel_rfl)).trans (hu 10);have e11:=(DX 11 (by kernel_rfl)).trans (hu 11);have Ua:=(DX 12 (by kernel_rfl)).trans (hu 12);have Ub:=(DX 13 (by kernel_rfl)).trans (hu 13)
   have Uc:=(DX 14 (by kernel_rfl)).trans (hu 14);have Nu:=(DX 15 (by kernel_rfl)).trans (hu 15);have QG:=(DX 16 (by kernel_rfl)).trans (hu 16);have Qg:=(DX 17 (by kernel_rfl)).trans (hu 17);have Ud:=(DX 18 (by kernel_rfl)).trans (hu 18);have Qk:=(DX 19 (by kernel_rfl)).trans (hu 19);have UH:=(DX 20 (by kernel_rfl)).trans (hu 20);have SN:=(DX 21 (by kernel_rfl)).trans (hu 21);have e31:=(DX 31 (by kernel_rfl)).trans (hu 31)
   have Ue:=(DX 32 (by kernel_rfl)).trans (hu 32);have e33:=(DX 33 (by kernel_rfl)).trans (hu 33);have e34:=(DX 34 (by kernel_rfl)).trans (hu 34);have e35:=(DX 35 (by kernel_rfl)).trans (hu 35);have e36:=(DX 36 (by kernel_rfl)).trans (hu 36);have e37:=(DX 37 (by kernel_rfl)).trans (hu 37);have e38:=(DX 38 (by kernel_rfl)).trans (hu 38);have e39:=(DX 39 (by kernel_rfl)).trans (hu 39);have e40:=(DX 40 (by kernel_rfl)).trans (hu 40)
   have e41:=(DX 41 (by kernel_rfl)).trans (hu 41);have e42:=(DX 42 (by kernel_rfl)).trans (hu 42);have e43:=(DX 43 (by kernel_rfl)).trans (hu 43);clear hu DX;dsimp only[List.getElem?_cons_succ,List.getElem?_cons_zero,Option.getD_some] at e0 e1 e2 e3 e4 e5 e6 e9 PT e11 Ua Ub Uc Nu QG Qg Ud Qk UH SN e31 Ue e33 e34 e35 e36 e37 e38 e39 e40 e41 e42 e43;rw[JD.out] at e8;obtain⟨hcell,hgb⟩:=Yw.out W5 G8
   replace hcell:=hcell.2.2;replace hgb:=hgb.2;have Mf:=xl (HG.out.trans G8);have acn:=xl (YS.out.gr G8);have Ug:=xl (Bb (w':=W5) HOW.out λb _ hb=>G8.below.block b hb);have ag9:=xl (Eh.out.gr G8);have LC:=G8.size;obtain⟨k1,k2⟩:=OB JD.out;have N8:((L.take j).filter (CL c)).length<=j:=xI (zb _ _) (by rw[yQ];omega);clear HQ Yw HG YS HOW G8 XI;refine hKK _ _ ?_;have TK:=uO
   have hq2:=uP;unfold T;cases L9:CL c ls with
   |true =>
    have HFT:Hid ((L.take (j+1)).filter (CL c)=(L.take j).filter (CL c)++[ls]):=xl (by
     rw[O0.out,yR,List.filter_cons_of_pos L9];rfl)
    rw[k1 L9] at Pe;obtain⟨d0,d1,d2⟩:=Pe;dsimp only at d0 d1 d2;clear k1 k2;simp only[List.range,List.range.loop,yE,yH,e0,e1,e2,e3,e4,e5,e6,e9,PT,e11,Ua,Ub,Uc,Nu,QG,Qg,Ud,Qk,UH,SN,e31,Ue,e33,e34,e35,e36,e37,e38,e39,e40,e41,e42,e43,e7,e8];clear e0 e1 e2 e3 e4 e5 e6 e9 PT e11 Ua Ub Uc Nu QG Qg Ud Qk UH SN e31 Ue e33 e34 e35 e36 e37 e38 e39 e40 e41 e42 e43 e7 e8;go_wp2_with (at_builtin;refine fF ((Sq.underlying 35).trans Tryz.underlying35) Aq rfl _ _ rfl W1.heap.size _ _ _ rfl (Bb Ug.out λb _ hb=>heap_alloc_old _ _ hb) ⟨W5.heap.size,0,none⟩ 1 (.slice A ls.length cc) rfl cells_one rfl ?c1 ?c2 ?_)
    case c1=>omega
    case c2=>simp;omega
    intro v' w3 Ci CX GJ _;have DW:=xl ((Mf.out.alloc _).grown CX GJ λb hb=>(Ug.out.lt b hb).1)
    have G6:Hid (BQ w3 w.heap.size v' ((L.take (j+1)).filter (CL c)) (xs++[.slice A ls.length cc])):=xl (by
     rw[HFT.out]
     exact acn.out.push ag9.out Ug.out CX (B1 Ci (by omega)))
    have Sj:Hid (w3.ownsRow W1.heap.size 29 1 v' ((L.take (j+1)).filter (CL c)).length (xs++[.slice A ls.length cc])):=xl (by
     rw[HFT.out,zd];exact Ci)
    clear Ci CX GJ;go_wp2;go_roundw
    case rel=>exact⟨j+1,_,by omega,by go_num,DW.out,G6.out,Sj.out⟩
    case measure=>simp[intOf];omega
   |false =>
    have HFT:Hid ((L.take (j+1)).filter (CL c)=(L.take j).filter (CL c)):=xl (by
     rw[O0.out,yR,List.filter_cons_of_neg (by rw[L9];simp)];simp)
    have hne:=k2 L9;clear k1 k2;generalize D9 c ls=pp at Pe hne;obtain⟨p1,p2,p3⟩:=pp;obtain⟨d0,d1,d2⟩:=Pe;dsimp only at d0 d1 d2 hne;have hpn:(p1==0)=false:=by simpa using hne
    simp only[List.range,List.range.loop,yE,yH,e0,e1,e2,e3,e4,e5,e6,e9,PT,e11,Ua,Ub,Uc,Nu,QG,Qg,Ud,Qk,UH,SN,e31,Ue,e33,e34,e35,e36,e37,e38,e39,e40,e41,e42,e43,e7,e8];clear e0 e1 e2 e3 e4 e5 e6 e9 PT e11 Ua Ub Uc Nu QG Qg Ud Qk UH SN e31 Ue e33 e34 e35 e36 e37 e38 e39 e40 e41 e42 e43 e7 e8 hne;have G6:Hid (BQ W5 w.heap.size u4 ((L.take (j+1)).filter (CL c)) xs):=xl (by rw[HFT.out];exact acn.out)
    have Sj:Hid (W5.ownsRow W1.heap.size 29 1 u4 ((L.take (j+1)).filter (CL c)).length xs):=xl (by rw[HFT.out];exact Ug.out);go_wp2;go_roundw
    case rel=>exact⟨j+1,_,by omega,by go_num,Mf.out,G6.out,Sj.out⟩
    case measure=>simp[intOf];omega
  .have I4:j=L.length:=by omega
   subst I4;have OA:Hid (BQ wr w.heap.size u4 (ie c) xs):=xl (by rw[HRL.out];rw[zk] at G9;exact G9);have HGE:=xl (Ds.out.trans (Df.out.trans hgr));clear hgr G9 how YS HOW;go_wp2;go_ret2;exact⟨_,_,rfl,HGE.out,OA.out⟩
def DJ.keep {w w':World}{base:Nat}{c:AW}{vN vH:Value}{xs:List Value}(h:DJ w base c vN vH xs)(hk:∀b,base<=b->b<w.heap.size->w'.heap[b]?=w.heap[b]?):DJ w' base c vN vH xs :=
 ⟨Bb h.AK λg hg hl=>hk g (h.AK.lt g hg).1 hl,Bb h.own λg hg hl=>hk g (h.own.lt g hg).1 hl,λi x hx=>by
  obtain⟨y,h1,h2⟩:=h.G3 i x hx
  exact⟨y,h1,Bb h2 λg hg hl=>hk g (h2.lt g hg).1 hl⟩⟩
def DJ.put {w:World}{base g hc k b2:Nat}{c:AW}{vN y':Value}{xs:List Value}{l:List Int}(h:DJ w base c vN (.slice (some ⟨g,0,none⟩) c.AH.length hc) xs)(hk:k<c.AH.length)(hy:w.ownsRow b2 3 1 y' l.length (l.map (Value.int .i64)))(hb:base<=b2) :
  DJ (w.setCell ⟨g,k*4+3,none⟩ y') base { c with AH:=c.AH.set k { c.h k with off:=l } } vN (.slice (some ⟨g,0,none⟩) c.AH.length hc) (xs.set (k*4+3) y'):=by
 have hlen:xs.length=c.AH.length*4:=h.own.1;have hs:∀b,b≠g->(w.setCell ⟨g,k*4+3,none⟩ y').heap[b]?=w.heap[b]?:=λb hb=>xE _ _ _ _ hb;have ok:∀ {sz n:Nat} {y:Value} {zs:List Value},w.ownsRow base 3 sz y n zs->(w.setCell ⟨g,k*4+3,none⟩ y').ownsRow base 3 sz y n zs:=λho=>Bb ho λb hb _=>hs b λe=>cx (by decide) ho h.own hb (by rw[e];rfl);refine⟨ok h.AK,by rw[List.length_set];exact(h.own.stored (k*4+3) y').1,λi x hx=>?_⟩
 dsimp only at hx;rw[List.getElem?_set] at hx;by_cases e:k=i
 .subst e;rw[if_pos rfl,if_pos hk] at hx;cases hx;obtain⟨y,h1,h2⟩:=h.G3 k (c.h k) (by unfold AW.h;rw[xq hk];rfl);refine⟨y',λj hj=>?_,ok (B1 hy hb)⟩;by_cases e3:j=3
  .subst e3;rw[List.getElem?_set_self (by omega)];rfl
  .rw[zq (by omega),h1 j hj];rcases(show j=0\/j=1\/j=2 by omega) with rfl|rfl|rfl<;>rfl
 .rw[if_neg e] at hx;obtain⟨y,h1,h2⟩:=h.G3 i x hx;exact⟨y,λj hj=>by rw[zq (by omega)];exact h1 j hj,ok h2⟩
def q8 (nA hA:Option Addr)(nc hc:Nat)(c:AW)(k:Nat)(d:Int)(w:World)(B:Nat)(hB:B<=w.heap.size)(hn:RI w B nA c.AK)(hh:Dr w B hA c.AH)(DV:c.Ok)(hk:k<c.AH.length) :
  Calls AG 10 #[Bp nA hA c nc hc,.int .i64 k,.int .i64 d] w λe w'=>∃KU hA' LV hc',e=.returned (Bp KU hA' (Go.Sq.FO c k d) LV hc')/\Gr w w'/\RI w' w'.heap.size KU (Go.Sq.FO c k d).AK/\Dr w' w'.heap.size hA' (Go.Sq.FO c k d).AH:=by
 unfold Bp;obtain⟨W0,hW0⟩:∃W0:World,W0=(w.alloc (.cells #[.slice nA c.AK.length nc,.slice hA c.AH.length hc] 27)).alloc (.cells #[.slice none 0 0,.slice none 0 0] 27):=⟨_,rfl⟩;have hg0:Gr w W0:=hW0▸((Gr.refl w).alloc _).alloc _;have hz0:W0.heap.size=w.heap.size+2:=by rw[hW0];simp
 have HW:=xl hW0;have Ds:=xl hg0;have h1:=DV.n5;have h2:=DV.h4;have Oj:=mP nA hA nc hc c W0 B (by omega) (hn.gr hB hg0) (hh.keep λb o hb=>hg0.cell (xx hb hB)) (by omega) (by omega) (λh hh=>xI (DV.off h hh).1 (by omega));unfold Bp at Oj;have OU:=xl Oj
 have OX:Hid (W0.cell? ⟨w.heap.size,0,none⟩=some (.slice nA c.AK.length nc)/\W0.cell? ⟨w.heap.size,1,none⟩=some (.slice hA c.AH.length hc)):=xl (by
  rw[hW0];constructor
  all_goals rw[xO _ _ _ (by simp),xu _ _ _ _ rfl];rfl)
 have U6:Hid (W0.heap[w.heap.size+1]?=some (.cells #[.slice none 0 0,.slice none 0 0] 27 (0,0))):=xl (by rw[hW0];exact ap _ _ (by simp));have EZ:=xl DV;have HH:=xl (hh.keep λb o hb=>hg0.cell (p:=⟨b,o,none⟩) (xx hb hB));clear hW0 hg0 Oj hn hh DV;go_enter Sq.func10,Tryz.ntmps10;go_wp2_with fail;rw[<-HW.out];refine OU.out.mono ?_;rintro e w1 ⟨hg1,KU,hA',LV,hc',xs,rfl,Ib⟩;unfold Bp;obtain⟨W2,hW2⟩:∃W2:World,W2=w1.alloc (.cells #[.slice KU c.AK.length LV,.slice hA' c.AH.length hc'] 27):=⟨_,rfl⟩
 have hg2:Gr w1 W2:=hW2▸(Gr.refl w1).alloc _;have hz2:W2.heap.size=w1.heap.size+1:=by rw[hW2];simp
 have hz1:=hg1.size;have Uh:=xl Ib;have GG:=xl (Ib.keep λb _ hb=>hg2.below.block b hb)
 have HC7:Hid (W2.cell? ⟨w1.heap.size,0,none⟩=some (.slice KU c.AK.length LV)/\W2.cell? ⟨w1.heap.size,1,none⟩=some (.slice hA' c.AH.length hc')):=xl (by
  rw[hW2,xu _ _ _ _ rfl,xu _ _ _ _ rfl];exact⟨rfl,rfl⟩)
 have EX:=xl (hg1.trans hg2);have Mp:=xl hW2;clear hg1 hg2 hW2 Ib OU;go_wp2;rw[<-Mp.out];go_loopw [8,9] (λv i wr=>∃j:Nat,j<=c.AK.length/\i=.int .i64 j/\Gr W2 wr/\wr.ownsRow W2.heap.size 3 1 v (Bd (λi=>decide ((i:Int)=d\/(i:Int)∈(c.h k).off)) j).length ((Bd (λi=>decide ((i:Int)=d\/(i:Int)∈(c.h k).off)) j).map (Value.int .i64))) (λ_ i _=>c.AK.length-(intOf i).toNat)
 case atStart=>exact⟨0,by omega,rfl,.refl _,x9 _ _ _ _⟩
 case round =>
  obtain⟨j,hj,rfl,hgr,hown⟩:=hrel;have HG:=xl hgr;have HO:=xl hown;have Yq:=hgr.size;have LX:=EX.out.trans hgr;have hc0:=(LX.cell (p:=⟨w.heap.size,0,none⟩) (by show w.heap.size<_;omega)).trans OX.out.1;have EA:w.heap.size<wr.heap.size:=by omega
  by_cases hlt:j<c.AK.length
  .have hc1:=(LX.cell (p:=⟨w.heap.size,1,none⟩) (by show w.heap.size<_;omega)).trans OX.out.2;obtain⟨b,o,rfl,JB,_,_,_,oA,oc,ho3,hor⟩:=HH.out.at_ hk;have ho3':=(LX.cell (p:=⟨b,o+k*4+3,none⟩) (by show b<_;omega)).trans ho3;have hbl:b<wr.heap.size:=by omega
   have VA:=xl (jX oA oc (c.h k).off j wr B (hor.gr (by omega) LX) (xI (EZ.out.off _ (c.GI hk)).1 (by omega)));have Hc:=xl (fo (λi=>decide ((i:Int)=d\/(i:Int)∈(c.h k).off)) j);have JY:=dT (λi=>decide ((i:Int)=d\/(i:Int)∈(c.h k).off)) j;obtain⟨Q1,YT⟩:∃Q1,Q1=Bd (λi=>decide ((i:Int)=d\/(i:Int)∈(c.h k).off)) (j+1):=⟨_,rfl⟩;rw[<-YT] at Hc;replace YT:=xl YT;generalize Bd (λi=>decide ((i:Int)=d\/(i:Int)∈(c.h k).off)) j=Q0 at Hc HO JY hown
   clear hgr LX ho3 hor;have Fp:=HG;by_cases hd:(j:Int)=d
   .have HQ:Hid (Q1=Q0++[d]):=xl (by rw[Hc.out,if_pos (by simp[hd]),hd]);have JJ:((j:Int)==d)=true:=by simpa using hd
    clear Hc hown;go_wp2_with (at_builtin;refine ip rfl _ _ rfl W2.heap.size _ _ _ rfl (HO.out.alloc _) ⟨wr.heap.size,0,none⟩ 1 (.int .i64 d) rfl ?c1 rfl ?c2 ?c3 ?_)
    case c1=>rw[xu _ _ _ _ rfl];rfl
    case c2=>omega
    case c3=>simp;omega
    intro v' w3 hown' hgrow GJ;have DW:=xl ((Fp.out.alloc _).grown hgrow GJ λq hq=>(HO.out.lt q hq).1);have G6:Hid (w3.ownsRow W2.heap.size 3 1 v' Q1.length (Q1.map (Value.int .i64))):=xl (by rw[HQ.out];first|simpa using hown'|(rw[hz2];simpa using hown'));clear hown' hgrow GJ;go_wp2;go_roundw
    case rel=>exact⟨j+1,by omega,by go_num,DW.out,by rw[<-YT.out];exact G6.out⟩
    case measure=>simp[intOf];omega
   .have JJ:((j:Int)==d)=false:=by simpa using hd
    go_wp2_with fail;refine VA.out.mono ?_;rintro e w' ⟨⟨r,rfl,hr⟩,rfl⟩;by_cases hm:(j:Int)∈(c.h k).off
    .have HQ:Hid (Q1=Q0++[(j:Int)]):=xl (by rw[Hc.out,if_pos (by simp[hm])]);have Ki:0<=r:=hr.2 hm;clear Hc hown hr hm hd VA;go_wp2_with (at_builtin;refine ip rfl _ _ rfl W2.heap.size _ _ _ rfl (HO.out.alloc _) ⟨wr.heap.size,0,none⟩ 1 (.int .i64 j) rfl ?c1 rfl ?c2 ?c3 ?_)
     case c1=>rw[xu _ _ _ _ rfl];rfl
     case c2=>omega
     case c3=>simp;omega
     intro v' w3 hown' hgrow GJ;have DW:=xl ((Fp.out.alloc _).grown hgrow GJ λq hq=>(HO.out.lt q hq).1);have G6:Hid (w3.ownsRow W2.heap.size 3 1 v' Q1.length (Q1.map (Value.int .i64))):=xl (by rw[HQ.out];first|simpa using hown'|(rw[hz2];simpa using hown'));clear hown' hgrow GJ;go_wp2;go_roundw
     case rel=>exact⟨j+1,by omega,by go_num,DW.out,by rw[<-YT.out];exact G6.out⟩
     case measure=>simp[intOf];omega
    .have HQ:Hid (Q1=Q0):=xl (by rw[Hc.out,if_neg (by simp[hm,hd]),zv]);have Ki:¬0<=r:=λh=>hm (hr.1 h);have G6:Hid (wr.ownsRow W2.heap.size 3 1 u8 Q1.length (Q1.map (Value.int .i64))):=xl (by rw[HQ.out];exact HO.out);clear Hc hown hr hm hd VA;go_wp2;go_roundw
     case rel=>exact⟨j+1,by omega,by go_num,Fp.out,by rw[<-YT.out];exact G6.out⟩
     case measure=>simp[intOf];omega
  .have I4:j=c.AK.length:=by omega
   subst I4;obtain⟨g,cap,hv,hgb,IJ⟩:=GG.out.own.form (by omega);obtain⟨rfl,rfl⟩:hA'=some ⟨g,0,none⟩/\hc'=cap:=by injection hv with a b c;exact⟨a,c⟩
   obtain⟨oA,oc,rfl⟩:=CV hown;have hg1:=(Uh.out.own.lt g rfl).2;have S2:=GG.out.keep (w':=wr) λb _ hb=>hgr.below.block b hb;obtain⟨Q,hQ⟩:∃Q,Q=LW c.AK.length (c.h k).off d:=⟨_,rfl⟩;have hQ':Bd (λi=>decide ((i:Int)=d\/(i:Int)∈(c.h k).off)) c.AK.length=Q:=hQ.symm;rw[hQ'] at hown ⊢;have hEO:(Go.Sq.FO c k d)={ c with AH:=c.AH.set k { c.h k with off:=Q } }:=by rw[hQ];rfl
   have HEO:=xl hEO;have XC:=xl (S2.put hk hown (by omega));obtain⟨y,hy,_⟩:=S2.G3 k (c.h k) (by unfold AW.h;rw[xq hk];rfl);have d3:=(S2.own.cellAt (k*4+3) (by omega)).trans ((hy 3 (by omega)).trans rfl);have f3:=S2.own.frozenAt (k*4+3);have e0:=(hgr.cell (p:=⟨w1.heap.size,0,none⟩) (by show w1.heap.size<_;omega)).trans HC7.out.1;have e1:=(hgr.cell (p:=⟨w1.heap.size,1,none⟩) (by show w1.heap.size<_;omega)).trans HC7.out.2
   have F4:=((LX.below.block (w.heap.size+1) (by omega))).trans U6.out;obtain⟨r0,x0⟩:=cell_of_heap F4 0;obtain⟨r1,x1⟩:=cell_of_heap F4 1;have ne1:¬g=w1.heap.size:=by omega
   have ne2:¬w1.heap.size=g:=by omega
   have ne3:¬g=w.heap.size+1:=by omega
   have ne4:¬w.heap.size+1=g:=by omega
   have ne5:¬w.heap.size=g:=by omega
   have ne6:¬g=w.heap.size:=by omega
   have Yz:=xl (Ds.out.trans LX);have hll1:w1.heap.size<wr.heap.size:=by omega
   clear hQ hQ' hEO hv hown hgr LX S2 hy F4 GG Uh;go_wp2;obtain⟨V,hV⟩:∃V,V=wr.setCell ⟨g,k*4+3,none⟩ (.slice oA Q.length oc):=⟨_,rfl⟩;have q0:V.cell? ⟨w.heap.size+1,0,none⟩=some (.slice none 0 0):=by rw[hV,xB _ _ _ _ (by simp[ne3])];exact r0
   have q1:V.cell? ⟨w.heap.size+1,1,none⟩=some (.slice none 0 0):=by rw[hV,xB _ _ _ _ (by simp[ne3])];exact r1
   have s1:=xJ (V.setCell ⟨w.heap.size+1,0,none⟩ (.slice KU c.AK.length LV)) ⟨w.heap.size+1,1,none⟩ (.slice (some ⟨g,0,none⟩) c.AH.length hc') ((xB V ⟨w.heap.size+1,0,none⟩ ⟨w.heap.size+1,1,none⟩ (.slice KU c.AK.length LV) (by simp)).trans q1);have s0:=(xB (V.setCell ⟨w.heap.size+1,0,none⟩ (.slice KU c.AK.length LV)) ⟨w.heap.size+1,1,none⟩ ⟨w.heap.size+1,0,none⟩ (.slice (some ⟨g,0,none⟩) c.AH.length hc') (by simp)).trans (xJ V ⟨w.heap.size+1,0,none⟩ (.slice KU c.AK.length LV) q0)
   have hend:=XC.out;rw[<-hV] at hend ⊢;have IU:Gr w V:=hV▸Yz.out.setCell (p:=⟨g,k*4+3,none⟩) (by show w.heap.size<=g;omega) _;have FK:=hend.keep (w':=(V.setCell ⟨w.heap.size+1,0,none⟩ (.slice KU c.AK.length LV)).setCell ⟨w.heap.size+1,1,none⟩ (.slice (some ⟨g,0,none⟩) c.AH.length hc')) λb hb _=>(xE _ _ _ _ (by show b≠w.heap.size+1;omega)).trans (xE _ _ _ _ (by show b≠w.heap.size+1;omega))
   have hlen:(c.AH.set k { c.h k with off:=Q }).length=c.AH.length:=List.length_set ..;have acp:∀(WF:World) (ys:List Value),DJ WF W0.heap.size { c with AH:=c.AH.set k { c.h k with off:=Q } } (.slice KU c.AK.length LV) (.slice (some ⟨g,0,none⟩) c.AH.length hc') ys->Dr WF WF.heap.size (some ⟨g,0,none⟩) (c.AH.set k { c.h k with off:=Q }):=λWF ys h=>by
    rw[<-hlen] at h;exact h.hsk.hs λb hb=>hb.2
   refine bodyPost_ret (v:=.agg #[.slice KU c.AK.length LV,.slice (some ⟨g,0,none⟩) c.AH.length hc']) (by simp[results,Tryz.results10,go_sem,s0,s1]) rfl ⟨KU,some ⟨g,0,none⟩,LV,hc',?_,(IU.setCell (by show w.heap.size<=w.heap.size+1;omega) _).setCell (by show w.heap.size<=w.heap.size+1;omega) _,?_,?_⟩
   .rw[HEO.out];dsimp only;rw[hlen]
   .rw[HEO.out];exact FK.rik.ri λb hb=>hb.2
   .rw[HEO.out];exact acp _ _ FK
def wW {K:Act->World->Prop}{l:List Value}{ds:List Deferred}{w:World}(n:Nat)(hn:l.length=n)(h:∀u:Nat->Value,(∀i,u i=l[i]?.getD undef)->K ⟨T n u,ds⟩ w):K ⟨l.toArray,ds⟩ w:=by
 rw[we,hn];exact h _ λ_=>rfl
end Go.Proofs.YtjcgijifamcggaaGreat
namespace Go.Sq
open Go.RowKit Go.Bl Go.Proofs.YtjcgijifamcggaaGreat
def mj (X:List Int)(vv:Nat)(x:Value)(_:World):Prop:=∃r:Int,x=.int .i64 r/\(0<=r↔(vv:Int)∈X)
def jD (X:List Int)(vv:Nat):Oy Gr (mj X vv):=λ_ _ _ _ h=>h
end Go.Sq
namespace Go.Proofs.YtjcgijifamcggaaGreat
open Go.RowKit Go.Sq Go.Bl
noncomputable def q9:Array Oper:=match Tryz.f3.body.getD .skip with|c=>Jy (Cx (inBody (Cx (Es (inBody (inBody (Es (inBody (Cx (Es (inBody (inBody (Es (Cx (Es (inBody (Cx (Es (inBody (inBody (Es (Cx (Ca 9 c)))))))))))))))))))))))
def uQ {A3 A4:Option Addr}{bg og gL gB gc Lc cB c3 c4 N n k j vv:Nat}{X3 X4:List Int}{W:World}{u:Nat->Value}{Q:Exit->Act->World->Prop}(h5:u 5=.slice (some ⟨bg,og,none⟩) N gc)(h11:u 11=.slice (some ⟨gL,0,none⟩) n Lc)(h15:u 15=.int .i64 (j:Nat))(YI:u 17=.int .i64 (k:Nat))(h18:u 18=.int .i64 (vv:Nat))(X7:k<N)(I4:j<n)
  (HC:Hid (∀V,Gr W V->(V.cell? ⟨bg,og+k,none⟩=some (.slice A4 X4.length c4)/\V.cell? ⟨gL,j,none⟩=some (.slice (some ⟨gB,0,none⟩) N cB)/\V.cell? ⟨gB,k,none⟩=some (.slice A3 X3.length c3))/\bg<V.heap.size/\gL<V.heap.size/\gB<V.heap.size))
  (Hv:Hid (∀V,Gr W V->Calls AG 12 #[.slice A4 X4.length c4,.int .i64 vv] V λe w'=>(∃r:Int,e=.returned (.int .i64 r)/\(0<=r↔(vv:Int)∈X4))/\V=w'))
  (JO:Hid (∀V,Gr W V->Calls AG 12 #[.slice A3 X3.length c3,.int .i64 vv] V λe w'=>(∃r:Int,e=.returned (.int .i64 r)/\(0<=r↔(vv:Int)∈X3))/\V=w'))
  (hK:∀W' u',Gr W W'->(∀t,IX q9 t=true->u' t=u t)->u' 115=.bool (decide ((vv:Int)∈X4) != decide ((vv:Int)∈X3))->Q .normal ⟨T 145 u',[]⟩ W'):(Code.region 20 q9 true).wp AG Q ⟨T 145 u,[]⟩ W:=by
 refine nE (R:=Gr) (m:=18) (by kernel_rfl) [λv _=>v=.slice (some ⟨bg,og,none⟩) N gc,λv _=>v=.int .i64 (k:Nat),λv _=>v=.pointer (some ⟨bg,og+k,none⟩),λv _=>v=.slice A4 X4.length c4,λv _=>v=.int .i64 (vv:Nat),mj X4 vv,λv _=>v=.bool (decide ((vv:Int)∈X4)),λv _=>v=.slice (some ⟨gL,0,none⟩) n Lc,λv _=>v=.int .i64 (j:Nat),λv _=>v=.pointer (some ⟨gL,j,none⟩),λv _=>v=.slice (some ⟨gB,0,none⟩) N cB,λv _=>v=.int .i64 (k:Nat),λv _=>v=.pointer (some ⟨gB,k,none⟩),λv _=>v=.slice A3 X3.length c3,λv _=>v=.int .i64 (vv:Nat),mj X3 vv,λv _=>v=.bool (decide ((vv:Int)∈X3)),λv _=>v=.bool (decide ((vv:Int)∈X4) != decide ((vv:Int)∈X3))] ⟨al _,al _,al _,al _,al _,jD _ _,al _,al _,al _,al _,al _,al _,al _,al _,al _,jD _ _,al _,al _,trivial⟩ ⟨⟨⟨⟨⟨⟨⟨⟨⟨⟨⟨⟨⟨⟨⟨⟨⟨⟨trivial,?_⟩,?_⟩,?_⟩,?_⟩,?_⟩,?_⟩,?_⟩,?_⟩,?_⟩,?_⟩,?_⟩,?_⟩,?_⟩,?_⟩,?_⟩,?_⟩,?_⟩,?_⟩ λu w hg hf hv=>?_
 .intro u w hg hf hl hd;exact aU rfl ((hf.at_ 5).trans h5)
 .intro u w hg hf hl hd;exact aU rfl ((hf.at_ 17).trans YI)
 .intro u w hg hf hl hd;refine aM (op:=.indexAddr 29 (.tmp 98) (.tmp 99)) (t:=0) rfl (λev he=>?_);have e98:=(he.t 98).trans (hd.at_ 0 98);have e99:=(he.t 99).trans (hd.at_ 1 99);clear hg hf hl hd he;go_simp
  all_goals (intro h9;omega)
 .intro u w hg hf hl hd;refine aM (op:=.load 22 (.tmp 100)) (t:=22) rfl (λev he=>?_);have e100:=(he.t 100).trans (hd.at_ 2 100);obtain⟨⟨k2,k3,k4⟩,l2,l3,l4⟩:=HC.out w hg;clear hg hf hl hd he;go_simp
 .intro u w hg hf hl hd;exact aU rfl ((hf.at_ 18).trans h18)
 .intro u w hg hf hl hd;exact fi rfl Sq.func12 #[.slice A4 X4.length c4,.int .i64 (vv:Nat)] (λev he=>by simp[((he.t 101).trans (hd.at_ 3 101)),((he.t 102).trans (hd.at_ 4 102))]) ((Hv.out w hg).mono λe w' h=>by obtain⟨⟨r,rfl,hr⟩,rfl⟩:=h;exact⟨_,rfl,.refl _,r,rfl,hr⟩)
 .intro u w hg hf hl hd;obtain⟨r,e1,hr⟩:=(hd.at_ 5 103);refine aM (op:=.binOp BinOp.geq 3 (.tmp 103) (.const (Value.int IntKind.i64 0)) 3) (t:=4) rfl (λev he=>?_);have e2:=(he.t 103).trans e1;have ec:=he.2.1;have hd9:decide (0<=r)=decide ((vv:Int)∈X4):=decide_eq_decide.2 hr;clear hg hf hl hd he e1 hr hK;go_simp
 .intro u w hg hf hl hd;exact aU rfl ((hf.at_ 11).trans h11)
 .intro u w hg hf hl hd;exact aU rfl ((hf.at_ 15).trans h15)
 .intro u w hg hf hl hd;refine aM (op:=.indexAddr 35 (.tmp 105) (.tmp 106)) (t:=0) rfl (λev he=>?_);have e105:=(he.t 105).trans (hd.at_ 7 105);have e106:=(he.t 106).trans (hd.at_ 8 106);clear hg hf hl hd he;go_simp
  all_goals (intro h9;omega)
 .intro u w hg hf hl hd;refine aM (op:=.load 29 (.tmp 107)) (t:=29) rfl (λev he=>?_);have e107:=(he.t 107).trans (hd.at_ 9 107);obtain⟨⟨k2,k3,k4⟩,l2,l3,l4⟩:=HC.out w hg;clear hg hf hl hd he;go_simp
 .intro u w hg hf hl hd;exact aU rfl ((hf.at_ 17).trans YI)
 .intro u w hg hf hl hd;refine aM (op:=.indexAddr 29 (.tmp 108) (.tmp 109)) (t:=0) rfl (λev he=>?_);have e108:=(he.t 108).trans (hd.at_ 10 108);have e109:=(he.t 109).trans (hd.at_ 11 109);clear hg hf hl hd he;go_simp
  all_goals (intro h9;omega)
 .intro u w hg hf hl hd;refine aM (op:=.load 22 (.tmp 110)) (t:=22) rfl (λev he=>?_);have e110:=(he.t 110).trans (hd.at_ 12 110);obtain⟨⟨k2,k3,k4⟩,l2,l3,l4⟩:=HC.out w hg;clear hg hf hl hd he;go_simp
 .intro u w hg hf hl hd;exact aU rfl ((hf.at_ 18).trans h18)
 .intro u w hg hf hl hd;exact fi rfl Sq.func12 #[.slice A3 X3.length c3,.int .i64 (vv:Nat)] (λev he=>by simp[((he.t 111).trans (hd.at_ 13 111)),((he.t 112).trans (hd.at_ 14 112))]) ((JO.out w hg).mono λe w' h=>by obtain⟨⟨r,rfl,hr⟩,rfl⟩:=h;exact⟨_,rfl,.refl _,r,rfl,hr⟩)
 .intro u w hg hf hl hd;obtain⟨r,e1,hr⟩:=(hd.at_ 15 113);refine aM (op:=.binOp BinOp.geq 3 (.tmp 113) (.const (Value.int IntKind.i64 0)) 3) (t:=4) rfl (λev he=>?_);have e2:=(he.t 113).trans e1;have ec:=he.2.1;have hd9:decide (0<=r)=decide ((vv:Int)∈X3):=decide_eq_decide.2 hr;clear hg hf hl hd he e1 hr hK;go_simp
 .intro u w hg hf hl hd;refine aM (op:=.binOp BinOp.neq 4 (.tmp 104) (.tmp 114) 4) (t:=4) rfl (λev he=>?_);have aha:=((he.t 104).trans (hd.at_ 6 104));have ahb:=((he.t 114).trans (hd.at_ 16 114));clear hg hf hl hd he hK;generalize decide ((vv:Int)∈X4)=p at aha ⊢;generalize decide ((vv:Int)∈X3)=q at ahb ⊢;cases p<;>cases q<;>go_simp
 .exact hK w u hg hf (hv.at_ 17 115)
end Go.Proofs.YtjcgijifamcggaaGreat
namespace Go.Sq
open Go.RowKit Go.Proofs.YtjcgijifamcggaaGreat
def ra {x:Nat}(v:Nat)(hv:v<4):((v:Int)∈wl x)↔x.testBit v=true:=by
 constructor
 .intro h;obtain⟨n,e,_,h⟩:=Kg h;obtain rfl:v=n:=by omega
  exact h
 .intro h;show _∈Bd x.testBit 4;exact CE.2 ⟨v,rfl,hv,h⟩
def ca (g:Bt)(R:List Bt)(j:Nat)(b l:Value):Prop:=match Cq g (R.take j) with
 |none=>b=.int .i64 (-1)/\l=.int .i64 0/\j=0
 |some p=>∃q:Nat,q<j/\b=.int .i64 q/\R[q]?=some p.1/\l=.int .i64 p.2
def re (g:Bt)(R:List Bt):ca g R 0 (.int .i64 (-1)) (.int .i64 0):=⟨rfl,rfl,rfl⟩
def Sp {g:Bt}{R:List Bt}{j:Nat}(hj:0<j)(hR:j<=R.length):∃p,Cq g (R.take j)=some p:=by
 obtain⟨k,rfl⟩:∃k,j=k+1:=⟨j-1,by omega⟩;rw[zh,xq (by omega)];show ∃p,Cq g (R.take k++[_])=some p;rw[dP];cases Cq g (R.take k) with
 |none=>exact⟨_,rfl⟩
 |some b=>dsimp only;split<;>exact⟨_,rfl⟩
def rf (a b:Bt)(k:Nat):C2 a b k<=4*k:=by
 induction k with
 |zero=>exact xp _
 |succ k ih =>
  have:=bM (a k ^^^ b k);simp only[C2];omega
structure YU (N m:Nat)(g:Bt)(R:List Bt)(cb:Nat)(hA gA LA:Option Addr)(hc gc Lc base:Nat)(xs:List Value)(W:World)(u:Nat->Value):Prop where
 u4:u 4=.pointer (some ⟨cb,0,none⟩)
 c1:W.cell? ⟨cb,1,none⟩=some (.slice hA m hc)
 cl:cb<W.heap.size
 u5:u 5=.slice gA N gc
 ga:CR W W.heap.size gA (BJ g N)
 u11:u 11=.slice LA R.length Lc
 cu:BQ W base (.slice LA R.length Lc) (R.map λr=>BJ r N) xs
 n3:N<=3
 m3:m<=3
 gm:∀i,g i<2 ^ m
 g0:∀i,N<=i->g i=0
 rm:∀r∈R,(∀i,r i<2 ^ m)/\∀i,N<=i->r i=0
 rl:R.length<=4096
end Go.Sq
namespace Go.Proofs.YtjcgijifamcggaaGreat
open Go.RowKit Go.Sq
noncomputable def aq:Code:=Tryz.f3.body.getD .skip
noncomputable def bR (n:Nat):Code:=Cx (Ca n aq)
noncomputable def dL:Code:=Ca 8 aq
noncomputable def ml:Code:=Ca 10 aq
def sU {N m:Nat}{g:Bt}{R:List Bt}{cb:Nat}{hA gA LA:Option Addr}{hc gc Lc base:Nat}{xs:List Value}{W:World}{u:Nat->Value}{Q:Exit->Act->World->Prop}(S:YU N m g R cb hA gA LA hc gc Lc base xs W u)(h13:u 13=.int .i64 (-1))(h14:u 14=.int .i64 0)
  (hK:∀W' u' b l,Gr W W'->u' 61=u 61->u' 8=u 8->u' 9=u 9->u' 10=u 10->u' 11=u 11->u' 13=b->u' 14=l->ca g R R.length b l->Q .normal ⟨T 145 u',[]⟩ W'):(bR 9).wp AG Q ⟨T 145 u,[]⟩ W:=by
 have HS:=xl S;have HK:=xl hK;have h4:=S.u4;have h5:=S.u5;have h11:=S.u11;have Y1:=S.n3;have hm3:=S.m3;have SU:=S.rl;clear S hK;have ez:bR 9=Cx (Ca 9 aq):=rfl;simp only[Ca,aq,Tryz.f3,Option.getD_some,Es,Cx] at ez;rw[ez];clear ez;unfold T;simp only[List.range,List.range.loop,yE,yH,h4,h5,h11,h13,h14];clear h4 h5 h11 h13 h14;go_wp2;go_loopw [13,14,15] (λb l i wr=>∃j:Nat,j<=R.length/\i=.int .i64 j/\Gr W wr/\ca g R j b l) (λ_ _ i _=>R.length-(intOf i).toNat)
 case atStart=>exact⟨0,by omega,rfl,.refl _,re g R⟩
 case round =>
  obtain⟨wq,rfl⟩:∃wq,wq=wr:=⟨_,rfl⟩;obtain⟨j,hj,rfl,hgr,EW⟩:=hrel;have HG:=xl hgr;have HB:=xl EW;by_cases hlt:j<R.length
  .have G9:=HS.out.cu.gr hgr;obtain⟨gL,cL,hv,_,hgL⟩:=G9.form (by simpa using Nat.lt_of_le_of_lt (xQ _) hlt);obtain⟨rfl,rfl⟩:LA=some ⟨gL,0,none⟩/\Lc=cL:=by injection hv with a b c;exact⟨a,c⟩
   obtain⟨A,c,ys,hcell,Eh⟩:=G9.at_ (q:=j) (by simpa using hlt);have hrm:=HS.out.rm _ (yn hlt);have HRJ:Hid (R[j]?=some R[j]):=xl (xq hlt)
   have XJ:Hid (Cq g (R.take (j+1))=match Cq g (R.take j) with|none=>some (R[j],C2 R[j] g 5)|some b=>if C2 R[j] g 5<b.2 then some (R[j],C2 R[j] g 5) else some b):=xl (by
    rw[zh,xq hlt]
    exact dP g (R.take j) R[j])
   rw[zt] at hcell Eh;generalize R[j]=ρ at hcell Eh hrm HRJ XJ;rw[B2] at hcell Eh;have T2:Hid (C2 ρ g 5=C2 ρ g N):=xl (sP ρ g N (λi hi=>by rw[hrm.2 i hi,HS.out.g0 i hi]) 5 (by omega));have HRM:=xl hrm;have Sk:=xl hcell;have Vs:=xl Eh;have NC:(j:Int)<(R.length:Int):=by omega
   clear hv hgr EW G9 hcell Eh hrm;go_wp2;go_loopw [16,17] (λd i wr=>∃k:Nat,k<=N/\i=.int .i64 k/\Gr wq wr/\d=.int .i64 ((C2 ρ g k:Nat):Int)) (λ_ i _=>N-(intOf i).toNat)
   case atStart=>exact⟨0,by omega,rfl,.refl _,rfl⟩
   case round =>
    obtain⟨wp,rfl⟩:∃wp,wp=wr:=⟨_,rfl⟩;obtain⟨k,hk,rfl,Tg,rfl⟩:=hrel;have HGK:=xl Tg;by_cases hlk:k<N
    .obtain⟨gB,cB,hv,_,hgB⟩:=Vs.out.form (by rw[B2];omega);rw[B2] at hv;obtain⟨rfl,rfl⟩:A=some ⟨gB,0,none⟩/\c=cB:=by injection hv with a b c;exact⟨a,c⟩
     obtain⟨A3,c3,hc3,hr3⟩:=Vs.out.at_ (q:=k) (by rw[B2];omega);have e3:(BJ ρ N)[k]'(by rw[B2];omega)=wl (ρ k):=by simp[BJ]
     rw[e3] at hc3 hr3;obtain⟨bg,og,rfl,hbg,SK⟩:=HS.out.ga (by intro e;have:=congrArg List.length e;rw[B2] at this;simp at this;omega);obtain⟨A4,c4,hc4,hr4⟩:=SK k (wl (g k)) (by simp[BJ,hlk]);have SG:=xl (And.intro hc3 hr3);have HC4:=xl (And.intro hc4 hr4);have hfk:C2 ρ g k<=4*k:=rf ρ g k
     have Xq:Hid (C2 ρ g (k+1)=C2 ρ g k+DI (ρ k) (g k) m):=xl (by
      show C2 ρ g k+(wl (ρ k ^^^ g k)).length=_
      rw[uK (HRM.out.1 k) (HS.out.gm k) (by omega)])
     generalize C2 ρ g k=F at Xq hfk;clear hv Tg hc3 hr3 SK hc4 hr4 e3;go_wp2;go_loopw [16,18] (λd i wr=>∃v:Nat,v<=m/\i=.int .i64 v/\Gr wp wr/\d=.int .i64 ((F+DI (ρ k) (g k) v:Nat):Int)) (λ_ i _=>m-(intOf i).toNat)
     case atStart=>exact⟨0,by omega,rfl,.refl _,rfl⟩
     case round =>
      obtain⟨v,hv,rfl,IU,rfl⟩:=hrel;have VB:=xl IU;have Vt:=HGK.out.trans IU;have UO:=HG.out.trans Vt;have k1:=(UO.cell (p:=⟨cb,1,none⟩) HS.out.cl).trans HS.out.c1;have hz1:=UO.size;have hz2:=Vt.size;have JY:=HS.out.cl;have hcw:cb<wr.heap.size:=by omega
      have hdl:=sQ (ρ k) (g k) v;by_cases hlv:v<m
      .have k2:=(UO.cell (p:=⟨bg,og+k,none⟩) hbg).trans HC4.out.1;have k3:=(Vt.cell (p:=⟨gL,j,none⟩) hgL).trans Sk.out;have k4:=(Vt.cell (p:=⟨gB,k,none⟩) hgB).trans SG.out.1;have l2:bg<wr.heap.size:=by omega
       have l3:gL<wr.heap.size:=by omega
       have l4:gB<wr.heap.size:=by omega
       have N0:=ra (x:=g k) v (by omega);have OQ:=ra (x:=ρ k) v (by omega);have Yp:Hid (decide ((v:Int)∈wl (g k))=(g k).testBit v):=xl (by rw[Bool.eq_iff_iff,decide_eq_true_iff];exact N0);have Nx:Hid (decide ((v:Int)∈wl (ρ k))=(ρ k).testBit v):=xl (by rw[Bool.eq_iff_iff,decide_eq_true_iff];exact OQ);have HDN:Hid (DI (ρ k) (g k) (v+1)=DI (ρ k) (g k) v+if(ρ k).testBit v=(g k).testBit v then 0 else 1):=xl rfl
       have XG:=xl ((HC4.out.2.gr (xp _) UO).more hz1);obtain⟨A3',c3',e3,acs⟩:=zY (Bb (w':=wr) SG.out.2 λb _ hb=>Vt.below.block b hb);obtain⟨rfl,rfl⟩:A3=A3'/\c3=c3':=by injection e3 with a b c;exact⟨a,c⟩
       have Sj:=xl acs;have hw4:=bM (g k);have hw3:=bM (ρ k);have Hv:=xl (λV (hV:Gr wr V)=>jX A4 c4 (wl (g k)) v V wr.heap.size (XG.out.gr (xp _) hV) (by omega));have JO:=xl (λV (hV:Gr wr V)=>jX A3 c3 (wl (ρ k)) v V wr.heap.size (Sj.out.gr (xp _) hV) (by omega));generalize wl (g k)=X4 at Hv Yp k2 XG;generalize wl (ρ k)=X3 at JO Nx k4 Sj;clear IU Vt UO N0 OQ e3 acs Sj XG;go_wp2;rename_i hKK
       refine jY 145 rfl λu2 hu=>?_;refine uQ (bg:=bg) (og:=og) (gL:=gL) (gB:=gB) (gc:=gc) (cB:=c) (N:=N) (n:=R.length) (k:=k) (j:=j) (vv:=v) (hu 5) (hu 11) (hu 15) (hu 17) (hu 18) hlk hlt (xl λV hV=>⟨⟨(hV.cell (p:=⟨bg,og+k,none⟩) l2).trans k2,(hV.cell (p:=⟨gL,j,none⟩) l3).trans k3,(hV.cell (p:=⟨gB,k,none⟩) l4).trans k4⟩,xx l2 hV.size,xx l3 hV.size,xx l4 hV.size⟩) Hv JO λW5 u6 G8 DX MQ=>?_;rw[wv (n:=145) [98,99,100,101,102,103,104,105,106,107,108,109,110,111,112,113,114,115] (by kernel_rfl) rfl hu DX]
       have Mf:=xl (VB.out.trans G8);clear hu DX G8 Hv JO k2 k3 k4;rw[Yp.out,Nx.out] at MQ;refine hKK _ _ ?_;simp only[zw,List.foldl_nil,List.set_cons_succ,List.set_cons_zero];by_cases hb:(ρ k).testBit v=(g k).testBit v
       .have HD:Hid (DI (ρ k) (g k) (v+1)=DI (ρ k) (g k) v):=xl (by rw[HDN.out,if_pos hb];rfl);rw[hb,bne_self_eq_false] at MQ;simp only[MQ];clear MQ hb HDN;generalize DI (ρ k) (g k) v=D at HD hdl;go_wp2;go_roundw
        case rel=>exact⟨v+1,by omega,by go_num,Mf.out,by rw[HD.out]⟩
        case measure=>simp[intOf];omega
       .have HD:Hid (DI (ρ k) (g k) (v+1)=DI (ρ k) (g k) v+1):=xl (by rw[HDN.out,if_neg hb]);rw[show((g k).testBit v != (ρ k).testBit v)=true by simpa [bne_iff_ne] using Ne.symm hb] at MQ;simp only[MQ];clear MQ hb HDN;generalize DI (ρ k) (g k) v=D at HD hdl;go_wp2;go_roundw
        case rel=>exact⟨v+1,by omega,by go_num,Mf.out,by rw[HD.out];go_num⟩
        case measure=>simp[intOf];omega
      .have hvm:v=m:=by omega
       subst hvm;have JD:Hid (F+DI (ρ k) (g k) v=C2 ρ g (k+1)):=xl Xq.out.symm;have IY:=xl Vt;generalize DI (ρ k) (g k) v=D at JD hdl;clear IU Vt UO;go_wp2;go_roundw
       case rel=>exact⟨k+1,by omega,by go_num,IY.out,by rw[<-JD.out]⟩
       case measure=>simp[intOf];omega
    .have X7:k=N:=by omega
     subst X7;have hfb:=rf ρ g k;have EX:=xl (HG.out.trans Tg);clear Tg;cases hq:Cq g (R.take j) with
     |none =>
      have hb:=HB.out;unfold ca at hb;rw[hq] at hb;obtain⟨rfl,rfl,_⟩:=hb
      have XK:Hid (ca g R (j+1) (.int .i64 j) (.int .i64 ((C2 ρ g k:Nat):Int))):=xl (by
       unfold ca;rw[XJ.out,hq];exact⟨j,by omega,rfl,HRJ.out,by rw[T2.out]⟩)
      generalize C2 ρ g k=F at XK hfb;clear T2 hq;go_wp2;go_roundw
      case rel=>exact⟨j+1,by omega,by go_num,EX.out,XK.out⟩
      case measure=>simp[intOf];omega
     |some p =>
      have hb:=HB.out;unfold ca at hb;rw[hq] at hb;obtain⟨q,KO,rfl,VP,rfl⟩:=hb;by_cases JG:C2 ρ g k<p.2
      .have XK : Hid (ca g R (j + 1) (.int .i64 j) (.int .i64 ((C2 ρ g k : Nat) : Int))) := Lib.hid (by
        unfold ca;rw[XJ.out,hq];dsimp only;rw[if_pos (by rw[T2.out];exact JG)];exact⟨j,by omega,rfl,HRJ.out,by rw[T2.out]⟩)
       generalize C2 ρ g k=F at XK hfb JG;clear T2 hq VP;go_wp2;go_roundw
       case rel=>exact⟨j+1,by omega,by go_num,EX.out,XK.out⟩
       case measure=>simp[intOf];omega
      .have XK : Hid (ca g R (j + 1) (.int .i64 q) (.int .i64 ((p.2 : Nat) : Int))) := Lib.hid (by
        unfold ca;rw[XJ.out,hq];dsimp only;rw[if_neg (by rw[T2.out];exact JG)];exact⟨q,by omega,rfl,VP,rfl⟩)
       generalize C2 ρ g k=F at hfb JG;clear T2 hq VP;go_wp2;go_roundw
       case rel=>exact⟨j+1,by omega,by go_num,EX.out,XK.out⟩
       case measure=>simp[intOf];omega
  .have I4:j=R.length:=by omega
   subst I4;clear hgr EW;go_wp2;refine wW 145 rfl λu' hu=>HK.out wq u' _ _ HG.out (hu 61) (hu 8) (hu 9) (hu 10) ((hu 11).trans HS.out.u11.symm) (hu 13) (hu 14) HB.out
end Go.Proofs.YtjcgijifamcggaaGreat
namespace Go.Sq
def wC {c:AW}{ls:List (List Int)}(h:Ba c ls=0){i:Nat}{l:List Int}(hi:ls[i]?=some l):wl (AP ls i)=l:=by
 have DV:=AW.Ok.of (eN h);unfold AP;rw[hi];exact vZ (oY ((IA h).2 l (yM hi))) DV.h4
open Go.RowKit Go.Proofs.YtjcgijifamcggaaGreat
def rg {c:AW}{ls:List (List Int)}(hF:Ba c ls=0)(hl:ls.length=c.AK.length):BJ (AP ls) c.AK.length=ls:=by
 refine zE (by rw[B2,hl]) λi h1 h2=>?_;simp only[BJ,zt,zO];exact wC hF (xq h2)
def uR {ls:List (List Int)}{i:Nat}(h:ls.length<=i):AP ls i=0:=by
 unfold AP;rw[yO h];rfl
def pm {c:AW}(DV:c.Ok)(hn:c.AK.length<=3):(∀r∈Bz c (Bo c.AH.length) c.AK.length Cv 0,(∀i,r i<2 ^ c.AH.length)/\∀i,c.AK.length<=i->r i=0)/\(Bz c (Bo c.AH.length) c.AK.length Cv 0).length<=4096:=by
 refine⟨λr hr=>⟨gV (iO DV) _ _ _ eE r hr,λi hi=>?_⟩,?_⟩
 .rw[iW] at hr;obtain⟨x,hx,rfl⟩:=xU.1 hr;have hl:=(KJ (yX.1 hx).1).1;rw[iu,if_neg (by omega)]
  rfl
 .rw[iW,ye];refine xI (zb _ _) (xI (jC _ _) ?_);exact xI (zH (jT DV) _) (xI (yy (by omega) hn) (by decide))
def rh {g:Bt}{R:List Bt}(h:Cq g R=none):R=[]:=by
 rcases yg R.length with h0|h0
 .exact xT h0
 .obtain⟨p,hp⟩:=Sp (g:=g) h0 (xp _);rw[zk,h] at hp;cases hp
def YU.of {N m:Nat}{g:Bt}{R:List Bt}{cb:Nat}{hA gA LA:Option Addr}{hc gc Lc base:Nat}{xs:List Value}{W:World}{u u':Nat->Value}(h:YU N m g R cb hA gA LA hc gc Lc base xs W u)(h4:u' 4=.pointer (some ⟨cb,0,none⟩))(h5:u' 5=.slice gA N gc)(h11:u' 11=.slice LA R.length Lc):YU N m g R cb hA gA LA hc gc Lc base xs W u' :=
 { h with u4:=h4,u5:=h5,u11:=h11 }
def IC (N:Nat)(g:Bt)(R:List Bt)(W:World)(a b c:Value):Prop:=match Cq g R with
 |none=>a=.slice none 0 0/\b=.int .i64 0/\c=.int .i64 11
 |some p=>∃A k,a=.slice A N k/\b=.int .i64 ((p.2:Nat):Int)/\c=.int .i64 0/\CR W W.heap.size A (BJ p.1 N)
def IC.gr {N:Nat}{g:Bt}{R:List Bt}{W W':World}{a b c:Value}(h:IC N g R W a b c)(hg:Gr W W'):IC N g R W' a b c:=by
 unfold IC at h ⊢;cases hp:Cq g R with
 |none=>rw[hp] at h;exact h
 |some p =>
  rw[hp] at h;obtain⟨A,k,h1,h2,h3,h4⟩:=h;exact⟨A,k,h1,h2,h3,(h4.gr (xp _) hg).more hg.size⟩
def BQ.any {w:World}{base:Nat}{v:Value}{L:List (List (List Int))}{xs:List Value}(h:BQ w base v L xs):∃A k,v=.slice A L.length k:=by
 rcases h.row.2 with⟨rfl,h0⟩|⟨g,cap,cur,hv,_⟩
 .exact⟨none,0,by rw[h0]⟩
 .exact⟨_,cap,hv⟩
end Go.Sq
namespace Go.Proofs.YtjcgijifamcggaaGreat
open Go.RowKit Go.Sq
open Go.Bl (Da aX bZ aC bK eK bu)
noncomputable def C4:Array Oper:=Jy (Cx (Sl (bR 7)))
noncomputable def Dn:Array Oper:=Jy (Cx ml)
noncomputable def tn:Array Oper:=Jy (Cx (bR 7))
def wU:bR 7=.seq (.region 7 tn false) (.cond (.tmp 61) (.seq (.region 8 C4 false) .ret) .skip):=by kernel_rfl
def rj:ml=.seq (.region 24 Dn false) .ret:=by kernel_rfl
def kH (a:Act):Bool:=match a.tmps.getD 61 undef with
 |.bool b=>b
 |_=>false
def sV (a:Act):Prop:=a.tmps.size=145/\a.defers=[]/\a.tmps.getD 76 undef=.bool true
def sW (a:Act):Prop:=a.tmps.size=145/\a.defers=[]/\a.tmps.getD 142 undef=.bool true
noncomputable def fX (a:Act):List Item:=if kH a then[.inRegion C4 [15,16,17],.code .ret,.code dL] else[.inRegion Dn [16,17,18],.code .ret]
def tq (a:Act):Prop:=(kH a=true/\sV a)\/(kH a=false/\sW a)
def kI:aq=.seq (bR 0) (.seq (bR 1) (.seq (bR 2) (.seq (bR 3) (.seq (bR 4) (.seq (bR 5) (.seq (bR 6) (.seq (bR 7) dL)))))))/\dL=.seq (bR 8) (.seq (bR 9) ml):=⟨by kernel_rfl,by kernel_rfl⟩
def sX {LA:Option Addr}{Lc:Nat}{W:World}{u:Nat->Value}(h8:u 8=.slice none 0 0)(h9:u 9=.int .i64 0)(h10:u 10=.int .i64 11)(h11:u 11=.slice LA 0 Lc)(MZ:u 12=.bool true) :
  aX AG fX (.seq (bR 7) dL) (λa _=>tq a) ⟨T 145 u,[]⟩ W:=by
 refine Go.Bl.Al (tgt:=[.inRegion C4 [15,16,17],.code .ret,.code dL]) (N:=λa _=>a.tmps.getD 61 undef=.bool true/\sV a) ?_ (λa w h=>?_)
 .refine bK (tgt:=[.inRegion C4 [15,16,17],.code .ret]) ?_;rw[wU];refine bZ λK hK=>?_;have ez:tn=Jy (Cx (Cx (Ca 7 aq))):=rfl;simp only[Ca,aq,Tryz.f3,Option.getD_some,Es,Cx,Jy] at ez;rw[ez];clear ez;unfold T;simp only[List.range,List.range.loop,yE,yH,h8,h9,h10,h11,MZ];go_wp2;refine eK (v:=true) rfl ?_;rw[if_pos rfl];refine bK (tgt:=[.inRegion C4 [15,16,17]]) ?_;refine bu (l:=C4.toList.take 15) (λj hj=>?_) (by kernel_rfl) ?_
  .rw[yQ] at hj;rw[zx,if_pos (by omega),Array.getElem?_toList]
  have ez:C4=Jy (Cx (Sl (Cx (Ca 7 aq)))):=rfl;simp only[Ca,aq,Tryz.f3,Option.getD_some,Es,Cx,Jy,Sl] at ez;rw[ez];clear ez;simp only[List.take_succ_cons,List.take_zero];go_wp2;exact⟨rfl,rfl,rfl,rfl⟩
 .have hp:kH a=true:=by unfold kH;rw[h.1]
  exact⟨by unfold fX;rw[if_pos hp],.inl ⟨hp,h.2⟩⟩
def sY {N m:Nat}{g:Bt}{R:List Bt}{cb:Nat}{hA gA LA:Option Addr}{hc gc Lc base:Nat}{xs:List Value}{W:World}{u:Nat->Value}{p:Bt×Nat}{A:Option Addr}{k:Nat}(S:YU N m g R cb hA gA LA hc gc Lc base xs W u)(hp:Cq g R=some p)(h8:u 8=.slice A N k)(h9:u 9=.int .i64 ((p.2:Nat):Int))(h10:u 10=.int .i64 0)(hg:CR W W.heap.size A (BJ p.1 N))(MZ:u 12=.bool true) :
  aX AG fX (.seq (bR 7) dL) (λa _=>tq a) ⟨T 145 u,[]⟩ W:=by
 have hne:0<R.length:=by
  rcases yg R.length with h0|h0
  .rw[xT h0] at hp;cases hp
  .exact h0
 have h11:=S.u11;have HS:=xl S;have HG:=xl hg;have HP:=xl hp;have hd:decide ((R.length:Int)=0)=false:=decide_eq_false (by omega);clear S hg hp;refine aC λK hK=>?_;have ez:bR 7=Cx (Ca 7 aq):=rfl;simp only[Ca,aq,Tryz.f3,Option.getD_some,Es,Cx] at ez;rw[ez];clear ez;unfold T;simp only[List.range,List.range.loop,yE,yH,h8,h9,h10,h11,MZ];go_wp2;rename_i hb0;rw[kI.2];refine aC λK hK=>?_;have ez:bR 8=Cx (Ca 8 aq):=rfl
 simp only[Ca,aq,Tryz.f3,Option.getD_some,Es,Cx] at ez;rw[ez];clear ez;go_wp2;refine aC λK hK=>?_;refine jY 145 rfl λu2 hu=>?_;refine sU (HS.out.of ((hu 4).trans HS.out.u4) ((hu 5).trans HS.out.u5) (hu 11)) (hu 13) (hu 14) λW5 u5 b l G8 h61 k8 k9 Wc Yh h13 h14 EW=>hK _ _ ?_;replace h61:u5 61=.bool false:=(h61.trans (hu 61)).trans (congrArg Value.bool hb0);replace k8:u5 8=.slice A N k:=k8.trans (hu 8)
 replace k9:u5 9=.int .i64 ((p.2:Nat):Int):=k9.trans (hu 9);replace Wc:u5 10=.int .i64 0:=Wc.trans (hu 10);replace Yh:u5 11=.slice LA R.length Lc:=Yh.trans (hu 11);clear hu hK h8 h9 h10 h11 MZ;unfold ca at EW;rw[zk,HP.out] at EW;obtain⟨q,hq,rfl,hRq,rfl⟩:=EW;have G9:=HS.out.cu.gr G8;obtain⟨gL,cL,hv,_,hgL⟩:=G9.form (by simpa using hne);obtain⟨rfl,rfl⟩:LA=some ⟨gL,0,none⟩/\Lc=cL:=by injection hv with a b c;exact⟨a,c⟩
 obtain⟨A2,c2,ys,hcell,Eh⟩:=G9.at_ (q:=q) (by simpa using hq);have hRe:R[q]=p.1:=by
  rw[xq hq] at hRq;injection hRq
 rw[zt,hRe] at hcell Eh;obtain⟨A3,c3,hv3,Mc⟩:=Eh.Ky;obtain⟨rfl,rfl⟩:A2=A3/\c2=c3:=by injection hv3 with a b c;exact⟨a,c⟩
 have Y1:=HS.out.n3;have EA:∀x∈BJ p.1 N,x.length<=4611686018427387904:=λx hx=>by
  obtain⟨i,_,rfl⟩:=xU.1 hx;exact xI (bM _) (by omega)
 have hsg:=fl A A2 k c2 (BJ p.1 N) (BJ p.1 N) W5 W5.heap.size (xp _) ((HG.out.gr (xp _) G8).more G8.size) Mc (by rw[B2];omega) (by rw[B2];omega) EA EA;rw[B2] at hsg hcell;rw[decide_eq_true rfl] at hsg;have HSG:=xl hsg;clear hsg Mc hv3 Eh hv G9 hRe hRq EA HG HP HS G8;refine Go.Bl.Al (tgt:=[.inRegion Dn [16,17,18],.code .ret]) (N:=λa _=>a.tmps.getD 61 undef=.bool false/\sW a) ?_ (λa w h=>?_)
 .rw[rj];refine bK (tgt:=[.inRegion Dn [16,17,18]]) ?_;refine bu (l:=Dn.toList.take 16) (λj hj=>?_) (by kernel_rfl) ?_
  .rw[yQ] at hj;rw[zx,if_pos (by omega),Array.getElem?_toList]
  have ez:Dn=Jy (Cx (Ca 10 aq)):=rfl;simp only[Ca,aq,Tryz.f3,Option.getD_some,Es,Cx,Jy] at ez;rw[ez];clear ez;simp only[List.take_succ_cons,List.take_zero];unfold T;simp only[List.range,List.range.loop,yE,yH,k8,k9,Wc,Yh,h13,h14,h61];go_wp2_with fail;refine HSG.out.mono ?_;rintro e w' ⟨rfl,hgw⟩;go_wp2;exact⟨rfl,rfl,rfl,rfl⟩
 .have hp:kH a=false:=by unfold kH;rw[h.1]
  exact⟨by unfold fX;rw[if_neg (by rw[hp];simp)],.inr ⟨hp,h.2⟩⟩
def sZ {N m:Nat}{g:Bt}{R:List Bt}{cb:Nat}{hA gA LA:Option Addr}{hc gc Lc base:Nat}{xs:List Value}{W:World}{u:Nat->Value}(S:YU N m g R cb hA gA LA hc gc Lc base xs W u)(MZ:u 12=.bool true)(h:IC N g R W (u 8) (u 9) (u 10)) :
  aX AG fX (.seq (bR 7) dL) (λa _=>tq a) ⟨T 145 u,[]⟩ W:=by
 unfold IC at h;cases hp:Cq g R with
 |none =>
  rw[hp] at h;obtain⟨h8,h9,h10⟩:=h;have:=rh hp;subst this;exact sX h8 h9 h10 S.u11 MZ
 |some p =>
  rw[hp] at h;obtain⟨A,k,h8,h9,h10,hg⟩:=h;exact sY S hp h8 h9 h10 hg MZ
end Go.Proofs.YtjcgijifamcggaaGreat
