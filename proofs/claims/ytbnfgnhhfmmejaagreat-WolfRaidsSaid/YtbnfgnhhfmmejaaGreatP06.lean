/- Parts of the proof. -/
import Derived.Test.YtbnfgnhhfmmejaaGreatP05
import Derived.Shelf.Slices.Clone
set_option linter.all false
set_option maxHeartbeats 6400000
set_option maxRecDepth 1000000
open Go.Value renaming slice->Z,int->J,pointer->ak,ownBlock->fu
open Option renaming none->Y,some->U,isSome->gl
open Go.IntKind renaming i64->I,wrap->ez,signed->fx,bits->hZ
open Go renaming World->C,Value->bb,Addr->bq,Calls->bs,bodyPost_ret->df,info_parts->eb,TypeId->fq,wpIn_wide->gR,Oper->ik
open Go.Proofs renaming intOf->O,size_putRow->dr
open Go.Obj renaming cells->G
open Go.World renaming setCell->H,alloc_heap_new->bo,frozen?->cf,putObj_heap_other->cq,cell?->ek,drew->jk
open Decidable renaming decide->bh
open Bool renaming false->bw,true->ea
open Go.Proofs.Tryz renaming results40->cu,results30->cw,ntmps63->gU
open Go.Addr renaming add_lit->dn,add->h9
open Ne renaming symm->dy
open Go.Ending renaming returned->ed
open List renaming countP_eq_zero->eo,range->er,all_eq_false->fc
open Or renaming inr->gg,inl->iv
open Array renaming getD->Array.LH,push->Array.LE,setIfInBounds->Array.L
open BitVec renaming toNat->BitVec.L
open Eq renaming symm->Eq.LH
open False renaming elim->False.S
open Go renaming underlying->Go.LH
open Go.Addr renaming block->Go.Addr.LE
open Go.BoundsCode renaming toNat->Go.BoundsCode.L
open Go.Calls renaming mono->Go.Calls.LT
open Go.CallsIn renaming mono->Go.CallsIn.LT
open Go.Code renaming block->Go.Code.LE
open Go.Ending renaming returned->Go.Ending.L
open Go.Instr renaming alloc->Go.Instr.LK
open Go.Obj renaming deferred->Go.Obj.S
open Go.Op renaming alloc->Go.Op.LK
open Go.Oper renaming dst->Go.Oper.L
open Go.Program renaming underlying->Go.Program.LH
open Go.RowKit.Below renaming block->Go.RowKit.Below.LE
open Go.TypeDesc renaming pointer->Go.TypeDesc.S
open Go.Value renaming ownBlock->Go.Value.L,pointer->Go.Value.S
open Go.World renaming alloc->Go.World.LK,cell?->Go.World.S,frozen?->Go.World.O,heap->Go.World.L,ownsRow->Go.World.H,putObj->Go.World.LB,setCell->Go.World.LH
open Go.World.grownBy renaming block->Go.World.grownBy.LE
open Go.World.ownsRow renaming alloc->Go.World.ownsRow.LK
open Int renaming toNat->Int.L
open List renaming below->List.Li,filter->List.S,length->List.L,set->List.Lo,sum->List.LE,take->List.LT,toArray->List.LK
open List.Pairwise renaming filter->List.Pairwise.S
open Nat renaming below->Nat.Li
open Ne renaming symm->Ne.LH
open Option renaming getD->Option.LH,isNone->Option.L
open Or renaming elim->Or.S
open UInt8 renaming toNat->UInt8.L
namespace Go.Sq
open Go.RowKit
def wY (l:List Int)(n:Nat)(h:∀x∈l,0<=x/\x<n):JK l<2 ^ n:=by
 have key:∀(l:List Int) (x:Nat),(∀y∈l,0<=y/\y<n)->x<2 ^ n->l.foldl (λx h=>x ||| 2 ^ h.L) x<2 ^ n:=by
  intro l
  induction l with
  |nil=>intro x _ hx;exact hx
  |cons a l ih =>
   intro x h hx;have ha:=h a Cg;exact ih _ (λy hy=>h y (Cp _ hy)) (Nat.or_lt_two_pow hx (Nat.pow_lt_pow_right (by omega) (by omega)))
 exact key l 0 h (Nat.two_pow_pos n)
def eM {c:Ek}{ls:List (List Int)}(hE:Et c ls=0)(i:Nat):c.has (Ec ls i):=by
 unfold Et at hE;split at hE
 .rename_i h;exact AS hE h
 .split at hE
  .rename_i h;exact AS hE h
  .unfold Ec Ek.has;cases hl:ls[i]? with
   |none=>exact Nat.two_pow_pos _
   |some l =>
    have:=bG.1 hE (Fz l c.D8.L) (Bu.2 ⟨l,By hl,rfl⟩);exact wY l _ (I0 this).1
structure Jg (w:C)(base:Nat)(v:bb)(n m:Nat)(M:Nat->Nat->Int)(bl:Nat->Nat):Prop where
 row:∃xs,w.H base 22 1 v m xs/\∀h,h<m->xs[h]?=U (.slice (U ⟨bl h,0,Y⟩) n n)
 cells:∀h,h<m->base<=bl h/\∃l:Array bb,w.L[bl h]?=U (.cells l 3 (0,0))/\∀t,t<n->l[t]?=U (J I (M h t))
 inj:∀h h',h<m->h'<m->bl h=bl h'->h=h'
def Eh {w:C}{b:Nat}{l:Array bb}{ty:fq}(h:w.L[b]?=U (.cells l ty (0,0)))(o:Nat):w.S ⟨b,o,Y⟩=l[o]?/\w.O ⟨b,o,Y⟩=false:=by
 unfold ek cf;rw[h];simp
def so {w:C}{base size n:Nat}{e e':fq}{v:bb}{xs:List bb}(h:w.H base e size v n xs)(zU:e≠e'){b:Nat}{l:Array bb}(hb:w.L[b]?=U (.cells l e' (0,0))):U b≠v.L:=λhh=>by
 obtain⟨rfl,_⟩|⟨g,cap,cur,rfl,_,k,_⟩:=h.2
 .cases hh
 .have e1:b=g:=by injection hh
  subst e1;rw[hb] at k;injection k with k
  injection k with _ k _
  exact zU k.LH
section
variable {w w':C} {base n m:Nat} {v:bb} {M M':Nat->Nat->Int} {bl:Nat->Nat}
def Jg.nil (w:C)(base n:Nat)(M:Nat->Nat->Int)(bl:Nat->Nat):Jg w base (.slice Y 0 0) n 0 M bl:=⟨⟨[],Bs _ _ _ _,λh hh=>AS hh (by omega)⟩,λh hh=>AS hh (by omega),λh h' hh=>AS hh (by omega)⟩
def Jg.keep (h:Jg w base v n m M bl)(hk:∀b,base<=b->b<w.L.size->w'.L[b]?=w.L[b]?):Jg w' base v n m M bl:=by
 obtain⟨xs,h1,h2⟩:=h.row;refine⟨⟨xs,ap h1 λg hg hl=>hk g (h1.lt g hg).1 hl,h2⟩,λa ha=>?_,h.inj⟩;obtain⟨c1,l,c2,c3⟩:=h.cells a ha;exact⟨c1,l,(hk _ c1 (AJ.1 c2).1).trans c2,c3⟩
def Jg.gr (h:Jg w base v n m M bl)(hg:Gr w w'):Jg w' base v n m M bl:=h.keep λb _ hb=>hg.Li.LE b hb
def Jg.drew (h:Jg w base v n m M bl):Jg w.drew base v n m M bl:=h.keep λ_ _ _=>rfl
def Jg.congr (h:Jg w base v n m M bl)(e:∀a t,a<m->t<n->M a t=M' a t):Jg w base v n m M' bl:=by
 refine⟨h.row,λa ha=>?_,h.inj⟩;obtain⟨c1,l,c2,c3⟩:=h.cells a ha;exact⟨c1,l,c2,λt ht=>by rw[<-e a t ha ht];exact c3 t ht⟩
def Jg.at_ (h:Jg w base v n m M bl){a t:Nat}(ha:a<m)(ht:t<n):base<=bl a/\bl a<w.L.size/\w.S ⟨bl a,t,Y⟩=U (J I (M a t))/\w.O ⟨bl a,t,Y⟩=false:=by
 obtain⟨c1,l,c2,c3⟩:=h.cells a ha;exact⟨c1,(AJ.1 c2).1,(Eh c2 t).1.trans (c3 t ht),(Eh c2 t).2⟩
def Jg.LK {A:Option bq}{k c:Nat}(h:Jg w base (Z A k c) n m M bl){a:Nat}(ha:a<m):∃g,A=U ⟨g,0,Y⟩/\g<w.L.size/\w.S ⟨g,a,Y⟩=U (.slice (U ⟨bl a,0,Y⟩) n n):=by
 obtain⟨xs,h1,h2⟩:=h.row;obtain⟨_,h0⟩|⟨g,cap,cur,hv,k1,k2,k3⟩:=h1.2
 .omega
 .have hA:A=U ⟨g,0,Y⟩:=by injection hv
  subst hA;have:=h1.cells (g:=g) rfl a _ (h2 a ha);have e:(⟨g,0,Y⟩:bq).add a=⟨g,0+a,Y⟩:=by unfold h9;split<;>simp_all
  rw[e,Bd] at this;exact⟨g,rfl,(AJ.1 k2).1,this⟩
def Jg.LE {w1:C}{v':bb}{q:Nat}{xs:List bb}{z:Array bb}(h:Jg w base v n m (λ_ _=>0) bl)(hr:w.H base 22 1 v m xs)(hx:∀h,h<m->xs[h]?=U (.slice (U ⟨bl h,0,Y⟩) n n))
  (hq:base<=q) (hqw:w.L.size<=q) (h1:∀b,b<w.L.size->w1.L[b]?=w.L[b]?) (hz:w1.L[q]?=U (.cells z 3 (0,0))) (hzz:∀t,t<n->z[t]?=U (J I 0)) (hs:w.L.size<=w1.L.size)
  (hg:w1.grownBy w' v.L) (a6:w'.H base 22 1 v' (m+1) (xs++[.slice (U ⟨q,0,Y⟩) n n])):Jg w' base v' n (m+1) (λ_ _=>0) (λa=>if a=m then q else bl a):=by
 have zk:xs.L=m:=by have:=hr.1;omega
 have hqv:U q≠v.L:=λe=>by have:=(hr.lt q e.LH).2;omega
 refine⟨⟨_,a6,λa ha=>?_⟩,λa ha=>?_,λa a' ha ha' e=>?_⟩
 .try dsimp only
  by_cases e:a=m
  .subst e;rw[AP rfl,BM (by omega),zk];simp
  .rw[AN e,BF (by omega)];exact hx a (by omega)
 .try dsimp only
  by_cases e:a=m
  .subst e;rw[AP rfl];exact⟨hq,z,(hg.LE q (AJ.1 hz).1 hqv).trans hz,hzz⟩
  .rw[AN e];obtain⟨c1,l,c2,c3⟩:=h.cells a (by omega);have zY:=(AJ.1 c2).1;exact⟨c1,l,(hg.LE (bl a) (by omega) (so hr (by decide) c2)).trans ((h1 _ zY).trans c2),c3⟩
 .try dsimp only at e
  have key:∀a,a<m->bl a<w.L.size:=λa ha=>by
   obtain⟨_,l,c2,_⟩:=h.cells a ha;exact(AJ.1 c2).1
  by_cases e1:a=m
  .by_cases e2:a'=m
   .omega
   .rw[AP e1,AN e2] at e;have:=key a' (by omega);omega
  .by_cases e2:a'=m
   .rw[AN e1,AP e2] at e;have:=key a (by omega);omega
   .rw[AN e1,AN e2] at e;exact h.inj a a' (by omega) (by omega) e
def Jg.Lo (h:Jg w base v n m M bl){a t:Nat}(ha:a<m)(ht:t<n)(y:Int)(hM:∀a' t',a'<m->t'<n->M' a' t'=if a'=a/\t'=t then y else M a' t'):Jg (w.LH ⟨bl a,t,Y⟩ (J I y)) base v n m M' bl:=by
 obtain⟨xs,h1,h2⟩:=h.row;obtain⟨c1,l,c2,c3⟩:=h.cells a ha;have hblk:∀g,g≠bl a->(w.LH ⟨bl a,t,Y⟩ (J I y)).L[g]?=w.L[g]?:=λg hg=>by
  rw[Go.EB.EW];exact AN hg
 refine⟨⟨xs,ap h1 λg hg _=>hblk g λe=>so h1 (by decide) c2 (by rw[<-e];exact hg.LH),h2⟩,λa' ha'=>?_,h.inj⟩;obtain⟨d1,l',d2,d3⟩:=h.cells a' ha';by_cases e:a'=a
 .subst e;refine⟨d1,l.L t (J I y),?_,λt' a6=>?_⟩
  .rw[Go.EB.EW,AP rfl,c2];simp[Go.EB.IY]
  .rw[hM a' t' ha' a6,Cn];by_cases e2:t=t'
   .subst e2;have hl:=(AJ.1 (c3 t ht)).1;simp[hl]
   .rw[AN e2,AN (λh=>e2 h.2.LH)];exact c3 t' a6
 .refine⟨d1,l',(hblk _ λe2=>e (h.inj a' a ha' ha e2)).trans d2,λt' a6=>?_⟩;rw[hM a' t' ha' a6,AN (λh=>e h.1)];exact d3 t' a6
def Jg.LH {A:Option bq}{c:Nat}(h:Jg w base (Z A m c) m m M bl):E7 w w.L.size A (Ld m M):=λhn=>by
 have hm:0<m:=by
  obtain e|e:=Bw m
  .exact AS (Bp ((cQ m M).trans e)) hn
  .exact e
 obtain⟨g,rfl,hg,_⟩:=h.LK hm;refine⟨g,0,rfl,hg,λi l hl=>?_⟩;have hi:i<m:=by have:=(Be.1 hl).1;rwa [cQ] at this
 rw[wX hi] at hl;cases hl;obtain⟨g',e,_,hc⟩:=h.LK hi;have e':g'=g:=by injection e with e;injection e with e;exact e.LH
 subst e';refine⟨U ⟨bl i,0,Y⟩,m,by simpa using hc,λ_=>⟨_,0,rfl,?_,λj x hx=>?_⟩⟩
 .obtain⟨_,l,c2,_⟩:=h.cells i hi;exact(AJ.1 c2).1
 .have hj:j<m:=by have:=(Be.1 hx).1;simpa using this
  have a6:x=M i j:=by
   rw[Bv,CU hj] at hx;exact(Option.some.inj hx).LH
  rw[Bd,a6];exact(h.at_ hi hj).2.2.1
end
def FA (w:C)(B:Nat)(A:Option bq)(l:List (Int×Int)):Prop :=
 l≠[]->∃b o,A=U ⟨b,o,Y⟩/\b<B/\∀(i:Nat) (x:Int×Int),l[i]?=U x->w.S ⟨b,o+i*2,Y⟩=U (J I x.1)/\w.S ⟨b,o+i*2+1,Y⟩=U (J I x.2)
def FA.keep {w w':C}{B:Nat}{A:Option bq}{l:List (Int×Int)}(h:FA w B A l)(hk:∀b o,b<B->w'.S ⟨b,o,Y⟩=w.S ⟨b,o,Y⟩):FA w' B A l:=λhn=>by
 obtain⟨b,o,e,hb,hc⟩:=h hn;exact⟨b,o,e,hb,λi x hx=>⟨(hk _ _ hb).trans (hc i x hx).1,(hk _ _ hb).trans (hc i x hx).2⟩⟩
def FA.gr {w w':C}{B:Nat}{A:Option bq}{l:List (Int×Int)}(h:FA w B A l)(hB:B<=w.L.size)(hg:Gr w w'):FA w' B A l:=h.keep λ_ _ hb=>hg.cell (AO hb hB)
def FA.at_ {w:C}{B:Nat}{A:Option bq}{l:List (Int×Int)}(h:FA w B A l){k:Nat}(hk:k<l.L):∃b o,A=U ⟨b,o,Y⟩/\b<B/\w.S ⟨b,o+k*2,Y⟩=U (J I (l[k]?.LH (0,0)).1)/\w.S ⟨b,o+k*2+1,Y⟩=U (J I (l[k]?.LH (0,0)).2):=by
 obtain⟨b,o,e,hb,hc⟩:=h (λe=>by rw[e] at hk;simp at hk);obtain⟨h1,h2⟩:=hc k _ (AL hk);exact⟨b,o,e,hb,by rw[AL hk];exact h1,by rw[AL hk];exact h2⟩
open Go.Proofs
def wZ (a b q:Int)(pb:Nat)(w:C)(hp:pb<w.L.size)(hc:w.S ⟨pb,0,Y⟩=U (J I q)) :
  bs D7 73 #[.agg #[J I a,J I b],.S (U ⟨pb,0,Y⟩)] w λe w'=>e=.L (.bool (a==q))/\Gr w w':=by
 go_enter Sq.func73,Tryz.ntmps73;go_wp2;go_ret;exact⟨rfl,(Gr.refl w).LK _⟩
def oe (A:Option bq)(c pb:Nat)(q:Int)(l:List (Int×Int))(w:C)(B:Nat)(hB:B<=w.L.size)(h:FA w B A l)(hl:l.L<=4611686018427387904)(hp:pb<w.L.size)(hc:w.S ⟨pb,0,Y⟩=U (J I q)) :
  bs D7 103 #[Z A l.L c,.func (.func 73) #[] #[.S (U ⟨pb,0,Y⟩)]] w λe w'=>(∃n:Int,e=.L (J I n)/\(0<=n↔l.any (·.1==q)=ea))/\Gr w w':=by
 have HR:=AI h;go_enter Sq.func103,Tryz.ntmps103;go_wp2;go_loopw [8] (λi wr=>∃k:Nat,k<=l.L/\i=J I k/\(l.LT k).any (·.1==q)=bw/\Gr w wr) (λi _=>l.L-(O i).L)
 case atStart=>exact⟨0,by omega,rfl,by simp,.refl _⟩
 case round =>
  obtain⟨k,hk,rfl,ha,hg⟩:=hrel;have HA:=AI ha;have HG:=AI hg;by_cases zY:k<l.L
  .obtain⟨b,o,rfl,hb,h1,h2⟩:=(HR.out.gr hB HG.out).at_ zY;have HT:=AI (bN (0,0) l k zY);have HM:Hid (l[k]?.LH (0,0)∈l):=AI (by rw[AL zY];exact BN zY);generalize l[k]?.LH (0,0)=x at h1 h2 HT HM;have hz:=HG.out.size;have HC:=AI (wZ x.1 x.2 q pb wr (by omega) ((HG.out.cell hp).trans hc));obtain⟨v,hv⟩:∃v,v=(x.1==q):=⟨_,rfl⟩;rw[<-hv] at HC;have HV:=AI hv;clear hv;cases v with
   |true =>
    go_wp2_with (go_at_call 73;refine HC.out.LT ?_;rintro e w2 ⟨rfl,zI⟩;have a6:=AI zI;clear zI);go_ret;refine⟨⟨k,rfl,⟨λ_=>Df.2 ⟨x,HM.out,HV.out.LH⟩,λ_=>by omega⟩⟩,HG.out.trans a6.out⟩
   |false =>
    go_wp2_with (go_at_call 73;refine HC.out.LT ?_;rintro e w2 ⟨rfl,zI⟩;have a6:=AI zI;clear zI);go_roundw
    case rel=>exact⟨k+1,by omega,by go_num,by rw[HT.out,List.any_append,HA.out];simp[<-HV.out],HG.out.trans a6.out⟩
    case measure=>simp[Proofs.intOf];omega
  .have a7:k=l.L:=by omega
   have HZ:=AI (show l.any (·.1==q)=bw by have:=HA.out;rwa [a7,Bm (by omega)] at this);clear a7;go_wp2;go_ret;exact⟨⟨-1,rfl,by rw[HZ.out];simp⟩,HG.out⟩
def sr (A:Option bq)(c pb:Nat)(q:Int)(l:List (Int×Int))(w:C)(B:Nat)(hB:B<=w.L.size)(h:FA w B A l)(hl:l.L<=4611686018427387904)(hp:pb<w.L.size)(hc:w.S ⟨pb,0,Y⟩=U (J I q)) :
  bs D7 72 #[Z A l.L c,.func (.func 73) #[] #[.S (U ⟨pb,0,Y⟩)]] w λe w'=>e=.L (.bool (l.any (·.1==q)))/\Gr w w':=by
 have HC:=AI (oe A c pb q l w B hB h hl hp hc);clear h;go_enter Sq.func72,Tryz.ntmps72;go_wp2_with fail;refine HC.out.LT ?_;rintro e w2 ⟨⟨n,rfl,hn⟩,hg⟩;have HG:=AI hg
 have HN:=AI (show bh (0<=n)=l.any (·.1==q) by
  cases hv:l.any (·.1==q) with
  |true=>simp[hn.2 hv]
  |false=>simp;have:=λh=>hn.1 h;rw[hv] at this;exact Int.not_le.1 λh=>by cases this h)
 clear hn hg;go_wp2;go_ret;exact⟨aq HN.out,HG.out⟩
def eN {n:Nat}{rs:List (Int×Int)}(h:bE n rs=0):∀k,k<rs.L->E9 n rs k=0:=by
 have key:∀l:List Int,bI l=0->∀x∈l,x=0:=λl h x hx=>by
  unfold bI at h;cases hf:l.find? (λx=>x != 0) with
  |none=>simpa using Do.1 hf x hx
  |some y =>
   rw[hf] at h;have:=List.find?_some hf;simp at this;exact AS h this
 intro k hk;exact key _ h _ (Bu.2 ⟨k,by simpa using hk,rfl⟩)
def nl {n:Nat}{rs:List (Int×Int)}{k:Nat}(h:E9 n rs k=0) :
  FM (rs[k]?.LH (0,0)).1 0 (n-1)=ea/\FM (rs[k]?.LH (0,0)).2 0 60=ea/\(rs.LT k).any (·.1==(rs[k]?.LH (0,0)).1)=false:=by
 unfold E9 at h;cases h1:FM (rs[k]?.LH (0,0)).1 0 (n-1) with
 |false=>rw[h1,AP rfl] at h;cases h
 |true =>
  cases h2:FM (rs[k]?.LH (0,0)).2 0 60 with
  |false=>rw[h1,h2,AN (by simp),AP rfl] at h;cases h
  |true =>
   cases h3:(rs.LT k).any (·.1==(rs[k]?.LH (0,0)).1) with
   |true=>rw[h1,h2,h3,AN (by simp),AN (by simp),AP rfl] at h;cases h
   |false=>exact⟨rfl,rfl,rfl⟩
def _root_.Go.Sq.FA.LT {w:C}{B:Nat}{A:Option bq}{l:List (Int×Int)}(h:FA w B A l)(k:Nat):FA w B A (l.LT k):=λhn=>by
 obtain⟨b,o,e,hb,hc⟩:=h (λe=>hn (by rw[e];simp))
 exact⟨b,o,e,hb,λi x hx=>hc i x (by
  rw[Cl] at hx;split at hx
  .exact hx
  .cases hx)⟩
def qv {W:C}{cb:Nat}{c:Ek}{nA hA:Option bq}{nc hc:Nat}(h:F0 W W.L.size cb c nA hA nc hc):F0 W.drew W.drew.L.size cb c nA hA nc hc:=(h.keep (w':=W.drew) λ_ _ _=>rfl:F0 W.drew W.L.size cb c nA hA nc hc)
def xa {W:C}{A:Option bq}{l:List Int}(h:RI W W.L.size A l):RI W.drew W.drew.L.size A l:=h
def po (nA hA:Option bq)(nc hc:Nat)(c:Ek)(ls:List (List Int))(rs:List (Int×Int))(w:C)(e:Ending)(w':C):Prop :=
 Gr w w'/\if Ez c ls rs=0 then ∃cb A k,e=.L (.tuple #[.S (U ⟨cb,0,Y⟩),E6 (Ec ls),Z A c.D9.L k,J I 0])/\F0 w' w'.L.size cb c nA hA nc hc/\RI w' w'.L.size A (Er c.D9.L rs rs.L)
  else ∃r:E2,e=.L (.tuple #[.S Y,E6 r,.slice Y 0 0,J I (Ez c ls rs)])
def j6 {n:Nat}{rs:List (Int×Int)}{k:Nat}(hk:k<rs.L)(hp:∀j,j<k->E9 n rs j=0)(h:E9 n rs k≠0):bE n rs=E9 n rs k:=by
 have e:∀j,j<rs.L->((er rs.L).map (E9 n rs))[j]?.LH 0=E9 n rs j:=λj hj=>by simp[hj]
 unfold bE;rw[aW (k:=k) (by simpa using hk) (λi hi=>by rw[e i (by omega)];exact hp i hi) (by rw[e k hk];exact h),e k hk]
def i5 {n:Nat}{rs:List (Int×Int)}(hp:∀j,j<rs.L->E9 n rs j=0):bE n rs=0:=cA λi hi=>by
 rw[BD,CQ] at hi;simp[hi,hp i hi]
def ew (nA hA gA rA:Option bq)(nc hc gc rc:Nat)(c:Ek)(ls:List (List Int))(rs:List (Int×Int))(w:C)(B:Nat)(hB:B<=w.L.size)(hn:RI w B nA c.D9)(hh:Fe w B hA c.D8)(hg:E7 w B gA ls)(hr:FA w B rA rs)
  (Gg:c.D9.L<=4611686018427387904) (zC:c.D8.L<=4611686018427387904) (Fa:∀h∈c.D8,h.off.L<=4611686018427387904) (G4:ls.L<=4611686018427387904) (zq:∀x∈ls,x.L<=4611686018427387904) (Io:rs.L<=4611686018427387904) (Im:rs.L<=rc) :
  bs D7 40 #[En nA hA c nc hc,Z gA ls.L gc,Z rA rs.L rc] w (po nA hA nc hc c ls rs w):=by
 have HR:=AI hr;unfold En;obtain⟨W0,zM⟩:∃W0:C,W0=(w.LK (G #[Z nA c.D9.L nc,Z hA c.D8.L hc] 25)).LK (G #[.int .u8 0,.int .u8 0,.int .u8 0,.int .u8 0,.int .u8 0] 77):=⟨_,rfl⟩;have zL:Gr w W0:=zM▸((Gr.refl w).LK _).LK _;have zF:W0.L.size=w.L.size+2:=by rw[zM];simp
 have HW:=AI zM;have aM:=AI (na nA hA gA nc hc gc c ls W0 B (by omega) (hn.gr hB zL) (hh.keep λb o hb=>zL.cell (AO hb hB)) (hg.gr hB zL) Gg zC Fa G4 zq);have aN:=AI zL;have hcm:W0.S ⟨w.L.size,0,Y⟩=U (Z nA c.D9.L nc)/\W0.S ⟨w.L.size,1,Y⟩=U (Z hA c.D8.L hc):=by
  rw[zM];constructor
  all_goals rw[Bi _ _ _ (by simp),AM _ _ _ _ rfl];rfl
 have aT:=AI hcm;have a7:∀i,i<5->W0.S ⟨w.L.size+1,i,Y⟩=U (.int .u8 ((λ_=>0:E2) i:Nat))/\W0.O ⟨w.L.size+1,i,Y⟩=false:=λi hi=>by
  rw[zM,AM _ _ _ _ (by simp),BK _ _ _ _ (by simp)]
  match i,hi with
  |0,_=>exact⟨rfl,rfl⟩
  |1,_=>exact⟨rfl,rfl⟩
  |2,_=>exact⟨rfl,rfl⟩
  |3,_=>exact⟨rfl,rfl⟩
  |4,_=>exact⟨rfl,rfl⟩
 have bF:=AI a7;go_enter Sq.func40,Tryz.ntmps40;unfold En at aM;go_wp2_with fail;rw[<-HW.out];refine aM.out.LT ?_;rintro e w1 ⟨zJ,aC⟩;by_cases aD:Et c ls=0
 case neg =>
  have zU:(Et c ls != 0)=true:=by simpa using aD
  have bG:Hid (Ez c ls rs=Et c ls):=AI (AP aD);rw[AN aD] at aC;have HFN:=AI aD;obtain⟨p,r,rfl⟩:=aC;have hg1z:=zJ.size;have a7:∀i,i<5->(w1.LK (G #[.int .u8 (r 0),.int .u8 (r 1),.int .u8 (r 2),.int .u8 (r 3),.int .u8 (r 4)] 97)).S ⟨w.L.size+1,i,Y⟩=U (.int .u8 ((λ_=>0:E2) i:Nat))/\(w1.LK (G #[.int .u8 (r 0),.int .u8 (r 1),.int .u8 (r 2),.int .u8 (r 3),.int .u8 (r 4)] 97)).O ⟨w.L.size+1,i,Y⟩=false:=λi hi=>by
   obtain⟨a,b⟩:=bF.out i hi;have hG:=zJ.trans ((Gr.refl w1).LK (G #[.int .u8 (r 0),.int .u8 (r 1),.int .u8 (r 2),.int .u8 (r 3),.int .u8 (r 4)] 97));exact⟨(hG.cell (by show w.L.size+1<_;omega)).trans a,(hG.frozen (by show w.L.size+1<_;omega)).trans b⟩
  obtain⟨b0,c0⟩:=a7 0 (by omega);obtain⟨b1,c1⟩:=a7 1 (by omega);obtain⟨b2,c2⟩:=a7 2 (by omega);obtain⟨b3,c3⟩:=a7 3 (by omega);obtain⟨b4,c4⟩:=a7 4 (by omega);have a8:=AI (bZ (λi hi=>(a7 i hi).1) (.int .u8 (r 0:Nat)) (.int .u8 (r 1:Nat)) (.int .u8 (r 2:Nat)) (.int .u8 (r 3:Nat)) (.int .u8 (r 4:Nat)));have aG:=AI (dZ ((aN.out.trans zJ).LK (G #[.int .u8 (r 0),.int .u8 (r 1),.int .u8 (r 2),.int .u8 (r 3),.int .u8 (r 4)] 97)) (b:=w.L.size+1) (by omega) (.int .u8 (r 0:Nat)) (.int .u8 (r 1:Nat)) (.int .u8 (r 2:Nat)) (.int .u8 (r 3:Nat)) (.int .u8 (r 4:Nat))).drew
  unfold E6;unfold GG at aG;generalize hq:Et c ls=e0 at zU bG HFN;replace hq:=AI hq;clear a7 aD;go_wp2;go_region
  all_goals
   go_wp2;obtain⟨s0,s1,s2,s3,s4⟩:=a8.out;unfold GG at s0 s1 s2 s3 s4;refine df (v:=.tuple #[.S Y,E6 r,.slice Y 0 0,J I e0]) (by simp[results,cu,go_sem,E6,s0,s1,s2,s3,s4]) rfl ⟨aG.out,?_⟩;rw[bG.out,AN HFN.out];exact⟨r,rfl⟩
 have aU:=AI aD;clear aD;rw[AP aU.out] at aC;have bH:Hid (Ez c ls rs=bE c.D9.L rs):=AI (AN λh=>h aU.out);obtain⟨cb,g,cap,rfl,hcb,cF,hK⟩:=aC
 have bI:=AI (Ek.Ok.of (show Ex c=0 by
  have:=aU.out;unfold Et at this;split at this
  .exact AS this (by assumption)
  .simpa using ‹¬Ex c≠0›))
 have cG:=bI.out.n5;have cH:=bI.out.n1;obtain⟨W1,zt⟩:∃W1:C,W1=w1.LK (G #[.int .u8 (Ec ls 0),.int .u8 (Ec ls 1),.int .u8 (Ec ls 2),.int .u8 (Ec ls 3),.int .u8 (Ec ls 4)] 97):=⟨_,rfl⟩;have aV:Gr w1 W1:=zt▸(Gr.refl w1).LK _;have zE:W1.L.size=w1.L.size+1:=by rw[zt];simp
 have hzz:=zJ.size;have aH:Gr W0 W1:=zJ.trans aV;have aW:=AI aH;have HK:=AI hK;have bM:=AI aV;have bJ:Hid (∀i,i<5->W1.S ⟨w1.L.size,i,Y⟩=U (.int .u8 (Ec ls i:Nat))):=AI λi hi=>by
  rw[zt,AM _ _ _ _ (by simp)]
  match i,hi with
  |0,_=>rfl
  |1,_=>rfl
  |2,_=>rfl
  |3,_=>rfl
  |4,_=>rfl
 have aX:Hid (∀i,i<5->W1.S ⟨w.L.size+1,i,Y⟩=U (.int .u8 ((λ_=>0:E2) i:Nat))/\W1.O ⟨w.L.size+1,i,Y⟩=bw):=AI λi hi=>by
  obtain⟨a,b⟩:=bF.out i hi;exact⟨(aH.cell (by show w.L.size+1<_;omega)).trans a,(aH.frozen (by show w.L.size+1<_;omega)).trans b⟩
 have bR:Hid (W1.S ⟨w.L.size,0,Y⟩=U (Z nA c.D9.L nc)/\W1.S ⟨w.L.size,1,Y⟩=U (Z hA c.D8.L hc)):=AI
  ⟨(aH.cell (by show w.L.size<_;omega)).trans aT.out.1,(aH.cell (by show w.L.size<_;omega)).trans aT.out.2⟩
 have bS:=AI zt;have zo:w1.S ⟨w.L.size,0,Y⟩=U (Z nA c.D9.L nc):=(zJ.cell (by show w.L.size<_;omega)).trans aT.out.1;have cI:w.L.size<w1.L.size:=by omega
 have cJ:=λw=>da c.D9.L w (by omega);unfold E6;go_wp2;rw[<-bS.out];go_loopw [33] (λi wr=>∃k:Nat,k<=rs.L/\(∀j,j<k->E9 c.D9.L rs j=0)/\i=J I k/\Gr W1 wr/\W1.L.size<wr.L.size/\∀j,j<c.D9.L->wr.S ⟨W1.L.size,j,Y⟩=U (J I (Fu rs k j))/\wr.O ⟨W1.L.size,j,Y⟩=bw) (λi _=>rs.L-(O i).L)
 case atStart =>
  refine⟨0,by omega,λj hj=>AS hj (BI _),rfl,(Gr.refl W1).LK _,by simp,λj hj=>⟨?_,?_⟩⟩
  .rw[AM _ _ _ _ (by simp),dx _ _ hj];rfl
  .rw[BK _ _ _ _ (by simp)]
 case round =>
  obtain⟨k,hk,aY,rfl,zV,cK,zW⟩:=hrel;have aJ:=AI aY;clear aY;have aA:=AI zV;have aZ:=AI zW;have zo:=(zV.cell (by show w.L.size<_;omega)).trans bR.out.1;have cL:=zV.size;by_cases zY:k<rs.L
  .have bK:=AI (HR.out.gr hB (aN.out.trans (aW.out.trans aA.out)));obtain⟨b,o,rfl,hb,h1,h2⟩:=bK.out.at_ zY;have aB:Hid (E9 c.D9.L rs k=if FM (rs[k]?.LH (0,0)).1 0 (c.D9.L-1)=bw then 3 else if FM (rs[k]?.LH (0,0)).2 0 60=bw then 1 else if(rs.LT k).any (·.1==(rs[k]?.LH (0,0)).1)=ea then 4 else 0):=AI rfl;have bN:Hid (E9 c.D9.L rs k≠0->Ez c ls rs=E9 c.D9.L rs k/\Ez c ls rs≠0):=AI λh=>by rw[bH.out,j6 zY aJ.out h];exact⟨rfl,h⟩
   have b5:Hid (∀j:Nat,Fu rs (k+1) j=if(rs[k]?.LH (0,0)).1=(j:Int) then(rs[k]?.LH (0,0)).2 else Fu rs k j):=AI λj=>rfl;generalize rs[k]?.LH (0,0)=x at h1 h2 aB b5;obtain⟨xn,xv⟩:=x;dsimp only at h1 h2 aB b5
   have aK : Hid (∀ (V : C) (E : Int), Gr wr V -> E ≠ 0 -> E9 c.D9.L rs k = E -> (∀ i, i < 5 -> V.S ⟨w1.L.size, i, Y⟩ = U (.int .u8 (Ec ls i : Nat))) ∧ (∀ i, i < 5 -> V.S ⟨w.L.size + 1, i, Y⟩ = U (.int .u8 ((fun _ => 0 : E2) i : Nat)) ∧ V.O ⟨w.L.size + 1, i, Y⟩ = bw) ∧
     po nA hA nc hc c ls rs w (.L (.tuple #[.S Y,E6 (Ec ls),.slice Y 0 0,J I E])) (GG V (w.L.size+1) (.int .u8 (Ec ls 0:Nat)) (.int .u8 (Ec ls 1:Nat)) (.int .u8 (Ec ls 2:Nat)) (.int .u8 (Ec ls 3:Nat)) (.int .u8 (Ec ls 4:Nat))).drew):=AI λV E hV hE he=>by
    have aO:=aA.out.trans hV;refine⟨λi hi=>(aO.cell (by show w1.L.size<_;omega)).trans (bJ.out i hi),λi hi=>⟨(aO.cell (by show w.L.size+1<_;omega)).trans (aX.out i hi).1,(aO.frozen (by show w.L.size+1<_;omega)).trans (aX.out i hi).2⟩,(dZ (aN.out.trans (aW.out.trans aO)) (by omega) _ _ _ _ _).drew,?_⟩;obtain⟨q1,q2⟩:=bN.out (by rw[he];exact hE);rw[AN q2,q1,he];exact⟨_,rfl⟩
   obtain⟨y1,aP⟩:∃y,y=FM xn 0 (c.D9.L-1):=⟨_,rfl⟩;obtain⟨y2,aQ⟩:∃y,y=FM xv 0 60:=⟨_,rfl⟩;have bT:Hid (∀W,bs D7 45 #[J I xn,J I 0,J I (c.D9.L-1)] W λe w'=>e=.L (.bool y1)/\W=w'):=AI λW=>by rw[aP];exact bP _ _ _ W
   have bU:Hid (∀W,bs D7 45 #[J I xv,J I 0,J I 60] W λe w'=>e=.L (.bool y2)/\W=w'):=AI λW=>by rw[aQ];exact bP _ _ _ W
   rw[<-aP,<-aQ] at aB;have HY1:=AI aP;have HY2:=AI aQ;clear aP aQ;obtain⟨W2,zm⟩:∃W2:C,W2=wr.LK (G #[J I xn,J I xv] 29):=⟨_,rfl⟩;have zI:Gr wr W2:=zm▸(Gr.refl wr).LK _;have zD:W2.L.size=wr.L.size+1:=by rw[zm];simp
   have aR:W2.S ⟨wr.L.size,0,Y⟩=U (J I xn)/\W2.S ⟨wr.L.size,1,Y⟩=U (J I xv):=by
    rw[zm,AM _ _ _ _ rfl,AM _ _ _ _ rfl];exact⟨rfl,rfl⟩
   have b6:=AI aR;have aS:=AI zI;have bV:=AI zm;have hwr:w.L.size<wr.L.size:=by omega
   have hkc:((k:Nat):Int)<=(rc:Int):=by omega
   have cM:=aR.1;have cN:=aR.2;have e2c:=(zI.cell (p:=⟨w.L.size,0,Y⟩) (by show w.L.size<_;omega)).trans zo;clear aR zI zm;go_wp2_with fail;rw[<-bV.out];refine(bT.out _).LT ?_;rintro e w' ⟨rfl,rfl⟩;cases y1 with
   |false =>
    obtain⟨aw,zw,a6⟩:=aK.out W2 3 aS.out (by decide) (by rw[aB.out];rfl);obtain⟨a0,a1,a2,a3,a4⟩:=IJ (w:=W2) (b:=w1.L.size) (r:=Ec ls) aw;obtain⟨b0,c0⟩:=zw 0 (by omega);obtain⟨b1,c1⟩:=zw 1 (by omega);obtain⟨b2,c2⟩:=zw 2 (by omega);obtain⟨b3,c3⟩:=zw 3 (by omega);obtain⟨b4,c4⟩:=zw 4 (by omega);have a8:=AI (bZ (λi hi=>(zw i hi).1) (.int .u8 (Ec ls 0:Nat)) (.int .u8 (Ec ls 1:Nat)) (.int .u8 (Ec ls 2:Nat)) (.int .u8 (Ec ls 3:Nat)) (.int .u8 (Ec ls 4:Nat)))
    unfold GG at a6;replace a6:=AI a6;clear aw zw;go_wp2;go_region
    all_goals
     go_wp2;obtain⟨s0,s1,s2,s3,s4⟩:=a8.out;unfold GG at s0 s1 s2 s3 s4;exact df (v:=.tuple #[.S Y,E6 (Ec ls),.slice Y 0 0,J I 3]) (by simp[results,cu,go_sem,E6,s0,s1,s2,s3,s4]) rfl a6.out
   |true =>
   go_wp2_with fail;refine(bU.out _).LT ?_;rintro e w' ⟨rfl,rfl⟩;cases y2 with
   |false =>
    obtain⟨aw,zw,a6⟩:=aK.out W2 1 aS.out (by decide) (by rw[aB.out];rfl);obtain⟨a0,a1,a2,a3,a4⟩:=IJ (w:=W2) (b:=w1.L.size) (r:=Ec ls) aw;obtain⟨b0,c0⟩:=zw 0 (by omega);obtain⟨b1,c1⟩:=zw 1 (by omega);obtain⟨b2,c2⟩:=zw 2 (by omega);obtain⟨b3,c3⟩:=zw 3 (by omega);obtain⟨b4,c4⟩:=zw 4 (by omega);have a8:=AI (bZ (λi hi=>(zw i hi).1) (.int .u8 (Ec ls 0:Nat)) (.int .u8 (Ec ls 1:Nat)) (.int .u8 (Ec ls 2:Nat)) (.int .u8 (Ec ls 3:Nat)) (.int .u8 (Ec ls 4:Nat)))
    unfold GG at a6;replace a6:=AI a6;clear aw zw;go_wp2;go_region
    all_goals
     go_wp2;obtain⟨s0,s1,s2,s3,s4⟩:=a8.out;unfold GG at s0 s1 s2 s3 s4;exact df (v:=.tuple #[.S Y,E6 (Ec ls),.slice Y 0 0,J I 1]) (by simp[results,cu,go_sem,E6,s0,s1,s2,s3,s4]) rfl a6.out
   |true =>
   have r1:=HY1.out.LH;obtain⟨j,rfl⟩:∃j:Nat,xn=j:=⟨xn.L,by simp[FM] at r1;omega⟩;have bW:j<c.D9.L:=by simp[FM] at r1;omega
   clear r1;have aL:=sr (U ⟨b,o,Y⟩) rc wr.L.size j (rs.LT k) W2 B (by omega) ((bK.out.LT k).gr (by omega) aS.out) (by simp;omega) (by omega) b6.out.1;have bX:(rs.LT k).L=k:=by simp;omega
   obtain⟨y3,b7⟩:∃y,y=(rs.LT k).any (·.1==(j:Int)):=⟨_,rfl⟩;rw[bX,<-b7] at aL;rw[<-b7] at aB;have bO:=AI aL;clear aL b7;go_wp2_with fail;refine bO.out.LT ?_;rintro e w3 ⟨rfl,zH⟩;have aF:=aS.out.trans zH;have bY:=AI aF;have hz3:=zH.size;have d0:w3.S ⟨wr.L.size,0,Y⟩=U (J I j):=(zH.cell (by show wr.L.size<_;omega)).trans b6.out.1;have d1:w3.S ⟨wr.L.size,1,Y⟩=U (J I xv):=(zH.cell (by show wr.L.size<_;omega)).trans b6.out.2
   have b8:∀i,i<c.D9.L->w3.S ⟨W1.L.size,i,Y⟩=U (J I (Fu rs k i))/\w3.O ⟨W1.L.size,i,Y⟩=false:=λi hi=>⟨(aF.cell (by show W1.L.size<_;omega)).trans (aZ.out i hi).1,(aF.frozen (by show W1.L.size<_;omega)).trans (aZ.out i hi).2⟩;have bL:=AI b8;obtain⟨e1,e2⟩:=b8 j bW;rw[zE] at e1 e2;cases y3 with
   |true =>
    clear e1 e2;obtain⟨aw,zw,a6⟩:=aK.out w3 4 bY.out (by decide) (by rw[aB.out];rfl);obtain⟨a0,a1,a2,a3,a4⟩:=IJ (w:=w3) (b:=w1.L.size) (r:=Ec ls) aw;obtain⟨b0,c0⟩:=zw 0 (by omega);obtain⟨b1,c1⟩:=zw 1 (by omega);obtain⟨b2,c2⟩:=zw 2 (by omega);obtain⟨b3,c3⟩:=zw 3 (by omega);obtain⟨b4,c4⟩:=zw 4 (by omega);have a8:=AI (bZ (λi hi=>(zw i hi).1) (.int .u8 (Ec ls 0:Nat)) (.int .u8 (Ec ls 1:Nat)) (.int .u8 (Ec ls 2:Nat)) (.int .u8 (Ec ls 3:Nat)) (.int .u8 (Ec ls 4:Nat)))
    unfold GG at a6;replace a6:=AI a6;clear aw zw;go_wp2;go_region
    all_goals
     go_wp2;obtain⟨s0,s1,s2,s3,s4⟩:=a8.out;unfold GG at s0 s1 s2 s3 s4;exact df (v:=.tuple #[.S Y,E6 (Ec ls),.slice Y 0 0,J I 4]) (by simp[results,cu,go_sem,E6,s0,s1,s2,s3,s4]) rfl a6.out
   |false =>
   have bQ:Hid (∀i,i<c.D9.L->(w3.LH ⟨w1.L.size+1,j,Y⟩ (J I xv)).S ⟨W1.L.size,i,Y⟩=U (J I (Fu rs (k+1) i))/\(w3.LH ⟨w1.L.size+1,j,Y⟩ (J I xv)).O ⟨W1.L.size,i,Y⟩=bw):=AI λi hi=>by
    rw[BG,b5.out];refine⟨?_,(bL.out i hi).2⟩;rw[zE];by_cases e:i=j
    .subst e;rw[Ba _ _ _ e1,AP rfl]
    .rw[AW _ _ _ _ (by simp[dy e]),AN (by omega)];have:=(bL.out i hi).1
     rwa [zE] at this
   have c5:Hid (Gr W1 (w3.LH ⟨w1.L.size+1,j,Y⟩ (J I xv))):=AI ((aA.out.trans aF).LH (p:=⟨w1.L.size+1,j,Y⟩) (by show _<=w1.L.size+1;omega) _);go_wp2;go_roundw
   case rel => exact ⟨k + 1, by omega, fun j' hj' => by
     by_cases e:j'=k
     .subst e;rw[aB.out];rfl
     .exact aJ.out j' (by omega),by go_num,c5.out,by simp[H];omega,bQ.out⟩
   case measure=>simp[Proofs.intOf];omega
  .have cA:k=rs.L:=by omega
   subst cA
   have cB:∀W:C,wr.L.size<=W.L.size->(∀o,W.S ⟨w1.L.size+1,o,Y⟩=wr.S ⟨w1.L.size+1,o,Y⟩)->RI W W.L.size (U ⟨w1.L.size+1,0,Y⟩) (Er c.D9.L rs rs.L):=λW hW hk _=>⟨_,0,rfl,by omega,λi x hx=>by
    have hi:i<c.D9.L:=by have:=(Be.1 hx).1;rwa [aI] at this
    rw[j5 hi] at hx;cases hx;rw[Bd,hk,<-zE]
    exact(aZ.out i hi).1⟩
   have cC:=AI cB;have cD:∀W:C,wr.L.size<=W.L.size->(∀b o,b≠w.L.size+1->W.S ⟨b,o,Y⟩=wr.S ⟨b,o,Y⟩)->F0 W W.L.size cb c nA hA nc hc:=λW hW hk =>
    (HK.out.keep (w':=W) (by omega) λb o hb=>(hk b o λe=>by rcases hb with h|h|h<;>omega).trans ((bM.out.trans aA.out).cell (p:=⟨b,o,Y⟩) (HK.out.lt b hb))).Ou
   have cE:=AI cD;have b9:=AI (λ(b o:Nat) (hb:b≠w.L.size+1)=>A7 (a:=⟨b,o,Y⟩) (jX wr (w.L.size+1) (.int .u8 (Ec ls 0:Nat)) (.int .u8 (Ec ls 1:Nat)) (.int .u8 (Ec ls 2:Nat)) (.int .u8 (Ec ls 3:Nat)) (.int .u8 (Ec ls 4:Nat)) hb));have bA:=AI (lD wr (w.L.size+1) (.int .u8 (Ec ls 0:Nat)) (.int .u8 (Ec ls 1:Nat)) (.int .u8 (Ec ls 2:Nat)) (.int .u8 (Ec ls 3:Nat)) (.int .u8 (Ec ls 4:Nat)))
   obtain⟨a0,a1,a2,a3,a4⟩:=IJ (w:=wr) (b:=w1.L.size) (r:=Ec ls) λi hi=>(aA.out.cell (by show w1.L.size<_;omega)).trans (bJ.out i hi);have a7:∀i,i<5->wr.S ⟨w.L.size+1,i,Y⟩=U (.int .u8 ((λ_=>0:E2) i:Nat))/\wr.O ⟨w.L.size+1,i,Y⟩=false:=λi hi=>by
    obtain⟨a,b⟩:=aX.out i hi;exact⟨(aA.out.cell (by show w.L.size+1<_;omega)).trans a,(aA.out.frozen (by show w.L.size+1<_;omega)).trans b⟩
   obtain⟨b0,c0⟩:=a7 0 (by omega);obtain⟨b1,c1⟩:=a7 1 (by omega);obtain⟨b2,c2⟩:=a7 2 (by omega);obtain⟨b3,c3⟩:=a7 3 (by omega);obtain⟨b4,c4⟩:=a7 4 (by omega);have a8:=AI (bZ (λi hi=>(a7 i hi).1) (.int .u8 (Ec ls 0:Nat)) (.int .u8 (Ec ls 1:Nat)) (.int .u8 (Ec ls 2:Nat)) (.int .u8 (Ec ls 3:Nat)) (.int .u8 (Ec ls 4:Nat)));have aG:=AI (dZ (aN.out.trans (aW.out.trans aA.out)) (b:=w.L.size+1) (by omega) (.int .u8 (Ec ls 0:Nat)) (.int .u8 (Ec ls 1:Nat)) (.int .u8 (Ec ls 2:Nat)) (.int .u8 (Ec ls 3:Nat)) (.int .u8 (Ec ls 4:Nat)))
   obtain⟨Wf,hWf⟩:∃Wf:C,Wf=GG wr (w.L.size+1) (.int .u8 (Ec ls 0:Nat)) (.int .u8 (Ec ls 1:Nat)) (.int .u8 (Ec ls 2:Nat)) (.int .u8 (Ec ls 3:Nat)) (.int .u8 (Ec ls 4:Nat)):=⟨_,rfl⟩;rw[<-hWf] at b9 bA aG;have bB:=AI (qv (cE.out Wf (BJ bA.out.LH) b9.out));have bC:=AI (xa (cC.out Wf (BJ bA.out.LH) λo=>b9.out _ o (by omega)));have bD:=AI aG.out.drew;rw[hWf] at bD bB bC
   unfold GG at bD bB bC;go_wp2;go_region
   all_goals
    go_wp2;obtain⟨s0,s1,s2,s3,s4⟩:=a8.out;unfold GG at s0 s1 s2 s3 s4;refine df (v:=.tuple #[.S (U ⟨cb,0,Y⟩),E6 (Ec ls),.slice (U ⟨w1.L.size+1,0,Y⟩) c.D9.L c.D9.L,J I 0]) (by simp[results,cu,go_sem,E6,s0,s1,s2,s3,s4]) rfl ⟨bD.out,?_⟩;rw[bH.out,AP (i5 aJ.out)];exact⟨cb,_,_,rfl,bB.out,bC.out⟩
def jp (nA hA gA rA:Option bq)(nc hc gc rc:Nat)(c:Ek)(ls:List (List Int))(rs:List (Int×Int))(w:C)(B:Nat)(hB:B<=w.L.size)(hn:RI w B nA c.D9)(hh:Fe w B hA c.D8)(hg:E7 w B gA ls)(hr:FA w B rA rs)
  (Gg:c.D9.L<=4611686018427387904) (zC:c.D8.L<=4611686018427387904) (Fa:∀h∈c.D8,h.off.L<=4611686018427387904) (G4:ls.L<=4611686018427387904) (zq:∀x∈ls,x.L<=4611686018427387904) (Io:rs.L<=4611686018427387904) (Im:rs.L<=rc)
  (hF:Et c ls=0) (hR:bE c.D9.L rs=0) :
  bs D7 40 #[En nA hA c nc hc,Z gA ls.L gc,Z rA rs.L rc] w λe w'=>Gr w w'/\∃cb A k,e=.L (.tuple #[.S (U ⟨cb,0,Y⟩),E6 (Ec ls),Z A c.D9.L k,J I 0]) /\
   F0 w' w'.L.size cb c nA hA nc hc/\RI w' w'.L.size A (Er c.D9.L rs rs.L):=by
 refine(ew nA hA gA rA nc hc gc rc c ls rs w B hB hn hh hg hr Gg zC Fa G4 zq Io Im).LT ?_;rintro e w' ⟨h1,h2⟩;rw[AP (show Ez c ls rs=0 by unfold Ez;rw[AN (λh=>h hF)];exact hR)] at h2;exact⟨h1,h2⟩
def xd (A:Option bq)(c:Nat)(l:List Int)(w:C)(B:Nat)(h:RI w B A l)(hB:B<=w.L.size)(hl:l.L<=1048576) :
  bs D7 63 #[Z A l.L c] w λe w'=>∃v,e=.L v/\w'.H w.L.size 3 1 v l.L (l.map (J I))/\Gr w w':=by
 obtain⟨i0,hi,zF,zE,zD⟩:=eb DD;have HR:=AI h;have q22:∀(w:C) (a:Option bq) (n c n' c':Nat),(binOp .eql 22 (.slice a n c) (.slice Y n' c')).run D7 w=.ok (.bool a.L) w:=λw a n c n' c'=>Lib.run_eql_slice_nil w _ _ a n c n' c' Sq.underlying22;cases A with
 |none =>
  have hl0:l=[]:=by
   cases l with
   |nil=>rfl
   |cons x l=>obtain⟨_,_,e,_⟩:=HR.out (by simp);cases e
  subst hl0;go_enter Sq.func63,gU;go_wp2;go_ret;exact⟨_,rfl,Bs _ _ _ _,.refl _⟩
 |some ad =>
  have hcell:∀j u,(l.map (J I))[j]?=U u->w.S (ad.add j)=U u/\(ad.add j).LE<w.L.size:=λj u hj=>by
   rw[Bv] at hj;cases hx:l[j]? with
   |none=>rw[hx] at hj;cases hj
   |some x =>
    rw[hx] at hj;obtain⟨b,o,e,hb,hc⟩:=HR.out (λe=>by rw[e] at hx;simp at hx);obtain rfl:ad=⟨b,o,Y⟩:=by injection e
    have e2:(⟨b,o,Y⟩:bq).add j=⟨b,o+j,Y⟩:=dn _ _ _;rw[e2];exact⟨by rw[hc j x hx];exact hj,by show b<_;omega⟩
  have HC:=AI hcell;go_enter Sq.func63,gU;go_wp2_with (at_builtin;refine EL rfl _ _ 22 rfl w.L.size 3 i0 (J I 0) 1 8 Sq.underlying22 hi zF zE zD rfl (by decide) _ _ _ rfl (C0 w #[] 0 (AK _) (Bg _) rfl) ad l.L c (l.map (J I)) rfl ?qc1 ?qc2 ?qc3 ?qc4 ?qc5 ?qc6 ?_)
  case qc1=>simp
  case qc2=>intro j u hj;exact(A7 (Cj _ _ _ (HC.out j u hj).2)).trans (HC.out j u hj).1
  case qc3=>intro u hu;obtain⟨x,_,rfl⟩:=Bu.1 hu;rfl
  case qc4=>unfold maxLen;omega
  case qc5=>omega
  case qc6=>simp
  intro v' w1 zl hgrow hd;have hG:=AI (((Gr.refl w).LK _).Lo hgrow hd (by intro k hk;simp[fu] at hk;omega));have hO:=AI zl;go_wp2;go_ret;exact⟨v',rfl,by simpa using hO.out,hG.out⟩
def DI:(D7.info? 57).map (λi=>(i.zero,i.size,i.bytes))=U (U (.agg #[J I 0,J I 0,J I 0,.slice Y 0 0]),4,48):=by
 rw[Dy];kernel_rfl
def I3 (w:C)(b o n:Nat):List Value:=(er (n*4)).map λj=>(w.S ⟨b,o+j,Y⟩).LH (J I 0)
def fQ {w:C}{b o n j:Nat}(hj:j<n*4):(I3 w b o n)[j]?=U ((w.S ⟨b,o+j,Y⟩).LH (J I 0)):=by simp[I3,hj]
def Ia (w:C)(b o n:Nat):(I3 w b o n).L=n*4:=by simp[I3]
def hcell {w:C}{B b o:Nat}{l:List EZ}(hc:∀(i:Nat) (h:EZ),l[i]?=U h->MJ w B b (o+i*4) h){j:Nat}(hj:j<l.L*4):∃u,w.S ⟨b,o+j,Y⟩=U u/\u.oneCell'=true:=by
 obtain⟨h1,h2,h3,A,c,h4,_⟩:=hc (j / 4) _ (AL (show j / 4<l.L by omega));have:j % 4=0\/j % 4=1\/j % 4=2\/j % 4=3:=by omega
 obtain e|e|e|e:=this
 .rw[show o+j=o+j / 4*4 by omega];exact⟨_,h1,rfl⟩
 .rw[show o+j=o+j / 4*4+1 by omega];exact⟨_,h2,rfl⟩
 .rw[show o+j=o+j / 4*4+2 by omega];exact⟨_,h3,rfl⟩
 .rw[show o+j=o+j / 4*4+3 by omega];exact⟨_,h4,rfl⟩
def ux (b o c:Nat)(l:List EZ)(w:C)(B:Nat)(hb:b<B)(hB:B<=w.L.size)(hc:∀(i:Nat) (h:EZ),l[i]?=U h->MJ w B b (o+i*4) h)(hn:0<l.L)(hl:l.L<=1048576) :
  bs D7 61 #[.slice (U ⟨b,o,Y⟩) l.L c] w λe w'=>∃g cap,e=.L (.slice (U ⟨g,0,Y⟩) l.L cap)/\Gr w w'/\w.L.size<=g/\g<w'.L.size/\(∀i,w'.O ⟨g,i,Y⟩=bw) /\
   ∀(i:Nat) (h:EZ),l[i]?=U h->MJ w' B g (i*4) h:=by
 obtain⟨i0,hi,zF,zE,zD⟩:=eb DI;have HC:=AI hc;have q22:∀(w:C) (a:Option bq) (n c n' c':Nat),(binOp .eql 23 (.slice a n c) (.slice Y n' c')).run D7 w=.ok (.bool a.L) w:=λw a n c n' c'=>Lib.run_eql_slice_nil w _ _ a n c n' c' Sq.underlying23;go_enter Sq.func61,Tryz.ntmps61;go_wp2_with (at_builtin;refine EL rfl _ _ 23 rfl w.L.size 57 i0 _ 4 48 Sq.underlying23 hi zF zE zD rfl (by decide) _ _ _ rfl (C0 w #[] 0 (AK _) (Bg _) rfl) ⟨b,o,Y⟩ l.L c (I3 w b o l.L) rfl ?qc1 ?qc2 ?qc3 ?qc4 ?qc5 ?qc6 ?_)
 case qc1=>exact Ia _ _ _ _
 case qc2 =>
  intro j u hj;have zY:j<l.L*4:=by have:=(Be.1 hj).1;rwa [Ia] at this
  rw[fQ zY] at hj;obtain⟨v,hv,_⟩:=hcell HC.out zY;rw[hv] at hj;rw[dn,A7 (Cj _ _ _ (show b<w.L.size by omega)),hv];exact hj
 case qc3 =>
  intro u hu;obtain⟨j,hj,rfl⟩:=Bu.1 hu;obtain⟨v,hv,h1⟩:=hcell HC.out (BQ.1 hj);rw[hv];exact h1
 case qc4=>unfold maxLen;omega
 case qc5=>omega
 case qc6=>simp
 intro v' w1 zl hgrow hd;have hG:=AI (((Gr.refl w).LK _).Lo hgrow hd (by intro k hk;simp[fu] at hk;omega));have zl:w1.H w.L.size 57 4 v' l.L (I3 w b o l.L):=by simpa using zl
 obtain⟨g,cap,rfl,_,_⟩:=zl.form hn;have hO:=AI zl;go_wp2;go_ret;refine⟨g,cap,rfl,hG.out,(hO.out.lt g rfl).1,(hO.out.lt g rfl).2,λi=>?_,λi h hi=>?_⟩
 .obtain⟨h,_⟩|⟨g',c',cur,h,_,hb,_⟩:=hO.out.2
  .cases h
  .obtain⟨rfl⟩:g=g':=by injection h with h1;injection h1 with h2;injection h2
   simp[cf,hb]
 .have a6:i<l.L:=(Be.1 hi).1;have key:∀k u,k<4->w.S ⟨b,o+i*4+k,Y⟩=U u->w1.S ⟨g,i*4+k,Y⟩=U u:=λk u hk hu=>by
   have zY:i*4+k<l.L*4:=by omega
   have:=hO.out.cells (g:=g) rfl (i*4+k) u (by rw[fQ zY,<-CT,hu];rfl)
   rwa [dn,Bd] at this
  obtain⟨h1,h2,h3,A,c',h4,h5⟩:=HC.out i h hi;exact⟨key 0 _ (by omega) h1,key 1 _ (by omega) h2,key 2 _ (by omega) h3,A,c',key 3 _ (by omega) h4,h5.gr hB hG.out⟩
def Iu (h:EZ)(A:Option bq)(c:Nat):List Value:=[J I h.heads,J I h.FL,J I h.most,Z A h.off.L c,J I h.heads]
def DY:(D7.info? 139).map (λi=>(i.zero,i.size,i.bytes))=U (U (.agg #[J I 0,J I 0,J I 0,.slice Y 0 0,J I 0]),5,56):=by
 rw[Dy];kernel_rfl
def yK {w:C}{ops:Array ik}{rest:List ik}{o:ik}{a:Act}{Q:Exit->Act->C->Prop}(hgd:o.guard=Y)(s x:Operand)(ho:o.op=.call { callee:=.builtin .append,args:=#[s,x],argTypes:=#[134,134] })
  (base:Nat) (v:bb) (n:Nat) (xs:List bb) (hs:a.eval s=v) (zl:w.H base 139 5 v n xs) (ad:bq) (c:Nat) (news:List bb) (hx:a.eval x=.slice (U ad) 1 c) (h5:news.L=5) (hc:∀(j:Nat) (u:bb),news[j]?=U u->w.S (ad.add j)=U u) (h1:∀u∈news,u.oneCell'=ea)
  (hn:n<=1048576) (hbase:base<=w.L.size) (h:∀v' w',w'.H base 139 5 v' (n+1) (xs++news)->w.grownBy w' v.L->w.drawn<=w'.drawn->wpList D7 ops Q rest (a.put o.L v') w'):wpList D7 ops Q (o::rest) a w:=by
 obtain⟨i0,hi,zF,zE,zD⟩:=eb DY;exact EL hgd s x 134 ho base 139 i0 _ 5 56 ((Sq.LH 134).trans Tryz.underlying134) hi zF zE zD rfl (by decide) v n xs hs zl ad 1 c news hx (by omega) hc h1 (by unfold maxLen;omega) (by omega) hbase h
def uy (cb:Nat)(nA hA:Option bq)(nc hc:Nat)(c:Ek)(w:C)(B:Nat)(hB:B<=w.L.size)(h:F0 w B cb c nA hA nc hc)(hl:c.D8.L<=1048576) :
  bs D7 74 #[.S (U ⟨cb,0,Y⟩)] w λe w'=>∃v xs,e=.L v/\w'.H w.L.size 139 5 v c.D8.L xs/\Gr w w'/\∀i,i<c.D8.L->∃A m,∀j,j<5->xs[i*5+j]?=(Iu (c.h i) A m)[j]?:=by
 have zu:=h.c1;have zY:=h.lt;have HH:=AI h.Gj;go_enter Sq.func74,Tryz.ntmps74;go_wp2;go_loopw [3,13] (λv i wr=>∃k:Nat,k<=c.D8.L/\i=J I k/\Gr w wr/\∃xs,wr.H w.L.size 139 5 v k xs/\∀i,i<k->∃A m,∀j,j<5->xs[i*5+j]?=(Iu (c.h i) A m)[j]?) (λ_ i _=>c.D8.L-(O i).L)
 case atStart=>exact⟨0,by omega,rfl,.refl _,[],Bs _ _ _ _,λi hi=>AS hi (by omega)⟩
 case round =>
  obtain⟨k,hk,rfl,hg,xs,zl,a7⟩:=hrel;have HG:=AI hg;have HX:=AI a7;by_cases a6:k<c.D8.L
  .obtain⟨b,o,rfl,hb,h0,h1,h2,A_,m,h3,_⟩:=(HH.out.keep (w':=wr) λb o hb=>HG.out.cell (AO hb hB)).at_ a6;have hz:=HG.out.size;go_wp2_with (at_builtin;refine yK rfl _ _ rfl w.L.size _ _ _ rfl ((zl.LK _).LK _ |>.LK _) ⟨wr.L.size+1+1,0,Y⟩ 1 (Iu (c.h k) A_ m) rfl rfl ?c1 ?c2 ?c3 ?c4 ?_)
   case c1 =>
    intro j u hj;rw[dn,Bd,AM _ _ _ _ (by simp)]
    match j,hj with
    |0,hj=>exact hj
    |1,hj=>exact hj
    |2,hj=>exact hj
    |3,hj=>exact hj
    |4,hj=>exact hj
    |j+5,hj=>simp[Iu] at hj
   case c2=>intro u hu;simp[Iu] at hu;rcases hu with rfl|rfl|rfl|rfl|rfl<;>rfl
   case c3=>omega
   case c4=>simp;omega
   intro v' w3 hown' hgrow hd;have a8:=AI ((((HG.out.LK _).LK _).LK _).Lo hgrow hd λq hq=>(zl.lt q hq).1);have zk:xs.L=k*5:=zl.1;have aA:Hid (∀i,i<k+1->∃A m',∀j,j<5->(xs++Iu (c.h k) A_ m)[i*5+j]?=(Iu (c.h i) A m')[j]?):=AI λi hi=>by
    obtain h|h:=BV i k
    .obtain⟨A',m',hh⟩:=HX.out i h;exact⟨A',m',λj hj=>by rw[BF (by omega)];exact hh j hj⟩
    .obtain rfl:i=k:=by omega
     exact⟨A_,m,λj hj=>by rw[BM (by omega),zk];congr 1;omega⟩
   have aB:=AI hown';go_wp2;go_roundw
   case rel=>exact⟨k+1,by omega,by go_num,a8.out,_,aB.out,aA.out⟩
   case measure=>simp[Proofs.intOf];omega
  .have aC:k=c.D8.L:=by omega
   subst aC;have HO:=AI zl;go_wp2;go_ret;exact⟨_,xs,rfl,HO.out,HG.out,HX.out⟩
structure NY (w:C)(g:Nat)(l:List Int):Prop where
 lt:g<w.L.size
 left:∀(i:Nat) (x:Int),l[i]?=U x->w.S ⟨g,i*5+4,Y⟩=U (J I x)
 free:∀o,w.O ⟨g,o,Y⟩=bw
 rest:∀(i:Nat) (x:Int),l[i]?=U x->∃(n0 n1 n2:Int) (A:Option bq) (m c:Nat),w.S ⟨g,i*5,Y⟩=U (J I n0)/\w.S ⟨g,i*5+1,Y⟩=U (J I n1)/\w.S ⟨g,i*5+2,Y⟩=U (J I n2)/\w.S ⟨g,i*5+3,Y⟩=U (Z A m c)
def NY.Sj {w:C}{g:Nat}{l:List Int}(h:NY w g l):O1 w w.L.size (U ⟨g,0,Y⟩) l:=λ_=>⟨g,0,rfl,h.lt,λi x hx=>by
 simp only[Bd]
 exact⟨h.left i x hx,h.rest i x hx⟩⟩
def NY.keep {w w':C}{g:Nat}{l:List Int}(h:NY w g l)(hz:w.L.size<=w'.L.size)(hk:w'.L[g]?=w.L[g]?):NY w' g l:=by
 have e:∀o,w'.S ⟨g,o,Y⟩=w.S ⟨g,o,Y⟩:=λo=>A7 hk;refine⟨AO h.lt hz,λi x hx=>(e _).trans (h.left i x hx),λo=>(Cc hk).trans (h.free o),λi x hx=>?_⟩;obtain⟨n0,n1,n2,A,m,c,h0,h1,h2,h3⟩:=h.rest i x hx;exact⟨n0,n1,n2,A,m,c,(e _).trans h0,(e _).trans h1,(e _).trans h2,(e _).trans h3⟩
def NY.Lo {w:C}{g:Nat}{l:List Int}(h:NY w g l){k:Nat}(hk:k<l.L)(y:Int):NY (w.LH ⟨g,k*5+4,Y⟩ (J I y)) g (l.Lo k y):=by
 have hz:(w.LH ⟨g,k*5+4,Y⟩ (J I y)).L.size=w.L.size:=by simp[H]
 have old:∀i x,(l.Lo k y)[i]?=U x->∃x',l[i]?=U x':=λi x hx=>by
  have:=(Be.1 hx).1;rw[C1] at this;exact⟨_,AL this⟩
 refine⟨by rw[hz];exact h.lt,λi x hx=>?_,λo=>(BG _ _ _ _).trans (h.free o),λi x hx=>?_⟩
 .by_cases e:i=k
  .subst e;rw[List.getElem?_set_self hk] at hx;cases hx;exact Ba _ _ _ (h.left i _ (AL hk))
  .rw[Dg (dy e)] at hx;rw[AW _ _ _ _ (by simp<;>omega)];exact h.left i x hx
 .obtain⟨x',a6⟩:=old i x hx;obtain⟨n0,n1,n2,A,m,c,h0,h1,h2,h3⟩:=h.rest i x' a6;refine⟨n0,n1,n2,A,m,c,?_,?_,?_,?_⟩
  all_goals rw[AW _ _ _ _ (by simp<;>omega)]
  .exact h0
  .exact h1
  .exact h2
  .exact h3
def Es:List (Int×Int)->List bb
 |[]=>[]
 |p::l=>J I p.1::J I p.2::Es l
def eU (l m:List (Int×Int)):Es (l++m)=Es l++Es m:=by
 induction l with
 |nil=>rfl
 |cons p l ih=>simp[Es,ih]
def GY {l:List (Int×Int)}{i:Nat}(h:i<l.L):(Es l)[i*2]?=U (J I (l[i]?.LH (0,0)).1)/\(Es l)[i*2+1]?=U (J I (l[i]?.LH (0,0)).2):=by
 induction l generalizing i with
 |nil=>simp at h
 |cons p l ih =>
  cases i with
  |zero=>exact⟨rfl,rfl⟩
  |succ i =>
   have:=ih (i:=i) (by simpa using h);rw[Nat.succ_mul];simpa [Es] using this
def D4:(D7.info? 83).map (λi=>(i.zero,i.size,i.bytes))=U (U (.agg #[J I 0,J I 0]),2,16):=by
 rw[Dy];kernel_rfl
def yL {w:C}{ops:Array ik}{rest:List ik}{o:ik}{a:Act}{Q:Exit->Act->C->Prop}(hgd:o.guard=Y)(s x:Operand)(ho:o.op=.call { callee:=.builtin .append,args:=#[s,x],argTypes:=#[80,80] })
  (base:Nat) (v:bb) (n:Nat) (xs:List bb) (hs:a.eval s=v) (zl:w.H base 83 2 v n xs) (ad:bq) (c:Nat) (u1 u2:bb) (hx:a.eval x=.slice (U ad) 1 c) (zu:w.S (ad.add 0)=U u1) (zr:w.S (ad.add 1)=U u2) (h1:u1.oneCell'=ea) (h2:u2.oneCell'=ea)
  (hn:n<=1048576) (hbase:base<=w.L.size) (h:∀v' w',w'.H base 83 2 v' (n+1) (xs++[u1,u2])->w.grownBy w' v.L->w.drawn<=w'.drawn->wpList D7 ops Q rest (a.put o.L v') w'):wpList D7 ops Q (o::rest) a w:=by
 obtain⟨i0,hi,zF,zE,zD⟩:=eb D4;refine EL hgd s x 80 ho base 83 i0 _ 2 16 ((Sq.LH 80).trans Tryz.underlying80) hi zF zE zD rfl (by decide) v n xs hs zl ad 1 c [u1,u2] hx rfl (λj u hj=>?_) (λu hu=>?_) (by unfold maxLen;omega) (by omega) hbase h
 .match j,hj with
  |0,hj=>cases hj;exact zu
  |1,hj=>cases hj;exact zr
 .simp only[AT,AQ,or_false] at hu;obtain rfl|rfl:=hu
  .exact h1
  .exact h2
def jq (cb:Nat)(nA hA A:Option bq)(nc hc wc:Nat)(c:Ek)(r:E2)(ws:List Int)(w:C)(h:F0 w w.L.size cb c nA hA nc hc)(aL:c.Ok)(hr:∀i,c.has (r i))(aT:∀x∈ws,0<=x/\x<=60)(bU:ws.L<=5)(hw:RI w w.L.size A ws) :
  bs D7 41 #[.S (U ⟨cb,0,Y⟩),E6 r,Z A ws.L wc] w λe w'=>∃v,e=.L v/\w'.H (w.L.size+1) 83 2 v (ET c r ws).L (Es (ET c r ws))/\Gr w w':=by
 obtain⟨W0,zM⟩:∃W0:C,W0=w.LK (G #[.int .u8 (r 0),.int .u8 (r 1),.int .u8 (r 2),.int .u8 (r 3),.int .u8 (r 4)] 97):=⟨_,rfl⟩;have zL:Gr w W0:=zM▸(Gr.refl w).LK _;have zF:W0.L.size=w.L.size+1:=by rw[zM];simp
 have aM:F0 W0 W0.L.size cb c nA hA nc hc:=h.on zL;have aN:=AI (uy cb nA hA nc hc c W0 W0.L.size (AK _) aM (by have:=aL.h4;omega));have bF:=AI aM;have bG:Hid (∀i,i<5->W0.S ⟨w.L.size,i,Y⟩=U (.int .u8 (r i:Nat))):=AI λi hi=>by
  rw[zM,AM _ _ _ _ (by simp)]
  match i,hi with
  |0,_=>rfl
  |1,_=>rfl
  |2,_=>rfl
  |3,_=>rfl
  |4,_=>rfl
 have bH:=AI (hw.gr (AK _) zL);have HW:=AI zM;have aU:=AI zL;have aC:=AI aL;have HR:=AI hr;have bI:=AI aT;clear zM zL aM h aL hr aT hw;unfold E6;go_enter Sq.func41,Tryz.ntmps41;go_wp2_with fail;rw[<-HW.out];refine aN.out.LT ?_;rintro e w1 ⟨v1,xs,rfl,zl,zJ,aV⟩;have h1:=aC.out.h1;obtain⟨g,cap,rfl,zQ⟩:∃g cap,v1=.slice (U ⟨g,0,Y⟩) c.D8.L cap/\W0.L.size<=g:=by
  obtain⟨_,h0⟩|⟨g,cap,cur,rfl,h2,_⟩:=zl.2
  .omega
  .exact⟨g,cap,rfl,h2⟩
 have hoW:NY w1 g (Eu c r ws 0).1:=by
  have hl0:(Eu c r ws 0).1=c.D8.map (·.heads):=rfl;have hcell:=zl.cells (g:=g) rfl;have e5:∀i x,(Eu c r ws 0).1[i]?=U x->∃A m,x=(c.h i).heads/\∀j,j<5->∀u,(Iu (c.h i) A m)[j]?=U u->w1.S ⟨g,i*5+j,Y⟩=U u:=λi x hx=>by
   rw[hl0] at hx;have aO:i<c.D8.L:=by have:=(Be.1 hx).1;simpa using this
   obtain⟨A',m,hh⟩:=aV i aO;refine⟨A',m,?_,λj hj u hu=>?_⟩
   .rw[Bv,AL aO] at hx;cases hx;unfold Ek.h;rw[AL aO];rfl
   .have:=hcell (i*5+j) u ((hh j hj).trans hu);have e:(⟨g,0,Y⟩:bq).add (i*5+j)=⟨g,0+(i*5+j),Y⟩:=by unfold h9;split<;>simp_all
    rw[e,Bd] at this;exact this
  refine⟨(zl.lt g rfl).2,λi x hx=>?_,λo=>?_,λi x hx=>?_⟩
  .obtain⟨A',m,rfl,hc⟩:=e5 i x hx;exact hc 4 (by omega) _ rfl
  .obtain⟨hb,_⟩|⟨g2,bT,cur,e2,_,hb,_⟩:=zl.2
   .cases hb
   .have e3:g=g2:=by injection e2 with a;injection a with a;injection a
    subst e3;unfold cf;rw[hb];simp
  .obtain⟨A',m,rfl,hc⟩:=e5 i x hx;exact⟨_,_,_,_,_,_,hc 0 (by omega) _ rfl,hc 1 (by omega) _ rfl,hc 2 (by omega) _ rfl,hc 3 (by omega) _ rfl⟩
 have HOW:=AI hoW;have bJ:=AI zJ;have b6:=(zl.lt g rfl).2;have zE:=zJ.size;clear zl zJ aV hoW aN;go_wp2;go_loopw [7,16] (λv i wr=>∃k:Nat,k<=ws.L/\i=J I k/\Gr W0 wr/\NY wr g (Eu c r ws k).1/\wr.H w1.L.size 83 2 v (Eu c r ws k).2.L (Es (Eu c r ws k).2)/\w1.L.size<=wr.L.size) (λ_ i _=>ws.L-(O i).L)
 case atStart=>exact⟨0,by omega,rfl,bJ.out,HOW.out,Bs _ _ _ _,AK _⟩
 case round =>
  obtain⟨wq,rfl⟩:∃wq,wq=wr:=⟨_,rfl⟩;obtain⟨k,hk,rfl,zV,hoq,zl,hzq⟩:=hrel;have aW:=AI zV;have HOQ:=AI hoq;have aX:=AI zl;by_cases zY:k<ws.L
  .obtain⟨b,o,rfl,hb,zP⟩:=(bH.out.gr (by omega) zV).at_ zY;have Im:wq.S ⟨w.L.size,k,Y⟩=U (.int .u8 (r k:Nat)):=(zV.cell (by show w.L.size<_;omega)).trans (bG.out k (by omega));have HD:=AI (rh cb c (r k) wq (bF.out.on zV) aC.out.h4 aC.out.FL (HR.out k));have hdb:=Nh c (HR.out k) aC.out.FL (c.Ku (r k)).L;rw[CW,<-DR] at hdb;have hx:=bI.out _ (GA ws k zY);have aD:=AI (show Hm c r ws k=(ws[k]?.LH 0-c.FL (r k)).L from rfl)
   obtain⟨T,hT⟩:∃T,T=Hm c r ws k:=⟨_,rfl⟩;rw[<-hT] at aD;have HTT:=AI hT;have aP:=Hf.all aC.out (r:=r) (ws:=ws) (AK _) k hk;have bK:=AI aP;generalize c.FL (r k)=D at HD hdb aD;generalize ws[k]?.LH 0=x at zP hx aD;have hmax:(max 0 (x-D):Int)=(T:Int):=by rw[aD.out];omega
   have hmax':(if(x-D)<0 then(0:Int) else x-D)=(T:Int):=by rw[aD.out];split<;>omega
   have hT60:T<=60:=by rw[aD.out];omega
   clear zV hoq zl hT aP;go_wp2_with fail;refine HD.out.LT ?_;rintro e w2 ⟨rfl,zI⟩;have bL:=AI (aW.out.trans zI);have b7:=zI;have zD:=zI.size;have b8:=AI (HOQ.out.keep zI.size (zI.Li.LE g HOQ.out.lt));have b9:=AI (ap aX.out λq _ hl=>zI.Li.LE q hl);have hgT:(T:Int)<=60:=by omega
   clear zI b7 HD;go_wp2;go_loopw [7,29] (λv i wr=>∃m:Nat,m<=T/\i=J I m/\Gr W0 wr/\NY wr g (EP k (Eu c r ws k) m).1/\wr.H w1.L.size 83 2 v (EP k (Eu c r ws k) m).2.L (Es (EP k (Eu c r ws k) m).2)/\w1.L.size<=wr.L.size) (λ_ i _=>T-(O i).L)
   case atStart=>exact⟨0,by omega,rfl,bL.out,b8.out,b9.out,by omega⟩
   case round =>
    obtain⟨m,hm,rfl,aY,hoi,aQ,bM⟩:=hrel;have aR:=AI aY;have a8:=AI hoi;have aA:=AI aQ;clear aY hoi aQ;by_cases hlm:m<T
    .have Fa:=bK.out.it (d:=k) zY m;have aF:=AI Fa;obtain⟨S,hS⟩:∃S,S=EP k (Eu c r ws k) m:=⟨_,rfl⟩;have aZ:Hid (EP k (Eu c r ws k) (m+1)=FX k S):=AI (by rw[hS];rfl);rw[<-hS] at a8 aA aF;have HST:=AI (λh:ER S.1 S.1.L<0=>(od (c:=c) (r:=r) (ws:=ws) (k:=k) (m:=m) zY (by rw[<-HTT.out];omega) (by rw[<-hS];exact h)).trans (by rw[<-hS]));have a6:=AI (yJ (U ⟨g,0,Y⟩) cap S.1 wr wr.L.size (AK _) a8.out.Sj (by rw[aF.out.len];have:=aC.out.h4;omega))
     have zk:=aF.out.len
     have bA:=AI (show S.2.L<=160 by
      have h1:=Hx 0 40 _ aF.out.LK;have h2:=aF.out.count
      omega)
     have b5:=jo S.1 S.1.L;have a7:Hid (FX k S=if ER S.1 S.1.L<0 then S else(S.1.Lo (ER S.1 S.1.L).L (S.1[(ER S.1 S.1.L).L]?.LH 0-1),S.2++[((k:Int),ER S.1 S.1.L)])):=AI rfl;rw[zk] at a6 HST a7 b5;have hS':=AI hS;clear hS Fa;generalize ER S.1 c.D8.L=q at a6 HST a7 b5;by_cases hq:q<0
     .have bN:=AI (HST.out hq);have hqd:bh (q<0)=true:=by simpa using hq
      clear HST a7;go_wp2_with fail;refine a6.out.LT ?_;rintro e w3 ⟨rfl,zH⟩;have aS:=AI zH;have aB:=AI (ap aA.out λq _ hl=>zH.Li.LE q hl);clear zH a6;go_wp2;go_ret;refine⟨_,rfl,?_,aU.out.trans (aR.out.trans aS.out)⟩;rw[bN.out];exact FD aB.out (by omega)
     .obtain⟨j,rfl⟩:∃j:Nat,q=j:=⟨q.L,by omega⟩;have aJ:=AI (aZ.out.trans (a7.out.trans (AN hq)));rw[Cu] at aJ;have aH:j<S.1.L:=by omega
      have bB:=aF.out.LK _ (GA S.1 j aH);have HLF:=AI (a8.out.left j _ (AL aH));have hqd:bh ((j:Int)<0)=false:=by simp
      clear HST a7 aZ hq;go_wp2_with fail;refine a6.out.LT ?_;rintro e w3 ⟨rfl,zH⟩;have aS:=AI zH;have hb3:=zH.Li.LE g a8.out.lt;have aB:=AI (ap aA.out λq _ hl=>zH.Li.LE q hl);have aG:=AI (a8.out.keep zH.size hb3);have hz3:=zH.size;have hcell:w3.S ⟨g,j*5+4,Y⟩=U (J I (S.1[j]?.LH 0)):=by
       rw[AL aH];exact aG.out.left j _ (AL aH)
      have bV:=aG.out.free (j*5+4);have HX:Hid (NY (w3.LH ⟨g,j*5+4,Y⟩ (J I (S.1[j]?.LH 0-1))) g (S.1.Lo j (S.1[j]?.LH 0-1))):=AI (aG.out.Lo aH _);generalize S.1[j]?.LH 0=y at bB hcell HX aJ;have hjh:j<c.D8.L:=by omega
      have hglt:g<w3.L.size:=aG.out.lt;have bO:g<w1.L.size:=b6;clear zH a6;go_wp2_with (at_builtin;refine yL rfl _ _ rfl w1.L.size _ _ _ rfl ((ownsRow_setCell_below aB.out (by show g<_;omega) _).LK _) ⟨w3.L.size,0,Y⟩ 1 (J I k) (J I j) rfl ?c1 ?c2 rfl rfl ?c3 ?c4 ?_)
      case c1=>rw[Addr.add_lit,AM _ _ _ _ (by simp)];rfl
      case c2=>rw[Addr.add_lit,AM _ _ _ _ (by simp)];rfl
      case c3=>have:=bA.out;omega
      case c4=>simp;omega
      intro v' w4 hown' hgrow hd;have aI:=hgrow.size;simp only[B6] at aI;have bC:Gr W0 w4:=(((aR.out.trans aS.out).LH (p:=⟨g,j*5+4,Y⟩) (by show _<=g;omega) (J I (y-1))).LK _).Lo hgrow hd λq hq=>by have:=(aB.out.lt q hq).1;omega
      have zU:U g≠_:=cr aB.out bO;have bP:=(hgrow.LE g (by simp[H];omega) zU).trans (heap_alloc_old _ _ (by simp[H];omega));have bD:=AI (HX.out.keep (w':=w4) (by simp[H] at aI ⊢;omega) bP);have bE:=AI bC;have aK:Hid ((EP k (Eu c r ws k) (m+1)).2.L=S.2.L+1/\Es (EP k (Eu c r ws k) (m+1)).2=Es S.2++[J I k,J I j]):=AI (by rw[aJ.out,eU];exact⟨by simp,rfl⟩)
      have bQ:Hid (w4.H w1.L.size 83 2 v' (EP k (Eu c r ws k) (m+1)).2.L (Es (EP k (Eu c r ws k) (m+1)).2)):=AI (by rw[aK.out.1,aK.out.2];exact hown');have HX4:Hid (NY w4 g (EP k (Eu c r ws k) (m+1)).1):=AI (by rw[aJ.out];exact bD.out);have bR:w1.L.size<=w4.L.size:=by simp[H] at aI;omega
      go_wp2;go_roundw
      case rel=>exact⟨m+1,by omega,by go_num,bE.out,HX4.out,bQ.out,bR⟩
      case measure=>simp[Proofs.intOf];omega
    .have hmt:m=T:=by omega
     have HE:Hid (Eu c r ws (k+1)=EP k (Eu c r ws k) m):=AI (by rw[hmt,HTT.out];rfl);rw[<-HE.out] at a8 aA;subst hmt;go_wp2;go_roundw
     case rel=>exact⟨k+1,by omega,by go_num,aR.out,a8.out,aA.out,bM⟩
     case measure=>simp[Proofs.intOf];omega
  .have bS:k=ws.L:=by omega
   subst bS;go_wp2;go_ret;exact⟨_,rfl,FD aX.out (by omega),aU.out.trans aW.out⟩
def Mp {w:C}{base:Nat}{v:bb}{l:List (Int×Int)}(h:w.H base 83 2 v l.L (Es l)):∃A c,v=Z A l.L c/\FA w w.L.size A l:=by
 obtain⟨rfl,h0⟩|⟨g,cap,cur,rfl,_,hg,_⟩:=h.2
 .have:l=[]:=Bp h0;subst this;exact⟨Y,0,rfl,λh=>AS rfl h⟩
 .refine⟨_,cap,rfl,λ_=>⟨g,0,rfl,(AJ.1 hg).1,λi x hx=>?_⟩⟩;have hi:=(Be.1 hx).1;have a6:l[i]?.LH (0,0)=x:=by rw[hx];rfl
  have e:∀j,(⟨g,0,Y⟩:bq).add j=⟨g,0+j,Y⟩:=λj=>by unfold h9;split<;>simp_all
  have h1:=h.cells (g:=g) rfl _ _ (GY hi).1;have h2:=h.cells (g:=g) rfl _ _ (GY hi).2;rw[e,a6] at h1 h2;exact⟨h1,by rw[CT];exact h2⟩
def RsK (w:C)(K:Nat->Prop)(A:Option bq)(l:List (Int×Int)):Prop :=
 l≠[]->∃b o,A=U ⟨b,o,Y⟩/\K b/\∀(i:Nat) (x:Int×Int),l[i]?=U x->w.S ⟨b,o+i*2,Y⟩=U (J I x.1)/\w.S ⟨b,o+i*2+1,Y⟩=U (J I x.2)
def JP {w:C}{base:Nat}{v:bb}{l:List (Int×Int)}(h:w.H base 83 2 v l.L (Es l)):∃A c,v=Z A l.L c/\RsK w (λb=>base<=b/\b<w.L.size) A l:=by
 obtain⟨A,c,rfl,h2⟩:=Mp h;refine⟨A,c,rfl,λhn=>?_⟩;obtain⟨b,o,rfl,hb,hc⟩:=h2 hn;exact⟨b,o,rfl,⟨(h.lt b rfl).1,hb⟩,hc⟩
def Gp {w:C}{base:Nat}{v:bb}{l:List Int}(h:w.H base 3 1 v l.L (l.map (J I))):∃A c,v=Z A l.L c/\Ie w (λb=>base<=b/\b<w.L.size) A l:=by
 obtain⟨A,c,rfl,h2⟩:=Dx h;refine⟨A,c,rfl,λhn=>?_⟩;obtain⟨b,o,rfl,hb,hc⟩:=h2 hn;exact⟨b,o,rfl,⟨(h.lt b rfl).1,hb⟩,hc⟩
def KP (n:Nat)(bl:Nat->Nat)(w w':C):Prop:=w.L.size<=w'.L.size/\∀b,b<w.L.size->(∀h,h<n->bl h≠b)->w'.L[b]?=w.L[b]?
section
variable {n:Nat} {bl:Nat->Nat} {w w' w2:C}
def KP.refl (n:Nat)(bl:Nat->Nat)(w:C):KP n bl w w:=⟨AK _,λ_ _ _=>rfl⟩
def KP.trans (h:KP n bl w w')(k:KP n bl w' w2):KP n bl w w2:=⟨AU h.1 k.1,λb hb hk=>(k.2 b (AO hb h.1) hk).trans (h.2 b hb hk)⟩
def KP.gr (h:Gr w w'):KP n bl w w':=⟨h.size,λb hb _=>h.Li.LE b hb⟩
def KP.Lo {a:Nat}(ha:a<n)(t:Nat)(v:bb):KP n bl w (w.LH ⟨bl a,t,Y⟩ v):=⟨by simp[H],λb _ hk=>by rw[Go.EB.EW];exact AN (λe=>hk a ha e.LH)⟩
def KP.drew (h:KP n bl w w'):KP n bl w w'.drew:=h
def KP.cell (h:KP n bl w w'){b:Nat}(hb:b<w.L.size)(hk:∀h,h<n->bl h≠b)(o:Nat):w'.S ⟨b,o,Y⟩=w.S ⟨b,o,Y⟩:=A7 (h.2 b hb hk)
end
def Fv (p:Int)(r:E2)(ls:List (Int×Int))(k i h t:Nat):Int :=
 Gu p r ls h t k+if(ls[k]?.LH (0,0)).2=t/\h≠t then Kr p (wl (r (ls[k]?.LH (0,0)).1.L)) h i else 0
def j7 (p:Int)(r:E2)(ls:List (Int×Int))(k h t:Nat):Fv p r ls k 0 h t=Gu p r ls h t k:=by unfold Fv Kr;split<;>simp
def lF (p:Int)(r:E2)(ls:List (Int×Int))(k h t:Nat):Fv p r ls k (wl (r (ls[k]?.LH (0,0)).1.L)).L h t=Gu p r ls h t (k+1):=rfl
def Jp (p:Int)(n i:Nat):Int:=p / n+(if(i:Int)<p % n then 1 else 0)
def j8 (p:Int)(r:E2)(ls:List (Int×Int))(k i h t:Nat):Fv p r ls k (i+1) h t =
  Fv p r ls k i h t+if(ls[k]?.LH (0,0)).2=t/\h≠t/\(wl (r (ls[k]?.LH (0,0)).1.L))[i]?.LH 0=h then Jp p (wl (r (ls[k]?.LH (0,0)).1.L)).L i else 0:=by
 unfold Fv Jp;by_cases h1:(ls[k]?.LH (0,0)).2=t/\h≠t
 .rw[AP h1,AP h1];by_cases h2:(wl (r (ls[k]?.LH (0,0)).1.L))[i]?.LH 0=h
  .rw[AP ⟨h1.1,h1.2,h2⟩];show _+(_+if _ then _ else _)=_;rw[AP h2];omega
  .rw[AN (λh=>h2 h.2.2)];show _+(_+if _ then _ else _)=_;rw[AN h2];omega
 .rw[AN h1,AN h1,AN (λh=>h1 ⟨h.1,h.2.1⟩)];omega
def jr {p:Int}(hp:0<=p/\p<=99)(r:E2)(ls:List (Int×Int))(k i h t:Nat):0<=Fv p r ls k i h t/\Fv p r ls k i h t<=400*k+100*i:=by
 have h1:=nk hp r ls h t k;have h2:=nj hp (wl (r (ls[k]?.LH (0,0)).1.L)) h i;unfold Fv;split<;>omega
def ms {w:C}{ops:Array ik}{rest:List ik}{o:ik}{a:Act}{Q:Exit->Act->C->Prop}(hgd:o.guard=Y)(s x:Operand)(ho:o.op=.call { callee:=.builtin .append,args:=#[s,x],argTypes:=#[26,26] })
  (base:Nat) (v:bb) (n:Nat) (xs:List bb) (hs:a.eval s=v) (zl:w.H base 22 1 v n xs) (ad:bq) (c:Nat) (u:bb) (hx:a.eval x=.slice (U ad) 1 c) (hc:w.S (ad.add 0)=U u) (h1:u.oneCell'=ea)
  (hn:n<=1048576) (hbase:base<=w.L.size) (h:∀v' w',w'.H base 22 1 v' (n+1) (xs++[u])->w.grownBy w' v.L->w.drawn<=w'.drawn->wpList D7 ops Q rest (a.put o.L v') w'):wpList D7 ops Q (o::rest) a w:=by
 obtain⟨i0,hi,zF,zE,zD⟩:=eb DH;refine EL hgd s x 26 ho base 22 i0 _ 1 24 ((Sq.LH 26).trans Tryz.underlying26) hi zF zE zD rfl (by decide) v n xs hs zl ad 1 c [u] hx rfl (λj u hj=>?_) (λu' hu=>?_) (by unfold maxLen;omega) (by omega) hbase h
 .match j,hj with
  |0,hj=>cases hj;exact hc
 .simp only[AT,AQ,or_false] at hu;subst hu;exact h1
def ss (nA hA gA rA:Option bq)(nc hc gc rc:Nat)(c:Ek)(ls:List (List Int))(rs:List (Int×Int))(p:Int)(w:C)(B:Nat)(hB:B<=w.L.size)(hn:RI w B nA c.D9)(hh:Fe w B hA c.D8)(hg:E7 w B gA ls)(hr:FA w B rA rs)
  (Gg:c.D9.L<=4611686018427387904) (zC:c.D8.L<=4611686018427387904) (Fa:∀h∈c.D8,h.off.L<=4611686018427387904) (G4:ls.L<=4611686018427387904) (zq:∀x∈ls,x.L<=4611686018427387904) (Io:rs.L<=4611686018427387904) (Im:rs.L<=rc)
  (hF:Et c ls=0) (hR:bE c.D9.L rs=0) (hp:0<=p/\p<=99) :
  bs D7 22 #[En nA hA c nc hc,Z gA ls.L gc,Z rA rs.L rc,J I p] w λe w'=>Gr w w'/\∃A k,e=.L (.tuple #[Z A c.D8.L k,J I 0]) /\
   E7 w' w'.L.size A (GX c (Ec ls) p (Er c.D9.L rs rs.L)):=by
 unfold En;obtain⟨W0,zM⟩:∃W0:C,W0=w.LK (G #[Z nA c.D9.L nc,Z hA c.D8.L hc] 25):=⟨_,rfl⟩;have zL:Gr w W0:=zM▸(Gr.refl w).LK _;have zF:W0.L.size=w.L.size+1:=by rw[zM];simp
 have HW:=AI zM;have aQ:=jp nA hA gA rA nc hc gc rc c ls rs W0 B (by omega) (hn.gr hB zL) (hh.keep λb o hb=>zL.cell (AO hb hB)) (hg.gr hB zL) (hr.gr hB zL) Gg zC Fa G4 zq Io Im hF hR;unfold En at aQ;have bB:=AI aQ;have c4:=AI zL;have bC:Hid (W0.S ⟨w.L.size,1,Y⟩=U (Z hA c.D8.L hc)):=AI (by rw[zM,AM _ _ _ _ rfl];rfl);have aR:=AI hF
 have a8:=AI (Ek.Ok.of (show Ex c=0 by
  have:=hF;unfold Et at this;split at this
  .exact AS this (by assumption)
  .simpa using ‹¬Ex c≠0›))
 have c5:=AI (eN hR);have cA:Hid (∀W,bs D7 45 #[J I p,J I 0,J I 99] W λe w'=>e=.L (.bool ea)/\W=w'):=AI λW=>by
  have:FM p 0 99=true:=by simp[FM];omega
  rw[<-this];exact bP _ _ _ W
 clear zM zL aQ hn hh hg hr zq Fa hF hR;go_enter Sq.func22,Tryz.ntmps22;go_wp2_with fail;rw[<-HW.out];refine bB.out.LT ?_;rintro e w1 ⟨zJ,cb,A,ka,rfl,bD,bF⟩;obtain⟨W1,zt⟩:∃W1:C,W1=w1.LK (G #[.int .u8 (Ec ls 0),.int .u8 (Ec ls 1),.int .u8 (Ec ls 2),.int .u8 (Ec ls 3),.int .u8 (Ec ls 4)] 77):=⟨_,rfl⟩;have aF:Gr w1 W1:=zt▸(Gr.refl w1).LK _;have zE:W1.L.size=w1.L.size+1:=by rw[zt];simp
 have hzz:=zJ.size;have bG:=AI (zJ.trans aF);have cB:=AI (bD.on aF);have cC:=AI (bF.gr (AK _) aF);have aS:Hid (∀i,i<5->W1.S ⟨w1.L.size,i,Y⟩=U (.int .u8 (Ec ls i:Nat))):=AI λi hi=>by
  rw[zt,AM _ _ _ _ (by simp)]
  match i,hi with
  |0,_=>rfl
  |1,_=>rfl
  |2,_=>rfl
  |3,_=>rfl
  |4,_=>rfl
 have zu:w1.S ⟨w.L.size,1,Y⟩=U (Z hA c.D8.L hc):=(zJ.cell (by show w.L.size<_;omega)).trans bC.out;have d5:w.L.size<w1.L.size:=by omega
 have d6:=a8.out.h4;have d7:=a8.out.h1;have d8:=λw=>da c.D8.L w (by omega);have aT:=AI zt;clear zJ bD bF aF bB zt;unfold E6;go_wp2_with fail;rw[<-aT.out];refine(cA.out _).LT ?_;rintro e w' ⟨rfl,rfl⟩;rw[aT.out];go_wp2;rw[<-aT.out];have hwl2:w.L.size<W1.L.size/\w1.L.size<W1.L.size:=by omega
 have d9:=AI zE;clear zu zE;have zu:=AI ((bG.out.cell (p:=⟨w.L.size,1,Y⟩) (by show w.L.size<_;omega)).trans bC.out);go_loopw [14,39] (λv i wr=>∃k:Nat,k<=c.D8.L/\i=J I k/\Gr W1 wr/\∃bl,Jg wr W1.L.size v c.D8.L k (λ_ _=>0) bl) (λ_ i _=>c.D8.L-(O i).L)
 case atStart=>exact⟨0,by omega,rfl,.refl _,λ_=>0,.nil _ _ _ _ _⟩
 case round =>
  obtain⟨k,hk,rfl,zV,bl,a7⟩:=hrel;have aA:=AI zV;have HT:=AI a7;have zu:=(zV.cell (p:=⟨w.L.size,1,Y⟩) (by show w.L.size<_;omega)).trans zu.out;have dA:=zV.size;clear zV a7;by_cases zY:k<c.D8.L
  .obtain⟨xs,hrow,bH⟩:=HT.out.row;have cD:=AI bH;have bW:=AI hrow;clear bH;have cZ:w.L.size<wr.L.size:=by omega
   go_wp2_with (at_builtin;refine ms rfl _ _ rfl W1.L.size _ _ _ rfl ((hrow.LK _).LK _) ⟨wr.L.size+1,0,Y⟩ 1 (.slice (U ⟨wr.L.size,0,Y⟩) c.D8.L c.D8.L) rfl ?c1 rfl ?c2 ?c3 ?_)
   case c1=>rw[Addr.add_lit,AM _ _ _ _ (by simp)];rfl
   case c2=>omega
   case c3=>simp;omega
   intro v' w3 hown' hgrow hd;have aB:=AI (((aA.out.LK _).LK _).Lo hgrow hd λq hq=>(hrow.lt q hq).1);have aU:=AI (HT.out.LE (q:=wr.L.size) bW.out cD.out (by omega) (AK _) (λb hb=>(aa _ _ (by simp;omega)).trans (aa _ _ hb)) ((aa _ _ (by simp)).trans (heap_alloc_new _ _)) (λt ht=>dx _ _ ht) (by simp;omega) hgrow hown');clear hown' hgrow hd hrow;go_wp2;go_roundw
   case rel=>exact⟨k+1,by omega,by go_num,aB.out,_,aU.out⟩
   case measure=>simp[Proofs.intOf];omega
  .have aV:k=c.D8.L:=by omega
   subst aV;obtain⟨g,hv,zQ,_⟩:∃g,(∃cap,u14=.slice (U ⟨g,0,Y⟩) c.D8.L cap)/\g<wr.L.size/\True:=by
    obtain⟨xs,h1,h2⟩:=HT.out.row;obtain⟨_,h0⟩|⟨g,cap,cur,hv,_,k2,_⟩:=h1.2
    .omega
    .exact⟨g,⟨cap,hv⟩,(AJ.1 k2).1,trivial⟩
   obtain⟨cap,rfl⟩:=hv;have bI:∀x∈Er c.D9.L rs rs.L,0<=x/\x<=60:=λx hx=>by
    obtain⟨j,_,rfl⟩:=Bu.1 hx;exact eu c5.out _ _ (AK _)
   have aG:=jq cb nA hA A nc hc ka c (Ec ls) (Er c.D9.L rs rs.L) wr (cB.out.on aA.out) a8.out (eM aR.out) bI (by rw[aI];exact a8.out.n5) ((cC.out.gr (by omega) aA.out).more (by omega));rw[aI] at aG;have cE:=cX a8.out (Ec ls) (Er c.D9.L rs rs.L);have bJ:Hid (∀q∈ET c (Ec ls) (Er c.D9.L rs rs.L),0<=q.1/\q.1<c.D9.L/\0<=q.2/\q.2<c.D8.L):=AI λq hq=>by
    have:=(dz a8.out (Ec ls) (Er c.D9.L rs rs.L)).night q hq
    rwa [aI] at this
   have bK:Hid (GX c (Ec ls) p (Er c.D9.L rs rs.L)=Ld c.D8.L λh t=>Gu p (Ec ls) (ET c (Ec ls) (Er c.D9.L rs rs.L)) h t (ET c (Ec ls) (Er c.D9.L rs rs.L)).L):=AI rfl;obtain⟨L,hL⟩:∃L,L=ET c (Ec ls) (Er c.D9.L rs rs.L):=⟨_,rfl⟩;rw[<-hL] at aG cE bJ bK;clear hL;have aL:=AI aG
   have Im:∀i,i<5->wr.S ⟨w1.L.size,i,Y⟩=U (.int .u8 (Ec ls i:Nat)):=λi hi=>(aA.out.cell (by show w1.L.size<_;omega)).trans (aS.out i hi);obtain⟨a0,a1,a2,a3,a4⟩:=IJ Im;clear aG Im bI;unfold E6 at aL;go_wp2_with fail;refine aL.out.LT ?_;rintro e w2 ⟨v,rfl,hown2,zI⟩;obtain⟨A2,k2,rfl,bL⟩:=JP hown2;have cF:=AI bL;have cG:=AI (aA.out.trans zI);have cH:=AI ((HT.out.gr zI).congr (M':=λh t=>Gu p (Ec ls) L h t 0) λa t _ _=>rfl)
   have aW:Hid (∀h,h<c.D8.L->bl h<wr.L.size):=AI λh hh=>(HT.out.at_ hh hh).2.1;have zD:=zI.size;have d3:=AI (λi hi=>(zI.cell (p:=⟨w1.L.size,i,Y⟩) (by show w1.L.size<_;omega)).trans (((aA.out.cell (p:=⟨w1.L.size,i,Y⟩) (by show w1.L.size<_;omega)).trans (aS.out i hi))));clear hown2 zI bL a0 a1 a2 a3 a4 aL;go_wp2;go_loopw [54] (λi wr=>∃k:Nat,k<=L.L/\i=J I k/\KP c.D8.L bl w2 wr/\Gr W1 wr/\Jg wr W1.L.size (.slice (U ⟨g,0,Y⟩) c.D8.L cap) c.D8.L c.D8.L (λh t=>Gu p (Ec ls) L h t k) bl) (λi _=>L.L-(O i).L)
   case atStart=>exact⟨0,by omega,rfl,.refl _ _ _,cG.out,cH.out⟩
   case round =>
    obtain⟨wq,rfl⟩:∃wq,wq=wr:=⟨_,rfl⟩;obtain⟨k,hk,rfl,a6,zV,a7⟩:=hrel;have cI:=AI a6;have bM:=AI zV;have HTQ:=AI a7;have hzq:=a6.1;by_cases hlk:k<L.L
    .have aX:=bJ.out _ (BN hlk);have aY:L[k]?.LH (0,0)=L[k]:=by rw[AL hlk];rfl
     obtain⟨b,o,rfl,bN,bO⟩:=cF.out (λe=>by rw[e] at hlk;simp at hlk);obtain⟨h1,h2⟩:=bO k _ (AL hlk);have zU:∀h,h<c.D8.L->bl h≠b:=λh hh e=>by have:=aW.out h hh;omega
     have d1:=(a6.cell bN.2 zU (o+k*2)).trans h1;have d2:=(a6.cell bN.2 zU (o+k*2+1)).trans h2;rw[<-aY] at aX d1 d2;have cJ:Hid (∀a t,Fv p (Ec ls) L k 0 a t=Gu p (Ec ls) L a t k):=AI λa t=>j7 p (Ec ls) L k a t;have aC:Hid (∀a t,Fv p (Ec ls) L k (wl (Ec ls (L[k]?.LH (0,0)).1.L)).L a t=Gu p (Ec ls) L a t (k+1)):=AI λa t=>lF p (Ec ls) L k a t;have aJ:Hid (∀i a t,Fv p (Ec ls) L k (i+1) a t=Fv p (Ec ls) L k i a t+if(L[k]?.LH (0,0)).2=(t:Int)/\a≠t/\(wl (Ec ls (L[k]?.LH (0,0)).1.L))[i]?.LH 0=(a:Int) then Jp p (wl (Ec ls (L[k]?.LH (0,0)).1.L)).L i else 0):=AI λi a t=>j8 p (Ec ls) L k i a t
     generalize L[k]?.LH (0,0)=q at aX d1 d2 aC aJ;obtain⟨q1,q2⟩:=q;obtain⟨qn,rfl⟩:∃j:Nat,q1=j:=⟨q1.L,by omega⟩;obtain⟨qf,rfl⟩:∃j:Nat,q2=j:=⟨q2.L,by omega⟩;dsimp only at aX d1 d2 aC aJ;rw[Cu] at aC aJ;have dB:=a8.out.n5;have cK:qn<5:=by omega
     have hqf:qf<c.D8.L:=by omega
     have cL:wq.S ⟨w1.L.size,qn,Y⟩=U (.int .u8 (Ec ls qn:Nat)):=(zV.cell (by show w1.L.size<_;omega)).trans (aS.out qn cK);have aZ:Ec ls qn<16:=Dz a8.out.h4 (eM aR.out qn);have hxh:Ec ls qn<2 ^ c.D8.L:=eM aR.out qn;generalize Ec ls qn=x at cL aZ hxh aC aJ;obtain⟨W2,zm⟩:∃W2:C,W2=wq.LK (G #[J I (qn:Int),J I (qf:Int)] 83):=⟨_,rfl⟩
     have aN:=AI (gY x W2 aZ);have hwq1:w1.L.size<wq.L.size:=by omega
     have cM:Hid (W2.S ⟨wq.L.size,1,Y⟩=U (J I (qf:Int))):=AI (by rw[zm,AM _ _ _ _ rfl];rfl);have bX:Hid (Gr wq W2):=AI (zm▸(Gr.refl wq).LK _);have bQ:Hid (W2.L.size=wq.L.size+1):=AI (by rw[zm];simp);have cN:=AI zm;clear a6 zV a7 bO h1 h2 aY zm;go_wp2_with fail;rw[<-cN.out];refine aN.out.LT ?_;rintro e w3 ⟨v3,rfl,aO,zH⟩;obtain⟨A3,k3,rfl,bR⟩:=Gp aO
     have cO:=AI bR;have aB:=AI (bX.out.trans zH);have aU:=AI ((HTQ.out.gr aB.out).congr (M':=λa t=>Fv p (Ec ls) L k 0 a t) λa t _ _=>(cJ.out a t).LH);have bY:=AI ((zH.cell (p:=⟨wq.L.size,1,Y⟩) (by show wq.L.size<_;have:=bQ.out;omega)).trans cM.out);have hz3:=aB.out.size;have d4:wq.L.size<W2.L.size:=by have:=bQ.out;omega
     have hz32:=zH.size;clear aO zH bR aN d1 d2;go_wp2;go_loopw [65] (λi wr=>∃j:Nat,j<=(wl x).L/\i=J I j/\KP c.D8.L bl w3 wr/\Gr W1 wr/\Jg wr W1.L.size (.slice (U ⟨g,0,Y⟩) c.D8.L cap) c.D8.L c.D8.L (λa t=>Fv p (Ec ls) L k j a t) bl) (λi _=>(wl x).L-(O i).L)
     case atStart=>exact⟨0,by omega,rfl,.refl _ _ _,bM.out.trans aB.out,aU.out⟩
     case round =>
      obtain⟨j,hj,rfl,a6,bS,bT⟩:=hrel;have b5:=AI a6;have b6:=AI bS;have aK:=AI bT;have dC:=a6.1;by_cases aD:j<(wl x).L
      .obtain⟨b3,o3,rfl,bZ,hc3⟩:=cO.out (λe=>by rw[e] at aD;simp at aD);obtain⟨a,ha,dD,hab⟩:=MH (BN aD);have aP:a<c.D8.L:=mu hxh hab;have cP:=(a6.cell bZ.2 (λh hh e=>by have:=aW.out h hh;omega) (o3+j)).trans (hc3 j _ (AL aD));rw[ha] at cP;have cQ:Hid ((wl x)[j]?.LH 0=(a:Int)):=AI (by rw[AL aD];exact ha);have dE:=(a6.cell (b:=wq.L.size) (by omega) (λh hh e=>by have:=aW.out h hh;omega) 1).trans bY.out
       have b7:Hid (∀a' t,Fv p (Ec ls) L k (j+1) a' t=Fv p (Ec ls) L k j a' t+if(qf:Int)=(t:Int)/\a'≠t/\(a:Int)=(a':Int) then Jp p (wl x).L j else 0):=AI λa' t=>by rw[aJ.out,cQ.out]
       have c0:=dH x;have b8:Hid (Jp p (wl x).L j=p / ((wl x).L:Int)+if(j:Int)<p % ((wl x).L:Int) then 1 else 0):=AI rfl;clear ha;generalize (wl x).L=N at aD c0 b8 b7 aC hj ⊢;clear a6 bS bT;have dF:0<=p / (N:Int):=Dn hp.1 (by omega);have hq2:p / (N:Int)<=99:=Int.le_trans (Int.ediv_le_self _ hp.1) hp.2;obtain⟨g',eg,_,hrow⟩:=aK.out.LK aP;have cR:g'=g:=by injection eg with e;injection e with e;exact e.LH
       subst cR;obtain⟨cS,cT,bU,cU⟩:=aK.out.at_ aP hqf;have cV:=jr hp (Ec ls) L k j a qf;by_cases bV:a=qf
       .have zU:((a:Int) != (qf:Int))=false:=by simp[bV]
        have HT5:=AI (aK.out.congr (M':=λa t=>Fv p (Ec ls) L k (j+1) a t) λa' t _ _=>by rw[b7.out,AN (by omega)];simp);clear hrow bU cU;by_cases aM:(j:Int)<p % (N:Int)
        all_goals
         go_wp2;go_roundw
         case rel=>exact⟨j+1,by omega,by go_num,b5.out,b6.out,HT5.out⟩
         case measure=>simp[Proofs.intOf];omega
       .have zU:((a:Int) != (qf:Int))=true:=by simp;omega
        have aH:Hid (∀y:Int,y=Jp p N j->Jg (wr.LH ⟨bl a,qf,Y⟩ (J I (Fv p (Ec ls) L k j a qf+y))) W1.L.size (.slice (U ⟨g',0,Y⟩) c.D8.L cap) c.D8.L c.D8.L (λa t=>Fv p (Ec ls) L k (j+1) a t) bl):=AI λy hy=>aK.out.Lo aP hqf _ λa' t' _ _=>by
         rw[b7.out];by_cases e:a'=a/\t'=qf
         .obtain⟨rfl,rfl⟩:=e;rw[AP ⟨rfl,bV,rfl⟩,AP ⟨rfl,rfl⟩,hy]
         .rw[AN (λh=>e (by omega)),AN e];omega
        have b9:=AI (λv=>b5.out.trans (KP.Lo (w:=wr) aP qf v));have bA:=AI (λv=>b6.out.LH (p:=⟨bl a,qf,Y⟩) cS v);have hblw:=cT;generalize Fv p (Ec ls) L k j a qf=M0 at bU cV aH;by_cases aM:(j:Int)<p % (N:Int)
        .have HY:=AI (aH.out (p / (N:Int)+1) (by rw[b8.out,AP aM]));go_wp2;go_region
         all_goals
          go_wp2;go_roundw
          case rel=>exact⟨j+1,by omega,by go_num,(b9.out _).drew,(bA.out _).drew,HY.out.drew⟩
          case measure=>simp[Proofs.intOf];omega
        .have HY:=AI (aH.out (p / (N:Int)) (by rw[b8.out,AN aM];omega));go_wp2;go_region
         all_goals
          go_wp2;go_roundw
          case rel=>exact⟨j+1,by omega,by go_num,(b9.out _).drew,(bA.out _).drew,HY.out.drew⟩
          case measure=>simp[Proofs.intOf];omega
      .have cW:j=(wl x).L:=by omega
       subst cW;have HT6:=AI (aK.out.congr (M':=λa t=>Gu p (Ec ls) L a t (k+1)) λa' t _ _=>aC.out a' t);go_wp2;go_roundw
       case rel=>exact⟨k+1,by omega,by go_num,cI.out.trans ((KP.gr aB.out).trans b5.out),b6.out,HT6.out⟩
       case measure=>simp[Proofs.intOf];omega
    .have aV:k=L.L:=by omega
     subst aV;have cY:=AI (HTQ.out.LH);clear a6 zV a7;go_wp2;go_ret2;exact⟨c4.out.trans (bG.out.trans bM.out),_,_,rfl,by rw[bK.out];exact cY.out⟩
def Jd (M:List (List Int))(k i j:Nat):Int:=Hg M k j-(if j=k then(M[k]?.LH []).LE else 0)+if j<i then(M[k]?.LH [])[j]?.LH 0 else 0
def nu (M:List (List Int))(k i j:Nat)(h:j<i):Jd M k i j=Hg M (k+1) j:=by
 show _+(if _ then _ else _)=_;rw[AP h];rfl
def su (M:List (List Int))(k j:Nat):Jd M k 0 j=Hg M k j-if j=k then(M[k]?.LH []).LE else 0:=by
 unfold Jd;generalize Hg M k j-(if j=k then(M[k]?.LH []).LE else 0)=a;rw[AN (BI j)];omega
def sv (M:List (List Int))(k j t:Nat):Jd M k (j+1) t=Jd M k j t+if t=j then(M[k]?.LH [])[j]?.LH 0 else 0:=by
 unfold Jd;generalize Hg M k t-(if t=k then(M[k]?.LH []).LE else 0)=a;by_cases e:t=j
 .subst e;rw[AP (by omega),AN (by omega),AP rfl];omega
 .by_cases e2:t<j
  .rw[AP (by omega),AP e2,AN e];omega
  .rw[AN (by omega),AN e2,AN e];omega
def sx (M:List (List Int))(k j:Nat):Jd M k j j=Hg M k j-if j=k then(M[k]?.LH []).LE else 0:=by
 unfold Jd;generalize Hg M k j-(if j=k then(M[k]?.LH []).LE else 0)=a;rw[AN (by omega)];omega
structure JF (M:List (List Int)):Prop where
 size:M.L<=4
 rows:∀l∈M,l.L=M.L/\∀x∈l,0<=x/\x<=65536
def JF.row {M:List (List Int)}(h:JF M){k:Nat}(hk:k<M.L):(M[k]?.LH []).L=M.L/\∀x∈M[k]?.LH [],0<=x/\x<=65536:=h.rows _ (gI M k hk)
def JF.at_ {M:List (List Int)}(h:JF M){k:Nat}(hk:k<M.L)(j:Nat):0<=(M[k]?.LH [])[j]?.LH 0/\(M[k]?.LH [])[j]?.LH 0<=65536:=by
 obtain hj|hj:=BV j (M[k]?.LH []).L
 .exact(h.row hk).2 _ (GA _ j hj)
 .rw[CF hj];simp
def JF.LE {M:List (List Int)}(h:JF M){k:Nat}(hk:k<M.L):0<=(M[k]?.LH []).LE/\(M[k]?.LH []).LE<=262144:=by
 have h1:=Hx 0 65536 _ (h.row hk).2;have h2:=(h.row hk).1;have h3:=h.size;omega
def kU {M:List (List Int)}(h:JF M)(k j:Nat)(hk:k<=M.L):-(262144*k)<=Hg M k j/\Hg M k j<=65536*k:=by
 induction k with
 |zero=>simp[Hg]
 |succ k ih =>
  have h1:=ih (by omega);have h2:=h.at_ (show k<M.L by omega) j;have h3:=h.LE (show k<M.L by omega);unfold Hg;split<;>omega
def j9 {c:Ek}(hc:c.Ok)(r:E2){p:Int}(hp:0<=p/\p<=99)(ws:List Int):JF (GX c r p ws):=by
 have hl:(GX c r p ws).L=c.D8.L:=cQ _ _;refine⟨by rw[hl];exact hc.h4,λl hm=>?_⟩;rw[hl];simp only[GX,Ld,Bu,BQ] at hm;obtain⟨a,ha,rfl⟩:=hm;refine⟨by simp,λx hx=>?_⟩;simp only[Bu,BQ] at hx;obtain⟨t,_,rfl⟩:=hx;have h1:=nk hp r (ET c r ws) a t (ET c r ws).L;have h2:=cX hc r ws;omega
def kg (nA hA gA rA:Option bq)(nc hc gc rc:Nat)(c:Ek)(ls:List (List Int))(rs:List (Int×Int))(p:Int)(w:C)(B:Nat)(hB:B<=w.L.size)(hn:RI w B nA c.D9)(hh:Fe w B hA c.D8)(hg:E7 w B gA ls)(hr:FA w B rA rs)
  (Gg:c.D9.L<=4611686018427387904) (zC:c.D8.L<=4611686018427387904) (Fa:∀h∈c.D8,h.off.L<=4611686018427387904) (G4:ls.L<=4611686018427387904) (zq:∀x∈ls,x.L<=4611686018427387904) (Io:rs.L<=4611686018427387904) (Im:rs.L<=rc)
  (hF:Et c ls=0) (hR:bE c.D9.L rs=0) (hp:0<=p/\p<=99) :
  bs D7 20 #[En nA hA c nc hc,Z gA ls.L gc,Z rA rs.L rc,J I p] w λe w'=>Gr w w'/\∃A k,e=.L (.tuple #[Z A c.D8.L k,J I 0]) /\
   RI w' w'.L.size A (Kh (GX c (Ec ls) p (Er c.D9.L rs rs.L))):=by
 unfold En;obtain⟨W0,zM⟩:∃W0:C,W0=w.LK (G #[Z nA c.D9.L nc,Z hA c.D8.L hc] 25):=⟨_,rfl⟩;have zL:Gr w W0:=zM▸(Gr.refl w).LK _;have zF:W0.L.size=w.L.size+1:=by rw[zM];simp
 have HW:=AI zM;have how:=ss nA hA gA rA nc hc gc rc c ls rs p W0 B (by omega) (hn.gr hB zL) (hh.keep λb o hb=>zL.cell (AO hb hB)) (hg.gr hB zL) (hr.gr hB zL) Gg zC Fa G4 zq Io Im hF hR hp;unfold En at how;have aQ:=AI zL
 have aF:=Ek.Ok.of (show Ex c=0 by
  have:=hF;unfold Et at this;split at this
  .exact AS this (by assumption)
  .simpa using ‹¬Ex c≠0›)
 have a8:=j9 aF (Ec ls) hp (Er c.D9.L rs rs.L);have a7:(GX c (Ec ls) p (Er c.D9.L rs rs.L)).L=c.D8.L:=cQ _ _;have h4:=aF.h4;generalize GX c (Ec ls) p (Er c.D9.L rs rs.L)=M at how a8 a7;rw[<-a7] at h4;have aR:=AI a7;have HOW:=AI (how.LT (R':=λe w'=>Gr W0 w'/\∃A k,e=.L (.tuple #[Z A M.L k,J I 0])/\E7 w' w'.L.size A M) λe w' h=>by rw[a7];exact h)
 have a6:=AI a8;have bD:=λw=>da M.L w (by omega);clear zM zL how hn hh hg hr zq Fa hF hR aF a8 a7;go_enter Sq.func20,Tryz.ntmps20;go_wp2_with fail;rw[<-HW.out];refine HOW.out.LT ?_;rintro e w1 ⟨zJ,A,ka,rfl,aG⟩;have aS:=AI zJ;have aT:=AI aG;have zE:=zJ.size;clear zJ aG HOW;go_wp2;go_loopw [33] (λi wr=>∃k:Nat,k<=M.L/\i=J I k/\Gr w1 wr/\w1.L.size<wr.L.size/\∀j,j<M.L->wr.S ⟨w1.L.size,j,Y⟩=U (J I (Hg M k j))/\wr.O ⟨w1.L.size,j,Y⟩=bw) (λi _=>M.L-(O i).L)
 case atStart =>
  refine⟨0,by omega,rfl,(Gr.refl w1).LK _,by simp,λj hj=>⟨?_,?_⟩⟩
  .rw[AM _ _ _ _ (by simp),dx _ _ hj];rfl
  .rw[BK _ _ _ _ (by simp)]
 case round =>
  obtain⟨wq,rfl⟩:∃wq,wq=wr:=⟨_,rfl⟩;obtain⟨k,hk,rfl,zV,aU,zW⟩:=hrel;have aV:=AI zV;have aH:=AI zW;by_cases zY:k<M.L
  .obtain⟨b,o,A',c',rfl,hb,aI,aA⟩:=aT.out.at_ zY;have aW:=(zV.cell (p:=⟨b,o+k,Y⟩) hb).trans aI;have aJ:=aA.gr (AK _) zV;have aX:=AI aA;clear aI aA;obtain⟨aY,aK⟩:=a6.out.row zY;have hsm:=a6.out.LE zY;obtain⟨e1,e2⟩:=zW k zY;have aZ:=kU a6.out k k hk;have aB:∀q,q=wq\/q=wq.drew->bs D7 44 #[Z A' (M[k]?.LH []).L c'] q λe w'=>e=.L (J I (M[k]?.LH []).LE)/\q=w':=λq hq=>zh A' c' (M[k]?.LH []) q w1.L.size (by rcases hq with rfl|rfl<;>exact aJ) (by omega) (λx hx=>by have:=aK x hx;omega)
   have aO:Hid (∀j,j<M.L->Jd M k 0 j=Hg M k j-if j=k then(M[k]?.LH []).LE else 0):=AI λj _=>su M k j;have bF:=AI aJ;have HRX:=AI aK;rw[aY] at aW aB;have aL:=AI aB;obtain⟨S,hS⟩:∃S,S=(M[k]?.LH []).LE:=⟨_,rfl⟩;rw[<-hS] at aL hsm aO;have aM:Hid (∀j,j<M.L->(wq.LH ⟨w1.L.size,k,Y⟩ (J I (Hg M k k-S))).S ⟨w1.L.size,j,Y⟩=U (J I (Jd M k 0 j))/\(wq.LH ⟨w1.L.size,k,Y⟩ (J I (Hg M k k-S))).O ⟨w1.L.size,j,Y⟩=bw):=AI λj hj=>by
    rw[BG,aO.out j hj];refine⟨?_,(aH.out j hj).2⟩;by_cases e:j=k
    .subst e;rw[Ba _ _ _ e1,AP rfl]
    .rw[AW _ _ _ _ (by simp[dy e]),AN e,(aH.out j hj).1];simp
   have HGS:Hid (Gr w1 (wq.LH ⟨w1.L.size,k,Y⟩ (J I (Hg M k k-S)))):=AI (zV.LH (p:=⟨w1.L.size,k,Y⟩) (AK _) _);clear zV zW aJ aK aB hS aH;generalize Hg M k k=bk at e1 aZ aM HGS;have hwr:IntKind.i64.wrap (bk-S)=bk-S:=by simp[ez,hZ,fx];omega
   go_wp2;go_region_with (go_at_call 44;refine(aL.out _ (by first|exact iv rfl|exact gg rfl)).LT ?_;rintro e w3 ⟨rfl,rfl⟩)
   all_goals
    clear e1 e2 hwr;go_wp2;go_loopw [48] (λi wr=>∃j:Nat,j<=M.L/\i=J I j/\Gr w1 wr/\w1.L.size<wr.L.size/\∀t,t<M.L->wr.S ⟨w1.L.size,t,Y⟩=U (J I (Jd M k j t))/\wr.O ⟨w1.L.size,t,Y⟩=bw) (λi _=>M.L-(O i).L)
    case atStart=>exact⟨0,by omega,rfl,HGS.out.drew,by simp[World.setCell,World.drew];omega,aM.out⟩
    case round =>
     obtain⟨j,hj,rfl,aC,b5,aN⟩:=hrel;have b6:=AI aC;have aD:=AI aN;by_cases b7:j<M.L
     .obtain⟨b2,o2,rfl,zp,b8⟩:=(aX.out.gr (AK _) aC).at_ (k:=j) (by omega);have hx:=a6.out.at_ zY j;obtain⟨e1,e2⟩:=aN j b7;have bG:=kU a6.out k j hk;have aP:Hid (∀t,Jd M k (j+1) t=Jd M k j t+if t=j then(M[k]?.LH [])[j]?.LH 0 else 0):=AI λt=>sv M k j t;have hbm:-(262144*5)<=Jd M k j j/\Jd M k j j<=65536*5:=by
       have hsm2:=a6.out.LE zY;rw[sx];split<;>omega
      generalize Jd M k j j=y at e1 hbm;generalize (M[k]?.LH [])[j]?.LH 0=z at b8 hx aP;have HST:Hid (y=y->∀t,t<M.L->(wr.LH ⟨w1.L.size,j,Y⟩ (J I (y+z))).S ⟨w1.L.size,t,Y⟩=U (J I (Jd M k (j+1) t))/\(wr.LH ⟨w1.L.size,j,Y⟩ (J I (y+z))).O ⟨w1.L.size,t,Y⟩=bw):=AI λ_ t ht=>by
       rw[BG,aP.out];refine⟨?_,(aD.out t ht).2⟩;by_cases e:t=j
       .subst e;rw[Ba _ _ _ e1,AP rfl];have:=(aD.out t ht).1;rw[e1] at this;cases this
        rfl
       .rw[AW _ _ _ _ (by simp[dy e]),AN e,(aD.out t ht).1];simp
      have HGT:=AI (aC.LH (p:=⟨w1.L.size,j,Y⟩) (AK _) (J I (y+z)));clear aC aN;go_wp2;go_roundw
      case rel=>exact⟨j+1,by omega,by go_num,HGT.out,by simp[World.setCell];omega,HST.out rfl⟩
      case measure=>simp[Proofs.intOf];omega
     .have b9:j=M.L:=by omega
      subst b9;have bA:Hid (∀t,t<M.L->wr.S ⟨w1.L.size,t,Y⟩=U (J I (Hg M (k+1) t))/\wr.O ⟨w1.L.size,t,Y⟩=bw):=AI λt ht=>by
       rw[<-nu M k M.L t ht];exact aD.out t ht
      go_wp2;go_roundw
      case rel=>exact⟨k+1,by omega,by go_num,b6.out,b5,bA.out⟩
      case measure=>simp[Proofs.intOf];omega
  .have bB:k=M.L:=by omega
   subst bB
   have HF:Hid (RI wq wq.L.size (U ⟨w1.L.size,0,Y⟩) (Kh M)):=AI λ_=>⟨_,0,rfl,aU,λi x hx=>by
    have hi:i<M.L:=by have:=(Be.1 hx).1;simpa [Kh] using this
    have bC:x=Hg M M.L i:=by
     unfold Kh at hx;rw[Bv,CU hi] at hx;exact(Option.some.inj hx).LH
    rw[Bd,bC]
    exact(zW i hi).1⟩
   go_wp2;go_ret2;refine⟨aQ.out.trans (aS.out.trans aV.out),U ⟨w1.L.size,0,Y⟩,M.L,?_,HF.out⟩;rw[<-aR.out];rfl
open Go.Sort
def nv:Lib.pop8tab.size=256:=by decide +kernel
def xe:∀x:Fin 16,wrap64 ((Lib.pop8tab[x.val]'(by have:=nv;omega)).L:Int)=((wl x.val).L:Int):=by decide +kernel
def yM (x:Nat)(w:C)(hx:x<16):bs D7 101 #[.int .u8 (x:Int)] w λe w'=>e=.L (J I (wl x).L)/\w=w':=by
 have HP:=AI (xe ⟨x,hx⟩);have a6:x<Lib.pop8tab.size:=by have:=nv;omega
 go_enter Sq.func101,Tryz.ntmps101;go_wp2;go_ret;exact⟨al HP.out,rfl⟩
def yN (x:Nat)(w:C)(hx:x<16):bs D7 67 #[.int .u8 x] w λe w'=>e=.L (J I (wl x).L)/\w=w':=by
 have HC:=AI (yM x w hx);go_enter Sq.func67,Tryz.ntmps67;go_wp2_with fail;refine HC.out.LT ?_;rintro e w' ⟨rfl,rfl⟩;go_wp2;go_ret;exact⟨rfl,rfl⟩
def KZ (l:List Int):List Int:=l.mergeSort λx y=>decide (x<=y)
def lG (l:List Int):(KZ l).L=l.L:=List.length_mergeSort l
def xf (g cap:Nat)(l:List Int)(w:C){base:Nat}(h:w.H base 3 1 (.slice (U ⟨g,0,Y⟩) l.L cap) l.L (l.map (J I)))(hl:l.L<=1048576) :
  bs D7 64 #[.slice (U ⟨g,0,Y⟩) l.L cap] w λe w'=>e=.L (.tuple #[])/\KT (·=g) w w'/\∀(i:Nat) (x:Int),(KZ l)[i]?=U x->w'.S ⟨g,i,Y⟩=U (J I x):=by
 have zY:g<w.L.size:=(h.lt g rfl).2;have hH:Holds (J I) w g 0 l.LK:=by
  intro j hj;have hj':j<l.L:=by simpa using hj
  refine⟨?_,?_⟩
  .have:=h.cells (g:=g) rfl j (J I l[j]) (by simp[hj']);rw[dn] at this;rw[this,getElem!_pos l.LK j (by simpa using hj')];simp
  .obtain⟨h,_⟩|⟨g',c',cur,h,_,hb,_⟩:=h.2
   .cases h
   .obtain⟨rfl⟩:g=g':=by injection h with h1;injection h1 with h2;injection h2
    simp[cf,hb]
 refine(Any.slices_Sort_int DQ g 0 cap l w hH zY (by omega)).LT ?_;rintro e w' ⟨he,n,os,hW⟩;have zv:(KZ l).LK.size=l.LK.size:=by simp[lG]
 refine⟨he,?_,λi x hx=>?_⟩
 .subst hW;refine⟨rfl,rfl,rfl,?_,?_,λb hb zU=>?_⟩
  .show w.drawn<=w.drawn+n;omega
  .rw[size_grow,dr];exact Nat.le_add_right _ _
  .rw[heap_grow_old _ _ (by rw[dr];exact hb)];unfold putRow mapBlock;rw[BR,AN (λh=>zU h.LH)]
   rfl
 .have hi:i<(KZ l).L:=(Be.1 hx).1;subst hW;rw[cell?_grow _ _ _ (by rw[dr];exact zY)];have:=cell?_putRow (J I) (Sort.ahead w n) g 0 l.LK (KZ l).LK hH zv i (by simpa using hi);rw[Bd] at this;refine this.trans ?_;rw[getElem!_pos _ i (by simpa using hi)];rw[AL hi] at hx;simp at hx;simp[hx]
def xg (nA hA:Option bq)(nc hc:Nat)(c:Ek)(w:C)(K0:Nat->Prop)(zY:∀b,K0 b->b<w.L.size)(hn:Ie w K0 nA c.D9)(hh:GK w K0 hA c.D8)(hm:c.D8.L<=4) :
  bs D7 65 #[En nA hA c nc hc] w λe w'=>e=.L (.S (U ⟨w.L.size+1,0,Y⟩))/\Gr w w'/\∃g cap,w.L.size+2<=g /\
   Gk w' (λb=>K0 b\/b=w.L.size+1\/b=g) (w.L.size+1) c (EN c.D8.L) nA hA nc hc g cap:=by
 refine(pg nA hA nc hc c.D9.L c.D8.L w hm (rY c.D8.L hm)).LT ?_;rintro e w' ⟨rfl,g,cap,W,⟨g',cap',hv,hk,hs,_⟩,hg,zV,hz,h0,h1,h2,ho,_⟩;obtain⟨rfl,rfl⟩:g=g'/\cap=cap':=by injection hv with a b c;injection a with a;injection a with a;exact⟨a,c⟩
 have hgW:=(ho.lt g rfl).2;have a6:Gr w w':=⟨⟨hk.os.trans zV.Li.os,hk.tape.trans zV.Li.tape,hk.output.trans zV.Li.output,AU zV.size hk.size,λb hb=>(hk.LE b (AO hb zV.size) (by show b≠g;omega)).trans (zV.Li.LE b hb)⟩,AU zV.drawn hk.drawn⟩;refine⟨rfl,a6,g,cap,hg,?_⟩;have zu:∀o,w'.S ⟨w.L.size+1,o,Y⟩=W.S ⟨w.L.size+1,o,Y⟩:=λo=>hk.cell (p:=⟨w.L.size+1,o,Y⟩) hz (by show w.L.size+1≠g;omega)
 refine⟨?_,gg (iv rfl),(zu 0).trans h0,(zu 1).trans h1,?_,gg (gg rfl),hs,?_,?_⟩
 .rintro b (h|h|h)
  .have:=zY b h;have:=a6.size;omega
  .have:=hk.size;omega
  .have:=hk.size;omega
 .rw[dw _ hm];exact(zu 2).trans h2
 .intro zU;obtain⟨b,o,e,hb,hc⟩:=hn zU;exact⟨b,o,e,.inl hb,λi x hx=>(a6.cell (p:=⟨b,o+i,Y⟩) (zY b hb)).trans (hc i x hx)⟩
 .intro zU;obtain⟨b,o,e,hb,hc⟩:=hh zU;refine⟨b,o,e,.inl hb,λi x hx=>?_⟩;obtain⟨q1,q2,q3,A,m,q4,q5⟩:=hc i x hx;have k:∀o,w'.S ⟨b,o,Y⟩=w.S ⟨b,o,Y⟩:=λo=>a6.cell (p:=⟨b,o,Y⟩) (zY b hb);refine⟨(k _).trans q1,(k _).trans q2,(k _).trans q3,A,m,(k _).trans q4,λa7=>?_⟩;obtain⟨b',o',e',hb',hc'⟩:=q5 a7;exact⟨b',o',e',.inl hb',λi x hx=>(a6.cell (p:=⟨b',o'+i,Y⟩) (zY b' hb')).trans (hc' i x hx)⟩
structure Rq (nA:Option bq)(nc:Nat)(c:Ek)(ls:List (List Int))(k:Nat)(d:Int)(w:C)(RJ g cap:Nat)(w2:C):Prop where
 gr:Gr w w2
 c0:w2.S ⟨w.L.size,0,Y⟩=U (Z nA c.D9.L nc)
 c1:w2.S ⟨w.L.size,1,Y⟩=U (.slice (U ⟨g,0,Y⟩) c.D8.L cap)
 nb:w2.L[w.L.size+1]?=U (G #[J I 0] 3 (0,0))
 lt:w.L.size+1<RJ/\RJ<w2.L.size/\RJ<g
 given:∀i,i<5->w2.S ⟨RJ,i,Y⟩=U (.int .u8 (Ec ls i:Nat))
 D9:Ie w2 (λb=>b<w2.L.size/\b≠w.L.size+1) nA c.D9
 Sk:GK w2 (λb=>b<w2.L.size/\b≠w.L.size+1) (U ⟨g,0,Y⟩) (Kf c k d).D8
def uz (c:Ek)(k:Nat)(d:Int):(Kf c k d).D8.L=c.D8.L:=by simp[Kf]
def Nz {c:Ek}{k i:Nat}{d:Int}{h:EZ}(hi:(Kf c k d).D8[i]?=U h)(hk:k<c.D8.L) :
  (i=k/\h={ c.h k with off:=fB (c.h k).off d })\/(i≠k/\c.D8[i]?=U h):=by
 unfold Kf at hi;dsimp only at hi;rw[List.getElem?_set] at hi;by_cases e:k=i
 .subst e;rw[AP rfl,AP hk] at hi;cases hi;exact .inl ⟨rfl,rfl⟩
 .rw[AN e] at hi;exact .inr ⟨λh=>e h.LH,hi⟩
def lH {c:Ek}{sets:List Nat}(hs:∀x∈sets,c.has x):∀(k:Nat) (r:E2) (n:Nat),(∀i,c.has (r i))->∀ρ∈E4 c sets k r n,∀i,c.has (ρ i):=by
 intro k
 induction k with
 |zero=>intro r n hr ρ a6;simp[E4] at a6;subst a6;exact hr
 |succ k ih =>
  intro r n hr ρ a6;simp only[E4,List.mem_flatMap] at a6;obtain⟨x,hx,h⟩:=a6;split at h
  .refine ih _ _ (λi=>?_) ρ h;unfold upd;split
   .exact hs x hx
   .exact hr i
  .simp at h
def sB {c:Ek}(h:c.D8.L<=4){x:Nat}(hx:c.has x):x<16:=by
 unfold Ek.has at hx;exact AO hx (Dd (by omega) h)
def uB {c:Ek}{ls:List (List Int)}(hE:Et c ls=0)(h4:c.D8.L<=4)(i:Nat):Ec ls i<16:=by
 unfold Et at hE;split at hE
 .rename_i h;exact AS hE h
 .split at hE
  .rename_i h;exact AS hE h
  .unfold Ec;cases hl:ls[i]? with
   |none=>decide
   |some l =>
    have:=bG.1 hE (Fz l c.D8.L) (Bu.2 ⟨l,By hl,rfl⟩);exact rj l λx hx=>by have:=(I0 this).1 x hx;omega
def ny:∀a b:Fin 16,bits BinOp.xor IntKind.u8 (a.val:Int) (b.val:Int)=((a.val ^^^ b.val:Nat):Int)/\a.val ^^^ b.val<16:=by decide +kernel
def pq:∀x:Fin 16,(wl x.val).L<=4:=by decide +kernel
def pt {a b:E2}(h:∀i,i<5->a i ^^^ b i<16):∀k,k<=5->JX a b k<=4*k:=by
 intro k
 induction k with
 |zero=>intro _;exact AK _
 |succ k ih =>
  intro hk;have h2:=pq ⟨a k ^^^ b k,h k (by omega)⟩;show JX a b k+(wl (a k ^^^ b k)).L<=_;simp only at h2;omega
def NZ (r:E2):Array Value:=#[.int .u8 (r 0),.int .u8 (r 1),.int .u8 (r 2),.int .u8 (r 3),.int .u8 (r 4)]
def xh (r:E2){i:Nat}(hi:i<5):(NZ r)[i]?=U (.int .u8 (r i)):=by
 match i,hi with
 |0,_=>rfl
 |1,_=>rfl
 |2,_=>rfl
 |3,_=>rfl
 |4,_=>rfl
def Rs (r:E2):Option (E2×Nat)->E2
 |none=>r
 |some p=>p.1
def PE:Option (E2×Nat)->Nat
 |none=>0
 |some p=>p.2
structure KA (r:E2)(Ks LS b9:Nat)(o:Option (E2×Nat))(W:C):Prop where
 MZ:W.L[Ks]?=U (.cells (NZ (Rs r o)) 97 (0,0))
 is:W.L[LS]?=U (G #[.bool o.isSome] 4 (0,0))
 cost:W.L[b9]?=U (G #[J I (PE o)] 3 (0,0))
def cv {W:C}{b i:Nat}{a:Array bb}{u:bb}{t:fq}{f:Nat×Nat}(h:W.L[b]?=U (.cells a t f)):(W.LH ⟨b,i,Y⟩ u).L[b]?=U (.cells (a.L i u) t f):=by
 unfold H;simp only[BR,if_true,h]
 rfl
def KA.put {r:E2}{Ks LS b9:Nat}{o:Option (E2×Nat)}{W:C}(h:KA r Ks LS b9 o W)(n1:Ks≠LS)(n2:Ks≠b9)(n3:LS≠b9)(ρ:E2)(n:Nat)(T0:Nat->Prop)(h1:T0 Ks)(h2:T0 LS)(h3:T0 b9) :
  KA r Ks LS b9 (U (ρ,n)) (((((((W.LH ⟨Ks,0,Y⟩ (.int .u8 (ρ 0))).LH ⟨Ks,1,Y⟩ (.int .u8 (ρ 1))).LH ⟨Ks,2,Y⟩ (.int .u8 (ρ 2))).LH ⟨Ks,3,Y⟩ (.int .u8 (ρ 3))).LH ⟨Ks,4,Y⟩ (.int .u8 (ρ 4))).LH ⟨b9,0,Y⟩ (J I n)).LH ⟨LS,0,Y⟩ (.bool ea)) /\
  KT T0 W (((((((W.LH ⟨Ks,0,Y⟩ (.int .u8 (ρ 0))).LH ⟨Ks,1,Y⟩ (.int .u8 (ρ 1))).LH ⟨Ks,2,Y⟩ (.int .u8 (ρ 2))).LH ⟨Ks,3,Y⟩ (.int .u8 (ρ 3))).LH ⟨Ks,4,Y⟩ (.int .u8 (ρ 4))).LH ⟨b9,0,Y⟩ (J I n)).LH ⟨LS,0,Y⟩ (.bool ea)):=by
 have k:∀(W:C) (p:bq) (v:bb),T0 p.LE->KT T0 W (W.LH p v):=λW p v hp=>KT.LH W hp v;refine⟨⟨?_,?_,?_⟩,(k _ _ _ h1).trans ((k _ _ _ h1).trans ((k _ _ _ h1).trans ((k _ _ _ h1).trans ((k _ _ _ h1).trans ((k _ _ _ h3).trans (k _ _ _ h2))))))⟩
 .rw[Bb _ _ _ _ (by show Ks≠LS;exact n1),Bb _ _ _ _ (by show Ks≠b9;exact n2)];exact cv (i:=4) (cv (i:=3) (cv (i:=2) (cv (i:=1) (cv (i:=0) h.MZ))))
 .refine cv (i:=0) (a:=#[.bool o.isSome]) ?_;have e:∀(W:C) (i:Nat) (v:bb),(W.LH ⟨Ks,i,Y⟩ v).L[LS]?=W.L[LS]?:=λW i v=>Bb _ _ _ _ (by show LS≠Ks;exact dy n1);rw[Bb _ _ _ _ (by show LS≠b9;exact n3),e,e,e,e,e];exact h.is
 .rw[Bb _ _ _ _ (by show b9≠LS;exact dy n3)];refine cv (i:=0) (a:=#[J I (PE o)]) ?_;have e:∀(W:C) (i:Nat) (v:bb),(W.LH ⟨Ks,i,Y⟩ v).L[b9]?=W.L[b9]?:=λW i v=>Bb _ _ _ _ (by show b9≠Ks;exact dy n2);rw[e,e,e,e,e];exact h.cost
def KA.drewN {r:E2}{Ks LS b9:Nat}{o:Option (E2×Nat)}{W:C}(h:KA r Ks LS b9 o W)(m:Nat):KA r Ks LS b9 o (W.drewN m):=⟨h.MZ,h.is,h.cost⟩
open Go.Shelf
attribute [local go_sem] Oper.semAt_some
def pu (f:FuncId):Fence.wide.fn f=True:=eq_true trivial
attribute [local go_sem] pu
attribute [local simp] pu
def fT {fn:Func}{tmps:Array bb}{R:Ending->C->Prop}{W:C}{v:bb}(hr:(results fn tmps).run D7 W=.ok v W)(hR:R (.L v) W) :
  LeavesInM Fence.wide 0 D7 fn tmps R [] .returning W:=⟨v,hr,hR⟩
def mh {c:Code}{P:Program}{K:Act->C->Prop}{Q:Exit->Act->C->Prop}{a:Act}{w:C}(h:c.wp P (Exit.then K λ_ _ _=>False) a w):c.wp P (Exit.then K Q) a w:=by
 rw[<-gR (n:=0)] at h ⊢;refine wpIn_mono h λe a w h=>?_;cases e with
 |normal=>exact h
 |_=>exact h.S
def jt (c:Ek)(ls:List (List Int))(h d:Int)(w:C)(e:Ending)(w':C):Prop :=
 Gr w w'/\if Et c ls≠0 then e=.L (.tuple #[.slice Y 0 0,J I 0,J I (Et c ls)])
  else if(FM h 0 (c.D8.L-1)&&FM d 0 (c.D9.L-1))=bw then e=.L (.tuple #[.slice Y 0 0,J I 0,J I 3])
  else match Ho (Ec ls) (E4 (Kf c h.L d) (EN c.D8.L) c.D9.L G8 0) with
   |none=>e=.L (.tuple #[.slice Y 0 0,J I 0,J I 11])
   |some p=>∃A k,e=.L (.tuple #[Z A c.D9.L k,J I p.2,J I 0])/\E7 w' w'.L.size A (be p.1 c.D9.L)
def uC (nA hA gA:Option bq)(nc hc gc:Nat)(c:Ek)(ls:List (List Int))(h d:Int)(w:C)(B:Nat)(hB:B<=w.L.size)(hn:RI w B nA c.D9)(hh:Fe w B hA c.D8)(hg:E7 w B gA ls)
  (Gg:c.D9.L<=4611686018427387904) (zC:c.D8.L<=4611686018427387904) (Fa:∀h∈c.D8,h.off.L<=4611686018427387904) (G4:ls.L<=4611686018427387904) (zq:∀x∈ls,x.L<=4611686018427387904)
  (aF:∀k:Nat,Et c ls=0->h=k->k<c.D8.L->FM d 0 (c.D9.L-1)=ea->(Kf c k d).Ok) :
  bs D7 30 #[En nA hA c nc hc,Z gA ls.L gc,J I h,J I d] w (jt c ls h d w):=by
 rw[<-callsIn_wide (n:=0)];obtain⟨W0,zM⟩:∃W0:C,W0=(w.LK (G #[Z nA c.D9.L nc,Z hA c.D8.L hc] 25)).LK (G #[J I 0] 3):=⟨_,rfl⟩;have zL:Gr w W0:=zM▸((Gr.refl w).LK _).LK _;have zF:W0.L.size=w.L.size+2:=by rw[zM];simp
 have hk:∀b o,b<B->W0.S ⟨b,o,Y⟩=w.S ⟨b,o,Y⟩:=λb o hb=>zL.cell (AO hb hB);have aS:=na nA hA gA nc hc gc c ls W0 B (by omega) (hn.gr hB zL) (hh.keep hk) (hg.gr hB zL) Gg zC Fa G4 zq;unfold En at aS ⊢;have aT:=AI aS;have hcm:W0.S ⟨w.L.size,0,Y⟩=U (Z nA c.D9.L nc)/\W0.S ⟨w.L.size,1,Y⟩=U (Z hA c.D8.L hc):=by
  rw[zM];constructor
  all_goals rw[Bi _ _ _ (by simp),AM _ _ _ _ rfl];rfl
 have cK:=AI hcm;have zS:∀i,W0.O ⟨w.L.size,i,Y⟩=false:=λi=>by
  rw[zM,CL _ _ _ (by simp),BK _ _ _ _ rfl]
 have HCF:=AI zS;clear zS;have e5:W0.L[w.L.size+1]?=U (G #[J I 0] 3 (0,0)):=by
  rw[zM];have:=bo (w.LK (G #[Z nA c.D9.L nc,Z hA c.D8.L hc] 25)) (G #[J I 0] 3);rwa [B6] at this
 have HNB:=AI e5;have HW:=AI zM;have e6:=AI zL;have HN:=AI hn;have HH:=AI hh;have cL:=AI aF;clear aS hcm e5 zM zL hn hh hk hg aF Fa zq;refine callsIn_of_wp_marks Sq.func30 rfl trivial ?_ rfl;simp only[Tryz.ntmps30,AZ,AX,Bc,Nat.reduceAdd,Nat.reduceSub,BX,BY,B8,B3,BP,BW];rw[gR];go_wp2_with fail;rw[<-HW.out];refine aT.out.LT ?_;rintro e w1 ⟨zJ,hf⟩;have bS:=AI zJ;have zE:=zJ.size
 have cM:w1.L[w.L.size+1]?=U (G #[J I 0] 3 (0,0)):=(zJ.Li.LE _ (by omega)).trans HNB.out;have aU:=AI cM;have bT:=AI (e6.out.trans zJ);have zk:(w1.LK (G #[.int .u8 0,.int .u8 0,.int .u8 0,.int .u8 0,.int .u8 0] 97)).L.size=w1.L.size+1:=by simp
 clear cM;by_cases hE:Et c ls=0
 .rw[AP hE] at hf;obtain⟨cb,g0,cap0,rfl,hcb,fZ,hK⟩:=hf;have HE:=AI hE;have HK:=AI hK;clear zJ hE aT hK;obtain⟨aD,bU,cN⟩:=one_cell aU.out;have hce:Ex c=0:=by
   have:=HE.out;unfold Et at this;split at this
   .exact this
   .rename_i h;simpa using h
  have b8:=AI (Ek.Ok.of hce);have fF:=b8.out.n5;have fH:=b8.out.h4;have hn1':=b8.out.n1;have e7:=b8.out.h1;obtain⟨W1,zt⟩:∃W1,W1=w1.LK (G #[.int .u8 (Ec ls 0),.int .u8 (Ec ls 1),.int .u8 (Ec ls 2),.int .u8 (Ec ls 3),.int .u8 (Ec ls 4)] 97):=⟨_,rfl⟩;have cO:=AI zt;have aC:Hid (Gr w W1):=AI (by rw[zt];exact bT.out.LK _);have hsz1:W1.L.size=w1.L.size+1:=by rw[zt];simp
  have k0:w1.S ⟨w.L.size,0,Y⟩=U (Z nA c.D9.L nc):=(bS.out.cell (by show w.L.size<_;omega)).trans cK.out.1;have k1:w1.S ⟨w.L.size,1,Y⟩=U (Z hA c.D8.L hc):=(bS.out.cell (by show w.L.size<_;omega)).trans cK.out.2;have g5:w.L.size<w1.L.size:=by omega
  have cP:Hid (W1.S ⟨w.L.size,0,Y⟩=U (Z nA c.D9.L nc)):=AI (by rw[zt,Bi _ _ _ (by show w.L.size<_;omega)];exact k0);have cQ:Hid (W1.S ⟨w.L.size,1,Y⟩=U (Z hA c.D8.L hc)):=AI (by rw[zt,Bi _ _ _ (by show w.L.size<_;omega)];exact k1);have cR:W1.L[w.L.size+1]?=U (G #[J I 0] 3 (0,0)):=by rw[zt,aa _ _ cN];exact aU.out
  have bH:=AI cR;have aM:W1.L[w1.L.size]?=U (G #[.int .u8 (Ec ls 0),.int .u8 (Ec ls 1),.int .u8 (Ec ls 2),.int .u8 (Ec ls 3),.int .u8 (Ec ls 4)] 97 (0,0)):=by rw[zt];exact bo w1 _
  have e8:=AI aM;have hb1:=bP h 0 (c.D8.L-1) W1;have zp:=bP d 0 (c.D9.L-1) W1;obtain⟨x1,hx1⟩:∃x,x=FM h 0 (c.D8.L-1):=⟨_,rfl⟩;obtain⟨x2,hx2⟩:∃x,x=FM d 0 (c.D9.L-1):=⟨_,rfl⟩;rw[<-hx1] at hb1;rw[<-hx2] at zp;have eA:=AI hb1;have cS:=AI zp;have cT:=AI hx1;have cU:=AI hx2;clear hb1 zp hx1 hx2 zt aM cR hce aD bU;unfold E6;go_wp2_with fail;rw[<-cO.out];refine eA.out.LT ?_
  rintro e w' ⟨rfl,rfl⟩;have fI:=cP.out;have g7:=cQ.out;obtain⟨aD,bU,eN⟩:=one_cell bH.out;clear k0 k1;have cV:∀w',Gr w w'->w'.S ⟨w.L.size+1,0,Y⟩=U (J I 0)->(x1&&x2)=bw->jt c ls h d w (.L (.tuple #[.slice Y 0 0,J I 0,J I 3])) w':=λw' hg _ hx=>by
   refine⟨hg,?_⟩;rw[AN (by simp[HE.out]),AP (by rw[<-cT.out,<-cU.out];exact hx)]
  have bI:=AI cV;clear cV;cases x1 with
  |false =>
   go_wp2;refine fT (v:=.tuple #[.slice Y 0 0,J I 0,J I 3]) (by simp[results,cw,go_sem,Ba _ _ _ aD]) (bI.out _ (aC.out.LH (by show _<=w.L.size+1;omega) _) (Ba _ _ _ aD) rfl)
  |true =>
   cases x2 with
   |false =>
    go_wp2_with (go_at_call 45;refine cS.out.LT ?_;rintro e w' ⟨rfl,rfl⟩);refine fT (v:=.tuple #[.slice Y 0 0,J I 0,J I 3]) (by simp[results,cw,go_sem,Ba _ _ _ aD]) (bI.out _ (aC.out.LH (by show _<=w.L.size+1;omega) _) (Ba _ _ _ aD) rfl)
   |true =>
    clear bI;obtain⟨k,hk,aN⟩:∃k:Nat,h=k/\k<c.D8.L:=by
     have:=cT.out;simp only[FM] at this;have:=this.LH;simp at this;exact⟨h.L,by omega,by omega⟩
    subst hk;obtain⟨hb,ho,rfl,eB,zW⟩:=HH.out (λe=>by rw[e] at e7;simp at e7);have hW:∀b o,b<B->W1.S ⟨b,o,Y⟩=w.S ⟨b,o,Y⟩:=λb o hb=>aC.out.cell (AO hb hB);have eC:=AI (ux hb ho hc c.D8 W1 B eB (by have:=aC.out.size;omega) (λi x hi=>(zW i x hi).keep eB hW) (by omega) (by omega));clear zW hW;go_wp2_with (first|(go_at_call 45;refine cS.out.LT ?_;rintro e w' ⟨rfl,rfl⟩)|fail)
    refine eC.out.LT ?_;rintro e w3 ⟨g,cap,rfl,zH,zQ,hgs,hgf,hat⟩;have eO:=zH.size;have hf3:w3.O ⟨w.L.size,1,Y⟩=false:=((bS.out.trans (((Gr.refl w1).LK _).trans (cO.out▸zH))).frozen (p:=⟨w.L.size,1,Y⟩) (by show w.L.size<_;omega)).trans (HCF.out 1);have NP:w3.S ⟨w.L.size,0,Y⟩=U (Z nA c.D9.L nc):=(zH.cell (p:=⟨w.L.size,0,Y⟩) (by show w.L.size<_;omega)).trans cP.out
    have eD:w3.S ⟨w.L.size,1,Y⟩=U (.slice (U ⟨hb,ho,Y⟩) c.D8.L hc):=(zH.cell (p:=⟨w.L.size,1,Y⟩) (by show w.L.size<_;omega)).trans cQ.out;have aO:c.D8[k]?=U (c.h k):=by unfold Ek.h;rw[AL aN];rfl
    obtain⟨cW,cX,zn,A,m,zx,a7⟩:=hat k (c.h k) aO;have aV:g≠w.L.size:=by omega
    obtain⟨w4,hw4⟩:∃w4,w4=w3.LH ⟨w.L.size,1,Y⟩ (.slice (U ⟨g,0,Y⟩) c.D8.L cap):=⟨_,rfl⟩;have fJ:w4.L.size=w3.L.size:=by rw[hw4];simp[H]
    have aP:∀b o,b≠w.L.size->w4.S ⟨b,o,Y⟩=w3.S ⟨b,o,Y⟩:=λb o hb=>by rw[hw4];exact AW _ _ _ _ (λe=>hb (Bh Addr.block e).LH)
    have cY:∀b o,b<B->w4.S ⟨b,o,Y⟩=w3.S ⟨b,o,Y⟩:=λb o hb=>aP b o (by omega);have b9:Hid (Gr w w4):=AI (by rw[hw4];exact(aC.out.trans zH).LH (AK _) _);have aK:=(b8.out.off _ (c.I9 aN)).1;have hcon:=jC A m (c.h k).off d w4 B (a7.keep cY) (by omega);obtain⟨x3,hx3⟩:∃x,x=bh (d∈(c.h k).off):=⟨_,rfl⟩;rw[<-hx3] at hcon;have cZ:=AI hcon;have d5:=AI hx3;have HW4:=AI hw4
    have bA:Hid (∀(i:Nat) (x:EZ),c.D8[i]?=U x->MJ w4 B g (i*4) x):=AI λi x hi=>by
     obtain⟨q0,q1,q2,A',m',q3,q4⟩:=hat i x hi;exact⟨(aP _ _ aV).trans q0,(aP _ _ aV).trans q1,(aP _ _ aV).trans q2,A',m',(aP _ _ aV).trans q3,q4.keep cY⟩
    have d6:Hid (RI w4 B nA c.D9):=AI (HN.out.gr hB b9.out);have bJ:Hid (w4.L[w.L.size+1]?=U (G #[J I 0] 3 (0,0))):=AI (by rw[hw4,Bb _ _ _ _ (by show w.L.size+1≠w.L.size;omega),zH.Li.LE _ eN];exact bH.out);have bK:Hid (w4.L[w1.L.size]?=U (G #[.int .u8 (Ec ls 0),.int .u8 (Ec ls 1),.int .u8 (Ec ls 2),.int .u8 (Ec ls 3),.int .u8 (Ec ls 4)] 97 (0,0))):=AI (by rw[hw4,Bb _ _ _ _ (by show w1.L.size≠w.L.size;omega),zH.Li.LE _ (by omega)];exact e8.out)
    have HE4:Hid (w4.S ⟨w.L.size,0,Y⟩=U (Z nA c.D9.L nc)/\w4.S ⟨w.L.size,1,Y⟩=U (.slice (U ⟨g,0,Y⟩) c.D8.L cap)):=AI (by
     rw[hw4];exact⟨(AW _ _ _ _ (by simp)).trans NP,Ba _ _ _ eD⟩)
    have eE:Hid (∀i,w4.O ⟨g,i,Y⟩=bw):=AI λi=>by rw[hw4,BG];exact hgf i
    have eP:w3.S ⟨g,k*4+3,Y⟩=U (Z A (c.h k).off.L m):=zx;have eQ:=AI a7;clear hcon hx3 hw4 hat a7 cW cX zn zx aP cY hgf aO aD bU fI;go_wp2_with fail;rw[<-HW4.out];refine cZ.out.LT ?_;rintro e w' ⟨rfl,rfl⟩;clear NP eD eP hf3 cZ;have aL:W1.L.size<=w4.L.size/\g<w4.L.size:=by omega
    obtain⟨d7,d8⟩:=HE4.out;have aO:c.D8[k]?=U (c.h k):=by unfold Ek.h;rw[AL aN];rfl
    obtain⟨cW,cX,zn,A',m',zx,a7⟩:=bA.out k (c.h k) aO;have d9:=AI a7;have fK:=eE.out (k*4+3);clear a7 cW cX zn eQ fJ zH eO;cases x3
    case' true =>
     have aA:Hid (Rq nA nc c ls k d w w1.L.size g cap w4):=AI (by
      have bV:fB (c.h k).off d=(c.h k).off:=by unfold fB;rw[AP (by simpa using d5.out.LH)]
      refine⟨b9.out,d7,d8,bJ.out,⟨by omega,by omega,by omega⟩,λi hi=>?_,?_,λzU=>⟨g,0,rfl,⟨aL.2,by omega⟩,λi x hi=>?_⟩⟩
      .rw[(GP bK.out).1 i]
       match i,hi with
       |0,_=>rfl
       |1,_=>rfl
       |2,_=>rfl
       |3,_=>rfl
       |4,_=>rfl
      .exact gi d6.out λb hb=>⟨by omega,by omega⟩
      .rw[Bd];have key:∀y,c.D8[i]?=U y->MK w4 (λb=>b<w4.L.size/\b≠w.L.size+1) g (i*4) y:=λy hy=>by
        obtain⟨q0,q1,q2,A',m',q3,q4⟩:=bA.out i y hy;exact⟨q0,q1,q2,A',m',q3,gi q4 λb hb=>⟨by omega,by omega⟩⟩
       obtain⟨rfl,rfl⟩|⟨_,h⟩:=Nz hi aN
       .rw[bV];exact key _ aO
       .exact key _ h)
     go_wp2_with fail;obtain⟨wz,rfl⟩:∃wz,wz=w4:=⟨_,rfl⟩
    case' false =>
     have bL:=AI (xd A' m' (c.h k).off w4 B d9.out (by omega) (by omega));have bV:fB (c.h k).off d=KZ ((c.h k).off++[d]):=by unfold fB;rw[AN (by simpa using d5.out.LH)];rfl
     have HOA:=AI bV;obtain⟨off,a7⟩:∃off,off=(c.h k).off:=⟨_,rfl⟩;rw[<-a7] at bL HOA aK;have eR:w4.S ⟨g,k*4+3,Y⟩=U (Z A' off.L m'):=by rw[a7];exact zx
     have HEO:=AI a7;rw[<-a7];clear bV zx a7 d9;go_wp2_with fail;refine bL.out.LT ?_;rintro e w5 ⟨v,rfl,zl,dA⟩;have g8:=dA.size;have dB:=zl.lt;have eF:=AI dA;clear dA bL;go_wp2_with (at_builtin;refine fP rfl _ _ rfl w4.L.size _ _ _ rfl (zl.LK _) ⟨w5.L.size,0,Y⟩ 1 (J I d) rfl ?c1 rfl ?c2 ?c3 ?_)
     case c1=>rw[AM _ _ _ _ rfl];rfl
     case c2=>omega
     case c3=>(try simp);omega
     intro v' w6 hown' hgrow hd;have aW:∀b,b<w4.L.size->w6.L[b]?=w4.L[b]?:=λb hb=>by
      have zU:U b≠v.L:=cr zl hb;exact(hgrow.LE b (by simp;omega) zU).trans ((aa _ _ (by omega)).trans (eF.out.Li.LE b hb))
     have hG6:Gr w w6:=((b9.out.trans eF.out).LK _).Lo hgrow hd λq hq=>by have:=(dB q hq).1;have:=b9.out.size;omega
     have hc6:w6.S ⟨g,k*4+3,Y⟩=U (Z A' off.L m'):=(A7 (aW g aL.2)).trans eR;have hf6:w6.O ⟨g,k*4+3,Y⟩=false:=(Cc (a:=⟨g,k*4+3,Y⟩) (aW g aL.2)).trans fK;obtain⟨g',cap',hv',hg'l,hg's⟩:=hown'.form (by omega);subst hv';have hsz6:w4.L.size<=w6.L.size:=by have:=hgrow.size;simp at this;omega
     obtain⟨w7,bW⟩:∃w7,w7=w6.LH ⟨g,k*4+3,Y⟩ (.slice (U ⟨g',0,Y⟩) (off.L+1) cap'):=⟨_,rfl⟩;have hz7:w7.L.size=w6.L.size:=by rw[bW];simp[H]
     have bX:w7.H w4.L.size 3 1 (.slice (U ⟨g',0,Y⟩) (off++[d]).L cap') (off++[d]).L ((off++[d]).map (J I)):=by
      rw[bW];have:=ownsRow_setCell_below (a:=⟨g,k*4+3,Y⟩) hown' aL.2 (.slice (U ⟨g',0,Y⟩) (off.L+1) cap');simpa using this
     have aX:=xf g' cap' (off++[d]) w7 bX (by simp;omega);have Gg:(off++[d]).L=off.L+1:=by simp
     rw[Gg] at aX;have dY:=AI aX;have bB:=AI bW;have dC:=AI aW;have fL:=AI hG6;clear aW hG6 hown' hgrow hd zl bX aX bW dB;go_wp2_with fail;rw[<-bB.out];refine dY.out.LT ?_;rintro e w8 ⟨rfl,bC,hs8⟩;have hz8:=bC.size;have fM:g≠g':=by omega
     have aB:∀b,b<w4.L.size->b≠g->w8.L[b]?=w4.L[b]?:=λb hb zU=>by
      rw[bC.LE b (by omega) (by show b≠g';omega),bB.out,Bb _ _ _ _ (by show b≠g;exact zU)];exact dC.out b hb
     have dD:∀o,w8.S ⟨g,o,Y⟩=w7.S ⟨g,o,Y⟩:=λo=>bC.cell (p:=⟨g,o,Y⟩) (by show g<_;omega) fM;have zK:∀o,o≠k*4+3->w8.S ⟨g,o,Y⟩=w4.S ⟨g,o,Y⟩:=λo ho=>by
      rw[dD,bB.out,AW _ _ _ _ (λe=>ho (Bh Addr.off e).LH)];exact A7 (dC.out g aL.2)
     have dE:w8.S ⟨g,k*4+3,Y⟩=U (.slice (U ⟨g',0,Y⟩) (off.L+1) cap'):=by
      rw[dD,bB.out];exact Ba _ _ _ hc6
     have dF:∀b o,b<B->w8.S ⟨b,o,Y⟩=w4.S ⟨b,o,Y⟩:=λb o hb=>A7 (aB b (by omega) (by omega))
     have aA:Hid (Rq nA nc c ls k d w w1.L.size g cap w8):=AI (by
      have dG:fB (c.h k).off d=KZ (off++[d]):=by rw[<-HEO.out];exact HOA.out
      refine⟨KT.gr (T:=(·=g')) (fL.out.LH (p:=⟨g,k*4+3,Y⟩) (by show _<=g;omega) _) (bB.out▸bC) (by rintro b rfl;omega),(A7 (aB w.L.size (by omega) (by omega))).trans d7,(A7 (aB w.L.size (by omega) (by omega))).trans d8,(aB _ (by omega) (by omega)).trans bJ.out,⟨by omega,by omega,by omega⟩,λi hi=>?_,?_,λzU=>⟨g,0,rfl,⟨by omega,by omega⟩,λi x hi=>?_⟩⟩
      .rw[A7 (a:=⟨w1.L.size,i,Y⟩) (aB w1.L.size (by omega) (by omega)),(GP bK.out).1 i]
       match i,hi with
       |0,_=>rfl
       |1,_=>rfl
       |2,_=>rfl
       |3,_=>rfl
       |4,_=>rfl
      .exact gi (d6.out.keep dF) λb hb=>⟨by omega,by omega⟩
      .rw[Bd];obtain⟨rfl,rfl⟩|⟨hik,h⟩:=Nz hi aN
       .obtain⟨q0,q1,q2,_⟩:=bA.out i _ aO;refine⟨(zK _ (by omega)).trans q0,(zK _ (by omega)).trans q1,(zK _ (by omega)).trans q2,U ⟨g',0,Y⟩,cap',?_,?_⟩
        .rw[dE,dG,lG];simp
        .rw[dG];exact λ_=>⟨g',0,rfl,⟨by omega,by omega⟩,λj y hj=>by rw[Bd];exact hs8 j y hj⟩
       .obtain⟨q0,q1,q2,A2,m2,q3,q4⟩:=bA.out i x h
        exact⟨(zK _ (by omega)).trans q0,(zK _ (by omega)).trans q1,(zK _ (by omega)).trans q2,A2,m2,(zK _ (by omega)).trans q3,gi (q4.keep dF) λb hb=>⟨by omega,by omega⟩⟩)
     have fN:=aA.out.c0;have zi:=aA.out.c1;clear bC hs8 aB dD zK dE dF hc6 hf6;go_wp2_with fail;obtain⟨wz,rfl⟩:∃wz,wz=w8:=⟨_,rfl⟩
    all_goals
     have aF:=cL.out k HE.out rfl aN cU.out.LH;have bY:=uz c k d;obtain⟨c',hc'⟩:∃c',c'=Kf c k d:=⟨_,rfl⟩;have bZ:c'.D9=c.D9:=by rw[hc'];rfl
     have dH:=aA.out.Sk;rw[<-hc'] at dH aF bY;have zG:=xg nA (U ⟨g,0,Y⟩) nc cap c' wz _ (λb hb=>hb.1) (by rw[bZ];exact aA.out.D9) dH (by omega);unfold En at zG;rw[bZ,bY] at zG;have HST:=AI zG;have HC':=AI hc';have aY:=AI aF;have bM:=AI (uB HE.out fH);have dZ:=aA.out.lt;clear zG hc' aF dH cP cQ e6 bS bT aC b9 HNB aU bH bJ e8 bK cO HN d6 HH eC eA cS cT d5 bA eE HE4 HCF cK HW HW4 cL d7 d8
     refine HST.out.LT ?_;rintro e w9 ⟨rfl,bD,g9,cap9,hg9l,hK9⟩;have hz9:=bD.size;have aM:∀i,i<5->w9.S ⟨w1.L.size,i,Y⟩=U (.int .u8 (Ec ls i:Nat)):=λi hi=>(bD.cell (p:=⟨w1.L.size,i,Y⟩) dZ.2.1).trans (aA.out.given i hi);obtain⟨v0,v1,v2,v3,v4⟩:=IJ aM;have eT:=AI aM;have hn9:w9.L[w.L.size+1]?=U (G #[J I 0] 3 (0,0)):=(bD.Li.LE _ (by omega)).trans aA.out.nb
     have HN9:=AI hn9;have dI:=AI hK9;have fO:=AI bD;have hb12:w1.L.size<w9.L.size:=by omega
     clear aM hn9 hK9 bD HST
     try clear fN zi
     obtain⟨a6,aG⟩:∃a6:C,a6=(w9.LK (G #[.int .u8 (Ec ls 0),.int .u8 (Ec ls 1),.int .u8 (Ec ls 2),.int .u8 (Ec ls 3),.int .u8 (Ec ls 4)] 97)).LK (G #[.bool bw] 4):=⟨_,rfl⟩;have aH:Gr w9 a6:=by rw[aG];exact((Gr.refl w9).LK _).LK _
     have bN:a6.L.size=w9.L.size+2:=by rw[aG];simp
     have c5:a6.L[w9.L.size]?=U (.cells (NZ (Ec ls)) 97 (0,0)):=by
      rw[aG,aa _ _ (by simp)];exact bo w9 _
     have hsome:a6.L[w9.L.size+1]?=U (G #[.bool bw] 4 (0,0)):=by
      rw[aG];have:=bo (w9.LK (G #[.int .u8 (Ec ls 0),.int .u8 (Ec ls 1),.int .u8 (Ec ls 2),.int .u8 (Ec ls 3),.int .u8 (Ec ls 4)] 97)) (G #[.bool bw] 4)
      rwa [B6] at this
     have eU:Hid (KA (Ec ls) w9.L.size (w9.L.size+1) (w.L.size+1) Y a6):=AI ⟨c5,hsome,(aH.Li.LE _ (by omega)).trans HN9.out⟩;obtain⟨T0,bE⟩:∃T0:Nat->Prop,T0=λb=>b=w9.L.size\/b=w9.L.size+1\/b=w.L.size+1:=⟨_,rfl⟩;have bF:=AI bE;have dJ:∀b,T0 b->b<a6.L.size:=λb hb=>by rw[bE] at hb;omega
     have dK:∀b,(b<wz.L.size/\b≠w.L.size+1\/b=wz.L.size+1\/b=g9)->¬T0 b:=λb hb h=>by
      rw[bE] at h;have:=dI.out.lt b hb;omega
     have dL:¬T0 w1.L.size:=λh=>by rw[bE] at h;omega
     have aZ:=mw (wz.L.size+1) 0 G8 a6;have hs:=kG (T0:=T0) (n:=0) (r:=G8) (dI.out.keep (w':=a6) aH.size λb o hb=>aH.cell (p:=⟨b,o,Y⟩) (dI.out.lt b hb)) dJ dK gJ;unfold E6 at aZ;have cA:=AI aZ;have HS:=AI hs;have fQ:=AI dJ;have fR:=AI dK;have eV:=AI dL;have eW:=AI (fO.out.trans aH);have eX:Hid (∀i,i<5->a6.S ⟨w1.L.size,i,Y⟩=U (.int .u8 (Ec ls i:Nat))):=AI λi hi=>(aH.cell (p:=⟨w1.L.size,i,Y⟩) (by show w1.L.size<_;omega)).trans (eT.out i hi)
     have dM:=AI aG;have eY:=AI bN;clear aG aZ hs dJ dK dL bE aH c5 hsome bN;go_wp2_with fail;rw[<-dM.out];refine cA.out.LT ?_;rintro e cB ⟨rfl,b5⟩;have hs:=HS.out;rw[<-b5] at hs;have eG:=AI hs;have dN:Gr a6 cB:=by rw[b5];exact(((Gr.refl a6).LK _).LK _).LK _
     have bO:cB.L.size=a6.L.size+3:=by rw[b5];simp
     have b6:=AI dN;have f5:=AI bO;clear hs HS bO dN b5 cA dM v0 v1 v2 v3 v4;go_wp2_with fail;have bN:=eY.out;have bO:=f5.out;rw[<-gR (n:=0)];have HNL:Hid (0+c.D9.L=c'.D9.L):=AI (by rw[bZ];omega);have b7:Hid ((∀x∈EN c.D8.L,c'.has x)/\(EN c.D8.L).L<=16):=AI ⟨by rw[<-bY];exact mW aY.out,by rw[<-bY];exact ph aY.out⟩
     refine ld (T0:=T0) (cb:=wz.L.size+1) (c:=c') (sets:=EN c.D8.L) (bc:=a6.L.size) (br:=a6.L.size+1) (bn:=a6.L.size+2) (k:=c.D9.L) (n:=0) (r:=G8)
      aY.out b7.out.1 b7.out.2 rfl HNL.out (λ_ _=>rfl) eG.out (λb hb=>AO (fQ.out b hb) b6.out.size) rfl
      (λpre W=>KA (Ec ls) w9.L.size (w9.L.size+1) (w.L.size+1) (Ho (Ec ls) pre) W) (λ_ _ _=>False)
      (λpre W W' h hk=>by
       have fS:=hk w9.L.size (by rw[bF.out];exact .inl rfl);have fU:=hk (w9.L.size+1) (by rw[bF.out];exact .inr (.inl rfl));have e9:=hk (w.L.size+1) (by rw[bF.out];exact .inr (.inr rfl))
       exact⟨fS.trans h.MZ,fU.trans h.is,e9.trans h.cost⟩) (λc pre W W' h _=>h)
      (by
       have h:=eU.out;have hb:=b6.out.Li.LE
       exact⟨(hb _ (by omega)).trans h.MZ,(hb _ (by omega)).trans h.is,(hb _ (by omega)).trans h.cost⟩) ?_ ?_ (λD j q W _ _ _ h _=>h.S)
     .intro l pre ρ W hpl aI dO hl1' hl2';have eH:∀i,c'.has (ρ i):=lH b7.out.1 _ _ _ gJ ρ (hpl.subset (by simp));have bQ:Hid (∀i,ρ i<16):=AI λi=>sB (by omega) (eH i);have dP:∀i,i<5->W.S ⟨w1.L.size,i,Y⟩=U (.int .u8 (Ec ls i:Nat)):=λi hi=>by
       rw[aI.cell (p:=⟨w1.L.size,i,Y⟩) (by show w1.L.size<_;omega) (by rintro(h|h);exact eV.out h;have h':w1.L.size=a6.L.size+1:=h;omega),b6.out.cell (p:=⟨w1.L.size,i,Y⟩) (by show w1.L.size<_;omega)];exact eX.out i hi
      have hzW:=aI.size;have HI:=AI dO;obtain⟨W2,zm⟩:∃W2,W2=W.LK (G #[.int .u8 (ρ 0),.int .u8 (ρ 1),.int .u8 (ρ 2),.int .u8 (ρ 3),.int .u8 (ρ 4)] 97):=⟨_,rfl⟩;have fV:Hid (KT T0 W W2):=AI (by rw[zm];exact KT.E3 ((Gr.refl W).LK _));have eI:Hid (W2.L[W.L.size]?=U (.cells (NZ ρ) 97 (0,0))):=AI (by rw[zm];exact bo W _);have HOLD:Hid (∀b,b<W.L.size->W2.L[b]?=W.L[b]?):=AI λb hb=>by rw[zm];exact aa _ _ hb
      have zD:W2.L.size=W.L.size+1:=by rw[zm];simp
      have fW:=AI zD;have eJ:=AI zm;have dQ:=AI dP;clear hpl aI dO eH dP zm zD;unfold E6
      gi_wp2
      rw[<-eJ.out];refine⟨fV.out,λo=>?_⟩;clear eJ;have fX:∀b,b<cB.L.size->b≠l:=λb hb=>by omega
      have dR:KA (Ec ls) w9.L.size (w9.L.size+1) (w.L.size+1) (Ho (Ec ls) pre) (W2.LB l o):=by
       have h:=HI.out;have e:∀b,b<cB.L.size->(W2.LB l o).L[b]?=W.L[b]?:=λb hb=>(cq (fX b hb)).trans (HOLD.out b (by omega));exact⟨(e _ (by omega)).trans h.MZ,(e _ (by omega)).trans h.is,(e _ (by omega)).trans h.cost⟩
      have dS:∀i,i<5->(W2.LB l o).S ⟨W.L.size,i,Y⟩=U (.int .u8 (ρ i:Nat)):=λi hi=>by
       rw[(GP (W:=W2.LB l o) ((cq (by omega)).trans eI.out)).1 i];exact xh ρ hi
      have dT:∀i,i<5->(W2.LB l o).S ⟨w1.L.size,i,Y⟩=U (.int .u8 (Ec ls i:Nat)):=λi hi=>by
       rw[cC (by show w1.L.size≠l;omega),A7 (a:=⟨w1.L.size,i,Y⟩) (HOLD.out w1.L.size (by omega))];exact dQ.out i hi
      have hz3:(W2.LB l o).L.size=W.L.size+1:=by simp[World.putObj];exact fW.out
      obtain⟨W3,hW3⟩:∃W3,W3=W2.LB l o:=⟨_,rfl⟩;rw[<-hW3] at dR dS dT hz3 ⊢;have cD:=AI dR;have aQ:=AI dS;have H12:=AI dT;have HZ3:=AI hz3;clear hW3 dR dS dT HI eI HOLD dQ hz3
      gi_wp2
      gi_loopw [18,84] (λv i wr=>∃(j m:Nat),j<=5/\i=J I j/\v=J I (JX ρ (Ec ls) j:Nat)/\wr=W3.drewN m) (λ_ i _=>5-(O i).L)
      case atStart=>exact⟨0,0,by omega,rfl,rfl,rfl⟩
      case round =>
       obtain⟨j,m,hj,rfl,rfl,rfl⟩:=hrel;by_cases hj5:j<5
       .have c17:W3.S ⟨W.L.size,j,Y⟩=U (.int .u8 (ρ j:Nat)):=aQ.out j hj5;have c12:W3.S ⟨w1.L.size,j,Y⟩=U (.int .u8 (Ec ls j:Nat)):=H12.out j hj5;have hx:=ny ⟨ρ j,bQ.out j⟩ ⟨Ec ls j,bM.out j⟩;have fY:=pt (a:=ρ) (b:=Ec ls) (λi hi=>(ny ⟨ρ i,bQ.out i⟩ ⟨Ec ls i,bM.out i⟩).2) j hj;have cE:Hid (JX ρ (Ec ls) (j+1)=JX ρ (Ec ls) j+(wl (ρ j ^^^ Ec ls j)).L):=AI rfl
        have bR:=pq ⟨ρ j ^^^ Ec ls j,hx.2⟩;have dU:=AI (λw=>yN (ρ j ^^^ Ec ls j) w hx.2);simp only at hx bR;obtain⟨hx1,hx2⟩:=hx;generalize ρ j ^^^ Ec ls j=X at hx1 hx2 bR dU cE;generalize ρ j=x at c17 hx1;generalize Ec ls j=y at c12 hx1;generalize JX ρ (Ec ls) j=q at fY cE;generalize (wl X).L=L at cE bR dU
        gi_wp2
        refine fG (F:=Fence.wide) rfl (by kernel_rfl) (by kernel_rfl) (by kernel_rfl) ?_
        repeat (gi_big_quiet_step (fail))
        refine wpQuietIn_step (λw _ f _=>trivial) (λK hK=>?_);go_simp;apply Exists.intro;refine⟨λ_=>?_,hK _ ?_⟩
        .exact⟨rfl,(callsIn_wide.2 (dU.out _)).LT λe w' h=>⟨h.1,_,h.2.LH⟩⟩
        clear hK K
        repeat (gi_big_quiet_step (fail))
        refine wpQuietIn_nil ?_;intro _ hw';obtain⟨nq,hw''⟩:=hw';subst hw''
        gi_wp2
        go_roundw
        case rel=>exact⟨j+1,m+nq,by omega,by go_num,by rw[cE.out];first|rfl|(congr 1;omega),rfl⟩
        case measure=>simp[Proofs.intOf];omega
       .have f6:j=5:=by omega
        subst f6;have cF:=cD.out;have HF5:=pt (a:=ρ) (b:=Ec ls) (λi hi=>(ny ⟨ρ i,bQ.out i⟩ ⟨Ec ls i,bM.out i⟩).2) 5 (AK _);have bG:=AI (jU (Ec ls) pre ρ);obtain⟨cG,nb1,nb2⟩:=one_cell cF.is;obtain⟨aR,nc1,nc2⟩:=one_cell cF.cost;obtain⟨a8,aJ,nd2⟩:=GP cF.MZ;have p0:=aQ.out 0 (by omega);have p1:=aQ.out 1 (by omega);have p2:=aQ.out 2 (by omega);have p3:=aQ.out 3 (by omega)
        have p4:=aQ.out 4 (by omega);have d0:=a8 0;have d1:=a8 1;have d2:=a8 2;have d3:=a8 3;have d4:=a8 4;have f0:=aJ 0;have f1:=aJ 1;have f2:=aJ 2;have f3:=aJ 3;have f4:=aJ 4;generalize Ho (Ec ls) pre=o' at cG aR d0 d1 d2 d3 d4 bG cD;simp only[NZ,BA,Bt,Bz] at d0 d1 d2 d3 d4;clear cF a8 aJ;have dV:Hid (T0 w9.L.size/\T0 (w9.L.size+1)/\T0 (w.L.size+1)):=AI (by rw[bF.out];exact⟨.inl rfl,.inr (.inl rfl),.inr (.inr rfl)⟩)
        have eK:KT T0 W3 (W3.drewN m):=KT.E3 ((Gr.refl W3).drewN m);have dW:=AI eK;have hw9:w.L.size+1<w9.L.size:=by omega
        clear eK;obtain⟨q5,hq5⟩:∃q,q=JX ρ (Ec ls) 5:=⟨_,rfl⟩;rw[<-hq5] at HF5 bG ⊢;clear hq5;have HP:=AI ((cD.out.drewN m).put (by omega) (by omega) (by omega) ρ q5 T0 dV.out.1 dV.out.2.1 dV.out.2.2);cases o' with
        |none =>
         gi_wp2
         refine⟨dW.out.trans HP.out.2,?_⟩;show KA _ _ _ _ (Ho _ (pre++[ρ])) _;rw[bG.out];exact HP.out.1
        |some p =>
         obtain⟨p1,n0⟩:=p;simp only[gl,PE] at cG aR;by_cases zY:q5<n0
         .have f9:(q5:Int)<(n0:Int):=by omega
          gi_wp2
          refine⟨dW.out.trans HP.out.2,?_⟩;show KA _ _ _ _ (Ho _ (pre++[ρ])) _;rw[bG.out];simp only[AP zY];exact HP.out.1
         .have f9:¬(q5:Int)<(n0:Int):=by omega
          gi_wp2
          refine⟨dW.out,?_⟩;show KA _ _ _ _ (Ho _ (pre++[ρ])) _;rw[bG.out];simp only[AN zY];exact cD.out.drewN m
     .intro D W hD aI hi hd;have hw9:w.L.size+1<w9.L.size:=by omega
      have hGW:Gr w W:=KT.gr (T:=λb=>T0 b\/b=a6.L.size+1) (aA.out.gr.trans (eW.out.trans b6.out)) aI (by
       rintro b (h|h)
       .rw[bF.out] at h;omega
       .omega)
      have hzW:=aI.size;have HNR:Hid (Ho (Ec ls) (E4 (Kf c k d) (EN c.D8.L) c.D9.L G8 0)=Ho (Ec ls) (E4 c' (EN c.D8.L) c.D9.L G8 0)):=AI (by rw[HC'.out]);have aK:∀p,Ho (Ec ls) (E4 c' (EN c.D8.L) c.D9.L G8 0)=U p->∀i,i<5->p.1 i<16:=λp hp i _ =>
       sB (by omega) (lH b7.out.1 _ _ _ gJ p.1 (r6 _ _ p rfl hp) i)
      obtain⟨o',dX⟩:∃o',o'=Ho (Ec ls) (E4 c' (EN c.D8.L) c.D9.L G8 0):=⟨_,rfl⟩;rw[<-dX] at aK HNR hi;have HNR2:=AI dX
      have cH:Hid (∀e w',Gr w w'->(match o' with
       |none=>e=.L (.tuple #[.slice Y 0 0,J I 0,J I 11])
       |some p=>∃A k,e=.L (.tuple #[Z A c.D9.L k,J I p.2,J I 0])/\E7 w' w'.L.size A (be p.1 c.D9.L))->jt c ls k d w e w'):=AI λe w' hg h=>by
        refine⟨hg,?_⟩;rw[AN (by simp[HE.out]),AN (by rw[show FM (k:Int) 0 (c.D8.L-1)=ea by unfold FM;simp;omega,<-cU.out];simp),show((k:Int)).L=k from rfl,HNR.out];exact h
      have hcc:W.S ⟨wz.L.size+1,0,Y⟩=U (Z nA c.D9.L nc):=by
       rw[aI.cell (p:=⟨wz.L.size+1,0,Y⟩) (by show wz.L.size+1<_;omega) (by rintro(h|h);exact fR.out _ (.inr (.inl rfl)) h;have h':wz.L.size+1=a6.L.size+1:=h;omega)];have:=eG.out.Gs.c0
       rwa [bZ] at this
      obtain⟨cG,nb1,nb2⟩:=one_cell hi.is;obtain⟨aR,nc1,nc2⟩:=one_cell hi.cost;obtain⟨a8,aJ,nd2⟩:=GP hi.MZ;have eL:=AI hGW;have cI:=AI hd;have cJ:D≠w.L.size+1:=by omega
      have fA:wz.L.size+1<W.L.size:=by omega
      have fC:=AI aK;clear aI hi hGW hd dX aK;cases o' with
      |none =>
       have HDS:Hid ((W.LH ⟨w.L.size+1,0,Y⟩ (J I 0)).L[D]?=U (.S (U []))):=AI ((Bb _ _ _ _ cJ).trans cI.out);go_wp2;refine en HDS.out (v:=.tuple #[.slice Y 0 0,J I 0,J I 11]) ?_ (cH.out _ _ ((eL.out.LH (by show _<=w.L.size+1;omega) _).LB (by omega) _) rfl);have:=cC (W:=W.LH ⟨w.L.size+1,0,Y⟩ (J I 0)) (D:=D) (o:=.S Y) (p:=⟨w.L.size+1,0,Y⟩) (dy cJ)
       rw[Ba _ _ _ aR] at this;simp[results,cw,go_sem,this]
      |some p =>
       obtain⟨p1,n0⟩:=p;have HL:=AI (pi (wz.L.size+1) nA c.D9.L nc p1 W.drew fA hcc fF (fC.out _ rfl));have d0:=a8 0;have d1:=a8 1;have d2:=a8 2;have d3:=a8 3;have d4:=a8 4;simp only[NZ,Rs,BA,Bt,Bz] at d0 d1 d2 d3 d4;simp only[gl,PE] at cG aR;unfold E6 at HL;clear a8 aJ;go_wp2;refine mh ?_;go_region_with (first|(go_at_call 59;refine HL.out.LT ?_;rintro e w3 ⟨A3,c3,xs3,rfl,eM,zH⟩;have q0:=(zH.cell (p:=⟨w.L.size+1,0,Y⟩) (by show w.L.size+1<W.L.size;omega)).trans aR;have q1:=(zH.frozen (p:=⟨w.L.size+1,0,Y⟩) (by show w.L.size+1<W.L.size;omega)).trans nc1;have aC:=AI zH;have HOG:=AI eM;clear zH eM))
       all_goals
        go_wp2;have hz3:=aC.out.size;have hz3':W.L.size<=w3.L.size:=hz3;have hD3:(w3.LH ⟨w.L.size+1,0,Y⟩ (J I (n0:Nat))).L[D]?=U (.S (U [])):=(Bb _ _ _ _ cJ).trans ((aC.out.Li.LE D (AJ.1 cI.out).1).trans cI.out);have fD:EH ((w3.LH ⟨w.L.size+1,0,Y⟩ (J I (n0:Nat))).LB D (.S Y)) (W.drew.L.size+1) (Z A3 c.D9.L c3) (be p1 c.D9.L) xs3:=HOG.out.keep' λb hb hl=>by
         have hDl:=(AJ.1 cI.out).1;have hb':W.L.size+1<=b:=hb;rw[cq (by omega),Bb _ _ _ _ (by show b≠w.L.size+1;omega)]
        obtain⟨A4,c4,e4,fE⟩:=fD.LH;rw[eZ] at e4;refine en hD3 (v:=.tuple #[Z A3 c.D9.L c3,J I (n0:Nat),J I 0]) ?_ (cH.out _ _ (((eL.out.drew.trans aC.out).LH (by show _<=w.L.size+1;omega) _).LB (by omega) _) ⟨A4,c4,by rw[e4],fE⟩);have:=cC (W:=w3.LH ⟨w.L.size+1,0,Y⟩ (J I (n0:Nat))) (D:=D) (o:=.S Y) (p:=⟨w.L.size+1,0,Y⟩) (dy cJ)
        rw[Ba _ _ _ q0] at this;simp[results,cw,go_sem,this]
 .rw[AN hE] at hf;obtain⟨p,r,rfl⟩:=hf;have HE:=AI hE;obtain⟨q,hq⟩:∃q,q=Et c ls:=⟨_,rfl⟩;rw[<-hq] at hE ⊢;have HQ:=AI hq;have gB:(q != 0)=true:=by simp[hE]
  obtain⟨aD,bU,cN⟩:=one_cell aU.out;have HX:=AI (show Gr w (w1.LK (G #[.int .u8 (r 0),.int .u8 (r 1),.int .u8 (r 2),.int .u8 (r 3),.int .u8 (r 4)] 97)) from bT.out.LK _);clear hE hq zJ aT;unfold E6;go_wp2;have hres:((w1.LH ⟨w.L.size+1,0,Y⟩ (J I 0)).LK (G #[.int .u8 (r 0),.int .u8 (r 1),.int .u8 (r 2),.int .u8 (r 3),.int .u8 (r 4)] 97)).S ⟨w.L.size+1,0,Y⟩=U (J I 0):=by
   rw[Bi _ _ _ (by simp[H];exact cN)];exact Ba _ _ _ aD
  refine fT (v:=.tuple #[.slice Y 0 0,J I 0,J I q]) (by simp[results,cw,go_sem,hres]) ⟨(bT.out.LH (by show _<=w.L.size+1;omega) _).LK _,?_⟩;rw[AP HE.out,HQ.out]
def bM (A A':Option bq)(c c':Nat)(l m:List Int)(w:C)(B:Nat)(hB:B<=w.L.size)(h:RI w B A l)(h':RI w B A' m)(hl:l.L<=4611686018427387904)(hm:m.L<=4611686018427387904) :
  bs D7 17 #[Z A l.L c,Z A' m.L c'] w λe w'=>e=.L (.bool (bh (l=m)))/\Gr w w':=by
 have HR:=AI h;have a6:=AI h';go_enter Sq.func17,Tryz.ntmps17;by_cases zk:l.L=m.L
 .go_wp2;go_loopw [5] (λi wr=>∃k:Nat,k<=l.L/\i=J I k/\l.LT k=m.LT k/\Gr w wr) (λi _=>l.L-(O i).L)
  case atStart=>exact⟨0,by omega,rfl,by simp,.refl _⟩
  case round =>
   obtain⟨k,hk,rfl,heq,hg⟩:=hrel;have HG:=AI hg;have HE:=AI heq;by_cases zY:k<l.L
   .obtain⟨b,o,rfl,hb,hc⟩:=(HR.out.gr hB HG.out).at_ zY;obtain⟨b',o',rfl,hb',hc'⟩:=(a6.out.gr hB HG.out).at_ (show k<m.L by omega);have HD:=AI (wI l m k zY (by omega));generalize l[k]?.LH 0=x at hc HD;generalize m[k]?.LH 0=y at hc' HD;by_cases h1:x=y
    .have HS:=AI (HD.out.1 HE.out h1);subst h1;clear HD;go_wp2;go_region;go_wp2;go_roundw
     case rel=>exact⟨k+1,by omega,by go_num,HS.out,HG.out.drew⟩
     case measure=>simp[Proofs.intOf];omega
    .have HS:=AI (HD.out.2 h1);have zU:bh (x≠y)=true:=by simp[h1]
     go_wp2;go_region;go_wp2;go_ret;exact⟨aq (by simp[HS.out]),HG.out.drew⟩
   .have a7:k=l.L:=by omega
    have HS:=AI (show l=m by have:=HE.out;rw[a7,Bm (by omega),Bm (by omega)] at this;exact this);go_wp2;go_ret;exact⟨aq (by simp[HS.out]),HG.out⟩
 .have zU:l≠m:=λe=>zk (by rw[e]);have HN:=AI zU;go_wp2;go_ret;exact⟨aq (by simp[HN.out]),.refl _⟩
def ey (A A':Option bq)(c c':Nat)(l m:List (List Int))(w:C)(B:Nat)(hB:B<=w.L.size)(h:E7 w B A l)(h':E7 w B A' m)(hl:l.L<=4611686018427387904)(hm:m.L<=4611686018427387904)
  (zC:∀x∈l,x.L<=4611686018427387904) (aC:∀x∈m,x.L<=4611686018427387904) :
  bs D7 24 #[Z A l.L c,Z A' m.L c'] w λe w'=>e=.L (.bool (bh (l=m)))/\Gr w w':=by
 have HR:=AI h;have aG:=AI h';have aH:=AI zC;have aI:=AI aC;clear h h' zC aC;go_enter Sq.func24,Tryz.ntmps24;by_cases zk:l.L=m.L
 .rw[<-zk];have HLEN:=AI zk;clear zk;have aD:∀k,k<l.L->k<m.L:=λk hk=>by have:=HLEN.out;omega
  have a8:=AI aD;clear aD;go_wp2;go_loopw [5] (λi wr=>∃k:Nat,k<=l.L/\i=J I k/\l.LT k=m.LT k/\Gr w wr) (λi _=>l.L-(O i).L)
  case atStart=>exact⟨0,by omega,rfl,by simp,.refl _⟩
  case round =>
   obtain⟨k,hk,rfl,heq,hg⟩:=hrel;have HG:=AI hg;have HE:=AI heq;clear hg heq;by_cases zY:k<l.L
   .obtain⟨b,o,A1,c1,rfl,hb,hc,hr⟩:=(HR.out.gr hB HG.out).at_ zY;obtain⟨b',o',A2,c2,rfl,hb',hc',a7⟩:=(aG.out.gr hB HG.out).at_ (a8.out k zY);have HD:=AI (uq l m k zY (a8.out k zY));have hx:=aH.out _ (gI l k zY);have hy:=aI.out _ (gI m k (a8.out k zY));generalize l[k]?.LH []=x at hc HD hr hx;generalize m[k]?.LH []=y at hc' HD a7 hy;have zv:=HG.out.size;have a6:Hid (∀q,q=wr\/q=wr.drew->bs D7 17 #[Z A1 x.L c1,Z A2 y.L c2] q λe w'=>e=.L (.bool (bh (x=y)))/\Gr q w'):=AI λq hq=>by
     obtain rfl|rfl:=hq
     .exact bM A1 A2 c1 c2 x y _ B (by omega) hr a7 hx hy
     .exact bM A1 A2 c1 c2 x y _ B (by show B<=wr.L.size;omega) hr a7 hx hy
    clear hr a7 hx hy;by_cases h1:x=y
    .have HS:=AI (HD.out.1 HE.out h1);have aA:Hid (∀q,q=wr\/q=wr.drew->bs D7 17 #[Z A1 x.L c1,Z A2 y.L c2] q λe w'=>e=.L (.bool ea)/\Gr q w'):=AI λq hq=>(a6.out q hq).LT λe w' h=>⟨h.1.trans (aq (by simp[h1])),h.2⟩;clear h1 HD a6;go_wp2;go_region_with (first|(go_at_call 17;refine(aA.out _ (by first|exact iv rfl|exact gg rfl)).LT ?_;rintro e w3 ⟨rfl,zH⟩;have q0:=(zH.cell (p:=⟨b,o+k,Y⟩) (by show b<wr.L.size;omega)).trans hc;have q1:=(zH.cell (p:=⟨b',o'+k,Y⟩) (by show b'<wr.L.size;omega)).trans hc';have aB:=AI (show Gr w w3 from(by first|exact HG.out.trans zH|exact HG.out.drew.trans zH));clear zH))
     all_goals
      go_wp2;go_roundw
      case rel=>exact⟨k+1,by omega,by go_num,HS.out,aB.out⟩
      case measure=>simp[Proofs.intOf];omega
    .have HS:=AI (HD.out.2 h1);have aA:Hid (∀q,q=wr\/q=wr.drew->bs D7 17 #[Z A1 x.L c1,Z A2 y.L c2] q λe w'=>e=.L (.bool bw)/\Gr q w'):=AI λq hq=>(a6.out q hq).LT λe w' h=>⟨h.1.trans (aq (by simp[h1])),h.2⟩;clear h1 HD a6;go_wp2;go_region_with (first|(go_at_call 17;refine(aA.out _ (by first|exact iv rfl|exact gg rfl)).LT ?_;rintro e w3 ⟨rfl,zH⟩;have q0:=(zH.cell (p:=⟨b,o+k,Y⟩) (by show b<wr.L.size;omega)).trans hc;have q1:=(zH.cell (p:=⟨b',o'+k,Y⟩) (by show b'<wr.L.size;omega)).trans hc';have aB:=AI (show Gr w w3 from(by first|exact HG.out.trans zH|exact HG.out.drew.trans zH));clear zH))
     all_goals
      go_wp2;go_ret;exact⟨aq (by simp[HS.out]),aB.out⟩
   .have aF:k=l.L:=by omega
    have HS:=AI (show l=m by have:=HE.out;rw[aF,Bm (by omega),Bm (by have:=HLEN.out;omega)] at this;exact this);clear aF;go_wp2;go_ret;exact⟨aq (by simp[HS.out]),HG.out⟩
 .have zU:l≠m:=λe=>zk (by rw[e]);have HN:=AI zU;clear zU;go_wp2;go_ret;exact⟨aq (by simp[HN.out]),.refl _⟩
structure Hand (w:C)(hb B:Nat)(A:Option bq)(cap:Nat)(l:List Int)(N:Nat):Prop where
 obj:∃n:Nat,∃s:Int,w.L[hb]?=U (G #[Z A l.L cap,J I n,.int .u64 s] 68 (0,0))/\n<=N
 M3:RI w B A l
 apart:B<=hb
def Hand.lt {w:C}{hb B:Nat}{A:Option bq}{cap:Nat}{l:List Int}{N:Nat}(h:Hand w hb B A cap l N):hb<w.L.size:=by
 obtain⟨n,s,h1,_⟩:=h.obj;exact(AJ.1 h1).1
def Hand.more {w:C}{hb B:Nat}{A:Option bq}{cap:Nat}{l:List Int}{N M:Nat}(h:Hand w hb B A cap l N)(hm:N<=M):Hand w hb B A cap l M:=by
 obtain⟨n,s,h1,h2⟩:=h.obj;exact⟨⟨n,s,h1,by omega⟩,h.M3,h.apart⟩
def Hand.gr {w w':C}{hb B:Nat}{A:Option bq}{cap:Nat}{l:List Int}{N:Nat}(h:Hand w hb B A cap l N)(hg:Gr w w'):Hand w' hb B A cap l N:=by
 have hl:=h.lt;obtain⟨n,s,h1,h2⟩:=h.obj;exact⟨⟨n,s,(hg.Li.LE hb hl).trans h1,h2⟩,h.M3.gr (by have:=h.apart;omega) hg,h.apart⟩
abbrev KH (hb:Nat)(w w':C):Prop:=KT (·=hb) w w'
def kk (x y:Int):0<=bits BinOp.xor IntKind.u64 x y:=by
 unfold bits ez;have h:IntKind.u64.signed=false:=rfl;simp only[h,Cf,Bj,if_false];exact Int.emod_nonneg _ (by decide)
def yQ (hb B:Nat)(A:Option bq)(cap:Nat)(l:List Int)(N:Nat)(w:C)(h:Hand w hb B A cap l N)(hN:N<=1048576) :
  bs D7 38 #[.S (U ⟨hb,0,Y⟩)] w λe w'=>(∃v:Int,e=.L (.int .u64 v)/\0<=v)/\Hand w' hb B A cap l (N+1)/\KH hb w w':=by
 obtain⟨n,s,a6,hn⟩:=h.obj;have HH:=AI h;have c0:w.S ⟨hb,0,Y⟩=U (Z A l.L cap):=by unfold ek;rw[a6];rfl
 have c1:w.S ⟨hb,1,Y⟩=U (J I n):=by unfold ek;rw[a6];rfl
 have c2:w.S ⟨hb,2,Y⟩=U (.int .u64 s):=by unfold ek;rw[a6];rfl
 have f1:w.O ⟨hb,1,Y⟩=false:=by unfold cf;rw[a6];rfl
 have f2:w.O ⟨hb,2,Y⟩=false:=by unfold cf;rw[a6];rfl
 have HO:=AI a6;clear h a6;have key : ∀ (v x y : Int) (W : C), W.L = ((w.LH ⟨hb, 1, Y⟩ (J I (n + 1 : Nat))).LH ⟨hb, 2, Y⟩ (.int .u64 y)).L -> W.os = w.os -> W.tape = w.tape -> W.output = w.output -> w.drawn <= W.drawn -> 0 <= v ->
   (∃v':Int,ed (.int .u64 v)=.L (.int .u64 v')/\0<=v')/\Hand W hb B A cap l (N+1)/\KH hb w W:=λv x y W hW e1 e2 e3 e4 hv=>by
  have hB:=HH.out.apart;have zY:=HH.out.lt;have a7:∀b,b≠hb->W.L[b]?=w.L[b]?:=λb zU=>by
   rw[hW,Bb _ _ _ _ zU,Bb _ _ _ _ zU]
  refine⟨⟨v,rfl,hv⟩,⟨⟨n+1,y,?_,by omega⟩,HH.out.M3.keep λb o hb'=>A7 (a7 b (by omega)),hB⟩,⟨e1,e2,e3,e4,?_,λb _ zU=>a7 b zU⟩⟩
  .rw[hW];exact aL (aL HO.out)
  .rw[hW];simp[H]
 have HKEY:=AI key;clear key;go_enter Sq.func38,Tryz.ntmps38;by_cases zY:n<l.L
 .obtain⟨b,o,rfl,hb',a8⟩:=HH.out.M3.at_ zY;generalize l[n]?.LH 0=x at a8;go_wp2;go_region
  all_goals
   go_wp2;go_region
   all_goals
    go_wp2;go_ret;refine HKEY.out _ 0 _ _ rfl rfl rfl rfl (by simp[jk,H]<;>omega) ?_;exact Dn (kk _ _) (by omega)
 .go_wp2;go_region
  all_goals
   go_wp2;go_ret;refine HKEY.out _ 0 _ _ rfl rfl rfl rfl (by simp[jk,H]<;>omega) ?_;exact Dn (kk _ _) (by omega)
def eO (hb B:Nat)(A:Option bq)(cap:Nat)(l:List Int)(N:Nat)(m:Int)(w:C)(h:Hand w hb B A cap l N)(hN:N<=1048576)(hm:m<=1048576) :
  bs D7 12 #[.S (U ⟨hb,0,Y⟩),J I m] w λe w'=>(∃k:Nat,e=.L (J I k)/\((k:Int)<=m\/k=0))/\Hand w' hb B A cap l (N+1)/\KH hb w w':=by
 have HP:=AI (yQ hb B A cap l N w h hN);have HH:=AI h;go_enter Sq.func12,Tryz.ntmps12;by_cases hm0:m<=0
 .go_wp2;go_ret;exact⟨⟨0,rfl,.inr rfl⟩,HH.out.more (by omega),KT.refl _ _⟩
 .go_wp2_with fail;refine HP.out.LT ?_;rintro e w' ⟨⟨v,rfl,hv⟩,hh,hk⟩;have a6:=AI hh;have HK:=AI hk;have h1:IntKind.u64.wrap (m+1)=m+1:=by simp[ez,hZ,fx];omega
  have h2:v % (m+1)<m+1:=Int.emod_lt_of_pos _ (by omega);have h3:0<=v % (m+1):=Int.emod_nonneg _ (by omega);go_wp2;go_ret;obtain⟨k,hk⟩:∃k:Nat,v % (m+1)=k:=⟨(v % (m+1)).L,by omega⟩;exact⟨⟨k,by show ed (J I (v % (m+1)))=_;rw[hk],.inl (by omega)⟩,a6.out,HK.out⟩
def fi (hb B:Nat)(A:Option bq)(cap:Nat)(l:List Int)(N:Nat)(lo hi:Int)(w:C)(h:Hand w hb B A cap l N)(hN:N<=1048576)(h1:0<=lo/\lo<=1048576)(h2:lo<=hi/\hi<=1048576) :
  bs D7 33 #[.S (U ⟨hb,0,Y⟩),J I lo,J I hi] w λe w'=>(∃k:Nat,e=.L (J I k)/\lo<=k/\(k:Int)<=hi)/\Hand w' hb B A cap l (N+1)/\KH hb w w':=by
 have HP:=AI (eO hb B A cap l N (hi-lo) w h hN (by omega));go_enter Sq.func33,Tryz.ntmps33;go_wp2_with fail;refine HP.out.LT ?_;rintro e w' ⟨⟨k,rfl,hk⟩,hh,a6⟩;have a7:=AI hh;have HK:=AI a6;go_wp2;go_ret;obtain⟨q,hq⟩:∃q:Nat,lo+k=q:=⟨(lo+k).L,by omega⟩;exact⟨⟨q,by show ed (J I (lo+k))=_;rw[hq],by omega,by omega⟩,a7.out,HK.out⟩
def jv (hb B:Nat)(A A2:Option bq)(cap c2:Nat)(l m:List Int)(N:Nat)(x:Int)(w:C)(h:Hand w hb B A cap l N)(hN:N<=1048576)(hm:m.L<=1048576)(aD:Ie w (λb=>b≠hb/\b<w.L.size) A2 m) :
  bs D7 34 #[.S (U ⟨hb,0,Y⟩),J I x,Z A2 m.L c2] w λe w'=>(∃k:Int,e=.L (J I k)/\k∈x::m)/\Hand w' hb B A cap l (N+1)/\KH hb w w':=by
 have HP:=AI (eO hb B A cap l N m.L w h hN (by omega));have HR:=AI aD;go_enter Sq.func34,Tryz.ntmps34;go_wp2_with fail;refine HP.out.LT ?_;rintro e w' ⟨⟨k,rfl,hk⟩,hh,a7⟩;have aA:=AI hh;have HK:=AI a7;by_cases aB:k=0
 .subst aB;clear hh a7 HP;go_wp2;go_ret;exact⟨⟨x,rfl,Cg⟩,aA.out,HK.out⟩
 .have a6:k-1<m.L:=by omega
  obtain⟨b,o,rfl,zp,aC⟩:=HR.out (λe=>by rw[e] at a6;simp at a6);have hc:=aC (k-1) _ (AL a6);have zr:w'.S ⟨b,o+(k-1),Y⟩=U (J I m[k-1]):=(A7 (a7.LE b zp.2 zp.1)).trans hc;have a8:Hid (m[k-1]∈x::m):=AI (Cp _ (BN a6));generalize m[k-1]=y at zr a8;have e1:((k:Int)-1)=((k-1:Nat):Int):=by omega
  obtain⟨q,hq⟩:∃q,q=k-1:=⟨_,rfl⟩;rw[<-hq] at zr e1 a6;obtain rfl:k=q+1:=by omega
  clear hh a7 HP aC hc aB hq e1;have e2:((q+1:Nat):Int)-1=(q:Int):=by omega
  go_wp2;go_ret;exact⟨⟨y,rfl,a8.out⟩,aA.out,HK.out⟩
def sI (hb B:Nat)(A:Option bq)(cap:Nat)(l:List Int)(N:Nat)(a b:Int)(w:C)(h:Hand w hb B A cap l N)(hN:N<=1048576)(hb1:0<=b/\b<=1048576) :
  bs D7 35 #[.S (U ⟨hb,0,Y⟩),J I a,J I b] w λe w'=>(∃v:Bool,e=.L (.bool v))/\Hand w' hb B A cap l (N+1)/\KH hb w w':=by
 have HP:=AI (eO hb B A cap l N (b-1) w h hN (by omega));go_enter Sq.func35,Tryz.ntmps35;go_wp2_with fail;refine HP.out.LT ?_;rintro e w' ⟨⟨k,rfl,hk⟩,hh,a6⟩;have a7:=AI hh;have HK:=AI a6;go_wp2;go_ret;exact⟨⟨_,rfl⟩,a7.out,HK.out⟩
def sJ (A:Option bq)(cap:Nat)(l:List Int)(w:C)(h:RI w w.L.size A l) :
  bs D7 7 #[Z A l.L cap] w λe w'=>e=.L (.S (U ⟨w.L.size,0,Y⟩))/\Hand w' w.L.size w.L.size A cap l 0/\Gr w w':=by
 have HR:=AI h;go_enter Sq.func7,Tryz.ntmps7;go_wp2;go_ret;exact⟨rfl,⟨⟨0,88172645463325252,bo _ _,AK _⟩,HR.out.gr (AK _) ((Gr.refl w).LK _),AK _⟩,(Gr.refl w).LK _⟩
def EF (p:Nat->Bool)(k:Nat):List Int:=((er k).S p).map λn:Nat=>(n:Int)
def iG {p q:Nat->Bool}{k:Nat}(h:∀i,i<k->p i=q i):EF p k=EF q k:=by
 unfold EF;congr 1;exact List.filter_congr λi hi=>h i (BQ.1 hi)
def i9 (p:Nat->Bool)(k:Nat):EF p (k+1)=EF p k++if p k=ea then[(k:Int)] else[]:=by
 unfold EF;rw[C6,CY,Cx];cases h:p k<;>simp[h]
def Hh {p:Nat->Bool}{k:Nat}{x:Int}:x∈EF p k↔∃n:Nat,x=n/\n<k/\p n=true:=by
 unfold EF;simp only[Bu,CJ,BQ];constructor
 .rintro⟨n,⟨h1,h2⟩,rfl⟩;exact⟨n,rfl,h1,h2⟩
 .rintro⟨n,rfl,h1,h2⟩;exact⟨n,⟨h1,h2⟩,rfl⟩
def dR (p:Nat->Bool)(k:Nat):(EF p k).L<=k:=by
 unfold EF;rw[BD];exact AU (Da _ _) (by simp)
def km (p:Nat->Bool)(k:Nat):(EF p k).Pairwise (·<·):=by
 unfold EF;rw[List.pairwise_map];exact(List.Pairwise.filter _ List.pairwise_lt_range).imp λh=>by omega
def sK (p:Nat->Bool)(k:Nat):Fz (EF p k) k=0:=by
 rw[lC];intro i hi;have h1:=Hh.1 (GA (EF p k) i hi);obtain⟨n,e,hn,_⟩:=h1;unfold Gi;rw[AP (by rw[e];omega),AN];rintro⟨h0,zX⟩;have:=List.pairwise_iff_getElem.1 (km p k) (i-1) i (by omega) hi (by omega);rw[AL hi,AL (by omega)] at zX;simp only[Bf] at zX;omega
def F7 {w2 w3:C}{base size n:Nat}{e:fq}{v:bb}{xs:List bb}{o:Obj}(zl:w2.H base e size v n xs)(hg:(w2.LK o).grownBy w3 v.L)(b:Nat)(hb:b<base)(hl:b<w2.L.size):w3.L[b]?=w2.L[b]?:=by
 rw[hg.LE b (by simp;omega) (cr zl hb),aa _ _ hl]
def fd {w2 w3:C}{v:bb}{o:Obj}(hg:(w2.LK o).grownBy w3 v.L):w2.L.size+1<=w3.L.size:=by have:=hg.size;simpa using this
def ee {w0 w2 w3:C}{hb base size n:Nat}{e:fq}{v:bb}{xs:List bb}{o:Obj}(hK:KT (·=hb) w0 w2)(zl:w2.H base e size v n xs)(hbase:w0.L.size<=base)(hg:(w2.LK o).grownBy w3 v.L)(hd:(w2.LK o).drawn<=w3.drawn):KT (·=hb) w0 w3 :=
 ⟨hg.os.trans hK.os,hg.tape.trans hK.tape,hg.output.trans hK.output,AU hK.drawn hd,by have:=fd hg;have:=hK.size;omega,λb hb' zU=>(F7 zl hg b (by omega) (by have:=hK.size;omega)).trans (hK.LE b hb' zU)⟩
def cY {w2 w3:C}{hb B cap N base size n:Nat}{A:Option bq}{l:List Int}{e:fq}{v:bb}{xs:List bb}{o:Obj}(h:Hand w2 hb B A cap l N)(zl:w2.H base e size v n xs)(hbase:hb<base)(hg:(w2.LK o).grownBy w3 v.L):Hand w3 hb B A cap l N:=by
 have hl:=h.lt;obtain⟨m,s,ho,hm⟩:=h.obj;exact⟨⟨m,s,(F7 zl hg hb hbase hl).trans ho,hm⟩,h.M3.keep λb o hb'=>A7 (F7 zl hg b (by have:=h.apart;omega) (by have:=h.apart;omega)),h.apart⟩
def fE {w w':C}{base size n hb:Nat}{v:bb}{e:fq}{xs:List bb}(h:w.H base e size v n xs)(hb':hb<base)(k:KT (·=hb) w w'):w'.H base e size v n xs :=
 ap h λg hg hl=>k.LE g hl λe=>by have:=(h.lt g hg).1;omega
def yR (hb B:Nat)(A:Option bq)(cap:Nat)(l:List Int)(N n:Nat)(w:C)(h:Hand w hb B A cap l N)(hN:N<=1000000)(hn:n<=64) :
  bs D7 36 #[.S (U ⟨hb,0,Y⟩),J I n] w λe w'=>∃v p,e=.L v/\w'.H w.L.size 3 1 v (EF p n).L ((EF p n).map (J I))/\Hand w' hb B A cap l (N+n)/\KH hb w w':=by
 have HH:=AI h;have zY:=h.lt;go_enter Sq.func36,Tryz.ntmps36;go_wp2;go_loopw [5,6] (λv i wr=>∃k:Nat,k<=n/\i=J I k/\∃p,wr.H w.L.size 3 1 v (EF p k).L ((EF p k).map (J I))/\Hand wr hb B A cap l (N+k)/\KH hb w wr) (λ_ i _=>n-(O i).L)
 case atStart=>exact⟨0,by omega,rfl,λ_=>false,Bs _ _ _ _,HH.out,KT.refl _ _⟩
 case round =>
  obtain⟨k,hk,rfl,p,zl,hh,a6⟩:=hrel;have hz:=a6.size;have HK:=AI a6;have HO:=AI zl;by_cases hlk:k<n
  .have HC:=AI (sI hb B A cap l (N+k) 1 2 wr hh (by omega) (by omega));go_wp2_with fail;refine HC.out.LT ?_;rintro e w2 ⟨⟨v,rfl⟩,hh,a6⟩;have aA:=AI (HK.out.trans a6);have hown2:=fE HO.out zY a6;have a7:=AI hh;have zD:=a6.size;have aC:=AI hown2;have HP:=AI (i9 (λj=>if j=k then v else p j) k);have aB:=AI (iG (p:=λj=>if j=k then v else p j) (q:=p) (k:=k) λi hi=>AN (by omega));have aH:=dR p k
   cases v with
   |true =>
    go_wp2_with (at_builtin;refine fP rfl _ _ rfl w.L.size _ _ _ rfl (hown2.LK _) ⟨w2.L.size,0,Y⟩ 1 (J I k) rfl ?c1 rfl ?c2 ?c3 ?_)
    case c1=>rw[AM _ _ _ _ (by simp)];rfl
    case c2=>omega
    case c3=>simp;omega
    intro v' w3 hown' hgrow hd;have aD:=AI (ee aA.out hown2 (AK _) hgrow hd)
    have a8:Hid (w3.H w.L.size 3 1 v' (EF (λj=>if j=k then ea else p j) (k+1)).L ((EF (λj=>if j=k then ea else p j) (k+1)).map (J I))):=AI (by
     rw[HP.out,aB.out,AP (by simp)];simpa using hown')
    have aF:=AI ((cY a7.out hown2 zY hgrow).more (M:=N+(k+1)) (by omega));go_wp2;go_roundw
    case rel=>exact⟨k+1,by omega,by go_num,_,a8.out,aF.out,aD.out⟩
    case measure=>simp[Proofs.intOf];omega
   |false =>
    have a8:Hid (w2.H w.L.size 3 1 _ (EF (λj=>if j=k then bw else p j) (k+1)).L ((EF (λj=>if j=k then bw else p j) (k+1)).map (J I))):=AI (by
     rw[HP.out,aB.out,AN (by simp)];simpa using aC.out)
    go_wp2;go_roundw
    case rel=>exact⟨k+1,by omega,by go_num,_,a8.out,a7.out,aA.out⟩
    case measure=>simp[Proofs.intOf];omega
  .have aG:k=n:=by omega
   subst aG;have a7:=AI hh;go_wp2;go_ret;exact⟨_,p,rfl,HO.out,a7.out,HK.out⟩
def GI (c:Ek):Bool:=(c.D8.LT 20).all (λh=>decide (h.off.L<=20))&&bh (c.D9.L<=20)&&bh (c.D8.L<=20)
def J2 (ls:List (List Int)):Bool:=(ls.LT 20).all (λl=>decide (l.L<=20))&&bh (ls.L<=20)
def N8 {c:Ek}(h:GI c=ea):c.D9.L<=20/\c.D8.L<=20/\∀x∈c.D8,x.off.L<=20:=by
 simp only[GI,AY,decide_eq_true_eq,BO] at h;obtain⟨⟨h1,h2⟩,h3⟩:=h;rw[Bm h3] at h1;exact⟨h2,h3,h1⟩
def PF {ls:List (List Int)}(h:J2 ls=ea):ls.L<=20/\∀x∈ls,x.L<=20:=by
 simp only[J2,AY,decide_eq_true_eq,BO] at h;obtain⟨h1,h3⟩:=h;rw[Bm h3] at h1;exact⟨h3,h1⟩
def vF (A:Option bq)(c:Nat)(ls:List (List Int))(w:C)(B:Nat)(hg:E7 w B A ls)(hl:ls.L<=9223372036854775807)(zC:∀x∈ls,x.L<=9223372036854775807) :
  bs D7 5 #[Z A ls.L c] w λe w'=>e=.L (.bool (J2 ls))/\w=w':=by
 have HG:=AI hg;have HL:=AI zC;go_enter Sq.func5,Tryz.ntmps5;go_wp2;go_loop [3] (λi=>∃k:Nat,k<=ls.L/\k<=20/\i=J I k/\∀x∈ls.LT k,x.L<=20) (λi=>20-(O i).L)
 case atStart=>exact⟨0,by omega,by omega,rfl,by simp⟩
 case round =>
  obtain⟨k,hk,zn,rfl,hz⟩:=hrel;have HZ:=AI hz;by_cases zY:k<ls.L/\k<20
  .obtain⟨zY,a6⟩:=zY;obtain⟨b,o,rfl,hb,a8⟩:=HG.out (λe=>by rw[e] at zY;simp at zY);obtain⟨A',c',hcell,aB⟩:=a8 k _ (AL zY);have aA:=HL.out _ (BN zY);have HX:Hid (ls.LT (k+1)=ls.LT k++[ls[k]]):=AI (by rw[CN,AL zY];rfl);have HM:Hid (ls[k]∈ls.LT 20):=AI (C2.2 ⟨k,by rw[Cl,AP a6,AL zY]⟩);generalize ls[k]=x at hcell aA HX HM;by_cases hx:x.L<=20
   .have HN : Hid (∀ y ∈ ls.LT (k + 1), y.L <= 20) := Lib.hid fun y hy => by
     rw[HX.out] at hy;obtain hy|hy:=BH.1 hy
     .exact HZ.out y hy
     .simp only[AT,AQ,or_false] at hy;subst hy;exact hx
    have aC:bh ((x.L:Int) > 20)=false:=by simp;omega
    go_wp2;go_round
    case rel=>exact⟨k+1,by omega,by omega,by go_num,HN.out⟩
    case measure=>simp[Proofs.intOf];omega
   .have HS := Lib.hid (show J2 ls = bw by
     have:(ls.LT 20).all (λl=>decide (l.L<=20))=false:=fc.2 ⟨x,HM.out,by simpa using hx⟩
     simp[J2,this])
    go_wp2;go_ret;exact⟨aq HS.out.LH,rfl⟩
  .have HT : Hid (J2 ls = bh ((ls.L : Int) <= 20)) := Lib.hid (by
    have:(ls.LT 20).all (λl=>decide (l.L<=20))=true:=BO.2 λy hy=>by
     have e:ls.LT 20=ls.LT k:=by
      obtain h|h:=BV k ls.L
      .have:k=20:=by omega
       rw[this]
      .rw[Bm h,Bm (by omega)]
     rw[e] at hy;simpa using HZ.out y hy
    simp only[J2,this,Cm]
    exact decide_eq_decide.2 (by omega))
   by_cases Gg:k<ls.L
   .have a7:k=20:=by omega
    subst a7;go_wp2;go_ret;exact⟨aq HT.out.LH,rfl⟩
   .have aD:k=ls.L:=by omega
    go_wp2;go_ret;exact⟨aq HT.out.LH,rfl⟩
def kW (nA hA:Option bq)(nc hc:Nat)(c:Ek)(w:C)(B:Nat)(hB:B<=w.L.size)(hh:Fe w B hA c.D8)(Gg:c.D9.L<=9223372036854775807)(zC:c.D8.L<=9223372036854775807)(Fa:∀h∈c.D8,h.off.L<=9223372036854775807) :
  bs D7 4 #[En nA hA c nc hc] w λe w'=>e=.L (.bool (GI c))/\Gr w w':=by
 unfold En;obtain⟨W0,zM⟩:∃W0:C,W0=w.LK (G #[Z nA c.D9.L nc,Z hA c.D8.L hc] 25):=⟨_,rfl⟩;have zL:Gr w W0:=zM▸(Gr.refl w).LK _;have zF:W0.L.size=w.L.size+1:=by rw[zM];simp
 have HG:=AI (hh.keep λb o hb=>zL.cell (AO hb hB));have HL:=AI Fa;have a6:=AI zL;have zo:W0.S ⟨w.L.size,0,Y⟩=U (Z nA c.D9.L nc):=by rw[zM,AM _ _ _ _ rfl];rfl
 have zu:W0.S ⟨w.L.size,1,Y⟩=U (Z hA c.D8.L hc):=by rw[zM,AM _ _ _ _ rfl];rfl
 have HW:=AI zM;have aB:w.L.size<W0.L.size:=by omega
 clear hh Fa zL zM;go_enter Sq.func4,Tryz.ntmps4;go_wp2;rw[<-HW.out];go_loop [3] (λi=>∃k:Nat,k<=c.D8.L/\k<=20/\i=J I k/\∀x∈c.D8.LT k,x.off.L<=20) (λi=>20-(O i).L)
 case atStart=>exact⟨0,by omega,by omega,rfl,by simp⟩
 case round =>
  obtain⟨k,hk,zn,rfl,hz⟩:=hrel;have HZ:=AI hz;clear hz;by_cases zY:k<c.D8.L/\k<20
  .obtain⟨zY,a8⟩:=zY;obtain⟨b,o,rfl,hb,hat⟩:=HG.out.at_ (c:=c) zY;obtain⟨g0,g1,g2,A,ac,g3,aA⟩:=hat;have aC:=HL.out _ (c.I9 zY);have hce:c.D8[k]=c.h k:=by unfold Ek.h;rw[AL zY];rfl
   have HX:Hid (c.D8.LT (k+1)=c.D8.LT k++[c.h k]):=AI (by rw[CN,AL zY,hce];rfl);have HM:Hid (c.h k∈c.D8.LT 20):=AI (C2.2 ⟨k,by rw[Cl,AP a8,AL zY,hce]⟩);have aD:bh ((k:Int)<c.D8.L)=true:=by simp;omega
   have aF:bh ((k:Int)<20)=true:=by simp;omega
   clear g0 g1 g2 aA hce;by_cases hx:(c.h k).off.L<=20
   .have HN : Hid (∀ y ∈ c.D8.LT (k + 1), y.off.L <= 20) := Lib.hid fun y hy => by
     rw[HX.out] at hy;obtain hy|hy:=BH.1 hy
     .exact HZ.out y hy
     .simp only[AT,AQ,or_false] at hy;subst hy;exact hx
    have aG:bh (((c.h k).off.L:Int) > 20)=false:=by simp;omega
    go_wp2;go_round
    case rel=>exact⟨k+1,by omega,by omega,by go_num,HN.out⟩
    case measure=>simp[Proofs.intOf];omega
   .have HS := Lib.hid (show GI c = bw by
     have:(c.D8.LT 20).all (λh=>decide (h.off.L<=20))=false:=fc.2 ⟨_,HM.out,by simpa using hx⟩
     simp[GI,this])
    go_wp2;go_ret;exact⟨aq HS.out.LH,a6.out⟩
  .have HT : Hid (GI c = (bh ((c.D9.L : Int) <= 20) && bh ((c.D8.L : Int) <= 20))) := Lib.hid (by
    have:(c.D8.LT 20).all (λh=>decide (h.off.L<=20))=true:=BO.2 λy hy=>by
     have e:c.D8.LT 20=c.D8.LT k:=by
      obtain h|h:=BV k c.D8.L
      .have:k=20:=by omega
       rw[this]
      .rw[Bm h,Bm (by omega)]
     rw[e] at hy;simpa using HZ.out y hy
    simp only[GI,this,Cm]
    rw[show bh (c.D9.L<=20)=bh ((c.D9.L:Int)<=20) from decide_eq_decide.2 (by omega),show bh (c.D8.L<=20)=bh ((c.D8.L:Int)<=20) from decide_eq_decide.2 (by omega)])
   have zK:(bh ((k:Int)<c.D8.L)=bw)\/(bh ((k:Int)<c.D8.L)=ea/\bh ((k:Int)<20)=bw):=by
    by_cases h:k<c.D8.L
    .exact .inr ⟨by simpa using h,by simp;omega⟩
    .exact .inl (by simp;omega)
   by_cases hn20:c.D9.L<=20
   .have a7:bh ((c.D9.L:Int)<=20)=true:=by simp;omega
    rw[a7,Cm] at HT;obtain h1|⟨h1,h2⟩:=zK
    .go_wp2
     all_goals
      go_ret;exact⟨aq HT.out.LH,a6.out⟩
    .go_wp2
     all_goals
      go_ret;exact⟨aq HT.out.LH,a6.out⟩
   .have a7:bh ((c.D9.L:Int)<=20)=false:=by simp;omega
    rw[a7,Cf] at HT;obtain h1|⟨h1,h2⟩:=zK
    .go_wp2
     all_goals
      go_ret;exact⟨aq HT.out.LH,a6.out⟩
    .go_wp2
     all_goals
      go_ret;exact⟨aq HT.out.LH,a6.out⟩
def qA (l:List Int)(h0:∀x∈l,0<=x):0<=l.LE:=by
 induction l with
 |nil=>simp
 |cons a l ih =>
  have h2:=h0 a (by simp);have:=ih (λx hx=>h0 x (by simp[hx]));simp only[List.sum_cons];omega
def EX (f:Int×Int->Int)(ls:List (Int×Int))(t:Int):Nat:=ls.countP λp=>f p==t
def lJ (f:Int×Int->Int)(a b:List (Int×Int))(t:Int):EX f (a++b) t=EX f a t+EX f b t:=by simp[EX]
def LM (d:Nat)(s:List Int×List (Int×Int))(m:Nat):∃l:List (Int×Int),(EP d s m).2=s.2++l/\l.L<=m/\∀p∈l,p.1=d:=by
 induction m with
 |zero=>exact⟨[],by simp[EP],by simp,λp hp=>by simp at hp⟩
 |succ m ih =>
  obtain⟨l,h1,h2,h3⟩:=ih;show ∃l,(FX d (EP d s m)).2=_/\_;unfold FX;split
  .exact⟨l,h1,by omega,h3⟩
  .refine⟨l++[((d:Int),ER (EP d s m).1 (EP d s m).1.L)],by simp only[h1,Cv],by simp;omega,λp hp=>?_⟩;obtain hp|hp:=BH.1 hp
   .exact h3 p hp
   .simp only[AT,AQ,or_false] at hp;rw[hp]
def dT (f:Int×Int->Int)(l:List (Int×Int))(t:Int):EX f l t<=l.L:=List.countP_le_length
def Le (c:Ek)(r:E2)(ws:List Int)(k:Nat):(∀p∈(Eu c r ws k).2,∃j:Nat,j<k/\p.1=j/\0<Hm c r ws j)/\∀j:Nat,j<k->EX (·.1) (Eu c r ws k).2 j<=Hm c r ws j:=by
 induction k with
 |zero=>exact⟨λp hp=>by simp[Eu] at hp,λj hj=>by omega⟩
 |succ k ih =>
  obtain⟨l,h1,h2,h3⟩:=LM k (Eu c r ws k) (Hm c r ws k);have e:(Eu c r ws (k+1)).2=(Eu c r ws k).2++l:=h1;refine⟨λp hp=>?_,λj hj=>?_⟩
  .rw[e] at hp;obtain hp|hp:=BH.1 hp
   .obtain⟨j,a1,a2,a3⟩:=ih.1 p hp;exact⟨j,by omega,a2,a3⟩
   .have:=List.length_pos_of_mem hp;exact⟨k,by omega,h3 p hp,by omega⟩
  .rw[e,lJ];by_cases hk:j=k
   .subst hk;have z:EX (·.1) (Eu c r ws j).2 j=0:=by
     unfold EX;rw[eo];intro p hp hq;obtain⟨i,a1,a2,a3⟩:=ih.1 p hp;have:p.1=(j:Int):=by simpa using hq
     omega
    have:=dT (·.1) l j;omega
   .have z : EX (·.1) l j = 0 := by
     unfold EX;rw[eo];intro p hp hq;have:=h3 p hp;have:p.1=(j:Int):=by simpa using hq
     omega
    have:=ih.2 j (by omega);omega
def Hi (c:Ek)(r:E2)(n:Nat)(rs:List (Int×Int)):List Int:=rs.map λx=>(EX (·.1) (ET c r (Er n rs rs.L)) x.1:Int)
def JG (c:Ek)(r:E2)(n:Nat)(rs:List (Int×Int)):List Int:=(er c.D8.L).map λh:Nat=>(EX (·.2) (ET c r (Er n rs rs.L)) h:Int)
end Go.Sq
