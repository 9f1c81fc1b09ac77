/- Parts of the proof. -/
import Derived.Test.YtbnfgnhhfmmejaaGreatP06
import Derived.Deep.RegionHeld3
set_option linter.all false
set_option maxHeartbeats 6400000
set_option maxRecDepth 1000000
open Go renaming World->U,Value->F,TypeId->bk,Operand->bw,execOp->cf,Oper->cw,Addr->cF,Calls->cK,Deferred->eb,info_parts->eG,run_underlying->e7,wpOp_mono->e8,Exit->ik,run_append_own->j1,FuncId->j3,Code->k7
open Go.Value renaming slice->I,int->ak,pointer->cE,ownBlock->j2
open Option renaming some->O,none->bh
open List renaming range->bb,range'->bl,filter_cons_of_pos->dy,eq_nil_iff_forall_not_mem->ea,countP_eq_length_filter->eo,filter_eq_self->er,mem_range'_1->eC,nodup_cons->eT,range_eq_range'->e6,filterMap_cons->e9,mem_filterMap->fq,range'_append->fx,filter_congr->fA,reverse_cons->hE,filter_cons->hZ,range'_succ->h9
open Go.IntKind renaming i64->bc,signed->eV,wrap->gg,bits->gl
open Go.Obj renaming cells->bn
open Bool renaming true->bo,false->cu
open Go.Region renaming wanted->bq,Mode->cq,ready->gR
open Go.Proofs renaming intOf->br
open Go.Code renaming region->cU
open Decidable renaming decide->df
open Go.Oper renaming wp->dn,upon_value->jk,upon_enter->jx
open Go.Addr renaming add_lit->ez,add->j0
open Nat renaming lt_trichotomy->eA,lt_or_gt_of_ne->fu,strongRecOn->iv,sub_self->k5,one_mul->k6
open Go.World renaming setCell->eF
open Option.some renaming inj->eH,injEq->gB
open Go.Proofs.Tryz renaming ntmps105->fc,underlying27->fW,ntmps47->gU,ntmps104->kn,ntmps39->kv,ntmps11->kx
open Go.Sem renaming runT_fst->ko,run_bind->kp,run_pure->kq
open Array renaming getD->Array.LH,push->Array.LE,setIfInBounds->Array.L,toList->Array.LK
open Eq renaming symm->Eq.LH
open False renaming elim->False.S
open Go renaming underlying->Go.LH
open Go.Addr renaming block->Go.Addr.LE
open Go.BoundsCode renaming toNat->Go.BoundsCode.L
open Go.Calls renaming mono->Go.Calls.LT
open Go.Code renaming block->Go.Code.LE
open Go.Ending renaming returned->Go.Ending.L
open Go.Instr renaming alloc->Go.Instr.LK
open Go.Op renaming alloc->Go.Op.LK
open Go.Oper renaming dst->Go.Oper.L
open Go.Program renaming funcs->Go.Program.L,underlying->Go.Program.LH
open Go.RowKit.Below renaming block->Go.RowKit.Below.LE
open Go.TypeDesc renaming pointer->Go.TypeDesc.S
open Go.Value renaming ownBlock->Go.Value.L,pointer->Go.Value.S
open Go.World renaming alloc->Go.World.LK,cell?->Go.World.S,frozen?->Go.World.O,heap->Go.World.L,ownsRow->Go.World.H,setCell->Go.World.LH
open Go.World.grownBy renaming block->Go.World.grownBy.LE
open Go.World.ownsRow renaming alloc->Go.World.ownsRow.LK
open Int renaming toNat->Int.L
open List renaming below->List.Li,contains->List.H,filter->List.S,filterMap->List.T,length->List.L,set->List.Lo,sum->List.LE,take->List.LT,toArray->List.LK
open List.Pairwise renaming filter->List.Pairwise.S
open Nat renaming below->Nat.Li,testBit->Nat.L
open Ne renaming symm->Ne.LH
open Option renaming elim->Option.S,getD->Option.LH,isNone->Option.L,toList->Option.LK
open Or renaming elim->Or.S
open String renaming toList->String.LK
open Subsingleton renaming elim->Subsingleton.S
open UInt8 renaming toNat->UInt8.L
namespace Go.Sq
open Go.RowKit
structure Gz (w:U)(g n:Nat)(V:Nat->Int):Prop where
 lt:g<w.L.size
 at_:∀h,h<n->w.S ⟨g,h,bh⟩=O (ak bc (V h))/\w.O ⟨g,h,bh⟩=cu
def Gz.gr {w w':U}{g n:Nat}{V:Nat->Int}(h:Gz w g n V)(hg:Gr w w'):Gz w' g n V:=⟨AO h.lt hg.size,λq hq=>⟨(hg.cell (p:=⟨g,q,bh⟩) h.lt).trans (h.at_ q hq).1,(hg.frozen (p:=⟨g,q,bh⟩) h.lt).trans (h.at_ q hq).2⟩⟩
def Gz.Lo {w:U}{g n:Nat}{V V':Nat->Int}(h:Gz w g n V){a:Nat}(ha:a<n)(y:Int)(hV:∀q,q<n->V' q=if q=a then y else V q):Gz (w.LH ⟨g,a,bh⟩ (ak bc y)) g n V':=by
 refine⟨by have:=h.lt;simpa [eF] using this,λq hq=>⟨?_,(BG _ _ _ _).trans (h.at_ q hq).2⟩⟩;rw[hV q hq];by_cases e:q=a
 .subst e;rw[AP rfl];exact Ba _ _ _ (h.at_ q hq).1
 .rw[AN e];exact(AW _ _ _ _ (by simp[Ne.symm e])).trans (h.at_ q hq).1
def Gz.congr {w:U}{g n:Nat}{V V':Nat->Int}(h:Gz w g n V)(e:∀q,q<n->V q=V' q):Gz w g n V':=⟨h.lt,λq hq=>by rw[<-e q hq];exact h.at_ q hq⟩
def Gz.ri {w:U}{g n:Nat}{V:Nat->Int}(h:Gz w g n V):RI w w.L.size (O ⟨g,0,bh⟩) ((bb n).map V):=λ_=>⟨g,0,rfl,h.lt,λi x hx=>by
 have hi:i<n:=by have:=(Be.1 hx).1;simpa using this
 rw[Bv,CU hi] at hx;have:x=V i:=(eH hx).LH;rw[Bd,this]
 exact(h.at_ i hi).1⟩
open Go.Proofs
def ef (w:U)(n:Nat):Gz (w.LK (.cells (ID n) 3)) w.L.size n λ_=>0:=⟨by simp,λh hh=>by
 rw[AM _ _ _ _ (by simp),BK _ _ _ _ (by simp),dx _ _ hh];exact⟨rfl,rfl⟩⟩
def qB (hb B:Nat)(A nA hA:Option cF)(cap nc hc:Nat)(l:List Int)(N n m:Nat)(w:U)(h:Hand w hb B A cap l N)(hN:N<=100000)(hn:n<=64)(hm:m<=64) :
  cK D7 9 #[.S (O ⟨hb,0,bh⟩),.agg #[I nA n nc,I hA m hc]] w λe w'=>∃v ls xs,e=.L v/\EH w' (w.L.size+1) v ls xs/\ls.L=n/\(∀x∈ls,∃p,x=EF p m)/\Hand w' hb B A cap l (N+n*m)/\KH hb w w':=by
 obtain⟨W0,zM⟩:∃W0:U,W0=w.LK (bn #[I nA n nc,I hA m hc] 25):=⟨_,rfl⟩;have zL:Gr w W0:=zM▸(Gr.refl w).LK _;have aF:Hid (W0.L.size=w.L.size+1):=AI (by rw[zM];simp);have HH:=AI (h.gr zL);have zY:=h.lt;have HW:=AI zM;have aP:=AI zL
 have HC:Hid (W0.S ⟨w.L.size,0,bh⟩=O (I nA n nc)/\W0.S ⟨w.L.size,1,bh⟩=O (I hA m hc)):=AI (by
  rw[zM,AM _ _ _ _ rfl,AM _ _ _ _ rfl];exact⟨rfl,rfl⟩)
 have aJ:Hid (∀W,KT (·=hb) W0 W->KT (·=hb) w W):=AI λW hk=>⟨hk.os.trans zL.Li.os,hk.tape.trans zL.Li.tape,hk.output.trans zL.Li.output,AU zL.drawn hk.drawn,AU zL.size hk.size,λb hb' zU=>(hk.LE b (AO hb' zL.size) zU).trans (zL.Li.LE b hb')⟩;go_enter Sq.func9,Tryz.ntmps9;go_wp2;rw[<-HW.out];go_loopw [5,6] (λv i wr=>∃k:Nat,k<=n/\i=ak bc k/\∃ls xs,EH wr (w.L.size+1) v ls xs/\ls.L=k/\(∀x∈ls,∃p,x=EF p m)/\Hand wr hb B A cap l (N+k*m)/\KH hb W0 wr) (λ_ i _=>n-(br i).L)
 case atStart=>exact⟨0,by omega,rfl,[],[],EH.nil _ _,rfl,λx hx=>by simp at hx,HH.out.more (by omega),KT.refl _ _⟩
 case round =>
  obtain⟨k,hk,rfl,ls,xs,aG,a7,hall,hh,a6⟩:=hrel;have zU:w.L.size≠hb:=by omega
  have aI:=aF.out;have zo:wr.S ⟨w.L.size,0,bh⟩=O (I nA n nc):=(A7 (a6.LE w.L.size (by omega) zU)).trans HC.out.1;have zu:wr.S ⟨w.L.size,1,bh⟩=O (I hA m hc):=(A7 (a6.LE w.L.size (by omega) zU)).trans HC.out.2;have hz:w.L.size<wr.L.size:=by have:=a6.size;omega
  have HK:=AI a6;have HO:=AI aG;have aA:=AI hall;clear a6 aG hall aI;by_cases hlk:k<n
  .have a8:=AI (yR hb B A cap l (N+k*m) m wr hh (by have:k*m<=64*64:=Nat.mul_le_mul (by omega) hm;omega) hm);have HHR:=AI hh;clear hh;go_wp2_with fail;refine a8.out.LT ?_;rintro e w2 ⟨v2,p,rfl,zl,hh,a6⟩;obtain⟨A2,c2,rfl,_⟩:=Dx zl;have aK:=AI (HK.out.trans a6);have aH:=AI (HO.out.keep' (w':=w2) λb hb1 zp=>a6.LE b zp (by omega));have HOW:=AI (FD zl (show w.L.size+1<=wr.L.size by omega))
   have aB:=AI hh;have zD:=a6.size;have hrow:=aH.out.row;clear a6 hh zl a8;rw[a7] at hrow;have aC:=AI hrow;go_wp2_with (at_builtin;refine ms rfl _ _ rfl (w.L.size+1) _ _ _ rfl (hrow.LK _) ⟨w2.L.size,0,bh⟩ 1 (I A2 (EF p m).L c2) rfl ?c1 rfl ?c2 ?c3 ?_)
   case c1=>rw[Addr.add_lit,AM _ _ _ _ (by simp)];rfl
   case c2=>omega
   case c3=>simp;omega
   intro v' w3 hown' hgrow hd;have aL:=AI (ee aK.out aC.out (by rw[aF.out];exact AK _) hgrow hd);have aM:=AI ((cY aB.out aC.out (by omega) hgrow).more (M:=N+(k+1)*m) (by rw[Nat.succ_mul];omega));have aN:=AI (aH.out.LE (l:=EF p m) HOW.out (λb hb'=>aa _ _ hb') (by simp) hgrow a7.LH hown');have aD:Hid (∀x∈ls++[EF p m],∃p,x=EF p m):=AI λx hx=>by
    obtain hx|hx:=BH.1 hx
    .exact aA.out x hx
    .simp at hx;exact⟨p,hx⟩
   go_wp2;go_roundw
   case rel=>exact⟨k+1,by omega,by go_num,_,_,aN.out,by simp[a7],aD.out,aM.out,aL.out⟩
   case measure=>simp[Proofs.intOf];omega
  .have aO:k=n:=by omega
   subst aO;have aB:=AI hh;go_wp2;go_ret;exact⟨_,ls,xs,rfl,HO.out,a7,aA.out,aB.out,aJ.out _ HK.out⟩
def sL {l:List Int}{b:Nat}(h:∀x∈l,0<=x/\x<=b):0<=l.LE/\l.LE<=b*l.L:=by
 induction l with
 |nil=>simp
 |cons x l ih =>
  have h1:=h x (by simp);have h2:=ih λy hy=>h y (by simp[hy]);rw[List.sum_cons,AX,Int.natCast_add,Int.mul_add];omega
def qC (l:List Int)(h:∀x∈l,0<=x)(x i:Nat):(l.foldl (λx h=>x ||| 2 ^ h.L) x).L i=(x.L i||df ((i:Int)∈l)):=by
 induction l generalizing x with
 |nil=>simp
 |cons a l ih =>
  rw[B1,ih (λy hy=>h y (by simp[hy])),Nat.testBit_or,Nat.testBit_two_pow,Bool.or_assoc];congr 1;have h0:=h a (by simp);by_cases e:a.L=i
  .have:(i:Int)=a:=by omega
   simp[e,this]
  .have:¬(i:Int)=a:=by omega
   simp[e,this]
def xp {l:List Int}(h:∀x∈l,0<=x)(i:Nat):(JK l).L i=df ((i:Int)∈l):=by
 unfold JK;rw[qC l h];simp
def sumTo (f:Nat->Int):Nat->Int
 |0=>0
 |k+1=>sumTo f k+f k
def kr:∀ {l m:List Int},l.Pairwise (·<·)->m.Pairwise (·<·)->(∀x,x∈l↔x∈m)->l=m
 |[],[],_,_,_=>rfl
 |[],b::m,_,_,h=>AS ((h b).2 (Cg ..)) (by simp)
 |a::l,[],_,_,h=>AS ((h a).1 (Cg ..)) (by simp)
 |a::l,b::m,hl,hm,h=>by
  obtain⟨h1,h2⟩:=C7.1 hl;obtain⟨h3,h4⟩:=C7.1 hm;have e:a=b:=by
   obtain e|e:=AT.1 ((h a).1 (Cg ..))
   .exact e
   .obtain e2|e2:=AT.1 ((h b).2 (Cg ..))
    .exact e2.LH
    .have:=h3 a e;have:=h1 b e2;omega
  subst e;congr 1;refine kr h2 h4 λx=>⟨λhx=>?_,λhx=>?_⟩
  .obtain e|e:=AT.1 ((h x).1 (Cp _ hx))
   .have:=h1 x hx;omega
   .exact e
  .obtain e|e:=AT.1 ((h x).2 (Cp _ hx))
   .have:=h3 x hx;omega
   .exact e
def uG {l:List Int}(h:∀i,i+1<l.L->l[i]?.LH 0<l[i+1]?.LH 0):l.Pairwise (·<·):=by
 induction l with
 |nil=>exact .nil
 |cons a l ih =>
  have ih':=ih λi hi=>by have:=h (i+1) (by simpa using hi);simpa using this
  refine C7.2 ⟨λb hb=>?_,ih'⟩;cases l with
  |nil=>cases hb
  |cons c l =>
   have h0:=h 0 (by simp);simp at h0;obtain rfl|hb:=AT.1 hb
   .exact h0
   .have:=(C7.1 ih').1 b hb;omega
def JQ {l:List Int}{m:Nat}(h:Fz l m=0):∃p,l=EF p m:=by
 obtain⟨h1,_,h2⟩:=I0 h;refine⟨λn=>decide ((n:Int)∈l),kr (uG h2) (km _ _) λx=>?_⟩;rw[Hh];constructor
 .intro hx;have:=h1 x hx;refine⟨x.L,by omega,by omega,?_⟩;rw[show((x.L:Nat):Int)=x by omega];simpa using hx
 .rintro⟨n,rfl,_,hn⟩;simpa using hn
def Iw {c:Ek}{ls:List (List Int)}(h:Et c ls=0):ls.L=c.D9.L/\∀x∈ls,Fz x c.D8.L=0:=by
 unfold Et at h;split at h
 .exact AS h (by assumption)
 .split at h
  .exact AS h (by assumption)
  .rename_i h1 h2;refine⟨?_,λx hx=>bG.1 h _ (Bu.2 ⟨x,hx,rfl⟩)⟩;have h2:EM ls.L c.D9.L c.D9.L=0:=by simpa using h2
   unfold EM at h2;split at h2
   .omega
   .split at h2<;>omega
def cR {c:Ek}{ls:List (List Int)}(h:Et c ls=0):Ex c=0:=by
 unfold Et at h;split at h
 .exact AS h (by assumption)
 .simpa using ‹¬Ex c≠0›
def sM {l:List Int}{m:Nat}(hl:∃p,l=EF p m)(hm:m<=4):wl (JK l)=l:=by
 obtain⟨p,rfl⟩:=hl;have hn:∀x∈EF p m,0<=x:=λx hx=>by obtain⟨n,rfl,_⟩:=Hh.1 hx;omega
 have e:wl (JK (EF p m))=EF (JK (EF p m)).L 4:=rfl;rw[e];unfold EF;have h1:(bb 4).S (JK (((bb m).S p).map λn:Nat=>(n:Int))).L=(bb m).S p:=by
  have h2:(bb 4)=bb m++(bb (4-m)).map (m+·):=by
   rw[<-List.range_add];congr 1;omega
  have hb:∀i:Nat,(JK (((bb m).S p).map λn:Nat=>(n:Int))).L i=df ((i:Int)∈EF p m):=λi=>xp hn i;rw[h2,CY];have h3:(bb m).S (JK (((bb m).S p).map λn:Nat=>(n:Int))).L=(bb m).S p:=by
   refine fA λi hi=>?_;rw[hb];have hi:=BQ.1 hi;cases hp:p i with
   |true=>exact BE (Hh.2 ⟨i,rfl,hi,hp⟩)
   |false =>
    refine B2 λh=>?_;obtain⟨n,e,_,h⟩:=Hh.1 h;obtain rfl:i=n:=by omega
    rw[hp] at h;cases h
  rw[h3];have h4:((bb (4-m)).map (m+·)).S (JK (((bb m).S p).map λn:Nat=>(n:Int))).L=[]:=by
   refine CA.2 λi hi=>?_;obtain⟨k,_,rfl⟩:=Bu.1 hi;rw[hb];intro h;obtain⟨n,e,h1,_⟩:=Hh.1 (Ca h);omega
  rw[h4,CM]
 rw[h1]
def Fy (l:List Int):Nat->Nat
 |0=>0
 |k+1=>if l[Fy l k]?.LH 0<l[k+1]?.LH 0 then k+1 else Fy l k
def uH (l:List Int)(k:Nat):Fy l k<=k:=by
 induction k with
 |zero=>exact AK _
 |succ k ih=>unfold Fy;split<;>omega
def sN (l:List Int)(k:Nat):(ER l (k+1)<0/\l[Fy l k]?.LH 0<=0)\/(ER l (k+1)=(Fy l k:Nat)/\0<l[Fy l k]?.LH 0):=by
 induction k with
 |zero =>
  unfold ER Fy;by_cases h:(0:Int)<l[0]?.LH 0
  .exact .inr ⟨by rw[AP ⟨h,.inl (by simp[ER])⟩],h⟩
  .exact .inl ⟨by rw[AN (λhc=>h hc.1)];simp[ER],by omega⟩
 |succ k ih =>
  rw[ER,Fy];obtain⟨h1,h2⟩|⟨h1,h2⟩:=ih
  .by_cases h:(0:Int)<l[k+1]?.LH 0
   .rw[AP ⟨h,.inl h1⟩,AP (by omega)];exact .inr ⟨rfl,h⟩
   .rw[AN (λhc=>h hc.1)];exact .inl ⟨h1,by split<;>omega⟩
  .rw[h1];simp only[Cu];by_cases h:l[Fy l k]?.LH 0<l[k+1]?.LH 0
   .rw[AP ⟨by omega,.inr h⟩,AP h];exact .inr ⟨rfl,by omega⟩
   .rw[AN (λhc=>hc.2.S (λh=>by omega) h),AN h];exact .inr ⟨rfl,h2⟩
def ml {n:Int}{s:List Int×List (Int×Int)}(h:0<s.1.L):FX n s =
  if 0<s.1[Fy s.1 (s.1.L-1)]?.LH 0 then(s.1.Lo (Fy s.1 (s.1.L-1)) (s.1[Fy s.1 (s.1.L-1)]?.LH 0-1),s.2++[(n,((Fy s.1 (s.1.L-1):Nat):Int))]) else s:=by
 unfold FX;have:=sN s.1 (s.1.L-1);rw[show s.1.L-1+1=s.1.L by omega] at this;obtain⟨h1,h2⟩|⟨h1,h2⟩:=this
 .rw[AP h1,AN (by omega)]
 .rw[AN (by omega),AP h2,h1,Cu]
def ED (L:List (Int×Int))(n:Nat):List Int:=(L.S λp=>p.1==(n:Int)).map (·.2)
def mn (L:List (Int×Int))(n j:Nat)(b:Int):ED (L++[((n:Int),b)]) j=ED L j++if j=n then[b] else[]:=by
 unfold ED;rw[CY,Cx];congr 1;by_cases h:j=n
 .subst h;simp
 .rw[AN h,hZ];have:(((n:Int)==(j:Int)))=false:=by simp;omega
  simp[this]
def fF (L:List (Int×Int))(n:Nat):(ED L n).L=EX (·.1) L n:=by
 unfold ED EX;rw[BD,eo]
def Ord (L:List (Int×Int)):Prop:=L.Pairwise λp q=>p.1<=q.1
def nC {n:Int}{s:List Int×List (Int×Int)}(h:Ord s.2/\∀p∈s.2,p.1<=n):Ord (FX n s).2/\∀p∈(FX n s).2,p.1<=n:=by
 unfold FX;split
 .exact h
 .refine⟨List.pairwise_append.2 ⟨h.1,List.pairwise_singleton _ _,λp hp q hq=>?_⟩,λp hp=>?_⟩
  .simp only[AT,AQ,or_false] at hq;subst hq;exact h.2 p hp
  .obtain hp|hp:=BH.1 hp
   .exact h.2 p hp
   .simp only[AT,AQ,or_false] at hp;subst hp;exact Int.le_refl _
def M5 {n:Int}{s:List Int×List (Int×Int)}(h:Ord s.2/\∀p∈s.2,p.1<=n)(m:Nat):Ord (EP n s m).2/\∀p∈(EP n s m).2,p.1<=n:=by
 induction m with
 |zero=>exact h
 |succ m ih=>exact nC ih
def oA (c:Ek)(r:E2)(ws:List Int)(k:Nat):Ord (Eu c r ws k).2/\∀p∈(Eu c r ws k).2,p.1<=(k:Int):=by
 induction k with
 |zero=>exact⟨List.Pairwise.nil,by simp[Eu]⟩
 |succ k ih =>
  obtain⟨h1,h2⟩:=M5 ih (Hm c r ws k);exact⟨h1,λp hp=>by have:=h2 p hp;omega⟩
def ku (c:Ek)(r:E2)(ws:List Int):Ord (ET c r ws):=(oA c r ws _).1
def GJ (L:List (Int×Int))(i:Nat):Nat:=L.countP λp=>decide (p.1<(i:Int))
def sO {L:List (Int×Int)}(h:Ord L)(i:Nat):L=L.S (λp=>decide (p.1<(i:Int)))++(L.S (λp=>p.1==(i:Int))++L.S (λp=>decide ((i:Int)<p.1))):=by
 induction L with
 |nil=>rfl
 |cons p L ih =>
  obtain⟨h1,h2⟩:=C7.1 h;have ih:=ih h2;obtain hp|hp|hp:=Int.lt_trichotomy p.1 i
  .rw[dy (by simpa using hp),Ct (by simp;omega),Ct (by simp;omega),BW,<-ih]
  .have e:L.S (λp=>decide (p.1<(i:Int)))=[]:=CA.2 λq hq=>by have:=h1 q hq;simp;omega
   rw[e,BP] at ih;rw[Ct (by simp;omega),dy (by simpa using hp),Ct (by simp;omega),e,BP,BW,<-ih]
  .have e:L.S (λp=>decide (p.1<(i:Int)))=[]:=CA.2 λq hq=>by have:=h1 q hq;simp;omega
   have e2:L.S (λp=>p.1==(i:Int))=[]:=CA.2 λq hq=>by have:=h1 q hq;simp;omega
   rw[e,e2,BP,BP] at ih;rw[Ct (by simp;omega),Ct (by simp;omega),dy (by simpa using hp),e,e2,BP,BP,<-ih]
def uI (L:List (Int×Int))(i:Nat):GJ L i=(L.S λp=>decide (p.1<(i:Int))).L:=eo
def sP {L:List (Int×Int)}(h:Ord L)(i k:Nat)(hk:k<(ED L i).L):L[GJ L i+k]?=O ((i:Int),(ED L i)[k]?.LH 0):=by
 have a6:k<(L.S λp=>p.1==(i:Int)).L:=by simpa [ED] using hk
 have e:L[GJ L i+k]?=(L.S λp=>p.1==(i:Int))[k]?:=by
  have hs:=sO h i;have hl:=uI L i;generalize L.S (λp=>decide (p.1<(i:Int)))=X at hs hl;generalize L.S (λp=>decide ((i:Int)<p.1))=Z at hs;generalize L.S (λp=>p.1==(i:Int))=Y at hs a6;rw[hl,hs,BM (Nat.le_add_right _ _),Nat.add_sub_cancel_left,BF a6]
 rw[e,AL a6];have hm:((L.S λp=>p.1==(i:Int))[k]).1=(i:Int):=by
  have:=(CJ.1 (BN a6)).2;simpa using this
 have e2:(ED L i)[k]?.LH 0=((L.S λp=>p.1==(i:Int))[k]).2:=by
  unfold ED;rw[Bv,AL a6]
  rfl
 rw[e2];exact Bh O (Prod.ext hm rfl)
def lK {L:List (Int×Int)}(h:∀p∈L,0<=p.1):GJ L 0=0:=by
 unfold GJ;rw[List.countP_eq_zero];intro p hp;have:=h p hp;simp;omega
def lL (L:List (Int×Int))(i:Nat):GJ L (i+1)=GJ L i+(ED L i).L:=by
 rw[fF];unfold GJ EX
 induction L with
 |nil=>rfl
 |cons p L ih =>
  simp only[List.countP_cons];rw[ih];dsimp only;obtain h|h|h:=Int.lt_trichotomy p.1 i
  .have e1:df (p.1<((i+1:Nat):Int))=true:=BE (by omega);have e2:df (p.1<(i:Int))=true:=BE h;have e3:(p.1==(i:Int))=false:=by simp;omega
   rw[e1,e2,e3];simp;omega
  .have e1:df (p.1<((i+1:Nat):Int))=true:=BE (by omega);have e2:df (p.1<(i:Int))=false:=B2 (by omega);have e3:(p.1==(i:Int))=true:=by simp;omega
   rw[e1,e2,e3];simp;omega
  .have e1:df (p.1<((i+1:Nat):Int))=false:=B2 (by omega);have e2:df (p.1<(i:Int))=false:=B2 (by omega);have e3:(p.1==(i:Int))=false:=by simp;omega
   rw[e1,e2,e3];simp
def nD {L:List (Int×Int)}{n:Nat}(h:∀p∈L,p.1<n):GJ L n=L.L:=by
 unfold GJ;rw[List.countP_eq_length];intro p hp;simpa using h p hp
def pv (L:List (Int×Int))(i:Nat):GJ L i<=L.L:=List.countP_le_length
def yS {c:Ek}{ls:List (List Int)}(h:Et c ls=0){i:Nat}{l:List Int}(hi:ls[i]?=O l):wl (Ec ls i)=l:=by
 have a6:=Ek.Ok.of (cR h);unfold Ec;rw[hi];exact sM (JQ ((Iw h).2 l (By hi))) a6.h4
def sQ {c:Ek}{l:List Int}{m:Nat}(hl:∃p,l=EF p m)(hm:m<=4):c.FL (JK l)=(l.map λh=>(c.h h.L).FL).LE:=by
 unfold Ek.FL;rw[sM hl hm]
def gM (f:Int×Int->Int)(l:List (Int×Int))(k:Nat)(h:k<l.L)(t:Int):EX f (l.LT (k+1)) t=EX f (l.LT k) t+if f (l[k]?.LH (0,0))=t then 1 else 0:=by
 rw[CN,AL h,Option.toList_some,lJ,Bf];congr 1;unfold EX;rw[List.countP_singleton];by_cases e:f l[k]=t<;>simp[e]
def gN (f:Int×Int->Int)(l:List (Int×Int))(k:Nat)(t:Int):EX f (l.LT k) t<=l.L:=AU (dT f _ t) (by rw[CV];omega)
def yT (nA hA gA rA:Option cF)(nc hc gc rc:Nat)(c:Ek)(ls:List (List Int))(rs:List (Int×Int))(w:U)(B:Nat)(hB:B<=w.L.size)(hn:RI w B nA c.D9)(hh:Fe w B hA c.D8)(hg:E7 w B gA ls)(hr:FA w B rA rs)
  (Gg:c.D9.L<=4611686018427387904) (zC:c.D8.L<=4611686018427387904) (Fa:∀h∈c.D8,h.off.L<=4611686018427387904) (G4:ls.L<=4611686018427387904) (zq:∀x∈ls,x.L<=4611686018427387904) (Io:rs.L<=1048576) (Im:rs.L<=rc)
  (hF:Et c ls=0) (hR:bE c.D9.L rs=0) :
  cK D7 18 #[En nA hA c nc hc,I gA ls.L gc,I rA rs.L rc] w λe w'=>Gr w w'/\∃A k,e=.L (.tuple #[I A c.D8.L k,ak bc 0])/\RI w' w'.L.size A (JG c (Ec ls) c.D9.L rs):=by
 unfold En;obtain⟨W0,zM⟩:∃W0:U,W0=w.LK (bn #[I nA c.D9.L nc,I hA c.D8.L hc] 25):=⟨_,rfl⟩;have zL:Gr w W0:=zM▸(Gr.refl w).LK _;have zF:W0.L.size=w.L.size+1:=by rw[zM];simp
 have HW:=AI zM;have aD:=jp nA hA gA rA nc hc gc rc c ls rs W0 B (by omega) (hn.gr hB zL) (hh.keep λb o hb=>zL.cell (AO hb hB)) (hg.gr hB zL) (hr.gr hB zL) Gg zC Fa G4 zq (by omega) Im hF hR;unfold En at aD;have aO:=AI aD;have aX:=AI zL;have bO:=AI (hr.gr hB zL);have aY:Hid (W0.S ⟨w.L.size,1,bh⟩=O (I hA c.D8.L hc)):=AI (by rw[zM,AM _ _ _ _ rfl];rfl);have aZ:=AI hF
 have a6:=AI (Ek.Ok.of (show Ex c=0 by
  have:=hF;unfold Et at this;split at this
  .exact AS this (by assumption)
  .simpa using ‹¬Ex c≠0›))
 have b5:=AI (eN hR);clear zM zL aD hn hh hg hr zq Fa hF hR;go_enter Sq.func18,Tryz.ntmps18;go_wp2_with fail;rw[<-HW.out];refine aO.out.LT ?_;rintro e w1 ⟨zJ,cb,A,ka,rfl,aP,aQ⟩;obtain⟨W1,zt⟩:∃W1:U,W1=w1.LK (bn #[.int .u8 (Ec ls 0),.int .u8 (Ec ls 1),.int .u8 (Ec ls 2),.int .u8 (Ec ls 3),.int .u8 (Ec ls 4)] 77):=⟨_,rfl⟩;have a7:Gr w1 W1:=zt▸(Gr.refl w1).LK _;have zE:W1.L.size=w1.L.size+1:=by rw[zt];simp
 have hzz:=zJ.size;have bP:=a6.out.h4;have bQ:=a6.out.n5;obtain⟨Wz,aA⟩:∃Wz:U,Wz=W1.LK (.cells (ID c.D8.L) 3):=⟨_,rfl⟩;have aB:Gr W1 Wz:=aA▸(Gr.refl W1).LK _;have aF:Wz.L.size=w1.L.size+2:=by rw[aA];simp;omega
 have b6:Hid (Gz Wz (w1.L.size+1) c.D8.L λ_=>0):=AI (zE▸aA▸ef W1 c.D8.L);have b7:=AI ((zJ.trans a7).trans aB);have aR:=aP.on (a7.trans aB);have b8:Hid (∀i,i<5->W1.S ⟨w1.L.size,i,bh⟩=O (.int .u8 (Ec ls i:Nat))):=AI λi hi=>by
  rw[zt,AM _ _ _ _ (by simp)]
  match i,hi with
  |0,_=>rfl
  |1,_=>rfl
  |2,_=>rfl
  |3,_=>rfl
  |4,_=>rfl
 have aS:∀x∈Er c.D9.L rs rs.L,0<=x/\x<=60:=λx hx=>by
  obtain⟨j,_,rfl⟩:=Bu.1 hx;exact eu b5.out _ _ (AK _)
 have a8:=jq cb nA hA A nc hc ka c (Ec ls) (Er c.D9.L rs rs.L) Wz aR a6.out (eM aZ.out) aS (by rw[aI];exact a6.out.n5) ((aQ.gr (AK _) (a7.trans aB)).more (by omega));rw[aI] at a8;have b9:=cX a6.out (Ec ls) (Er c.D9.L rs rs.L);have aT:Hid (∀q∈ET c (Ec ls) (Er c.D9.L rs rs.L),0<=q.1/\q.1<c.D9.L/\0<=q.2/\q.2<c.D8.L):=AI λq hq=>by
  have:=(dz a6.out (Ec ls) (Er c.D9.L rs rs.L)).night q hq
  rwa [aI] at this
 have aG:Hid (JG c (Ec ls) c.D9.L rs=(bb c.D8.L).map λh:Nat=>(EX (·.2) (ET c (Ec ls) (Er c.D9.L rs rs.L)) h:Int)):=AI rfl;obtain⟨L,hL⟩:∃L,L=ET c (Ec ls) (Er c.D9.L rs rs.L):=⟨_,rfl⟩;rw[<-hL] at a8 b9 aT aG;clear hL;have aV:=AI a8;have aH:∀i,i<5->Wz.S ⟨w1.L.size,i,bh⟩=O (.int .u8 (Ec ls i:Nat)):=λi hi=>(aB.cell (by show w1.L.size<_;omega)).trans (b8.out i hi)
 obtain⟨a0,a1,a2,a3,a4⟩:=IJ aH;have bR:w.L.size<w1.L.size:=by omega
 have hwz:w1.L.size<Wz.L.size:=by omega
 have bS:=λw=>da c.D8.L w (by omega);have zu:w1.S ⟨w.L.size,1,bh⟩=O (I hA c.D8.L hc):=(zJ.cell (by show w.L.size<_;omega)).trans aY.out;have bA:=AI zt;have bB:=AI aA;have bT:=AI zE;have bU:=aF;clear zJ aP aQ a7 aO zt aA aB aR a8 aH aS aF zE;unfold E6 at *;go_wp2_with fail;rw[<-bA.out,<-bB.out];refine aV.out.LT ?_;rintro e w2 ⟨v,rfl,hown2,zI⟩
 obtain⟨A2,k2,rfl,bC⟩:=JP hown2;have bD:=AI bC;have bF:=AI (b7.out.trans zI);have bG:=AI ((b6.out.gr zI).congr (V':=λh=>(EX (·.2) (L.LT 0) (h:Int):Int)) λq _=>by simp[EX]);go_wp2;go_loopw [36] (λi wr=>∃k:Nat,k<=L.L/\i=ak bc k/\Gr W0 wr/\Gz wr (w1.L.size+1) c.D8.L (λh=>(EX (·.2) (L.LT k) (h:Int):Int))/\w2.L.size<=wr.L.size/\∀b,b<w2.L.size->b≠w1.L.size+1->wr.L[b]?=w2.L[b]?) (λi _=>L.L-(br i).L)
 case atStart=>exact⟨0,by omega,rfl,bF.out,bG.out,AK _,λ_ _ _=>rfl⟩
 case round =>
  obtain⟨k,hk,rfl,zV,aJ,bH,aK⟩:=hrel;by_cases hlk:k<L.L
  .have aL:=aT.out _ (BN hlk);have aW:L[k]?.LH (0,0)=L[k]:=by rw[AL hlk];rfl
   obtain⟨b,o,rfl,aC,bI⟩:=bD.out (λe=>by rw[e] at hlk;simp at hlk);obtain⟨h1,h2⟩:=bI k _ (AL hlk);have d1:=(A7 (a:=⟨b,o+k*2,bh⟩) (aK b aC.2 (by have:=aC.1;omega))).trans h1;have d2:=(A7 (a:=⟨b,o+k*2+1,bh⟩) (aK b aC.2 (by have:=aC.1;omega))).trans h2;rw[<-aW] at aL d1 d2;have aM:=AI (λt:Int=>gM (·.2) L k hlk t);have hcb:=λt:Int=>gN (·.2) L k t;generalize L[k]?.LH (0,0)=q at aL d1 d2 aM
   obtain⟨q1,q2⟩:=q;dsimp only at aL d1 d2 aM;obtain⟨qn,rfl⟩:∃j:Nat,q1=j:=⟨q1.L,by omega⟩;obtain⟨qf,rfl⟩:∃j:Nat,q2=j:=⟨q2.L,by omega⟩;have aU:qf<c.D8.L:=by omega
   obtain⟨e1,e2⟩:=(aJ.gr ((Gr.refl wr).LK (bn #[ak bc (qn:Int),ak bc (qf:Int)] 83))).at_ qf aU;have bJ:=hcb qf
   have aN:Hid (Gz ((wr.LK (bn #[ak bc (qn:Int),ak bc (qf:Int)] 83)).LH ⟨w1.L.size+1,qf,bh⟩ (ak bc ((EX (·.2) (L.LT k) (qf:Int):Int)+1))) (w1.L.size+1) c.D8.L (λh=>(EX (·.2) (L.LT (k+1)) (h:Int):Int))):=AI ((aJ.gr ((Gr.refl wr).LK _)).Lo aU _ λq _=>by
    rw[aM.out];by_cases e:q=qf
    .subst e;rw[AP rfl,AP rfl];rfl
    .rw[AN e,AN (by omega)];rfl)
   have bK:=AI (λv=>(zV.LK (bn #[ak bc (qn:Int),ak bc (qf:Int)] 83)).LH (p:=⟨w1.L.size+1,qf,bh⟩) (by show _<=w1.L.size+1;omega) v);have bL:=AI (λ(v:F) (b:Nat) (hb:b<w2.L.size) (zU:b≠w1.L.size+1)=>(Bb (wr.LK (bn #[ak bc (qn:Int),ak bc (qf:Int)] 83)) ⟨w1.L.size+1,qf,bh⟩ v b zU).trans ((aa _ _ (AO hb bH)).trans (aK b hb zU)));generalize (EX (·.2) (L.LT k) (qf:Int))=V at e1 bJ aN
   go_wp2;go_roundw
   case rel=>exact⟨k+1,by omega,by go_num,bK.out _,aN.out,by simp[World.setCell];omega,bL.out _⟩
   case measure=>simp[Proofs.intOf];omega
  .have bM:k=L.L:=by omega
   subst bM;have HF:=AI (aJ.ri);have HE:Hid ((bb c.D8.L).map (λh:Nat=>(EX (·.2) (L.LT L.L) (h:Int):Int))=JG c (Ec ls) c.D9.L rs):=AI (by rw[aG.out,CW]);have bN:=AI (aX.out.trans zV);go_wp2;go_ret2;exact⟨bN.out,_,_,rfl,by rw[<-HE.out];exact HF.out⟩
structure CO (w0:U)(hb B:Nat)(A:Option cF)(cap:Nat)(l:List Int)(M base:Nat)(v:F)(ns:List Int)(W:U):Prop where
 hand:Hand W hb B A cap l M
 Hj:W.L[w0.L.size+1]?=O (bn #[v,.slice bh 0 0] 25 (0,0))
 I5:W.L[w0.L.size]?=O (bn #[.slice bh 0 0,.slice bh 0 0] 25 (0,0))
 LH:W.H base 3 1 v ns.L (ns.map (ak bc))
 kt:KT (·=hb) w0 W
 lt:hb<w0.L.size
 bs:w0.L.size+2<=base/\base<=W.L.size
section
variable {w0 W W':U} {hb B:Nat} {A:Option cF} {cap:Nat} {l:List Int} {M base:Nat} {v:F} {ns:List Int}
def CO.drew (h:CO w0 hb B A cap l M base v ns W):CO w0 hb B A cap l M base v ns W.drew :=
 ⟨h.hand.gr (Gr.refl W).drew,h.Hj,h.I5,ap h.LH λ_ _ _=>rfl,⟨h.kt.os,h.kt.tape,h.kt.output,C3 h.kt.drawn,h.kt.size,h.kt.LE⟩,h.lt,h.bs⟩
def CO.LK (h:CO w0 hb B A cap l M base v ns W)(o:Obj):CO w0 hb B A cap l M base v ns (W.LK o) :=
 ⟨h.hand.gr ((Gr.refl W).LK o),(aa _ _ (AJ.1 h.Hj).1).trans h.Hj,(aa _ _ (AJ.1 h.I5).1).trans h.I5,h.LH.LK o,h.kt.trans (KT.E3 ((Gr.refl W).LK o)),h.lt,by have:=h.bs;simp;omega⟩
def CO.J3 (h:CO w0 hb B A cap l M base v ns W){M':Nat}(hh:Hand W' hb B A cap l M')(k:KT (·=hb) W W'):CO w0 hb B A cap l M' base v ns W' :=
 ⟨hh,(k.LE _ (AJ.1 h.Hj).1 (by have:=h.lt;omega)).trans h.Hj,(k.LE _ (AJ.1 h.I5).1 (by have:=h.lt;omega)).trans h.I5,fE h.LH (by have:=h.lt;have:=h.bs;omega) k,h.kt.trans k,h.lt,by have:=h.bs;have:=k.size;omega⟩
def Hand.Lo {W:U}{hb B cap N:Nat}{A:Option cF}{l:List Int}(h:Hand W hb B A cap l N){p:cF}(hp:hb<p.LE)(x:F):Hand (W.LH p x) hb B A cap l N:=by
 obtain⟨n,s,h1,h2⟩:=h.obj;have hB:=h.apart;exact⟨⟨n,s,(Bb _ _ _ _ (by omega)).trans h1,h2⟩,h.M3.keep λb o hb'=>A7 (Bb _ _ _ _ (by show b≠p.LE;omega)),hB⟩
def KT.Lo {w0 W:U}{hb:Nat}(h:KT (·=hb) w0 W){p:cF}(hp:w0.L.size<=p.LE)(x:F):KT (·=hb) w0 (W.LH p x) :=
 ⟨h.os,h.tape,h.output,h.drawn,by have:=h.size;simpa [eF] using this,λb hb' zU=>(Bb _ _ _ _ (by omega)).trans (h.LE b hb' zU)⟩
def CO.more (h:CO w0 hb B A cap l M base v ns W){M':Nat}(hm:M<=M'):CO w0 hb B A cap l M' base v ns W:=⟨h.hand.more hm,h.Hj,h.I5,h.LH,h.kt,h.lt,h.bs⟩
def CO.LE (h:CO w0 hb B A cap l M base v ns W){w6:U}{o:Obj}{v':F}{z:Int}(zl:w6.H base 3 1 v' (ns++[z]).L ((ns++[z]).map (ak bc)))(hg:(W.LK o).grownBy w6 v.L)(hd:(W.LK o).drawn<=w6.drawn) :
  CO w0 hb B A cap l M base v' (ns++[z]) (w6.LH ⟨w0.L.size+1,0,bh⟩ v'):=by
 have zY:=h.lt;have a6:=h.bs;have hq:=(F7 h.LH hg (w0.L.size+1) (by omega) (AJ.1 h.Hj).1).trans h.Hj;have hr:=(F7 h.LH hg w0.L.size (by omega) (AJ.1 h.I5).1).trans h.I5;refine⟨(cY h.hand h.LH (by omega) hg).Lo (by show hb<w0.L.size+1;omega) _,?_,(Bb _ _ _ _ (by simp)).trans hr,ownsRow_setCell_below zl (by show w0.L.size+1<base;omega) _,(ee h.kt h.LH (by omega) hg hd).Lo (by show _<=w0.L.size+1;omega) _,zY,a6.1,by have:=fd hg;simp[eF];omega⟩
 exact aL hq
def AB {W:U}{K:Nat->Prop}{a b:Int}(hK:K W.L.size):Ie (W.LK (bn #[ak bc a,ak bc b] 3)) K (O ⟨W.L.size,0,bh⟩) [a,b]:=λ_=>⟨_,0,rfl,hK,λi x hx=>by
 rw[AM _ _ _ _ rfl]
 match i,hx with
 |0,hx=>cases hx;rfl
 |1,hx=>cases hx;rfl⟩
def yU {W:U}{K:Nat->Prop}{a:Int}(hK:K W.L.size):Ie (W.LK (bn #[ak bc a] 3)) K (O ⟨W.L.size,0,bh⟩) [a]:=λ_=>⟨_,0,rfl,hK,λi x hx=>by
 rw[AM _ _ _ _ rfl]
 match i,hx with
 |0,hx=>cases hx;rfl⟩
def CO.room (h:CO w0 hb B A cap l M base v ns W)(o:Obj):W.L.size≠hb/\W.L.size<(W.LK o).L.size:=by
 have:=h.hand.lt;simp;omega
def CO.cell (h:CO w0 hb B A cap l M base v ns W):W.S ⟨w0.L.size+1,0,bh⟩=O v/\W.O ⟨w0.L.size+1,0,bh⟩=cu/\w0.L.size+1<W.L.size:=⟨(Eh h.Hj 0).1,(Eh h.Hj 0).2,(AJ.1 h.Hj).1⟩
def eh {W W':U}{K K':Nat->Prop}{A:Option cF}{q:List Int}(h:Ie W K A q)(hk:∀b,K b->K' b)(hc:∀b o,K b->W'.S ⟨b,o,bh⟩=W.S ⟨b,o,bh⟩):Ie W' K' A q:=λhn=>by
 obtain⟨b,o,e,h1,h2⟩:=h hn;exact⟨b,o,e,hk b h1,λi x hx=>(hc _ _ h1).trans (h2 i x hx)⟩
def gO {W W':U}{K K':Nat->Prop}{A:Option cF}{q:List EZ}(h:GK W K A q)(hk:∀b,K b->K' b)(hc:∀b o,K b->W'.S ⟨b,o,bh⟩=W.S ⟨b,o,bh⟩):GK W' K' A q:=λhn=>by
 obtain⟨b,o,e,h1,h2⟩:=h hn;refine⟨b,o,e,hk b h1,λi x hx=>?_⟩;obtain⟨k0,k1,k2,A',c,k3,k4⟩:=h2 i x hx;exact⟨(hc _ _ h1).trans k0,(hc _ _ h1).trans k1,(hc _ _ h1).trans k2,A',c,(hc _ _ h1).trans k3,eh k4 hk hc⟩
def dD (h:EZ)(y:F):List Value:=[ak bc h.heads,ak bc h.FL,ak bc h.most,y]
structure CP (w0:U)(hb B:Nat)(A:Option cF)(cap:Nat)(l:List Int)(M base:Nat)(v:F)(ns:List Int)(u:F)(hs:List EZ)(xs:List F)(W:U):Prop where
 hand:Hand W hb B A cap l M
 Hj:W.L[w0.L.size+1]?=O (bn #[v,u] 25 (0,0))
 I5:W.L[w0.L.size]?=O (bn #[.slice bh 0 0,.slice bh 0 0] 25 (0,0))
 LH:W.H base 3 1 v ns.L (ns.map (ak bc))
 Gj:W.H base 57 4 u hs.L xs
 K3:∀i h,hs[i]?=O h->∃y,(∀j,j<4->xs[i*4+j]?=(dD h y)[j]?)/\W.H base 3 1 y h.off.L (h.off.map (ak bc))
 kt:KT (·=hb) w0 W
 lt:hb<w0.L.size
 bs:w0.L.size+2<=base/\base<=W.L.size
variable {u:F} {hs:List EZ} {xs:List F}
def CO.cp (h:CO w0 hb B A cap l M base v ns W):CP w0 hb B A cap l M base v ns (.slice bh 0 0) [] [] W :=
 ⟨h.hand,h.Hj,h.I5,h.LH,Bs _ _ _ _,λi h hi=>by simp at hi,h.kt,h.lt,h.bs⟩
def CP.keep (h:CP w0 hb B A cap l M base v ns u hs xs W){M':Nat}(hh:Hand W' hb B A cap l M')(hk:∀b,b<W.L.size->b≠hb->W'.L[b]?=W.L[b]?)(kt:KT (·=hb) w0 W')(hz:W.L.size<=W'.L.size):CP w0 hb B A cap l M' base v ns u hs xs W':=by
 have zY:=h.lt;have a6:=h.bs;have ok:∀ {e:bk} {sz n:Nat} {y:F} {zs:List F},W.H base e sz y n zs->W'.H base e sz y n zs:=λho=>ap ho λg hg hl=>hk g hl (by have:=(ho.lt g hg).1;omega);refine⟨hh,(hk _ (AJ.1 h.Hj).1 (by omega)).trans h.Hj,(hk _ (AJ.1 h.I5).1 (by omega)).trans h.I5,ok h.LH,ok h.Gj,λi x hi=>?_,kt,zY,by omega⟩;obtain⟨y,h1,h2⟩:=h.K3 i x hi;exact⟨y,h1,ok h2⟩
def CP.J3 (h:CP w0 hb B A cap l M base v ns u hs xs W){M':Nat}(hh:Hand W' hb B A cap l M')(k:KT (·=hb) W W'):CP w0 hb B A cap l M' base v ns u hs xs W' :=
 h.keep hh (λb hb' zU=>k.LE b hb' zU) (h.kt.trans k) k.size
def CP.LK (h:CP w0 hb B A cap l M base v ns u hs xs W)(o:Obj):CP w0 hb B A cap l M base v ns u hs xs (W.LK o) :=
 h.keep (h.hand.gr ((Gr.refl W).LK o)) (λb hb' _=>aa _ _ hb') (h.kt.trans (KT.E3 ((Gr.refl W).LK o))) (by simp)
def CP.more (h:CP w0 hb B A cap l M base v ns u hs xs W){M':Nat}(hm:M<=M'):CP w0 hb B A cap l M' base v ns u hs xs W:=⟨h.hand.more hm,h.Hj,h.I5,h.LH,h.Gj,h.K3,h.kt,h.lt,h.bs⟩
def CP.cell (h:CP w0 hb B A cap l M base v ns u hs xs W):W.S ⟨w0.L.size+1,1,bh⟩=O u/\W.O ⟨w0.L.size+1,1,bh⟩=cu/\w0.L.size+1<W.L.size:=⟨(Eh h.Hj 1).1,(Eh h.Hj 1).2,(AJ.1 h.Hj).1⟩
def CP.LE (h:CP w0 hb B A cap l M base v ns u hs xs W){w6:U}{o:Obj}{u' y:F}{x:EZ}(hy:W.H base 3 1 y x.off.L (x.off.map (ak bc)))(zl:w6.H base 57 4 u' (hs.L+1) (xs++dD x y))(hg:(W.LK o).grownBy w6 u.L)(hd:(W.LK o).drawn<=w6.drawn) :
  CP w0 hb B A cap l M base v ns u' (hs++[x]) (xs++dD x y) (w6.LH ⟨w0.L.size+1,1,bh⟩ u'):=by
 have zY:=h.lt;have a7:=h.bs;have a8:xs.L=hs.L*4:=h.Gj.1;have hq:=(F7 h.Gj hg (w0.L.size+1) (by omega) (AJ.1 h.Hj).1).trans h.Hj;have hr:=(F7 h.Gj hg w0.L.size (by omega) (AJ.1 h.I5).1).trans h.I5;have ok:∀ {n:Nat} {z:F} {zs:List F},W.H base 3 1 z n zs->(w6.LH ⟨w0.L.size+1,1,bh⟩ u').H base 3 1 z n zs:=λho=>ap ho λg a6 hl =>
  (Bb _ _ _ _ (by have:=(ho.lt g a6).1;show g≠w0.L.size+1;omega)).trans ((hg.LE g (by simp;omega) (fO (by decide) ho h.Gj a6)).trans (aa _ _ hl))
 refine⟨(cY h.hand h.Gj (by omega) hg).Lo (by show hb<w0.L.size+1;omega) _,?_,(Bb _ _ _ _ (by simp)).trans hr,ok h.LH,?_,λi z hi=>?_,(ee h.kt h.Gj (by omega) hg hd).Lo (by show _<=w0.L.size+1;omega) _,zY,a7.1,by have:=fd hg;simp[eF];omega⟩
 .exact aL hq
 .rw[B4];exact ownsRow_setCell_below zl (by show w0.L.size+1<base;omega) _
 .obtain hi'|hi':=BV i hs.L
  .rw[BF hi'] at hi;obtain⟨y',h1,h2⟩:=h.K3 i z hi;exact⟨y',λj hj=>by rw[BF (by omega)];exact h1 j hj,ok h2⟩
  .have e : i = hs.L := by
    have:=(Be.1 hi).1;simp at this;omega
   subst e;rw[BM (AK _)] at hi;simp at hi;subst hi;exact⟨y,λj hj=>by rw[BM (by omega),a8];congr 1;omega,ok hy⟩
def CP.Gs (h:CP w0 hb B A cap l M base v ns u hs xs W):∃nA nc hA hc,v=I nA ns.L nc/\u=I hA hs.L hc/\Ie W (λb=>base<=b/\b<W.L.size) nA ns/\GK W (λb=>base<=b/\b<W.L.size) hA hs:=by
 obtain⟨nA,nc,e1,h1⟩:=Gp h.LH;obtain⟨rfl,h0⟩|⟨g,hc,cur,rfl,hgb,zK,_⟩:=h.Gj.2
 .have:hs=[]:=Bp h0;subst this;exact⟨nA,nc,bh,0,e1,rfl,h1,λhn=>AS rfl hn⟩
 .refine⟨nA,nc,O ⟨g,0,bh⟩,hc,e1,rfl,h1,λ_=>⟨g,0,rfl,⟨hgb,(AJ.1 zK).1⟩,λi x hi=>?_⟩⟩;obtain⟨y,hj,ho⟩:=h.K3 i x hi;obtain⟨A',c',rfl,hr⟩:=Gp ho;have hcell:=h.Gj.cells (g:=g) rfl;have at_:∀j z,j<4->(dD x (I A' x.off.L c'))[j]?=O z->W.S ⟨g,0+i*4+j,bh⟩=O z:=λj z a6 hz=>by
   have:=hcell (i*4+j) z ((hj j a6).trans hz);have e:(⟨g,0,bh⟩:cF).add (i*4+j)=⟨g,0+(i*4+j),bh⟩:=by unfold j0;split<;>simp_all
   rw[e,<-CT] at this;exact this
  exact⟨at_ 0 _ (by omega) rfl,at_ 1 _ (by omega) rfl,at_ 2 _ (by omega) rfl,A',c',at_ 3 _ (by omega) rfl,hr⟩
end
def lM {w:U}{ops:Array cw}{o:cw}{a:Act}{K:Act->U->Prop}{Q:ik->Act->U->Prop}{E:Prop}(hgd:o.guard=bh)(h:dn D7 o a w K Q):if bq o (yielded ops a.tmps)=bo then dn D7 o a w K Q else E:=by
 have hw:bq o (yielded ops a.tmps)=true:=by simp[bq,hgd]
 rw[AP hw];exact h
def qD {w:U}{ops:Array cw}{o:cw}{a:Act}{K:Act->U->Prop}{Q:ik->Act->U->Prop}{E:Prop}(hgd:o.guard=bh)(s x:bw)(ho:o.op=.call { callee:=.builtin .append,args:=#[s,x],argTypes:=#[22,22] })(a6:o.type=22)
  (base:Nat) (v:F) (n:Nat) (xs:List F) (hs:a.eval s=v) (zl:w.H base 3 1 v n xs) (y:F) (h1:y.oneCell'=bo) (hx:a.eval x=.slice (O ⟨w.L.size,0,bh⟩) 1 1) (hn:n<=1048576) (hbase:base<=w.L.size)
  (h:∀v' w',w'.H base 3 1 v' (n+1) (xs++[y])->(w.LK (bn #[y] 3)).grownBy w' v.L->(w.LK (bn #[y] 3)).drawn<=w'.drawn->K (a.put o.L v') w') :
  if bq o (yielded ops a.tmps)=bo then dn D7 o a (w.LK (bn #[y] 3)) K Q else E:=by
 have hw:bq o (yielded ops a.tmps)=true:=by simp[bq,hgd]
 rw[AP hw];obtain⟨i0,hi,zF,zE,zD⟩:=eG DD
 obtain⟨v',w',hr,h2,h3,h4⟩:=j1 (P:=D7) (w.LK (bn #[y] 3)) base 22 22 3 i0 _ 1 8 ((Sq.LH 22).trans Tryz.underlying22) hi zF zE zD rfl (by decide) v n xs (zl.LK _) ⟨w.L.size,0,bh⟩ 1 1 [y] rfl (λj u hj=>by
  match j,hj with
  |0,hj=>cases hj;rw[ez,AM _ _ _ _ (by simp)];rfl) (λu hu=>by simp at hu;subst hu;exact h1) (by unfold maxLen;omega) (by omega) (by simp;omega)
 have hd:=Go.EB.Gh D7 (Builtin.append_ #[22,22] 22 #[v,.slice (O ⟨w.L.size,0,bh⟩) 1 1]) (w.LK (bn #[y] 3)) #[];rw[ko,hr] at hd;unfold dn cf;simp only[ho,resolve,invoke,builtin,kp,kq,Result.andThen_ok,C4,Ci,CX,hs,hx,hr,a6];exact h v' w' h2 h3 hd
def Am {w:U}{ops:Array cw}{rest:List cw}{o:cw}{a:Act}{Q:ik->Act->U->Prop}(hgd:o.guard=bh)(s x:bw)(ho:o.op=.call { callee:=.builtin .append,args:=#[s,x],argTypes:=#[23,23] })
  (base:Nat) (v:F) (n:Nat) (xs:List F) (hs:a.eval s=v) (zl:w.H base 57 4 v n xs) (ad:cF) (c:Nat) (news:List F) (hx:a.eval x=.slice (O ad) 1 c) (h4:news.L=4) (hc:∀(j:Nat) (u:F),news[j]?=O u->w.S (ad.add j)=O u) (h1:∀u∈news,u.oneCell'=bo)
  (hn:n<=1048576) (hbase:base<=w.L.size) (h:∀v' w',w'.H base 57 4 v' (n+1) (xs++news)->w.grownBy w' v.L->w.drawn<=w'.drawn->wpList D7 ops Q rest (a.put o.L v') w'):wpList D7 ops Q (o::rest) a w:=by
 obtain⟨i0,hi,zF,zE,zD⟩:=eG DI;exact EL hgd s x 23 ho base 57 i0 _ 4 48 Sq.underlying23 hi zF zE zD rfl (by decide) v n xs hs zl ad 1 c news hx (by omega) hc h1 (by unfold maxLen;omega) (by omega) hbase h
def xq (nA hA gA rA:Option cF)(nc hc gc rc:Nat)(c:Ek)(ls:List (List Int))(rs:List (Int×Int))(w:U)(B:Nat)(hB:B<=w.L.size)(hn:RI w B nA c.D9)(hh:Fe w B hA c.D8)(hg:E7 w B gA ls)(hr:FA w B rA rs)
  (Gg:c.D9.L<=4611686018427387904) (zC:c.D8.L<=4611686018427387904) (Fa:∀h∈c.D8,h.off.L<=4611686018427387904) (G4:ls.L<=4611686018427387904) (zq:∀x∈ls,x.L<=4611686018427387904) (Io:rs.L<=1048576) (Im:rs.L<=rc)
  (hF:Et c ls=0) (hR:bE c.D9.L rs=0) :
  cK D7 15 #[En nA hA c nc hc,I gA ls.L gc,I rA rs.L rc] w λe w'=>Gr w w'/\∃A k,e=.L (.tuple #[I A rs.L k,ak bc 0])/\Ie w' (λb=>w.L.size<=b/\b<w'.L.size) A (Hi c (Ec ls) c.D9.L rs):=by
 unfold En;obtain⟨W0,zM⟩:∃W0:U,W0=w.LK (bn #[I nA c.D9.L nc,I hA c.D8.L hc] 25):=⟨_,rfl⟩;have zL:Gr w W0:=zM▸(Gr.refl w).LK _;have zF:W0.L.size=w.L.size+1:=by rw[zM];simp
 have HW:=AI zM;have aH:=jp nA hA gA rA nc hc gc rc c ls rs W0 B (by omega) (hn.gr hB zL) (hh.keep λb o hb=>zL.cell (AO hb hB)) (hg.gr hB zL) (hr.gr hB zL) Gg zC Fa G4 zq (by omega) Im hF hR;unfold En at aH;have aW:=AI aH;have bF:=AI zL;have bG:=AI (hr.gr hB zL);have bW:Hid (W0.S ⟨w.L.size,1,bh⟩=O (I hA c.D8.L hc)):=AI (by rw[zM,AM _ _ _ _ rfl];rfl);have bH:=AI hF
 have a7:=AI (Ek.Ok.of (show Ex c=0 by
  have:=hF;unfold Et at this;split at this
  .exact AS this (by assumption)
  .simpa using ‹¬Ex c≠0›))
 have aX:=AI (eN hR);clear zM zL aH hn hh hg hr zq Fa hF hR;go_enter Sq.func15,Tryz.ntmps15;go_wp2_with fail;rw[<-HW.out];refine aW.out.LT ?_;rintro e w1 ⟨zJ,cb,A,ka,rfl,aY,aC⟩;obtain⟨W1,zt⟩:∃W1:U,W1=w1.LK (bn #[.int .u8 (Ec ls 0),.int .u8 (Ec ls 1),.int .u8 (Ec ls 2),.int .u8 (Ec ls 3),.int .u8 (Ec ls 4)] 77):=⟨_,rfl⟩;have aA:Gr w1 W1:=zt▸(Gr.refl w1).LK _;have zE:W1.L.size=w1.L.size+1:=by rw[zt];simp
 have hzz:=zJ.size;have bX:=a7.out.h4;have bY:=a7.out.n5;obtain⟨Wz,aD⟩:∃Wz:U,Wz=W1.LK (.cells (ID c.D9.L) 3):=⟨_,rfl⟩;have aF:Gr W1 Wz:=aD▸(Gr.refl W1).LK _;have aJ:Wz.L.size=w1.L.size+2:=by rw[aD];simp;omega
 have aZ:Hid (Gz Wz (w1.L.size+1) c.D9.L λ_=>0):=AI (zE▸aD▸ef W1 c.D9.L);have bI:=AI ((zJ.trans aA).trans aF);have b5:=aY.on (aA.trans aF);have bJ:Hid (∀i,i<5->W1.S ⟨w1.L.size,i,bh⟩=O (.int .u8 (Ec ls i:Nat))):=AI λi hi=>by
  rw[zt,AM _ _ _ _ (by simp)]
  match i,hi with
  |0,_=>rfl
  |1,_=>rfl
  |2,_=>rfl
  |3,_=>rfl
  |4,_=>rfl
 have b6:∀x∈Er c.D9.L rs rs.L,0<=x/\x<=60:=λx hx=>by
  obtain⟨j,_,rfl⟩:=Bu.1 hx;exact eu aX.out _ _ (AK _)
 have aB:=jq cb nA hA A nc hc ka c (Ec ls) (Er c.D9.L rs rs.L) Wz b5 a7.out (eM bH.out) b6 (by rw[aI];exact a7.out.n5) ((aC.gr (AK _) (aA.trans aF)).more (by omega));rw[aI] at aB;have bK:=cX a7.out (Ec ls) (Er c.D9.L rs rs.L);have b7:Hid (∀q∈ET c (Ec ls) (Er c.D9.L rs rs.L),0<=q.1/\q.1<c.D9.L/\0<=q.2/\q.2<c.D8.L):=AI λq hq=>by
  have:=(dz a7.out (Ec ls) (Er c.D9.L rs rs.L)).night q hq
  rwa [aI] at this
 have aK:Hid (Hi c (Ec ls) c.D9.L rs=rs.map λx=>(EX (·.1) (ET c (Ec ls) (Er c.D9.L rs rs.L)) x.1:Int)):=AI rfl;obtain⟨L,hL⟩:∃L,L=ET c (Ec ls) (Er c.D9.L rs rs.L):=⟨_,rfl⟩;rw[<-hL] at aB bK b7 aK;clear hL;have aL:=AI aB;have aM:∀i,i<5->Wz.S ⟨w1.L.size,i,bh⟩=O (.int .u8 (Ec ls i:Nat)):=λi hi=>(aF.cell (by show w1.L.size<_;omega)).trans (bJ.out i hi)
 obtain⟨a0,a1,a2,a3,a4⟩:=IJ aM;have bZ:w.L.size<w1.L.size:=by omega
 have hwz:w1.L.size<Wz.L.size:=by omega
 have c0:=λw=>da c.D9.L w (by omega);have bL:=AI zt;have bM:=AI aD;have c4:=AI zE;have c5:=aJ;clear zJ aY aC aA aW zt aD aF b5 aB aM b6 aJ zE;unfold E6 at *;go_wp2_with fail;rw[<-bL.out,<-bM.out];refine aL.out.LT ?_;rintro e w2 ⟨v,rfl,hown2,zI⟩;obtain⟨A2,k2,rfl,b8⟩:=JP hown2;have bN:=AI b8;have bO:=AI (bI.out.trans zI);have bP:=AI ((aZ.out.gr zI).congr (V':=λh=>(EX (·.1) (L.LT 0) (h:Int):Int)) λq _=>by simp[EX])
 have zD:=zI.size;clear hown2 zI b8 a0 a1 a2 a3 a4 aL aZ;go_wp2;go_loopw [38] (λi wr=>∃k:Nat,k<=L.L/\i=ak bc k/\Gr W0 wr/\Gz wr (w1.L.size+1) c.D9.L (λh=>(EX (·.1) (L.LT k) (h:Int):Int))/\w2.L.size<=wr.L.size/\∀b,b<w2.L.size->b≠w1.L.size+1->wr.L[b]?=w2.L[b]?) (λi _=>L.L-(br i).L)
 case atStart=>exact⟨0,by omega,rfl,bO.out,bP.out,AK _,λ_ _ _=>rfl⟩
 case round =>
  obtain⟨k,hk,rfl,zV,a6,bQ,a8⟩:=hrel;have b9:=AI zV;have bR:=AI a6;have HKR:=AI a8;by_cases hlk:k<L.L
  .have aN:=b7.out _ (BN hlk);have aO:L[k]?.LH (0,0)=L[k]:=by rw[AL hlk];rfl
   obtain⟨b,o,rfl,aG,bA⟩:=bN.out (λe=>by rw[e] at hlk;simp at hlk);obtain⟨h1,h2⟩:=bA k _ (AL hlk);have d1:=(A7 (a:=⟨b,o+k*2,bh⟩) (a8 b aG.2 (by have:=aG.1;omega))).trans h1;have d2:=(A7 (a:=⟨b,o+k*2+1,bh⟩) (a8 b aG.2 (by have:=aG.1;omega))).trans h2;rw[<-aO] at aN d1 d2;have aP:=AI (λt:Int=>gM (·.1) L k hlk t);have hcb:=λt:Int=>gN (·.1) L k t;generalize L[k]?.LH (0,0)=q at aN d1 d2 aP
   obtain⟨q1,q2⟩:=q;dsimp only at aN d1 d2 aP;obtain⟨qn,rfl⟩:∃j:Nat,q1=j:=⟨q1.L,by omega⟩;obtain⟨qf,rfl⟩:∃j:Nat,q2=j:=⟨q2.L,by omega⟩;have bB:qn<c.D9.L:=by omega
   obtain⟨e1,e2⟩:=(a6.gr ((Gr.refl wr).LK (bn #[ak bc (qn:Int),ak bc (qf:Int)] 83))).at_ qn bB;have aQ:=hcb qn
   have aR:Hid (Gz ((wr.LK (bn #[ak bc (qn:Int),ak bc (qf:Int)] 83)).LH ⟨w1.L.size+1,qn,bh⟩ (ak bc ((EX (·.1) (L.LT k) (qn:Int):Int)+1))) (w1.L.size+1) c.D9.L (λh=>(EX (·.1) (L.LT (k+1)) (h:Int):Int))):=AI ((a6.gr ((Gr.refl wr).LK _)).Lo bB _ λq _=>by
    rw[aP.out];by_cases e:q=qn
    .subst e;rw[AP rfl,AP rfl];rfl
    .rw[AN e,AN (by omega)];rfl)
   have aS:=AI (λv=>(zV.LK (bn #[ak bc (qn:Int),ak bc (qf:Int)] 83)).LH (p:=⟨w1.L.size+1,qn,bh⟩) (by show _<=w1.L.size+1;omega) v);have bS:=AI (λ(v:F) (b:Nat) (hb:b<w2.L.size) (zU:b≠w1.L.size+1)=>(Bb (wr.LK (bn #[ak bc (qn:Int),ak bc (qf:Int)] 83)) ⟨w1.L.size+1,qn,bh⟩ v b zU).trans ((aa _ _ (AO hb bQ)).trans (a8 b hb zU)));clear zV a6 a8 bA h1 h2 aO hcb
   generalize (EX (·.1) (L.LT k) (qn:Int))=V at e1 aQ aR;go_wp2;go_roundw
   case rel=>exact⟨k+1,by omega,by go_num,aS.out _,aR.out,by simp[World.setCell];omega,bS.out _⟩
   case measure=>simp[Proofs.intOf];omega
  .have aT:k=L.L:=by omega
   subst aT;obtain⟨T,hT⟩:∃T,T=Hi c (Ec ls) c.D9.L rs:=⟨_,rfl⟩;have bC:Hid (T.L=rs.L):=AI (by rw[hT];simp[Hi]);have HTA:Hid (∀k,k<rs.L->T[k]?=O (EX (·.1) L (rs[k]?.LH (0,0)).1:Int)):=AI λk hk=>by
    rw[hT,aK.out,Bv,AL hk];rfl
   have HTE:=AI hT;rw[CW] at a6;obtain⟨w3,rfl⟩:∃w3,w3=wr:=⟨_,rfl⟩;have HF:=AI a6;have bD:=AI zV;have hz30:=zV.size;have hz31:=a6.lt;clear zV a6 a8 hT bR;go_wp2;go_loopw [15,52] (λv i wr=>∃k:Nat,k<=rs.L/\i=ak bc k/\Gr w3 wr/\wr.H w3.L.size 3 1 v (T.LT k).L ((T.LT k).map (ak bc))) (λ_ i _=>rs.L-(br i).L)
   case atStart=>exact⟨0,by omega,rfl,.refl _,Bs _ _ _ _⟩
   case round =>
    obtain⟨k,hk,rfl,zV,zl⟩:=hrel;have b9:=AI zV;have HO:=AI zl;have hzr2:=zV.size;by_cases zY:k<rs.L
    .obtain⟨b,o,rfl,hb,h1,h2⟩:=(bG.out.gr (by omega) (bD.out.trans zV)).at_ zY;have hro:=(nl (aX.out k zY)).1;have aU:=AI (HTA.out k zY);generalize rs[k]?.LH (0,0)=x at h1 h2 hro aU;obtain⟨xn,xv⟩:=x;dsimp only at h1 h2 hro aU;obtain⟨j,rfl⟩:∃j:Nat,xn=j:=⟨xn.L,by simp[FM] at hro;omega⟩;have bT:j<c.D9.L:=by simp[FM] at hro;omega
     obtain⟨e1,_⟩:=(HF.out.gr (zV.LK (bn #[ak bc (j:Int),ak bc xv] 29))).at_ j bT;have aQ:=dT (·.1) L (j:Int);have aV:Hid (T.LT (k+1)=T.LT k++[(EX (·.1) L (j:Int):Int)]):=AI (by rw[CN,aU.out];rfl);have zk:(T.LT k).L<=k:=by rw[CV];omega
     generalize (EX (·.1) L (j:Int))=V at e1 aQ aV;generalize T.LT k=M at zl HO aV zk;have hown1:=(zl.LK (bn #[ak bc (j:Int),ak bc xv] 29)).LK (bn #[ak bc (V:Int)] 3);clear zV zl;go_wp2_with (at_builtin;refine fP rfl _ _ rfl w3.L.size _ _ _ rfl hown1 ⟨wr.L.size+1,0,bh⟩ 1 (ak bc V) rfl ?c1 rfl ?c2 ?c3 ?_)
     case c1=>rw[AM _ _ _ _ (by simp)];rfl
     case c2=>omega
     case c3=>simp;omega
     intro v' w4 hown' hgrow hd;have bU:=AI (((b9.out.LK _).LK _).Lo hgrow hd λq hq=>(HO.out.lt q hq).1);have bV:Hid (w4.H w3.L.size 3 1 v' (T.LT (k+1)).L ((T.LT (k+1)).map (ak bc))):=AI (by rw[aV.out];simpa using hown');go_wp2;go_roundw
     case rel=>exact⟨k+1,by omega,by go_num,bU.out,bV.out⟩
     case measure=>simp[Proofs.intOf];omega
    .have aT:k=rs.L:=by omega
     subst aT;have aS:=AI (bF.out.trans (bD.out.trans zV));rw[<-bC.out,CW] at zl;have HFO:=AI (Gp zl);obtain⟨A9,k9,rfl,aC⟩:=HFO.out;rw[HTE.out] at aC;have HR9:=AI (eh aC (K':=λb=>w.L.size<=b/\b<wr.L.size) (λb hb=>⟨by have:=hb.1;omega,hb.2⟩) λ_ _ _=>rfl);rw[bC.out];go_wp2;go_ret2;exact⟨aS.out,_,_,rfl,HR9.out⟩
open Go.EB (iE kh i6)
def Oa:k7->k7
 |.seq _ c=>c
 |c=>c
def K4:k7->k7
 |.seq c _=>c
 |c=>c
def JH:Nat->k7->k7
 |0,c=>c
 |n+1,c=>JH n (Oa c)
structure Made (c:Ek)(nA hA gA:Option cF)(cb:Nat)(nc hc:Nat)(ls:List (List Int))(W:U):Prop where
 lt:cb<W.L.size
 c0:W.S ⟨cb,0,bh⟩=O (I nA c.D9.L nc)
 c1:W.S ⟨cb,1,bh⟩=O (I hA c.D8.L hc)
 D9:RI W W.L.size nA c.D9
 Gj:Fe W W.L.size hA c.D8
 Rt:E7 W W.L.size gA ls
def sR (k:Nat):((bb (k+1)).map λn:Nat=>(n:Int))=((bb k).map λn:Nat=>(n:Int))++[(k:Int)]:=by
 rw[C6,Cx];rfl
def qE (k:Nat):((bb k).map λn:Nat=>(n:Int)).Nodup:=by
 rw[List.nodup_iff_pairwise_ne,List.pairwise_map];exact List.pairwise_lt_range.imp λh=>by omega
def xu (k:Nat):∀x∈(bb k).map (λn:Nat=>(n:Int)),0<=x/\x<k:=λx hx=>by
 obtain⟨n,hn,rfl⟩:=Bu.1 hx;have:=BQ.1 hn;omega
def KT.Ru {w0 W:U}{hb:Nat}(h:KT (·=hb) w0 W){p:cF}(hp:w0.L.size<=p.LE)(x:F):KT (·=hb) w0 (W.LH p x):=KT.Lo h hp x
def sT {L:List Int}{q r:Nat}(hq:q<L.L)(hr:r<L.L):((L.Lo q (L[r]?.LH 0)).Lo r (L[q]?.LH 0)).Perm L:=by
 rw[AL hq,AL hr];exact List.set_set_perm hq hr
def pw {w:U}{base g cap:Nat}{l:List Int}(h:w.H base 3 1 (.slice (O ⟨g,0,bh⟩) l.L cap) l.L (l.map (ak bc)))(k:Nat)(x:Int):(w.LH ⟨g,k,bh⟩ (ak bc x)).H base 3 1 (.slice (O ⟨g,0,bh⟩) (l.Lo k x).L cap) (l.Lo k x).L ((l.Lo k x).map (ak bc)):=by
 have:=(h.stored k (ak bc x)).1;rw[List.map_set,C1];exact this
def LN {w:U}{base g cap:Nat}{l:List Int}(h:w.H base 3 1 (.slice (O ⟨g,0,bh⟩) l.L cap) l.L (l.map (ak bc))){k:Nat}(hk:k<l.L):w.S ⟨g,k,bh⟩=O (ak bc (l[k]?.LH 0))/\w.O ⟨g,k,bh⟩=false:=by
 refine⟨?_,h.frozenAt k⟩;rw[h.cellAt k (by omega),Bv,AL hk];rfl
def Lq {w:U}{base:Nat}{v:F}{l:List Int}(h:w.H base 3 1 v l.L (l.map (ak bc)))(hn:0<l.L):∃g cap,v=.slice (O ⟨g,0,bh⟩) l.L cap/\base<=g/\g<w.L.size:=by
 obtain⟨_,h0⟩|⟨g,cap,cur,hv,hb,hg,_⟩:=h.2
 .omega
 .exact⟨g,cap,hv,hb,(AJ.1 hg).1⟩
def Ao (hb B:Nat)(A:Option cF)(cap:Nat)(l:List Int)(N n:Nat)(w:U)(h:Hand w hb B A cap l N)(hN:N<=1000000)(hn:n<=64) :
  cK D7 37 #[.S (O ⟨hb,0,bh⟩),ak bc n] w λe w'=>∃(v:F) (L:List Int),e=.L v/\w'.H w.L.size 3 1 v L.L (L.map (ak bc))/\L.L=n/\L.Nodup/\(∀x∈L,0<=x/\x<n)/\Hand w' hb B A cap l (N+n)/\KH hb w w':=by
 have HH:=AI h;have zY:=h.lt;go_enter Sq.func37,Tryz.ntmps37;go_wp2;go_loopw [5,6] (λv i wr=>∃k:Nat,k<=n/\i=ak bc k/\wr.H w.L.size 3 1 v ((bb k).map λn:Nat=>(n:Int)).L (((bb k).map λn:Nat=>(n:Int)).map (ak bc))/\Gr w wr) (λ_ i _=>n-(br i).L)
 case atStart=>exact⟨0,by omega,rfl,Bs _ _ _ _,.refl _⟩
 case round =>
  obtain⟨k,hk,rfl,zl,zV⟩:=hrel;have HG:=AI zV;have HO:=AI zl;by_cases hlk:k<n
  .have HS:=AI (sR k);have zk:((bb k).map λn:Nat=>(n:Int)).L=k:=by simp
   generalize ((bb k).map λn:Nat=>(n:Int))=L at zl HO HS zk;go_wp2_with (at_builtin;refine fP rfl _ _ rfl w.L.size _ _ _ rfl (zl.LK _) ⟨wr.L.size,0,bh⟩ 1 (ak bc k) rfl ?c1 rfl ?c2 ?c3 ?_)
   case c1=>rw[AM _ _ _ _ (by simp)];rfl
   case c2=>omega
   case c3=>have:=HG.out.size;simp;omega
   intro v' w3 hown' hgrow hd;have aT:=AI ((HG.out.LK _).Lo hgrow hd λq hq=>(HO.out.lt q hq).1);have aB:Hid (w3.H w.L.size 3 1 v' ((bb (k+1)).map λn:Nat=>(n:Int)).L (((bb (k+1)).map λn:Nat=>(n:Int)).map (ak bc))):=AI (by rw[HS.out];simpa [zk] using hown');go_wp2;go_roundw
   case rel=>exact⟨k+1,by omega,by go_num,aB.out,aT.out⟩
   case measure=>simp[Proofs.intOf];omega
  .have aU:k=n:=by omega
   subst aU;have a6:Hid (((bb k).map λn:Nat=>(n:Int)).L=k):=AI (by simp);have aC:=AI (qE k);have aD:=AI (xu k);generalize ((bb k).map λn:Nat=>(n:Int))=L0 at zl HO a6 aC aD;have aN:=AI (HH.out.gr HG.out);have aO:=AI (KT.E3 (T:=(·=hb)) HG.out);rename_i v0;by_cases aV:k=0
   .subst aV;go_wp2;go_loopw [7] (λi wr'=>i=ak bc (-1)/\wr'=wr) (λ_ _=>0)
    case atStart=>exact⟨rfl,rfl⟩
    case round =>
     obtain⟨rfl,rfl⟩:=hrel;go_wp2;go_ret;exact⟨_,L0,rfl,HO.out,a6.out,aC.out,aD.out,aN.out,aO.out⟩
   .obtain⟨g,gc,hv,hgb,zQ⟩:=Lq HO.out (by rw[a6.out];omega);rw[a6.out] at hv;subst hv;have hgh:hb<g:=by omega
    obtain⟨w1,rfl⟩:∃w1,w1=wr:=⟨_,rfl⟩;go_wp2;go_loopw [7] (λi wr=>∃q:Nat,q<k/\i=ak bc q/\∃L:List Int,L.L=k/\L.Nodup/\(∀x∈L,0<=x/\x<k)/\wr.H w.L.size 3 1 (.slice (O ⟨g,0,bh⟩) L.L gc) L.L (L.map (ak bc))/\Hand wr hb B A cap l (N+(k-1-q))/\KH hb w wr) (λi _=>(br i).L)
    case atStart=>exact⟨k-1,by omega,by go_num,L0,a6.out,aC.out,aD.out,by rw[a6.out];have:=HO.out;rw[a6.out] at this;exact this,aN.out.more (by omega),aO.out⟩
    case round =>
     obtain⟨q,hq,rfl,L,aW,aX,aY,zl,hh,aP⟩:=hrel;have aQ:=AI zl;have aF:=AI aX;have aG:=AI aY;have aR:=AI aP;have a7:=AI aW;have hz:=aP.size;by_cases b6:0<q
     .have HC:=AI (eO hb B A cap l (N+(k-1-q)) q wr hh (by omega) (by omega));have b7:df ((q:Int) > 0)=true:=by simp;omega
      go_wp2_with fail;refine HC.out.LT ?_;rintro e w2 ⟨⟨r,rfl,hr⟩,aZ,aH⟩;have zT:r<k:=by omega
      have hown2:w2.H w.L.size 3 1 (.slice (O ⟨g,0,bh⟩) L.L gc) L.L (L.map (ak bc)):=fE aQ.out zY aH;have aI:r<L.L:=by rw[a7.out];exact zT
      have aS:q<L.L:=by rw[a7.out];exact hq
      obtain⟨c1,f1⟩:=LN hown2 aS;obtain⟨c2,f2⟩:=LN hown2 aI;have a8:=pw hown2 q (L[r]?.LH 0);obtain⟨c3,_⟩:=LN a8 (k:=r) (by rw[C1];exact aI);have aM:=pw a8 r (L[q]?.LH 0);have aA:=AI (sT aS aI);have aJ:=AI aM;have aK:=AI ((aZ.Lo (p:=⟨g,q,bh⟩) hgh (ak bc (L[r]?.LH 0))).Lo (p:=⟨g,r,bh⟩) hgh (ak bc (L[q]?.LH 0)));have aL:=AI (((aR.out.trans aH).Ru (p:=⟨g,q,bh⟩) hgb (ak bc (L[r]?.LH 0))).Ru (p:=⟨g,r,bh⟩) hgb (ak bc (L[q]?.LH 0)))
      generalize (L.Lo q (L[r]?.LH 0))[r]?.LH 0=d at c3;generalize L[r]?.LH 0=y at c2 c3 aA aJ aK aL;generalize L[q]?.LH 0=x at c1 aA aJ aK aL;go_wp2;go_roundw
      case rel=>exact⟨q-1,by omega,by go_num,(L.Lo q y).Lo r x,by rw[C1,C1];exact a7.out,aA.out.nodup_iff.2 aF.out,λz hz=>aG.out z (aA.out.mem_iff.1 hz),aJ.out,aK.out.more (by omega),aL.out⟩
      case measure=>simp[Proofs.intOf];omega
     .have b5:=AI hh;have aB:Hid (wr.H w.L.size 3 1 (.slice (O ⟨g,0,bh⟩) k gc) L.L (L.map (ak bc))):=AI (by have:=aQ.out;rw[a7.out] at this ⊢;exact this);go_wp2;go_ret;exact⟨_,L,rfl,aB.out,a7.out,aF.out,aG.out,b5.out.more (by omega),aR.out⟩
def IQ {w:U}{base:Nat}{e:bk}{v:F}{l:List (Int×Int)}(h:w.H base e 2 v l.L (Es l)):∃A c,v=I A l.L c/\FA w w.L.size A l/\l.L<=c:=by
 obtain⟨rfl,h0⟩|⟨g,cap,cur,rfl,_,hg,hc,_⟩:=h.2
 .have:l=[]:=Bp h0;subst this;exact⟨bh,0,rfl,λh=>AS rfl h,AK _⟩
 .refine⟨_,cap,rfl,λ_=>⟨g,0,rfl,(AJ.1 hg).1,λi x hx=>?_⟩,hc⟩;have hi:=(Be.1 hx).1;have a6:l[i]?.LH (0,0)=x:=by rw[hx];rfl
  have e:∀j,(⟨g,0,bh⟩:cF).add j=⟨g,0+j,bh⟩:=λj=>by unfold j0;split<;>simp_all
  have h1:=h.cells (g:=g) rfl _ _ (GY hi).1;have h2:=h.cells (g:=g) rfl _ _ (GY hi).2;rw[e,a6] at h1 h2;exact⟨h1,by rw[CT];exact h2⟩
structure RO (w0:U)(hb B:Nat)(A:Option cF)(cap:Nat)(l:List Int)(M base:Nat)(v:F)(rs:List (Int×Int))(L:List Int)(g gc:Nat)(W:U):Prop where
 hand:Hand W hb B A cap l M
 LH:W.H base 29 2 v rs.L (Es rs)
 Jr:W.H base 3 1 (.slice (O ⟨g,0,bh⟩) L.L gc) L.L (L.map (ak bc))
 kt:KT (·=hb) w0 W
 lt:hb<w0.L.size
 bs:w0.L.size<=base/\base<=W.L.size
section
variable {w0 W W':U} {hb B:Nat} {A:Option cF} {cap:Nat} {l:List Int} {M base:Nat} {v:F} {rs:List (Int×Int)} {L:List Int} {g gc:Nat}
def RO.drew (h:RO w0 hb B A cap l M base v rs L g gc W):RO w0 hb B A cap l M base v rs L g gc W.drew :=
 ⟨h.hand.gr (Gr.refl W).drew,ap h.LH λ_ _ _=>rfl,ap h.Jr λ_ _ _=>rfl,⟨h.kt.os,h.kt.tape,h.kt.output,C3 h.kt.drawn,h.kt.size,h.kt.LE⟩,h.lt,h.bs⟩
def RO.LK (h:RO w0 hb B A cap l M base v rs L g gc W)(o:Obj):RO w0 hb B A cap l M base v rs L g gc (W.LK o) :=
 ⟨h.hand.gr ((Gr.refl W).LK o),h.LH.LK o,h.Jr.LK o,h.kt.trans (KT.E3 ((Gr.refl W).LK o)),h.lt,by have:=h.bs;simp;omega⟩
def RO.J3 (h:RO w0 hb B A cap l M base v rs L g gc W){M':Nat}(hh:Hand W' hb B A cap l M')(k:KT (·=hb) W W'):RO w0 hb B A cap l M' base v rs L g gc W' :=
 ⟨hh,fE h.LH (by have:=h.lt;have:=h.bs;omega) k,fE h.Jr (by have:=h.lt;have:=h.bs;omega) k,h.kt.trans k,h.lt,by have:=h.bs;have:=k.size;omega⟩
def RO.more (h:RO w0 hb B A cap l M base v rs L g gc W){M':Nat}(hm:M<=M'):RO w0 hb B A cap l M' base v rs L g gc W:=⟨h.hand.more hm,h.LH,h.Jr,h.kt,h.lt,h.bs⟩
def RO.cell (h:RO w0 hb B A cap l M base v rs L g gc W){k:Nat}(hk:k<L.L):W.S ⟨g,k,bh⟩=O (ak bc (L[k]?.LH 0))/\g<W.L.size:=⟨(LN h.Jr hk).1,(h.Jr.lt g rfl).2⟩
def RO.room (h:RO w0 hb B A cap l M base v rs L g gc W)(o:Obj):W.L.size≠hb/\W.L.size<(W.LK o).L.size:=by
 have:=h.hand.lt;simp;omega
def RO.LE (h:RO w0 hb B A cap l M base v rs L g gc W){w6:U}{o:Obj}{v':F}{q:Int×Int}(zl:w6.H base 29 2 v' (rs++[q]).L (Es (rs++[q])))(hg:(W.LK o).grownBy w6 v.L)(hd:(W.LK o).drawn<=w6.drawn) :
  RO w0 hb B A cap l M base v' (rs++[q]) L g gc w6:=by
 have zY:=h.lt;have a6:=h.bs;refine⟨cY h.hand h.LH (by omega) hg,zl,ap h.Jr λb hb' hl=>?_,ee h.kt h.LH (by omega) hg hd,zY,a6.1,by have:=fd hg;omega⟩;rw[hg.LE b (by simp;omega) (fO (by decide) h.Jr h.LH hb'),aa _ _ hl]
end
def DJ:(D7.info? 29).map (λi=>(i.zero,i.size,i.bytes))=O (O (.agg #[ak bc 0,ak bc 0]),2,16):=by
 rw[Dy];kernel_rfl
def qF {w:U}{ops:Array cw}{o:cw}{a:Act}{K:Act->U->Prop}{Q:ik->Act->U->Prop}{E:Prop}(hgd:o.guard=bh)(s x:bw)(ho:o.op=.call { callee:=.builtin .append,args:=#[s,x],argTypes:=#[27,27] })(a6:o.type=27)
  (base:Nat) (v:F) (n:Nat) (xs:List F) (hs:a.eval s=v) (zl:w.H base 29 2 v n xs) (y z:F) (h1:y.oneCell'=bo) (h2:z.oneCell'=bo) (hx:a.eval x=.slice (O ⟨w.L.size,0,bh⟩) 1 1) (hn:n<=1048576) (hbase:base<=w.L.size)
  (h:∀v' w',w'.H base 29 2 v' (n+1) (xs++[y,z])->(w.LK (bn #[y,z] 29)).grownBy w' v.L->(w.LK (bn #[y,z] 29)).drawn<=w'.drawn->K (a.put o.L v') w') :
  if bq o (yielded ops a.tmps)=bo then dn D7 o a (w.LK (bn #[y,z] 29)) K Q else E:=by
 have hw:bq o (yielded ops a.tmps)=true:=by simp[bq,hgd]
 rw[AP hw];obtain⟨i0,hi,zF,zE,zD⟩:=eG DJ
 obtain⟨v',w',hr,h2,h3,h4⟩:=j1 (P:=D7) (w.LK (bn #[y,z] 29)) base 27 27 29 i0 _ 2 16 ((Sq.LH 27).trans fW) hi zF zE zD rfl (by decide) v n xs (zl.LK _) ⟨w.L.size,0,bh⟩ 1 1 [y,z] rfl (λj u hj=>by
  match j,hj with
  |0,hj=>cases hj;rw[ez,AM _ _ _ _ (by simp)];rfl
  |1,hj=>cases hj;rw[ez,AM _ _ _ _ (by simp)];rfl) (λu hu=>by
   simp only[AT,AQ,or_false] at hu;obtain rfl|rfl:=hu
   .exact h1
   .exact h2) (by unfold maxLen;omega) (by omega) (by simp;omega)
 have hd:=Go.EB.Gh D7 (Builtin.append_ #[27,27] 27 #[v,.slice (O ⟨w.L.size,0,bh⟩) 1 1]) (w.LK (bn #[y,z] 29)) #[];rw[ko,hr] at hd;unfold dn cf;simp only[ho,resolve,invoke,builtin,kp,kq,Result.andThen_ok,C4,Ci,CX,hs,hx,hr,a6];exact h v' w' h2 h3 hd
def sU (hb B:Nat)(A nA hA:Option cF)(cap nc hc:Nat)(l:List Int)(N n m:Nat)(w:U)(h:Hand w hb B A cap l N)(hN:N<=100000)(hn:n<=64) :
  cK D7 10 #[.S (O ⟨hb,0,bh⟩),.agg #[I nA n nc,I hA m hc]] w λe w'=>∃(v:F) (rs:List (Int×Int)),e=.L v/\w'.H (w.L.size+1) 29 2 v rs.L (Es rs)/\rs.L<=n/\(rs.map (·.1)).Nodup/\(∀q∈rs,(0<=q.1/\q.1<n)/\0<=q.2/\q.2<=60)/\Hand w' hb B A cap l (N+5*n+1)/\KH hb w w':=by
 obtain⟨W0,zM⟩:∃W0:U,W0=w.LK (bn #[I nA n nc,I hA m hc] 25):=⟨_,rfl⟩;have zL:Gr w W0:=zM▸(Gr.refl w).LK _;have aJ:Hid (W0.L.size=w.L.size+1):=AI (by rw[zM];simp);have zY:=h.lt;have hcell:W0.S ⟨w.L.size,0,bh⟩=O (I nA n nc):=by
  rw[zM,AM _ _ _ _ rfl];rfl
 have aP:=AI (Ao hb B A cap l N n W0 (h.gr zL) (by omega) hn);have aW:Hid (KT (·=hb) w W0):=AI (KT.E3 zL);have HW:=AI zM;have bE:w.L.size<W0.L.size:=by have:=aJ.out;omega
 clear zM zL h;go_enter Sq.func10,Tryz.ntmps10;go_wp2_with fail;rw[<-HW.out];go_wp2_with fail;refine aP.out.LT ?_;rintro e w1 ⟨v1,L,rfl,zl,aK,aX,aY,hh,a7⟩;rw[aJ.out] at zl;have aZ:=AI (aW.out.trans a7);have bF:Hid (w.L.size+1<=w1.L.size):=AI (by have:=a7.size;omega);have aA:=AI aK;have b5:=AI aX;have b6:=AI aY;have HO:=AI zl;have HUP:=AI (eO hb B A cap l (N+n) n w1 hh (by omega) (by omega))
 obtain⟨LA,lc,aB,_⟩:=Dx zl;rw[aK] at aB;subst aB;go_wp2_with fail;refine HUP.out.LT ?_;rintro e w2 ⟨⟨z,rfl,hz⟩,hh,a7⟩;have aL:=AI (fE HO.out (by omega) a7);have aM:=AI (aZ.out.trans a7);have aN:=AI hh;by_cases zF:z=0
 .subst zF;go_wp2;go_loopw [5,7] (λv i wr=>v=.slice bh 0 0/\i=ak bc 0/\wr=w2) (λ_ _ _=>0)
  case atStart=>exact⟨rfl,rfl,rfl⟩
  case round =>
   obtain⟨rfl,rfl,rfl⟩:=hrel;go_wp2;go_ret;exact⟨_,[],rfl,Bs _ _ _ _,by simp,by simp,λq hq=>by simp at hq,aN.out.more (by omega),aM.out⟩
 .obtain⟨g,gc,hv,hgb,zQ⟩:=Lq aL.out (by rw[aA.out];omega);rw[aA.out] at hv;injection hv with aB _ hv2
  subst aB hv2;have aQ:Hid (RO w hb B A cap l (N+n+1) (w.L.size+1) (.slice bh 0 0) [] L g lc w2):=AI ⟨aN.out,Bs _ _ _ _,by have:=aL.out;rw[aA.out] at this ⊢;exact this,aM.out,zY,by omega⟩;go_wp2;go_loopw [5,7] (λv i wr=>∃q:Nat,q<=z/\i=ak bc q/\∃rs:List (Int×Int),RO w hb B A cap l (N+n+1+4*(z-q)) (w.L.size+1) v rs L g lc wr/\rs.L=z-q/\(rs.map (·.1)).Nodup/\(∀x∈rs.map (·.1),∃j,q<=j/\L[j]?=O x)/\∀x∈rs,(0<=x.1/\x.1<n)/\0<=x.2/\x.2<=60) (λ_ i _=>(br i).L)
  case atStart=>exact⟨z,by omega,rfl,[],by simpa using aQ.out,by simp,by simp,λx hx=>by simp at hx,λx hx=>by simp at hx⟩
  case round =>
   obtain⟨q,hq,rfl,rs,hro,b7,b8,hrj,b9⟩:=hrel;have HRN:=AI b8;have HRJ:=AI hrj;have aO:=AI b9;have a6:=AI hro;by_cases bG:0<q
   .obtain⟨p,rfl⟩:∃p,q=p+1:=⟨q-1,by omega⟩;have hpl:p<L.L:=by rw[aA.out];omega
    have aC:Hid (L[p]?=O (L[p]?.LH 0)):=AI (by rw[AL hpl];rfl);have aD:=b6.out _ (By aC.out);obtain⟨c0,l0⟩:=a6.out.drew.cell hpl;obtain⟨c9,l9⟩:=a6.out.cell hpl;replace a6:=AI a6.out.drew;have a8:=AI (λ(M:Nat) (W:U) (h:RO w hb B A cap l M (w.L.size+1) u5 rs L g lc W)=>h.cell hpl);have e2:((p+1:Nat):Int)-1=(p:Int):=by omega
    have bH:p<n:=by omega
    have bI:IntKind.i64.wrap (p:Int)=(p:Int):=by simp[gg,gl,eV];omega
    generalize L[p]?.LH 0=x at aC aD c0 c9 a8;go_wp2;clear c9 l9
    go_region_law (first
     |(refine qF (by rfl) _ _ (by rfl) (by rfl) (w.L.size+1) _ _ _ (by rfl) a6.out.LH (ak bc x) (ak bc zz) rfl rfl (by rfl) (by omega) a6.out.bs.2 ?_;intro v' w6 aH aF bA)
     |(refine lM (by rfl) ?_;go_simp;first
      |(go_at_call 12;refine(eO hb B A cap l _ _ _ a6.out.hand (by omega) (by omega)).LT ?_;rintro e w' ⟨⟨r,rfl,hr⟩,hh,a7⟩;replace a6:=AI (a6.out.J3 hh a7);clear c0 l0 hh a7;obtain⟨c0,l0⟩:=a8.out _ _ a6.out;dsimp only)
      |(go_at_call 34;refine(jv hb B A _ cap 1 l [_] _ _ _ (a6.out.LK _).hand (by omega) (by simp) (yU (a6.out.room _))).LT ?_;rintro e w' ⟨⟨zz,rfl,hzz⟩,hh,a7⟩;have aR:0<=zz/\zz<=60:=(by simp only[AT,AQ,or_false] at hzz;omega);replace a6:=AI ((a6.out.LK _).J3 hh a7);clear c0 l0 hh a7;have bB:=AI aR;obtain⟨c0,l0⟩:=a8.out _ _ a6.out;dsimp only)))
    all_goals
     have aI:w6.H (w.L.size+1) 29 2 v' (rs++[(x,zz)]).L (Es (rs++[(x,zz)])):=by rw[eU];simpa [Es] using aH
     have aS:=AI ((a6.out.LE aI aF bA).more (M':=N+n+1+4*(z-p)) (by omega));have bC:(rs++[(x,zz)]).L=z-p:=by simp[b7];omega
     have aT:Hid (((rs++[(x,zz)]).map (·.1)).Nodup):=AI (by
      rw[Cx,Ci,CX,List.nodup_append];refine⟨HRN.out,by simp,λa ha b hb'=>?_⟩;simp only[AT,AQ,or_false] at hb';subst hb';rintro rfl;obtain⟨j,hj,aG⟩:=HRJ.out _ ha
      have:=(List.getElem?_inj hpl b5.out).1 (aC.out.trans aG.LH);omega)
     have aU:Hid (∀y∈(rs++[(x,zz)]).map (·.1),∃j,p<=j/\L[j]?=O y):=AI λy hy=>by
      rw[Cx] at hy;obtain hy|hy:=BH.1 hy
      .obtain⟨j,hj,aG⟩:=HRJ.out _ hy;exact⟨j,by omega,aG⟩
      .simp only[Ci,CX,AT,AQ,or_false] at hy;subst hy;exact⟨p,AK _,aC.out⟩
     have aV:Hid (∀y∈rs++[(x,zz)],(0<=y.1/\y.1<n)/\0<=y.2/\y.2<=60):=AI λy hy=>by
      obtain hy|hy:=BH.1 hy
      .exact aO.out y hy
      .simp only[AT,AQ,or_false] at hy;subst hy;exact⟨aD,bB.out⟩
     go_wp2;go_roundw
     case rel=>exact⟨p,by omega,by go_num,_,aS.out,bC,aT.out,aU.out,aV.out⟩
     case measure=>simp[Proofs.intOf]
   .have bD:q=0:=by omega
    subst bD;go_wp2;go_ret;exact⟨_,rs,rfl,a6.out.LH,by omega,HRN.out,aO.out,a6.out.hand.more (by omega),a6.out.kt⟩
def RI.cell' {w:U}{B:Nat}{ad:cF}{l:List Int}(h:RI w B (O ad) l)(hB:B<=w.L.size):∀j u,(l.map (ak bc))[j]?=O u->w.S (ad.add j)=O u/\(ad.add j).LE<w.L.size:=λj u hj=>by
 rw[Bv] at hj;cases hx:l[j]? with
 |none=>rw[hx] at hj;cases hj
 |some x =>
  rw[hx] at hj;obtain⟨b,o,e,hb,hc⟩:=h (λe=>by rw[e] at hx;simp at hx);obtain rfl:ad=⟨b,o,bh⟩:=by injection e
  have e2:(⟨b,o,bh⟩:cF).add j=⟨b,o+j,bh⟩:=ez _ _ _;rw[e2];exact⟨by rw[hc j x hx];exact hj,by show b<_;omega⟩
def eW (l:List (Int×Int)):(Es l).L=l.L*2:=by
 induction l with
 |nil=>rfl
 |cons p l ih=>simp only[Es,AX,ih];omega
def JI {l:List (Int×Int)}{j:Nat}{u:F}(h:(Es l)[j]?=O u):∃i x,l[i]?=O x/\((j=i*2/\u=ak bc x.1)\/(j=i*2+1/\u=ak bc x.2)):=by
 have hj:j<l.L*2:=by rw[<-eW];exact(Be.1 h).1
 have hi:j / 2<l.L:=by omega
 obtain⟨h1,h2⟩:=GY hi;rw[AL hi,Bf] at h1 h2;refine⟨j / 2,l[j / 2],AL hi,?_⟩;obtain e|e:=Nat.mod_two_eq_zero_or_one j
 .have e2:j / 2*2=j:=by omega
  rw[e2,h] at h1;exact .inl ⟨e2.LH,eH h1⟩
 .have e2:j / 2*2+1=j:=by omega
  rw[e2,h] at h2;exact .inr ⟨e2.LH,eH h2⟩
def FA.cell' {w:U}{B:Nat}{ad:cF}{l:List (Int×Int)}(h:FA w B (O ad) l)(hB:B<=w.L.size):∀j u,(Es l)[j]?=O u->w.S (ad.add j)=O u/\(ad.add j).LE<w.L.size:=λj u hj=>by
 obtain⟨i,x,hx,hu⟩:=JI hj;obtain⟨b,o,e,hb,hc⟩:=h (λe=>by rw[e] at hx;simp at hx);obtain rfl:ad=⟨b,o,bh⟩:=by injection e
 have e2:(⟨b,o,bh⟩:cF).add j=⟨b,o+j,bh⟩:=ez _ _ _;obtain⟨h1,h2⟩:=hc i x hx;rw[e2];obtain⟨rfl,rfl⟩|⟨rfl,rfl⟩:=hu
 .exact⟨h1,by show b<_;omega⟩
 .exact⟨by rw[<-CT];exact h2,by show b<_;omega⟩
def gP (A:Option cF)(c:Nat)(l:List Int)(w:U)(B:Nat)(h:RI w B A l)(hB:B<=w.L.size)(hl:l.L<=1048576) :
  cK D7 39 #[I A l.L c] w λe w'=>∃v,e=.L v/\w'.H w.L.size 3 1 v l.L (l.map (ak bc))/\Gr w w':=by
 obtain⟨i0,hi,zF,zE,zD⟩:=eG DD;have HR:=AI h;cases A with
 |none =>
  have hl0:l=[]:=by
   cases l with
   |nil=>rfl
   |cons x l=>obtain⟨_,_,e,_⟩:=HR.out (by simp);cases e
  subst hl0;go_enter Sq.func39,kv;go_wp2;go_ret;exact⟨_,rfl,C0 w #[] 0 (AK _) (Bg _) rfl,(Gr.refl w).LK _⟩
 |some ad =>
  have HC:=AI (HR.out.cell' hB);go_enter Sq.func39,kv;go_wp2_with (at_builtin;refine EL rfl _ _ 22 rfl w.L.size 3 i0 (ak bc 0) 1 8 Sq.underlying22 hi zF zE zD rfl (by decide) _ _ _ rfl (C0 w #[] 0 (AK _) (Bg _) rfl) ad l.L c (l.map (ak bc)) rfl ?qc1 ?qc2 ?qc3 ?qc4 ?qc5 ?qc6 ?_)
  case qc1=>simp
  case qc2=>intro j u hj;exact(A7 (Cj _ _ _ (HC.out j u hj).2)).trans (HC.out j u hj).1
  case qc3=>intro u hu;obtain⟨x,_,rfl⟩:=Bu.1 hu;rfl
  case qc4=>unfold maxLen;omega
  case qc5=>omega
  case qc6=>simp
  intro v' w1 zl hgrow hd;have hG:=AI (((Gr.refl w).LK _).Lo hgrow hd (by intro k hk;simp[j2] at hk;omega));have hO:=AI zl;go_wp2;go_ret;exact⟨v',rfl,by simpa using hO.out,hG.out⟩
def ja (A:Option cF)(c:Nat)(l:List (Int×Int))(w:U)(B:Nat)(h:FA w B A l)(hB:B<=w.L.size)(hl:l.L<=1048576) :
  cK D7 11 #[I A l.L c] w λe w'=>∃v,e=.L v/\w'.H w.L.size 29 2 v l.L (Es l)/\Gr w w':=by
 obtain⟨i0,hi,zF,zE,zD⟩:=eG DJ;have HR:=AI h;cases A with
 |none =>
  have hl0:l=[]:=by
   cases l with
   |nil=>rfl
   |cons x l=>obtain⟨_,_,e,_⟩:=HR.out (by simp);cases e
  subst hl0;go_enter Sq.func11,kx;go_wp2;go_ret;exact⟨_,rfl,C0 w #[] 0 (AK _) (Bg _) rfl,(Gr.refl w).LK _⟩
 |some ad =>
  have HC:=AI (HR.out.cell' hB);go_enter Sq.func11,kx;go_wp2_with (at_builtin;refine EL rfl _ _ 27 rfl w.L.size 29 i0 _ 2 16 ((Sq.LH 27).trans fW) hi zF zE zD rfl (by decide) _ _ _ rfl (C0 w #[] 0 (AK _) (Bg _) rfl) ad l.L c (Es l) rfl ?qc1 ?qc2 ?qc3 ?qc4 ?qc5 ?qc6 ?_)
  case qc1=>exact eW _
  case qc2=>intro j u hj;exact(A7 (Cj _ _ _ (HC.out j u hj).2)).trans (HC.out j u hj).1
  case qc3=>intro u hu;obtain⟨j,hj,rfl⟩:=List.getElem_of_mem hu;obtain⟨_,_,_,h|h⟩:=JI (AL hj)<;>rw[h.2]<;>rfl
  case qc4=>unfold maxLen;omega
  case qc5=>omega
  case qc6=>simp
  intro v' w1 zl hgrow hd;have hG:=AI (((Gr.refl w).LK _).Lo hgrow hd (by intro k hk;simp[j2] at hk;omega));have hO:=AI zl;go_wp2;go_ret;exact⟨v',rfl,by simpa using hO.out,hG.out⟩
def _root_.Go.Sq.Apart (xs:List F):Prop:=∀(i j:Nat) (u v:F) (g:Nat),i<j->xs[i]?=O u->xs[j]?=O v->v.L=O g->u.L≠O g
def _root_.Go.Sq.Apart.LE {xs:List F}{v:F}{B:Nat}(h:Apart xs)(hb:∀u∈xs,∀g,u.L=O g->g<B)(hv:∀g,v.L=O g->B<=g):Apart (xs++[v]):=λi j u v' g a6 hi hj hg hu=>by
 have a7:=(Be.1 hj).1;rw[B4,List.length_singleton] at a7;rw[BF (by omega)] at hi;by_cases hjx:j<xs.L
 .rw[BF hjx] at hj;exact h i j u v' g a6 hi hj hg hu
 .obtain rfl:j=xs.L:=by omega
  rw[BM (AK _),k5] at hj;cases hj;have h1:=hb u (By hi) g hu;have h2:=hv g hg;omega
def _root_.Go.Sq.EH.lts {w:U}{base:Nat}{v:F}{ls:List (List Int)}{xs:List F}(h:EH w base v ls xs):∀u∈xs,∀g,u.L=O g->g<w.L.size:=λu hu g hg=>by
 obtain⟨i,hi,rfl⟩:=Cr.1 hu;have hl:xs.L=ls.L:=by have:=h.row.1;omega
 obtain⟨z,h1,h2⟩:=h.cells i ls[i] (AL (by omega));rw[AL hi] at h1;injection h1 with h1
 subst h1;exact(h2.lt g hg).2
def oB (A:Option cF)(c:Nat)(ls:List (List Int))(w:U)(h:E7 w w.L.size A ls)(hl:ls.L<=1048576)(zC:∀x∈ls,x.L<=1048576) :
  cK D7 14 #[I A ls.L c] w λe w'=>∃v xs,e=.L v/\EH w' w.L.size v ls xs/\Gr w w'/\Apart xs:=by
 have HG:=AI h;have aH:=AI zC;go_enter Sq.func14,Tryz.ntmps14;go_wp2;go_loopw [3,4] (λv i wr=>∃k:Nat,k<=ls.L/\i=ak bc k/\∃xs,EH wr w.L.size v (ls.LT k) xs/\Gr w wr/\Apart xs) (λ_ i _=>ls.L-(br i).L)
 case atStart=>exact⟨0,by omega,rfl,[],EH.nil _ _,.refl _,λi j u v g _ h=>by simp at h⟩
 case round =>
  obtain⟨k,hk,rfl,xs,a6,zV,hap⟩:=hrel;have HAP:=AI hap;have aI:=AI (a6.lts);have HO:=AI a6;have a7:=AI zV;by_cases zY:k<ls.L
  .obtain⟨b,o,A',c',rfl,hb,hc,a8⟩:=(HG.out.gr (AK _) zV).at_ zY;have aA:=aH.out _ (show ls[k]?.LH []∈ls by rw[AL zY];exact BN zY);have aB:Hid (ls.LT (k+1)=ls.LT k++[ls[k]?.LH []]):=AI (by rw[CN,AL zY];rfl);have hTL:(ls.LT k).L=k:=by rw[CV];omega
   generalize ls[k]?.LH []=row at hc a8 aA aB;have aJ:=AI (gP A' c' row wr w.L.size a8 (by have:=zV.size;omega) aA);have hz:=zV.size;go_wp2_with fail;refine aJ.out.LT ?_;rintro e w2 ⟨v2,rfl,hown2,zI⟩;obtain⟨A2,c2,rfl,_⟩:=Dx hown2;have aF:=AI (HAP.out.LE (v:=I A2 row.L c2) aI.out λg hg=>(hown2.lt g hg).1);have aC:=AI (HO.out.keep' (w':=w2) λb _ hb=>zI.Li.LE b hb)
   have HOW:=AI (FD hown2 hz);have aD:=AI (a7.out.trans zI);have hrow:=aC.out.row;rw[hTL] at hrow;have aG:=AI hrow;go_wp2_with (at_builtin;refine ms rfl _ _ rfl w.L.size _ _ _ rfl (hrow.LK _) ⟨w2.L.size,0,bh⟩ 1 (I A2 row.L c2) rfl ?c1 rfl ?c2 ?c3 ?_)
   case c1=>rw[Addr.add_lit,AM _ _ _ _ (by simp)];rfl
   case c2=>omega
   case c3=>have:=aD.out.size;simp;omega
   intro v' w3 hown' hgrow hd;have aK:=AI ((aD.out.LK _).Lo hgrow hd λq hq=>(aG.out.lt q hq).1);have aL:=AI (aC.out.LE (l:=row) HOW.out (λb hb'=>aa _ _ hb') (by simp) hgrow hTL.LH hown');go_wp2;go_roundw
   case rel=>exact⟨k+1,by omega,by go_num,_,by rw[aB.out];exact aL.out,aK.out,aF.out⟩
   case measure=>simp[Proofs.intOf];omega
  .have aM:k=ls.L:=by omega
   subst aM;rw[CW] at a6;have HF:=AI a6;go_wp2;go_ret;exact⟨_,xs,rfl,HF.out,a7.out,HAP.out⟩
def qG (A:Option cF)(c:Nat)(ls:List (List Int))(w:U)(h:E7 w w.L.size A ls)(hl:ls.L<=1048576)(zC:∀x∈ls,x.L<=1048576) :
  cK D7 14 #[I A ls.L c] w λe w'=>∃v xs,e=.L v/\EH w' w.L.size v ls xs/\Gr w w' :=
 (oB A c ls w h hl zC).LT λe w' ⟨v,xs,h1,h2,h3,_⟩=>⟨v,xs,h1,h2,h3⟩
open Go.EB (iE kh i6)
def K5 {α:Type}(r:Nat->α)(i:Nat)(v:α):Nat->α:=λj=>if j=i then v else r j
def bi {α:Type}(r:Nat->α)(i:Nat)(v:α):K5 r i v i=v:=AP rfl
def Fw {α:Type}{r:Nat->α}{i j:Nat}{v:α}(h:j≠i):K5 r i v j=r j:=AN h
def T (n:Nat)(u:Nat->F):Array Value:=((bb n).map u).LK
def AC {l:List F}:l.LK=T l.L λi=>l[i]?.LH undef:=by
 unfold T;congr 1;refine List.ext_getElem (by simp) λi h1 h2=>?_;simp[h1]
def fX {P:Program}{c:k7}{Q:ik->Act->U->Prop}{l:List F}{ds:List eb}{w:U}(n:Nat)(hn:l.L=n)(h:∀u:Nat->F,(∀i,u i=l[i]?.LH undef)->c.wp P Q ⟨T n u,ds⟩ w):c.wp P Q ⟨l.LK,ds⟩ w:=by
 rw[AC,hn];exact h _ λ_=>rfl
open Go.EB
variable {P:Program} {ops:Array cw} {Q:ik->Act->U->Prop} {n m:Nat} {u:Nat->F} {ds:List eb} {w:U}
def gQ {t:Nat}(h:t<n):(T n u)[t]?=O (u t):=by simp[T,h]
def JR:(T n u).size=n:=by simp[T]
def db {t:Nat}(h:t<n):(⟨T n u,ds⟩:Act).eval (.tmp t)=u t:=by
 show(T n u).LH t undef=u t;rw[B7,gQ h];rfl
def Ap {d:Nat}{v:F}:(T n u).L d v=T n (K5 u d v):=by
 refine Array.ext (by rw[Array.size_setIfInBounds,JR,JR]) λi h1 h2=>?_;rw[JR] at h2;have e1:(T n (K5 u d v))[i]?=O (K5 u d v i):=gQ h2;have e2:((T n u).L d v)[i]?=O (K5 u d v i):=by
  rw[Cn];split
  .rename_i e;subst e;rw[AP (by rw[JR];exact h2),bi]
  .rename_i e;rw[gQ h2,Fw (Ne.symm e)]
 rw[AV h1] at e2;rw[AV (by rw[JR];exact h2)] at e1;injection e1 with e1
 injection e2 with e2
 rw[e1,e2]
def G2 (u:Nat->F):Option Nat->F->Nat->F
 |some d,v=>K5 u d v
 |none,_=>u
def iQ {d:Option Nat}{v:F}:(⟨T n u,ds⟩:Act).put d v=⟨T n (G2 u d v),ds⟩:=by
 cases d with
 |none=>rfl
 |some d=>show Act.mk _ _=_;rw[Ap];rfl
class Rfl (R:U->U->Prop):Prop where
 refl:∀w,R w w
class Goes (R:U->U->Prop):Prop extends Rfl R where
 trans:∀ {a b c},R a b->R b c->R a c
 drew:∀w,R w w.drew
instance:Goes Gr:={ refl:=Gr.refl,trans:=Gr.trans,drew:=λw=>(Gr.refl w).drew }
variable {R:U->U->Prop}
def Done (R:U->U->Prop)(P:Program)(ops:Array cw)(Q:ik->Act->U->Prop)(n:Nat)(ds:List eb)(i:Nat)(V:F->U->Prop)(u:Nat->F)(w:U):Prop :=
 wpOp P ops Q i (λa' w'=>∃v,a'=⟨T n (G2 u ((ops[i]?).bind (·.L)) v),ds⟩/\R w w'/\V v w') ⟨T n u,ds⟩ w
def Done.weak {R R':U->U->Prop}{i:Nat}{V:F->U->Prop}(hR:∀w',R w w'->R' w w')(h:Done R P ops Q n ds i V u w):Done R' P ops Q n ds i V u w :=
 e8 (λ_ _ ⟨v,h1,h2,h3⟩=>⟨v,h1,hR _ h2,h3⟩) h
def Till (R:U->U->Prop)(J:U->Prop)(c i:Nat)(w w':U):Prop:=R w w'/\(i≠c->J w->J w')
def FN (ops:Array cw)(t:Nat):Bool:=ops.all λo=>o.L != O t
structure QR (md:cq)(ops:Array cw)(m:Nat):Prop where
 lt:∀i,i<ops.size->∀j∈J7 md ops i,j<i
 one:∀(i j:Nat) (oi oj:cw) (d:Nat),i<j->ops[i]?=O oi->ops[j]?=O oj->oi.L=O d->oj.L≠O d
 last:m=ops.size\/PG md ops m
def NB (md:cq)(ops:Array cw)(m:Nat):Bool :=
 (bb ops.size).all (λi=>(J7 md ops i).all λj=>decide (j<i))&&df ((ops.LK.T (·.L)).Nodup)&&(df (m=ops.size)||nE md ops m)
def yV {md:cq}(h:NB md ops m=bo):QR md ops m:=by
 simp only[NB,AY,Bq,BO,BQ,decide_eq_true_eq] at h;obtain⟨⟨h1,h2⟩,h3⟩:=h;refine⟨h1,λi j oi oj d a6 hi hj hd hdj=>?_,h3.imp id xx⟩;obtain⟨l⟩:=ops;simp only[BA] at hi hj;dsimp only at h2;clear h1 h3
 induction l generalizing i j with
 |nil=>simp at hi
 |cons o l ih =>
  cases i with
  |zero =>
   simp only[Bt,gB] at hi;subst hi;rw[e9,hd] at h2;have:=(eT.1 h2).1;refine this (fq.2 ⟨oj,?_,hdj⟩);cases j with
   |zero=>omega
   |succ j=>exact By (by simpa using hj)
  |succ i =>
   cases j with
   |zero=>omega
   |succ j =>
    refine ih i j (by omega) ?_ (by simpa using hi) (by simpa using hj);rw[e9] at h2;cases ho:o.L with
    |none=>rw[ho] at h2;exact h2
    |some x=>rw[ho] at h2;exact(eT.1 h2).2
def cd {l:Array Bool}{i j:Nat}(hs:i<l.size){b:Bool}:(l.L i bo).LH j b=if j=i then bo else l.LH j b:=by
 rw[B7,Cn,B7];by_cases e:i=j
 .subst e;simp[hs]
 .rw[AN e,AN (Ne.symm e)]
def qH {md:cq}(L:PG md ops m){k:Nat}{listed:Array Bool}(hk:k<ops.size)(hm:m<=k)(hs:listed.size=ops.size)(hl:∀i,i<ops.size->listed.LH i bo=df (i<k)):gR md ops listed=[k]:=by
 have hd:∀j,j<ops.size->(listed.LH j cu=bo↔j<k):=λj hj=>by
  rw[<-ei (by omega),hl j hj];simp
 refine filter_one hk λi hi=>?_;have a6:=IU (md:=md) (ops:=ops) (listed:=listed) (i:=i);unfold gR at a6;rw[CJ,BQ] at a6;have:_↔_:=⟨λh=>(a6.1 ⟨hi,h⟩).2,λh=>(a6.2 ⟨hi,h⟩).2⟩;rw[this,hl i hi];constructor
 .rintro⟨h1,h2⟩;have h1:¬i<k:=by simpa using h1
  by_cases e:i=k
  .exact e
  .have:=(hd (i-1) (by omega)).1 (h2 _ (L.next i (by omega) hi));omega
 .rintro rfl;exact⟨by simp,λj hj=>(hd j (Nat.lt_trans (L.lt i hi j hj) hi)).2 (L.lt i hi j hj)⟩
def nF {l:List Nat}(h:l.Nodup)(i:Nat):l.erase i=l.S (· != i):=by
 induction l with
 |nil=>rfl
 |cons a l ih =>
  obtain⟨h1,h2⟩:=eT.1 h;rw[List.erase_cons,hZ];by_cases e:a=i
  .subst e;simp only[beq_self_eq_true,if_true,bne_self_eq_false,Bj,if_false]
   exact(er.2 λb hb=>by
    have:b≠a:=λe=>h1 (e▸hb)
    simpa using this).LH
  .have e1:(a==i)=false:=by simpa using e
   have e2:(a != i)=true:=by simpa using e
   rw[e1,e2];simp only[Bj,if_false,if_true];rw[ih h2]
def uJ {md:cq}(L:PG md ops m):∀(d k:Nat) (listed:Array Bool) (a:Act) (w:U),k+d=ops.size->m<=k->listed.size=ops.size->(∀i,i<ops.size->listed.LH i bo=df (i<k))->wpOps P ops Q (bl k d) a w->wpAny P md ops Q d listed a w:=by
 intro d
 induction d with
 |zero =>
  intro k listed a w hk hm hs hl h;refine⟨ea.2 λi hi=>?_,h⟩;obtain⟨h1,h2,_⟩:=IU.1 hi;rw[hl i h1] at h2;simp at h2;omega
 |succ d ih =>
  intro k listed a w hk hm hs hl h;have hr:=qH L (by omega) hm hs hl;refine⟨λe=>(by rw[hr] at e;cases e),λi hi=>?_⟩;rw[hr] at hi;obtain rfl:i=k:=by simpa using hi
  rw[h9,wpOps_cons] at h;refine e8 (λa w h=>ih (i+1) _ a w (by omega) (by omega) (by simpa using hs) (λj hj=>?_) h) h;rw[cd (by omega),hl j hj];by_cases e:j=i
  .subst e;simp
  .rw[AN e];exact decide_eq_decide.2 (by omega)
def Mv (R:U->U->Prop)(C:Nat->U->Prop)(md:cq)(ops:Array cw)(i:Nat)(w w':U):Prop:=R w w'/\∀k,k≠i->k ∉ J7 md ops i->C k w->C k w'
def xz [Goes R](C:Nat->U->Prop)(s dS:Nat)(S:(Nat->F)->U->Prop)(hS1:∀u w w',R w w'->S u w->S u w')(hS2:∀u w d v,d≠dS->S u w->S (K5 u d v) w){md:cq}(X:QR md ops m)(hS3:s<m->∀i,i<ops.size->(ops[i]?).bind (·.L)=O dS->i∈J7 md ops s)(V:Nat->F->U->Prop)(aG:∀i v w w',R w w'->V i v w->V i v w'){w0:U}{u0:Nat->F}
  (step:∀i,i<m->∀u w,R w0 w->(∀t,FN ops t=bo->u t=u0 t)->(∀j o t,i∈J7 md ops j->ops[j]?=O o->o.L=O t->u t=u0 t)->(∀j∈J7 md ops i,∀o d,ops[j]?=O o->o.L=O d->V j (u d) w)->C i w->Done (Mv R C md ops i) P ops Q n ds i (λv w'=>V i v w'/\(i=s->S (G2 u ((ops[i]?).bind (·.L)) v) w')) u w)
  (fin:∀u w,R w0 w->(∀t,FN ops t=bo->u t=u0 t)->(∀i,i<m->∀o d,ops[i]?=O o->o.L=O d->V i (u d) w)->(s<m->S u w)->wpOps P ops Q (bl m (ops.size-m)) ⟨T n u,ds⟩ w) :
  ∀(fuel:Nat) (listed:Array Bool) (u:Nat->F) (w:U),listed.size=ops.size->((bb ops.size).S λi=>!listed.LH i bo).L=fuel->R w0 w->(∀t,(∀j o,ops[j]?=O o->o.L=O t->listed.LH j bo=cu)->u t=u0 t)->(∀i,i<m->listed.LH i bo=bo->∀o d,ops[i]?=O o->o.L=O d->V i (u d) w)->(∀i,m<=i->i<ops.size->listed.LH i bo=cu) ->
   (∀i,i<m->listed.LH i bo=bo->∀j∈J7 md ops i,listed.LH j bo=bo)->(∀k,listed.LH k bo=cu->C k w)->(s<m->listed.LH s bo=bo->S u w)->wpAny P md ops Q fuel listed ⟨T n u,ds⟩ w:=by
 have aJ:m<=ops.size:=by
  obtain h|h:=X.last
  .omega
  .have:=h.size;omega
 have a7:∀ {t:Nat} {listed:Array Bool},FN ops t=bo->∀j o,ops[j]?=O o->o.L=O t->listed.LH j bo=false:=λ{t} {listed} ht j o hj hd=>by
  unfold FN at ht;rw[Bl] at ht;have:=ht _ (Bn hj);rw[hd] at this;simp at this
 intro fuel
 induction fuel with
 |zero =>
  intro listed u w hs hc hg hf hv Fa a8 hj aB;have hall:∀i,i<ops.size->listed.LH i bo=true:=λi hi=>by
   cases hb:listed.LH i bo with
   |true=>rfl
   |false =>
    have:i∈(bb ops.size).S λi=>!listed.LH i true:=CJ.2 ⟨BQ.2 hi,by rw[hb];rfl⟩;rw[Bp hc] at this;cases this
  have hm:m=ops.size:=by
   obtain h|h:=BU aJ
   .have:=Fa m (AK _) h;rw[hall m h] at this;cases this
   .exact h
  refine⟨ea.2 λi hi=>?_,?_⟩
  .obtain⟨h1,h2,_⟩:=IU.1 hi;rw[hall i h1] at h2;cases h2
  .have:=fin u w hg (λt ht=>hf t (a7 ht)) (λi hi=>hv i hi (hall i (by omega))) (λhsm=>aB hsm (hall s (by omega)));rw[hm,k5] at this;exact this
 |succ fuel ih =>
  intro listed u w hs hc hg hf hv Fa a8 hj aB;by_cases hex:∃i,i<m/\listed.LH i bo=cu
  .refine⟨λhr=>?_,λi hi=>?_⟩
   .exfalso;have hno:∀k i,i<=k->i<m->listed.LH i bo=true:=by
     intro k
     induction k using iv with
     |ind k ihk =>
      intro i hik hi;cases hb:listed.LH i bo with
      |true=>rfl
      |false =>
       have:i∈gR md ops listed:=IU.2 ⟨by omega,hb,λj hj=>by
        have:=X.lt i (by omega) j hj;rw[<-ei (by omega)]
        exact ihk j (by omega) j (AK _) (by omega)⟩
       rw[hr] at this;cases this
    obtain⟨i,h1,h2⟩:=hex;rw[hno i i (AK _) h1] at h2;cases h2
   .obtain⟨h1,h2,h3⟩:=IU.1 hi;have him:i<m:=by
     obtain h|L:=X.last
     .omega
     .refine Nat.not_le.1 λzX=>?_;have hup:∀d i0,i0+d=m->i0<m->listed.LH i0 bo=cu->listed.LH m bo=bo\/(∀j∈J7 md ops m,listed.LH j bo=bo)->False:=by
       intro d
       induction d using iv with
       |ind d ihd =>
        intro i0 hd aC aA hor;obtain⟨j,hj1,aM,aH⟩:=L.up i0 aC;obtain hj|hj:=BU aM
        .cases hb:listed.LH j bo with
         |false=>exact ihd (m-j) (by omega) j (by omega) hj hb hor
         |true =>
          have:=a8 j hj hb i0 aH;rw[aA] at this;cases this
        .subst hj;obtain h|h:=hor
         .rw[Fa j (AK _) L.size] at h;cases h
         .rw[h i0 aH] at aA;cases aA
      obtain⟨i0,aC,aA⟩:=hex;obtain zY|he:=BU zX
      .have:=h3 (i-1) (L.next i zY h1);rw[<-ei (by omega),Fa (i-1) (by omega) (by omega)] at this;cases this
      .subst he
       exact hup (m-i0) i0 (by omega) aC aA (.inr λj hj=>by
        have:=h3 j hj;have:=L.lt m h1 j hj
        rw[ei (by omega)];exact h3 j hj)
    have aK:∀j∈J7 md ops i,∀o d,ops[j]?=O o->o.L=O d->V j (u d) w:=λj hj o d ho hd=>by
     have:=X.lt i h1 j hj;exact hv j (by omega) (by rw[ei (by omega)];exact h3 j hj) o d ho hd
    refine e8 ?_ (step i him u w hg (λt ht=>hf t (a7 ht)) (λj o t aN hj hd=>hf t λj' o' hj' aI=>?_) aK (hj i h2))
    rotate_left
    .have aD : j' = j := by
      obtain h|h|h:=eA j' j
      .exact AS hd (X.one j' j _ _ _ h hj' hj aI)
      .exact h
      .exact AS aI (X.one j j' _ _ _ h hj hj' hd)
     subst aD;have aO:j'<ops.size:=(AJ.1 hj').1;by_cases aP:j'<m
     .cases hb:listed.LH j' bo with
      |false=>rfl
      |true =>
       have:=a8 j' aP hb i aN;rw[h2] at this;cases this
     .exact Fa j' (by omega) aO
    rintro a' w' ⟨v,rfl,⟨zV,aD⟩,hV,hVS⟩;refine ih _ _ w' (by simpa using hs) ?_ (Goes.trans hg zV) (λt ht=>?_) (λj hj hl o d ho hd=>?_) (λj hj aQ=>?_) (λj hj hl k hk=>?_) (λk hl=>?_) λhsm hl=>?_
    .have e : ((bb ops.size).S fun j => !(listed.L i bo).LH j bo) = ((bb ops.size).S fun j => !listed.LH j bo).erase i := by
      rw[nF (List.nodup_range.S _),List.filter_filter];refine fA λj hj=>?_;rw[cd (by omega)];by_cases e:j=i
      .simp[e]
      .simp[e]
     rw[e,List.length_erase_of_mem (CJ.2 ⟨BQ.2 h1,by rw[h2];rfl⟩),hc];rfl
    .have aR : ops[i].L ≠ O t := fun e => by
      have:=ht i ops[i] (AV h1) e;rw[cd (by omega),AP rfl] at this;cases this
     have:G2 u ((ops[i]?).bind (·.L)) v t=u t:=by
      rw[AV h1];show G2 u ops[i].L v t=u t;cases a6:ops[i].L with
      |none=>rfl
      |some d=>exact Fw λe=>aR (by rw[a6,e])
     rw[this];refine hf t λj o hj hd=>?_;have:=ht j o hj hd;rw[cd (by omega)] at this;by_cases e:j=i
     .rw[AP e] at this;cases this
     .rwa [AN e] at this
    .rw[cd (by omega)] at hl;by_cases e:j=i
     .subst e;rw[ho];show V j (G2 u o.L v d) w';rw[hd];show V j (K5 u d v d) w';rw[bi];exact hV
     .rw[AN e] at hl;have:G2 u ((ops[i]?).bind (·.L)) v d=u d:=by
       rw[AV h1];show G2 u ops[i].L v d=u d;cases a6:ops[i].L with
       |none=>rfl
       |some d' =>
        refine Fw λe'=>?_;subst e';obtain h|h:=fu e
        .exact X.one j i _ _ _ h ho (AV h1) hd a6
        .exact X.one i j _ _ _ h (AV h1) ho a6 hd
      rw[this];exact aG _ _ _ _ zV (hv j hj hl o d ho hd)
    .rw[cd (by omega),AN (by omega)];exact Fa j hj aQ
    .rw[cd (by omega)] at hl;rw[cd (by omega)];by_cases ek:k=i
     .rw[AP ek]
     .rw[AN ek];by_cases e:j=i
      .subst e;have:=X.lt j h1 k hk;rw[ei (by omega)];exact h3 k hk
      .rw[AN e] at hl;exact a8 j hj hl k hk
    .rw[cd (by omega)] at hl;by_cases e:k=i
     .rw[AP e] at hl;cases hl
     .rw[AN e] at hl;refine aD k e (λhk=>?_) (hj k hl);have:=X.lt i h1 k hk;have h5:listed.LH k bo=true:=by rw[ei (by omega)];exact h3 k hk
      rw[hl] at h5;cases h5
    .rw[cd (by omega)] at hl;by_cases e:s=i
     .exact hVS e.LH
     .rw[AN e] at hl;have hS:=hS1 _ _ _ zV (aB hsm hl);rw[AV h1];show S (G2 u ops[i].L v) w';cases a6:ops[i].L with
      |none=>exact hS
      |some d =>
       refine hS2 _ _ _ _ (λed=>?_) hS;subst ed;have:=a8 s hsm hl i (hS3 hsm i h1 (by rw[AV h1];exact a6));rw[h2] at this;cases this
  .have hall : ∀ i, i < m -> listed.LH i bo = true := fun i hi => by
    cases hb:listed.LH i bo with
    |true=>rfl
    |false=>exact AS ⟨i,hi,hb⟩ hex
   have aF:=fin u w hg (λt ht=>hf t (a7 ht)) (λi hi=>hv i hi (hall i hi)) λhsm=>aB hsm (hall s hsm);have hl:∀i,i<ops.size->listed.LH i bo=df (i<m):=λi hi=>by
    by_cases h:i<m
    .rw[hall i h];simp[h]
    .rw[Fa i (by omega) hi];simp[h]
   have aL:ops.size-m=fuel+1:=by
    rw[<-hc];have e:((bb ops.size).S λi=>!listed.LH i bo)=bl m (ops.size-m):=by
     have h1:bb ops.size=bl 0 m++bl m (ops.size-m):=by
      have:=fx (s:=0) (m:=m) (n:=ops.size-m) (step:=1);rw[k6,Bd] at this;rw[e6,this];congr 1;omega
     rw[h1,CY];have h2:(bl 0 m).S (λi=>!listed.LH i bo)=[]:=CA.2 λi hi=>by
      have:=eC.1 hi;rw[hall i (by omega)];simp
     have h3:(bl m (ops.size-m)).S (λi=>!listed.LH i bo)=bl m (ops.size-m):=er.2 λi hi=>by
      have:=eC.1 hi;rw[Fa i (by omega) (by omega)];rfl
     rw[h2,h3];rfl
    rw[e,List.length_range']
   obtain h|L:=X.last
   .omega
   .rw[aL] at aF;exact uJ L (fuel+1) m listed _ w (by omega) (AK _) hs hl aF
variable {R:U->U->Prop} {ops:Array cw} {Q:ik->Act->U->Prop} {n m:Nat} {u:Nat->F} {ds:List eb} {w w':U}
def opAt (ops:Array cw)(i:Nat):Option (Option Tmp×Op×Option (Nat×Bool)×bk):=(ops[i]?).map λo=>(o.L,o.op,o.guard,o.type)
def Kj {i:Nat}{d:Option Tmp}{op:Op}{g:Option (Nat×Bool)}{t:bk}(h:opAt ops i=O (d,op,g,t)):∃o,ops[i]?=O o/\o.L=d/\o.op=op/\o.guard=g/\o.type=t:=by
 unfold opAt at h;cases ho:ops[i]? with
 |none=>rw[ho] at h;cases h
 |some o=>rw[ho] at h;cases h;exact⟨o,rfl,rfl,rfl,rfl,rfl⟩
def Lets (ops:Array cw)(n:Nat)(u:Nat->F):Option (Nat×Bool)->Prop
 |none=>True
 |some (j,b)=>∃d,(opAt ops j).bind (·.1)=O d/\d<n/\u d=.bool b
def lN {o:cw}(h:Lets ops n u o.guard):bq o (yielded ops (T n u))=true:=by
 unfold bq;cases hg:o.guard with
 |none=>rfl
 |some q =>
  obtain⟨j,b⟩:=q;rw[hg] at h;obtain⟨d,h1,h2,h3⟩:=h;have e:(ops[j]?).bind (·.L)=O d:=by
   unfold opAt at h1;cases ho:ops[j]? with
   |none=>rw[ho] at h1;cases h1
   |some o=>rw[ho] at h1;exact h1
  simp only[yielded,e,BS,gQ h2,h3];simp
def px {i:Nat}{d:Option Tmp}{op:Op}{g:Option (Nat×Bool)}{t:bk}{V:F->U->Prop}(h:opAt ops i=O (d,op,g,t))(hl:Lets ops n u g)
  (hw:∀o:cw,o.L=d->o.op=op->o.type=t->dn D7 o ⟨T n u,ds⟩ w (λa' w'=>∃v,a'=⟨T n (G2 u d v),ds⟩/\R w w'/\V v w') Q):Done R D7 ops Q n ds i V u w:=by
 obtain⟨o,h1,h2,h3,h4,h5⟩:=Kj h;unfold Done wpOp;simp only[h1];rw[AP (lN (by rw[h4];exact hl))];refine .inl ?_;have e:((O o:Option cw).bind (·.L))=d:=h2;rw[e];exact hw o h2 h3 h5
def O6 (n:Nat)(u:Nat->F)(ev:bw->F):Prop:=(∀t,t<n->ev (.tmp t)=u t)/\(∀c,ev (.const c)=c)/\∀f,ev (.func f)=.func (.func f) #[] #[]
def gp:O6 n u (Act.eval ⟨T n u,ds⟩):=⟨λ_ h=>db h,λ_=>rfl,λ_=>rfl⟩
@[go_sem] def IV (op:Op)(t:TypeId):Oper:={ dst:=none,op:=op,type:=t,pos := "",after:=#[],guard:=none }
def gq {ev:bw->F}{o:cw}:cf ev o=cf ev (IV o.op o.type):=by
 unfold cf IV
 rfl
def O6.t {ev:bw->F}(h:O6 n u ev)(t:Nat)(ht:t<n:=by decide):ev (.tmp t)=u t:=h.1 t ht
def aV {i:Nat}{d:Option Tmp}{op:Op}{g:Option (Nat×Bool)}{t:bk}{V:F->U->Prop}(h:opAt ops i=O (d,op,g,t))(v:F)(w':U)
  (hr:∀ev,O6 n u ev->(cf ev (IV op t)).run D7 w=.ok (.value v) w') (hg:R w w') (hV:V v w') (hl:Lets ops n u g:=by trivial):Done R D7 ops Q n ds i V u w:=by
 refine px h hl λo h1 h2 h3=>?_;unfold dn;rw[gq,h2,h3,hr _ gp];rw[jk];refine⟨v,?_,hg,hV⟩;rw[h1];exact iQ
def lO {f:j3} {args:Array bw} {ats:Array bk} {t:bk} {fn:Func} (hf:D7.L[f]?=O fn) {vals:Array F} (ha:∀ev,O6 n u ev->args.map ev=vals) (hn:(fn.name == "runtime.NumGoroutine")=cu) (hb:fn.body.L=cu) :
  (cf (Act.eval ⟨T n u,ds⟩) (IV (.call { callee:=.value (.func f),args:=args,argTypes:=ats }) t)).run D7 w=.ok (.enter f vals) w:=by
 unfold cf IV;have e1:=ha _ (gp (ds:=ds));have e2:=(gp (n:=n) (u:=u) (ds:=ds)).2.2 f;have a6:fn.name ≠ "runtime.NumGoroutine":=by simpa using hn
 have hb':fn.body≠none:=λe=>by rw[e] at hb;cases hb
 simp[resolve,e1,e2,Deferred.ofValue,invoke,callFunc,hf,a6,hb']
def iH {i:Nat}{d:Option Tmp}{f:j3}{args:Array bw}{ats:Array bk}{g:Option (Nat×Bool)}{t:bk}{V:F->U->Prop}(h:opAt ops i=O (d,.call { callee:=.value (.func f),args:=args,argTypes:=ats },g,t)){fn:Func}(hf:D7.L[f]?=O fn)(vals:Array F)
  (ha:∀ev,O6 n u ev->args.map ev=vals) (hc:cK D7 f vals w λe w'=>∃v,e=.L v/\R w w'/\V v w') (hl:Lets ops n u g:=by trivial) (hn:(fn.name == "runtime.NumGoroutine")=false:=by kernel_rfl) (hb:fn.body.L=false:=by kernel_rfl):Done R D7 ops Q n ds i V u w:=by
 refine px h hl λo h1 h2 h3=>?_;unfold dn;rw[gq,h2,lO hf ha hn hb,jx];refine hc.LT ?_;rintro e w' ⟨v,rfl,h5,h6⟩;refine⟨v,?_,h5,h6⟩;rw[h1];exact iQ
def bH [Rfl R]{i:Nat}{d:Option Tmp}{op:Op}{g:Option (Nat×Bool)}{t:bk}{x:F}(h:opAt ops i=O (d,op,g,t))(hr:∀ev,O6 n u ev->(cf ev (IV op t)).run D7 w=.ok (.value x) w)(hl:Lets ops n u g:=by trivial):Done R D7 ops Q n ds i (λv _=>v=x) u w :=
 aV h x w hr (Rfl.refl _) rfl hl
def sV [Rfl R]{i:Nat}{d:Option Tmp}{t:Nat}{g:Option (Nat×Bool)}{ty:bk}{V:F->U->Prop}(h:opAt ops i=O (d,.move (.tmp t),g,ty))(hV:V (u t) w)(hl:Lets ops n u g:=by trivial)(ht:t<n:=by decide):Done R D7 ops Q n ds i V u w :=
 aV h (u t) w (λev he=>by show(pure _:Sem Next).run _ _=_;rw[he.1 t ht];rfl) (Rfl.refl _) hV hl
def oC [Rfl R]{i:Nat}{d:Option Tmp}{t:Nat}{g:Option (Nat×Bool)}{ty:bk}{V:F->U->Prop}(h:opAt ops i=O (d,.assign (.tmp t),g,ty))(hV:V (u t) w)(hl:Lets ops n u g:=by trivial)(ht:t<n:=by decide):Done R D7 ops Q n ds i V u w :=
 aV h (u t) w (λev he=>by show(pure _:Sem Next).run _ _=_;rw[he.1 t ht];rfl) (Rfl.refl _) hV hl
def nG [Rfl R]{i:Nat}{d:Option Tmp}{c:F}{g:Option (Nat×Bool)}{ty:bk}{V:F->U->Prop}(h:opAt ops i=O (d,.assign (.const c),g,ty))(hV:V c w)(hl:Lets ops n u g:=by trivial):Done R D7 ops Q n ds i V u w :=
 aV h c w (λev he=>by show(pure _:Sem Next).run _ _=_;rw[he.2.1 c];rfl) (Rfl.refl _) hV hl
def nH [Rfl R]{i j:Nat}{d:Option Tmp}{t:Nat}{g:Option (Nat×Bool)}{ty:bk}{V:F->U->Prop}(h:opAt ops i=O (d,.extract (.tmp t) j,g,ty)){X:Array F}(e:u t=.tuple X){x:F}(hx:X[j]?=O x)(hV:V x w)(hl:Lets ops n u g:=by trivial)(ht:t<n:=by decide):Done R D7 ops Q n ds i V u w :=
 aV h x w (λev he=>by
  have e1:=(he.1 t ht).trans e;unfold cf IV
  simp[e1,Instr.extract,hx]) (Rfl.refl _) hV hl
def J4 (L:List Int)(v:F)(w:U):Prop:=∃A k,v=I A L.L k/\RI w w.L.size A L
def Mw (L:List Int)(E:Int)(v:F)(w:U):Prop:=∃x,v=.tuple #[x,ak bc E]/\J4 L x w
def _root_.Go.Sq.RI.Mx {w w':U}{A:Option cF}{l:List Int}(h:RI w w.L.size A l)(hg:Gr w w'):RI w' w'.L.size A l:=(h.gr (AK _) hg).more hg.size
noncomputable def kw (t:bk):Bool:=match D7.LH t with
 |none=>cu
 |some d=>match d with
  |.struct _|.array _ _=>cu
  |_=>bo
def uK {t:bk}(h:kw t=bo)(w:U):(isAgg t).run D7 w=.ok cu w:=by
 unfold kw at h;cases hd:D7.LH t with
 |none=>rw[hd] at h;cases h
 |some d =>
  rw[hd] at h;cases d<;>first|(cases h;done)|simp[isAgg,e7 hd]
def sW [Rfl R]{i:Nat}{d:Option Tmp}{a:Nat}{g:Option (Nat×Bool)}{t ty:bk}{p:cF}{x:F}(h:opAt ops i=O (d,.load t (.tmp a),g,ty))(e:u a=.S (O p))(hc:w.S p=O x)(hl:Lets ops n u g:=by trivial)(ha:a<n:=by decide)(ht:kw t=true:=by kernel_rfl):Done R D7 ops Q n ds i (λv _=>v=x) u w :=
 bH h (λev he=>by
  have e1:=(he.1 a ha).trans e;unfold cf IV
  simp[e1,Instr.loadAt,Instr.sureAddr,loadVar,uK ht,hc]) hl
noncomputable def Qq (s:bk)(k:Nat):Nat:=match D7.LH s with
 |some (.struct fs)=>(fs[k]?).S 0 (·.offset)
 |_=>0
noncomputable def Sm (s:bk)(k:Nat):Bool:=match D7.LH s with
 |some (.struct fs)=>match fs[k]? with
  |some f=>(D7.info? f.type).any λi=>i.size != 0
  |none=>cu
 |_=>cu
def qI [Rfl R]{i:Nat}{d:Option Tmp}{a s k:Nat}{g:Option (Nat×Bool)}{ty:bk}{b o o':Nat}(h:opAt ops i=O (d,.fieldAddr s (.tmp a) k,g,ty))(e:u a=.S (O ⟨b,o,bh⟩))(ho:o+Qq s k=o':=by kernel_rfl)(hk:Sm s k=true:=by kernel_rfl)(hl:Lets ops n u g:=by trivial)(ha:a<n:=by decide):Done R D7 ops Q n ds i (λv _=>v=.S (O ⟨b,o',bh⟩)) u w :=
 bH h (λev he=>by
  have e1:=(he.1 a ha).trans e;subst ho;unfold Sm at hk;unfold Qq;split at hk
  .rename_i fs hs;split at hk
   .rename_i f hf;obtain⟨i0,hi,hz⟩:=(Option.any_eq_true _ _).1 hk;have hz:i0.size≠0:=by simpa using hz
    unfold cf IV;simp[e1,Instr.fieldAt,Instr.sureAddr,e7 hs,hf,fieldPlace,sizeOf,typeInfo,hi,hz,j0]
   .cases hk
  .cases hk) hl
noncomputable def Sn (t:bk):Nat:=match D7.LH t with
 |some (.slice e)=>(D7.info? e).S 0 (·.size)
 |_=>0
def qJ [Rfl R](s:Nat){i:Nat}{d:Option Tmp}{a b t:Nat}{g:Option (Nat×Bool)}{ty:bk}{q o o' len cap k:Nat}(h:opAt ops i=O (d,.indexAddr t (.tmp a) (.tmp b),g,ty))(e1:u a=.slice (O ⟨q,o,bh⟩) len cap)(e2:u b=ak bc (k:Nat))(hk:k<len:=by omega)(ho:o+k*s=o':=by omega)(hs:Sn t=s:=by kernel_rfl)(hz:s≠0:=by decide)(hl:Lets ops n u g:=by trivial)(ha:a<n:=by decide)(hb:b<n:=by decide):Done R D7 ops Q n ds i (λv _=>v=.S (O ⟨q,o',bh⟩)) u w :=
 bH h (λev he=>by
  have e1:=(he.1 a ha).trans e1;have e2:=(he.1 b hb).trans e2;subst ho hs;unfold Sn at hz ⊢;split at hz
  .rename_i e hs;cases hi:D7.info? e with
   |none=>rw[hi] at hz;exact AS rfl hz
   |some i0 =>
    unfold cf IV;by_cases h0:k*i0.size=0<;>simp[e1,e2,Instr.indexAt,e7 hs,asIntOf,sizeOf,typeInfo,hi,j0,hk,h0]
  .exact AS rfl hz) hl
variable {R:U->U->Prop} {ops:Array cw} {Q:ik->Act->U->Prop} {n m:Nat} {ds:List eb}
def JJ (R:Nat->Prop):Nat->Prop
 |0=>True
 |m+1=>JJ R m/\R m
def JJ.at_ {R:Nat->Prop}:∀ {m:Nat},JJ R m->∀i,i<m->R i
 |0,_,i,h=>AS h (BI _)
 |m+1,h,i,hi=>by
  by_cases e:i=m
  .subst e;exact h.2
  .exact h.1.at_ i (by omega)
def JJ.of {R:Nat->Prop}:∀ {m:Nat},(∀i,i<m->R i)->JJ R m
 |0,_=>trivial
 |m+1,h=>⟨JJ.of λi hi=>h i (by omega),h m (by omega)⟩
def Ga (R:U->U->Prop)(V:F->U->Prop):Prop:=∀v w w',R w w'->V v w->V v w'
instance {J:U->Prop} {c i:Nat} [Rfl R]:Rfl (Till R J c i):=⟨λw=>⟨Rfl.refl w,λ_ h=>h⟩⟩
def aF (x:F):Ga R λv _=>v=x:=λ_ _ _ _ h=>h
def Vl (l:List (F->U->Prop))(i:Nat):F->U->Prop:=l[i]?.LH λ_ _=>True
def Lr (R:U->U->Prop):List (F->U->Prop)->Prop
 |[]=>True
 |V::l=>Ga R V/\Lr R l
def Lr.at_:∀ {l:List (F->U->Prop)},Lr R l->∀i,Ga R (Vl l i)
 |[],_,i=>λ_ _ _ _ _=>by unfold Vl;simp
 |V::l,h,0=>h.1
 |V::l,h,i+1=>h.2.at_ i
def Ib (L:List Int):Ga Gr (J4 L):=λv w w' hg ⟨A,k,e,h⟩=>⟨A,k,e,h.Mx hg⟩
def ej (L:List Int)(E:Int):Ga Gr (Mw L E):=λv w w' hg ⟨x,e,h⟩=>⟨x,e,Ib L _ _ _ hg h⟩
def Fr (ops:Array cw)(u u0:Nat->F):Prop:=∀t,FN ops t=bo->u t=u0 t
def Fr.at_ {u u0:Nat->F}(h:Fr ops u u0)(t:Nat)(e:FN ops t=true:=by kernel_rfl):u t=u0 t:=h t e
def Om (ops:Array cw)(V:Nat->F->U->Prop)(i:Nat)(u:Nat->F)(w:U):Prop:=∀j∈J7 .any ops i,∀o d,ops[j]?=O o->o.L=O d->V j (u d) w
def Om.at_ {V:Nat->F->U->Prop}{i:Nat}{u:Nat->F}{w:U}(h:Om ops V i u w)(j d:Nat)(h1:(J7 .any ops i).H j=true:=by kernel_rfl)(h2:(opAt ops j).bind (·.1)=O d:=by rfl):V j (u d) w:=by
 unfold opAt at h2;cases ho:ops[j]? with
 |none=>rw[ho] at h2;cases h2
 |some o=>rw[ho] at h2;exact h j (Dc.1 h1) o d ho h2
def Late (ops:Array cw)(i:Nat)(u u0:Nat->F):Prop:=∀j o t,i∈J7 .any ops j->ops[j]?=O o->o.L=O t->u t=u0 t
def Late.at_ {i:Nat}{u u0:Nat->F}(h:Late ops i u u0)(j t:Nat)(h1:(J7 .any ops j).H i=true:=by kernel_rfl)(h2:(opAt ops j).bind (·.1)=O t:=by rfl):u t=u0 t:=by
 unfold opAt at h2;cases ho:ops[j]? with
 |none=>rw[ho] at h2;cases h2
 |some o=>rw[ho] at h2;exact h j o t (Dc.1 h1) ho h2
def Ends (ops:Array cw)(V:Nat->F->U->Prop)(m:Nat)(u:Nat->F)(w:U):Prop:=∀i,i<m->∀o d,ops[i]?=O o->o.L=O d->V i (u d) w
def Ends.at_ {V:Nat->F->U->Prop}{u:Nat->F}{w:U}(h:Ends ops V m u w)(j d:Nat)(h1:j<m:=by decide)(h2:(opAt ops j).bind (·.1)=O d:=by rfl):V j (u d) w:=by
 unfold opAt at h2;cases ho:ops[j]? with
 |none=>rw[ho] at h2;cases h2
 |some o=>rw[ho] at h2;exact h j h1 o d ho h2
def mixed:D7.follows .mixedOrders=true:=by kernel_rfl
def Done.imp {i:Nat}{V V':F->U->Prop}{u:Nat->F}{w:U}(hV:∀v w',V v w'->V' v w')(h:Done R D7 ops Q n ds i V u w):Done R D7 ops Q n ds i V' u w :=
 e8 (λ_ _ ⟨v,h1,h2,h3⟩=>⟨v,h1,h2,hV _ _ h3⟩) h
instance {C:Nat->U->Prop} {md:cq} {i:Nat} [Rfl R]:Rfl (Mv R C md ops i):=⟨λw=>⟨Rfl.refl w,λ_ _ _ h=>h⟩⟩
def uL [Goes R](C:Nat->U->Prop){id:Nat}{u0:Nat->F}{w0:U}(hC0:∀k,C k w0.drew)(X:QR .any ops m)(l:List (F->U->Prop))(a7:Lr R l)
  (step:JJ (λi=>∀u w,R w0 w->Fr ops u u0->Late ops i u u0->Om ops (Vl l) i u w->C i w->Done (Mv R C .any ops i) D7 ops Q n ds i (Vl l i) u w) m)
  (fin:∀u w,R w0 w->Fr ops u u0->Ends ops (Vl l) m u w->wpOps D7 ops Q (bl m (ops.size-m)) ⟨T n u,ds⟩ w):(cU id ops bo).wp D7 Q ⟨T n u0,ds⟩ w0:=by
 refine wp_region_any mixed ?_;have a6:∀i,i<ops.size->(Array.replicate ops.size cu).LH i bo=false:=λi hi=>by
  rw[B7,BZ,AP hi];rfl
 have hms:m<=ops.size:=by
  obtain h|h:=X.last
  .omega
  .have:=h.size;omega
 refine xz C m 0 (λ_ _=>True) (λ_ _ _ _ h=>h) (λ_ _ _ _ _ h=>h) X (λhsm=>AS hsm (C5 _)) (Vl l) (λi v w w' hg h=>a7.at_ i v w w' hg h) (λi hi u w h1 h2 h3 h4 h5=>(step.at_ i hi u w h1 h2 h3 h4 h5).imp λ_ _ h=>⟨h,λ_=>trivial⟩) (λu w h1 h2 h3 _=>fin u w h1 h2 h3) ops.size _ u0 _ (by simp) ?_ (Goes.drew w0) (λ_ _=>rfl) (λi hi hl=>?_) (λi _ hi=>a6 i hi) (λi hi hl=>?_) (λk _=>hC0 k) λhsm _=>AS hsm (C5 _)
 .rw[er.2 λi hi=>by rw[a6 i (BQ.1 hi)];rfl,CQ]
 .rw[a6 i (by omega)] at hl;cases hl
 .rw[a6 i (by omega)] at hl;cases hl
def qK {i:Nat}{md:cq}(X:QR md ops m)(hi:i<ops.size){j d:Nat}{o:cw}(hj:ops[j]?=O o)(hd:o.L=O d)(zU:j≠i)(u:Nat->F)(v:F):G2 u ((ops[i]?).bind (·.L)) v d=u d:=by
 rw[AV hi];show G2 u ops[i].L v d=u d;cases a6:ops[i].L with
 |none=>rfl
 |some d' =>
  refine Fw λe'=>?_;subst e';obtain h|h:=fu zU
  .exact X.one j i _ _ _ h hj (AV hi) hd a6
  .exact X.one i j _ _ _ h (AV hi) hj a6 hd
def sX [Goes R]{id:Nat}{u0:Nat->F}{w0:U}(hX:QR .any ops m)(l:List (F->U->Prop))(a7:Lr R l)
  (step:JJ (λi=>∀u w,R w0 w->Fr ops u u0->Late ops i u u0->Om ops (Vl l) i u w->Done R D7 ops Q n ds i (Vl l i) u w) m)
  (fin:∀u w,R w0 w->Fr ops u u0->Ends ops (Vl l) m u w->wpOps D7 ops Q (bl m (ops.size-m)) ⟨T n u,ds⟩ w):(cU id ops cu).wp D7 Q ⟨T n u0,ds⟩ w0:=by
 have aD:m<=ops.size:=by
  obtain h|h:=hX.last
  .omega
  .have:=h.size;omega
 have a6:∀ {t k:Nat},FN ops t=bo->∀j o,ops[j]?=O o->o.L=O t->k<=j:=λ{t k} ht j o hj hd=>by
  unfold FN at ht;rw[Bl] at ht;have:=ht _ (Bn hj);rw[hd] at this;simp at this
 have key:∀d k u w,k+d=m->R w0 w->(∀t,(∀j o,ops[j]?=O o->o.L=O t->k<=j)->u t=u0 t)->Ends ops (Vl l) k u w->wpOps D7 ops Q (bl k d++bl m (ops.size-m)) ⟨T n u,ds⟩ w:=by
  intro d
  induction d with
  |zero =>
   intro k u w hk hg hf hv;obtain rfl:k=m:=by omega
   exact fin u w hg (λt ht=>hf t (a6 ht)) hv
  |succ d ih =>
   intro k u w hk hg hf hv;rw[h9,BW,wpOps_cons];refine e8 ?_ (step.at_ k (by omega) u w hg (λt ht=>hf t λj o hj hd=>a6 ht j o hj hd) (λj o t hkj hj hd=>hf t λj' o' hj' a8=>?_) λj hj o d ho hd=>hv j (hX.lt k (by omega) j hj) o d ho hd)
   rotate_left
   .have aA : j' = j := by
     obtain h|h|h:=eA j' j
     .exact AS hd (hX.one j' j _ _ _ h hj' hj a8)
     .exact h
     .exact AS a8 (hX.one j j' _ _ _ h hj hj' hd)
    subst aA;have:=hX.lt j' (AJ.1 hj').1 k hkj;omega
   rintro a' w' ⟨v,rfl,zV,hV⟩;refine ih (k+1) _ w' (by omega) (Goes.trans hg zV) (λt ht=>?_) λj hj o d ho hd=>?_
   .have aB : (ops[k]'(by omega)).L ≠ O t := fun e => by
     have:=ht k _ (AV (by omega)) e;omega
    have e:G2 u ((ops[k]?).bind (·.L)) v t=u t:=by
     rw[AV (show k<ops.size by omega)];show G2 u (ops[k]'(by omega)).L v t=u t;cases aC:(ops[k]'(by omega)).L with
     |none=>rfl
     |some d=>exact Fw λe=>aB (by rw[aC,e])
    rw[e];exact hf t λj o hj hd=>by have:=ht j o hj hd;omega
   by_cases e:j=k
   .subst e;rw[ho];show Vl l j (G2 u o.L v d) w';rw[hd];show Vl l j (K5 u d v d) w';rw[bi];exact hV
   .rw[qK hX (by omega) ho hd e];exact a7.at_ j _ _ _ zV (hv j (by omega) o d ho hd)
 refine wp_region ?_;have e:bb ops.size=bl 0 m++bl m (ops.size-m):=by
  have:=fx (s:=0) (m:=m) (n:=ops.size-m) (step:=1);rw[k6,Bd] at this;rw[e6,this];congr 1;omega
 rw[e];exact key m 0 u0 w0 (by omega) (Rfl.refl _) (λ_ _=>rfl) λi hi=>AS hi (BI _)
section
variable {ops:Array cw} {Q:ik->Act->U->Prop} {n m:Nat} {u:Nat->F} {ds:List eb} {w w':U}
def qL {i:Nat}{d:Option Tmp}{op:Op}{g:Option (Nat×Bool)}{t:bk}{K:Act->U->Prop}(h:opAt ops i=O (d,op,g,t))(hl:Lets ops n u g)
  (hw:∀o:cw,o.L=d->o.op=op->o.type=t->dn D7 o ⟨T n u,ds⟩ w K Q):wpOp D7 ops Q i K ⟨T n u,ds⟩ w:=by
 obtain⟨o,h1,h2,h3,h4,h5⟩:=Kj h;unfold wpOp;simp only[h1];rw[AP (lN (by rw[h4];exact hl))];exact .inl (hw o h2 h3 h5)
def gt {i:Nat}{d:Option Tmp}{op:Op}{g:Option (Nat×Bool)}{t:bk}{K:Act->U->Prop}(h:opAt ops i=O (d,op,g,t))(v:F)(w':U)
  (hr:∀ev,O6 n u ev->(cf ev (IV op t)).run D7 w=.ok (.value v) w') (hK:K ⟨T n (G2 u d v),ds⟩ w') (hl:Lets ops n u g:=by trivial):wpOp D7 ops Q i K ⟨T n u,ds⟩ w:=by
 refine qL h hl λo h1 h2 h3=>?_;unfold dn;rw[gq,h2,h3,hr _ gp,jk,h1,iQ];exact hK
def dE {i:Nat}{d:Option Tmp}{op:Op}{g:Option (Nat×Bool)}{t:bk}{K:Act->U->Prop}(h:opAt ops i=O (d,op,g,t))(w':U)
  (hr:∀ev,O6 n u ev->(cf ev (IV op t)).run D7 w=.ok .skip w') (hK:K ⟨T n (G2 u d undef),ds⟩ w') (hl:Lets ops n u g:=by trivial):wpOp D7 ops Q i K ⟨T n u,ds⟩ w:=by
 refine qL h hl λo h1 h2 h3=>?_;unfold dn;rw[gq,h2,h3,hr _ gp,Oper.upon_skip,h1,iQ];exact hK
def lP {i:Nat}{d:Option Tmp}{t:Nat}{g:Option (Nat×Bool)}{ty:bk}{K:Act->U->Prop}(h:opAt ops i=O (d,.assign (.tmp t),g,ty))(hK:K ⟨T n (G2 u d (u t)),ds⟩ w)(hl:Lets ops n u g:=by trivial)(ht:t<n:=by decide):wpOp D7 ops Q i K ⟨T n u,ds⟩ w :=
 gt h (u t) w (λev he=>by show(pure _:Sem Next).run _ _=_;rw[he.1 t ht];rfl) hK hl
def xB {i:Nat}{d:Option Tmp}{t:Nat}{g:Option (Nat×Bool)}{ty:bk}{K:Act->U->Prop}(h:opAt ops i=O (d,.move (.tmp t),g,ty))(hK:K ⟨T n (G2 u d (u t)),ds⟩ w)(hl:Lets ops n u g:=by trivial)(ht:t<n:=by decide):wpOp D7 ops Q i K ⟨T n u,ds⟩ w :=
 gt h (u t) w (λev he=>by show(pure _:Sem Next).run _ _=_;rw[he.1 t ht];rfl) hK hl
def xC {i:Nat}{d:Option Tmp}{f:j3}{args:Array bw}{ats:Array bk}{g:Option (Nat×Bool)}{t:bk}{K:Act->U->Prop}(h:opAt ops i=O (d,.call { callee:=.value (.func f),args:=args,argTypes:=ats },g,t)){fn:Func}(hf:D7.L[f]?=O fn)(vals:Array F)
  (ha:∀ev,O6 n u ev->args.map ev=vals) (hc:cK D7 f vals w λe w'=>∃v,e=.L v/\K ⟨T n (G2 u d v),ds⟩ w') (hl:Lets ops n u g:=by trivial) (hn:(fn.name == "runtime.NumGoroutine")=false:=by kernel_rfl) (hb:fn.body.L=false:=by kernel_rfl):wpOp D7 ops Q i K ⟨T n u,ds⟩ w:=by
 refine qL h hl λo h1 h2 h3=>?_;unfold dn;rw[gq,h2,lO hf ha hn hb,jx];refine hc.LT ?_;rintro e w' ⟨v,rfl,h5⟩;have e5:K ((⟨T n u,ds⟩:Act).put o.L v) w':=by
  rw[h1,iQ];exact h5
 exact e5
end
def xD {ops:Array cw}{D:List Nat}(hD:ops.LK.T (·.L)=D){t:Nat}(h:D.H t=cu):FN ops t=true:=by
 subst hD;unfold FN;rw[Bl];intro o ho;have hn:t ∉ ops.LK.T (·.L):=by simpa using h
 have:o.L≠O t:=λe=>hn (fq.2 ⟨o,by simpa using ho,e⟩);simpa using this
def sY {u:Nat->F}(D:List Nat):∀(l:List F) (t:Nat),(D.foldl (λa d=>a.Lo d (u d)) l)[t]?=if t∈D/\t<l.L then O (u t) else l[t]?:=by
 induction D with
 |nil=>intro l t;simp
 |cons d D ih =>
  intro l t;rw[B1,ih,C1,List.getElem?_set];by_cases h1:t∈D/\t<l.L
  .rw[AP h1,AP ⟨Cp _ h1.1,h1.2⟩]
  .rw[AN h1];by_cases h2:d=t
   .subst h2;by_cases h3:d<l.L
    .rw[AP rfl,AP h3,AP ⟨Cg,h3⟩]
    .rw[AP rfl,AN h3,AN λh=>h3 h.2,CF (by omega)]
   .rw[AN h2,AN λh=>(AT.1 h.1).S (λe=>h2 e.LH) λe=>h1 ⟨e,h.2⟩]
def dU {n:Nat}{u u':Nat->F}{l:List F}{ops:Array cw}(D:List Nat)(hD:ops.LK.T (·.L)=D)(hn:l.L=n)(hu:∀i,u i=l[i]?.LH undef)(hf:∀t,FN ops t=bo->u' t=u t):T n u'=(D.foldl (λa d=>a.Lo d (u' d)) l).LK:=by
 unfold T;congr 1;refine List.ext_getElem? λt=>?_;rw[sY];by_cases ht:t<n
 .rw[Bv,CU ht];show O (u' t)=_;by_cases hm:t∈D
  .rw[AP ⟨hm,by omega⟩]
  .rw[AN λh=>hm h.1,hf t (xD hD (by simpa using hm)),hu,AL (by omega)];rfl
 .rw[CF (by simp;omega),AN λh=>by omega,CF (by omega)]
section
variable {u:Nat->F} {w w':U}
def uM [Rfl R]{i j:Nat}{b:Bool}{d:Option Tmp}{op:Op}{t:bk}{V:F->U->Prop}(h:opAt ops i=O (d,op,O (j,b),t)){d':Nat}(h3:u d'=.bool !b)(hV:V undef w)(h1:(opAt ops j).bind (·.1)=O d':=by rfl)(h2:d'<n:=by decide):Done R D7 ops Q n ds i V u w:=by
 obtain⟨o,g1,g2,_,g4,_⟩:=Kj h;have e:(ops[j]?).bind (·.L)=O d':=by
  unfold opAt at h1;cases ho:ops[j]? with
  |none=>rw[ho] at h1;cases h1
  |some o=>rw[ho] at h1;exact h1
 have hw:bq o (yielded ops (T n u))=false:=by
  unfold bq;rw[g4];simp only[yielded,e,BS,gQ h2,h3];cases b<;>rfl
 unfold Done wpOp;simp only[g1];rw[AN (by rw[hw];simp)];refine⟨undef,?_,Rfl.refl w,hV⟩;rw[iQ];rfl
end
def dq (a b c:Int)(w:U):cK D7 47 #[ak bc a,ak bc b,ak bc c] w λe w'=>e=.L (.bool (FM a b c))/\w=w':=by
 by_cases h1:b<=a
 .by_cases h2:a<=c
  .have HS:=AI (show FM a b c=bo by simp[FM,h1,h2]);go_enter Sq.func47,gU;go_wp2;go_ret;exact⟨aq HS.out.LH,rfl⟩
  .have HS:=AI (show FM a b c=cu by simp[FM];omega);go_enter Sq.func47,gU;go_wp2;go_ret;exact⟨aq HS.out.LH,rfl⟩
 .have HS:=AI (show FM a b c=cu by simp[FM];omega);go_enter Sq.func47,gU;go_wp2;go_ret;exact⟨aq HS.out.LH,rfl⟩
def iR (n lo hi:Int)(w:U):cK D7 105 #[ak bc n,ak bc lo,ak bc hi] w λe w'=>e=.L (ak bc (EM n lo hi))/\w=w':=by
 by_cases h1:n<lo
 .have HS:=AI (show EM n lo hi=7 by simp[EM,h1]);go_enter Sq.func105,fc;go_wp2;go_ret;exact⟨al HS.out.LH,rfl⟩
 .by_cases h2:hi<n
  .have HS:=AI (show EM n lo hi=6 by simp[EM,h1,h2]);go_enter Sq.func105,fc;go_wp2;go_ret;exact⟨al HS.out.LH,rfl⟩
  .have HS:=AI (show EM n lo hi=0 by simp[EM,h1,h2]);go_enter Sq.func105,fc;go_wp2;go_ret;exact⟨al HS.out.LH,rfl⟩
def nI (A:Option cF)(c:Nat)(l:List Int)(n:Int)(w:U)(B:Nat)(h:RI w B A l)(hB:B<=w.L.size)(hl:l.L<=4611686018427387904)(a6:0<=n)(hn:n<=4611686018427387904) :
  cK D7 106 #[I A l.L c,ak bc (n-1)] w λe w'=>e=.L (ak bc (Fz l n))/\Gr w w':=by
 have HR:=AI h;go_enter Sq.func106,Tryz.ntmps106;go_wp2;go_loopw [5] (λi wr=>∃k:Nat,k<=l.L/\i=ak bc k/\(∀j,j<k->Gi l n j=0)/\Gr w wr) (λi _=>l.L-(br i).L)
 case atStart=>exact⟨0,by omega,rfl,λj hj=>AS hj (BI _),.refl _⟩
 case round =>
  obtain⟨k,hk,rfl,hz,zV⟩:=hrel;have HZ:=AI hz;have HG:=AI zV;by_cases zY:k<l.L
  .obtain⟨b,o,rfl,hb,hc⟩:=(HR.out.gr hB zV).at_ zY;have HA:Hid (Gi l n k=if 0<=l[k]?.LH 0/\l[k]?.LH 0<=n-1 then(if 0<k/\l[k]?.LH 0<=l[k-1]?.LH 0 then 5 else 0) else 3):=AI rfl;by_cases hr:0<=l[k]?.LH 0/\l[k]?.LH 0<=n-1
   .have HI : Hid (∀ W, cK D7 47 #[ak bc (l[k]?.LH 0), ak bc 0, ak bc (n - 1)] W fun e w' => e = .L (.bool bo) ∧ W = w') := Lib.hid fun W => by
     have:=dq (l[k]?.LH 0) 0 (n-1) W
     rwa [show FM (l[k]?.LH 0) 0 (n-1)=bo by simp[FM,hr.1,hr.2]] at this
    obtain h0|h0:=Bw k
    .subst h0;have HS:=AI (show Gi l n 0=0 by rw[HA.out,AP hr,AN (by omega)]);simp only[Nat.add_zero] at hc;generalize l[0]?.LH 0=x at hc HI;go_wp2_with (go_at_call 47;refine(HI.out _).LT ?_;rintro e w' ⟨rfl,rfl⟩);go_quiet (fail);go_wp2;go_roundw
     case rel=>exact⟨1,by omega,by go_num,λj hj=>(by
      have:j=0:=by omega
      subst this;exact HS.out),HG.out.drewN _⟩
     case measure=>simp[Proofs.intOf];omega
    .obtain⟨m,rfl⟩:∃m,k=m+1:=⟨k-1,by omega⟩;have hc':wr.S ⟨b,o+m,bh⟩=O (ak bc (l[m]?.LH 0)):=by
      obtain⟨b',o',e,_,h⟩:=(HR.out.gr hB zV).at_ (k:=m) (by omega);simp only[gB,Addr.mk.injEq] at e;obtain⟨rfl,rfl,_⟩:=e;exact h
     by_cases zX:l[m+1]?.LH 0<=l[m]?.LH 0
     .have HS := Lib.hid (show Fz l n = 5 by
       have e:Gi l n (m+1)=5:=by rw[HA.out,AP hr,AP ⟨h0,zX⟩]
       rw[gz zY HZ.out (by rw[e];decide),e])
      generalize l[m+1]?.LH 0=x at hc HI zX;generalize l[m]?.LH 0=y at hc' zX;have a7:df (x<=y)=true:=by simpa using zX
      go_wp2_with (go_at_call 47;refine(HI.out _).LT ?_;rintro e w' ⟨rfl,rfl⟩);go_quiet (fail);go_wp2;go_ret;exact⟨al HS.out.LH,HG.out.drewN _⟩
     .have HS:=AI (show Gi l n (m+1)=0 by rw[HA.out,AP hr,AN (λh=>zX h.2)]);generalize l[m+1]?.LH 0=x at hc HI zX;generalize l[m]?.LH 0=y at hc' zX;go_wp2_with (go_at_call 47;refine(HI.out _).LT ?_;rintro e w' ⟨rfl,rfl⟩);go_quiet (fail);go_wp2;go_roundw
      case rel=>exact⟨m+1+1,by omega,by go_num,λj hj=>(by
       obtain h|rfl:=BU (Ce hj)
       .exact HZ.out j h
       .exact HS.out),HG.out.drewN _⟩
      case measure=>simp[Proofs.intOf];omega
   .have HI : Hid (∀ W, cK D7 47 #[ak bc (l[k]?.LH 0), ak bc 0, ak bc (n - 1)] W fun e w' => e = .L (.bool cu) ∧ W = w') := Lib.hid fun W => by
     have:=dq (l[k]?.LH 0) 0 (n-1) W
     rwa [show FM (l[k]?.LH 0) 0 (n-1)=cu by simp[FM];omega] at this
    have HS:=AI (show Fz l n=3 by
     have e:Gi l n k=3:=by rw[HA.out,AN hr]
     rw[gz zY HZ.out (by rw[e];decide),e])
    generalize l[k]?.LH 0=x at hc HI;go_wp2_with (go_at_call 47;refine(HI.out _).LT ?_;rintro e w' ⟨rfl,rfl⟩);go_ret;exact⟨al HS.out.LH,HG.out⟩
  .have HS:=AI (show Fz l n=0 from kY λi hi=>HZ.out i (by omega));have:k=l.L:=by omega
   go_wp2;go_ret;exact⟨al HS.out.LH,HG.out⟩
def qM (nA hA:Option cF)(nc hc:Nat)(c:Ek)(w:U)(B:Nat)(hB:B<=w.L.size)(hn:RI w B nA c.D9)(hh:Fe w B hA c.D8)(Gg:c.D9.L<=4611686018427387904)(zC:c.D8.L<=4611686018427387904)
  (Fa:∀h∈c.D8,h.off.L<=4611686018427387904) :
  cK D7 104 #[En nA hA c nc hc] w λe w'=>e=.L (ak bc (Ex c))/\Gr w w':=by
 have HN:=AI hn;have HH:=AI hh;have aN:=AI Fa;clear hn hh Fa;unfold En;obtain⟨W0,zM⟩:∃W0:U,W0=w.LK (bn #[I nA c.D9.L nc,I hA c.D8.L hc] 25):=⟨_,rfl⟩;have aD:Hid (Gr w W0):=AI (by rw[zM];exact(Gr.refl w).LK _);have HC:Hid (∀W,Gr W0 W->W.S ⟨w.L.size,0,bh⟩=O (I nA c.D9.L nc)/\W.S ⟨w.L.size,1,bh⟩=O (I hA c.D8.L hc)):=AI λW hg=>by
  rw[hg.cell (by show w.L.size<_;rw[zM];simp),hg.cell (by show w.L.size<_;rw[zM];simp),zM,AM _ _ _ _ rfl,AM _ _ _ _ rfl];exact⟨rfl,rfl⟩
 have zF:W0.L.size=w.L.size+1:=by rw[zM];simp
 by_cases aA:EM c.D9.L 1 5=0
 .have HM:Hid (cK D7 105 #[ak bc c.D9.L,ak bc 1,ak bc 5] (w.LK (bn #[I nA c.D9.L nc,I hA c.D8.L hc] 25)) λe w'=>e=.L (ak bc 0)/\(w.LK (bn #[I nA c.D9.L nc,I hA c.D8.L hc] 25))=w'):=AI (by rw[<-aA];exact iR _ _ _ _);have aI:=AI aA;have HW:=AI zM;clear aA zM;go_enter Sq.func104,kn
  go_wp2_with (first|(go_at_call 105;refine HM.out.LT ?_;rintro e w' ⟨rfl,rfl⟩));rw[<-HW.out];clear HW HM;obtain⟨zo,zu⟩:=HC.out W0 (Gr.refl _);have aO:=AI ((HN.out.gr hB aD.out).more (B':=W0.L.size) (by omega));go_loop [4] (λi=>∃k:Nat,k<=c.D9.L/\i=ak bc k/\∀j,j<k->FM (c.D9[j]?.LH 0) 0 12=bo) (λi=>c.D9.L-(br i).L)
  case atStart=>exact⟨0,by omega,rfl,λj hj=>AS hj (BI _)⟩
  case round =>
   obtain⟨k,hk,rfl,hz⟩:=hrel;have HZ:=AI hz;clear hz;by_cases zY:k<c.D9.L
   .obtain⟨b,o,rfl,hb,hcell⟩:=aO.out.at_ zY;have hI:=dq (c.D9[k]?.LH 0) 0 12 W0;cases a8:FM (c.D9[k]?.LH 0) 0 12 with
    |true =>
     rw[a8] at hI;have HI:=AI hI;have aP:=AI a8;clear hI a8;generalize c.D9[k]?.LH 0=x at hcell HI;go_wp2_with (go_at_call 47;refine HI.out.LT ?_;rintro e w' ⟨rfl,rfl⟩);go_round
     case rel=>exact⟨k+1,by omega,by go_num,λj hj=>by
      obtain h|rfl:=BU (Ce hj)
      .exact HZ.out j h
      .exact aP.out⟩
     case measure=>simp[Proofs.intOf];omega
    |false =>
     rw[a8] at hI;have HI:=AI hI
     have HS:=AI (show Ex c=1 by
      have:(c.D9.all λx=>FM x 0 12)=false:=by
       rw[List.all_eq_false];exact⟨_,GA _ _ zY,by simp[a8]⟩
      simp[Ex,aI.out,this])
     clear hI a8;generalize c.D9[k]?.LH 0=x at hcell HI;go_wp2_with (go_at_call 47;refine HI.out.LT ?_;rintro e w' ⟨rfl,rfl⟩);go_ret;exact⟨al HS.out.LH,aD.out⟩
   .have HA := Lib.hid (show (c.D9.all fun x => FM x 0 12) = bo by
     rw[BO];intro x hx;obtain⟨j,hj,rfl⟩:=Cr.1 hx;have:=HZ.out j (by omega)
     rwa [AL hj] at this)
    have aJ:k=c.D9.L:=by omega
    clear HZ;subst aJ;have aF:=iR c.D8.L 1 4 W0;by_cases aB:EM c.D8.L 1 4=0
    .rw[aB] at aF;have HM:=AI aF;have HD:=AI (jT aI.out HA.out aB);clear aF aB;go_wp2_with (first|(go_at_call 105;refine HM.out.LT ?_;rintro e w' ⟨rfl,rfl⟩));go_loopw [6] (λi wr=>∃k:Nat,k<=c.D8.L/\i=ak bc k/\(∀j,j<k->FZ c.D9.L (c.h j)=0)/\Gr W0 wr) (λi _=>c.D8.L-(br i).L)
     case atStart=>exact⟨0,by omega,rfl,λj hj=>AS hj (BI _),Gr.refl _⟩
     case round =>
      obtain⟨k,hk,rfl,hz,zV⟩:=hrel;have HZ:=AI hz;have aM:=AI zV;have a7:=AI (aD.out.trans zV);obtain⟨NP,aY⟩:=HC.out wr zV;have zv:w.L.size<wr.L.size:=by have:=aM.out.size;omega
      clear hz zV;by_cases zY:k<c.D8.L
      .have aQ:=AI (HH.out.keep λb o hb=>a7.out.cell (p:=⟨b,o,bh⟩) (AO hb hB));obtain⟨b,o,rfl,hb,hat⟩:=aQ.out.at_ (c:=c) zY;obtain⟨g0,g1,g2,A,ac,g3,aR⟩:=hat;have aS:=AI (aR.more (B':=wr.L.size) (by omega));have aT:=aN.out _ (c.I9 zY);have HF:=AI (bU c c.D9.L zY);have aU:∀x lo hi v,FM x lo hi=v->∀W:U,cK D7 47 #[ak bc x,ak bc lo,ak bc hi] W λe w'=>e=.L (.bool v)/\W=w':=λx lo hi v h W=>by rw[<-h];exact dq _ _ _ _
       have a6:=AI aU;cases t1:FM (c.h k).heads 1 40 with
       |false =>
        have HS:=AI (show Ex c=1 by
         have e:FZ c.D9.L (c.h k)=1:=by simp[FZ,t1]
         rw[HD.out,aW (k:=k) (by simpa using zY) (λi hi=>by rw[bU c _ (by omega)];exact HZ.out i hi) (by rw[HF.out,e];decide),HF.out,e])
        have HA:=AI (a6.out _ _ _ _ t1);go_wp2_with (first|(go_at_call 47;refine(HA.out _).LT ?_;rintro e w' ⟨rfl,rfl⟩));go_ret;exact⟨al HS.out.LH,a7.out.LK _⟩
       |true =>
        have HA:=AI (a6.out _ _ _ _ t1);cases t2:FM (c.h k).FL 1 5 with
        |false =>
         have HS:=AI (show Ex c=1 by
          have e:FZ c.D9.L (c.h k)=1:=by simp[FZ,t2]
          rw[HD.out,aW (k:=k) (by simpa using zY) (λi hi=>by rw[bU c _ (by omega)];exact HZ.out i hi) (by rw[HF.out,e];decide),HF.out,e])
         have aC:=AI (a6.out _ _ _ _ t2);go_wp2_with fail;refine(HA.out _).LT ?_;rintro e w' ⟨rfl,rfl⟩;go_wp2_with fail;refine(aC.out _).LT ?_;rintro e w' ⟨rfl,rfl⟩;go_wp2;go_ret;exact⟨al HS.out.LH,a7.out.LK _⟩
        |true =>
         have aC:=AI (a6.out _ _ _ _ t2);cases t3:FM (c.h k).most 0 5 with
         |false =>
          have HS:=AI (show Ex c=1 by
           have e:FZ c.D9.L (c.h k)=1:=by simp[FZ,t3]
           rw[HD.out,aW (k:=k) (by simpa using zY) (λi hi=>by rw[bU c _ (by omega)];exact HZ.out i hi) (by rw[HF.out,e];decide),HF.out,e])
          have aG:=AI (a6.out _ _ _ _ t3);go_wp2_with fail;refine(HA.out _).LT ?_;rintro e w' ⟨rfl,rfl⟩;go_wp2_with fail;refine(aC.out _).LT ?_;rintro e w' ⟨rfl,rfl⟩;go_wp2_with fail;refine(aG.out _).LT ?_;rintro e w' ⟨rfl,rfl⟩;go_wp2;go_ret;exact⟨al HS.out.LH,a7.out.LK _⟩
         |true =>
          have aG:=AI (a6.out _ _ _ _ t3);have HE:=AI (show FZ c.D9.L (c.h k)=Fz (c.h k).off c.D9.L by simp[FZ,t1,t2,t3]);have HAS:=AI (λW (hg:Gr wr W)=>nI A ac (c.h k).off c.D9.L W wr.L.size (aS.out.gr (AK _) hg) hg.size aT (by omega) (by omega));have aK:Hid (∀v,Gr wr (wr.LK v)):=AI λv=>(Gr.refl wr).LK v;by_cases he:Fz (c.h k).off c.D9.L=0
          .rw[he] at HAS;have aV:=AI (HE.out.trans he);go_wp2_with fail;refine(HA.out _).LT ?_;rintro e w' ⟨rfl,rfl⟩;go_wp2_with fail;refine(aC.out _).LT ?_;rintro e w' ⟨rfl,rfl⟩;go_wp2_with fail;refine(aG.out _).LT ?_;rintro e w' ⟨rfl,rfl⟩;go_wp2_with fail;refine(HAS.out _ (aK.out _)).LT ?_;rintro e w5 ⟨rfl,aH⟩;have aX:=AI ((aM.out.LK _).trans aH);have aL:=AI ((a7.out.LK _).trans aH)
           go_wp2;go_roundw
           case rel=>exact⟨k+1,by omega,by go_num,λj hj=>by
            obtain h|rfl:=BU (Ce hj)
            .exact HZ.out j h
            .exact aV.out,aX.out⟩
           case measure=>simp[Proofs.intOf];omega
          .have HS := Lib.hid (show Ex c = Fz (c.h k).off c.D9.L by
            rw[HD.out,aW (k:=k) (by simpa using zY) (λi hi=>by rw[bU c _ (by omega)];exact HZ.out i hi) (by rw[HF.out,HE.out];exact he),HF.out,HE.out])
           have zU:((Fz (c.h k).off c.D9.L) != 0)=true:=by simpa using he
           generalize Fz (c.h k).off c.D9.L=e0 at HAS HS zU;go_wp2_with fail;refine(HA.out _).LT ?_;rintro e w' ⟨rfl,rfl⟩;go_wp2_with fail;refine(aC.out _).LT ?_;rintro e w' ⟨rfl,rfl⟩;go_wp2_with fail;refine(aG.out _).LT ?_;rintro e w' ⟨rfl,rfl⟩;go_wp2_with fail;refine(HAS.out _ (aK.out _)).LT ?_;rintro e w5 ⟨rfl,aH⟩;have aL:=AI ((a7.out.LK _).trans aH);go_wp2;go_ret;exact⟨al HS.out.LH,aL.out⟩
      .have HS := Lib.hid (show Ex c = 0 by
        rw[HD.out];exact cA λi hi=>by
         rw[BD] at hi
         rw[bU c _ hi];exact HZ.out i (by omega))
       have aJ:k=c.D8.L:=by omega
       subst aJ;go_wp2;go_ret;exact⟨al HS.out.LH,a7.out⟩
    .have HS:=AI (show Ex c=EM c.D8.L 1 4 by simp[Ex,aI.out,HA.out,aB]);have HM:=AI aF;have hb:((EM c.D8.L 1 4) != 0)=true:=by simpa using aB
     generalize EM c.D8.L 1 4=e0 at HM hb HS;go_wp2_with (first|(go_at_call 105;refine HM.out.LT ?_;rintro e w' ⟨rfl,rfl⟩));go_ret;exact⟨al HS.out.LH,aD.out⟩
 .have HS:=AI (show Ex c=EM c.D9.L 1 5 by simp[Ex,aA]);have HM:=AI (iR c.D9.L 1 5 W0);have hb:((EM c.D9.L 1 5) != 0)=true:=by simpa using aA
  rw[zM] at HM;generalize EM c.D9.L 1 5=e0 at HM hb HS;go_enter Sq.func104,kn;go_wp2_with (first|(go_at_call 105;refine HM.out.LT ?_;rintro e w' ⟨rfl,rfl⟩));go_ret;exact⟨al HS.out.LH,(Gr.refl w).LK _⟩
def oD (nA hA gA:Option cF)(nc hc gc:Nat)(c:Ek)(ls:List (List Int))(w:U)(B:Nat)(hB:B<=w.L.size)(hn:RI w B nA c.D9)(hh:Fe w B hA c.D8)(hg:E7 w B gA ls)
  (Gg:c.D9.L<=4611686018427387904) (zC:c.D8.L<=4611686018427387904) (Fa:∀h∈c.D8,h.off.L<=4611686018427387904) (G4:ls.L<=4611686018427387904) (zq:∀x∈ls,x.L<=4611686018427387904) :
  cK D7 77 #[En nA hA c nc hc,I gA ls.L gc] w λe w'=>e=.L (ak bc (Et c ls))/\Gr w w':=by
 have aL:=AI hg;have aM:=AI zq;unfold En;obtain⟨W0,zM⟩:∃W0:U,W0=w.LK (bn #[I nA c.D9.L nc,I hA c.D8.L hc] 25):=⟨_,rfl⟩;have zL:Gr w W0:=zM▸(Gr.refl w).LK _;have zF:W0.L.size=w.L.size+1:=by rw[zM];simp
 have aN:=AI zL;have HC:Hid (∀W,Gr W0 W->(W.S ⟨w.L.size,0,bh⟩=O (I nA c.D9.L nc)/\W.S ⟨w.L.size,1,bh⟩=O (I hA c.D8.L hc))/\w.L.size<W.L.size):=AI λW hg=>by
  have:=hg.size;rw[hg.cell (by show w.L.size<_;omega),hg.cell (by show w.L.size<_;omega),zM,AM _ _ _ _ rfl,AM _ _ _ _ rfl];exact⟨⟨rfl,rfl⟩,by omega⟩
 have aB:=qM nA hA nc hc c W0 B (by omega) (hn.gr hB zL) (hh.keep λb o hb=>zL.cell (AO hb hB)) Gg zC Fa;unfold En at aB;have aH:=AI aB;have HW:=AI zM;clear hn hh hg zq Fa zL aB zM;go_enter Sq.func77,Tryz.ntmps77;go_wp2_with fail;rw[<-HW.out];refine aH.out.LT ?_;rintro e w1 ⟨rfl,zJ⟩;obtain⟨⟨c0,c1⟩,cl⟩:=HC.out w1 zJ;have aO:=AI zJ;have a7:=AI (aN.out.trans zJ);have a8:Hid (∀W,cK D7 105 #[ak bc ls.L,ak bc c.D9.L,ak bc c.D9.L] W λe w'=>e=.L (ak bc (EM ls.L c.D9.L c.D9.L))/\W=w'):=AI λW=>iR _ _ _ W
 clear aH zJ;by_cases h0:Ex c=0
 .by_cases hm:EM ls.L c.D9.L c.D9.L=0
  .have aI:Hid (Et c ls=bI (ls.map λl=>Fz l c.D8.L)):=AI (by simp[Et,h0,hm]);rw[hm] at a8;rw[h0];clear h0 hm;go_wp2_with fail;refine(a8.out _).LT ?_;rintro e w' ⟨rfl,rfl⟩;go_wp2;go_loopw [7] (λi wr=>∃k:Nat,k<=ls.L/\i=ak bc k/\(∀j,j<k->Fz (ls[j]?.LH []) c.D8.L=0)/\Gr w1 wr) (λi _=>ls.L-(br i).L)
   case atStart=>exact⟨0,by omega,rfl,λj hj=>AS hj (BI _),.refl _⟩
   case round =>
    obtain⟨k,hk,rfl,hz,zV⟩:=hrel;have HZ:=AI hz;have aJ:=AI zV;obtain⟨⟨d0,d1⟩,dl⟩:=HC.out wr (aO.out.trans zV);have aC:Gr w wr:=a7.out.trans zV;have aU:=aC.size;by_cases zY:k<ls.L
    .have aK:=(aL.out.gr hB aC);obtain⟨b,o,rfl,hb,aP⟩:=aK (λe=>by rw[e] at zY;simp at zY);obtain⟨A',c',hcell,aQ⟩:=aP k _ (AL zY);have hbl:b<wr.L.size:=by omega
     have aR:=aM.out _ (BN zY);have aD:Hid (ls[k]?.LH []=ls[k]):=AI (by rw[AL zY];rfl);have aA:=AI (fC ls (c.D8.L:Int) zY);rw[aD.out] at aA;have a6:=AI (λd=>nI A' c' ls[k] c.D8.L (wr.drewN d) B (aQ.gr (by omega) ((Gr.refl wr).drewN d)) (by show B<=wr.L.size;omega) aR (by omega) (by omega));rw[show(c.D8.L:Int)-1=IntKind.i64.wrap ((c.D8.L:Int)-1) by simp[gg,gl,eV];omega] at a6
     generalize ls[k]=x at hcell aD aA a6;by_cases he:Fz x c.D8.L=0
     .rw[he] at a6;have aS:=AI (aD.out▸he:Fz (ls[k]?.LH []) c.D8.L=0);go_wp2;go_region_with (go_at_call 106;refine(a6.out 1).LT ?_;rintro e w5 ⟨rfl,aF⟩)
      all_goals
       have aG:=AI ((aJ.out.drewN 1).trans aF);go_wp2;go_roundw
       case rel=>exact⟨k+1,by omega,by go_num,λj hj=>(by
        obtain h|rfl:=BU (Ce hj)
        .exact HZ.out j h
        .exact aS.out),aG.out⟩
       case measure=>simp[Proofs.intOf];omega
     .have HS := Lib.hid (show Et c ls = Fz x c.D8.L by
       rw[aI.out,aW (k:=k) (by simpa using zY) (λi hi=>by rw[fC ls _ (by omega)];exact HZ.out i hi) (by rw[aA.out];exact he),aA.out])
      have zU:((Fz x c.D8.L) != 0)=true:=by simpa using he
      generalize Fz x c.D8.L=e0 at a6 HS zU;go_wp2;go_region_with (go_at_call 106;refine(a6.out 1).LT ?_;rintro e w5 ⟨rfl,aF⟩)
      all_goals
       have aG:=AI (a7.out.trans ((aJ.out.drewN 1).trans aF));go_wp2;go_ret;exact⟨al HS.out.LH,aG.out⟩
    .have HS := Lib.hid (show Et c ls = 0 by
      rw[aI.out];exact cA λi hi=>by
       rw[BD] at hi
       rw[fC ls _ hi];exact HZ.out i (by omega))
     have aT:=AI aC;go_wp2;go_ret;exact⟨al HS.out.LH,aT.out⟩
  .have HS:=AI (show Et c ls=EM ls.L c.D9.L c.D9.L by simp[Et,h0,hm]);have zU:((EM ls.L c.D9.L c.D9.L) != 0)=true:=by simpa using hm
   rw[h0];generalize EM ls.L c.D9.L c.D9.L=e0 at a8 HS zU;go_wp2_with fail;refine(a8.out _).LT ?_;rintro e w' ⟨rfl,rfl⟩;go_wp2;go_ret;exact⟨al HS.out.LH,a7.out⟩
 .have HS:=AI (show Et c ls=Ex c by simp[Et,h0]);have zU:(Ex c != 0)=true:=by simpa using h0
  generalize Ex c=e0 at HS zU;go_wp2;go_ret;exact⟨al HS.out.LH,a7.out⟩
variable {R S:U->U->Prop} {H:U->Prop} {C:Nat->U->Prop} {ops:Array cw} {Q:ik->Act->U->Prop} {n m k:Nat} {ds:List eb} {u0:Nat->F} {w0:U} {l:List (F->U->Prop)} {d:Option Tmp} {g:Option (Nat×Bool)} {t ty:bk} {x:F} {a b:Nat}
def Vr (l:List (F->U->Prop))(i:Nat):F->U->Prop:=Vl l.reverse i
def St (R S:U->U->Prop)(H:U->Prop)(ops:Array cw)(Q:ik->Act->U->Prop)(n:Nat)(ds:List eb)(u0:Nat->F)(w0:U)(k:Nat)(l:List (F->U->Prop))(V:F->U->Prop):Prop :=
 (∀i,Ga R (Vr l i))->Ga R V/\∀u w,R w0 w->Fr ops u u0->Late ops k u u0->Om ops (Vr l) k u w->H w->Done S D7 ops Q n ds k V u w
structure PZ (R:U->U->Prop)(C:Nat->U->Prop)(ops:Array cw)(Q:ik->Act->U->Prop)(n:Nat)(ds:List eb)(m:Nat)(u0:Nat->F)(w0:U)(k:Nat)(l:List (F->U->Prop)):Prop where
 txt:QR .any ops m
 c0:∀k,C k w0.drew
 len:l.L=k
 LT:∀i,Ga R (Vr l i)
 step:∀i,i<k->i<ops.size->∀l2 u w,R w0 w->Fr ops u u0->Late ops i u u0->Om ops (Vl (l.reverse++l2)) i u w->C i w->Done (Mv R C .any ops i) D7 ops Q n ds i (Vl (l.reverse++l2) i) u w
def sZ {a b:List (F->U->Prop)}{i:Nat}(h:i<a.L):Vl (a++b) i=Vl a i:=by unfold Vl;rw[BF h]
def vG {a b:List (F->U->Prop)}{V:F->U->Prop}{i:Nat}(h:a.L=i):Vl (a++V::b) i=V:=by subst h;unfold Vl;rw[BM (AK _)];simp
def F6 {G:Prop}{V:F->U->Prop}(s:St R (Mv R C .any ops k) (C k) ops Q n ds u0 w0 k l V)(rest:PZ R C ops Q n ds m u0 w0 (k+1) (V::l)->G)(h:PZ R C ops Q n ds m u0 w0 k l):G:=by
 obtain⟨hm,hs⟩:=s h.LT;have hl:l.reverse.L=k:=by rw[List.length_reverse,h.len]
 refine rest ⟨h.txt,h.c0,by rw[AX,h.len],λi=>?_,λi hi his l2=>?_⟩
 .unfold Vr;rw[hE];obtain e|e|e:=eA i k
  .rw[sZ (by omega)];exact h.LT i
  .rw[vG (by omega)];exact hm
  .unfold Vl;rw[CF (by simp;have:=h.len;omega)];exact λ_ _ _ _ h=>h
 .rw[hE,Cv];by_cases e:i<k
  .exact h.step i e his _
  .obtain rfl:i=k:=by omega
   intro u w hg hf zY hd hC;rw[show Vl (l.reverse++([V]++l2)) i=V from vG hl]
   exact hs u w hg hf zY (λj hj o d ho a6=>by
    have:=hd j hj o d ho a6
    rwa [sZ (by have:=h.txt.lt _ his j hj;omega)] at this) hC
def Ed {G:Prop}{V:F->U->Prop}(s:St R R (λ_=>True) ops Q n ds u0 w0 k l V)(rest:PZ R (λ_ _=>True) ops Q n ds m u0 w0 (k+1) (V::l)->G):PZ R (λ_ _=>True) ops Q n ds m u0 w0 k l->G :=
 F6 (λhm=>⟨(s hm).1,λu w hg hf hl hd hC=>((s hm).2 u w hg hf hl hd hC).weak λ_ h=>⟨h,λ_ _ _ _=>trivial⟩⟩) rest
def Sp [Goes R](C:Nat->U->Prop)(m:Nat)(hC:∀k,C k w0.drew){id:Nat}{dr:Bool}(rest:PZ R C ops Q n ds m u0 w0 0 []->(cU id ops dr).wp D7 Q ⟨T n u0,ds⟩ w0)(X:NB .any ops m=true:=by kernel_rfl):(cU id ops dr).wp D7 Q ⟨T n u0,ds⟩ w0 :=
 rest ⟨yV X,hC,rfl,λi=>by unfold Vr Vl;simp[Ga],λi hi=>AS hi (BI _)⟩
def aD [Goes R](m:Nat){id:Nat}{dr:Bool}(rest:PZ R (λ_ _=>True) ops Q n ds m u0 w0 0 []->(cU id ops dr).wp D7 Q ⟨T n u0,ds⟩ w0)(X:NB .any ops m=true:=by kernel_rfl):(cU id ops dr).wp D7 Q ⟨T n u0,ds⟩ w0:=Sp _ m (λ_=>trivial) rest X
def jw:∀ {l:List (F->U->Prop)},(∀i,Ga R (Vl l i))->Lr R l
 |[],_=>trivial
 |_::_,h=>⟨h 0,jw λi=>h (i+1)⟩
def M6 [Goes R]{id:Nat}(fin:∀u w,R w0 w->Fr ops u u0->Ends ops (Vr l) m u w->wpOps D7 ops Q (bl m (ops.size-m)) ⟨T n u,ds⟩ w)(hk:k=m:=by exact rfl)(h:PZ R C ops Q n ds m u0 w0 k l):(cU id ops bo).wp D7 Q ⟨T n u0,ds⟩ w0:=by
 subst hk;have hX:=h.txt;refine uL C h.c0 hX l.reverse (jw h.LT) (JJ.of λi hi=>?_) fin
 have:=h.step i hi (by
  obtain h|h:=hX.last
  .omega
  .have:=h.size;omega) []
 rw[CM] at this;exact this
def FJ [Goes R]{id:Nat}{dr:Bool}(fin:∀u w,R w0 w->Fr ops u u0->Ends ops (Vr l) m u w->wpOps D7 ops Q (bl m (ops.size-m)) ⟨T n u,ds⟩ w)(hk:k=m:=by exact rfl)(h:PZ R (λ_ _=>True) ops Q n ds m u0 w0 k l):(cU id ops dr).wp D7 Q ⟨T n u0,ds⟩ w0:=by
 cases dr with
 |true=>exact M6 fin hk h
 |false =>
  subst hk;have hX:=h.txt;refine sX hX l.reverse (jw h.LT) (JJ.of λi hi u w h1 h2 h3 h4=>?_) fin
  have:=h.step i hi (by
   obtain h|h:=hX.last
   .omega
   .have:=h.size;omega) []
  rw[CM] at this;exact(this u w h1 h2 h3 h4 trivial).weak λ_ h=>h.1
def At (R:U->U->Prop)(ops:Array cw)(n:Nat)(u0:Nat->F)(w0:U)(k:Nat)(l:List (F->U->Prop))(t:Nat)(x:F):Prop :=
 t<n/\∀u w,R w0 w->Fr ops u u0->Late ops k u u0->Om ops (Vr l) k u w->u t=x
def Ic {t:Nat}(e:u0 t=x)(hf:FN ops t=true:=by kernel_rfl)(ht:t<n:=by decide):At R ops n u0 w0 k l t x:=⟨ht,λ_ _ _ f _ _=>(f t hf).trans e⟩
def El {t:Nat}(j:Nat)(h2:(opAt ops j).bind (·.1)=O t:=by exact rfl)(hx:Vr l j=λv _=>v=x:=by exact rfl)(h1:(J7 .any ops k).H j=true:=by kernel_rfl)(ht:t<n:=by decide):At R ops n u0 w0 k l t x :=
 ⟨ht,λu w _ _ _ d=>by have:=d.at_ j t h1 h2;rw[hx] at this;exact this⟩
def Sr {t:Nat}(j:Nat)(e:u0 t=x)(h1:(J7 .any ops j).H k=true:=by kernel_rfl)(h2:(opAt ops j).bind (·.1)=O t:=by exact rfl)(ht:t<n:=by decide):At R ops n u0 w0 k l t x:=⟨ht,λ_ _ _ _ h _=>(h.at_ j t h1 h2).trans e⟩
def Lf (ops:Array cw)(n k:Nat):Option (Nat×Bool)->Bool
 |none=>bo
 |some (j,_)=>(J7 .any ops k).H j&&match(opAt ops j).bind (·.1) with
  |some d=>decide (d<n)
  |none=>cu
def Gv (l:List (F->U->Prop)):Option (Nat×Bool)->F->U->Prop
 |none=>λv _=>v=.bool bo
 |some (j,_)=>Vr l j
def gb:Option (Nat×Bool)->Bool
 |none=>bo
 |some (_,b)=>b
def bK {u:Nat->F}{w:U}(hd:Om ops (Vr l) k u w)(h1:Lf ops n k g=bo)(h2:Gv l g=λv _=>v=.bool (gb g)):Lets ops n u g:=by
 cases g with
 |none=>trivial
 |some q =>
  obtain⟨j,b⟩:=q;unfold Lf at h1;rw[AY] at h1;cases e:(opAt ops j).bind (·.1) with
  |none=>rw[e] at h1;cases h1.2
  |some d =>
   rw[e] at h1;have:=hd.at_ j d h1.1 e;rw[show Vr l j=_ from h2] at this;exact⟨d,e,Ca h1.2,this⟩
def Ob:Option Tmp×Op×Option (Nat×Bool)×bk->Option (Nat×Option (Nat×Bool))
 |(_,.move (.tmp t),g,_)=>O (t,g)
 |(_,.assign (.tmp t),g,_)=>O (t,g)
 |_=>bh
def py [Rfl R]{i t:Nat}{V:F->U->Prop}{u:Nat->F}{w:U}(h:(opAt ops i).bind Ob=O (t,g))(hV:V (u t) w)(hl:Lets ops n u g)(ht:t<n):Done R D7 ops Q n ds i V u w:=by
 cases e:opAt ops i with
 |none=>rw[e] at h;cases h
 |some q =>
  rw[e] at h;obtain⟨d,op,g',ty⟩:=q;change Ob (d,op,g',ty)=_ at h;unfold Ob at h;split at h
  .rename_i e';cases e';cases h;exact sV e hV hl ht
  .rename_i e';cases e';cases h;exact oC e hV hl ht
  .cases h
def Rv [Rfl S]{t:Nat}(p:At R ops n u0 w0 k l t x)(h:(opAt ops k).bind Ob=O (t,g):=by exact rfl)(h1:Lf ops n k g=true:=by kernel_rfl)(h2:Gv l g=λv _=>v=.bool (gb g):=by exact rfl):St R S H ops Q n ds u0 w0 k l λv _=>v=x :=
 λ_=>⟨aF x,λu w hg hf hl hd _=>py h (p.2 u w hg hf hl hd) (bK hd h1 h2) p.1⟩
def Em [Rfl S]{t:Nat}(e:u0 t=x)(h:(opAt ops k).bind Ob=O (t,g):=by exact rfl)(hf:FN ops t=true:=by kernel_rfl)(ht:t<n:=by decide)(h1:Lf ops n k g=true:=by kernel_rfl)(h2:Gv l g=λv _=>v=.bool (gb g):=by exact rfl):St R S H ops Q n ds u0 w0 k l λv _=>v=x :=
 Rv (Ic e hf ht) h h1 h2
def FE [Rfl S]{t:Nat}(j:Nat)(h:(opAt ops k).bind Ob=O (t,g):=by exact rfl)(h3:(opAt ops j).bind (·.1)=O t:=by exact rfl)(h4:(J7 .any ops k).H j=true:=by kernel_rfl)(ht:t<n:=by decide)(h1:Lf ops n k g=true:=by kernel_rfl)(h2:Gv l g=λv _=>v=.bool (gb g):=by exact rfl):St R S H ops Q n ds u0 w0 k l (Vr l j) :=
 λhm=>⟨hm j,λu w hg hf hl hd _=>py h (hd.at_ j t h4 h3) (bK hd h1 h2) ht⟩
def Rw [Rfl S]{c:F}(h:opAt ops k=O (d,.assign (.const c),g,ty):=by exact rfl)(h1:Lf ops n k g=true:=by kernel_rfl)(h2:Gv l g=λv _=>v=.bool (gb g):=by exact rfl):St R S H ops Q n ds u0 w0 k l λv _=>v=c :=
 λ_=>⟨aF c,λ_ _ _ _ _ hd _=>nG h rfl (bK hd h1 h2)⟩
def LO [Rfl S]{j t:Nat}{op:Op}{c:Bool}(h:opAt ops k=O (d,op,O (j,c),ty):=by exact rfl)(hx:Vr l j=λv _=>v=.bool (!c):=by exact rfl)(h3:(opAt ops j).bind (·.1)=O t:=by exact rfl)(h4:(J7 .any ops k).H j=true:=by kernel_rfl)(ht:t<n:=by decide):St R S H ops Q n ds u0 w0 k l λv _=>v=undef :=
 λ_=>⟨aF _,λu w _ _ _ hd _=>uM h (by have:=hd.at_ j t h4 h3;rw[hx] at this;exact this) rfl h3 ht⟩
def FU [Rfl S]{p:cF}(pa:At R ops n u0 w0 k l a (.S (O p)))(hc:∀w,R w0 w->w.S p=O x)(h:opAt ops k=O (d,.load t (.tmp a),g,ty):=by exact rfl)(ht:kw t=true:=by kernel_rfl)(h1:Lf ops n k g=true:=by kernel_rfl)(h2:Gv l g=λv _=>v=.bool (gb g):=by exact rfl):St R S H ops Q n ds u0 w0 k l λv _=>v=x :=
 λ_=>⟨aF _,λu w hg hf hl hd _=>sW h (pa.2 u w hg hf hl hd) (hc w hg) (bK hd h1 h2) pa.1 ht⟩
def PH [Rfl S]{p:cF}(x:F)(pa:At R ops n u0 w0 k l a (.S (O p)))(h:opAt ops k=O (d,.load t (.tmp a),g,ty))(hc:∀w,R w0 w->∀ev:bw->F,ev (.tmp a)=.S (O p)->(cf ev (IV (.load t (.tmp a)) ty)).run D7 w=.ok (.value x) w)(h1:Lf ops n k g=true:=by kernel_rfl)(h2:Gv l g=λv _=>v=.bool (gb g):=by exact rfl):St R S H ops Q n ds u0 w0 k l λv _=>v=x :=
 λ_=>⟨aF _,λu w hg hf hl hd _=>bH h (λev he=>hc w hg ev ((he.1 a pa.1).trans (pa.2 u w hg hf hl hd))) (bK hd h1 h2)⟩
def Lg [Rfl S]{s f b o:Nat}(o':Nat)(pa:At R ops n u0 w0 k l a (.S (O ⟨b,o,bh⟩)))(h:opAt ops k=O (d,.fieldAddr s (.tmp a) f,g,ty):=by exact rfl)(ho:o+Qq s f=o':=by kernel_rfl)(hk:Sm s f=true:=by kernel_rfl)(h1:Lf ops n k g=true:=by kernel_rfl)(h2:Gv l g=λv _=>v=.bool (gb g):=by exact rfl):St R S H ops Q n ds u0 w0 k l λv _=>v=.S (O ⟨b,o',bh⟩) :=
 λ_=>⟨aF _,λu w hg hf hl hd _=>qI h (pa.2 u w hg hf hl hd) ho hk (bK hd h1 h2) pa.1⟩
def FI [Rfl S]{q o len cap i:Nat}(o' s:Nat)(pa:At R ops n u0 w0 k l a (.slice (O ⟨q,o,bh⟩) len cap))(pb:At R ops n u0 w0 k l b (ak bc (i:Nat)))(h:opAt ops k=O (d,.indexAddr t (.tmp a) (.tmp b),g,ty):=by exact rfl)(hk:i<len:=by omega)(ho:o+i*s=o':=by omega)(hs:Sn t=s:=by kernel_rfl)(hz:s≠0:=by decide)
  (h1:Lf ops n k g=true:=by kernel_rfl) (h2:Gv l g=λv _=>v=.bool (gb g):=by exact rfl):St R S H ops Q n ds u0 w0 k l λv _=>v=.S (O ⟨q,o',bh⟩) :=
 λ_=>⟨aF _,λu w hg hf hl hd _=>qJ s h (pa.2 u w hg hf hl hd) (pb.2 u w hg hf hl hd) hk ho hs hz (bK hd h1 h2) pa.1 pb.1⟩
def Kk [Rfl S]{c:Bool}(pa:At R ops n u0 w0 k l a (.bool c))(h:opAt ops k=O (d,.unOp .not t (.tmp a),g,ty):=by exact rfl)(h1:Lf ops n k g=true:=by kernel_rfl)(h2:Gv l g=λv _=>v=.bool (gb g):=by exact rfl):St R S H ops Q n ds u0 w0 k l λv _=>v=.bool (!c) :=
 λ_=>⟨aF _,λu w hg hf hl hd _=>bH h (λev he=>by
  have e:=(he.1 a pa.1).trans (pa.2 u w hg hf hl hd)
  go_simp) (bK hd h1 h2)⟩
def K6 [Rfl S]{c:bw}(pa:At R ops n u0 w0 k l a (.bool cu))(pb:At R ops n u0 w0 k l b x)(h:opAt ops k=O (d,.pick (.tmp a) c (.tmp b),g,ty):=by exact rfl)(h1:Lf ops n k g=true:=by kernel_rfl)(h2:Gv l g=λv _=>v=.bool (gb g):=by exact rfl):St R S H ops Q n ds u0 w0 k l λv _=>v=x :=
 λ_=>⟨aF _,λu w hg hf hl hd _=>bH h (λev he=>by
  have e1:=(he.1 a pa.1).trans (pa.2 u w hg hf hl hd);have e2:=(he.1 b pb.1).trans (pb.2 u w hg hf hl hd);unfold cf IV
  simp[e1,e2,asBool]) (bK hd h1 h2)⟩
def Qr [Rfl S]{c:F}{b:bw}(pa:At R ops n u0 w0 k l a (.bool bo))(h:opAt ops k=O (d,.pick (.tmp a) (.const c) b,g,ty):=by exact rfl)(h1:Lf ops n k g=true:=by kernel_rfl)(h2:Gv l g=λv _=>v=.bool (gb g):=by exact rfl):St R S H ops Q n ds u0 w0 k l λv _=>v=c :=
 λ_=>⟨aF _,λu w hg hf hl hd _=>bH h (λev he=>by
  have e1:=(he.1 a pa.1).trans (pa.2 u w hg hf hl hd);unfold cf IV
  simp[e1,he.2.1,asBool]) (bK hd h1 h2)⟩
def Rx [Rfl S]{y:Int}{z:F}{op:BinOp}{s t':bk}(x:Int)(pa:At R ops n u0 w0 k l a (ak bc y))(hx:-9223372036854775808<=x/\x<9223372036854775808:=by omega)(h:opAt ops k=O (d,.binOp op s (.tmp a) (.const z) t',g,ty):=by exact rfl)
  (hr:IntKind.i64.wrap x=x->∀w (ev:bw->F),ev (.tmp a)=ak bc y->(∀c,ev (.const c)=c)->(cf ev (IV (.binOp op s (.tmp a) (.const z) t') ty)).run D7 w=.ok (.value (ak bc x)) w:=by intro _ _ _ _ _;go_simp) (h1:Lf ops n k g=true:=by kernel_rfl) (h2:Gv l g=λv _=>v=.bool (gb g):=by exact rfl):St R S H ops Q n ds u0 w0 k l λv _=>v=ak bc x :=
 λ_=>⟨aF _,λu w hg hf hl hd _=>bH h (λev he=>hr (by simp[gg,gl,eV];omega) w ev ((he.1 a pa.1).trans (pa.2 u w hg hf hl hd)) he.2.1) (bK hd h1 h2)⟩
def My [Rfl S]{y z:F}{op:BinOp}{s t':bk}(x:F)(pa:At R ops n u0 w0 k l a y)(pb:At R ops n u0 w0 k l b z)(h:opAt ops k=O (d,.binOp op s (.tmp a) (.tmp b) t',g,ty):=by exact rfl)(hr:∀w (ev:bw->F),ev (.tmp a)=y->ev (.tmp b)=z->(cf ev (IV (.binOp op s (.tmp a) (.tmp b) t') ty)).run D7 w=.ok (.value x) w:=by intro _ _ _ _;go_simp)
  (h1:Lf ops n k g=true:=by kernel_rfl) (h2:Gv l g=λv _=>v=.bool (gb g):=by exact rfl):St R S H ops Q n ds u0 w0 k l λv _=>v=x :=
 λ_=>⟨aF _,λu w hg hf hl hd _=>bH h (λev he=>hr w ev ((he.1 a pa.1).trans (pa.2 u w hg hf hl hd)) ((he.1 b pb.1).trans (pb.2 u w hg hf hl hd))) (bK hd h1 h2)⟩
def Qs [Rfl S]{p:Option cF}{j cap:Nat}{ats:Array bk}(pa:At R ops n u0 w0 k l a (.slice p j cap))(h:opAt ops k=O (d,.call { callee:=.builtin .len,args:=#[.tmp a],argTypes:=ats },g,ty):=by exact rfl)(hr:∀w (ev:bw->F),ev (.tmp a)=.slice p j cap->(cf ev (IV (.call { callee:=.builtin .len,args:=#[.tmp a],argTypes:=ats }) ty)).run D7 w=.ok (.value (ak bc (j:Nat))) w:=by intro _ _ _;go_simp)
  (h1:Lf ops n k g=true:=by kernel_rfl) (h2:Gv l g=λv _=>v=.bool (gb g):=by exact rfl):St R S H ops Q n ds u0 w0 k l λv _=>v=ak bc (j:Nat) :=
 λ_=>⟨aF _,λu w hg hf hl hd _=>bH h (λev he=>hr w ev ((he.1 a pa.1).trans (pa.2 u w hg hf hl hd))) (bK hd h1 h2)⟩
def yW (V:F->U->Prop)(hm:Ga R V)(s:∀u w,R w0 w->Fr ops u u0->Late ops k u u0->Om ops (Vr l) k u w->H w->Done S D7 ops Q n ds k V u w):St R S H ops Q n ds u0 w0 k l V:=λ_=>⟨hm,s⟩
def KC (V:F->U->Prop)(hm:Ga R V)(s:∀u w,R w0 w->Fr ops u u0->Late ops k u u0->Om ops (Vr l) k u w->Done S D7 ops Q n ds k V u w):St R S H ops Q n ds u0 w0 k l V:=yW V hm λu w a b c d _=>s u w a b c d
def O7 (x:F)(s:∀u w,R w0 w->Fr ops u u0->Late ops k u u0->Om ops (Vr l) k u w->Done S D7 ops Q n ds k (λv _=>v=x) u w):St R S H ops Q n ds u0 w0 k l λv _=>v=x:=KC _ (aF x) s
def JB [Rfl S]{i:Nat}(h:opAt ops k=O (d,.extract (.tmp a) i,g,ty))(j:Nat)(V:F->U->Prop)(hm:Ga R V)(hV:∀v w,Vr l j v w->∃X x,v=.tuple X/\X[i]?=O x/\V x w)(h3:(opAt ops j).bind (·.1)=O a:=by exact rfl)(h4:(J7 .any ops k).H j=true:=by kernel_rfl)(ht:a<n:=by decide)(h1:Lf ops n k g=true:=by kernel_rfl)(h2:Gv l g=λv _=>v=.bool (gb g):=by exact rfl):St R S H ops Q n ds u0 w0 k l V :=
 λ_=>⟨hm,λu w hg hf hl hd _=>by
  obtain⟨X,x,e,hx,hv⟩:=hV _ _ (hd.at_ j a h4 h3)
  exact nH h e hx hv (bK hd h1 h2) ht⟩
def Oc (ops:Array cw)(n k:Nat):List Nat->List bw->Bool
 |[],[]=>bo
 |j::js,.tmp a::os=>(J7 .any ops k).H j&&((opAt ops j).bind (·.1)==O a)&&df (a<n)&&Oc ops n k js os
 |_,_=>cu
def pz {u:Nat->F}{w:U}{ev:bw->F}(hd:Om ops (Vr l) k u w)(he:O6 n u ev):∀(js:List Nat) (os:List bw) (xs:List F),Oc ops n k js os=bo->js.map (Vr l)=xs.map (λx v _=>v=x)->os.map ev=xs
 |[],[],xs,_,h2=>by
  cases xs with
  |nil=>rfl
  |cons x xs=>cases h2
 |j::js,.tmp a::os,xs,h1,h2=>by
  cases xs with
  |nil=>cases h2
  |cons x xs =>
   simp only[Oc,AY,beq_iff_eq,decide_eq_true_eq] at h1;obtain⟨⟨⟨q1,q2⟩,q3⟩,q4⟩:=h1;rw[Ci,Ci] at h2;injection h2 with e1 e2
   have:=hd.at_ j a q1 q2;rw[e1] at this;rw[Ci,he.1 a q3,this,pz hd he js os xs q4 e2]
 |[],_::_,_,h1,_=>by cases h1
 |_::_,[],_,h1,_=>by cases h1
 |_::_,.const _::_,_,h1,_=>by cases h1
 |_::_,.func _::_,_,h1,_=>by cases h1
def Qt {f:j3}{fn:Func}{args:Array bw}{ats:Array bk}{xs:List F}(hf:D7.L[f]?=O fn)(js:List Nat)(V:F->U->Prop)(hm:Ga R V)(hc:∀w,R w0 w->H w->cK D7 f xs.LK w λe w'=>∃v,e=.L v/\S w w'/\V v w')
  (h:opAt ops k=O (d,.call { callee:=.value (.func f),args:=args,argTypes:=ats },g,ty):=by exact rfl) (ha:Oc ops n k js args.LK=true:=by kernel_rfl) (hx:js.map (Vr l)=xs.map (λx v _=>v=x):=by exact rfl)
  (h1:Lf ops n k g=true:=by kernel_rfl) (h2:Gv l g=λv _=>v=.bool (gb g):=by exact rfl) (hn:(fn.name == "runtime.NumGoroutine")=false:=by kernel_rfl) (hb:fn.body.L=false:=by kernel_rfl):St R S H ops Q n ds u0 w0 k l V :=
 λ_=>⟨hm,λu w hg _ _ hd hC=>iH h hf xs.LK (λev he=>by
  rw[<-Array.toList_inj,Array.toList_map]
  exact pz hd he js _ xs ha hx) (hc w hg hC) (bK hd h1 h2) hn hb⟩
def Je {f:j3}{fn:Func}{args:Array bw}{ats:Array bk}{xs:List F}(hf:D7.L[f]?=O fn)(js:List Nat)(V:F->U->Prop)(hm:Ga R V)(hc:∀w,R w0 w->cK D7 f xs.LK w λe w'=>∃v,e=.L v/\S w w'/\V v w')
  (h:opAt ops k=O (d,.call { callee:=.value (.func f),args:=args,argTypes:=ats },g,ty):=by exact rfl) (ha:Oc ops n k js args.LK=true:=by kernel_rfl) (hx:js.map (Vr l)=xs.map (λx v _=>v=x):=by exact rfl)
  (h1:Lf ops n k g=true:=by kernel_rfl) (h2:Gv l g=λv _=>v=.bool (gb g):=by exact rfl) (hn:(fn.name == "runtime.NumGoroutine")=false:=by kernel_rfl) (hb:fn.body.L=false:=by kernel_rfl):St R S H ops Q n ds u0 w0 k l V :=
 Qt hf js V hm (λw hg _=>hc w hg) h ha hx h1 h2 hn hb
def K7 {f:j3}{fn:Func}{args:Array bw}{ats:Array bk}{xs:List F}(hf:D7.L[f]?=O fn)(js:List Nat)(hc:∀w,R w0 w->cK D7 f xs.LK w λe w'=>e=.L x/\S w w')
  (h:opAt ops k=O (d,.call { callee:=.value (.func f),args:=args,argTypes:=ats },g,ty):=by exact rfl) (ha:Oc ops n k js args.LK=true:=by kernel_rfl) (hx:js.map (Vr l)=xs.map (λx v _=>v=x):=by exact rfl)
  (h1:Lf ops n k g=true:=by kernel_rfl) (h2:Gv l g=λv _=>v=.bool (gb g):=by exact rfl) (hn:(fn.name == "runtime.NumGoroutine")=false:=by kernel_rfl) (hb:fn.body.L=false:=by kernel_rfl):St R S H ops Q n ds u0 w0 k l λv _=>v=x :=
 Je hf js _ (aF x) (λw hg=>(hc w hg).LT λ_ _ h=>⟨_,h.1,h.2,rfl⟩) h ha hx h1 h2 hn hb
def bV {a b:Nat}(h:(bl a (b+1-a)).all (FN ops ·)=bo)(t:Nat)(h1:a<=t)(h2:t<=b):FN ops t=true:=BO.1 h t (eC.2 ⟨h1,by omega⟩)
end Go.Sq
