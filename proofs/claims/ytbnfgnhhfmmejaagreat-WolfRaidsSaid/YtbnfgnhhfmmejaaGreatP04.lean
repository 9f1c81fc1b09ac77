/- Parts of the proof. -/
import Derived.Test.YtbnfgnhhfmmejaaGreatP03
import Derived.Shelf.SlSortCmp.Whole1
import Derived.Shelf.Sort.Plain
import Derived.Test.YtbnfgnhhfmmejaaGreatRows
import Derived.Conc.HoldsTime
import Derived.ClosedOfChecked
import Derived.Deep.AppendLies
import Derived.Lib.Hide
import Derived.Laws.EntriesVeiled
import Derived.RangeFuncNested
import Derived.RangeFuncBound
set_option linter.all false
set_option maxHeartbeats 12800000
set_option maxRecDepth 1000000
open Go.Value renaming pointer->Z,int->E,slice->bk
open Option renaming some->Y,none->U
open Go renaming World->I,FuncId->bn,Goroutine->bo,Value->cq,Addr->cw,Calls->cF,Frame->cU,bodyPost_ret->dr,run_call_cas_hit->ea,execOp->eG,stepG->mm,joinedFacts->mA,Item->n9,Oper->oh,Code->q8,TypeId->vN
open Go.Proofs.Tryz renaming prog->F,func148->cE,f49->df,results82->dS,func89->er,func90->ez,func87->eA,func88->eC,func84->eF,func85->fu,func49->gg,ntmps102->gR,underlying131->hZ,underlying191->h9,underlying192->ik,underlying196->iv,underlying105->js,underlying212->jx,underlying215->j0,underlying222->j1,underlying223->j2,func128->ko,func129->kp,zeroValue131->kq,zeroValue191->kv,zeroValue192->kx,zeroValue196->k0,zeroValue105->k5,underlying66->k6,zeroValue212->k7,zeroValue215->k8,zeroValue222->k9,zeroValue223->lh,underlying0->lv,underlying3->lx,underlying4->lA,underlying5->l4,underlying9->l5,zeroValue66->l8,zeroValue0->nh,zeroValue3->np,zeroValue4->nt,zeroValue5->nx,zeroValue9->n4,func3->oo,sizeOf131->ou,sizeOf191->oK,sizeOf192->p5,sizeOf196->qb,sizeOf105->qc,sizeOf212->qf,sizeOf215->ql,sizeOf222->qo,sizeOf223->qq,isAgg131->q9,isAgg191->rk,isAgg192->rr,isAgg196->rA,isAgg105->r4,sizeOf66->r5,isAgg212->sw,isAgg215->sy,isAgg222->sA,isAgg223->sF,ntmps108->sS,ntmps100->s4,func111->s5,func112->s9,sizeOf0->tr,sizeOf3->tz,sizeOf4->uA,sizeOf5->vd,sizeOf9->vh,isAgg66->vk,isAgg0->vq,isAgg3->vt,isAgg4->vu,isAgg5->vx,isAgg9->vH,f148->vX
open List.range renaming loop->N
open Go.Conc renaming goes_go->O,goes_oper_k->V,stepG_region_end->bh,stepG_region->bs,stepG_seq->cf,stepG_cond->eo,stepG_end->ln,G->lu,stepG_skip->om,enter_at->vo
open Go.IntKind renaming i64->D
open Bool renaming false->M,true->bb
open List renaming range->ak,drop_of_length_le->dy,take_append_drop->fq,flatMap_append->gB,find?_append->kn,prefix_refl->l9
open Go.Ending renaming returned->bA
open Go.World renaming cell?_setCell_same->bD,cell?_setCell_other->cu,setCell->s3,cell?->vn
open Go.Proofs renaming intOf->bW
open Array renaming replicate->b9
open Go.Instr renaming fieldAt->eb,index->ng
open Go.Frame renaming enter->ed,finish_at->eV
open Go.Obj renaming cells->ek
open Decidable renaming decide->gU,not_not->ll
open Go.Fence renaming wide->j3
open Array renaming getD->Array.LH,push->Array.LE
open Eq renaming symm->Eq.LH
open False renaming elim->False.S
open Go renaming underlying->Go.LH,zeroValue->Go.LT
open Go.Addr renaming block->Go.Addr.LE
open Go.BoundsCode renaming toNat->Go.BoundsCode.L
open Go.CallKind renaming normal->Go.CallKind.L
open Go.Calls renaming mono->Go.Calls.LT
open Go.CallsIn renaming mono->Go.CallsIn.LT
open Go.Code renaming block->Go.Code.LE,region->Go.Code.L
open Go.Ending renaming returned->Go.Ending.L
open Go.Exit renaming normal->Go.Exit.L
open Go.Goroutine renaming frame->Go.Goroutine.L
open Go.Instr renaming alloc->Go.Instr.LK
open Go.Lib renaming hid->Go.Lib.LH
open Go.Op renaming alloc->Go.Op.LK
open Go.Oper renaming dst->Go.Oper.L
open Go.Program renaming funcs->Go.Program.L,underlying->Go.Program.LH
open Go.RoundIn renaming mono->Go.RoundIn.LT
open Go.RowKit.Below renaming alloc->Go.RowKit.Below.LK,block->Go.RowKit.Below.LE,grown->Go.RowKit.Below.Lo,mono->Go.RowKit.Below.LT,setCell->Go.RowKit.Below.LH
open Go.TypeDesc renaming pointer->Go.TypeDesc.S
open Go.Value renaming ownBlock->Go.Value.L,pointer->Go.Value.S
open Go.World renaming alloc->Go.World.LK,cell?->Go.World.S,frozen?->Go.World.O,heap->Go.World.L,ownsRow->Go.World.H,putObj->Go.World.LB,setCell->Go.World.LH
open Go.World.ownsRow renaming alloc->Go.World.ownsRow.LK
open Int renaming toNat->Int.L
open List renaming below->List.Li,contains->List.H,filter->List.S,flatMap->List.O,length->List.L,set->List.Lo,sum->List.LE,take->List.LT,toArray->List.LK
open Nat renaming below->Nat.Li,testBit->Nat.L
open Option renaming getD->Option.LH
open Or renaming elim->Or.S
open UInt8 renaming toNat->UInt8.L
namespace Go.Sq
structure EZ where
 heads:Int
 FL:Int
 most:Int
 off:List Int
instance:Inhabited EZ:=⟨⟨0,0,0,[]⟩⟩
structure Ek where
 D9:List Int
 D8:List EZ
def Ek.h (c:Ek)(i:Nat):EZ:=c.D8[i]?.LH default
def Jh:List Int->List Int->Int
 |[],[]=>0
 |[],_::_=>-1
 |_::_,[]=>1
 |a::l,b::m=>if a<b then -1 else if b<a then 1 else Jh l m
def mt (l:List Int):Jh [] l=if l.L=0 then 0 else -1:=by cases l<;>simp[Jh]
def ra (l:List Int)(h:0<l.L):Jh l []=1:=by cases l with
 |nil=>simp at h
 |cons a l=>rfl
def re (l m:List Int)(k:Nat)(h1:k<l.L)(h2:k<m.L):Jh (l.drop k) (m.drop k)=if l[k]?.LH 0<m[k]?.LH 0 then -1 else if m[k]?.LH 0<l[k]?.LH 0 then 1 else Jh (l.drop (k+1)) (m.drop (k+1)):=by
 rw[Dj h1,Dj h2,AL h1,AL h2]
 rfl
def dW (a b:Int):Int:=if a<b then -1 else if b<a then 1 else 0
def bN {α:Type}(d:α)(l:List α)(k:Nat)(h:k<l.L):l.LT (k+1)=l.LT k++[l[k]?.LH d]:=by
 rw[CN,AL h];rfl
def gw (l:List Int)(k:Nat)(h:k<l.L):(l.LT (k+1)).LE=(l.LT k).LE+l[k]?.LH 0:=by
 rw[bN 0 l k h,List.sum_append];simp
def Hx (a b:Int)(l:List Int)(h:∀x∈l,a<=x/\x<=b):l.L*a<=l.LE/\l.LE<=l.L*b:=by
 induction l with
 |nil=>simp
 |cons x l ih =>
  obtain⟨h1,h2⟩:=ih λy hy=>h y (Cp _ hy);obtain⟨h3,h4⟩:=h x Cg;simp only[AX,List.sum_cons,Int.natCast_add,Int.natCast_one,Int.add_mul,Int.one_mul] at *;omega
def GA (l:List Int)(k:Nat)(h:k<l.L):l[k]?.LH 0∈l:=by
 rw[AL h];exact BN h
structure Ek.Ok (c:Ek):Prop where
 n1:1<=c.D9.L
 n5:c.D9.L<=5
 need:∀x∈c.D9,0<=x/\x<=12
 h1:1<=c.D8.L
 h4:c.D8.L<=4
 heads:∀h∈c.D8,1<=h.heads/\h.heads<=40
 FL:∀h∈c.D8,1<=h.FL/\h.FL<=5
 most:∀h∈c.D8,0<=h.most/\h.most<=5
 off:∀h∈c.D8,h.off.L<=5/\∀x∈h.off,0<=x/\x<c.D9.L
def Ek.I9 (c:Ek){i:Nat}(hi:i<c.D8.L):c.h i∈c.D8:=by
 unfold Ek.h;rw[AL hi];exact BN hi
def below (x k:Nat):List Int:=((ak k).S x.L).map (λn:Nat=>(n:Int))
def wl (x:Nat):List Int:=below x 4
def MH {x:Nat}{z:Int}(h:z∈wl x):∃n:Nat,z=n/\n<4/\x.L n=true:=by
 unfold wl below at h;simp only[Bu,CJ,BQ] at h;obtain⟨n,⟨h1,h2⟩,rfl⟩:=h;exact⟨n,rfl,h1,h2⟩
def dH (x:Nat):(wl x).L<=4:=by
 unfold wl below;rw[BD];exact AU (Da _ _) (by simp)
def Ek.has (c:Ek)(x:Nat):Prop:=x<2 ^ c.D8.L
def mu {x n m:Nat}(h:x<2 ^ m)(hb:x.L n=bb):n<m:=by
 obtain h1|h1:=BV n m
 .exact h1
 .rw[Nat.testBit_lt_two_pow (AO h (Dd (by omega) h1))] at hb;cases hb
def Dz {c:Ek}(h4:c.D8.L<=4){x:Nat}(hx:c.has x):x<16:=AO hx (Dd (by omega) h4)
def Ng {c:Ek}{x:Nat}(hx:c.has x){k:Nat}(hk:k<(wl x).L):∃n:Nat,(wl x)[k]?.LH 0=n/\n<c.D8.L/\n<4/\x.L n=true:=by
 obtain⟨n,h1,h2,h3⟩:=MH (GA _ k hk);exact⟨n,h1,mu hx h3,h2,h3⟩
def Ek.FL (c:Ek)(x:Nat):Int:=((wl x).map λh=>(c.h h.L).FL).LE
def Ek.Ku (c:Ek)(x:Nat):List Int:=(wl x).map λh=>(c.h h.L).FL
def Ek.KF (c:Ek)(x:Nat):(c.Ku x).L=(wl x).L:=BD ..
def Ek.Pp (c:Ek){x k n:Nat}(hk:k<(wl x).L)(hn:(wl x)[k]?.LH 0=n):(c.Ku x)[k]?.LH 0=(c.h n).FL:=by
 unfold Ek.Ku;rw[Bv];rw[AL hk] at hn ⊢;simp only[Bf] at hn;simp[hn]
def DR (c:Ek)(x:Nat):c.FL x=(c.Ku x).LE:=rfl
def Nh (c:Ek){x:Nat}(hx:c.has x)(hd:∀h∈c.D8,1<=h.FL/\h.FL<=5)(k:Nat):0<=((c.Ku x).LT k).LE/\((c.Ku x).LT k).LE<=20:=by
 have hb:=Hx 0 5 ((c.Ku x).LT k) λy hy=>by
  obtain⟨z,hz,rfl⟩:=Bu.1 (Cq hy);obtain⟨n,rfl,_,h3⟩:=MH hz;have:=hd _ (c.I9 (mu hx h3));simp only[Cu];omega
 have hl:((c.Ku x).LT k).L<=4:=by
  rw[CV,c.KF];have:=dH x;omega
 omega
def Hz (r:Nat->Nat)(n:Nat):Nat->Nat
 |0=>0
 |k+1=>Hz r n k+if(r k).L n then 1 else 0
def rf (r:Nat->Nat)(n k:Nat):Hz r n k<=k:=by
 induction k with
 |zero=>exact AK _
 |succ k ih=>simp only[Hz];split<;>omega
def QU (c:Ek)(night n:Nat):Bool:=gU ((night:Int)∈(c.h n).off)
def fZ (r:Nat->Nat)(night n:Nat):Bool:=gU (0<night)&&(r (night-1)).L n
def rg (c:Ek)(r:Nat->Nat)(night n:Nat):Bool:=gU ((c.h n).most<=(Hz r n night:Int))
def KG (c:Ek)(r:Nat->Nat)(night:Nat):Nat->Nat->Bool
 |0,n=>QU c night n
 |1,n=>fZ r night n
 |_,n=>rg c r night n
def breaks (c:Ek)(r:Nat->Nat)(night i:Nat):Option Int:=(wl (r night)).find? λh=>KG c r night i h.L
def Ek.need (c:Ek)(night:Nat):Int:=c.D9[night]?.LH 0
def Gq (c:Ek)(r:Nat->Nat)(night:Nat):Int×Int×Int :=
 match breaks c r night 0 with
 |some h=>(1,night,h)
 |none=>match breaks c r night 1 with
  |some h=>(2,night,h)
  |none=>match breaks c r night 2 with
   |some h=>(3,night,h)
   |none=>if c.FL (r night)<c.need night then(4,night,-1) else(0,-1,-1)
def gy {l:List Int}{p:Int->Bool}{k:Nat}(hk:k<l.L)(hn:(l.LT k).find? p=U)(hp:p (l[k]?.LH 0)=bb):l.find? p=Y (l[k]?.LH 0):=by
 have e:l.find? p=(l.LT k++l.drop k).find? p:=by rw[fq]
 rw[e,kn,hn,Dj hk,List.find?_cons];rw[AL hk] at hp ⊢;simp only[Bf] at hp ⊢;simp only[hp,Option.none_or]
def gX {l:List Int}{p:Int->Bool}{k:Nat}(hk:k<l.L)(hn:(l.LT k).find? p=U)(hp:p (l[k]?.LH 0)=M):(l.LT (k+1)).find? p=none:=by
 rw[bN 0 l k hk,kn,hn];simp[hp]
def EM (n lo hi:Int):Int:=if n<lo then 7 else if hi<n then 6 else 0
def Gi (l:List Int)(n:Int)(i:Nat):Int:=if 0<=l[i]?.LH 0/\l[i]?.LH 0<=n-1 then(if 0<i/\l[i]?.LH 0<=l[i-1]?.LH 0 then 5 else 0) else 3
def bI (l:List Int):Int:=(l.find? (· != 0)).LH 0
def Fz (l:List Int)(n:Int):Int:=bI ((ak l.L).map (Gi l n))
def FM (x lo hi:Int):Bool:=gU (lo<=x)&&gU (x<=hi)
def FZ (n:Int)(h:EZ):Int:=if FM h.heads 1 40&&FM h.FL 1 5&&FM h.most 0 5 then Fz h.off n else 1
def Ex (c:Ek):Int :=
 if EM c.D9.L 1 5≠0 then EM c.D9.L 1 5 else if(c.D9.all λx=>FM x 0 12)=M then 1
 else if EM c.D8.L 1 4≠0 then EM c.D8.L 1 4 else bI (c.D8.map (FZ c.D9.L))
def iT {l:List Int}(h:∀x∈l,x=0):bI l=0:=by
 unfold bI;rw[Do.2 λx hx=>by simp[h x hx]];rfl
def aW {l:List Int}{k:Nat}(hk:k<l.L)(hn:∀i,i<k->l[i]?.LH 0=0)(hp:l[k]?.LH 0≠0):bI l=l[k]?.LH 0:=by
 unfold bI;rw[gy hk (Do.2 λx hx=>?_) (by simpa using hp)]
 .rfl
 .obtain⟨i,hi,rfl⟩:=List.mem_take_iff_getElem.1 hx;have:=hn i (by omega);rw[AL (by omega)] at this;simpa using this
def cA {l:List Int}(hn:∀i,i<l.L->l[i]?.LH 0=0):bI l=0:=iT λx hx=>by
 obtain⟨i,hi,rfl⟩:=Cr.1 hx;have:=hn i hi;rw[AL hi] at this;simpa using this
def gz {l:List Int}{n:Int}{k:Nat}(hk:k<l.L)(hn:∀i,i<k->Gi l n i=0)(hp:Gi l n k≠0):Fz l n=Gi l n k:=by
 have e:∀i,i<l.L->((ak l.L).map (Gi l n))[i]?.LH 0=Gi l n i:=λi hi=>by simp[hi]
 unfold Fz;rw[aW (k:=k) (by simpa using hk) (λi hi=>by rw[e i (by omega)];exact hn i hi) (by rw[e k hk];exact hp),e k hk]
def kY {l:List Int}{n:Int}(hn:∀i,i<l.L->Gi l n i=0):Fz l n=0:=by
 unfold Fz;exact cA λi hi=>by
  have hi':i<l.L:=by simpa using hi
  simp[hi',hn i hi']
def JK (l:List Int):Nat:=l.foldl (λx h=>x ||| 2 ^ h.L) 0
def tI (l:List Int)(k:Nat)(hk:k<l.L):JK (l.LT (k+1))=JK (l.LT k) ||| 2 ^ (l[k]?.LH 0).L:=by
 rw[bN 0 l k hk];unfold JK;rw[List.foldl_append];rfl
def z8:∀x:Fin 16,∀n:Fin 4,(x.val ||| 2 ^ n.val)<16:=by decide
def rj (l:List Int)(h:∀x∈l,0<=x/\x<4):JK l<16:=by
 have key:∀(l:List Int) (x:Nat),(∀y∈l,0<=y/\y<4)->x<16->l.foldl (λx h=>x ||| 2 ^ h.L) x<16:=by
  intro l
  induction l with
  |nil=>intro x _ hx;exact hx
  |cons a l ih =>
   intro x h hx;have ha:=h a Cg;exact ih _ (λy hy=>h y (Cp _ hy)) (z8 ⟨x,hx⟩ ⟨a.L,by omega⟩)
 exact key l 0 h (by decide)
open Go.Proofs
open Go.RowKit
def DF (a:cw)(w:I)(hc:w.S a=Y (.int .i32 0))(hz:w.O a=M) :
  cF D7 89 #[.S (Y a)] w λe w'=>e=.L (.tuple #[])/\w'=w.LH a (.int .i32 1):=by
 have a6:=ea (P:=D7) Sq.func148 (by kernel_rfl) (by kernel_rfl) (by kernel_rfl) .i32 (by kernel_rfl) (x:=0) (y:=1) hc hz;go_enter Sq.func89,DO;simp only[casBody];go_wp2;refine dr (results_none rfl _ _ _) rfl ?_;exact⟨rfl,rfl⟩
def DE (a:cw)(u:FrameMode)(w:I)(hc:w.S a=Y (.int .i32 1))(hz:w.O a=M) :
  CallsD D7 90 #[.S (Y a)] u w λe u' w'=>u'=u/\(e=.L (.tuple #[])/\w'=w.LH a (.int .i32 0)):=by
 have a6:=ea (P:=D7) Sq.func148 (by kernel_rfl) (by kernel_rfl) (by kernel_rfl) .i32 (by kernel_rfl) (x:=1) (y:=0) hc hz;go_enter_d Sq.func90,DM;simp only[casBody];go_wp2;refine dr (results_none rfl _ _ _) rfl ?_;exact⟨rfl,rfl⟩
open Go.EB Go.Co Go.Conc
section
variable {p:Program} {BB:bn->Bool} {Q:bo->I->Prop} {b:cU} {a:Act} {todo:List n9} {cs:List cU} {w:I} {dn:Nat}
def az (hQ:∀g w W,EE w W->Q g w->Q g W)(hf:BB b.fn=bb)(hg:bR p todo=bb)(h:∀τ d,(mm p bb (G (b.at a todo) cs) (on w τ d)).goes (λg' w' _=>g'.callers≠[]/\∃W,EE W w'/\E5 p BB Q dn g' W)) :
  E5 p BB Q dn (G (b.at a todo) cs) w:=by
 refine E5.step ⟨hf,ji hg⟩ λτ d=>?_;have:=h τ d;cases hs:mm p bb (G (b.at a todo) cs) (on w τ d) with
 |go g' w' es =>
  rw[hs] at this;obtain⟨h1,W,h2,h3⟩:=this;exact⟨g',w',es,rfl,h1,h3.same hQ h2⟩
 |_=>rw[hs] at this;exact this.S
def dY (hQ:∀g w W,EE w W->Q g w->Q g W)(hf:BB b.fn=bb)(hg:bR p todo=bb)(h:∀τ d,(mm p bb (G { b.at a todo with mode:=.returning } cs) (on w τ d)).goes (λg' w' _=>g'.callers≠[]/\∃W,EE W w'/\E5 p BB Q dn g' W)) :
  E5 p BB Q dn (G { b.at a todo with mode:=.returning } cs) w:=by
 refine E5.step ⟨hf,λo ho=>ji (b:=b) (a:=a) hg o ho⟩ λτ d=>?_;have:=h τ d;cases hs:mm p bb (G { b.at a todo with mode:=.returning } cs) (on w τ d) with
 |go g' w' es =>
  rw[hs] at this;obtain⟨h1,W,h2,h3⟩:=this;exact⟨g',w',es,rfl,h1,h3.same hQ h2⟩
 |_=>rw[hs] at this;exact this.S
def ge {g':bo}(hQ:∀g w W,EE w W->Q g w->Q g W)(hf:BB b.fn=bb)(zW:g'.callers≠[])(hg:bR p todo=bb)(hs:∀w,mm p bb (G (b.at a todo) cs) w=.go g' w)(h:E5 p BB Q dn g' w):E5 p BB Q dn (G (b.at a todo) cs) w :=
 az hQ hf hg λτ d=>by rw[hs];simp only[O];exact⟨zW,w,Dt,h⟩
def au {k:List n9}{x y:q8}(hQ:∀g w W,EE w W->Q g w->Q g W)(hf:BB b.fn=bb)(zW:cs≠[])(h:E5 p BB Q dn (G (b.at a (.code x::.code y::k)) cs) w)(hg:bR p (.code (.seq x y)::k)=true:=by kernel_rfl):E5 p BB Q dn (G (b.at a (.code (.seq x y)::k)) cs) w :=
 ge hQ hf zW hg (λ_=>cf) h
def aB {k:List n9}{ops:Array oh}(hQ:∀g w W,EE w W->Q g w->Q g W)(hf:BB b.fn=bb)(zW:cs≠[])(h:E5 p BB Q dn (G (b.at a k) cs) w)(hg:bR p (.inRegion ops []::k)=true:=by kernel_rfl):E5 p BB Q dn (G (b.at a (.inRegion ops []::k)) cs) w :=
 ge hQ hf zW hg (λ_=>bh) h
def gE {k:List n9}(hQ:∀g w W,EE w W->Q g w->Q g W)(hf:BB b.fn=bb)(zW:cs≠[])(h:E5 p BB Q dn (G (b.at a k) cs) w)(hg:bR p (.code .skip::k)=true:=by kernel_rfl):E5 p BB Q dn (G (b.at a (.code .skip::k)) cs) w :=
 ge hQ hf zW hg (λ_=>om) h
def aC {k:List n9}{i:Nat}{ops:Array oh}(hQ:∀g w W,EE w W->Q g w->Q g W)(hf:BB b.fn=bb)(zW:cs≠[])(h:E5 p BB Q dn (G (b.at a (.inRegion ops (ak ops.size)::k)) cs) w)(hg:bR p (.code (.L i ops M)::k)=true:=by kernel_rfl):E5 p BB Q dn (G (b.at a (.code (.L i ops M)::k)) cs) w :=
 ge hQ hf zW hg (λ_=>bs) h
def mK {k:List n9}{c:Operand}{x y:q8}(hQ:∀g w W,EE w W->Q g w->Q g W)(hf:BB b.fn=bb)(zW:cs≠[])(h:E5 p BB Q dn (G (b.at a (.code x::k)) cs) w)(hc:a.eval c=.bool true:=by rfl)(hg:bR p (.code (.cond c x y)::k)=true:=by kernel_rfl):E5 p BB Q dn (G (b.at a (.code (.cond c x y)::k)) cs) w :=
 ge hQ hf zW hg (λ_=>eo hc) h
def jO {k:List n9}{c:Operand}{x y:q8}(hQ:∀g w W,EE w W->Q g w->Q g W)(hf:BB b.fn=bb)(zW:cs≠[])(h:E5 p BB Q dn (G (b.at a (.code y::k)) cs) w)(hc:a.eval c=.bool false:=by rfl)(hg:bR p (.code (.cond c x y)::k)=true:=by kernel_rfl):E5 p BB Q dn (G (b.at a (.code (.cond c x y)::k)) cs) w :=
 ge hQ hf zW hg (λ_=>eo hc) h
def ag {k:List n9}{ops:Array oh}{i:Nat}{rest:List Nat}{o:oh}(hQ:∀g w W,EE w W->Q g w->Q g W)(hf:BB b.fn=bb)(zW:cs≠[])(ho:ops[i]?=Y o)(hw:Region.wanted o (yielded ops a.tmps)=bb)
  (h:∀ {τ:Tape} {d:Nat} (K:Act->I->Prop),(∀a' W,E5 p BB Q dn (G (b.at a' (.inRegion ops rest::k)) cs) W->∀w',EE W w'->K a' w')->(∀x,(on w τ d).S x=w.S x)->(on w τ d).L.size=w.L.size->(∀x,(on w τ d).O x=w.O x)->uponK o a K ((eG a.eval o).run p (on w τ d)))
  (hk:b.kind≠.early:=by first|assumption|decide) (hg:bR p (.inRegion ops (i::rest)::k)=true:=by kernel_rfl):E5 p BB Q dn (G (b.at a (.inRegion ops (i::rest)::k)) cs) w :=
 az hQ hf hg λτ d=>V ho hw hk λK hK=>h K (λ_ W hT w' hs=>hK _ w' ⟨zW,W,hs,hT⟩) (λ_=>rfl) rfl λ_=>rfl
def oX {f:bn}{fn:Func}{c:q8}(args:Array cq)(k:CallKind)(hf:p.L[f]?=Y fn)(hb:fn.body=Y c) :
  ed p f args k=({ base f with kind:=k }:cU).at { tmps:=args++b9 (fn.ntmps-args.size) undef,defers:=[] } [.code c]:=by
 simp[ed,Frame.at,hf,hb,base]
def cM (hQ:∀g w W,EE w W->Q g w->Q g W){ops:Array oh}{i:Nat}{rest:List Nat}{k:List n9}{o:oh}{es:Array Event}{v:cq}(hf:BB b.fn=bb)(zW:cs≠[])(ho:ops[i]?=Y o)(hw:Region.wanted o (yielded ops a.tmps)=bb)(hk:b.kind≠.early)(hs:FP p a w o es v)
  {d':Nat} (hd:deafBehind dn es=d') (h:E5 p BB Q d' (G (b.at (a.put o.L v) (.inRegion ops rest::k)) cs) w):E5 p BB Q dn (G (b.at a (.inRegion ops (i::rest)::k)) cs) w :=
 .spec hf zW ho hw hk hs λτ n=>hd▸h.same hQ Dt
def EA (c:cU)(cs:List cU):(c::cs)≠[]:=by simp
def ab (W:I)(τ:Tape)(d:Nat):(on W τ d).L.size=W.L.size:=rfl
def six {args:Array cq}{n:Nat}{q:cw}(h:args[0]?=Y (.S (Y q)))(hn:n=6):∃t1 t2 t3 t4 t5 tl,args++b9 (n-args.size) undef=(.S (Y q)::t1::t2::t3::t4::t5::tl:List cq).LK:=by
 obtain⟨l⟩:=args;subst hn
 match l,h with
 |t0::l,h =>
  have h0:t0=.S (Y q):=by simpa using h
  subst h0
  match l with
  |[]=>exact⟨_,_,_,_,_,[],by simp[List.replicate,b9];exact⟨rfl,rfl,rfl,rfl,rfl⟩⟩
  |[t1]=>exact⟨t1,_,_,_,_,[],by simp[b9];exact⟨rfl,rfl,rfl,rfl⟩⟩
  |[t1,t2]=>exact⟨t1,t2,_,_,_,[],by simp[b9];exact⟨rfl,rfl,rfl⟩⟩
  |[t1,t2,t3]=>exact⟨t1,t2,t3,_,_,[],by simp[b9];exact⟨rfl,rfl⟩⟩
  |[t1,t2,t3,t4]=>exact⟨t1,t2,t3,t4,_,[],by simp[b9];rfl⟩
  |t1::t2::t3::t4::t5::tl=>exact⟨t1,t2,t3,t4,t5,tl,by simp[b9]⟩
end
def lz {BB:bn->Bool}(a7:BB 89=bb)(a6:BB 128=bb):Held F BB 89 0 1:=by
 intro args q k cs w hk zW hq hc hz;obtain⟨bq,oq,sq⟩:=q;have aD:sq=none:=by
  cases sq with
  |none=>rfl
  |some s=>simp[vn] at hc;split at hc<;>simp_all
 subst aD;generalize a8:(λ(g:bo) (W:I)=>EE (w.LH ⟨bq,oq,U⟩ (.int .i32 1)) W/\∃fr,g=Go.EB.Fc fr cs/\fr.fn=89/\fr.kind=k/\fr.mode=.returning/\fr.defers=[]/\fr.oper?=U)=Q;have hQ:∀g w W,EE w W->Q g w->Q g W:=by
  subst a8;rintro g w1 w2 s ⟨h1,h2⟩;exact⟨h1.trans s,h2⟩
 have aA:∀(a:Act) W,a.defers=[]->EE (w.LH ⟨bq,oq,U⟩ (.int .i32 1)) W->Q (G { (({ base 89 with kind:=k }:cU).at a []) with mode:=.returning } cs) W:=by
  subst a8;exact λa W h s=>⟨s,_,rfl,rfl,rfl,rfl,h,rfl⟩
 obtain⟨t1,t2,t3,t4,t5,tl,ht⟩:=six (n:=Tryz.f89.ntmps) hq Tryz.ntmps89;rw[oX args k er rfl,ht];change E5 F BB Q 0 (G _ cs) w;refine aC hQ a7 zW ?_;simp only[AZ,AX,Bc,Nat.reduceAdd,Bd,ak,N];refine ag hQ a7 zW rfl rfl λK hK q1 q2 q3=>?_;go_simp;refine hK _ w ?_ _ ⟨rfl,rfl,rfl⟩;refine ag hQ a7 zW rfl rfl λK hK q1 q2 q3=>?_;go_simp;refine hK _ w ?_ _ ⟨rfl,rfl,rfl⟩
 refine ag hQ a7 zW rfl rfl λK hK q1 q2 q3=>?_;go_simp;refine hK _ w ?_ _ ⟨rfl,rfl,rfl⟩;refine az hQ a7 (by kernel_rfl) λτ d=>?_;refine aJ rfl rfl hk rfl ko (by kernel_rfl) (by kernel_rfl) ⟨EA _ _,w,Dt,?_⟩;rw[vo _ ko rfl];simp only[Tryz.ntmps128,AZ,AX,Bc,Nat.reduceAdd,Nat.reduceSub,BX,BY,B8,B3,BP,BW];refine au hQ a6 (EA _ _) ?_;refine aC hQ a6 (EA _ _) ?_;simp only[AZ,AX,Bc,Nat.reduceAdd,Bd,ak,N]
 refine cM hQ a6 (EA _ _) rfl rfl (by decide) (FP.Ij .disable (by simp) rfl s5 (by kernel_rfl) (by kernel_rfl) (by kernel_rfl) (by kernel_rfl)) (d':=1) rfl ?_;refine aB hQ a6 (EA _ _) ?_
 iterate 2 refine au hQ a6 (EA _ _) ?_
 refine aC hQ a6 (EA _ _) ?_;simp only[AZ,AX,Bc,Nat.reduceAdd,Bd,ak,N];refine ag hQ a6 (EA _ _) rfl rfl λK hK q1 q2 q3=>?_;go_simp;refine hK _ w ?_ _ ⟨rfl,rfl,rfl⟩
 try simp only[ab]
 refine ag hQ a6 (EA _ _) rfl rfl λK hK q1 q2 q3=>?_;go_simp;refine hK _ w ?_ _ ⟨rfl,rfl,rfl⟩;clear hK K q1 q2 q3
 try walk_nrm
 try simp only[ab]
 refine ag hQ a6 (EA _ _) rfl rfl λK hK q1 q2 q3=>?_;go_simp;refine hK _ w ?_ _ ⟨rfl,rfl,rfl⟩;clear hK K q1 q2 q3
 try walk_nrm
 try simp only[ab]
 refine ag hQ a6 (EA _ _) rfl rfl @λτ d K hK q1 q2 q3=>?_;have aF:=ea (P:=F) cE (by kernel_rfl) (by kernel_rfl) (by kernel_rfl) .i32 (by kernel_rfl) (x:=0) (y:=1) (w:=on w τ d) hc hz;go_simp;refine hK _ (w.LH _ _) ?_ _ ⟨rfl,rfl,rfl⟩;clear hK K q1 q2 q3
 try walk_nrm
 try simp only[ab]
 have zr:∃u,(w.LH ⟨bq,oq,U⟩ (.int .i32 1)).S ⟨bq,oq,U⟩=Y u:=⟨_,bD _ _ _ hc⟩;refine aB hQ a6 (EA _ _) ?_;refine mK hQ a6 (EA _ _) ?_;refine au hQ a6 (EA _ _) ?_;refine mK hQ a6 (EA _ _) ?_;refine au hQ a6 (EA _ _) ?_;refine aC hQ a6 (EA _ _) ?_;simp only[AZ,AX,Bc,Nat.reduceAdd,Bd,ak,N];refine cM hQ a6 (EA _ _) rfl rfl (by decide) (FP.Ij .enable (by simp) rfl s9 (by kernel_rfl) (by kernel_rfl) (by kernel_rfl) (by kernel_rfl)) (d':=0) rfl ?_
 try walk_nrm
 refine aB hQ a6 (EA _ _) ?_;refine aC hQ a6 (EA _ _) ?_;simp only[AZ,AX,Bc,Nat.reduceAdd,Bd,ak,N];refine ag hQ a6 (EA _ _) rfl rfl λK hK q1 q2 q3=>?_;go_simp;refine hK _ _ ?_ _ ⟨rfl,rfl,rfl⟩;clear hK K q1 q2 q3
 try walk_nrm
 try simp only[ab]
 refine cM hQ a6 (EA _ _) rfl rfl (by decide) (FP.conv (t:=107) rfl (by kernel_rfl) (by kernel_rfl) (by kernel_rfl) rfl zr) (d':=0) rfl ?_
 try walk_nrm
 refine cM hQ a6 (EA _ _) rfl rfl (by decide) (FP.Hr .acquire (by simp) rfl Tryz.func123 (by kernel_rfl) (by kernel_rfl) (by kernel_rfl) (by kernel_rfl) (by simp[Act.eval]) zr) (d':=0) rfl ?_
 try walk_nrm
 refine aB hQ a6 (EA _ _) ?_;refine az hQ a6 (by kernel_rfl) λτ d=>?_;rw[stepG_ret'];simp only[O];refine⟨(EA _ _),_,Dt,?_⟩;refine dY hQ a6 (by kernel_rfl) λτ d=>?_;refine goes_leave0 rfl rfl ko rfl ⟨zW,_,Dt,?_⟩;refine aB hQ a7 zW ?_;refine az hQ a7 (by kernel_rfl) λτ d=>?_;rw[ln];simp only[O];refine⟨zW,_,Dt,.fin (aA _ _ rfl ⟨rfl,rfl,rfl⟩)⟩
def i3 {BB:bn->Bool}(a7:BB 90=bb)(a6:BB 129=bb):Held F BB 90 1 0:=by
 intro args q k cs w hk zW hq hc hz;obtain⟨bq,oq,sq⟩:=q;have aD:sq=none:=by
  cases sq with
  |none=>rfl
  |some s=>simp[vn] at hc;split at hc<;>simp_all
 subst aD;generalize a8:(λ(g:bo) (W:I)=>EE (w.LH ⟨bq,oq,U⟩ (.int .i32 0)) W/\∃fr,g=Go.EB.Fc fr cs/\fr.fn=90/\fr.kind=k/\fr.mode=.returning/\fr.defers=[]/\fr.oper?=U)=Q;have hQ:∀g w W,EE w W->Q g w->Q g W:=by
  subst a8;rintro g w1 w2 s ⟨h1,h2⟩;exact⟨h1.trans s,h2⟩
 have aA:∀(a:Act) W,a.defers=[]->EE (w.LH ⟨bq,oq,U⟩ (.int .i32 0)) W->Q (G { (({ base 90 with kind:=k }:cU).at a []) with mode:=.returning } cs) W:=by
  subst a8;exact λa W h s=>⟨s,_,rfl,rfl,rfl,rfl,h,rfl⟩
 clear a8;obtain⟨t1,t2,t3,t4,t5,tl,ht⟩:=six (n:=Tryz.f90.ntmps) hq Tryz.ntmps90;rw[oX args k ez rfl,ht];clear ht hq;have hkk:∀a:Act,∀t,(({ base 90 with kind:=k }:cU).at a t).kind≠.early:=λ_ _=>hk;change E5 F BB Q 0 (G _ cs) w;refine aC hQ a7 zW ?_;simp only[AZ,AX,Bc,Nat.reduceAdd,Bd,ak,N];refine ag hQ a7 zW rfl rfl λK hK q1 q2 q3=>?_;go_simp;refine hK _ w ?_ _ ⟨rfl,rfl,rfl⟩
 clear hK K q1 q2 q3
 try walk_nrm
 try simp only[ab]
 refine ag hQ a7 zW rfl rfl λK hK q1 q2 q3=>?_;go_simp;refine hK _ w ?_ _ ⟨rfl,rfl,rfl⟩;clear hK K q1 q2 q3
 try walk_nrm
 try simp only[ab]
 refine ag hQ a7 zW rfl rfl λK hK q1 q2 q3=>?_;go_simp;refine hK _ w ?_ _ ⟨rfl,rfl,rfl⟩;clear hK K q1 q2 q3
 try walk_nrm
 try simp only[ab]
 refine az hQ a7 (by kernel_rfl) λτ d=>?_;refine aJ rfl rfl hk rfl kp (by kernel_rfl) (by kernel_rfl) ⟨EA _ _,w,Dt,?_⟩
 try walk_nrm
 rw[vo _ kp rfl];simp only[Tryz.ntmps129,AZ,AX,Bc,Nat.reduceAdd,Nat.reduceSub,BX,BY,B8,B3,BP,BW];refine au hQ a6 (EA _ _) ?_;refine mK hQ a6 (EA _ _) ?_;refine au hQ a6 (EA _ _) ?_;refine aC hQ a6 (EA _ _) ?_;simp only[AZ,AX,Bc,Nat.reduceAdd,Bd,ak,N];refine ag hQ a6 (EA _ _) rfl rfl λK hK q1 q2 q3=>?_;go_simp;refine hK _ w ?_ _ ⟨rfl,rfl,rfl⟩;clear hK K q1 q2 q3
 try walk_nrm
 try simp only[ab]
 refine ag hQ a6 (EA _ _) rfl rfl λK hK q1 q2 q3=>?_;go_simp;refine hK _ w ?_ _ ⟨rfl,rfl,rfl⟩;clear hK K q1 q2 q3
 try walk_nrm
 try simp only[ab]
 refine ag hQ a6 (EA _ _) rfl rfl λK hK q1 q2 q3=>?_;go_simp;refine hK _ w ?_ _ ⟨rfl,rfl,rfl⟩;clear hK K q1 q2 q3
 try walk_nrm
 try simp only[ab]
 refine ag hQ a6 (EA _ _) rfl rfl λK hK q1 q2 q3=>?_;go_simp;refine hK _ w ?_ _ ⟨rfl,rfl,rfl⟩;clear hK K q1 q2 q3
 try walk_nrm
 try simp only[ab]
 refine aB hQ a6 (EA _ _) ?_;refine au hQ a6 (EA _ _) ?_;refine aC hQ a6 (EA _ _) ?_;simp only[AZ,AX,Bc,Nat.reduceAdd,Bd,ak,N];refine ag hQ a6 (EA _ _) rfl rfl λK hK q1 q2 q3=>?_;go_simp;refine hK _ w ?_ _ ⟨rfl,rfl,rfl⟩;clear hK K q1 q2 q3
 try walk_nrm
 try simp only[ab]
 refine cM hQ a6 (EA _ _) rfl rfl (by decide) (FP.conv (t:=107) rfl (by kernel_rfl) (by kernel_rfl) (by kernel_rfl) rfl ⟨_,hc⟩) (d':=0) rfl ?_
 try walk_nrm
 refine cM hQ a6 (EA _ _) rfl rfl (by decide) (FP.Hr .releaseMerge (by simp) rfl Tryz.func110 (by kernel_rfl) (by kernel_rfl) (by kernel_rfl) (by kernel_rfl) (by simp[Act.eval]) ⟨_,hc⟩) (d':=0) rfl ?_
 try walk_nrm
 refine aB hQ a6 (EA _ _) ?_;refine aC hQ a6 (EA _ _) ?_;simp only[AZ,AX,Bc,Nat.reduceAdd,Bd,ak,N];refine cM hQ a6 (EA _ _) rfl rfl (by decide) (FP.Ij .disable (by simp) rfl s5 (by kernel_rfl) (by kernel_rfl) (by kernel_rfl) (by kernel_rfl)) (d':=1) rfl ?_
 try walk_nrm
 refine aB hQ a6 (EA _ _) ?_;refine au hQ a6 (EA _ _) ?_;refine aC hQ a6 (EA _ _) ?_;simp only[AZ,AX,Bc,Nat.reduceAdd,Bd,ak,N];refine ag hQ a6 (EA _ _) rfl rfl λK hK q1 q2 q3=>?_;go_simp;refine hK _ w ?_ _ ⟨rfl,rfl,rfl⟩;clear hK K q1 q2 q3
 try walk_nrm
 try simp only[ab]
 refine ag hQ a6 (EA _ _) rfl rfl λK hK q1 q2 q3=>?_;go_simp;refine hK _ w ?_ _ ⟨rfl,rfl,rfl⟩;clear hK K q1 q2 q3
 try walk_nrm
 try simp only[ab]
 refine ag hQ a6 (EA _ _) rfl rfl λK hK q1 q2 q3=>?_;go_simp;refine hK _ w ?_ _ ⟨rfl,rfl,rfl⟩;clear hK K q1 q2 q3
 try walk_nrm
 try simp only[ab]
 refine ag hQ a6 (EA _ _) rfl rfl @λτ d K hK q1 q2 q3=>?_;have aF:=run_call_add (P:=F) Tryz.func150 (by kernel_rfl) (by kernel_rfl) (by kernel_rfl) .i32 (by kernel_rfl) (x:=1) (y:=-1) (s:=0) (w:=on w τ d) hc hz (by rfl);go_simp;refine hK _ (w.LH _ _) ?_ _ ⟨rfl,rfl,rfl⟩;clear hK K q1 q2 q3
 try walk_nrm
 try simp only[ab]
 refine ag hQ a6 (EA _ _) rfl rfl λK hK q1 q2 q3=>?_;go_simp;refine hK _ _ ?_ _ ⟨rfl,rfl,rfl⟩;clear hK K q1 q2 q3
 try walk_nrm
 try simp only[ab]
 refine aB hQ a6 (EA _ _) ?_
 iterate 2 refine au hQ a6 (EA _ _) ?_
 refine aC hQ a6 (EA _ _) ?_;simp only[AZ,AX,Bc,Nat.reduceAdd,Bd,ak,N];refine ag hQ a6 (EA _ _) rfl rfl λK hK q1 q2 q3=>?_;go_simp;refine hK _ _ ?_ _ ⟨rfl,rfl,rfl⟩;clear hK K q1 q2 q3
 try walk_nrm
 try simp only[ab]
 refine ag hQ a6 (EA _ _) rfl rfl λK hK q1 q2 q3=>?_;go_simp;refine hK _ _ ?_ _ ⟨rfl,rfl,rfl⟩;clear hK K q1 q2 q3
 try walk_nrm
 try simp only[ab]
 refine aB hQ a6 (EA _ _) ?_;refine jO hQ a6 (EA _ _) ?_;refine gE hQ a6 (EA _ _) ?_;refine aC hQ a6 (EA _ _) ?_;simp only[AZ,AX,Bc,Nat.reduceAdd,Bd,ak,N];refine cM hQ a6 (EA _ _) rfl rfl (by decide) (FP.Ij .enable (by simp) rfl s9 (by kernel_rfl) (by kernel_rfl) (by kernel_rfl) (by kernel_rfl)) (d':=0) rfl ?_
 try walk_nrm
 refine aB hQ a6 (EA _ _) ?_;refine az hQ a6 (by kernel_rfl) λτ d=>?_;rw[ln];simp only[O];refine⟨(EA _ _),_,Dt,?_⟩;refine dY hQ a6 (by kernel_rfl) λτ d=>?_;refine goes_leave0 rfl rfl kp rfl ⟨zW,_,Dt,?_⟩;refine aB hQ a7 zW ?_;refine az hQ a7 (by kernel_rfl) λτ d=>?_;rw[ln];simp only[O];refine⟨zW,_,Dt,.fin (aA _ _ rfl ⟨rfl,rfl,rfl⟩)⟩
def QD:List FuncId:=[27,29,24,30,31,17,81,28,20,32,48,49,50,51,52,53,54,55,44,56,57,58,59,60,45,61,62,63,64,65,66,67,68,69,70,71,82,91,92,22,84,87,88,46,89,90,93,94,95,96,97,98,99,100,101,102,107,108,109,75,40,41,80,130,131,132,133,134,135,136,137,138,139,140,141,142,72,73,74,76,148,152,153,154,155,156,157,158,159,160,161,162,163,164,103,172,173,174,175,176]
def Kn (f:bn):Bool:=QD.H f
def put (f:bn):Bool:=f==49||f==84||f==89||f==90
def QE (f:bn):Bool:=Kn f&&!put f
def Tryz.LB:Tryz.prog.info? big=none:=by kernel_rfl
def Sq.LB:D7.info? big=none:=by kernel_rfl
noncomputable def PW:EK:=⟨D7,Tryz.prog.L⟩
def mL {p:Nat->Bool}(h:QD.all p=bb):∀f,Kn f=bb->p f=true:=λf hf=>(BO.1 h) f (by simpa [Kn] using hf)
def NM (f:bn):Bool:=f==87||f==88||f==148
def kM {f:bn}(h:(f==6||JC f||f==89||f==90)=M):Tryz.prog.L[f]?=D7.L[f]?:=by
 rw[Sq.get];cases Tryz.prog.L[f]? with
 |none=>rfl
 |some fn =>
  simp only[CI] at h;simp only[B5,Oo,h.1.1.1,h.1.1.2,h.1.2,h.2,Bool.or_self,Bj,if_false]
def ue:QD.all (λf=>JV D7 Kn M f||NM f)=true:=by kernel_rfl
def OA (f:bn)(h:Kn f=bb):JV D7 Kn M f=bb\/NM f=true:=by
 have:=mL ue f h;simpa using this
def mr {fs:Array Func}{f:bn}(h:NM f=bb)(a6:fs[87]?=Y Tryz.f87/\fs[88]?=Y Tryz.f88/\fs[148]?=Y vX):LZ ⟨D7,fs⟩ f:=by
 unfold NM at h;simp only[Bq,beq_iff_eq] at h;obtain(rfl|rfl)|rfl:=h
 .exact⟨Tryz.f87,_,Sq.fn eA rfl,a6.1,by kernel_rfl,by kernel_rfl,by kernel_rfl,by kernel_rfl,.add D,by kernel_rfl⟩
 .exact⟨Tryz.f88,_,Sq.fn eC rfl,a6.2.1,by kernel_rfl,by kernel_rfl,by kernel_rfl,by kernel_rfl,.load D,by kernel_rfl⟩
 .exact⟨vX,_,Sq.fn cE rfl,a6.2.2,by kernel_rfl,by kernel_rfl,by kernel_rfl,by kernel_rfl,.FQ .i32 (by decide),by kernel_rfl⟩
def vA {fs:Array Func} {Hq:Func} (h:fs[85]?=Y Hq) (hn:Hq.name ≠ "runtime.NumGoroutine") (hb:Hq.body.isSome=bb) (f:bn) (hf:aP Kn f=bb):Jb ⟨D7,fs⟩ f:=by
 unfold aP at hf;simp only[AY,beq_iff_eq] at hf;obtain⟨rfl,_⟩:=hf;exact⟨_,Hq,_,Sq.put fu rfl,h,by show Tryz.f85.name≠_;decide,hn,rfl,hb⟩
def Ax (H:Hid):Lib (EK.of D7) Kn H M Kn 0:=oW (λf hf=>(OA f hf).imp_right λh=>mr h ⟨Sq.fn eA rfl,Sq.fn eC rfl,Sq.fn cE rfl⟩)
 (vA (Sq.put fu rfl) (by show Tryz.f85.name≠_;decide) rfl) ⟨BJ Sq.LK,Sq.LB⟩
def vY:QD.all (λf=>put f||!(f==6||JC f||f==89||f==90))=true:=by kernel_rfl
def Ay (H:Hid):Lib PW Kn H M QE 0:=by
 refine iM (λf hf=>?_) (λf hf hb=>?_) (λf hf=>?_) (vA fu (by decide) rfl) ⟨BJ Sq.LK,Sq.LB⟩
 .simp only[QE,AY,B9] at hf;obtain h|h:=OA f hf.1
  .refine .inl ⟨h,kM ?_⟩;have:=mL vY f hf.1;simpa [hf.2] using this
  .exact .inr (mr h ⟨eA,eC,cE⟩)
 .simp only[QE,hf,Cm,CE,put,Bq,beq_iff_eq] at hb;obtain((rfl|rfl)|rfl)|rfl:=hb
  .exact⟨_,_,Sq.put gg rfl,gg,rfl,by show Tryz.f49.name≠_;decide,by decide,rfl,rfl⟩
  .exact⟨_,_,Sq.put eF rfl,eF,rfl,by show Tryz.f84.name≠_;decide,by decide,rfl,rfl⟩
  .exact⟨_,_,Sq.f89,er,rfl,by show Tryz.f89.name≠_;decide,by decide,rfl,rfl⟩
  .exact⟨_,_,Sq.f90,ez,rfl,by show Tryz.f90.name≠_;decide,by decide,rfl,rfl⟩
 .simp only[QE,AY] at hf;exact hf.1
def Pt (v:cq)(w:I):(∃q,v=.S (Y q)/\(eb 109 v 1).run D7 w=.ok (.S (Y q)) w)\/Hd ((eb 109 v 1).run D7 w):=by
 by_cases h:∃q,v=.S (Y q)
 .obtain⟨q,rfl⟩:=h;refine .inl ⟨q,rfl,?_⟩;obtain⟨b,o,sp⟩:=q;go_simp
 .refine .inr ?_;have hs:Instr.sureAddr v=stuck "an address expected (no nilCheck in front?)":=by
   cases v with
   |pointer o=>cases o with
    |none=>rfl
    |some q=>exact AS ⟨q,rfl⟩ h
   |_=>rfl
  unfold eb;rw[hs];go_simp;simp[Hd,stuck];exact trivial
def KE (f:bn)(fn:Func)(x y:Int)(hf:D7.L[f]?=Y fn)(ht:fn.body=Y (casBody x y))(hn:3<=fn.ntmps)(hr:fn.results=#[]):∃r o1 o2 s,LX D7 f x y fn r o1 o2 s:=by
 refine⟨_,_,_,_,hf,ht,hn,hr,⟨rfl,rfl,rfl,rfl⟩,λa w=>?_,λa q w h2 h3 h4=>?_⟩
 .have e:∀o:oh,o.op=.fieldAddr 109 (.tmp 0) 1->eG a.eval o=(do let v<-eb 109 (a.eval (.tmp 0)) 1;pure (.value v)):=λo h=>by unfold eG;rw[h]
  obtain⟨q,h1,h2⟩|h:=Pt (a.eval (.tmp 0)) w
  .refine .inl ⟨q,h1,?_⟩;rw[e _ rfl];simp[h2,Result.andThen]
  .refine .inr ?_;rw[e _ rfl];revert h;simp only[Sem.run_bind];generalize (eb 109 (a.eval (.tmp 0)) 1).run D7 w=r;intro h;cases r with
   |ok _ _=>exact h.S
   |halt _ _=>exact h
 .have e : ∀ o : oh, o.op = .call { callee := .value (.func 148), args := #[.tmp 2, .const (.int .i32 x), .const (.int .i32 y)], argTypes := #[209, 21, 21] } -> eG a.eval o = callFunc 148 #[.S (Y q), .int .i32 x, .int .i32 y] := fun o h => by
   unfold eG;rw[h];simp[Act.eval,go_sem] at h2 ⊢;rw[h2]
  rw[e _ rfl];rcases Ps (Sq.fn cE rfl) (by kernel_rfl) (by kernel_rfl) (by kernel_rfl) (by kernel_rfl) (x:=x) (y:=y) h3 h4 with⟨z,z1,z2⟩|h
  .refine .inl ⟨z,z1,z2,λhz=>?_,λhz=>?_⟩
   .subst hz;exact ea (P:=D7) (Sq.fn cE rfl) (by kernel_rfl) (by kernel_rfl) (by kernel_rfl) .i32 (by kernel_rfl) z1 z2
   .exact run_call_cas_miss (P:=D7) (Sq.fn cE rfl) (by kernel_rfl) (by kernel_rfl) (by kernel_rfl) .i32 (by kernel_rfl) z1 z2 hz
  .exact .inr h
structure Nl (BB:bn->Bool):Prop where
 sub:∀f,Kn f=bb->BB f=bb
 P8:BB 128=bb
 P9:BB 129=bb
def oY {BB:bn->Bool}(hL:Nl BB){f:bn}(h:f=89\/f=90):LY PW BB f:=by
 obtain rfl|rfl:=h
 .obtain⟨r,o1,o2,s,hp⟩:=KE 89 DN 0 1 Sq.f89 rfl (by rw[DO];decide) rfl;exact⟨0,1,_,r,o1,o2,s,Tryz.f89,hp,lz (hL.sub 89 (by decide)) hL.P8,er,rfl⟩
 .obtain⟨r,o1,o2,s,hp⟩:=KE 90 DK 1 0 Sq.f90 rfl (by rw[DM];decide) rfl;exact⟨1,0,_,r,o1,o2,s,Tryz.f90,hp,i3 (hL.sub 90 (by decide)) hL.P9,ez,rfl⟩
def yp {BB:bn->Bool}{H:Hid}(hL:Nl BB)(hn:H.bl=false:=by rfl):Ja PW Kn QE BB H 0:=by
 refine⟨Ax _,Ay _,λf hf hb=>?_,hL.sub,hn⟩;obtain hf|hf:=hf
 .simp only[QE,hf,Cm,CE,put,Bq,beq_iff_eq] at hb;obtain((rfl|rfl)|rfl)|rfl:=hb
  .exact .inl ⟨_,_,Sq.put gg rfl,rfl⟩
  .exact .inl ⟨_,_,Sq.put eF rfl,rfl⟩
  .exact .inr (oY hL (.inl rfl))
  .exact .inr (oY hL (.inr rfl))
 .unfold aP at hf;simp only[AY,beq_iff_eq] at hf;obtain⟨rfl,_⟩:=hf;exact .inl ⟨_,_,Sq.put fu rfl,rfl⟩
def aG:q8->q8
 |.seq a _=>a
 |c=>c
def af:q8->q8
 |.seq _ b=>b
 |c=>c
def Jv:q8->q8
 |.LE _ b=>b
 |.loop b=>b
 |c=>c
def GD:q8->Array oh
 |.L _ o _=>o
 |_=>#[]
noncomputable def eB:Code:=Tryz.f49.body.LH .skip
noncomputable def eL:Code:=Jv (Jv (af (aG (af (af eB)))))
noncomputable def eI:Code:=Jv (aG (af (af eL)))
noncomputable def o0:Array Oper:=GD (aG eB)
noncomputable def o1:Array Oper:=GD (aG (af eB))
noncomputable def o2:Array Oper:=GD (aG (aG (af (af eB))))
noncomputable def o3:Array Oper:=GD (aG (Jv (Jv (af (aG (af (af eB)))))))
noncomputable def o4:Array Oper:=GD (aG (Jv (aG (af (af (Jv (Jv (af (aG (af (af eB)))))))))))
noncomputable def o5:Array Oper:=GD (aG (af (Jv (aG (af (af (Jv (Jv (af (aG (af (af eB))))))))))))
noncomputable def o6:Array Oper:=GD (aG (aG (af (af (Jv (aG (af (af (Jv (Jv (af (aG (af (af eB))))))))))))))
noncomputable def o7:Array Oper:=GD (aG (af (af (af (Jv (aG (af (af (Jv (Jv (af (aG (af (af eB))))))))))))))
noncomputable def o8:Array Oper:=GD (af (af (af (af (Jv (aG (af (af (Jv (Jv (af (aG (af (af eB))))))))))))))
noncomputable def o9:Array Oper:=GD (af (af (af (Jv (Jv (af (aG (af (af eB)))))))))
noncomputable def Kv:Array Oper:=GD (af (af (af eB)))
def Aa:Tryz.f49.body=Y (.seq (.L 0 o0 M) (.seq (.L 1 o1 M) (.seq (.seq (.L 2 o2 M) (.LE 0 (.loop eL))) (.L 10 Kv M)))):=rfl
def Ab:eL=.seq (.L 3 o3 M) (.seq (.cond (.tmp 14) .skip (.exit 0)) (.seq (.LE 1 eI) (.L 9 o9 M))):=rfl
def Ac:eI=.seq (.L 4 o4 M) (.seq (.L 5 o5 M) (.seq (.seq (.L 6 o6 M) (.cond (.tmp 22) (.exit 1) .skip)) (.seq (.L 7 o7 M) (.L 8 o8 M)))):=rfl
def mM {m:Bool}{b:cU}{a:Act}{k:List n9}{cs:List cU}{w:I}:mm F m (G (b.at a (.code eL::k)) cs) w=.go (G (b.at a (.code (.L 3 o3 M)::.code (.seq (.cond (.tmp 14) .skip (.exit 0)) (.seq (.LE 1 eI) (.L 9 o9 M)))::k)) cs) w #[]:=by
 rw[Ab];exact cf
def uf {m:Bool}{b:cU}{a:Act}{k:List n9}{cs:List cU}{w:I}:mm F m (G (b.at a (.code eI::k)) cs) w=.go (G (b.at a (.code (.L 4 o4 M)::.code (.seq (.L 5 o5 M) (.seq (.seq (.L 6 o6 M) (.cond (.tmp 22) (.exit 1) .skip)) (.seq (.L 7 o7 M) (.L 8 o8 M))))::k)) cs) w #[]:=by
 rw[Ac];exact cf
def vZ (w:I)(o:Obj)(a:cw):(w.LK o).S a=if a.LE=w.L.size then(match o with|.cells c _ _=>if a.spot.isSome then U else c[a.off]?|_=>U) else w.S a:=by
 show(match(w.L.LE o)[a.LE]? with|some (.cells c _ _)=>if a.spot.isSome then U else c[a.off]?|_=>U)=_;rw[Cy];by_cases e:a.LE=w.L.size
 .rw[AP e,AP e];cases o<;>rfl
 .rw[AN e,AN e];rfl
def aH (w:I)(o:Obj)(b:Nat):(w.LK o).L[b]?=if b=w.L.size then Y o else w.L[b]?:=Cy ..
def OB (c:cU)(cs:List cU):(c::cs)≠[]:=by simp
def rL (w:I)(τ:Tape)(d:Nat)(t:vN)(z0 z1 z2 z3 z4 y0 y1 y2 y3 y4:cq) :
  EE (w.LK (ek #[y0,y1,y2,y3,y4] t)) ((((((on (w.LK (ek #[z0,z1,z2,z3,z4] t)) τ d).LH ⟨w.L.size,0,U⟩ y0).LH ⟨w.L.size,1,U⟩ y1).LH ⟨w.L.size,2,U⟩ y2).LH ⟨w.L.size,3,U⟩ y3).LH ⟨w.L.size,4,U⟩ y4):=by
 refine⟨?_,rfl,rfl⟩;apply Array.ext_getElem?;intro b;simp only[EW];have e0:(on (w.LK (ek #[z0,z1,z2,z3,z4] t)) τ d).L[b]?=if b=w.L.size then Y (ek #[z0,z1,z2,z3,z4] t) else w.L[b]?:=aH w _ b
 rw[e0,aH];by_cases e:b=w.L.size
 .simp only[AP e];rfl
 .simp only[AN e]
def aM (w:I)(o:Obj):(w.LK o).L.size=w.L.size+1:=Array.size_push _
def aE (W:I)(τ:Tape)(d:Nat)(a:cw):(on W τ d).S a=W.S a:=rfl
def am (W:I)(τ:Tape)(d:Nat):(on W τ d).L.size=W.L.size:=rfl
def ar (W:I)(τ:Tape)(d:Nat)(a:cw):(on W τ d).O a=W.O a:=rfl
def we {BB:bn->Bool}(hB:BB 49=bb){Q:bo->I->Prop}(hQ:∀g w W,EE w W->Q g w->Q g W){cb:Nat}{f:Fn}{fx fc:Array cq}{cs:List cU}(zW:cs≠[]){w:I}
  (h:Ep F (Fp F BB) Q (G ((base 49).at ⟨#[.S (Y ⟨cb,0,U⟩),.func f fx fc,.S (Y ⟨w.L.size,0,U⟩),.S (Y ⟨w.L.size+1,0,U⟩),undef,undef,undef,undef,undef,undef,undef,undef,undef,undef,undef,undef,undef,undef,undef,undef,undef,undef,undef,undef,undef,undef,undef],[]⟩ [.inRegion o1 [0],.code (.seq (.seq (.L 2 o2 M) (.LE 0 (.loop eL))) (.L 10 Kv M))]) cs) ((w.LK (ek #[.S (Y ⟨cb,0,U⟩)] 75)).LK (ek #[.func f fx fc] 99))) :
  Ep F (Fp F BB) Q (G (ed F 49 #[.S (Y ⟨cb,0,U⟩),.func f fx fc] .L) cs) w:=by
 rw[vo _ gg Aa];simp only[Tryz.ntmps49,AZ,AX,Bc,Nat.reduceAdd,Nat.reduceSub,BX,BY,B8,B3,BP,BW];refine Ep.LH hQ hB (by kernel_rfl) λτ d=>?_;rw[cf];simp only[O];refine⟨zW,w,Dt,?_⟩;refine Ep.LH hQ hB (by kernel_rfl) λτ d=>?_;rw[bs];simp only[O,o0,eB,df,Bf,GD,aG,af,Jv,AZ,AX,Bc,Nat.reduceAdd,Bd,ak,N];refine⟨zW,w,Dt,?_⟩;refine Ep.LH hQ hB (by kernel_rfl) λτ d=>?_
 refine V rfl rfl (by decide) (λK hK=>?_);have q1:=aE;have q2:=am;have q3:=ar;go_simp;refine hK _ _ ⟨zW,w.LK _,⟨rfl,rfl,rfl⟩,?_⟩;refine Ep.LH hQ hB (by kernel_rfl) λτ d=>?_;refine V rfl rfl (by decide) (λK hK=>?_);go_simp;refine hK _ _ ⟨zW,(w.LK _).LK _,⟨rfl,rfl,rfl⟩,?_⟩;refine Ep.LH hQ hB (by kernel_rfl) λτ d=>?_;rw[bh];simp only[O];refine⟨zW,_,Dt,?_⟩
 refine Ep.LH hQ hB (by kernel_rfl) λτ d=>?_;rw[cf];simp only[O];refine⟨zW,_,Dt,?_⟩;refine Ep.LH hQ hB (by kernel_rfl) λτ d=>?_;rw[bs];have s1:o1.size=1:=rfl;simp only[O,s1,ak,N];refine⟨zW,_,Dt,?_⟩;exact h
def qa {m:Bool}{a:Act}{k:List n9}{cs:List cU}{W:I} :
  mm F m (G ((base 49).at a (.inRegion o1 [0]::k)) cs) W=.go (G ((base 49).at (a.put (Y 4) (.S (Y ⟨W.L.size,0,U⟩))) (.inRegion o1 []::k)) cs) (W.LK (ek #[.int .u64 0,.int .u32 0] 148)) #[]:=by
 obtain⟨o,h1,h2,h3,h4⟩:∃o,o1[0]?=Y o/\o.op=.LK 148/\o.L=Y 4/\o.guard=none:=⟨_,rfl,rfl,rfl,rfl⟩;have hr:(eG a.eval o).run F W=.ok (.value (.S (Y ⟨W.L.size,0,U⟩))) (W.LK (ek #[.int .u64 0,.int .u32 0] 148)):=by
  unfold eG;rw[h2];go_simp
 have he:(eG a.eval o).events F W #[]=#[]:=by
  unfold eG;rw[h2];simp[go_sem]
 rw[stepG_value h1 (by unfold Region.wanted;rw[h4]) (by decide) hr,h3];have h5:listed F (base 49).fn a o W=#[]:=by unfold listed;rw[he];exact seen_none _ _
 rw[h5]
def wj {BB:bn->Bool}(hB:BB 49=bb){Q:bo->I->Prop}(hQ:∀g w W,EE w W->Q g w->Q g W){cb sb n c b2 b3 b4:Nat}{p0 p1:cq}{cs:List cU}(zW:cs≠[]){w:I}{v0:cq}
  (g1:w.S ⟨b2,0,U⟩=Y (.S (Y ⟨cb,0,U⟩))) (g2:w.S ⟨cb,2,U⟩=Y (.slice (Y ⟨sb,0,U⟩) n c)) (g3:w.S ⟨cb,0,U⟩=Y v0)
  (h:Ep F (Fp F BB) Q (G ((base 49).at ⟨#[p0,p1,.S (Y ⟨b2,0,U⟩),.S (Y ⟨b3,0,U⟩),.S (Y ⟨b4,0,U⟩),undef,undef,undef,.S (Y ⟨cb,0,U⟩),.S (Y ⟨cb,0,U⟩),.S (Y ⟨cb,2,U⟩),.slice (Y ⟨sb,0,U⟩) n c,E D n,E D 0,undef,undef,undef,undef,undef,undef,undef,undef,undef,undef,undef,undef,undef],[]⟩ [.code eL,.inLoop eL,.inBlock 0,.code (.L 10 Kv M)]) cs) w) :
  Ep F (Fp F BB) Q (G ((base 49).at ⟨#[p0,p1,.S (Y ⟨b2,0,U⟩),.S (Y ⟨b3,0,U⟩),.S (Y ⟨b4,0,U⟩),undef,undef,undef,undef,undef,undef,undef,undef,undef,undef,undef,undef,undef,undef,undef,undef,undef,undef,undef,undef,undef,undef],[]⟩ [.inRegion o1 [],.code (.seq (.seq (.L 2 o2 M) (.LE 0 (.loop eL))) (.L 10 Kv M))]) cs) w:=by
 refine Ep.LH hQ hB (by kernel_rfl) λτ d=>?_;rw[bh];simp only[O];refine⟨zW,w,Dt,?_⟩;refine Ep.LH hQ hB (by kernel_rfl) λτ d=>?_;rw[cf];simp only[O];refine⟨zW,w,Dt,?_⟩;refine Ep.LH hQ hB (by kernel_rfl) λτ d=>?_;rw[cf];simp only[O];refine⟨zW,w,Dt,?_⟩;refine Ep.LH hQ hB (by kernel_rfl) λτ d=>?_;rw[bs];simp only[O,o2,eB,df,Bf,GD,aG,af,Jv,AZ,AX,Bc,Nat.reduceAdd,Bd,ak,N]
 refine⟨zW,w,Dt,?_⟩;refine Ep.LH hQ hB (by kernel_rfl) λτ d=>?_;refine V rfl rfl (by decide) (λK hK=>?_);have q1:=aE;have q2:=am;have q3:=ar;go_simp;refine hK _ _ ⟨zW,w,⟨rfl,rfl,rfl⟩,?_⟩;refine Ep.LH hQ hB (by kernel_rfl) λτ d=>?_;refine V rfl rfl (by decide) (λK hK=>?_);have q1:=aE;have q2:=am;have q3:=ar;go_simp;refine hK _ _ ⟨zW,w,⟨rfl,rfl,rfl⟩,?_⟩;refine Ep.LH hQ hB (by kernel_rfl) λτ d=>?_
 refine V rfl rfl (by decide) (λK hK=>?_);have q1:=aE;have q2:=am;have q3:=ar;go_simp;refine hK _ _ ⟨zW,w,⟨rfl,rfl,rfl⟩,?_⟩;refine Ep.LH hQ hB (by kernel_rfl) λτ d=>?_;refine V rfl rfl (by decide) (λK hK=>?_);have q1:=aE;have q2:=am;have q3:=ar;go_simp;refine hK _ _ ⟨zW,w,⟨rfl,rfl,rfl⟩,?_⟩;refine Ep.LH hQ hB (by kernel_rfl) λτ d=>?_;refine V rfl rfl (by decide) (λK hK=>?_)
 have q1:=aE;have q2:=am;have q3:=ar;go_simp;refine hK _ _ ⟨zW,w,⟨rfl,rfl,rfl⟩,?_⟩;refine Ep.LH hQ hB (by kernel_rfl) λτ d=>?_;refine V rfl rfl (by decide) (λK hK=>?_);go_simp;refine hK _ _ ⟨zW,w,⟨rfl,rfl,rfl⟩,?_⟩;refine Ep.LH hQ hB (by kernel_rfl) λτ d=>?_;rw[bh];simp only[O];refine⟨zW,w,Dt,?_⟩;refine Ep.LH hQ hB (by kernel_rfl) λτ d=>?_;rw[stepG_block];simp only[O]
 refine⟨zW,w,Dt,?_⟩;refine Ep.LH hQ hB (by kernel_rfl) λτ d=>?_;rw[stepG_loop];simp only[O];refine⟨zW,w,Dt,?_⟩;exact h
def yq {BB:bn->Bool}(hB:BB 49=bb){Q:bo->I->Prop}(hQ:∀g w W,EE w W->Q g w->Q g W){p0 p1 v5 v6 v7 v8 v9 v10 v14 v15 v16 v17 v18 v19 v20 v21 v22 v23 v24 v25 v26:cq}{b2 b3 b4 cb sb n c i:Nat}{cs:List cU}(zW:cs≠[]){w:I}{x:Int}(hi:i<n)(g1:w.S ⟨b2,0,U⟩=Y (.S (Y ⟨cb,0,U⟩)))(g2:w.S ⟨sb,i,U⟩=Y (.int .u8 x))(l2:b2<w.L.size)
  (h:Ep F (Fp F BB) Q (G (ed F 82 #[.S (Y ⟨cb,0,U⟩),.S (Y ⟨w.L.size,0,U⟩),E D 0] .L) (((base 49).at ⟨#[p0,p1,.S (Y ⟨b2,0,U⟩),.S (Y ⟨b3,0,U⟩),.S (Y ⟨b4,0,U⟩),v5,.int .u8 x,.S (Y ⟨w.L.size,0,U⟩),v8,v9,v10,.slice (Y ⟨sb,0,U⟩) n c,E D n,E D i,.bool bb,.S (Y ⟨sb,i,U⟩),.int .u8 x,.int .u8 x,.agg #[.int .u8 x,.int .u8 0,.int .u8 0,.int .u8 0,.int .u8 0],.S (Y ⟨cb,0,U⟩),v20,v21,v22,v23,v24,v25,v26],[]⟩ [.inRegion o6 [1,2,3],.code (.cond (.tmp 22) (.exit 1) .skip),.code (.seq (.L 7 o7 M) (.L 8 o8 M)),.inBlock 1,.code (.L 9 o9 M),.inLoop eL,.inBlock 0,.code (.L 10 Kv M)])::cs)) (w.LK (ek #[.int .u8 x,.int .u8 0,.int .u8 0,.int .u8 0,.int .u8 0] 97))) :
  Ep F (Fp F BB) Q (G ((base 49).at ⟨#[p0,p1,.S (Y ⟨b2,0,U⟩),.S (Y ⟨b3,0,U⟩),.S (Y ⟨b4,0,U⟩),v5,v6,v7,v8,v9,v10,.slice (Y ⟨sb,0,U⟩) n c,E D n,E D i,v14,v15,v16,v17,v18,v19,v20,v21,v22,v23,v24,v25,v26],[]⟩ [.code eL,.inLoop eL,.inBlock 0,.code (.L 10 Kv M)]) cs) w:=by
 refine Ep.LH hQ hB (by kernel_rfl) λτ d=>?_;rw[mM];simp only[O];refine⟨zW,w,Dt,?_⟩;refine Ep.LH hQ hB (by kernel_rfl) λτ d=>?_;rw[bs];simp only[O,o3,eB,df,Bf,GD,aG,af,Jv,AZ,AX,Bc,Nat.reduceAdd,Bd,ak,N];refine⟨zW,w,Dt,?_⟩;refine Ep.LH hQ hB (by kernel_rfl) λτ d=>?_;refine V rfl rfl (by decide) (λK hK=>?_);have q1:=aE;have q2:=am
 have q3:=ar;go_simp;clear q1 q2 q3;refine hK _ _ ⟨zW,w,⟨rfl,rfl,rfl⟩,?_⟩;clear hK K
 try walk_nrm
 try simp only[am]
 refine Ep.LH hQ hB (by kernel_rfl) λτ d=>?_;rw[bh];simp only[O];refine⟨zW,w,Dt,?_⟩;refine Ep.LH hQ hB (by kernel_rfl) λτ d=>?_;rw[cf];simp only[O];refine⟨zW,w,Dt,?_⟩;refine Ep.LH hQ hB (by kernel_rfl) λτ d=>?_;rw[eo (t:=bb) rfl];simp only[O,if_true,if_false,Bj,↓reduceIte];refine⟨zW,w,Dt,?_⟩;refine Ep.LH hQ hB (by kernel_rfl) λτ d=>?_;rw[om]
 simp only[O];refine⟨zW,w,Dt,?_⟩;refine Ep.LH hQ hB (by kernel_rfl) λτ d=>?_;rw[cf];simp only[O];refine⟨zW,w,Dt,?_⟩;refine Ep.LH hQ hB (by kernel_rfl) λτ d=>?_;rw[stepG_block];simp only[O];refine⟨zW,w,Dt,?_⟩;refine Ep.LH hQ hB (by kernel_rfl) λτ d=>?_;rw[uf];simp only[O];refine⟨zW,w,Dt,?_⟩;refine Ep.LH hQ hB (by kernel_rfl) λτ d=>?_;rw[bs];simp only[O,o4,eB,df,Bf,GD,aG,af,Jv,AZ,AX,Bc,Nat.reduceAdd,Bd,ak,N]
 refine⟨zW,w,Dt,?_⟩;have a6:((i:Nat):Int).L=i:=by omega
 refine Ep.LH hQ hB (by kernel_rfl) λτ d=>?_;refine V rfl rfl (by decide) (λK hK=>?_);have q1:=aE;have q2:=am;have q3:=ar;go_simp;clear q1 q2 q3;refine hK _ _ ⟨zW,w,⟨rfl,rfl,rfl⟩,?_⟩;clear hK K
 try walk_nrm
 try simp only[am]
 refine Ep.LH hQ hB (by kernel_rfl) λτ d=>?_;refine V rfl rfl (by decide) (λK hK=>?_);have q1:=aE;have q2:=am;have q3:=ar;go_simp;clear q1 q2 q3;refine hK _ _ ⟨zW,w,⟨rfl,rfl,rfl⟩,?_⟩;clear hK K
 try walk_nrm
 try simp only[am]
 refine Ep.LH hQ hB (by kernel_rfl) λτ d=>?_;refine V rfl rfl (by decide) (λK hK=>?_);have q1:=aE;have q2:=am;have q3:=ar;go_simp;clear q1 q2 q3;refine hK _ _ ⟨zW,w,⟨rfl,rfl,rfl⟩,?_⟩;clear hK K
 try walk_nrm
 try simp only[am]
 refine Ep.LH hQ hB (by kernel_rfl) λτ d=>?_;rw[bh];simp only[O];refine⟨zW,w,Dt,?_⟩;refine Ep.LH hQ hB (by kernel_rfl) λτ d=>?_;rw[cf];simp only[O];refine⟨zW,w,Dt,?_⟩;refine Ep.LH hQ hB (by kernel_rfl) λτ d=>?_;rw[bs];simp only[O,o5,eB,df,Bf,GD,aG,af,Jv,AZ,AX,Bc,Nat.reduceAdd,Bd,ak,N];refine⟨zW,w,Dt,?_⟩;refine Ep.LH hQ hB (by kernel_rfl) λτ d=>?_
 refine V rfl rfl (by decide) (λK hK=>?_);have q1:=aE;have q2:=am;have q3:=ar;go_simp;clear q1 q2 q3;refine hK _ _ ⟨zW,w,⟨rfl,rfl,rfl⟩,?_⟩;clear hK K
 try walk_nrm
 try simp only[am]
 refine Ep.LH hQ hB (by kernel_rfl) λτ d=>?_;refine V rfl rfl (by decide) (λK hK=>?_);have q1:=aE;have q2:=am;have q3:=ar;go_simp;clear q1 q2 q3;refine hK _ _ ⟨zW,w,⟨rfl,rfl,rfl⟩,?_⟩;clear hK K
 try walk_nrm
 try simp only[am]
 refine Ep.LH hQ hB (by kernel_rfl) λτ d=>?_;refine V rfl rfl (by decide) (λK hK=>?_);have q1:=aE;have q2:=am;have q3:=ar;go_simp;clear q1 q2 q3;refine hK _ _ ⟨zW,w.LK _,⟨rfl,rfl,rfl⟩,?_⟩;clear hK K
 try walk_nrm
 try simp only[am]
 refine Ep.LH hQ hB (by kernel_rfl) λτ d=>?_;refine V rfl rfl (by decide) (λK hK=>?_);have q1:=aE;have q2:=am;have q3:=ar;go_simp;clear q1 q2 q3;refine hK _ _ ⟨zW,_,rL w τ d _ _ _ _ _ _ _ _ _ _ _,?_⟩;clear hK K
 try walk_nrm
 generalize hW:w.LK (ek #[.int .u8 x,.int .u8 0,.int .u8 0,.int .u8 0,.int .u8 0] 97)=W at h ⊢;have g3:W.S ⟨b2,0,U⟩=Y (.S (Y ⟨cb,0,U⟩)):=by rw[<-hW,<-g1];simp only[vZ];rw[AN (by omega)]
 clear g1 g2;refine Ep.LH hQ hB (by kernel_rfl) λτ d=>?_;rw[bh];simp only[O];refine⟨zW,W,Dt,?_⟩;refine Ep.LH hQ hB (by kernel_rfl) λτ d=>?_;rw[cf];simp only[O];refine⟨zW,W,Dt,?_⟩;refine Ep.LH hQ hB (by kernel_rfl) λτ d=>?_;rw[cf];simp only[O];refine⟨zW,W,Dt,?_⟩;refine Ep.LH hQ hB (by kernel_rfl) λτ d=>?_;rw[bs];simp only[O,o6,eB,df,Bf,GD,aG,af,Jv,AZ,AX,Bc,Nat.reduceAdd,Bd,ak,N]
 refine⟨zW,W,Dt,?_⟩;refine Ep.LH hQ hB (by kernel_rfl) λτ d=>?_;refine V rfl rfl (by decide) (λK hK=>?_);have q1:=aE;have q2:=am;have q3:=ar;go_simp;clear q1 q2 q3;refine hK _ _ ⟨zW,W,⟨rfl,rfl,rfl⟩,?_⟩;clear hK K
 try walk_nrm
 try simp only[am]
 refine Ep.LH hQ hB (by kernel_rfl) λτ d=>?_;refine aJ rfl rfl (by decide) rfl Tryz.func82 (by kernel_rfl) (by kernel_rfl) ⟨OB _ _,W,Dt,?_⟩
 try walk_nrm
 exact h
def wm {BB:bn->Bool}(hB:BB 49=bb){Q:bo->I->Prop}(hQ:∀g w W,EE w W->Q g w->Q g W){p0 p1 v5 v6 v7 v8 v9 v10 v14 v15 v16 v17 v18 v19 v20 v21 v22 v23 v24 v25 v26:cq}{b2 b3 b4 cb sb n c i:Nat}{cs:List cU}(zW:cs≠[]){w:I}{k:Int}{y1 y2:cq}(hw:IntKind.i64.wrap ((i:Int)+1)=((i+1:Nat):Int))(hk:k≠0)
  (h:Ep F (Fp F BB) Q (G ((base 49).at ⟨#[p0,p1,.S (Y ⟨b2,0,U⟩),.S (Y ⟨b3,0,U⟩),.S (Y ⟨b4,0,U⟩),v5,v6,v7,v8,v9,v10,.slice (Y ⟨sb,0,U⟩) n c,E D n,E D ((i+1:Nat):Int),v14,v15,v16,v17,v18,v19,.agg #[E D k,y1,y2],E D k,.bool bb,v23,v24,E D ((i+1:Nat):Int),v26],[]⟩ [.code eL,.inLoop eL,.inBlock 0,.code (.L 10 Kv M)]) cs) w) :
  Ep F (Fp F BB) Q (G ((base 49).at ⟨#[p0,p1,.S (Y ⟨b2,0,U⟩),.S (Y ⟨b3,0,U⟩),.S (Y ⟨b4,0,U⟩),v5,v6,v7,v8,v9,v10,.slice (Y ⟨sb,0,U⟩) n c,E D n,E D i,v14,v15,v16,v17,v18,v19,.agg #[E D k,y1,y2],v21,v22,v23,v24,v25,v26],[]⟩ [.inRegion o6 [2,3],.code (.cond (.tmp 22) (.exit 1) .skip),.code (.seq (.L 7 o7 M) (.L 8 o8 M)),.inBlock 1,.code (.L 9 o9 M),.inLoop eL,.inBlock 0,.code (.L 10 Kv M)]) cs) w:=by
 simp only[o6,eB,df,Bf,GD,aG,af,Jv];refine Ep.LH hQ hB (by kernel_rfl) λτ d=>?_;refine V rfl rfl (by decide) (λK hK=>?_);have q1:=aE;have q2:=am;have q3:=ar;go_simp;clear q1 q2 q3;refine hK _ _ ⟨zW,w,⟨rfl,rfl,rfl⟩,?_⟩;clear hK K
 try walk_nrm
 try simp only[am]
 refine Ep.LH hQ hB (by kernel_rfl) λτ d=>?_;refine V rfl rfl (by decide) (λK hK=>?_);have q1:=aE;have q2:=am;have q3:=ar;go_simp;clear q1 q2 q3;refine hK _ _ ⟨zW,w,⟨rfl,rfl,rfl⟩,?_⟩;clear hK K
 try walk_nrm
 try simp only[am]
 refine Ep.LH hQ hB (by kernel_rfl) λτ d=>?_;rw[bh];simp only[O];refine⟨zW,w,Dt,?_⟩;refine Ep.LH hQ hB (by kernel_rfl) λτ d=>?_;rw[eo (t:=bb) (by simp[Act.eval,hk])];simp only[O,if_true,if_false,Bj,↓reduceIte];refine⟨zW,w,Dt,?_⟩;refine Ep.LH hQ hB (by kernel_rfl) λτ d=>?_;rw[stepG_exit rfl];simp only[O];refine⟨zW,w,Dt,?_⟩;refine Ep.LH hQ hB (by kernel_rfl) λτ d=>?_
 rw[bs];simp only[O,o9,eB,df,Bf,GD,aG,af,Jv,AZ,AX,Bc,Nat.reduceAdd,Bd,ak,N];refine⟨zW,w,Dt,?_⟩;refine Ep.LH hQ hB (by kernel_rfl) λτ d=>?_;refine V rfl rfl (by decide) (λK hK=>?_);have q1:=aE;have q2:=am;have q3:=ar;go_simp;clear q1 q2 q3;refine hK _ _ ⟨zW,w,⟨rfl,rfl,rfl⟩,?_⟩;clear hK K
 try walk_nrm
 try simp only[am]
 try rw[hw]
 refine Ep.LH hQ hB (by kernel_rfl) λτ d=>?_;refine V rfl rfl (by decide) (λK hK=>?_);have q1:=aE;have q2:=am;have q3:=ar;go_simp;clear q1 q2 q3;refine hK _ _ ⟨zW,w,⟨rfl,rfl,rfl⟩,?_⟩;clear hK K
 try walk_nrm
 try simp only[am]
 refine Ep.LH hQ hB (by kernel_rfl) λτ d=>?_;rw[bh];simp only[O];refine⟨zW,w,Dt,?_⟩;refine Ep.LH hQ hB (by kernel_rfl) λτ d=>?_;rw[stepG_inLoop];simp only[O];refine⟨zW,w,Dt,?_⟩;simpa [show(k != 0)=bb by simp[hk]] using h
def wn {BB:bn->Bool}(hB:BB 49=bb){Q:bo->I->Prop}(hQ:∀g w W,EE w W->Q g w->Q g W){p0 p1 v5 v6 v7 v8 v9 v10 v14 v15 v16 v17 v18 v19 v20 v21 v22 v23 v24 v25 v26:cq}{b2 b3 b4 cb sb n c i:Nat}{cs:List cU}(zW:cs≠[]){w:I}{y1 y2:cq}
  (h:Ep F (Fp F BB) Q (G (ed F 83 #[.S (Y ⟨b4,0,U⟩),E D 1] .L) (((base 49).at ⟨#[p0,p1,.S (Y ⟨b2,0,U⟩),.S (Y ⟨b3,0,U⟩),.S (Y ⟨b4,0,U⟩),v5,v6,v7,v8,v9,v10,.slice (Y ⟨sb,0,U⟩) n c,E D n,E D i,v14,v15,v16,v17,v18,v19,.agg #[E D 0,y1,y2],E D 0,.bool M,v23,v24,v25,v26],[]⟩ [.inRegion o7 [0],.code (.L 8 o8 M),.inBlock 1,.code (.L 9 o9 M),.inLoop eL,.inBlock 0,.code (.L 10 Kv M)])::cs)) w) :
  Ep F (Fp F BB) Q (G ((base 49).at ⟨#[p0,p1,.S (Y ⟨b2,0,U⟩),.S (Y ⟨b3,0,U⟩),.S (Y ⟨b4,0,U⟩),v5,v6,v7,v8,v9,v10,.slice (Y ⟨sb,0,U⟩) n c,E D n,E D i,v14,v15,v16,v17,v18,v19,.agg #[E D 0,y1,y2],v21,v22,v23,v24,v25,v26],[]⟩ [.inRegion o6 [2,3],.code (.cond (.tmp 22) (.exit 1) .skip),.code (.seq (.L 7 o7 M) (.L 8 o8 M)),.inBlock 1,.code (.L 9 o9 M),.inLoop eL,.inBlock 0,.code (.L 10 Kv M)]) cs) w:=by
 simp only[o6,eB,df,Bf,GD,aG,af,Jv];refine Ep.LH hQ hB (by kernel_rfl) λτ d=>?_;refine V rfl rfl (by decide) (λK hK=>?_);have q1:=aE;have q2:=am;have q3:=ar;go_simp;clear q1 q2 q3;refine hK _ _ ⟨zW,w,⟨rfl,rfl,rfl⟩,?_⟩;clear hK K
 try walk_nrm
 try simp only[am]
 refine Ep.LH hQ hB (by kernel_rfl) λτ d=>?_;refine V rfl rfl (by decide) (λK hK=>?_);have q1:=aE;have q2:=am;have q3:=ar;go_simp;clear q1 q2 q3;refine hK _ _ ⟨zW,w,⟨rfl,rfl,rfl⟩,?_⟩;clear hK K
 try walk_nrm
 try simp only[am]
 refine Ep.LH hQ hB (by kernel_rfl) λτ d=>?_;rw[bh];simp only[O];refine⟨zW,w,Dt,?_⟩;refine Ep.LH hQ hB (by kernel_rfl) λτ d=>?_;rw[eo (t:=M) rfl];simp only[O,if_true,if_false,Bj,↓reduceIte];refine⟨zW,w,Dt,?_⟩;refine Ep.LH hQ hB (by kernel_rfl) λτ d=>?_;rw[om];simp only[O];refine⟨zW,w,Dt,?_⟩;refine Ep.LH hQ hB (by kernel_rfl) λτ d=>?_;rw[cf]
 simp only[O];refine⟨zW,w,Dt,?_⟩;refine Ep.LH hQ hB (by kernel_rfl) λτ d=>?_;rw[bs];have s7:o7.size=1:=rfl;simp only[O,s7,ak,N];refine⟨zW,w,Dt,?_⟩;refine Ep.LH hQ hB (by kernel_rfl) λτ d=>?_;refine aJ rfl rfl (by decide) rfl Tryz.func83 (by kernel_rfl) (by kernel_rfl) ⟨OB _ _,w,Dt,?_⟩
 try walk_nrm
 simpa using h
def yt {BB:bn->Bool}(hB:BB 49=bb){Q:bo->I->Prop}(hQ:∀g w W,EE w W->Q g w->Q g W){p0 p1 v5 v6 v7 v8 v9 v10 v14 v15 v16 v17 v18 v19 v20 v21 v22 v23 v24 v25 v26:cq}{b2 b3 b4 cb sb n c i:Nat}{cs:List cU}(zW:cs≠[]){w:I}
  (h:Ep F (Fp F BB) Q (G ((base 49).at ⟨#[p0,p1,.S (Y ⟨b2,0,U⟩),.S (Y ⟨b3,0,U⟩),.S (Y ⟨b4,0,U⟩),v5,v6,v7,v8,v9,v10,.slice (Y ⟨sb,0,U⟩) n c,E D n,E D i,v14,v15,v16,v17,v18,v19,v20,v21,v22,v23,.func (.func 84) #[] #[.S (Y ⟨b4,0,U⟩),.S (Y ⟨b2,0,U⟩),v7,.S (Y ⟨b3,0,U⟩)],v25,v26],[]⟩ [.inRegion o8 [1],.inBlock 1,.code (.L 9 o9 M),.inLoop eL,.inBlock 0,.code (.L 10 Kv M)]) cs) w) :
  Ep F (Fp F BB) Q (G ((base 49).at ⟨#[p0,p1,.S (Y ⟨b2,0,U⟩),.S (Y ⟨b3,0,U⟩),.S (Y ⟨b4,0,U⟩),v5,v6,v7,v8,v9,v10,.slice (Y ⟨sb,0,U⟩) n c,E D n,E D i,v14,v15,v16,v17,v18,v19,v20,v21,v22,v23,v24,v25,v26],[]⟩ [.inRegion o7 [],.code (.L 8 o8 M),.inBlock 1,.code (.L 9 o9 M),.inLoop eL,.inBlock 0,.code (.L 10 Kv M)]) cs) w:=by
 refine Ep.LH hQ hB (by kernel_rfl) λτ d=>?_;rw[bh];simp only[O];refine⟨zW,w,Dt,?_⟩;refine Ep.LH hQ hB (by kernel_rfl) λτ d=>?_;rw[bs];have s8:o8.size=2:=rfl;simp only[O,s8,ak,N];refine⟨zW,w,Dt,?_⟩;simp only[o8,eB,df,Bf,GD,aG,af,Jv] at h ⊢;refine Ep.LH hQ hB (by kernel_rfl) λτ d=>?_;refine V rfl rfl (by decide) (λK hK=>?_)
 have q1:=aE;have q2:=am;have q3:=ar;go_simp;clear q1 q2 q3;refine hK _ _ ⟨zW,w,⟨rfl,rfl,rfl⟩,?_⟩;clear hK K
 try walk_nrm
 try simp only[am]
 exact h
def yu {BB:bn->Bool}(hB:BB 49=bb){Q:bo->I->Prop}(hQ:∀g w W,EE w W->Q g w->Q g W){p0 p1 v5 v6 v7 v8 v9 v10 v14 v15 v16 v17 v18 v19 v20 v21 v22 v23 v24 v25 v26:cq}{b2 b3 b4 cb sb n c i:Nat}{cs:List cU}(zW:cs≠[]){w:I}(hw:IntKind.i64.wrap ((i:Int)+1)=((i+1:Nat):Int))
  (h:Ep F (Fp F BB) Q (G ((base 49).at ⟨#[p0,p1,.S (Y ⟨b2,0,U⟩),.S (Y ⟨b3,0,U⟩),.S (Y ⟨b4,0,U⟩),v5,v6,v7,v8,v9,v10,.slice (Y ⟨sb,0,U⟩) n c,E D n,E D ((i+1:Nat):Int),v14,v15,v16,v17,v18,v19,v20,v21,v22,v23,v24,E D ((i+1:Nat):Int),v26],[]⟩ [.code eL,.inLoop eL,.inBlock 0,.code (.L 10 Kv M)]) cs) w) :
  Ep F (Fp F BB) Q (G ((base 49).at ⟨#[p0,p1,.S (Y ⟨b2,0,U⟩),.S (Y ⟨b3,0,U⟩),.S (Y ⟨b4,0,U⟩),v5,v6,v7,v8,v9,v10,.slice (Y ⟨sb,0,U⟩) n c,E D n,E D i,v14,v15,v16,v17,v18,v19,v20,v21,v22,v23,v24,v25,v26],[]⟩ [.inRegion o8 [],.inBlock 1,.code (.L 9 o9 M),.inLoop eL,.inBlock 0,.code (.L 10 Kv M)]) cs) w:=by
 refine Ep.LH hQ hB (by kernel_rfl) λτ d=>?_;rw[bh];simp only[O];refine⟨zW,w,Dt,?_⟩;refine Ep.LH hQ hB (by kernel_rfl) λτ d=>?_;rw[stepG_inBlock];simp only[O];refine⟨zW,w,Dt,?_⟩;refine Ep.LH hQ hB (by kernel_rfl) λτ d=>?_;rw[bs];simp only[O,o9,eB,df,Bf,GD,aG,af,Jv,AZ,AX,Bc,Nat.reduceAdd,Bd,ak,N];refine⟨zW,w,Dt,?_⟩;refine Ep.LH hQ hB (by kernel_rfl) λτ d=>?_
 refine V rfl rfl (by decide) (λK hK=>?_);have q1:=aE;have q2:=am;have q3:=ar;go_simp;clear q1 q2 q3;refine hK _ _ ⟨zW,w,⟨rfl,rfl,rfl⟩,?_⟩;clear hK K
 try walk_nrm
 try simp only[am]
 try rw[hw]
 refine Ep.LH hQ hB (by kernel_rfl) λτ d=>?_;refine V rfl rfl (by decide) (λK hK=>?_);have q1:=aE;have q2:=am;have q3:=ar;go_simp;clear q1 q2 q3;refine hK _ _ ⟨zW,w,⟨rfl,rfl,rfl⟩,?_⟩;clear hK K
 try walk_nrm
 try simp only[am]
 refine Ep.LH hQ hB (by kernel_rfl) λτ d=>?_;rw[bh];simp only[O];refine⟨zW,w,Dt,?_⟩;refine Ep.LH hQ hB (by kernel_rfl) λτ d=>?_;rw[stepG_inLoop];simp only[O];refine⟨zW,w,Dt,?_⟩;exact h
def yv {BB:bn->Bool}(hB:BB 49=bb){Q:bo->I->Prop}(hQ:∀g w W,EE w W->Q g w->Q g W){p0 p1 v5 v6 v7 v8 v9 v10 v14 v15 v16 v17 v18 v19 v20 v21 v22 v23 v24 v25 v26:cq}{b2 b3 b4 cb sb n c i:Nat}{cs:List cU}(zW:cs≠[]){w:I}(hi:¬i<n)
  (h:Ep F (Fp F BB) Q (G (ed F 86 #[.S (Y ⟨b4,0,U⟩)] .L) (((base 49).at ⟨#[p0,p1,.S (Y ⟨b2,0,U⟩),.S (Y ⟨b3,0,U⟩),.S (Y ⟨b4,0,U⟩),v5,v6,v7,v8,v9,v10,.slice (Y ⟨sb,0,U⟩) n c,E D n,E D i,.bool M,v15,v16,v17,v18,v19,v20,v21,v22,v23,v24,v25,v26],[]⟩ [.inRegion Kv [0]])::cs)) w) :
  Ep F (Fp F BB) Q (G ((base 49).at ⟨#[p0,p1,.S (Y ⟨b2,0,U⟩),.S (Y ⟨b3,0,U⟩),.S (Y ⟨b4,0,U⟩),v5,v6,v7,v8,v9,v10,.slice (Y ⟨sb,0,U⟩) n c,E D n,E D i,v14,v15,v16,v17,v18,v19,v20,v21,v22,v23,v24,v25,v26],[]⟩ [.code eL,.inLoop eL,.inBlock 0,.code (.L 10 Kv M)]) cs) w:=by
 refine Ep.LH hQ hB (by kernel_rfl) λτ d=>?_;rw[mM];simp only[O];refine⟨zW,w,Dt,?_⟩;refine Ep.LH hQ hB (by kernel_rfl) λτ d=>?_;rw[bs];simp only[O,o3,eB,df,Bf,GD,aG,af,Jv,AZ,AX,Bc,Nat.reduceAdd,Bd,ak,N];refine⟨zW,w,Dt,?_⟩;refine Ep.LH hQ hB (by kernel_rfl) λτ d=>?_;refine V rfl rfl (by decide) (λK hK=>?_);have q1:=aE;have q2:=am
 have q3:=ar;go_simp;clear q1 q2 q3;refine hK _ _ ⟨zW,w,⟨rfl,rfl,rfl⟩,?_⟩;clear hK K
 try walk_nrm
 try simp only[am]
 refine Ep.LH hQ hB (by kernel_rfl) λτ d=>?_;rw[bh];simp only[O];refine⟨zW,w,Dt,?_⟩;refine Ep.LH hQ hB (by kernel_rfl) λτ d=>?_;rw[cf];simp only[O];refine⟨zW,w,Dt,?_⟩;refine Ep.LH hQ hB (by kernel_rfl) λτ d=>?_;rw[eo (t:=M) rfl];simp only[O,if_true,if_false,Bj,↓reduceIte];refine⟨zW,w,Dt,?_⟩;refine Ep.LH hQ hB (by kernel_rfl) λτ d=>?_;rw[stepG_exit rfl]
 simp only[O];refine⟨zW,w,Dt,?_⟩;refine Ep.LH hQ hB (by kernel_rfl) λτ d=>?_;rw[bs];have s10:Kv.size=1:=rfl;simp only[O,s10,ak,N];refine⟨zW,w,Dt,?_⟩;refine Ep.LH hQ hB (by kernel_rfl) λτ d=>?_;refine aJ rfl rfl (by decide) rfl Tryz.func86 (by kernel_rfl) (by kernel_rfl) ⟨OB _ _,w,Dt,?_⟩
 try walk_nrm
 exact h
def yw {BB:bn->Bool}(hB:BB 49=bb){Q:bo->I->Prop}(hQ:∀g w W,EE w W->Q g w->Q g W){a:Act}(hd:a.defers=[]){cs:List cU}(zW:cs≠[]){w:I}
  (h:∀a':Act,a'.defers=[]->Q (G { (base 49).at a' [] with mode:=.returning } cs) w) :
  Ep F (Fp F BB) Q (G (((base 49).at a [.inRegion Kv [0]]).finish (.tuple #[])) cs) w:=by
 rw[eV];refine Ep.LH hQ hB (by kernel_rfl) λτ d=>?_;rw[bh];simp only[O];refine⟨zW,w,Dt,?_⟩;refine Ep.LH hQ hB (by kernel_rfl) λτ d=>?_;rw[ln];simp only[O];refine⟨zW,w,Dt,.fin ?_⟩;refine h _ ?_;cases(Kv[0]?.bind (·.L))<;>exact hd
noncomputable abbrev T8:List Item:=[.inBlock 1,.code (.L 9 o9 M),.inLoop eL,.inBlock 0,.code (.L 10 Kv M)]
noncomputable abbrev wC (p1:cq)(b2 b3 b4 cb sb n c:Nat)(i:Nat)(v5 v6 v7 v8 v9 v10 v14 v15 v16 v17 v18 v19 v20 v21 v22 v23 v24 v25 v26:cq):Frame :=
 (base 49).at ⟨#[.S (Y ⟨cb,0,U⟩),p1,.S (Y ⟨b2,0,U⟩),.S (Y ⟨b3,0,U⟩),.S (Y ⟨b4,0,U⟩),v5,v6,v7,v8,v9,v10,.slice (Y ⟨sb,0,U⟩) n c,E D n,E D i,v14,v15,v16,v17,v18,v19,v20,v21,v22,v23,v24,v25,v26],[]⟩ [.code eL,.inLoop eL,.inBlock 0,.code (.L 10 Kv M)]
section
variable {P:EK} {SB BB:bn->Bool} {zZ:Bool} {Gn ty Wg:Nat} {zN:Nat->Prop} {Ψ0 Ψ2:I->Prop} {fA fW:bn} {wl:Nat} {Pr:Ey} {T:List cU} {Fn:Bool->Hid->bo->I->Prop}
def ui :
  ∀k {tp:Bool} {H:Hid} {g:bo} {w:I},Kw P SB BB zZ Gn ty Wg zN Ψ0 Ψ2 fA fW wl Pr T Fn k tp H g w->Kw P SB BB zZ Gn ty Wg zN Ψ0 Ψ2 fA fW wl Pr T Fn (k+1) tp H g w:=by
 intro k
 induction k with
 |zero=>intro tp H g w h;exact .inl h
 |succ k ih =>
  rintro tp H g w (h|⟨fr,cs,h1,h2,h3⟩)
  .exact .inl h
  .refine .inr ⟨fr,cs,h1,h2,h3.LT (λ_ _ x=>x) λg w hq x G W e1 e2 e3 e4 e5 e6 e7 e8 e9 a6 e11=>?_⟩;obtain⟨G',child,x',xk,MT,o,Po,Q,q1,q2,q3,q4,q5,q6,q7⟩:=hq x G W e1 e2 e3 e4 e5 e6 e7 e8 e9 a6 e11;exact⟨G',child,x',xk,MT,o,Po,Q,q1,q2,q3,q4,q5.LT (λ_ _ x=>x) (λ_ _ x=>ih x),q6,q7⟩
def rP {S:Bool->Hid->bo->I->Prop}{tp:Bool}{H:Hid}(g:bo)(w W:I)(s:EE w W)(hq:AtGo P SB BB zZ Gn ty Wg zN Ψ0 Ψ2 Pr T S tp H g w):AtGo P SB BB zZ Gn ty Wg zN Ψ0 Ψ2 Pr T S tp H g W:=λx G W' e1 e2=>hq x G W' e1 (s.trans e2)
def dp (hF:∀tp H g w W,EE w W->Fn tp H g w->Fn tp H g W):∀k {tp:Bool} {H:Hid} (g:bo) (w W:I),EE w W->Kw P SB BB zZ Gn ty Wg zN Ψ0 Ψ2 fA fW wl Pr T Fn k tp H g w->Kw P SB BB zZ Gn ty Wg zN Ψ0 Ψ2 fA fW wl Pr T Fn k tp H g W:=by
 have hW:∀ {tp:Bool} {H:Hid} {g:bo} {w W:I},EE w W->iu P fW wl Fn tp H g w->iu P fW wl Fn tp H g W:=λhs ⟨fr,cs,h1,h2,h3⟩=>⟨fr,cs,h1,h2,hF _ _ _ _ _ hs h3⟩;intro k;cases k with
 |zero=>exact λg w W hs h=>hW hs h
 |succ k =>
  rintro tp H g w W hs (h|⟨fr,cs,h1,h2,h3⟩)
  .exact .inl (hW hs h)
  .exact .inr ⟨fr,cs,h1,h2,h3.same (λ_ _ _ _ x=>x) (λg w W s hq x G W' e1 e2=>hq x G W' e1 (s.trans e2)) hs⟩
end
structure Head (SB:bn->Bool)(H:Hid)(Gn:Nat)(Kb:Nat->Prop)(Ok:I->Prop)(K:Nat->Prop)(w:I):Prop where
 sub:∀b,Kb b->K b
 base:∀b,K b->H b=M->Ro w b/\∃o,w.L[b]?=Y o/\Fb (SP SB H) (CK F SB bb) (E0 K) o o
 LH:∀b,K b->H b=bb->w.L[b]?=Y (.coro U)
 lo:∀b,K b->Gn<=b
 lt:∀b,K b->b<w.L.size
 old:∀b,H b=bb->b<w.L.size
 room:Gn<=w.L.size
 ok:Ok w
def fz (Kb:Nat->Prop)(Ok:I->Prop):Prop:=∀w w':I,(∀b,Kb b->w'.L[b]?=w.L[b]?)->w'.os=w.os->Ok w->Ok w'
section
variable {SB:bn->Bool} {H:Hid} {Gn:Nat} {Kb:Nat->Prop} {Ok:I->Prop} {K:Nat->Prop} {w w':I}
def Head.ext (h:Head SB H Gn Kb Ok K w)(hO:fz Kb Ok)(e:Ext w w'):Head SB H Gn Kb Ok K w':=by
 have same:∀b,K b->w'.L[b]?=w.L[b]?:=λb hb=>e.2.1 b (h.lt b hb);refine⟨h.sub,λb hb hh=>?_,λb hb hh=>(same b hb).trans (h.LH b hb hh),h.lo,λb hb=>AO (h.lt b hb) e.1,λb hb=>AO (h.old b hb) e.1,AU h.room e.1,hO w w' (λb hb=>same b (h.sub b hb)) e.2.2 h.ok⟩;obtain⟨⟨c,t,f,q1,q2⟩,o,q3,q4⟩:=h.base b hb hh;exact⟨⟨c,t,f,(same b hb).trans q1,q2⟩,o,(same b hb).trans q3,q4⟩
def Head.more (h:Head SB H Gn Kb Ok K w)(hO:fz Kb Ok){r:Nat}(hr:¬K r)(hH:H r=M)(hG:Gn<=r){l:List cq}{t:vN}{f:Nat×Nat}(hc:w.L[r]?=Y (.cells l.LK t f))(hl:∀v∈l,Fo SB H (λ_=>False) v) :
  Head SB H Gn Kb Ok (λb=>K b\/b=r) (froze w r):=by
 have ne:∀b,K b->b≠r:=λb hb e=>hr (e▸hb);have same:∀b,K b->(froze w r).L[b]?=w.L[b]?:=λb hb=>fy w (ne b hb);refine⟨λb hb=>.inl (h.sub b hb),λb hb hh=>?_,λb hb hh=>?_,λb hb=>?_,λb hb=>?_,λb hb=>by rw[cV];exact h.old b hb,by rw[cV];exact h.room,hO w _ (λb hb=>same b (h.sub b hb)) (gG w r) h.ok⟩
 .obtain hb|rfl:=hb
  .obtain⟨⟨c,t,f,q1,q2⟩,o,q3,q4⟩:=h.base b hb hh;exact⟨⟨c,t,f,(same b hb).trans q1,q2⟩,o,(same b hb).trans q3,q4.LT λx y a6=>⟨.inl a6.1,a6.2⟩⟩
  .exact⟨⟨_,_,_,dm hc,λi hi=>⟨Bg _,hi⟩⟩,_,dm hc,.cells (Fs λv hv=>(hl v hv).LT λ_=>False.elim) λi h1 h2=>⟨h1,h2⟩⟩
 .obtain hb|rfl:=hb
  .exact(same b hb).trans (h.LH b hb hh)
  .rw[hH] at hh;cases hh
 .obtain hb|rfl:=hb
  .exact h.lo b hb
  .exact hG
 .rw[cV];obtain hb|rfl:=hb
  .exact h.lt b hb
  .exact(AJ.1 hc).1
end
noncomputable abbrev PP:EK:=EK.of F
noncomputable abbrev PQ:EK:=⟨D7,Tryz.prog.L⟩
noncomputable abbrev AD:Code:=Tryz.f84.body.LH .skip
abbrev first (x:Int):Obj:=ek #[.int .u8 x,.int .u8 0,.int .u8 0,.int .u8 0,.int .u8 0] 97
abbrev bT (b2 b3 b4 r:Nat):Array Value:=#[.S (Y ⟨b4,0,U⟩),.S (Y ⟨b2,0,U⟩),.S (Y ⟨r,0,U⟩),.S (Y ⟨b3,0,U⟩)]
structure NT (SB BB:bn->Bool)(H:Hid)(Gn Wg:Nat)(zN:Nat->Prop)(Ψ0:I->Prop)(Pr:Ey)(T:List cU)(Kb:Nat->Prop)(Ok:I->Prop)(b2 b3 b4:Nat)(x1:Int)(tp:Bool)(K:Nat->Prop)(a:Act)(r:Nat)(x:Lone)(X:bo)(W:I):Prop where
 op:LD PP SB BB bb x X (base 49) a o8 1 T8 84 (bT b2 b3 b4 r) 24 Tryz.f84 AD
 gl:Fx PP SB BB bb x X
 wl:GQ PP SB bb Gn x W
 h:x.H=H
 t:x.T=T
 pr:Pr.le x.β
 Hv:tp=bb->Ψ0 W
 Jz:∀b B,x.β b B->zN B->x.H b=bb
 wg:∀b,x.β b Wg->x.H b=bb
 tw:x.H.Fg=M
 head:Head SB H Gn Kb Ok K x.w
 rb:x.w.L[r]?=Y (first x1)
 rK:¬K r/\H r=M/\Gn<=r
 cut:LW F SB bb H H (λb=>K b\/b=r) (lu ((base 49).at a (.inRegion o8 []::T8)) [bad]) x.w (froze x.w r)
structure Ctx (SB EI BB:bn->Bool)(H:Hid)(Gn Wg:Nat)(zN:Nat->Prop)(Ψ0 Ψ2:I->Prop)(Pr:Ey)(T:List cU)(Fn:Bool->Hid->bo->I->Prop)(Kb Kc:Nat->Prop)(Ok:I->Prop)(b2 b3 b4 cb sb n c:Nat)(p1:cq)(sets kind:Nat->Int)(F8:Nat->Bool):Prop where
 hB:BB 49=bb
 QK:SB 49=bb
 QL:SB 84=bb
 L0:MR PQ EI EI BB Gn
 b0:∀f,EI f=bb->BB f=bb
 QM:EI 82=bb
 todo:∀K,Fj (Gt F SB H bb bb (E0 K)) (.inRegion o8 []::T8) (.inRegion o8 []::T8)
 Fg:H.Fg=M
 bl:H.bl=bb
 only:fz Kb Ok
 NU:∀w,Ok w->w.S ⟨b2,0,U⟩=Y (.S (Y ⟨cb,0,U⟩))
 KS:∀w i,Ok w->i<n->w.S ⟨sb,i,U⟩=Y (.int .u8 (sets i))
 Gs:∀w b,Ok w->Kc b->Kb b/\∃o,w.L[b]?=Y o/\Fb (SP EI Du) (CK D7 EI M) (E0 Kc) o o
 cK:Kc cb
 kb:Kb b2/\Kb b3/\Kb b4/\Kb cb/\Kb sb
 Jj:Fo SB H Kb p1
 wrap:∀i,i<n->IntKind.i64.wrap ((i:Int)+1)=((i+1:Nat):Int)
 KU:∀w i,Ok w->i<n->∀τ d,cF D7 82 #[.S (Y ⟨cb,0,U⟩),.S (Y ⟨w.L.size,0,U⟩),E D 0] (on (w.LK (first (sets i))) τ d) (λe w'=>∃v,e=.L v/\((∃y1 y2,v=.agg #[E D (kind i),E D y1,E D y2])/\Ext (w.LK (first (sets i))) w'))
 Rg:∀i,i<n->kind i≠0->F8 (i+1)=F8 i
 fin:∀(a:Act) (w:I),a.defers=[]->Ok w->Fn (F8 n) H (lu (((base 49).at a [.inRegion Kv [0]]).finish (.tuple #[])) [bad]) w
 Me:∀tp H g w W,EE w W->Fn tp H g w->Fn tp H g W
 go:∀i,i<n->kind i=0->∀(K:Nat->Prop) (a:Act) (r:Nat) (x:Lone) (X:bo) (W:I),NT SB BB H Gn Wg zN Ψ0 Pr T Kb Ok b2 b3 b4 (sets i) (F8 i) K a r x X W ->
  ∃(X' child:bo) (xk:Lone) (o:Bool) (Pk:Ey) (Q:bo->I->Prop),mm F bb X W=.spawn X' child W #[] /\
   Split PP SB BB bb Gn Wg zN x X' child W (F8 i) (F8 (i+1)) o ⟨lu ((base 49).at a (.inRegion o8 []::T8)) [bad],froze x.w r,H,cut (λb=>K b\/b=r) x.β,T⟩ xk Pk /\
   cO PP SB BB bb Gn 148 Wg Ψ2 Q xk.H xk.T Pk o/\(∀g w,Q g w->BB g.L.fn=M)/\E5 F BB Q 0 xk.g xk.w
def gH (w:I)(x:Int):(w.LK (first x)).L[w.L.size]?=Y (first x):=by rw[aH,AP rfl]
section
variable {SB EI BB:bn->Bool} {H:Hid} {Gn Wg:Nat} {zN:Nat->Prop} {Ψ0 Ψ2:I->Prop} {Pr:Ey} {T:List cU} {Fn:Bool->Hid->bo->I->Prop} {Kb Kc:Nat->Prop} {Ok:I->Prop} {b2 b3 b4 cb sb n c:Nat} {p1:cq} {sets kind:Nat->Int} {F8:Nat->Bool}
def uj (C:Ctx SB EI BB H Gn Wg zN Ψ0 Ψ2 Pr T Fn Kb Kc Ok b2 b3 b4 cb sb n c p1 sets kind F8)(aJ:∀b B,Pr b B->Kb b):∀(m i:Nat),i+m=n->∀(K:Nat->Prop) (w:I),Head SB H Gn Kb Ok K w ->
  ∀(v5 v6 v7 v8 v9 v10 v14 v15 v16 v17 v18 v19 v20 v21 v22 v23 v24 v25 v26:cq),(∀v∈[v5,v8,v9,v10,v20,v21,v22,v23,v24,v25,v26],Fo SB H K v) ->
  Ep F (Fp F BB) (Kw PP SB BB bb Gn 148 Wg zN Ψ0 Ψ2 83 86 b4 Pr T Fn m (F8 i) H) (lu (wC p1 b2 b3 b4 cb sb n c i v5 v6 v7 v8 v9 v10 v14 v15 v16 v17 v18 v19 v20 v21 v22 v23 v24 v25 v26) [bad]) w:=by
 intro m
 induction m with
 |zero =>
  intro i hi K w hd v5 v6 v7 v8 v9 v10 v14 v15 v16 v17 v18 v19 v20 v21 v22 v23 v24 v25 v26 hJ;obtain rfl:i=n:=by omega
  refine yv (cb:=0) C.hB (dp C.Me _) (by simp) (C5 _) (.fin ?_);exact⟨_,_,rfl,⟨rfl,rfl,_,_,_,_,rfl⟩,C.fin _ _ rfl hd.ok⟩
 |succ m ih =>
  intro i hi K w hd v5 v6 v7 v8 v9 v10 v14 v15 v16 v17 v18 v19 v20 v21 v22 v23 v24 v25 v26 hJ;have a7:i<n:=by omega
  have l2:b2<w.L.size:=hd.lt _ (hd.sub _ C.kb.1);have aC:H w.L.size=false:=by
   cases e:H w.L.size with
   |false=>rfl
   |true=>exact AS (hd.old _ e) (C5 _)
  refine yq C.hB (dp C.Me _) (by simp) a7 (C.NU w hd.ok) (C.KS w i hd.ok a7) l2 ?_;refine C.L0.fn C.QM C.QM (K0:=λb=>Kc b\/b=w.L.size) (by simp) (λb hb=>?_) (by rw[aM];exact C3 hd.room) (Fs λv hv=>?_) (λb hb=>?_) (dp C.Me _) (C.KU w i hd.ok a7) ?_
  .obtain hb|rfl:=hb
   .exact hd.lo b (hd.sub b (C.Gs w b hd.ok hb).1)
   .exact hd.room
  .simp only[AT,AQ,or_false] at hv;obtain rfl|rfl|rfl:=hv
   .exact Fo.ptr (.inl C.cK) _ _
   .exact Fo.ptr (.inr rfl) _ _
   .exact Ee.int _ _
  .obtain hb|rfl:=hb
   .obtain⟨h1,o,h2,h3⟩:=C.Gs w b hd.ok hb;have zY:=hd.lt b (hd.sub b h1);exact⟨o,by rw[aH,AN (Dr zY)];exact h2,h3.LT λx y aD=>⟨.inl aD.1,aD.2⟩⟩
   .refine⟨_,gH w (sets i),.cells (Fs (l:=[.int .u8 (sets i),.int .u8 0,.int .u8 0,.int .u8 0,.int .u8 0]) λv hv=>?_) λj h1 h2=>⟨h1,h2⟩⟩;simp only[AT,AQ,or_false] at hv;rcases hv with rfl|rfl|rfl|rfl|rfl<;>exact Ee.int _ _
  .rintro v w2 ⟨⟨y1,y2,rfl⟩,hE⟩;have hE2:Ext w w2:=(Ext.LK w _).trans hE;have aF:=hd.ext C.only hE2;have aK:(o6[1]?.bind (·.L))=Y 20:=rfl;rw[eV,aK];have jk:∀y1 y2 k,Fo SB H K (.agg #[E D k,E D y1,E D y2]):=λy1 y2 k=>Fo.agg (l:=[E D k,E D y1,E D y2]) λv hv=>by
    simp only[AT,AQ,or_false] at hv;rcases hv with rfl|rfl|rfl<;>exact Ee.int _ _
   by_cases hk:kind i=0
   .rw[hk];refine wn (cb:=0) (v20:=undef) C.hB (dp C.Me _) (by simp) (.fin (.inr ⟨_,_,rfl,⟨rfl,rfl,_,_,_,_,rfl⟩,?_⟩));have aL:(o7[0]?.bind (·.L))=Y 23:=rfl;unfold back;rw[eV,aL];refine yt (cb:=cb) (v24:=v24) (cs:=[bad]) C.hB rP (by simp) (.fin ?_);intro x X W ex hs eH eT aG gl wl h0 Jz wg tw;have aI:=aF.ext C.only (Ext.same hs);have aA:¬K w.L.size:=λh=>C5 _ (hd.lt _ h)
    have a8:x.w.L[w.L.size]?=Y (first (sets i)):=by
     rw[hs.1,hE.2.1 _ (by rw[aM];exact De _)];exact gH w _
    have aB:∀v∈[E .u8 (sets i),.int .u8 0,.int .u8 0,.int .u8 0,.int .u8 0],∀K',Fo SB H K' v:=λv hv K'=>by
     simp only[AT,AQ,or_false] at hv;rcases hv with rfl|rfl|rfl|rfl|rfl<;>exact Ee.int _ _
    have hm:=aI.more C.only aA aC hd.room a8 λv hv=>aB v hv _;have kb2:=hd.sub _ C.kb.1;have kb3:=hd.sub _ C.kb.2.1;have kb4:=hd.sub _ C.kb.2.2.1;have PS:=hd.sub _ C.kb.2.2.2.1;have QN:=hd.sub _ C.kb.2.2.2.2;have a6:∀v,Fo SB H K v->Fo SB H (λb=>K b\/b=w.L.size) v:=λv hv=>hv.LT λb hb=>.inl hb;have clo:Fo SB H (λb=>K b\/b=w.L.size) (.func (.func 84) #[] #[.S (Y ⟨b4,0,U⟩),.S (Y ⟨b2,0,U⟩),.S (Y ⟨w.L.size,0,U⟩),.S (Y ⟨b3,0,U⟩)]):=Fo.func C.QL (l:=[.S (Y ⟨b4,0,U⟩),.S (Y ⟨b2,0,U⟩),.S (Y ⟨w.L.size,0,U⟩),.S (Y ⟨b3,0,U⟩)]) λv hv=>by
     simp only[AT,AQ,or_false] at hv;obtain rfl|rfl|rfl|rfl:=hv
     .exact Fo.ptr (.inl kb4) _ _
     .exact Fo.ptr (.inl kb2) _ _
     .exact Fo.ptr (.inr rfl) _ _
     .exact Fo.ptr (.inl kb3) _ _
    have aN:NT SB BB H Gn Wg zN Ψ0 Pr T Kb Ok b2 b3 b4 (sets i) (F8 i) K _ w.L.size x X W:={
     op:=⟨ex,C.hB,⟨_,rfl,rfl,rfl,rfl⟩,by decide,rfl,⟨eF,eF,by kernel_rfl,rfl⟩,C.QL⟩
     gl:=gl,wl:=wl,h:=eH,t:=eT,pr:=aG,Hv:=h0,Jz:=Jz,wg:=wg,tw:=tw,head:=aI,rb:=a8,rK:=⟨aA,aC,hd.room⟩
     cut:=by
      refine⟨⟨rfl,Fs (l:=[_,_,_,_,_,_,_,_,_,_,_,_,_,_,_,_,_,_,_,_,_,_,_,_,_,_,_]) λv hv=>?_,C.todo _,.nil,.run,rfl,⟨(by show CallKind.normal≠.early;decide),C.QK⟩,.none⟩,⟨[bad],.base⟩,λb hb hh=>⟨hh,?_⟩,λb hb hh=>⟨hm.LH b hb hh,.inl hh⟩,by rw[cV];exact AK _,hm.old,gG _ _,⟨C.Fg,C.Fg⟩,C.bl⟩
      .simp only[AT,AQ,or_false] at hv;obtain rfl|rfl|rfl|rfl|rfl|rfl|rfl|rfl|rfl|rfl|rfl|rfl|rfl|rfl|rfl|rfl|rfl|rfl|rfl|rfl|rfl|rfl|rfl|rfl|rfl|rfl|rfl:=hv
       .exact Fo.ptr (.inl PS) _ _
       .exact a6 _ (C.Jj.LT hd.sub)
       .exact Fo.ptr (.inl kb2) _ _
       .exact Fo.ptr (.inl kb3) _ _
       .exact Fo.ptr (.inl kb4) _ _
       .exact a6 _ (hJ _ (by simp))
       .exact Ee.int _ _
       .exact Fo.ptr (.inr rfl) _ _
       .exact a6 _ (hJ _ (by simp))
       .exact a6 _ (hJ _ (by simp))
       .exact a6 _ (hJ _ (by simp))
       .exact Fo.slice (.inl QN) _ _ _ _
       .exact Ee.int _ _
       .exact Ee.int _ _
       .exact Ee.bool _
       .exact Fo.ptr (.inl QN) _ _
       .exact Ee.int _ _
       .exact Ee.int _ _
       .exact Fo.agg (l:=[.int .u8 (sets i),.int .u8 0,.int .u8 0,.int .u8 0,.int .u8 0]) λv hv=>aB v hv _
       .exact Fo.ptr (.inl PS) _ _
       .exact a6 _ (jk _ _ _)
       .exact Ee.int _ _
       .exact Ee.bool _
       .exact Ee.undef _ _
       .exact clo
       .exact a6 _ (hJ _ (by simp))
       .exact a6 _ (hJ _ (by simp))
      .obtain⟨_,o,h2,h3⟩:=hm.base b hb hh;refine⟨o,h2,h3,?_⟩;obtain hb|rfl:=hb
       .have zU:b≠w.L.size:=λe=>aA (e▸hb);exact .inl (by rw[<-fy x.w zU];exact h2)
       .rw[dm a8] at h2;cases h2
        exact .inr ⟨_,_,_,_,a8,rfl,λi h1 h2=>⟨Bg _,by simp at h1 h2⟩⟩ }
    obtain⟨X',child,xk,o,Pk,Q,g1,g2,g3,g4⟩:=C.go i a7 hk K _ _ x X W aN;refine⟨X',child,_,xk,_,o,Pk,Q,g1,g2,rfl,λb B h=>⟨.inl (hd.sub _ (aJ b B h)),aG b B h⟩,?_,g3,g4⟩;refine yu (cb:=cb) (v25:=v25) (cs:=[bad]) C.hB (dp C.Me _) (by simp) (C.wrap i a7) ?_;refine ih (i+1) (by omega) _ _ hm _ _ _ _ _ _ _ _ _ _ _ _ _ _ _ _ _ _ _ λv hv=>?_;simp only[AT,AQ,or_false] at hv;obtain rfl|rfl|rfl|rfl|rfl|rfl|rfl|rfl|rfl|rfl|rfl:=hv
    .exact a6 _ (hJ _ (by simp))
    .exact a6 _ (hJ _ (by simp))
    .exact a6 _ (hJ _ (by simp))
    .exact a6 _ (hJ _ (by simp))
    .exact a6 _ (jk _ _ _)
    .exact Ee.int _ _
    .exact Ee.bool _
    .exact Ee.undef _ _
    .exact clo
    .exact Ee.int _ _
    .exact a6 _ (hJ _ (by simp))
   .refine(wm (cb:=0) (v20:=undef) C.hB (dp C.Me _) (by simp) (C.wrap i a7) hk ?_).LT (λ_ _ h=>h) λ_ _ h=>ui _ h;have:=ih (i+1) (by omega) K w2 aF v5 (.int .u8 (sets i)) (.S (Y ⟨w.L.size,0,U⟩)) v8 v9 v10 (.bool bb) (.S (Y ⟨sb,i,U⟩)) (.int .u8 (sets i)) (.int .u8 (sets i)) (.agg #[.int .u8 (sets i),.int .u8 0,.int .u8 0,.int .u8 0,.int .u8 0]) (.S (Y ⟨cb,0,U⟩))
     (.agg #[E D (kind i),E D y1,E D y2]) (E D (kind i)) (.bool bb) v23 v24 (E D ((i+1:Nat):Int)) v26 (λv hv=>?_)
    .rw[C.Rg i a7 hk] at this;exact this
    .simp only[AT,AQ,or_false] at hv;obtain rfl|rfl|rfl|rfl|rfl|rfl|rfl|rfl|rfl|rfl|rfl:=hv
     .exact hJ _ (by simp)
     .exact hJ _ (by simp)
     .exact hJ _ (by simp)
     .exact hJ _ (by simp)
     .exact jk _ _ _
     .exact Ee.int _ _
     .exact Ee.bool _
     .exact hJ _ (by simp)
     .exact hJ _ (by simp)
     .exact Ee.int _ _
     .exact hJ _ (by simp)
end
def QP:List FuncId:=[3,6,8,7,12,9,3,3,3,3,3,33,34,35,54,38,36,24,30,31,17,81,28,20,32,48,52,44,59,60,45,61,62,63,64,65,66,67,68,69,70,71,82,91,92,22,88,46,89,90,93,94,95,96,97,98,99,100,101,102,107,108,109,75,40,41,80,130,131,132,133,134,135,136,137,138,139,140,141,142,72,73,74,76,148,152,153,154,155,156,157,158,159,160,161,162,163,164,103,172,173,174,175,176,3,3,3,3,3,3,3,3,4,13,25,5,3,14,3,3,39,37,10,3,18,3,3,3,104,3,3,3,3,3,11,15,16,19,21,23,26,3,3,3,77,47,3,3,3,3,105,106,3,3,42,43,3,3,79,3,3,78]
def IH (f:bn):Bool:=QP.H f
def Py (f:bn):Bool:=f==89||f==90||f==6||f==3
def QQ (f:bn):Bool:=IH f&&!Py f
def kO {p:Nat->Bool}(h:QP.all p=bb):∀f,IH f=bb->p f=true:=λf hf=>(BO.1 h) f (by simpa [IH] using hf)
def rS:QP.all (λf=>JV D7 IH M f||NM f)=true:=by kernel_rfl
def OL (f:bn)(h:IH f=bb):JV D7 IH M f=bb\/NM f=true:=by
 have:=kO rS f h;simpa using this
def vB {P:EK}(f:bn)(hf:aP IH f=bb):Jb P f:=by
 have h:IH 84=false:=by decide
 unfold aP at hf;rw[h,Cf,Cs] at hf;cases hf
def Az (H:Hid):Lib (EK.of D7) IH H M IH 0:=oW (λf hf=>(OL f hf).imp_right λh=>mr h ⟨Sq.fn eA rfl,Sq.fn eC rfl,Sq.fn cE rfl⟩) vB ⟨BJ Sq.LK,Sq.LB⟩
def um:QP.all (λf=>Py f||!(f==6||JC f||f==89||f==90))=true:=by kernel_rfl
def AA (H:Hid):Lib PW IH H M QQ 0:=by
 refine iM (λf hf=>?_) (λf hf hb=>?_) (λf hf=>?_) vB ⟨BJ Sq.LK,Sq.LB⟩
 .simp only[QQ,AY,B9] at hf;obtain h|h:=OL f hf.1
  .refine .inl ⟨h,kM ?_⟩;have:=kO um f hf.1;simpa [hf.2] using this
  .exact .inr (mr h ⟨eA,eC,cE⟩)
 .simp only[QQ,hf,Cm,CE,Py,Bq,beq_iff_eq] at hb;obtain((rfl|rfl)|rfl)|rfl:=hb
  .exact⟨_,_,Sq.f89,er,rfl,by show Tryz.f89.name≠_;decide,by decide,rfl,rfl⟩
  .exact⟨_,_,Sq.f90,ez,rfl,by show Tryz.f90.name≠_;decide,by decide,rfl,rfl⟩
  .exact⟨_,_,DX,Tryz.func6,rfl,by show Tryz.f6.name≠_;decide,by decide,rfl,rfl⟩
  .exact⟨_,_,Sq.put oo rfl,oo,rfl,by show Tryz.f3.name≠_;decide,by decide,rfl,rfl⟩
 .simp only[QQ,AY] at hf;exact hf.1
structure IC (BB:bn->Bool):Prop where
 sub:∀f,IH f=bb->BB f=bb
 P8:BB 128=bb
 P9:BB 129=bb
def pd {BB:bn->Bool}(hL:IC BB){f:bn}(h:f=89\/f=90):LY PW BB f:=by
 obtain rfl|rfl:=h
 .obtain⟨r,o1,o2,s,hp⟩:=KE 89 DN 0 1 Sq.f89 rfl (by rw[DO];decide) rfl;exact⟨0,1,_,r,o1,o2,s,Tryz.f89,hp,lz (hL.sub 89 (by decide)) hL.P8,er,rfl⟩
 .obtain⟨r,o1,o2,s,hp⟩:=KE 90 DK 1 0 Sq.f90 rfl (by rw[DM];decide) rfl;exact⟨1,0,_,r,o1,o2,s,Tryz.f90,hp,i3 (hL.sub 90 (by decide)) hL.P9,ez,rfl⟩
def eK {BB:bn->Bool}{H:Hid}(hL:IC BB)(hn:H.bl=false:=by rfl):Ja PW IH QQ BB H 0:=by
 refine⟨Az _,AA _,λf hf hb=>?_,hL.sub,hn⟩;obtain hf|hf:=hf
 .simp only[QQ,hf,Cm,CE,Py,Bq,beq_iff_eq] at hb;obtain((rfl|rfl)|rfl)|rfl:=hb
  .exact .inr (pd hL (.inl rfl))
  .exact .inr (pd hL (.inr rfl))
  .exact .inl ⟨_,_,DX,rfl⟩
  .exact .inl ⟨_,_,Sq.put oo rfl,rfl⟩
 .have h:IH 84=false:=by decide
  unfold aP at hf;rw[h,Cf,Cs] at hf;cases hf
def RD:List FuncId:=[62,82,46,94,107,108,109,75,80]
def MW (f:bn):Bool:=RD.H f
def kP {p:Nat->Bool}(h:RD.all p=bb):∀f,MW f=bb->p f=true:=λf hf=>(BO.1 h) f (by simpa [MW] using hf)
def PT {P:EK}(f:bn)(hf:aP MW f=bb):Jb P f:=by
 have h:MW 84=false:=by decide
 unfold aP at hf;rw[h,Cf,Cs] at hf;cases hf
def rT:RD.all (λf=>JV D7 MW M f&&!(f==6||JC f||f==89||f==90))=true:=by kernel_rfl
def yC {BB:bn->Bool}(hb:∀f,MW f=bb->BB f=bb):MR PW MW MW BB 0:=by
 have h1:∀f,MW f=bb->JV D7 MW M f=true:=λf hf=>by
  have:=kP rT f hf;simp only[AY] at this;exact this.1
 have h2:∀f,MW f=bb->PW.fs[f]?=PW.a.L[f]?:=λf hf=>by
  have:=kP rT f hf;simp only[AY,B9] at this;exact kM this.2
 refine⟨yn h1 PT ⟨BJ Sq.LK,Sq.LB⟩,vW h1 h2 (λf hf hb=>by rw[hf] at hb;cases hb) (λ_ h=>h) PT ⟨BJ Sq.LK,Sq.LB⟩,λf hf hb=>?_,hb⟩;obtain hf|hf:=hf
 .rw[hf] at hb;cases hb
 .have h:MW 84=false:=by decide
  unfold aP at hf;rw[h,Cf,Cs] at hf;cases hf
open Go.Shelf
def ba {P:Program} {i:Nat} {f B:Func} (h:P.L[i]?=Y f) (hn:(f.name == "runtime.NumGoroutine")=M) (hf:f={ B with name:=f.name }):Bears P i B:=⟨f.name,hn,h.trans (Bh Y hf)⟩
def DW:Ren:=⟨λ|6=>97|15=>96|14=>141|28=>139|29=>140|20=>157|21=>158|22=>159|23=>160|24=>161|25=>162|26=>163|27=>164|46=>173|47=>153|48=>154|49=>174|50=>175|57=>176|n=>n,λ|22=>149|24=>76|25=>168|3=>3|39=>131|0=>0|53=>105|55=>66|4=>4|46=>192|45=>191|50=>196|5=>5|9=>9|66=>212|70=>215|76=>222|77=>223|n=>n,λn=>n⟩
def DT:SlLaysF.n6 D7 DW where
 mixed:=(Bh (λt:Tables=>t.follows .mixedOrders) Dy).trans (by kernel_rfl)
 f6:=ba Sq.func97 (by decide +kernel) (by kernel_rfl)
 f14:=ba Sq.func141 (by decide +kernel) (by kernel_rfl)
 f15:=Sq.func96.trans (Bh Y (by kernel_rfl))
 f20:=ba Sq.func157 (by decide +kernel) (by kernel_rfl)
 f21:=ba Sq.func158 (by decide +kernel) (by kernel_rfl)
 f22:=ba Sq.func159 (by decide +kernel) (by kernel_rfl)
 f23:=ba Sq.func160 (by decide +kernel) (by kernel_rfl)
 f24:=ba Sq.func161 (by decide +kernel) (by kernel_rfl)
 f25:=ba Sq.func162 (by decide +kernel) (by kernel_rfl)
 f26:=ba Sq.func163 (by decide +kernel) (by kernel_rfl)
 f27:=ba Sq.func164 (by decide +kernel) (by kernel_rfl)
 f28:=Sq.func139.trans (Bh Y (by kernel_rfl))
 f29:=Sq.func140.trans (Bh Y (by kernel_rfl))
 f46:=ba Sq.func173 (by decide +kernel) (by kernel_rfl)
 f47:=Sq.func153.trans (Bh Y (by kernel_rfl))
 f48:=Sq.func154.trans (Bh Y (by kernel_rfl))
 f49:=ba Sq.func174 (by decide +kernel) (by kernel_rfl)
 f50:=ba Sq.func175 (by decide +kernel) (by kernel_rfl)
 f57:=ba Sq.func176 (by decide +kernel) (by kernel_rfl)
 t0:=(Sq.LH 0).trans lv
 a0:=λw=>(Dv 0 w).trans (vq w)
 z0:=λw=>(Sq.sizeOf 0 w).trans (tr w)
 v0:=λw=>(Sq.LT 0 w).trans (nh w)
 t3:=(Sq.LH 3).trans lx
 a3:=λw=>(Dv 3 w).trans (vt w)
 z3:=λw=>(Sq.sizeOf 3 w).trans (tz w)
 v3:=λw=>(Sq.LT 3 w).trans (np w)
 t4:=(Sq.LH 4).trans lA
 a4:=λw=>(Dv 4 w).trans (vu w)
 z4:=λw=>(Sq.sizeOf 4 w).trans (uA w)
 v4:=λw=>(Sq.LT 4 w).trans (nt w)
 t5:=(Sq.LH 5).trans l4
 a5:=λw=>(Dv 5 w).trans (vx w)
 z5:=λw=>(Sq.sizeOf 5 w).trans (vd w)
 v5:=λw=>(Sq.LT 5 w).trans (nx w)
 t9:=(Sq.LH 9).trans l5
 a9:=λw=>(Dv 9 w).trans (vH w)
 z9:=λw=>(Sq.sizeOf 9 w).trans (vh w)
 v9:=λw=>(Sq.LT 9 w).trans (n4 w)
 t22:=(Sq.LH 149).trans Tryz.underlying149
 a22:=λw=>(Dv 149 w).trans (Tryz.isAgg149 w)
 z22:=λw=>(Sq.sizeOf 149 w).trans (Tryz.sizeOf149 w)
 v22:=λw=>(Sq.LT 149 w).trans (Tryz.zeroValue149 w)
 a24:=λw=>(Dv 76 w).trans (Tryz.isAgg76 w)
 z24:=λw=>(Sq.sizeOf 76 w).trans (Tryz.sizeOf76 w)
 t25:=(Sq.LH 168).trans Tryz.underlying168
 a25:=λw=>(Dv 168 w).trans (Tryz.isAgg168 w)
 z25:=λw=>(Sq.sizeOf 168 w).trans (Tryz.sizeOf168 w)
 v25:=λw=>(Sq.LT 168 w).trans (Tryz.zeroValue168 w)
 t39:=(Sq.LH 131).trans hZ
 a39:=λw=>(Dv 131 w).trans (q9 w)
 z39:=λw=>(Sq.sizeOf 131 w).trans (ou w)
 v39:=λw=>(Sq.LT 131 w).trans (kq w)
 t45:=(Sq.LH 191).trans h9
 a45:=λw=>(Dv 191 w).trans (rk w)
 z45:=λw=>(Sq.sizeOf 191 w).trans (oK w)
 v45:=λw=>(Sq.LT 191 w).trans (kv w)
 t46:=(Sq.LH 192).trans ik
 a46:=λw=>(Dv 192 w).trans (rr w)
 z46:=λw=>(Sq.sizeOf 192 w).trans (p5 w)
 v46:=λw=>(Sq.LT 192 w).trans (kx w)
 t50:=(Sq.LH 196).trans iv
 a50:=λw=>(Dv 196 w).trans (rA w)
 z50:=λw=>(Sq.sizeOf 196 w).trans (qb w)
 v50:=λw=>(Sq.LT 196 w).trans (k0 w)
 t53:=(Sq.LH 105).trans js
 a53:=λw=>(Dv 105 w).trans (r4 w)
 z53:=λw=>(Sq.sizeOf 105 w).trans (qc w)
 v53:=λw=>(Sq.LT 105 w).trans (k5 w)
 t55:=(Sq.LH 66).trans k6
 a55:=λw=>(Dv 66 w).trans (vk w)
 z55:=λw=>(Sq.sizeOf 66 w).trans (r5 w)
 v55:=λw=>(Sq.LT 66 w).trans (l8 w)
 t66:=(Sq.LH 212).trans jx
 a66:=λw=>(Dv 212 w).trans (sw w)
 z66:=λw=>(Sq.sizeOf 212 w).trans (qf w)
 v66:=λw=>(Sq.LT 212 w).trans (k7 w)
 t70:=(Sq.LH 215).trans j0
 a70:=λw=>(Dv 215 w).trans (sy w)
 z70:=λw=>(Sq.sizeOf 215 w).trans (ql w)
 v70:=λw=>(Sq.LT 215 w).trans (k8 w)
 t76:=(Sq.LH 222).trans j1
 a76:=λw=>(Dv 222 w).trans (sA w)
 z76:=λw=>(Sq.sizeOf 222 w).trans (qo w)
 v76:=λw=>(Sq.LT 222 w).trans (k9 w)
 t77:=(Sq.LH 223).trans j2
 a77:=λw=>(Dv 223 w).trans (sF w)
 z77:=λw=>(Sq.sizeOf 223 w).trans (qq w)
 v77:=λw=>(Sq.LT 223 w).trans (lh w)
def bG {l:List Int}:bI l=0↔∀x∈l,x=0:=by
 refine⟨λh x hx=>?_,iT⟩;unfold bI at h;cases hf:l.find? (· != 0) with
 |none=>have:=Do.1 hf x hx;simpa using this
 |some y =>
  rw[hf] at h;have:=List.find?_some hf;simp only[Bf] at h;subst h;simp at this
def dP {n lo hi:Int}:EM n lo hi=0↔lo<=n/\n<=hi:=by
 unfold EM;split
 .simp;omega
 .split<;>simp<;>omega
def mU {x lo hi:Int}:FM x lo hi=bb↔lo<=x/\x<=hi:=by simp[FM]
def lC {l:List Int}{n:Int}:Fz l n=0↔∀i,i<l.L->Gi l n i=0:=by
 unfold Fz;rw[bG];simp
def I0 {l:List Int}{n:Int}(h:Fz l n=0):(∀x∈l,0<=x/\x<n)/\(l.L:Int)<=max n 0/\∀i,i+1<l.L->l[i]?.LH 0<l[i+1]?.LH 0:=by
 rw[lC] at h;have h1:∀i,i<l.L->0<=l[i]?.LH 0/\l[i]?.LH 0<=n-1:=λi hi=>by
  have:=h i hi;unfold Gi at this;split at this
  .assumption
  .cases this
 have h2:∀i,i+1<l.L->l[i]?.LH 0<l[i+1]?.LH 0:=λi hi=>by
  have:=h (i+1) hi;unfold Gi at this;rw[AP (h1 _ hi)] at this;by_cases hc:0<i+1/\l[i+1]?.LH 0<=l[i+1-1]?.LH 0
  .rw[AP hc] at this;cases this
  .simp only[Nat.add_sub_cancel] at hc;omega
 have h3:∀i,i<l.L->(i:Int)<=l[i]?.LH 0:=λi=>by
  induction i with
  |zero=>intro hi;exact(h1 0 hi).1
  |succ k ih=>intro hi;have:=ih (by omega);have:=h2 k hi;omega
 refine⟨λx hx=>?_,?_,h2⟩
 .obtain⟨i,hi,rfl⟩:=List.getElem_of_mem hx;have:=h1 i hi;rw[AL hi] at this;simp only[Bf] at this;omega
 .by_cases hz:l.L=0
  .omega
  .have a:=h3 (l.L-1) (by omega);have b:=(h1 (l.L-1) (by omega)).2;omega
def Ek.Ok.of {c:Ek}(h:Ex c=0):c.Ok:=by
 unfold Ex at h;by_cases h1:EM c.D9.L 1 5≠0
 .rw[AP h1] at h;exact AS h h1
 rw[AN h1] at h;have a7:=dP.1 (ll.1 h1);by_cases h2:(c.D9.all λx=>FM x 0 12)=M
 .rw[AP h2] at h;cases h
 rw[AN h2] at h;by_cases h3:EM c.D8.L 1 4≠0
 .rw[AP h3] at h;exact AS h h3
 rw[AN h3] at h;have a8:=dP.1 (ll.1 h3);rw[bG] at h;have hh:∀x∈c.D8,(1<=x.heads/\x.heads<=40)/\(1<=x.FL/\x.FL<=5)/\(0<=x.most/\x.most<=5)/\Fz x.off c.D9.L=0:=λx hx=>by
  have:=h _ (List.mem_map_of_mem hx);unfold FZ at this;split at this
  .rename_i hc;simp only[AY,mU] at hc;exact⟨hc.1.1,hc.1.2,hc.2,this⟩
  .cases this
 have a6:∀x∈c.D9,0<=x/\x<=12:=λx hx=>by
  have:=BO.1 (Bool.not_eq_false _▸h2) x hx;exact mU.1 this
 exact⟨by omega,by omega,a6,by omega,by omega,λx hx=>(hh x hx).1,λx hx=>(hh x hx).2.1,λx hx=>(hh x hx).2.2.1,λx hx=>by
  obtain⟨a,b,_⟩:=I0 (hh x hx).2.2.2
  exact⟨by omega,a⟩⟩
def DU:Ren:=⟨λ|189=>64|125=>96|257=>95|128=>139|129=>140|294=>130|295=>131|296=>132|297=>133|298=>134|299=>135|216=>136|300=>137|301=>138|328=>152|329=>153|330=>154|331=>155|332=>156|215=>142|343=>172|n=>n,λ|28=>22|3=>3|46=>131|0=>0|51=>105|53=>66|4=>4|183=>192|182=>191|131=>196|5=>5|9=>9|218=>212|222=>215|228=>222|229=>223|n=>n,λn=>n⟩
def DQ:Lays.n189 D7 DU where
 mixed:=(Bh (λt:Tables=>t.follows .mixedOrders) Dy).trans (by kernel_rfl)
 f125:=Sq.func96.trans (Bh Y (by kernel_rfl))
 f128:=Sq.func139.trans (Bh Y (by kernel_rfl))
 f129:=Sq.func140.trans (Bh Y (by kernel_rfl))
 f189:=Sq.func64.trans (Bh Y (by kernel_rfl))
 f215:=Sq.func142.trans (Bh Y (by kernel_rfl))
 f216:=Sq.func136.trans (Bh Y (by kernel_rfl))
 f257:=Sq.func95.trans (Bh Y (by kernel_rfl))
 f294:=Sq.func130.trans (Bh Y (by kernel_rfl))
 f295:=Sq.func131.trans (Bh Y (by kernel_rfl))
 f296:=Sq.func132.trans (Bh Y (by kernel_rfl))
 f297:=Sq.func133.trans (Bh Y (by kernel_rfl))
 f298:=Sq.func134.trans (Bh Y (by kernel_rfl))
 f299:=Sq.func135.trans (Bh Y (by kernel_rfl))
 f300:=Sq.func137.trans (Bh Y (by kernel_rfl))
 f301:=Sq.func138.trans (Bh Y (by kernel_rfl))
 f328:=Sq.func152.trans (Bh Y (by kernel_rfl))
 f329:=Sq.func153.trans (Bh Y (by kernel_rfl))
 f330:=Sq.func154.trans (Bh Y (by kernel_rfl))
 f331:=Sq.func155.trans (Bh Y (by kernel_rfl))
 f332:=Sq.func156.trans (Bh Y (by kernel_rfl))
 f343:=Sq.func172.trans (Bh Y (by kernel_rfl))
 t0:=(Sq.LH 0).trans lv
 a0:=λw=>(Dv 0 w).trans (vq w)
 z0:=λw=>(Sq.sizeOf 0 w).trans (tr w)
 v0:=λw=>(Sq.LT 0 w).trans (nh w)
 t3:=(Sq.LH 3).trans lx
 a3:=λw=>(Dv 3 w).trans (vt w)
 z3:=λw=>(Sq.sizeOf 3 w).trans (tz w)
 v3:=λw=>(Sq.LT 3 w).trans (np w)
 t4:=(Sq.LH 4).trans lA
 a4:=λw=>(Dv 4 w).trans (vu w)
 z4:=λw=>(Sq.sizeOf 4 w).trans (uA w)
 v4:=λw=>(Sq.LT 4 w).trans (nt w)
 t5:=(Sq.LH 5).trans l4
 a5:=λw=>(Dv 5 w).trans (vx w)
 z5:=λw=>(Sq.sizeOf 5 w).trans (vd w)
 v5:=λw=>(Sq.LT 5 w).trans (nx w)
 t9:=(Sq.LH 9).trans l5
 a9:=λw=>(Dv 9 w).trans (vH w)
 z9:=λw=>(Sq.sizeOf 9 w).trans (vh w)
 v9:=λw=>(Sq.LT 9 w).trans (n4 w)
 t28:=(Sq.LH 22).trans Tryz.underlying22
 a28:=λw=>(Dv 22 w).trans (Tryz.isAgg22 w)
 z28:=λw=>(Sq.sizeOf 22 w).trans (Tryz.sizeOf22 w)
 v28:=λw=>(Sq.LT 22 w).trans (Tryz.zeroValue22 w)
 t46:=(Sq.LH 131).trans hZ
 a46:=λw=>(Dv 131 w).trans (q9 w)
 z46:=λw=>(Sq.sizeOf 131 w).trans (ou w)
 v46:=λw=>(Sq.LT 131 w).trans (kq w)
 t51:=(Sq.LH 105).trans js
 a51:=λw=>(Dv 105 w).trans (r4 w)
 z51:=λw=>(Sq.sizeOf 105 w).trans (qc w)
 v51:=λw=>(Sq.LT 105 w).trans (k5 w)
 t53:=(Sq.LH 66).trans k6
 a53:=λw=>(Dv 66 w).trans (vk w)
 z53:=λw=>(Sq.sizeOf 66 w).trans (r5 w)
 v53:=λw=>(Sq.LT 66 w).trans (l8 w)
 t131:=(Sq.LH 196).trans iv
 a131:=λw=>(Dv 196 w).trans (rA w)
 z131:=λw=>(Sq.sizeOf 196 w).trans (qb w)
 v131:=λw=>(Sq.LT 196 w).trans (k0 w)
 t182:=(Sq.LH 191).trans h9
 a182:=λw=>(Dv 191 w).trans (rk w)
 z182:=λw=>(Sq.sizeOf 191 w).trans (oK w)
 v182:=λw=>(Sq.LT 191 w).trans (kv w)
 t183:=(Sq.LH 192).trans ik
 a183:=λw=>(Dv 192 w).trans (rr w)
 z183:=λw=>(Sq.sizeOf 192 w).trans (p5 w)
 v183:=λw=>(Sq.LT 192 w).trans (kx w)
 t218:=(Sq.LH 212).trans jx
 a218:=λw=>(Dv 212 w).trans (sw w)
 z218:=λw=>(Sq.sizeOf 212 w).trans (qf w)
 v218:=λw=>(Sq.LT 212 w).trans (k7 w)
 t222:=(Sq.LH 215).trans j0
 a222:=λw=>(Dv 215 w).trans (sy w)
 z222:=λw=>(Sq.sizeOf 215 w).trans (ql w)
 v222:=λw=>(Sq.LT 215 w).trans (k8 w)
 t228:=(Sq.LH 222).trans j1
 a228:=λw=>(Dv 222 w).trans (sA w)
 z228:=λw=>(Sq.sizeOf 222 w).trans (qo w)
 v228:=λw=>(Sq.LT 222 w).trans (k9 w)
 t229:=(Sq.LH 223).trans j2
 a229:=λw=>(Dv 223 w).trans (sF w)
 z229:=λw=>(Sq.sizeOf 223 w).trans (qq w)
 v229:=λw=>(Sq.LT 223 w).trans (lh w)
open Go.Proofs.YtbnfgnhhfmmejaaGreat
def QB:laidOutB Tryz.checked.prog=bb/\mapsRowed Tryz.checked.prog=bb/\Tryz.checked.prog.plainKeys=true:=Go.ClosedOfChecked.closed_of_checked Tryz.checked (by kernel_rfl) (by kernel_rfl) (by kernel_rfl)
def vw:mA Tryz.pinned.checked.prog 3 Tryz.f3 Rows.wolfRaidsSpec Rows.wolfRaidsRow=true:=by
 show mA Tryz.checked.prog 3 Tryz.f3 Rows.wolfRaidsSpec Rows.wolfRaidsRow=bb;obtain⟨h1,h2,h3⟩:=QB;unfold mA;rw[h1,h2,h3]
 kernel_rfl
def ye:Tryz.pinned.checked.prog.funcNamed Rows.wolfRaidsRow.func=Y 3:=by kernel_rfl
end Go.Sq
namespace Go
def AI{p:Prop}(h:p):RowKit.Hid p:=h
end Go
namespace Go.Sq
open Go.RowKit
structure Gr (w w':I):Prop where
 Li:Below w.L.size w w'
 drawn:w.drawn<=w'.drawn
def Gr.refl (w:I):Gr w w:=⟨Below.refl _ _,AK _⟩
def Gr.trans {a b c:I}(h:Gr a b)(k:Gr b c):Gr a c:=⟨h.Li.trans (k.Li.LT h.Li.size),AU h.drawn k.drawn⟩
def Gr.size {w w':I}(h:Gr w w'):w.L.size<=w'.L.size:=h.Li.size
def Gr.LK {w w':I}(h:Gr w w')(o:Obj):Gr w (w'.LK o):=⟨h.Li.LK h.size o,h.drawn⟩
def Gr.drew {w w':I}(h:Gr w w'):Gr w w'.drew:=⟨h.Li.drew,C3 h.drawn⟩
def Gr.drewN {w w':I}(h:Gr w w')(n:Nat):Gr w (w'.drewN n):=⟨⟨h.Li.os,h.Li.tape,h.Li.output,h.Li.size,h.Li.LE⟩,AU h.drawn (Nat.le_add_right _ _)⟩
def Gr.LH {w w':I}(h:Gr w w'){p:cw}(hp:w.L.size<=p.LE)(v:cq):Gr w (w'.LH p v):=⟨h.Li.LH hp v,h.drawn⟩
def Gr.Lo {w w' w1:I}(h:Gr w w'){row:Option Nat}(hg:w'.grownBy w1 row)(hd:w'.drawn<=w1.drawn)(hr:∀k,row=Y k->w.L.size<=k):Gr w w1 :=
 ⟨h.Li.Lo hg h.size hr,AU h.drawn hd⟩
def Gr.cell {w w':I}(h:Gr w w'){p:cw}(hp:p.LE<w.L.size):w'.S p=w.S p:=h.Li.cell hp
def Gr.frozen {w w':I}(h:Gr w w'){p:cw}(hp:p.LE<w.L.size):w'.O p=w.O p:=h.Li.frozen hp
def RI (w:I)(B:Nat)(A:Option cw)(l:List Int):Prop :=
 l≠[]->∃b o,A=Y ⟨b,o,U⟩/\b<B/\∀i x,l[i]?=Y x->w.S ⟨b,o+i,U⟩=Y (E D x)
def RI.nil {w:I}{B:Nat}{A:Option cw}:RI w B A []:=λh=>AS rfl h
def RI.keep {w w':I}{B:Nat}{A:Option cw}{l:List Int}(h:RI w B A l)(hk:∀b o,b<B->w'.S ⟨b,o,U⟩=w.S ⟨b,o,U⟩):RI w' B A l:=λhn=>by
 obtain⟨b,o,e,hb,hc⟩:=h hn;exact⟨b,o,e,hb,λi x hx=>(hk _ _ hb).trans (hc i x hx)⟩
def RI.gr {w w':I}{B:Nat}{A:Option cw}{l:List Int}(h:RI w B A l)(hB:B<=w.L.size)(hg:Gr w w'):RI w' B A l:=h.keep λ_ _ hb=>hg.cell (AO hb hB)
def RI.more {w:I}{B B':Nat}{A:Option cw}{l:List Int}(h:RI w B A l)(hB:B<=B'):RI w B' A l:=λhn=>by
 obtain⟨b,o,e,hb,hc⟩:=h hn;exact⟨b,o,e,by omega,hc⟩
def RI.at_ {w:I}{B:Nat}{A:Option cw}{l:List Int}(h:RI w B A l){k:Nat}(hk:k<l.L):∃b o,A=Y ⟨b,o,U⟩/\b<B/\w.S ⟨b,o+k,U⟩=Y (E D (l[k]?.LH 0)):=by
 obtain⟨b,o,e,hb,hc⟩:=h (λe=>by subst e;simp at hk);exact⟨b,o,e,hb,by rw[AL hk];exact hc k _ (AL hk)⟩
def Dx {w:I}{base:Nat}{v:cq}{l:List Int}(h:w.H base 3 1 v l.L (l.map (E D))):∃A c,v=bk A l.L c/\RI w w.L.size A l:=by
 obtain⟨rfl,h0⟩|⟨g,cap,cur,rfl,_,hg,_⟩:=h.2
 .have:l.L=0:=by simpa using h0
  have:l=[]:=Bp this;subst this;exact⟨U,0,rfl,.nil⟩
 .refine⟨_,cap,rfl,λ_=>⟨g,0,rfl,(AJ.1 hg).1,λi x hx=>?_⟩⟩;have:=h.cells (g:=g) rfl i (E D x) (by rw[Bv,hx];rfl);have e:(⟨g,0,U⟩:cw).add i=⟨g,0+i,U⟩:=by unfold Addr.add;split<;>simp_all
  rwa [e] at this
def MJ (w:I)(B b o:Nat)(h:EZ):Prop :=
 w.S ⟨b,o,U⟩=Y (E D h.heads)/\w.S ⟨b,o+1,U⟩=Y (E D h.FL)/\w.S ⟨b,o+2,U⟩=Y (E D h.most) /\
  ∃A c,w.S ⟨b,o+3,U⟩=Y (bk A h.off.L c)/\RI w B A h.off
def Fe (w:I)(B:Nat)(A:Option cw)(l:List EZ):Prop :=
 l≠[]->∃b o,A=Y ⟨b,o,U⟩/\b<B/\∀i h,l[i]?=Y h->MJ w B b (o+i*4) h
def MJ.keep {w w':I}{B b o:Nat}{h:EZ}(ha:MJ w B b o h)(hb:b<B)(hk:∀b o,b<B->w'.S ⟨b,o,U⟩=w.S ⟨b,o,U⟩):MJ w' B b o h:=by
 obtain⟨h1,h2,h3,A,c,h4,h5⟩:=ha;exact⟨(hk _ _ hb).trans h1,(hk _ _ hb).trans h2,(hk _ _ hb).trans h3,A,c,(hk _ _ hb).trans h4,h5.keep hk⟩
def Fe.keep {w w':I}{B:Nat}{A:Option cw}{l:List EZ}(h:Fe w B A l)(hk:∀b o,b<B->w'.S ⟨b,o,U⟩=w.S ⟨b,o,U⟩):Fe w' B A l:=λhn=>by
 obtain⟨b,o,e,hb,hc⟩:=h hn;exact⟨b,o,e,hb,λi h hi=>(hc i h hi).keep hb hk⟩
def Fe.at_ {w:I}{B:Nat}{A:Option cw}{c:Ek}(h:Fe w B A c.D8){i:Nat}(hi:i<c.D8.L):∃b o,A=Y ⟨b,o,U⟩/\b<B/\MJ w B b (o+i*4) (c.h i):=by
 obtain⟨b,o,e,hb,hc⟩:=h (λe=>by rw[e] at hi;simp at hi);exact⟨b,o,e,hb,hc i _ (by unfold Ek.h;rw[AL hi];rfl)⟩
structure F0 (w:I)(B cb:Nat)(c:Ek)(nA hA:Option cw)(nc hc:Nat):Prop where
 lt:cb<B
 c0:w.S ⟨cb,0,U⟩=Y (bk nA c.D9.L nc)
 c1:w.S ⟨cb,1,U⟩=Y (bk hA c.D8.L hc)
 D9:RI w B nA c.D9
 Gj:Fe w B hA c.D8
def F0.keep {w w':I}{B cb:Nat}{c:Ek}{nA hA:Option cw}{nc hc:Nat}(h:F0 w B cb c nA hA nc hc)(hk:∀b o,b<B->w'.S ⟨b,o,U⟩=w.S ⟨b,o,U⟩):F0 w' B cb c nA hA nc hc :=
 ⟨h.lt,(hk _ _ h.lt).trans h.c0,(hk _ _ h.lt).trans h.c1,h.D9.keep hk,h.Gj.keep hk⟩
def F0.gr {w w':I}{B cb:Nat}{c:Ek}{nA hA:Option cw}{nc hc:Nat}(h:F0 w B cb c nA hA nc hc)(hB:B<=w.L.size)(hg:Gr w w'):F0 w' B cb c nA hA nc hc :=
 h.keep λ_ _ hb=>hg.cell (AO hb hB)
def Hn (w:I)(B br:Nat)(r:Nat->Nat):Prop:=br<B/\∀i,i<5->w.S ⟨br,i,U⟩=Y (.int .u8 (r i))
def Hn.keep {w w':I}{B br:Nat}{r:Nat->Nat}(h:Hn w B br r)(hk:∀b o,b<B->w'.S ⟨b,o,U⟩=w.S ⟨b,o,U⟩):Hn w' B br r:=⟨h.1,λi hi=>(hk _ _ h.1).trans (h.2 i hi)⟩
def Hn.gr {w w':I}{B br:Nat}{r:Nat->Nat}(h:Hn w B br r)(hB:B<=w.L.size)(hg:Gr w w'):Hn w' B br r:=h.keep λ_ _ hb=>hg.cell (AO hb hB)
def MJ.more {w:I}{B B' b o:Nat}{h:EZ}(ha:MJ w B b o h)(hB:B<=B'):MJ w B' b o h:=by
 obtain⟨h1,h2,h3,A,c,h4,h5⟩:=ha;exact⟨h1,h2,h3,A,c,h4,h5.more hB⟩
def Fe.more {w:I}{B B':Nat}{A:Option cw}{l:List EZ}(h:Fe w B A l)(hB:B<=B'):Fe w B' A l:=λhn=>by
 obtain⟨b,o,e,hb,hc⟩:=h hn;exact⟨b,o,e,AO hb hB,λi h hi=>(hc i h hi).more hB⟩
def F0.more {w:I}{B B' cb:Nat}{c:Ek}{nA hA:Option cw}{nc hc:Nat}(h:F0 w B cb c nA hA nc hc)(hB:B<=B'):F0 w B' cb c nA hA nc hc :=
 ⟨AO h.lt hB,h.c0,h.c1,h.D9.more hB,h.Gj.more hB⟩
def Hn.more {w:I}{B B' br:Nat}{r:Nat->Nat}(h:Hn w B br r)(hB:B<=B'):Hn w B' br r:=⟨AO h.1 hB,h.2⟩
def F0.on {w w':I}{cb:Nat}{c:Ek}{nA hA:Option cw}{nc hc:Nat}(h:F0 w w.L.size cb c nA hA nc hc)(hg:Gr w w'):F0 w' w'.L.size cb c nA hA nc hc:=(h.gr (AK _) hg).more hg.size
def Hn.on {w w':I}{br:Nat}{r:Nat->Nat}(h:Hn w w.L.size br r)(hg:Gr w w'):Hn w' w'.L.size br r:=(h.gr (AK _) hg).more hg.size
def Ot {w:I}{B:Nat}{u0 u1 u2:cq}(h0:w.S ⟨B,0,U⟩=Y u0)(h1:w.S ⟨B,1,U⟩=Y u1)(h2:w.S ⟨B,2,U⟩=Y u2) :
  (∀v,(w.LH ⟨B,0,U⟩ v).S ⟨B,0,U⟩=Y v)/\(∀u v,((w.LH ⟨B,0,U⟩ u).LH ⟨B,1,U⟩ v).S ⟨B,1,U⟩=Y v) /\
   ∀u x v,(((w.LH ⟨B,0,U⟩ u).LH ⟨B,1,U⟩ x).LH ⟨B,2,U⟩ v).S ⟨B,2,U⟩=Y v:=by
 have e1:∀u,(w.LH ⟨B,0,U⟩ u).S ⟨B,1,U⟩=Y u1:=λu=>by rw[cu _ _ _ _ (by simp)];exact h1
 have e2:∀u x,((w.LH ⟨B,0,U⟩ u).LH ⟨B,1,U⟩ x).S ⟨B,2,U⟩=Y u2:=λu x=>by rw[cu _ _ _ _ (by simp),cu _ _ _ _ (by simp)];exact h2
 exact⟨λv=>bD _ _ _ h0,λu v=>bD _ _ _ (e1 u),λu x v=>bD _ _ _ (e2 u x)⟩
def al {k:IntKind}{a b:Int}(h:a=b):bA (.int k a)=.L (.int k b):=by rw[h]
def aq {a b:Bool}(h:a=b):bA (.bool a)=.L (.bool b):=by rw[h]
variable {P:Program}
def EL {w:I}{ops:Array oh}{rest:List oh}{o:oh}{a:Act}{Q:Exit->Act->I->Prop}(hgd:o.guard=U)(s x:Operand)(t:vN)
  (ho:o.op=.call { callee:=.builtin .append,args:=#[s,x],argTypes:=#[t,t] })
  (base:Nat) (e:vN) (i:TypeInfo) (z:cq) (size bytes:Nat) (ht:P.LH t=Y (.slice e)) (hi:P.info? e=Y i) (hz:i.zero=Y z)
  (hsize:i.size=size) (hby:i.bytes=bytes) (hzs:z.cells.size=size) (zv:0<size)
  (v:cq) (n:Nat) (xs:List cq) (hs:a.eval s=v) (zl:w.H base e size v n xs)
  (ad:cw) (m c:Nat) (news:List cq) (hx:a.eval x=.slice (Y ad) m c) (hl:news.L=m*size) (hnews:∀j u,news[j]?=Y u->w.S (ad.add j)=Y u) (h1:∀u∈news,u.oneCell'=bb)
  (h63:n+m<=maxLen) (hbytes:(n+m)*bytes<=140737488355328) (hbase:base<=w.L.size)
  (h:∀v' w',w'.H base e size v' (n+m) (xs++news)->w.grownBy w' v.L->w.drawn<=w'.drawn->wpList P ops Q rest (a.put o.L v') w'):wpList P ops Q (o::rest) a w:=by
 refine wpList_plain hgd λK hK=>?_;obtain⟨v',w',hr,h2,h3,h4⟩:=run_append_own (P:=P) w base t o.type e i z size bytes ht hi hz hsize hby hzs zv v n xs zl ad m c news hl hnews h1 h63 hbytes hbase;have hd:=Go.EB.Gh P (Builtin.append_ #[t,t] o.type #[v,.slice (Y ad) m c]) w #[];rw[Sem.runT_fst,hr] at hd;unfold Oper.wp eG;simp only[ho,resolve,invoke,builtin,Sem.run_bind,Sem.run_pure,Result.andThen_ok,C4,Ci,CX,hs,hx,hr]
 exact hK _ _ (h v' w' h2 h3 hd)
def AM:=@World.cell?_alloc_at
def AW:=@cu
def A7:=@World.cell?_of_block
def Ba:=@bD
def Bb:=@Below.heap_setCell
def Bi:=@World.cell?_alloc_past
def Bs:=@World.ownsRow_nil
def BG:=@World.frozen?_setCell
def BK:=@World.frozen?_alloc_at
def B6:=@World.size_alloc
def Cc:=@World.frozen?_of_block
def Cj:=@Below.heap_alloc
def CL:=@World.frozen?_alloc_past
def C0:=@World.ownsRow_made
end Go.Sq

namespace Go.Sq
open Go.Proofs
open Go.RowKit
def vI:∀x:Fin 16,∀h:Fin 4,(bits BinOp.and IntKind.u8 ((x.val:Int) / 2 ^ h.val) 1==1)=x.val.L h.val:=by decide
def jB (x h:Nat)(w:I)(hx:x<16)(hh:h<4):cF D7 80 #[.int .u8 x,E D h] w λe w'=>e=.L (.bool (x.L h))/\w=w':=by
 go_enter Sq.func80,Tryz.ntmps80;go_wp2;go_ret;have:=vI ⟨x,hx⟩ ⟨h,hh⟩;refine⟨?_,rfl⟩;show bA (.bool _)=_;rw[this]
def pG (x k:Nat):below x (k+1)=below x k++if x.L k then[(k:Int)] else[]:=by
 unfold below;rw[C6,CY,Cx];cases h:x.L k<;>simp[h]
def tH (x k:Nat):(below x k).L<=k:=by
 unfold below;rw[BD];exact AU (Da _ _) (by simp)
def DD:(D7.info? 3).map (λi=>(i.zero,i.size,i.bytes))=Y (Y (E D 0),1,8):=by
 rw[Dy];kernel_rfl
def gY (x:Nat)(w:I)(hx:x<16):cF D7 46 #[.int .u8 x] w λe w' =>
  ∃v,e=.L v/\w'.H w.L.size 3 1 v (wl x).L ((wl x).map (E D))/\Gr w w':=by
 obtain⟨i0,hi,zF,zE,zD⟩:=info_parts DD;go_enter Sq.func46,Tryz.ntmps46;go_wp2;go_loopw [3,5] (λv i wr=>∃k:Nat,k<=4/\i=E D k/\wr.H w.L.size 3 1 v (below x k).L ((below x k).map (E D))/\Gr w wr) (λ_ i _=>4-(bW i).L)
 case atStart=>exact⟨0,by omega,rfl,Bs w _ _ _,Gr.refl w⟩
 case round =>
  obtain⟨k,hk,rfl,zl,zV⟩:=hrel;have zX:=tH x k;have hs:=pG x k;by_cases zY:k<4
  .have hw:=zV.size;cases hb:x.L k with
   |true =>
    have HS:Hid (below x (k+1)=below x k++[(k:Int)]):=by rw[hs,hb];rfl
    have hc:cF D7 80 #[.int .u8 x,E D k] wr λe w'=>e=.L (.bool bb)/\wr=w':=by rw[<-hb];exact jB x k wr hx zY
    go_wp2_with (first|(go_at_call 80;refine hc.LT ?_;rintro e w' ⟨rfl,rfl⟩)|(at_builtin;refine EL rfl _ _ 22 rfl w.L.size 3 i0 (E D 0) 1 8 Sq.underlying22 hi zF zE zD rfl (by decide) _ _ _ rfl (zl.LK _) ⟨wr.L.size,0,U⟩ 1 1 [E D k] rfl rfl ?c1 ?c2 ?c3 ?c4 ?c5 ?_))
    case c1 =>
     intro j u hj
     match j,hj with
     |0,hj=>simp at hj;subst hj;simp[Addr.add]
    case c2=>intro u hu;simp at hu;subst hu;rfl
    case c3=>unfold maxLen;omega
    case c4=>omega
    case c5=>simp;omega
    intro v' w1 hown' hgrow hd;have R:w1.H w.L.size 3 1 v' (below x (k+1)).L ((below x (k+1)).map (E D))/\Gr w w1 :=
     ⟨by rw[HS.out];simpa using hown',(zV.LK _).Lo hgrow hd λj hj=>(zl.lt j hj).1⟩
    go_wp2;go_roundw
    case rel=>exact⟨k+1,by omega,by go_num,R.1,R.2⟩
    case measure=>simp[Proofs.intOf];omega
   |false =>
    have HS:=AI (show below x (k+1)=below x k by rw[hs,hb];simp);have hc:cF D7 80 #[.int .u8 x,E D k] wr λe w'=>e=.L (.bool M)/\wr=w':=by rw[<-hb];exact jB x k wr hx zY
    go_wp2_with (go_at_call 80;refine hc.LT ?_;rintro e w' ⟨rfl,rfl⟩);go_roundw
    case rel=>exact⟨k+1,by omega,by go_num,by rw[HS.out];exact zl,zV⟩
    case measure=>simp[Proofs.intOf];omega
  .have:k=4:=by omega
   subst this;go_wp2;go_ret;exact⟨_,rfl,zl,zV⟩
def kF (x:Int)(w:I):cF D7 142 #[E D x] w λe w'=>e=.L (.bool M)/\w=w':=by
 go_enter Sq.func142,Tryz.ntmps142;go_wp2;go_ret;simp
def pH (a b:Int)(w:I):cF D7 102 #[E D a,E D b] w λe w'=>e=.L (E D (dW a b))/\w=w':=by
 by_cases h1:a<b
 .have HS:=AI (show dW a b=-1 by simp[dW,h1]);go_enter Sq.func102,gR;go_wp2_with (go_at_call 142;refine(kF _ _).LT ?_;rintro e w' ⟨rfl,rfl⟩);go_ret;exact⟨al HS.out.LH,rfl⟩
 .by_cases h2:b<a
  .have HS:=AI (show dW a b=1 by simp[dW,h1,h2]);go_enter Sq.func102,gR;go_wp2_with (go_at_call 142;refine(kF _ _).LT ?_;rintro e w' ⟨rfl,rfl⟩);go_ret;exact⟨al HS.out.LH,rfl⟩
  .have HS:=AI (show dW a b=0 by simp[dW,h1,h2]);go_enter Sq.func102,gR;go_wp2_with (go_at_call 142;refine(kF _ _).LT ?_;rintro e w' ⟨rfl,rfl⟩);go_ret;exact⟨al HS.out.LH,rfl⟩
def RQ (l:List Int)(x:Int)(e:Ending):Prop:=∃j:Int,e=.L (E D j)/\gU (0<=j)=gU (x∈l)
def vJ (A:Option cw)(c:Nat)(l:List Int)(x:Int)(w:I)(B:Nat)(h:RI w B A l)(hl:l.L<=4611686018427387904) :
  cF D7 94 #[bk A l.L c,E D x] w λe w'=>RQ l x e/\w=w':=by
 have HR:=AI h;clear h;go_enter Sq.func94,Tryz.ntmps94;go_wp2;go_loop [8] (λi=>∃k:Nat,k<=l.L/\i=E D k/\x ∉ l.LT k) (λi=>l.L-(bW i).L)
 case atStart=>exact⟨0,by omega,rfl,by simp⟩
 case round =>
  obtain⟨k,hk,rfl,hn⟩:=hrel;by_cases zY:k<l.L
  .obtain⟨b,o,rfl,hb,hc⟩:=HR.out.at_ zY;have HT:=AI (bN 0 l k zY);have hm:=GA l k zY;have HN:=AI hn;clear hn;generalize l[k]?.LH 0=y at hc HT hm;by_cases hy:x=y
   .have zp:((x:Int)==y)=true:=by simpa using hy
    clear hy;go_wp2;go_ret;refine⟨⟨k,rfl,?_⟩,rfl⟩;have:x∈l:=by rw[show x=y by simpa using zp];exact hm
    simp[this]
   .have zp:((x:Int)==y)=false:=by simpa using hy
    go_wp2;go_round
    case rel=>exact⟨k+1,by omega,by go_num,by rw[HT.out];simp[HN.out,hy]⟩
    case measure=>simp[Proofs.intOf];omega
  .have:k=l.L:=by omega
   have HN:=AI hn;clear hn;go_wp2;go_ret;refine⟨⟨-1,rfl,?_⟩,rfl⟩;have h2:=HN.out;rw[Bm (by omega)] at h2;simp[h2]
def jC (A:Option cw)(c:Nat)(l:List Int)(x:Int)(w:I)(B:Nat)(h:RI w B A l)(hl:l.L<=4611686018427387904) :
  cF D7 62 #[bk A l.L c,E D x] w λe w'=>e=.L (.bool (gU (x∈l)))/\w=w':=by
 have HR:=AI h;go_enter Sq.func62,Tryz.ntmps62;go_wp2_with fail;refine(vJ A c l x w B HR.out hl).LT ?_;rintro e w' ⟨⟨j,rfl,hj⟩,rfl⟩;have HJ:=AI hj;go_wp2;go_ret;refine⟨?_,rfl⟩;have:=HJ.out;show bA (.bool _)=_;rw[<-this]
def kZ (A A':Option cw)(c c':Nat)(l m:List Int)(w:I)(B:Nat)(h:RI w B A l)(h':RI w B A' m)(hl:l.L<=4611686018427387904)(hm:m.L<=4611686018427387904) :
  cF D7 71 #[bk A l.L c,bk A' m.L c'] w λe w'=>e=.L (E D (Jh l m))/\w=w':=by
 have HR:=AI h;have a7:=AI h';clear h h';go_enter Sq.func71,Tryz.ntmps71;go_wp2;go_loop [11] (λi=>∃k:Nat,k<=l.L/\k<=m.L/\i=E D k/\Jh l m=Jh (l.drop k) (m.drop k)) (λi=>l.L-(bW i).L)
 case atStart=>exact⟨0,by omega,by omega,rfl,rfl⟩
 case round =>
  obtain⟨k,hk,a8,rfl,hcm⟩:=hrel;have HC:=AI hcm;clear hcm;by_cases zY:k<l.L
  .obtain⟨b,o,rfl,hb,hc⟩:=HR.out.at_ zY;by_cases a6:k<m.L
   .obtain⟨b',o',rfl,hb',hc'⟩:=a7.out.at_ a6;have HD:=AI (re l m k zY a6);generalize l[k]?.LH 0=x at hc HD;generalize m[k]?.LH 0=y at hc' HD;by_cases h1:x<y
    .have HS:=AI (show dW x y=-1 by simp[dW,h1]);have hcc:cF D7 102 #[E D x,E D y] w λe w'=>e=.L (E D (-1))/\w=w':=by rw[<-HS.out];exact pH x y w
     go_wp2_with (go_at_call 102;refine hcc.LT ?_;rintro e w' ⟨rfl,rfl⟩);go_ret;exact⟨al (by rw[HC.out,HD.out,AP h1]),rfl⟩
    .by_cases h2:y<x
     .have HS:=AI (show dW x y=1 by simp[dW,h1,h2]);have hcc:cF D7 102 #[E D x,E D y] w λe w'=>e=.L (E D 1)/\w=w':=by rw[<-HS.out];exact pH x y w
      go_wp2_with (go_at_call 102;refine hcc.LT ?_;rintro e w' ⟨rfl,rfl⟩);go_ret;exact⟨al (by rw[HC.out,HD.out,AN (by omega),AP h2]),rfl⟩
     .have HS:=AI (show dW x y=0 by simp[dW,h1,h2]);have hcc:cF D7 102 #[E D x,E D y] w λe w'=>e=.L (E D 0)/\w=w':=by rw[<-HS.out];exact pH x y w
      go_wp2_with (go_at_call 102;refine hcc.LT ?_;rintro e w' ⟨rfl,rfl⟩);go_round
      case rel=>exact⟨k+1,by omega,by omega,by go_num,by rw[HC.out,HD.out,AN (by omega),AN (by omega)]⟩
      case measure=>simp[Proofs.intOf];omega
   .have:k=m.L:=by omega
    have HS:=AI (show Jh l m=1 by rw[HC.out,dy (l:=m) (by omega)];exact ra _ (by simp;omega));clear this;go_wp2;go_ret;exact⟨al HS.out.LH,rfl⟩
  .have aA:k=l.L:=by omega
   by_cases a6:l.L<m.L
   .have HS:=AI (show Jh l m=-1 by rw[HC.out,dy (l:=l) (by omega),mt,AN (by simp;omega)]);go_wp2;go_ret;exact⟨al HS.out.LH,rfl⟩
   .have HS:=AI (show Jh l m=0 by rw[HC.out,dy (l:=l) (by omega),mt,AP (by simp;omega)]);go_wp2;go_ret;exact⟨al HS.out.LH,rfl⟩
def zh (A:Option cw)(c:Nat)(l:List Int)(w:I)(B:Nat)(h:RI w B A l)(hl:l.L<=1048576)(hx:∀x∈l,0<=x/\x<=1048576) :
  cF D7 44 #[bk A l.L c] w λe w'=>e=.L (E D l.LE)/\w=w':=by
 have HR:=AI h;have HX:=AI hx;go_enter Sq.func44,Tryz.ntmps44;go_wp2;go_loop [3,8] (λs i=>∃k:Nat,k<=l.L/\i=E D k/\s=E D (l.LT k).LE) (λ_ i=>l.L-(bW i).L)
 case atStart=>exact⟨0,by omega,rfl,by simp⟩
 case round =>
  obtain⟨k,hk,rfl,rfl⟩:=hrel;by_cases zY:k<l.L
  .obtain⟨b,o,rfl,hb,hc⟩:=HR.out.at_ zY;have HS:=AI (gw l k zY);have hy:=HX.out _ (GA l k zY);obtain⟨hs1,hs2⟩:=Hx 0 1048576 (l.LT k) λy hy=>HX.out y (Cq hy);have hs3:((l.LT k).L:Int)*1048576<=1048576*1048576:=by
    have:(l.LT k).L<=1048576:=by rw[CV];omega
    omega
   have hs4:0<=(l.LT k).LE:=by omega
   have hs5:(l.LT k).LE<=1099511627776:=by omega
   generalize l[k]?.LH 0=y at hc HS hy;obtain⟨a6,a7⟩:=hy;go_wp2;go_round
   case rel=>exact⟨k+1,by omega,by go_num,by rw[HS.out]⟩
   case measure=>simp[Proofs.intOf];omega
  .have:k=l.L:=by omega
   have HS:=AI (show(l.LT k).LE=l.LE by rw[Bm (by omega)]);clear this;go_wp2;go_ret;exact⟨al HS.out,rfl⟩
def iJ (x:Nat)(w:I)(hx:x<16):cF D7 46 #[.int .u8 x] w λe w' =>
  ∃A c,e=.L (bk A (wl x).L c)/\RI w' w'.L.size A (wl x)/\Gr w w':=(gY x w hx).LT λe w' ⟨v,h1,h2,h3⟩=>by
 obtain⟨A,c,rfl,h4⟩:=Dx h2;exact⟨A,c,h1,h4,h3⟩
def rh (cb:Nat)(c:Ek)(x:Nat)(w:I){nA hA:Option cw}{nc hc:Nat}(h:F0 w w.L.size cb c nA hA nc hc)(h4:c.D8.L<=4)(hd:∀h∈c.D8,1<=h.FL/\h.FL<=5)(hx:c.has x) :
  cF D7 75 #[.S (Y ⟨cb,0,U⟩),.int .u8 x] w λe w'=>e=.L (E D (c.FL x))/\Gr w w':=by
 have HP:=AI h;have HD:=AI hd;have HX:=AI hx;have a8:=Dz h4 hx;go_enter Sq.func75,Tryz.ntmps75;go_wp2_with fail;refine(iJ x w a8).LT ?_;rintro e w1 ⟨A,cc,rfl,aA,zV⟩;have HR:=AI aA;have HG:=AI zV;have a6:=AI (HP.out.gr (AK _) zV);have hl:=dH x;go_wp2;go_loop [5,11] (λs i=>∃k:Nat,k<=(wl x).L/\i=E D k/\s=E D ((c.Ku x).LT k).LE) (λ_ i=>(wl x).L-(bW i).L)
 case atStart=>exact⟨0,by omega,rfl,by simp⟩
 case round =>
  obtain⟨k,hk,rfl,rfl⟩:=hrel;by_cases zY:k<(wl x).L
  .obtain⟨b,o,rfl,hb,hcell⟩:=HR.out.at_ zY;obtain⟨n,hn,a7,aF,aG⟩:=Ng HX.out zY;rw[hn] at hcell;have zo:=a6.out.c0;have zu:=a6.out.c1;obtain⟨zp,ho2,rfl,aC,hh⟩:=a6.out.Gj.at_ a7;obtain⟨-,aD,-,-⟩:=hh;have HS:=AI ((gw (c.Ku x) k (by rw[c.KF];exact zY)).trans (by rw[c.Pp zY hn]));obtain⟨hs1,hs2⟩:=Nh c HX.out HD.out k;obtain⟨aH,aI⟩:=HD.out _ (c.I9 a7);have HN:=AI hn
   go_wp2;go_round
   case rel=>exact⟨k+1,by omega,by go_num,by rw[HS.out]⟩
   case measure=>simp[Proofs.intOf];omega
  .have aB:k=(wl x).L:=by omega
   have HS:=AI (show((c.Ku x).LT k).LE=c.FL x by rw[Bm (by rw[c.KF];omega)];rfl);clear aB;go_wp2;go_ret;exact⟨al HS.out,HG.out⟩
def vy (cb br n night:Nat)(c:Ek)(w:I){nA hA:Option cw}{nc hc:Nat}(h:F0 w w.L.size cb c nA hA nc hc)(hn:n<c.D8.L)(ho:(c.h n).off.L<=5)(a8:n<4) :
  cF D7 107 #[.S (Y ⟨cb,0,U⟩),.S (Y ⟨br,0,U⟩),E D night,E D n] w λe w'=>e=.L (.bool (QU c night n))/\w=w':=by
 have zu:=h.c1;obtain⟨b,o,rfl,zY,hh⟩:=h.Gj.at_ hn;obtain⟨-,-,-,A,cc,a7,a6⟩:=hh;have HC:=AI (jC A cc (c.h n).off night w w.L.size a6 (by omega));go_enter Sq.func107,Tryz.ntmps107;go_wp2_with fail;refine HC.out.LT ?_;rintro e w' ⟨rfl,rfl⟩;go_wp2;go_ret;exact⟨rfl,rfl⟩
def oO (cb br n night:Nat)(r:Nat->Nat)(w:I)(hr:Hn w w.L.size br r)(hn:n<4)(hi:night<5)(hx:r (night-1)<16) :
  cF D7 108 #[.S (Y ⟨cb,0,U⟩),.S (Y ⟨br,0,U⟩),E D night,E D n] w λe w'=>e=.L (.bool (fZ r night n))/\w=w':=by
 obtain h0|h0:=Bw night
 .have HS:=AI (show fZ r night n=M by simp[fZ,h0]);subst h0;go_enter Sq.func108,sS;go_wp2;go_ret;exact⟨aq HS.out.LH,rfl⟩
 .obtain⟨m,rfl⟩:∃m,night=m+1:=⟨night-1,by omega⟩;have HS:=AI (show fZ r (m+1) n=(r m).L n by simp[fZ]);have hc:=hr.2 m (by omega);rw[show m+1-1=m by omega] at hx;have HC:=AI (jB (r m) n w hx hn);go_enter Sq.func108,sS;go_wp2_with fail;refine HC.out.LT ?_;rintro e w' ⟨rfl,rfl⟩;go_wp2;go_ret;exact⟨aq HS.out.LH,rfl⟩
def oP (cb br n night:Nat)(c:Ek)(r:Nat->Nat)(w:I){nA hA:Option cw}{nc hc:Nat}(h:F0 w w.L.size cb c nA hA nc hc)(hr:Hn w w.L.size br r)(hn:n<c.D8.L)(a7:n<4)(hi:night<5)(hx:∀i,r i<16) :
  cF D7 109 #[.S (Y ⟨cb,0,U⟩),.S (Y ⟨br,0,U⟩),E D night,E D n] w λe w'=>e=.L (.bool (rg c r night n))/\w=w':=by
 have HR:=AI hr;have HX:=AI hx;have zu:=h.c1;obtain⟨b,o,rfl,zY,hh⟩:=h.Gj.at_ hn;obtain⟨-,-,hmost,-⟩:=hh;go_enter Sq.func109,Tryz.ntmps109;go_wp2;go_loop [9,12] (λs i=>∃k:Nat,k<=night/\i=E D k/\s=E D (Hz r n k)) (λ_ i=>night-(bW i).L)
 case atStart=>exact⟨0,by omega,rfl,rfl⟩
 case round =>
  obtain⟨k,hk,rfl,rfl⟩:=hrel;have zX:=rf r n k;by_cases zY:k<night
  .have hc:=HR.out.2 k (by omega);have a6:=HX.out k;cases hb:(r k).L n with
   |true =>
    have HC:Hid (cF D7 80 #[.int .u8 (r k),E D n] w λe w'=>e=.L (.bool bb)/\w=w'):=AI (by rw[<-hb];exact jB (r k) n w a6 a7);have HS:=AI (show Hz r n (k+1)=Hz r n k+1 by simp[Hz,hb]);go_wp2_with (go_at_call 80;refine HC.out.LT ?_;rintro e w' ⟨rfl,rfl⟩);go_round
    case rel=>exact⟨k+1,by omega,by go_num,by rw[HS.out];go_num⟩
    case measure=>simp[Proofs.intOf];omega
   |false =>
    have HC:Hid (cF D7 80 #[.int .u8 (r k),E D n] w λe w'=>e=.L (.bool M)/\w=w'):=AI (by rw[<-hb];exact jB (r k) n w a6 a7);have HS:=AI (show Hz r n (k+1)=Hz r n k by simp[Hz,hb]);go_wp2_with (go_at_call 80;refine HC.out.LT ?_;rintro e w' ⟨rfl,rfl⟩);go_round
    case rel=>exact⟨k+1,by omega,by go_num,by rw[HS.out]⟩
    case measure=>simp[Proofs.intOf];omega
  .have a8:k=night:=by omega
   subst a8;go_wp2;go_ret;exact⟨rfl,rfl⟩
def vK (p:Nat->Prop):∀j,j<0->p j:=λ_ h=>AS h (BI _)
def Ji (x:Int×Int×Int):Value:=.agg #[E D x.1,E D x.2.1,E D x.2.2]
def oQ (cb br night:Nat)(c:Ek)(r:Nat->Nat)(w:I){nA hA:Option cw}{nc hc:Nat}(h:F0 w w.L.size cb c nA hA nc hc)(hr:Hn w w.L.size br r)(aO:c.Ok)(hi:night<c.D9.L)(hx:∀i,c.has (r i)) :
  cF D7 82 #[.S (Y ⟨cb,0,U⟩),.S (Y ⟨br,0,U⟩),E D night] w λe w'=>e=.L (Ji (Gq c r night))/\Gr w w':=by
 have HP:=AI h;have HR:=AI hr;have HX:=AI hx;have hbr:=hr.1;have hcb:=h.lt;have b5:=aO.n5;clear h hr hx;go_enter Sq.func82,Tryz.ntmps82;go_wp2;obtain⟨W0,zM⟩:∃W0:I,W0=(w.LK (ek #[E D 0,E D 0,E D 0] 153)).LK (ek #[.func (.func 107) #[] #[],.func (.func 108) #[] #[],.func (.func 109) #[] #[]] 174):=⟨_,rfl⟩;have zL:Gr w W0:=by rw[zM];exact((Gr.refl w).LK _).LK _
 have zF:W0.L.size=w.L.size+2:=by rw[zM];simp
 have aB:Hid (∀w2,Gr W0 w2->(w2.S ⟨w.L.size,0,U⟩=Y (E D 0)/\w2.S ⟨w.L.size,1,U⟩=Y (E D 0)/\w2.S ⟨w.L.size,2,U⟩=Y (E D 0))/\w2.O ⟨w.L.size,0,U⟩=M/\w2.O ⟨w.L.size,1,U⟩=M/\w2.O ⟨w.L.size,2,U⟩=M):=AI λw2 hg=>by
  have e:∀o,w2.S ⟨w.L.size,o,U⟩=(#[E D 0,E D 0,E D 0]:Array cq)[o]?/\w2.O ⟨w.L.size,o,U⟩=false:=λo=>by
   rw[hg.cell (by show w.L.size<_;omega),hg.frozen (by show w.L.size<_;omega),zM,Bi _ _ _ (by simp),AM _ _ _ _ rfl,CL _ _ _ (by simp),BK _ _ _ _ rfl];exact⟨rfl,rfl⟩
  exact⟨⟨(e 0).1,(e 1).1,(e 2).1⟩,(e 0).2,(e 1).2,(e 2).2⟩
 rw[<-zM];clear zM;have h4:=aO.h4;go_loopw [14] (λi wr=>∃k:Nat,k<=3/\i=E D k/\(∀j,j<k->breaks c r night j=U)/\Gr W0 wr) (λi _=>3-(bW i).L)
 case atStart=>exact⟨0,by omega,rfl,vK _,Gr.refl _⟩
 case round =>
  obtain⟨k,hk,rfl,hb,zV⟩:=hrel;have a6:=AI (zL.trans zV);have aJ:=AI zV;clear zV;obtain rfl|rfl|rfl|rfl:k=0\/k=1\/k=2\/k=3:=by omega
  ·
   have aW:∀w,(ng 174 (.agg #[.func (.func 107) #[] #[],.func (.func 108) #[] #[],.func (.func 109) #[] #[]]) (E D 0)).run D7 w=.ok (.func (.func 107) #[] #[]) w:=λ_=>by kernel_rfl
   have a8:=HX.out night;have aP:=Dz h4 a8;have aU:=(HR.out.on a6.out).2 night (by omega);have HL:=AI (iJ (r night) wr aP);have HB:=AI hb;have aA:=AI (HP.out.on a6.out);have aQ:=AI (HR.out.on a6.out);clear hb;go_wp2_with fail;refine HL.out.LT ?_;rintro e w2 ⟨A,cc,rfl,aC,zI⟩;have aR:=AI aC;have aD:=AI (a6.out.trans zI);have aK:=AI (aA.out.on zI);have aL:=AI (aQ.out.on zI);have aF:=AI (aJ.out.trans zI)
   obtain⟨⟨a7,zi,zy⟩,aM,aN,hf2⟩:=aB.out w2 aF.out;have hl:=dH (r night);have zD:=zI.size;clear aC zI;go_wp2;go_loop [25] (λi=>∃k:Nat,k<=(wl (r night)).L/\i=E D k/\((wl (r night)).LT k).find? (λh=>KG c r night 0 h.L)=U) (λi=>(wl (r night)).L-(bW i).L)
   case atStart=>exact⟨0,by omega,rfl,by simp⟩
   case round =>
    obtain⟨k,hk,rfl,hnone⟩:=hrel;have HN:=AI hnone;clear hnone;by_cases zY:k<(wl (r night)).L
    .obtain⟨b,o,rfl,hb,hcell⟩:=aR.out.at_ zY;obtain⟨n,hn,aG,aH,aX⟩:=Ng a8 zY;rw[hn] at hcell;have HE:=AI hn;clear hn;cases hq:KG c r night 0 n with
     |true =>
      have HC:Hid (cF D7 107 #[.S (Y ⟨cb,0,U⟩),.S (Y ⟨br,0,U⟩),E D night,E D n] w2 λe w'=>e=.L (.bool bb)/\w2=w'):=AI (by rw[<-hq];exact vy cb br n night c w2 aK.out aG (aO.off _ (c.I9 aG)).1 aH);have HF:=AI (show breaks c r night 0=Y ((n:Nat):Int) by have:=gy zY HN.out (by rw[HE.out];exact hq);rw[HE.out] at this;exact this);clear hq;go_wp2_with (go_at_call 107;refine HC.out.LT ?_;rintro e w' ⟨rfl,rfl⟩)
      obtain⟨s0,s1,s2⟩:=Ot a7 zi zy;refine dr (v:=Ji (1,night,n)) (by simp[results,dS,go_sem,Ji,s0,s1,s2]) rfl ⟨?_,?_⟩
      .exact Bh bA (Bh Ji (by unfold Gq;skip;rw[HF.out]))
      .exact((aD.out.LH (AK _) _).LH (AK _) _).LH (AK _) _
     |false =>
      have HC:Hid (cF D7 107 #[.S (Y ⟨cb,0,U⟩),.S (Y ⟨br,0,U⟩),E D night,E D n] w2 λe w'=>e=.L (.bool M)/\w2=w'):=AI (by rw[<-hq];exact vy cb br n night c w2 aK.out aG (aO.off _ (c.I9 aG)).1 aH);have HF:=AI (gX zY HN.out (by rw[HE.out];exact hq));clear hq;go_wp2_with (go_at_call 107;refine HC.out.LT ?_;rintro e w' ⟨rfl,rfl⟩);go_round
      case rel=>exact⟨k+1,by omega,by go_num,HF.out⟩
      case measure=>simp[Proofs.intOf];omega
    .have HF:=AI (show breaks c r night 0=U by have:=HN.out;rw[Bm (by omega)] at this;exact this);clear HN;go_wp2;go_roundw
     case rel=>exact⟨1,by omega,by go_num,λj hj=>by
      obtain h|rfl:=BU (Ce hj)
      .exact HB.out j h
      .exact HF.out,aF.out⟩
     case measure=>simp[Proofs.intOf]
  ·
   have aW:∀w,(ng 174 (.agg #[.func (.func 107) #[] #[],.func (.func 108) #[] #[],.func (.func 109) #[] #[]]) (E D 1)).run D7 w=.ok (.func (.func 108) #[] #[]) w:=λ_=>by kernel_rfl
   have a8:=HX.out night;have aP:=Dz h4 a8;have aU:=(HR.out.on a6.out).2 night (by omega);have HL:=AI (iJ (r night) wr aP);have HB:=AI hb;have aA:=AI (HP.out.on a6.out);have aQ:=AI (HR.out.on a6.out);clear hb;go_wp2_with fail;refine HL.out.LT ?_;rintro e w2 ⟨A,cc,rfl,aC,zI⟩;have aR:=AI aC;have aD:=AI (a6.out.trans zI);have aK:=AI (aA.out.on zI);have aL:=AI (aQ.out.on zI);have aF:=AI (aJ.out.trans zI)
   obtain⟨⟨a7,zi,zy⟩,aM,aN,hf2⟩:=aB.out w2 aF.out;have hl:=dH (r night);have zD:=zI.size;clear aC zI;go_wp2;go_loop [25] (λi=>∃k:Nat,k<=(wl (r night)).L/\i=E D k/\((wl (r night)).LT k).find? (λh=>KG c r night 1 h.L)=U) (λi=>(wl (r night)).L-(bW i).L)
   case atStart=>exact⟨0,by omega,rfl,by simp⟩
   case round =>
    obtain⟨k,hk,rfl,hnone⟩:=hrel;have HN:=AI hnone;clear hnone;by_cases zY:k<(wl (r night)).L
    .obtain⟨b,o,rfl,hb,hcell⟩:=aR.out.at_ zY;obtain⟨n,hn,aG,aH,aX⟩:=Ng a8 zY;rw[hn] at hcell;have HE:=AI hn;clear hn;cases hq:KG c r night 1 n with
     |true =>
      have HC:Hid (cF D7 108 #[.S (Y ⟨cb,0,U⟩),.S (Y ⟨br,0,U⟩),E D night,E D n] w2 λe w'=>e=.L (.bool bb)/\w2=w'):=AI (by rw[<-hq];exact oO cb br n night r w2 aL.out aH (by omega) (Dz h4 (HX.out _)));have HF:=AI (show breaks c r night 1=Y ((n:Nat):Int) by have:=gy zY HN.out (by rw[HE.out];exact hq);rw[HE.out] at this;exact this);clear hq;go_wp2_with (go_at_call 108;refine HC.out.LT ?_;rintro e w' ⟨rfl,rfl⟩)
      obtain⟨s0,s1,s2⟩:=Ot a7 zi zy;refine dr (v:=Ji (2,night,n)) (by simp[results,dS,go_sem,Ji,s0,s1,s2]) rfl ⟨?_,?_⟩
      .exact Bh bA (Bh Ji (by unfold Gq;skip;rw[HB.out 0 (by omega)];rw[HF.out]))
      .exact((aD.out.LH (AK _) _).LH (AK _) _).LH (AK _) _
     |false =>
      have HC:Hid (cF D7 108 #[.S (Y ⟨cb,0,U⟩),.S (Y ⟨br,0,U⟩),E D night,E D n] w2 λe w'=>e=.L (.bool M)/\w2=w'):=AI (by rw[<-hq];exact oO cb br n night r w2 aL.out aH (by omega) (Dz h4 (HX.out _)));have HF:=AI (gX zY HN.out (by rw[HE.out];exact hq));clear hq;go_wp2_with (go_at_call 108;refine HC.out.LT ?_;rintro e w' ⟨rfl,rfl⟩);go_round
      case rel=>exact⟨k+1,by omega,by go_num,HF.out⟩
      case measure=>simp[Proofs.intOf];omega
    .have HF:=AI (show breaks c r night 1=U by have:=HN.out;rw[Bm (by omega)] at this;exact this);clear HN;go_wp2;go_roundw
     case rel=>exact⟨2,by omega,by go_num,λj hj=>by
      obtain h|rfl:=BU (Ce hj)
      .exact HB.out j h
      .exact HF.out,aF.out⟩
     case measure=>simp[Proofs.intOf]
  ·
   have aW:∀w,(ng 174 (.agg #[.func (.func 107) #[] #[],.func (.func 108) #[] #[],.func (.func 109) #[] #[]]) (E D 2)).run D7 w=.ok (.func (.func 109) #[] #[]) w:=λ_=>by kernel_rfl
   have a8:=HX.out night;have aP:=Dz h4 a8;have aU:=(HR.out.on a6.out).2 night (by omega);have HL:=AI (iJ (r night) wr aP);have HB:=AI hb;have aA:=AI (HP.out.on a6.out);have aQ:=AI (HR.out.on a6.out);clear hb;go_wp2_with fail;refine HL.out.LT ?_;rintro e w2 ⟨A,cc,rfl,aC,zI⟩;have aR:=AI aC;have aD:=AI (a6.out.trans zI);have aK:=AI (aA.out.on zI);have aL:=AI (aQ.out.on zI);have aF:=AI (aJ.out.trans zI)
   obtain⟨⟨a7,zi,zy⟩,aM,aN,hf2⟩:=aB.out w2 aF.out;have hl:=dH (r night);have zD:=zI.size;clear aC zI;go_wp2;go_loop [25] (λi=>∃k:Nat,k<=(wl (r night)).L/\i=E D k/\((wl (r night)).LT k).find? (λh=>KG c r night 2 h.L)=U) (λi=>(wl (r night)).L-(bW i).L)
   case atStart=>exact⟨0,by omega,rfl,by simp⟩
   case round =>
    obtain⟨k,hk,rfl,hnone⟩:=hrel;have HN:=AI hnone;clear hnone;by_cases zY:k<(wl (r night)).L
    .obtain⟨b,o,rfl,hb,hcell⟩:=aR.out.at_ zY;obtain⟨n,hn,aG,aH,aX⟩:=Ng a8 zY;rw[hn] at hcell;have HE:=AI hn;clear hn;cases hq:KG c r night 2 n with
     |true =>
      have HC:Hid (cF D7 109 #[.S (Y ⟨cb,0,U⟩),.S (Y ⟨br,0,U⟩),E D night,E D n] w2 λe w'=>e=.L (.bool bb)/\w2=w'):=AI (by rw[<-hq];exact oP cb br n night c r w2 aK.out aL.out aG aH (by omega) λi=>Dz h4 (HX.out i));have HF:=AI (show breaks c r night 2=Y ((n:Nat):Int) by have:=gy zY HN.out (by rw[HE.out];exact hq);rw[HE.out] at this;exact this);clear hq
      go_wp2_with (go_at_call 109;refine HC.out.LT ?_;rintro e w' ⟨rfl,rfl⟩);obtain⟨s0,s1,s2⟩:=Ot a7 zi zy;refine dr (v:=Ji (3,night,n)) (by simp[results,dS,go_sem,Ji,s0,s1,s2]) rfl ⟨?_,?_⟩
      .exact Bh bA (Bh Ji (by unfold Gq;skip;rw[HB.out 0 (by omega)];rw[HB.out 1 (by omega)];rw[HF.out]))
      .exact((aD.out.LH (AK _) _).LH (AK _) _).LH (AK _) _
     |false =>
      have HC:Hid (cF D7 109 #[.S (Y ⟨cb,0,U⟩),.S (Y ⟨br,0,U⟩),E D night,E D n] w2 λe w'=>e=.L (.bool M)/\w2=w'):=AI (by rw[<-hq];exact oP cb br n night c r w2 aK.out aL.out aG aH (by omega) λi=>Dz h4 (HX.out i));have HF:=AI (gX zY HN.out (by rw[HE.out];exact hq));clear hq;go_wp2_with (go_at_call 109;refine HC.out.LT ?_;rintro e w' ⟨rfl,rfl⟩)
      go_round
      case rel=>exact⟨k+1,by omega,by go_num,HF.out⟩
      case measure=>simp[Proofs.intOf];omega
    .have HF:=AI (show breaks c r night 2=U by have:=HN.out;rw[Bm (by omega)] at this;exact this);clear HN;go_wp2;go_roundw
     case rel=>exact⟨3,by omega,by go_num,λj hj=>by
      obtain h|rfl:=BU (Ce hj)
      .exact HB.out j h
      .exact HF.out,aF.out⟩
     case measure=>simp[Proofs.intOf]
  ·
   have a8:=HX.out night;have aU:=(HR.out.on a6.out).2 night (by omega);have HB:=AI hb;have aA:=AI (HP.out.on a6.out);obtain⟨⟨a7,zi,zy⟩,aM,aN,hf2⟩:=aB.out wr aJ.out;have zo:=aA.out.c0;obtain⟨nb,no,rfl,aY,aI⟩:=aA.out.D9.at_ hi;have HD:=AI (rh cb c (r night) wr.drew (aA.out.on (Gr.refl wr).drew) h4 aO.FL a8);have aS:=AI (show Gq c r night=if c.FL (r night)<c.need night then(4,(night:Int),-1) else(0,-1,-1) by unfold Gq;rw[HB.out 0 (by omega),HB.out 1 (by omega),HB.out 2 (by omega)])
   have aT:cb<wr.L.size:=aA.out.lt;have hWlt:w.L.size<wr.L.size:=by have:=aJ.out.size;omega
   have aZ:=AI ((a6.out.drew));have aD:=AI ((aJ.out.drew));clear hb a7 zi zy aM aN hf2;change wr.S ⟨nb,no+night,U⟩=Y (E D (c.need night)) at aI;generalize c.need night=m at aI aS;generalize c.FL (r night)=d at HD aS;by_cases hdm:d<m
   .have HL:=AI (show Gq c r night=(4,(night:Int),-1) by rw[aS.out,AP hdm]);clear aS;go_wp2;go_region_with (first|(go_at_call 75;refine HD.out.LT ?_;rintro e w3 ⟨rfl,zH⟩;have q0:=(zH.cell (p:=⟨cb,0,U⟩) aT).trans zo;have q1:=(zH.cell (p:=⟨nb,no+night,U⟩) aY).trans aI;have aV:=AI (aZ.out.trans zH);obtain⟨⟨a7,zi,zy⟩,aM,aN,hf2⟩:=aB.out w3 (aD.out.trans zH);clear zH))
    all_goals
     go_wp2;obtain⟨s0,s1,s2⟩:=Ot a7 zi zy;refine dr (v:=Ji (4,night,-1)) (by simp[results,dS,go_sem,Ji,s0,s1,s2]) rfl ⟨?_,?_⟩
     .exact Bh bA (Bh Ji HL.out.LH)
     .exact((aV.out.LH (AK _) _).LH (AK _) _).LH (AK _) _
   .have HL:=AI (show Gq c r night=(0,-1,-1) by rw[aS.out,AN hdm]);go_wp2;go_region_with (first|(go_at_call 75;refine HD.out.LT ?_;rintro e w3 ⟨rfl,zH⟩;have q0:=(zH.cell (p:=⟨cb,0,U⟩) aT).trans zo;have q1:=(zH.cell (p:=⟨nb,no+night,U⟩) aY).trans aI;have aV:=AI (aZ.out.trans zH);obtain⟨⟨a7,zi,zy⟩,aM,aN,hf2⟩:=aB.out w3 (aD.out.trans zH);clear zH))
    all_goals
     go_wp2;obtain⟨s0,s1,s2⟩:=Ot a7 zi zy;refine dr (v:=Ji (0,-1,-1)) (by simp[results,dS,go_sem,Ji,s0,s1,s2]) rfl ⟨?_,?_⟩
     .exact Bh bA (Bh Ji HL.out.LH)
     .exact((aV.out.LH (AK _) _).LH (AK _) _).LH (AK _) _
structure KT (T:Nat->Prop)(w w':I):Prop where
 os:w'.os=w.os
 tape:w'.tape=w.tape
 output:w'.output=w.output
 drawn:w.drawn<=w'.drawn
 size:w.L.size<=w'.L.size
 LE:∀b,b<w.L.size->¬T b->w'.L[b]?=w.L[b]?
def KT.refl (T:Nat->Prop)(w:I):KT T w w:=⟨rfl,rfl,rfl,AK _,AK _,λ_ _ _=>rfl⟩
def KT.trans {T:Nat->Prop}{a b c:I}(h:KT T a b)(k:KT T b c):KT T a c :=
 ⟨k.os.trans h.os,k.tape.trans h.tape,k.output.trans h.output,AU h.drawn k.drawn,AU h.size k.size,λx hx hT=>(k.LE x (AO hx h.size) hT).trans (h.LE x hx hT)⟩
def KT.E3 {T:Nat->Prop}{w w':I}(h:Gr w w'):KT T w w':=⟨h.Li.os,h.Li.tape,h.Li.output,h.drawn,h.size,λb hb _=>h.Li.LE b hb⟩
def KT.LT {T T':Nat->Prop}{w w':I}(h:KT T w w')(hT:∀b,T b->T' b):KT T' w w':=⟨h.os,h.tape,h.output,h.drawn,h.size,λb hb hn=>h.LE b hb λt=>hn (hT b t)⟩
def KT.LH {T:Nat->Prop}(w:I){p:cw}(hp:T p.LE)(v:cq):KT T w (w.LH p v) :=
 ⟨rfl,rfl,rfl,AK _,by simp[s3],λb _ hT=>Bb w p v b λe=>hT (e▸hp)⟩
def KT.LB {T:Nat->Prop}(w:I){l:Nat}(hl:T l)(o:Obj):KT T w (w.LB l o) :=
 ⟨rfl,rfl,rfl,AK _,by simp[World.putObj],λb _ hT=>World.putObj_heap_other λe=>hT (e▸hl)⟩
def KT.cell {T:Nat->Prop}{w w':I}(h:KT T w w'){p:cw}(hp:p.LE<w.L.size)(hT:¬T p.LE):w'.S p=w.S p:=A7 (h.LE _ hp hT)
def KT.frozen {T:Nat->Prop}{w w':I}(h:KT T w w'){p:cw}(hp:p.LE<w.L.size)(hT:¬T p.LE):w'.O p=w.O p:=Cc (h.LE _ hp hT)
def Ie (w:I)(K:Nat->Prop)(A:Option cw)(l:List Int):Prop :=
 l≠[]->∃b o,A=Y ⟨b,o,U⟩/\K b/\∀i x,l[i]?=Y x->w.S ⟨b,o+i,U⟩=Y (E D x)
def MK (w:I)(K:Nat->Prop)(b o:Nat)(h:EZ):Prop :=
 w.S ⟨b,o,U⟩=Y (E D h.heads)/\w.S ⟨b,o+1,U⟩=Y (E D h.FL)/\w.S ⟨b,o+2,U⟩=Y (E D h.most) /\
  ∃A c,w.S ⟨b,o+3,U⟩=Y (bk A h.off.L c)/\Ie w K A h.off
def GK (w:I)(K:Nat->Prop)(A:Option cw)(l:List EZ):Prop :=
 l≠[]->∃b o,A=Y ⟨b,o,U⟩/\K b/\∀i h,l[i]?=Y h->MK w K b (o+i*4) h
structure Gk (w:I)(K:Nat->Prop)(cb:Nat)(c:Ek)(sets:List Nat)(nA hA:Option cw)(nc hc sb sc:Nat):Prop where
 lt:∀b,K b->b<w.L.size
 kc:K cb
 c0:w.S ⟨cb,0,U⟩=Y (bk nA c.D9.L nc)
 c1:w.S ⟨cb,1,U⟩=Y (bk hA c.D8.L hc)
 c2:w.S ⟨cb,2,U⟩=Y (.slice (Y ⟨sb,0,U⟩) sets.L sc)
 ks:K sb
 sets:∀(i x:Nat),sets[i]?=Y x->w.S ⟨sb,i,U⟩=Y (.int .u8 (x:Int))
 D9:Ie w K nA c.D9
 Gj:GK w K hA c.D8
section
variable {w w':I} {K:Nat->Prop} {B:Nat} {A:Option cw}
def Ie.ri {l:List Int}(h:Ie w K A l)(hK:∀b,K b->b<B):RI w B A l:=λhn=>by
 obtain⟨b,o,e,hb,hc⟩:=h hn;exact⟨b,o,e,hK b hb,hc⟩
def MK.hat {b o:Nat}{h:EZ}(ha:MK w K b o h)(hK:∀b,K b->b<B):MJ w B b o h:=by
 obtain⟨h1,h2,h3,A,c,h4,h5⟩:=ha;exact⟨h1,h2,h3,A,c,h4,h5.ri hK⟩
def GK.hs {l:List EZ}(h:GK w K A l)(hK:∀b,K b->b<B):Fe w B A l:=λhn=>by
 obtain⟨b,o,e,hb,hc⟩:=h hn;exact⟨b,o,e,hK b hb,λi h hi=>(hc i h hi).hat hK⟩
def Ie.keep {l:List Int}(h:Ie w K A l)(hk:∀b o,K b->w'.S ⟨b,o,U⟩=w.S ⟨b,o,U⟩):Ie w' K A l:=λhn=>by
 obtain⟨b,o,e,hb,hc⟩:=h hn;exact⟨b,o,e,hb,λi x hx=>(hk _ _ hb).trans (hc i x hx)⟩
def MK.keep {b o:Nat}{h:EZ}(ha:MK w K b o h)(hb:K b)(hk:∀b o,K b->w'.S ⟨b,o,U⟩=w.S ⟨b,o,U⟩):MK w' K b o h:=by
 obtain⟨h1,h2,h3,A,c,h4,h5⟩:=ha;exact⟨(hk _ _ hb).trans h1,(hk _ _ hb).trans h2,(hk _ _ hb).trans h3,A,c,(hk _ _ hb).trans h4,h5.keep hk⟩
def GK.keep {l:List EZ}(h:GK w K A l)(hk:∀b o,K b->w'.S ⟨b,o,U⟩=w.S ⟨b,o,U⟩):GK w' K A l:=λhn=>by
 obtain⟨b,o,e,hb,hc⟩:=h hn;exact⟨b,o,e,hb,λi h hi=>(hc i h hi).keep hb hk⟩
variable {cb:Nat} {c:Ek} {sets:List Nat} {nA hA:Option cw} {nc hc sb sc:Nat}
def Gk.Ou (h:Gk w K cb c sets nA hA nc hc sb sc):F0 w w.L.size cb c nA hA nc hc:=⟨h.lt _ h.kc,h.c0,h.c1,h.D9.ri h.lt,h.Gj.hs h.lt⟩
def Gk.keep (h:Gk w K cb c sets nA hA nc hc sb sc)(hz:w.L.size<=w'.L.size)(hk:∀b o,K b->w'.S ⟨b,o,U⟩=w.S ⟨b,o,U⟩):Gk w' K cb c sets nA hA nc hc sb sc :=
 ⟨λb hb=>AO (h.lt b hb) hz,h.kc,(hk _ _ h.kc).trans h.c0,(hk _ _ h.kc).trans h.c1,(hk _ _ h.kc).trans h.c2,h.ks,λi x hx=>(hk _ _ h.ks).trans (h.sets i x hx),h.D9.keep hk,h.Gj.keep hk⟩
end
abbrev E2:=Nat->Nat
def upd (r:E2)(n x:Nat):E2:=λi=>if i=n then x else r i
def E6 (r:E2):Value:=.agg #[.int .u8 (r 0),.int .u8 (r 1),.int .u8 (r 2),.int .u8 (r 3),.int .u8 (r 4)]
def E4 (c:Ek)(sets:List Nat):Nat->E2->Nat->List E2
 |0,r,_=>[r]
 |k+1,r,n=>sets.O λx=>if(Gq c (upd r n x) n).1=0 then E4 c sets k (upd r n x) (n+1) else[]
structure ME (T K:Nat->Prop)(cb:Nat)(c:Ek)(sets:List Nat)(nA hA:Option cw)(nc hc sb sc bc by_ br bw l:Nat)(r:E2)(w:I):Prop where
 Gs:Gk w K cb c sets nA hA nc hc sb sc
 kt:∀b,K b->¬T b
 xc:w.S ⟨bc,0,U⟩=Y (.S (Y ⟨cb,0,U⟩))/\¬T bc/\bc<w.L.size
 xy:w.S ⟨by_,0,U⟩=Y (.func (.yield l) #[] #[])/\¬T by_/\by_<w.L.size
 xw:w.S ⟨bw,0,U⟩=Y (.func (.func 100) #[] #[.S (Y ⟨bc,0,U⟩),.S (Y ⟨by_,0,U⟩),.S (Y ⟨br,0,U⟩),.S (Y ⟨bw,0,U⟩)])/\¬T bw/\bw<w.L.size
 xr:(∀i,i<5->w.S ⟨br,i,U⟩=Y (.int .u8 (r i))/\w.O ⟨br,i,U⟩=M)/\¬T br/\br<w.L.size
 ne:bc≠br/\by_≠br/\bw≠br/\∀b,K b->b≠br
 rs:∀i,c.has (r i)
section
variable {T K:Nat->Prop} {cb:Nat} {c:Ek} {sets:List Nat} {nA hA:Option cw} {nc hc sb sc bc by_ br bw l:Nat} {r:E2} {w w':I}
def ME.on (h:ME T K cb c sets nA hA nc hc sb sc bc by_ br bw l r w)(k:KT T w w'):ME T K cb c sets nA hA nc hc sb sc bc by_ br bw l r w':=by
 refine⟨h.Gs.keep k.size λb o hb=>k.cell (p:=⟨b,o,U⟩) (h.Gs.lt b hb) (h.kt b hb),h.kt,⟨(k.cell h.xc.2.2 h.xc.2.1).trans h.xc.1,h.xc.2.1,AO h.xc.2.2 k.size⟩,⟨(k.cell h.xy.2.2 h.xy.2.1).trans h.xy.1,h.xy.2.1,AO h.xy.2.2 k.size⟩,
  ⟨(k.cell h.xw.2.2 h.xw.2.1).trans h.xw.1,h.xw.2.1,AO h.xw.2.2 k.size⟩,⟨λi hi=>?_,h.xr.2.1,AO h.xr.2.2 k.size⟩,h.ne,h.rs⟩
 obtain⟨h1,h2⟩:=h.xr.1 i hi;exact⟨(k.cell (p:=⟨br,i,U⟩) h.xr.2.2 h.xr.2.1).trans h1,(k.frozen (p:=⟨br,i,U⟩) h.xr.2.2 h.xr.2.1).trans h2⟩
def ME.Lo (h:ME T K cb c sets nA hA nc hc sb sc bc by_ br bw l r w){n x:Nat}(hn:n<5)(hx:c.has x):ME T K cb c sets nA hA nc hc sb sc bc by_ br bw l (upd r n x) (w.LH ⟨br,n,U⟩ (.int .u8 x)):=by
 have other:∀b o,b≠br->(w.LH ⟨br,n,U⟩ (.int .u8 x)).S ⟨b,o,U⟩=w.S ⟨b,o,U⟩:=λb o hb=>AW _ _ _ _ (by intro e;simp only[Addr.mk.injEq] at e;exact hb e.1.LH);have sz:(w.LH ⟨br,n,U⟩ (.int .u8 x)).L.size=w.L.size:=by simp[s3]
 refine⟨h.Gs.keep (by rw[sz];exact AK _) λb o hb=>other b o (h.ne.2.2.2 b hb),h.kt,⟨(other _ _ h.ne.1).trans h.xc.1,h.xc.2.1,by rw[sz];exact h.xc.2.2⟩,⟨(other _ _ h.ne.2.1).trans h.xy.1,h.xy.2.1,by rw[sz];exact h.xy.2.2⟩,
  ⟨(other _ _ h.ne.2.2.1).trans h.xw.1,h.xw.2.1,by rw[sz];exact h.xw.2.2⟩,⟨λi hi=>?_,h.xr.2.1,by rw[sz];exact h.xr.2.2⟩,h.ne,λi=>?_⟩
 .obtain⟨h1,h2⟩:=h.xr.1 i hi;refine⟨?_,(BG _ _ _ _).trans h2⟩;unfold upd;by_cases e:i=n
  .subst e;rw[AP rfl];exact Ba _ _ _ h1
  .rw[AN e,AW _ _ _ _ (by intro e';simp only[Addr.mk.injEq] at e';omega)];exact h1
 .unfold upd;split
  .exact hx
  .exact h.rs i
def ME.ros (h:ME T K cb c sets nA hA nc hc sb sc bc by_ br bw l r w):Hn w w.L.size br r:=⟨h.xr.2.2,λi hi=>(h.xr.1 i hi).1⟩
end
open Go.Shelf
attribute [local go_sem] Oper.semAt_some
def P6 (T:Nat->Prop)(J Jx:List E2->I->Prop)(pre:List E2)(ρ:E2)(W:I)(e:Ending)(W':I):Prop :=
 (e=.L (.bool bb)/\J (pre++[ρ]) W'/\KT T W W')\/(e=.L (.bool M)/\Jx (pre++[ρ]) W'/\KT T W W')
def rm (T':Nat->Prop)(St:I->Prop)(J Jx:List E2->I->Prop)(pre L:List E2)(W:I)(e:Ending)(W':I):Prop :=
 (e=.L (.bool bb)/\J (pre++L) W'/\St W'/\KT T' W W')\/(e=.L (.bool M)/\(∃q,q <+: L/\Jx (pre++q) W')/\KT T' W W')
section
variable {T K:Nat->Prop} {cb:Nat} {c:Ek} {sets:List Nat} {nA hA:Option cw} {nc hc sb sc bc by_ br bw l:Nat} {J Jx:List E2->I->Prop} {W0:I} {Lt:List E2}
def rn (a6:c.Ok){r:E2}{pre:List E2}{W:I}(hs:ME T K cb c sets nA hA nc hc sb sc bc by_ br bw l r W)(hk:KT (λb=>T b\/b=br) W0 W)(hj:J pre W)(hpl:pre++[r] <+: Lt)
  (hY:∀pre ρ W,pre++[ρ] <+: Lt->KT (λb=>T b\/b=br) W0 W->J pre W->YieldAt j3 0 D7 l #[E6 ρ] W (P6 T J Jx pre ρ W)) :
  CallsIn j3 0 D7 100 #[E D c.D9.L,.S (Y ⟨bc,0,U⟩),.S (Y ⟨by_,0,U⟩),.S (Y ⟨br,0,U⟩),.S (Y ⟨bw,0,U⟩)] W
   (rm (λb=>T b\/b=br) (ME T K cb c sets nA hA nc hc sb sc bc by_ br bw l r) J Jx pre [r] W):=by
 have HS:=AI hs;have a7:=a6.n5;obtain⟨fn,tmps,assign,body,hy,hR⟩:=hY pre r W hpl hk hj;have HR:=AI hR;have hxc:=hs.xc.1;have a8:=hs.xy.1;have zo:=hs.Gs.c0;have aA:=(hs.xr.1 0 (by omega)).1;have zi:=(hs.xr.1 1 (by omega)).1;have zy:=(hs.xr.1 2 (by omega)).1;have hr3:=(hs.xr.1 3 (by omega)).1;have hr4:=(hs.xr.1 4 (by omega)).1;unfold E6 at hy;clear hs hk hj hY hR hpl;refine callsIn_of_wp Sq.func100 rfl trivial ?_ rfl
 simp only[s4,AZ,AX,Bc,Nat.reduceAdd,Nat.reduceSub,BX,BY,B8,B3,BP,BW]
 gi_wp2
 refine⟨rfl,HR.out.LT ?_⟩;rintro e W' (⟨rfl,hj,hk⟩|⟨rfl,hj,hk⟩)
 .have HJ:=AI hj;have HK:=AI hk
  gi_wp2
  go_ret;exact .inl ⟨rfl,HJ.out,HS.out.on HK.out,HK.out.LT λb hb=>.inl hb⟩
 .have HJ:=AI hj;have HK:=AI hk
  gi_wp2
  go_ret;exact .inr ⟨rfl,⟨[r],l9 _,HJ.out⟩,HK.out.LT λb hb=>.inl hb⟩
def vL (k1 k2 k3:Int)(w:I):Sem.run D7 (Instr.field 153 (.agg #[E D k1,E D k2,E D k3]) 0) w=.ok (E D k1) w:=by kernel_rfl
def gives (c:Ek)(sets:List Nat)(k:Nat)(r:E2)(n x:Nat):List E2:=if(Gq c (upd r n x) n).1=0 then E4 c sets k (upd r n x) (n+1) else[]
def jD (c:Ek)(sets:List Nat)(k:Nat)(r:E2)(n j:Nat)(hj:j<sets.L):(sets.LT (j+1)).O (gives c sets k r n)=(sets.LT j).O (gives c sets k r n)++gives c sets k r n (sets[j]?.LH 0):=by
 rw[bN 0 sets j hj,gB];simp
def rp (c:Ek)(sets:List Nat)(k:Nat)(r:E2)(n j:Nat)(hj:j<sets.L){q:List E2}(h:q <+: gives c sets k r n (sets[j]?.LH 0)):(sets.LT j).O (gives c sets k r n)++q <+: sets.O (gives c sets k r n):=by
 have e:sets.O (gives c sets k r n)=(sets.LT (j+1)).O (gives c sets k r n)++(sets.drop (j+1)).O (gives c sets k r n):=by
  rw[<-gB,fq]
 rw[e,jD _ _ _ _ _ _ hj];obtain⟨s,hs⟩:=h;exact⟨s++(sets.drop (j+1)).O (gives c sets k r n),by rw[<-hs];simp[Cv]⟩
def oR (r:E2)(n x y:Nat):upd (upd r n x) n y=upd r n y:=by
 funext i;unfold upd;split<;>rfl
def mv (r:E2)(n:Nat):upd r n (r n)=r:=by
 funext i;unfold upd;split
 .rename_i h;rw[h]
 .rfl
def yf (aI:c.Ok)(aF:∀x∈sets,c.has x)(b5:sets.L<=16)(aP:∀pre w w',J pre w->(∀b,T b->w'.L[b]?=w.L[b]?)->J pre w')
  (aJ:∀pre w,J pre w->∀b,T b->b<w.L.size) (aK:¬T br)
  (hY:∀pre ρ W,pre++[ρ] <+: Lt->KT (λb=>T b\/b=br) W0 W->J pre W->YieldAt j3 0 D7 l #[E6 ρ] W (P6 T J Jx pre ρ W)) :
  ∀(k n:Nat) (r:E2) (pre:List E2) (W:I),n+k=c.D9.L->ME T K cb c sets nA hA nc hc sb sc bc by_ br bw l r W->KT (λb=>T b\/b=br) W0 W->J pre W->(∀i,n<=i->r i=0)->pre++E4 c sets k r n <+: Lt ->
  CallsIn j3 0 D7 100 #[E D n,.S (Y ⟨bc,0,U⟩),.S (Y ⟨by_,0,U⟩),.S (Y ⟨br,0,U⟩),.S (Y ⟨bw,0,U⟩)] W
   (rm (λb=>T b\/b=br) (ME T K cb c sets nA hA nc hc sb sc bc by_ br bw l r) J Jx pre (E4 c sets k r n) W):=by
 intro k
 induction k with
 |zero =>
  intro n r pre W hn hs hk hj hz hpl;obtain rfl:n=c.D9.L:=by omega
  exact rn aI hs hk hj hpl hY
 |succ k ih =>
  intro n r pre W hn hs hk hj hz hpl;have aV:=AI hpl;have HS:=AI hs;have HK:=AI hk;have HJ:=AI hj;have HZ:=AI hz;have HIH:=AI ih;have HY:=AI hY;have aG:=AI aP;have aQ:=AI aJ;have HST:=AI aF;have b6:=aI.n5;have aW:n<c.D9.L:=by omega
  have hxc:=hs.xc.1;have zo:=hs.Gs.c0;have zr:=hs.Gs.c2;have hneq:((n:Int)==(c.D9.L:Int))=false:=by simpa using(by omega:¬(n:Int)=(c.D9.L:Int))
  have HW:Hid (E4 c sets (k+1) r n=sets.O (gives c sets k r n)):=AI rfl;clear hs hk hj hz ih hY aP aJ aF hpl;refine callsIn_of_wp Sq.func100 rfl trivial ?_ rfl;simp only[s4,AZ,AX,Bc,Nat.reduceAdd,Nat.reduceSub,BX,BY,B8,B3,BP,BW]
  gi_wp2
  gi_loopw [25] (λi wr=>∃(j x:Nat),j<=sets.L/\i=E D j/\c.has x/\ME T K cb c sets nA hA nc hc sb sc bc by_ br bw l (upd r n x) wr/\J (pre++(sets.LT j).O (gives c sets k r n)) wr/\KT (λb=>T b\/b=br) W wr) (λi _=>sets.L-(bW i).L)
  case atStart =>
   exact⟨0,r n,by omega,rfl,HS.out.rs n,by rw[mv];exact HS.out,by simpa using HJ.out,KT.refl _ _⟩
  case round =>
   obtain⟨j,x,hj,rfl,hx,hs,aR,hk⟩:=hrel;have a7:=AI hs;have aS:=AI aR;have aT:=AI hk;have hxx:=AI hx;clear hs aR hk hx;by_cases zY:j<sets.L
   .obtain⟨y,hy⟩:∃y,sets[j]?=Y y:=⟨sets[j],AL zY⟩;have aL:c.has y:=HST.out y (By hy);have hcell:=a7.out.Gs.sets j y hy;obtain⟨aX,hfn⟩:=a7.out.xr.1 n (by omega);have hxc1:=a7.out.xc.1;have a6:Hid (ME T K cb c sets nA hA nc hc sb sc bc by_ br bw l (upd r n y) (wr.LH ⟨br,n,U⟩ (.int .u8 y))):=AI (by have:=a7.out.Lo (n:=n) (x:=y) (by omega) aL;rwa [oR] at this);have hxc2:=a6.out.xc.1
    have aU:=AI (jD c sets k r n j zY);have HGP:=AI (λq=>rp c sets k r n j zY (q:=q));have hyD:sets[j]?.LH 0=y:=by rw[hy];rfl
    have HD:=AI hyD;have a8:Hid (KT (λb=>T b\/b=br) W (wr.LH ⟨br,n,U⟩ (.int .u8 y))):=AI (aT.out.trans (KT.LH wr (p:=⟨br,n,U⟩) (.inr rfl) _));have aA:Hid (J (pre++(sets.LT j).O (gives c sets k r n)) (wr.LH ⟨br,n,U⟩ (.int .u8 y))):=AI (aG.out _ _ _ aS.out λb hb=>Bb _ _ _ _ λe=>aK (by have e':b=br:=e;rw[<-e'];exact hb));have aB:=oQ cb br n c (upd r n y) (wr.LH ⟨br,n,U⟩ (.int .u8 y)) a6.out.Gs.Ou a6.out.ros aI aW a6.out.rs
    unfold Ji at aB;have aM:Hid (gives c sets k r n y=if(Gq c (upd r n y) n).1=0 then E4 c sets k (upd r n y) (n+1) else[]):=AI rfl;generalize Gq c (upd r n y) n=lp at aB aM;obtain⟨k1,k2,k3⟩:=lp;have HL:=AI (callsIn_wide (n:=0).2 aB);have hfd:=vL k1 k2 k3;clear aB hy hyD;by_cases h0:k1=0
    .have aC:=AI (show gives c sets k r n y=E4 c sets k (upd r n y) (n+1) by rw[aM.out,AP h0]);subst h0
     gi_wp2_with fail
     refine⟨trivial,rfl,HL.out.LT ?_⟩;rintro e w2 ⟨rfl,zI⟩;have aD:=AI (KT.E3 (T:=λb=>T b\/b=br) zI);have aH:=AI (a6.out.on (KT.E3 (T:=T) zI));have aN:=AI (aG.out _ _ w2 aA.out λb hb=>zI.Li.LE b (aQ.out _ _ aA.out b hb));have b7:=aH.out.xw.1
     have HC:=AI (HIH.out (n+1) (upd r n y) _ w2 (by omega) aH.out (HK.out.trans (a8.out.trans aD.out)) aN.out (λi hi=>by unfold upd;rw[AN (by omega)];exact HZ.out i (by omega)) (by
      have h1:=HGP.out (E4 c sets k (upd r n y) (n+1)) (by rw[HD.out,aC.out];exact l9 _);rw[<-HW.out] at h1;rw[Cv]
      exact((List.prefix_append_right_inj pre).2 h1).trans aV.out))
     have b8:IntKind.i64.wrap ((n:Int)+1)=(n:Int)+1:=by simp[IntKind.wrap,IntKind.min,IntKind.max,IntKind.signed,IntKind.bits];omega
     clear zI
     gi_wp2_with fail
     refine⟨trivial,rfl,HC.out.LT ?_⟩;rintro e w3 (⟨rfl,aY,hs3,zx⟩|⟨rfl,aZ,zx⟩)
     .have HJ4:=AI aY;have HS4:=AI hs3;have aO:=AI (a8.out.trans (aD.out.trans zx))
      gi_wp2
      go_roundw
      case rel =>
       exact⟨j+1,y,by omega,by go_num,aL,HS4.out,by rw[aU.out,HD.out,aC.out,<-Cv];exact HJ4.out,aO.out⟩
      case measure=>simp[Proofs.intOf];omega
     .have HQ:=AI aZ;have aO:=AI (a8.out.trans (aD.out.trans zx))
      gi_wp2
      go_ret;refine .inr ⟨rfl,?_,aO.out⟩;obtain⟨q,q1,q2⟩:=HQ.out;refine⟨(sets.LT j).O (gives c sets k r n)++q,?_,by rw[<-Cv];exact q2⟩;rw[HW.out];exact HGP.out q (by rw[HD.out,aC.out];exact q1)
    .have aC:=AI (show gives c sets k r n y=[] by rw[aM.out,AN h0])
     gi_wp2_with fail
     refine⟨trivial,rfl,HL.out.LT ?_⟩;rintro e w2 ⟨rfl,zI⟩;have aD:=AI (KT.E3 (T:=λb=>T b\/b=br) zI);have aH:=AI (a6.out.on (KT.E3 (T:=T) zI));have aN:=AI (aG.out _ _ w2 aA.out λb hb=>zI.Li.LE b (aQ.out _ _ aA.out b hb))
     gi_wp2
     refine⟨λ_ h=>(by cases h),?_⟩
     gi_wp2
     go_roundw
     case rel=>exact⟨j+1,y,by omega,by go_num,aL,aH.out,by rw[aU.out,HD.out,aC.out,CM];exact aN.out,a8.out.trans aD.out⟩
     case measure=>simp[Proofs.intOf];omega
   .obtain⟨aX,hfn⟩:=a7.out.xr.1 n (by omega);have h0:c.has 0:=Nat.two_pow_pos _
    have a6:Hid (ME T K cb c sets nA hA nc hc sb sc bc by_ br bw l r (wr.LH ⟨br,n,U⟩ (.int .u8 0))):=AI (by
     have:=a7.out.Lo (n:=n) (x:=0) (by omega) h0;rw[oR] at this;have e:upd r n 0=r:=by have:=mv r n;rwa [HZ.out n (AK _)] at this
     rwa [e] at this)
    have a8:Hid (KT (λb=>T b\/b=br) W (wr.LH ⟨br,n,U⟩ (.int .u8 0))):=AI (aT.out.trans (KT.LH wr (p:=⟨br,n,U⟩) (.inr rfl) _));have aA:Hid (J (pre++E4 c sets (k+1) r n) (wr.LH ⟨br,n,U⟩ (.int .u8 0))):=AI (aG.out _ _ _ (by have:=aS.out;rwa [Bm (by omega),<-HW.out] at this) λb hb=>Bb _ _ _ _ λe=>aK (by have e':b=br:=e;rw[<-e'];exact hb))
    gi_wp2
    go_ret;exact .inl ⟨rfl,aA.out,a6.out,a8.out⟩
end
end Go.Sq
