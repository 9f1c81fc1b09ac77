/- Parts of the proof. -/
import Derived.Test.YtgllajjoinefcaaGreatP04
import Derived.Shelf.SlSortCmp.Whole1
import Derived.Shelf.Sort.Plain
import Derived.Test.YtgllajjoinefcaaGreatRows
import Derived.Conc.HoldsTime
import Derived.ClosedOfChecked
set_option linter.all false
set_option maxHeartbeats 4000000
set_option maxRecDepth 1000000
open Go.Value renaming pointer->Z,int->bb,slice->bw
open Go.Proofs.Tryz renaming prog->Y,func200->bn,f79->br,func129->b7,func130->b8,func126->b9,func127->cd,func123->cf,func124->cu,func79->cE,underlying130->cF,underlying269->cU,underlying270->c0,underlying144->df,underlying162->di,underlying294->dr,underlying297->dt,underlying307->dy,underlying308->dS,func175->eb,func176->ed,zeroValue130->ek,zeroValue269->eo,zeroValue270->ew,zeroValue144->ez,zeroValue162->eA,underlying77->eC,zeroValue294->eF,zeroValue297->eG,zeroValue307->eV,zeroValue308->fl,underlying0->gg,underlying3->gB,underlying4->gR,underlying5->gU,underlying9->hP,zeroValue77->hZ,zeroValue0->iv,zeroValue3->js,zeroValue4->jx,zeroValue5->j0,zeroValue9->j1,func3->kn,sizeOf130->kp,sizeOf269->kq,sizeOf270->kt,sizeOf144->kx,sizeOf162->kV,sizeOf294->k0,sizeOf297->k5,sizeOf307->k6,sizeOf308->k7,isAgg130->lh,isAgg269->ln,isAgg270->lp,isAgg144->lu,isAgg162->lv,sizeOf77->lx,isAgg294->lA,isAgg297->l4,isAgg307->l5,isAgg308->l8,func157->mb,func158->ml,sizeOf0->mm,sizeOf3->mo,sizeOf4->mA,sizeOf5->nc,sizeOf9->ng,isAgg77->nh,isAgg0->nA,isAgg3->n9,isAgg4->oo,isAgg5->ou,isAgg9->oK,f126->oV,f127->qb,f200->qf,f129->qo,f130->q9
open Option renaming some->J,none->F
open List.range renaming loop->U
open Go.Conc renaming goes_go->I,goes_oper_k->E,stepG_region_end->D,stepG_region->A,stepG_seq->bk,stepG_cond->ck,stepG_end->fu,G->fz,stepG_skip->j3,enter_at->nx
open Bool renaming false->N,true->M
open List renaming range->O,find?_append->ea,sum_cons->k8
open Go renaming World->R,FuncId->V,Goroutine->L,Frame->bo,Value->bs,run_call_cas_hit->bA,execOp->cA,stepG->h9,joinedFacts->ik,Item->j2,Code->k9,Oper->nt
open Go.IntKind renaming i64->bc
open Array renaming replicate->bh
open Go.Instr renaming fieldAt->bD
open Go.Frame renaming enter->bW,finish_at->cw
open Int renaming mul_le_mul_of_nonneg_left->b6,mul_comm->fq,le_of_lt->np
open Go.Obj renaming cells->cq
open Decidable renaming not_not->fo,decide->l9
open Array renaming getD->Array.LE
open Go renaming underlying->Go.LT,zeroValue->Go.LE
open Go.Addr renaming block->Go.Addr.Lo
open Go.BoundsCode renaming toNat->Go.BoundsCode.L
open Go.Code renaming block->Go.Code.Lo,region->Go.Code.L
open Go.Ending renaming returned->Go.Ending.L
open Go.Goroutine renaming frame->Go.Goroutine.L
open Go.Instr renaming alloc->Go.Instr.Li
open Go.Op renaming alloc->Go.Op.Li
open Go.Program renaming funcs->Go.Program.L,underlying->Go.Program.LT
open Go.TypeDesc renaming pointer->Go.TypeDesc.S
open Go.Value renaming pointer->Go.Value.S
open Go.World renaming alloc->Go.World.Li,cell?->Go.World.L,frozen?->Go.World.H,setCell->Go.World.LE
open Int renaming toNat->Int.L
open List renaming contains->List.H,length->List.L,set->List.SS,sum->List.Lo,take->List.LT,toArray->List.Li
open Nat renaming testBit->Nat.L
open Option renaming getD->Option.LE
open UInt8 renaming toNat->UInt8.L
namespace Go.Sq
structure EO where
 heads:Int
 F9:Int
 most:Int
 off:List Int
instance:Inhabited EO:=⟨⟨0,0,0,[]⟩⟩
structure Eb where
 DW:List Int
 DR:List EO
def Eb.h (c:Eb)(i:Nat):EO:=c.DR[i]?.LE default
def IV:List Int->List Int->Int
 |[],[]=>0
 |[],_::_=>-1
 |_::_,[]=>1
 |a::l,b::m=>if a<b then -1 else if b<a then 1 else IV l m
def lZ (l:List Int):IV [] l=if l.L=0 then 0 else -1:=by cases l<;>simp[IV]
def qK (l:List Int)(h:0<l.L):IV l []=1:=by cases l with
 |nil=>simp at h
 |cons a l=>rfl
def qL (l m:List Int)(k:Nat)(h1:k<l.L)(h2:k<m.L):IV (l.drop k) (m.drop k)=if l[k]?.LE 0<m[k]?.LE 0 then -1 else if m[k]?.LE 0<l[k]?.LE 0 then 1 else IV (l.drop (k+1)) (m.drop (k+1)):=by
 rw[C0 h1,C0 h2,AG h1,AG h2]
 rfl
def cI (a b:Int):Int:=if a<b then -1 else if b<a then 1 else 0
def bu {α:Type}(d:α)(l:List α)(k:Nat)(h:k<l.L):l.LT (k+1)=l.LT k++[l[k]?.LE d]:=by
 rw[List.take_add_one,AG h];rfl
def jb (l:List Int)(k:Nat)(h:k<l.L):(l.LT (k+1)).Lo=(l.LT k).Lo+l[k]?.LE 0:=by
 rw[bu 0 l k h,List.sum_append];simp
def GL (a b:Int)(l:List Int)(h:∀x∈l,a<=x/\x<=b):l.L*a<=l.Lo/\l.Lo<=l.L*b:=by
 induction l with
 |nil=>simp
 |cons x l ih =>
  obtain⟨h1,h2⟩:=ih λy hy=>h y (Cz _ hy);obtain⟨h3,h4⟩:=h x CE;simp only[AQ,k8,Int.natCast_add,Int.natCast_one,Int.add_mul,Int.one_mul] at *;omega
def Gh (l:List Int)(k:Nat)(h:k<l.L):l[k]?.LE 0∈l:=by
 rw[AG h];exact BU h
structure Eb.Ok (c:Eb):Prop where
 n1:1<=c.DW.L
 n5:c.DW.L<=5
 need:∀x∈c.DW,0<=x/\x<=12
 h1:1<=c.DR.L
 h4:c.DR.L<=4
 heads:∀h∈c.DR,1<=h.heads/\h.heads<=40
 F9:∀h∈c.DR,1<=h.F9/\h.F9<=5
 most:∀h∈c.DR,0<=h.most/\h.most<=5
 off:∀h∈c.DR,h.off.L<=5/\∀x∈h.off,0<=x/\x<c.DW.L
def Eb.IW (c:Eb){i:Nat}(hi:i<c.DR.L):c.h i∈c.DR:=by
 unfold Eb.h;rw[AG hi];exact BU hi
def below (x k:Nat):List Int:=((O k).filter x.L).map (λn:Nat=>(n:Int))
def wl (x:Nat):List Int:=below x 4
def Mo {x:Nat}{z:Int}(h:z∈wl x):∃n:Nat,z=n/\n<4/\x.L n=true:=by
 unfold wl below at h;simp only[BO,Cr,BM] at h;obtain⟨n,⟨h1,h2⟩,rfl⟩:=h;exact⟨n,rfl,h1,h2⟩
def dC (x:Nat):(wl x).L<=4:=by
 unfold wl below;rw[B8];exact AX (CM _ _) (by simp)
def Eb.LT (c:Eb)(x:Nat):Prop:=x<2 ^ c.DR.L
def l6 {x n m:Nat}(h:x<2 ^ m)(hb:x.L n=M):n<m:=by
 obtain h1|h1:=BP n m
 .exact h1
 .rw[Nat.testBit_lt_two_pow (AI h (CR (by omega) h1))] at hb;cases hb
def Dh {c:Eb}(h4:c.DR.L<=4){x:Nat}(hx:c.LT x):x<16:=AI hx (CR (by omega) h4)
def MO {c:Eb}{x:Nat}(hx:c.LT x){k:Nat}(hk:k<(wl x).L):∃n:Nat,(wl x)[k]?.LE 0=n/\n<c.DR.L/\n<4/\x.L n=true:=by
 obtain⟨n,h1,h2,h3⟩:=Mo (Gh _ k hk);exact⟨n,h1,l6 hx h3,h2,h3⟩
def Eb.F9 (c:Eb)(x:Nat):Int:=((wl x).map λh=>(c.h h.L).F9).Lo
def Eb.Ke (c:Eb)(x:Nat):List Int:=(wl x).map λh=>(c.h h.L).F9
def Eb.Ky (c:Eb)(x:Nat):(c.Ke x).L=(wl x).L:=B8 ..
def Eb.OQ (c:Eb){x k n:Nat}(hk:k<(wl x).L)(hn:(wl x)[k]?.LE 0=n):(c.Ke x)[k]?.LE 0=(c.h n).F9:=by
 unfold Eb.Ke;rw[BE];rw[AG hk] at hn ⊢;simp only[AS] at hn;simp[hn]
def DB (c:Eb)(x:Nat):c.F9 x=(c.Ke x).Lo:=rfl
def MP (c:Eb){x:Nat}(hx:c.LT x)(hd:∀h∈c.DR,1<=h.F9/\h.F9<=5)(k:Nat):0<=((c.Ke x).LT k).Lo/\((c.Ke x).LT k).Lo<=20:=by
 have hb:=GL 0 5 ((c.Ke x).LT k) λy hy=>by
  obtain⟨z,hz,rfl⟩:=BO.1 (Cj hy);obtain⟨n,rfl,_,h3⟩:=Mo hz;have:=hd _ (c.IW (l6 hx h3));simp only[Cn];omega
 have hl:((c.Ke x).LT k).L<=4:=by
  rw[CT,c.Ky];have:=dC x;omega
 omega
def Hf (r:Nat->Nat)(n:Nat):Nat->Nat
 |0=>0
 |k+1=>Hf r n k+if(r k).L n then 1 else 0
def qM (r:Nat->Nat)(n k:Nat):Hf r n k<=k:=by
 induction k with
 |zero=>exact AD _
 |succ k ih=>simp only[Hf];split<;>omega
def Qz (c:Eb)(night n:Nat):Bool:=l9 ((night:Int)∈(c.h n).off)
def fK (r:Nat->Nat)(night n:Nat):Bool:=l9 (0<night)&&(r (night-1)).L n
def qN (c:Eb)(r:Nat->Nat)(night n:Nat):Bool:=l9 ((c.h n).most<=(Hf r n night:Int))
def Kz (c:Eb)(r:Nat->Nat)(night:Nat):Nat->Nat->Bool
 |0,n=>Qz c night n
 |1,n=>fK r night n
 |_,n=>qN c r night n
def breaks (c:Eb)(r:Nat->Nat)(night i:Nat):Option Int:=(wl (r night)).find? λh=>Kz c r night i h.L
def Eb.need (c:Eb)(night:Nat):Int:=c.DW[night]?.LE 0
def F4 (c:Eb)(r:Nat->Nat)(night:Nat):Int×Int×Int :=
 match breaks c r night 0 with
 |some h=>(1,night,h)
 |none=>match breaks c r night 1 with
  |some h=>(2,night,h)
  |none=>match breaks c r night 2 with
   |some h=>(3,night,h)
   |none=>if c.F9 (r night)<c.need night then(4,night,-1) else(0,-1,-1)
def gd {l:List Int}{p:Int->Bool}{k:Nat}(hk:k<l.L)(hn:(l.LT k).find? p=F)(hp:p (l[k]?.LE 0)=M):l.find? p=J (l[k]?.LE 0):=by
 have e:l.find? p=(l.LT k++l.drop k).find? p:=by rw[List.take_append_drop]
 rw[e,ea,hn,C0 hk,List.find?_cons];rw[AG hk] at hp ⊢;simp only[AS] at hp ⊢;simp only[hp,Option.none_or]
def gJ {l:List Int}{p:Int->Bool}{k:Nat}(hk:k<l.L)(hn:(l.LT k).find? p=F)(hp:p (l[k]?.LE 0)=N):(l.LT (k+1)).find? p=none:=by
 rw[bu 0 l k hk,ea,hn];simp[hp]
def Fc (n lo hi:Int):Int:=if n<lo then 7 else if hi<n then 6 else 0
def GU (l:List Int)(n:Int)(i:Nat):Int:=if 0<=l[i]?.LE 0/\l[i]?.LE 0<=n-1 then(if 0<i/\l[i]?.LE 0<=l[i-1]?.LE 0 then 5 else 0) else 3
def bE (l:List Int):Int:=(l.find? (· != 0)).LE 0
def Gs (l:List Int)(n:Int):Int:=bE ((O l.L).map (GU l n))
def Ha (x lo hi:Int):Bool:=l9 (lo<=x)&&l9 (x<=hi)
def GV (n:Int)(h:EO):Int:=if Ha h.heads 1 40&&Ha h.F9 1 5&&Ha h.most 0 5 then Gs h.off n else 1
def Es (c:Eb):Int :=
 if Fc c.DW.L 1 5≠0 then Fc c.DW.L 1 5 else if(c.DW.all λx=>Ha x 0 12)=N then 1
 else if Fc c.DR.L 1 4≠0 then Fc c.DR.L 1 4 else bE (c.DR.map (GV c.DW.L))
def iU {l:List Int}(h:∀x∈l,x=0):bE l=0:=by
 unfold bE;rw[C5.2 λx hx=>by simp[h x hx]];rfl
def ce {l:List Int}{k:Nat}(hk:k<l.L)(hn:∀i,i<k->l[i]?.LE 0=0)(hp:l[k]?.LE 0≠0):bE l=l[k]?.LE 0:=by
 unfold bE;rw[gd hk (C5.2 λx hx=>?_) (by simpa using hp)]
 .rfl
 .obtain⟨i,hi,rfl⟩:=List.mem_take_iff_getElem.1 hx;have:=hn i (by omega);rw[AG (by omega)] at this;simpa using this
def dU {l:List Int}(hn:∀i,i<l.L->l[i]?.LE 0=0):bE l=0:=iU λx hx=>by
 obtain⟨i,hi,rfl⟩:=Cl.1 hx;have:=hn i hi;rw[AG hi] at this;simpa using this
def l7 {l:List Int}{n:Int}{k:Nat}(hk:k<l.L)(hn:∀i,i<k->GU l n i=0)(hp:GU l n k≠0):Gs l n=GU l n k:=by
 have e:∀i,i<l.L->((O l.L).map (GU l n))[i]?.LE 0=GU l n i:=λi hi=>by simp[hi]
 unfold Gs;rw[ce (k:=k) (by simpa using hk) (λi hi=>by rw[e i (by omega)];exact hn i hi) (by rw[e k hk];exact hp),e k hk]
def qO {l:List Int}{n:Int}(hn:∀i,i<l.L->GU l n i=0):Gs l n=0:=by
 unfold Gs;exact dU λi hi=>by
  have hi':i<l.L:=by simpa using hi
  simp[hi',hn i hi']
def K3 (l:List Int):Nat:=l.foldl (λx h=>x ||| 2 ^ h.L) 0
def tc (l:List Int)(k:Nat)(hk:k<l.L):K3 (l.LT (k+1))=K3 (l.LT k) ||| 2 ^ (l[k]?.LE 0).L:=by
 rw[bu 0 l k hk];unfold K3;rw[List.foldl_append];rfl
def yW:∀x:Fin 16,∀n:Fin 4,(x.val ||| 2 ^ n.val)<16:=by decide
def qQ (l:List Int)(h:∀x∈l,0<=x/\x<4):K3 l<16:=by
 have key:∀(l:List Int) (x:Nat),(∀y∈l,0<=y/\y<4)->x<16->l.foldl (λx h=>x ||| 2 ^ h.L) x<16:=by
  intro l
  induction l with
  |nil=>intro x _ hx;exact hx
  |cons a l ih =>
   intro x h hx;have ha:=h a CE;exact ih _ (λy hy=>h y (Cz _ hy)) (yW ⟨x,hx⟩ ⟨a.L,by omega⟩)
 exact key l 0 h (by decide)
open Go.Proofs
open Go.RowKit
def Do (a:Addr)(w:R)(hc:w.L a=J (.int .i32 0))(hz:w.H a=N) :
  Calls DP 129 #[.S (J a)] w λe w'=>e=.L (.tuple #[])/\w'=w.LE a (.int .i32 1):=by
 have a6:=bA (P:=DP) Sq.func200 (by kernel_rfl) (by kernel_rfl) (by kernel_rfl) .i32 (by kernel_rfl) (x:=0) (y:=1) hc hz;go_enter Sq.func129,Du;simp only[casBody];go_wp2;refine bodyPost_ret (results_none rfl _ _ _) rfl ?_;exact⟨rfl,rfl⟩
def Dn (a:Addr)(u:FrameMode)(w:R)(hc:w.L a=J (.int .i32 1))(hz:w.H a=N) :
  CallsD DP 130 #[.S (J a)] u w λe u' w'=>u'=u/\(e=.L (.tuple #[])/\w'=w.LE a (.int .i32 0)):=by
 have a6:=bA (P:=DP) Sq.func200 (by kernel_rfl) (by kernel_rfl) (by kernel_rfl) .i32 (by kernel_rfl) (x:=1) (y:=0) hc hz;go_enter_d Sq.func130,Ds;simp only[casBody];go_wp2;refine bodyPost_ret (results_none rfl _ _ _) rfl ?_;exact⟨rfl,rfl⟩
open Go.Em Go.Co Go.Conc
section
variable {p:Program} {BB:V->Bool} {Q:L->R->Prop} {b:bo} {a:Act} {todo:List j2} {cs:List bo} {w:R} {dn:Nat}
def ar (hQ:∀g w W,Ek w W->Q g w->Q g W)(hf:BB b.fn=M)(hg:bH p todo=M)(h:∀τ d,(h9 p M (G (b.at a todo) cs) (on w τ d)).goes (λg' w' _=>g'.callers≠[]/\∃W,Ek W w'/\EL p BB Q dn g' W)) :
  EL p BB Q dn (G (b.at a todo) cs) w:=by
 refine EL.step ⟨hf,ji hg⟩ λτ d=>?_;have:=h τ d;cases hs:h9 p M (G (b.at a todo) cs) (on w τ d) with
 |go g' w' es =>
  rw[hs] at this;obtain⟨h1,W,h2,h3⟩:=this;exact⟨g',w',es,rfl,h1,h3.same hQ h2⟩
 |_=>rw[hs] at this;exact this.elim
def dM (hQ:∀g w W,Ek w W->Q g w->Q g W)(hf:BB b.fn=M)(hg:bH p todo=M)(h:∀τ d,(h9 p M (G { b.at a todo with mode:=.returning } cs) (on w τ d)).goes (λg' w' _=>g'.callers≠[]/\∃W,Ek W w'/\EL p BB Q dn g' W)) :
  EL p BB Q dn (G { b.at a todo with mode:=.returning } cs) w:=by
 refine EL.step ⟨hf,λo ho=>ji (b:=b) (a:=a) hg o ho⟩ λτ d=>?_;have:=h τ d;cases hs:h9 p M (G { b.at a todo with mode:=.returning } cs) (on w τ d) with
 |go g' w' es =>
  rw[hs] at this;obtain⟨h1,W,h2,h3⟩:=this;exact⟨g',w',es,rfl,h1,h3.same hQ h2⟩
 |_=>rw[hs] at this;exact this.elim
def fN {g':L}(hQ:∀g w W,Ek w W->Q g w->Q g W)(hf:BB b.fn=M)(zW:g'.callers≠[])(hg:bH p todo=M)(hs:∀w,h9 p M (G (b.at a todo) cs) w=.go g' w)(h:EL p BB Q dn g' w):EL p BB Q dn (G (b.at a todo) cs) w :=
 ar hQ hf hg λτ d=>by rw[hs];simp only[I];exact⟨zW,w,Dc,h⟩
def am {k:List j2}{x y:k9}(hQ:∀g w W,Ek w W->Q g w->Q g W)(hf:BB b.fn=M)(zW:cs≠[])(h:EL p BB Q dn (G (b.at a (.code x::.code y::k)) cs) w)(hg:bH p (.code (.seq x y)::k)=true:=by kernel_rfl):EL p BB Q dn (G (b.at a (.code (.seq x y)::k)) cs) w :=
 fN hQ hf zW hg (λ_=>bk) h
def au {k:List j2}{ops:Array nt}(hQ:∀g w W,Ek w W->Q g w->Q g W)(hf:BB b.fn=M)(zW:cs≠[])(h:EL p BB Q dn (G (b.at a k) cs) w)(hg:bH p (.inRegion ops []::k)=true:=by kernel_rfl):EL p BB Q dn (G (b.at a (.inRegion ops []::k)) cs) w :=
 fN hQ hf zW hg (λ_=>D) h
def gh {k:List j2}(hQ:∀g w W,Ek w W->Q g w->Q g W)(hf:BB b.fn=M)(zW:cs≠[])(h:EL p BB Q dn (G (b.at a k) cs) w)(hg:bH p (.code .skip::k)=true:=by kernel_rfl):EL p BB Q dn (G (b.at a (.code .skip::k)) cs) w :=
 fN hQ hf zW hg (λ_=>j3) h
def av {k:List j2}{i:Nat}{ops:Array nt}(hQ:∀g w W,Ek w W->Q g w->Q g W)(hf:BB b.fn=M)(zW:cs≠[])(h:EL p BB Q dn (G (b.at a (.inRegion ops (O ops.size)::k)) cs) w)(hg:bH p (.code (.L i ops N)::k)=true:=by kernel_rfl):EL p BB Q dn (G (b.at a (.code (.L i ops N)::k)) cs) w :=
 fN hQ hf zW hg (λ_=>A) h
def my {k:List j2}{c:Operand}{x y:k9}(hQ:∀g w W,Ek w W->Q g w->Q g W)(hf:BB b.fn=M)(zW:cs≠[])(h:EL p BB Q dn (G (b.at a (.code x::k)) cs) w)(hc:a.eval c=.bool true:=by rfl)(hg:bH p (.code (.cond c x y)::k)=true:=by kernel_rfl):EL p BB Q dn (G (b.at a (.code (.cond c x y)::k)) cs) w :=
 fN hQ hf zW hg (λ_=>ck hc) h
def jL {k:List j2}{c:Operand}{x y:k9}(hQ:∀g w W,Ek w W->Q g w->Q g W)(hf:BB b.fn=M)(zW:cs≠[])(h:EL p BB Q dn (G (b.at a (.code y::k)) cs) w)(hc:a.eval c=.bool false:=by rfl)(hg:bH p (.code (.cond c x y)::k)=true:=by kernel_rfl):EL p BB Q dn (G (b.at a (.code (.cond c x y)::k)) cs) w :=
 fN hQ hf zW hg (λ_=>ck hc) h
def ag {k:List j2}{ops:Array nt}{i:Nat}{rest:List Nat}{o:nt}(hQ:∀g w W,Ek w W->Q g w->Q g W)(hf:BB b.fn=M)(zW:cs≠[])(ho:ops[i]?=J o)(hw:Region.wanted o (yielded ops a.tmps)=M)
  (h:∀ {τ:Tape} {d:Nat} (K:Act->R->Prop),(∀a' W,EL p BB Q dn (G (b.at a' (.inRegion ops rest::k)) cs) W->∀w',Ek W w'->K a' w')->(∀x,(on w τ d).L x=w.L x)->(on w τ d).heap.size=w.heap.size->(∀x,(on w τ d).H x=w.H x)->uponK o a K ((cA a.eval o).run p (on w τ d)))
  (hk:b.kind≠.early:=by first|assumption|decide) (hg:bH p (.inRegion ops (i::rest)::k)=true:=by kernel_rfl):EL p BB Q dn (G (b.at a (.inRegion ops (i::rest)::k)) cs) w :=
 ar hQ hf hg λτ d=>E ho hw hk λK hK=>h K (λ_ W hT w' hs=>hK _ w' ⟨zW,W,hs,hT⟩) (λ_=>rfl) rfl λ_=>rfl
def oI {f:V}{fn:Func}{c:k9}(args:Array bs)(k:CallKind)(hf:p.L[f]?=J fn)(hb:fn.body=J c) :
  bW p f args k=({ base f with kind:=k }:bo).at { tmps:=args++bh (fn.ntmps-args.size) undef,defers:=[] } [.code c]:=by
 simp[bW,Frame.at,hf,hb,base]
def cM (hQ:∀g w W,Ek w W->Q g w->Q g W){ops:Array nt}{i:Nat}{rest:List Nat}{k:List j2}{o:nt}{es:Array Event}{v:bs}(hf:BB b.fn=M)(zW:cs≠[])(ho:ops[i]?=J o)(hw:Region.wanted o (yielded ops a.tmps)=M)(hk:b.kind≠.early)(hs:Fp p a w o es v)
  {d':Nat} (hd:deafBehind dn es=d') (h:EL p BB Q d' (G (b.at (a.put o.dst v) (.inRegion ops rest::k)) cs) w):EL p BB Q dn (G (b.at a (.inRegion ops (i::rest)::k)) cs) w :=
 .spec hf zW ho hw hk hs λτ n=>hd▸h.same hQ Dc
def Ei (c:bo)(cs:List bo):(c::cs)≠[]:=by simp
def ab (W:R)(τ:Tape)(d:Nat):(on W τ d).heap.size=W.heap.size:=rfl
def six {args:Array bs}{n:Nat}{q:Addr}(h:args[0]?=J (.S (J q)))(hn:n=6):∃t1 t2 t3 t4 t5 tl,args++bh (n-args.size) undef=(.S (J q)::t1::t2::t3::t4::t5::tl:List bs).Li:=by
 obtain⟨l⟩:=args;subst hn
 match l,h with
 |t0::l,h =>
  have h0:t0=.S (J q):=by simpa using h
  subst h0
  match l with
  |[]=>exact⟨_,_,_,_,_,[],by simp[List.replicate,bh];exact⟨rfl,rfl,rfl,rfl,rfl⟩⟩
  |[t1]=>exact⟨t1,_,_,_,_,[],by simp[bh];exact⟨rfl,rfl,rfl,rfl⟩⟩
  |[t1,t2]=>exact⟨t1,t2,_,_,_,[],by simp[bh];exact⟨rfl,rfl,rfl⟩⟩
  |[t1,t2,t3]=>exact⟨t1,t2,t3,_,_,[],by simp[bh];exact⟨rfl,rfl⟩⟩
  |[t1,t2,t3,t4]=>exact⟨t1,t2,t3,t4,_,[],by simp[bh];rfl⟩
  |t1::t2::t3::t4::t5::tl=>exact⟨t1,t2,t3,t4,t5,tl,by simp[bh]⟩
end
def kZ {BB:V->Bool}(a7:BB 129=M)(a6:BB 175=M):Held Y BB 129 0 1:=by
 intro args q k cs w hk zW hq hc hz;obtain⟨bq,oq,sq⟩:=q;have aB:sq=none:=by
  cases sq with
  |none=>rfl
  |some s=>simp[World.cell?] at hc;split at hc<;>simp_all
 subst aB;generalize a8:(λ(g:L) (W:R)=>Ek (w.LE ⟨bq,oq,F⟩ (.int .i32 1)) W/\∃fr,g=Go.Em.ER fr cs/\fr.fn=129/\fr.kind=k/\fr.mode=.returning/\fr.defers=[]/\fr.oper?=F)=Q;have hQ:∀g w W,Ek w W->Q g w->Q g W:=by
  subst a8;rintro g w1 w2 s ⟨h1,h2⟩;exact⟨h1.trans s,h2⟩
 have aA:∀(a:Act) W,a.defers=[]->Ek (w.LE ⟨bq,oq,F⟩ (.int .i32 1)) W->Q (G { (({ base 129 with kind:=k }:bo).at a []) with mode:=.returning } cs) W:=by
  subst a8;exact λa W h s=>⟨s,_,rfl,rfl,rfl,rfl,h,rfl⟩
 obtain⟨t1,t2,t3,t4,t5,tl,ht⟩:=six (n:=Tryz.f129.ntmps) hq Tryz.ntmps129;rw[oI args k b7 rfl,ht];change EL Y BB Q 0 (G _ cs) w;refine av hQ a7 zW ?_;simp only[AR,AQ,AT,Nat.reduceAdd,AU,O,U];refine ag hQ a7 zW rfl rfl λK hK q1 q2 q3=>?_;go_simp;refine hK _ w ?_ _ ⟨rfl,rfl,rfl⟩;refine ag hQ a7 zW rfl rfl λK hK q1 q2 q3=>?_;go_simp;refine hK _ w ?_ _ ⟨rfl,rfl,rfl⟩
 refine ag hQ a7 zW rfl rfl λK hK q1 q2 q3=>?_;go_simp;refine hK _ w ?_ _ ⟨rfl,rfl,rfl⟩;refine ar hQ a7 (by kernel_rfl) λτ d=>?_;refine aD rfl rfl hk rfl eb (by kernel_rfl) (by kernel_rfl) ⟨Ei _ _,w,Dc,?_⟩;rw[nx _ eb rfl];simp only[Tryz.ntmps175,AR,AQ,AT,Nat.reduceAdd,Nat.reduceSub,Bz,BA,BQ,BI,BZ,BN];refine am hQ a6 (Ei _ _) ?_;refine av hQ a6 (Ei _ _) ?_;simp only[AR,AQ,AT,Nat.reduceAdd,AU,O,U]
 refine cM hQ a6 (Ei _ _) rfl rfl (by decide) (Fp.Hv .disable (by simp) rfl mb (by kernel_rfl) (by kernel_rfl) (by kernel_rfl) (by kernel_rfl)) (d':=1) rfl ?_;refine au hQ a6 (Ei _ _) ?_
 iterate 2 refine am hQ a6 (Ei _ _) ?_
 refine av hQ a6 (Ei _ _) ?_;simp only[AR,AQ,AT,Nat.reduceAdd,AU,O,U];refine ag hQ a6 (Ei _ _) rfl rfl λK hK q1 q2 q3=>?_;go_simp;refine hK _ w ?_ _ ⟨rfl,rfl,rfl⟩
 try simp only[ab]
 refine ag hQ a6 (Ei _ _) rfl rfl λK hK q1 q2 q3=>?_;go_simp;refine hK _ w ?_ _ ⟨rfl,rfl,rfl⟩;clear hK K q1 q2 q3
 try walk_nrm
 try simp only[ab]
 refine ag hQ a6 (Ei _ _) rfl rfl λK hK q1 q2 q3=>?_;go_simp;refine hK _ w ?_ _ ⟨rfl,rfl,rfl⟩;clear hK K q1 q2 q3
 try walk_nrm
 try simp only[ab]
 refine ag hQ a6 (Ei _ _) rfl rfl @λτ d K hK q1 q2 q3=>?_;have aC:=bA (P:=Y) bn (by kernel_rfl) (by kernel_rfl) (by kernel_rfl) .i32 (by kernel_rfl) (x:=0) (y:=1) (w:=on w τ d) hc hz;go_simp;refine hK _ (w.LE _ _) ?_ _ ⟨rfl,rfl,rfl⟩;clear hK K q1 q2 q3
 try walk_nrm
 try simp only[ab]
 have zt:∃u,(w.LE ⟨bq,oq,F⟩ (.int .i32 1)).L ⟨bq,oq,F⟩=J u:=⟨_,World.cell?_setCell_same _ _ _ hc⟩;refine au hQ a6 (Ei _ _) ?_;refine my hQ a6 (Ei _ _) ?_;refine am hQ a6 (Ei _ _) ?_;refine my hQ a6 (Ei _ _) ?_;refine am hQ a6 (Ei _ _) ?_;refine av hQ a6 (Ei _ _) ?_;simp only[AR,AQ,AT,Nat.reduceAdd,AU,O,U];refine cM hQ a6 (Ei _ _) rfl rfl (by decide) (Fp.Hv .enable (by simp) rfl ml (by kernel_rfl) (by kernel_rfl) (by kernel_rfl) (by kernel_rfl)) (d':=0) rfl ?_
 try walk_nrm
 refine au hQ a6 (Ei _ _) ?_;refine av hQ a6 (Ei _ _) ?_;simp only[AR,AQ,AT,Nat.reduceAdd,AU,O,U];refine ag hQ a6 (Ei _ _) rfl rfl λK hK q1 q2 q3=>?_;go_simp;refine hK _ _ ?_ _ ⟨rfl,rfl,rfl⟩;clear hK K q1 q2 q3
 try walk_nrm
 try simp only[ab]
 refine cM hQ a6 (Ei _ _) rfl rfl (by decide) (Fp.conv (t:=164) rfl (by kernel_rfl) (by kernel_rfl) (by kernel_rfl) rfl zt) (d':=0) rfl ?_
 try walk_nrm
 refine cM hQ a6 (Ei _ _) rfl rfl (by decide) (Fp.G3 .acquire (by simp) rfl Tryz.func169 (by kernel_rfl) (by kernel_rfl) (by kernel_rfl) (by kernel_rfl) (by simp[Act.eval]) zt) (d':=0) rfl ?_
 try walk_nrm
 refine au hQ a6 (Ei _ _) ?_;refine ar hQ a6 (by kernel_rfl) λτ d=>?_;rw[stepG_ret'];simp only[I];refine⟨(Ei _ _),_,Dc,?_⟩;refine dM hQ a6 (by kernel_rfl) λτ d=>?_;refine goes_leave0 rfl rfl eb rfl ⟨zW,_,Dc,?_⟩;refine au hQ a7 zW ?_;refine ar hQ a7 (by kernel_rfl) λτ d=>?_;rw[fu];simp only[I];refine⟨zW,_,Dc,.fin (aA _ _ rfl ⟨rfl,rfl,rfl⟩)⟩
def i5 {BB:V->Bool}(a7:BB 130=M)(a6:BB 176=M):Held Y BB 130 1 0:=by
 intro args q k cs w hk zW hq hc hz;obtain⟨bq,oq,sq⟩:=q;have aB:sq=none:=by
  cases sq with
  |none=>rfl
  |some s=>simp[World.cell?] at hc;split at hc<;>simp_all
 subst aB;generalize a8:(λ(g:L) (W:R)=>Ek (w.LE ⟨bq,oq,F⟩ (.int .i32 0)) W/\∃fr,g=Go.Em.ER fr cs/\fr.fn=130/\fr.kind=k/\fr.mode=.returning/\fr.defers=[]/\fr.oper?=F)=Q;have hQ:∀g w W,Ek w W->Q g w->Q g W:=by
  subst a8;rintro g w1 w2 s ⟨h1,h2⟩;exact⟨h1.trans s,h2⟩
 have aA:∀(a:Act) W,a.defers=[]->Ek (w.LE ⟨bq,oq,F⟩ (.int .i32 0)) W->Q (G { (({ base 130 with kind:=k }:bo).at a []) with mode:=.returning } cs) W:=by
  subst a8;exact λa W h s=>⟨s,_,rfl,rfl,rfl,rfl,h,rfl⟩
 clear a8;obtain⟨t1,t2,t3,t4,t5,tl,ht⟩:=six (n:=Tryz.f130.ntmps) hq Tryz.ntmps130;rw[oI args k b8 rfl,ht];clear ht hq;have hkk:∀a:Act,∀t,(({ base 130 with kind:=k }:bo).at a t).kind≠.early:=λ_ _=>hk;change EL Y BB Q 0 (G _ cs) w;refine av hQ a7 zW ?_;simp only[AR,AQ,AT,Nat.reduceAdd,AU,O,U];refine ag hQ a7 zW rfl rfl λK hK q1 q2 q3=>?_;go_simp;refine hK _ w ?_ _ ⟨rfl,rfl,rfl⟩
 clear hK K q1 q2 q3
 try walk_nrm
 try simp only[ab]
 refine ag hQ a7 zW rfl rfl λK hK q1 q2 q3=>?_;go_simp;refine hK _ w ?_ _ ⟨rfl,rfl,rfl⟩;clear hK K q1 q2 q3
 try walk_nrm
 try simp only[ab]
 refine ag hQ a7 zW rfl rfl λK hK q1 q2 q3=>?_;go_simp;refine hK _ w ?_ _ ⟨rfl,rfl,rfl⟩;clear hK K q1 q2 q3
 try walk_nrm
 try simp only[ab]
 refine ar hQ a7 (by kernel_rfl) λτ d=>?_;refine aD rfl rfl hk rfl ed (by kernel_rfl) (by kernel_rfl) ⟨Ei _ _,w,Dc,?_⟩
 try walk_nrm
 rw[nx _ ed rfl];simp only[Tryz.ntmps176,AR,AQ,AT,Nat.reduceAdd,Nat.reduceSub,Bz,BA,BQ,BI,BZ,BN];refine am hQ a6 (Ei _ _) ?_;refine my hQ a6 (Ei _ _) ?_;refine am hQ a6 (Ei _ _) ?_;refine av hQ a6 (Ei _ _) ?_;simp only[AR,AQ,AT,Nat.reduceAdd,AU,O,U];refine ag hQ a6 (Ei _ _) rfl rfl λK hK q1 q2 q3=>?_;go_simp;refine hK _ w ?_ _ ⟨rfl,rfl,rfl⟩;clear hK K q1 q2 q3
 try walk_nrm
 try simp only[ab]
 refine ag hQ a6 (Ei _ _) rfl rfl λK hK q1 q2 q3=>?_;go_simp;refine hK _ w ?_ _ ⟨rfl,rfl,rfl⟩;clear hK K q1 q2 q3
 try walk_nrm
 try simp only[ab]
 refine ag hQ a6 (Ei _ _) rfl rfl λK hK q1 q2 q3=>?_;go_simp;refine hK _ w ?_ _ ⟨rfl,rfl,rfl⟩;clear hK K q1 q2 q3
 try walk_nrm
 try simp only[ab]
 refine ag hQ a6 (Ei _ _) rfl rfl λK hK q1 q2 q3=>?_;go_simp;refine hK _ w ?_ _ ⟨rfl,rfl,rfl⟩;clear hK K q1 q2 q3
 try walk_nrm
 try simp only[ab]
 refine au hQ a6 (Ei _ _) ?_;refine am hQ a6 (Ei _ _) ?_;refine av hQ a6 (Ei _ _) ?_;simp only[AR,AQ,AT,Nat.reduceAdd,AU,O,U];refine ag hQ a6 (Ei _ _) rfl rfl λK hK q1 q2 q3=>?_;go_simp;refine hK _ w ?_ _ ⟨rfl,rfl,rfl⟩;clear hK K q1 q2 q3
 try walk_nrm
 try simp only[ab]
 refine cM hQ a6 (Ei _ _) rfl rfl (by decide) (Fp.conv (t:=164) rfl (by kernel_rfl) (by kernel_rfl) (by kernel_rfl) rfl ⟨_,hc⟩) (d':=0) rfl ?_
 try walk_nrm
 refine cM hQ a6 (Ei _ _) rfl rfl (by decide) (Fp.G3 .releaseMerge (by simp) rfl Tryz.func156 (by kernel_rfl) (by kernel_rfl) (by kernel_rfl) (by kernel_rfl) (by simp[Act.eval]) ⟨_,hc⟩) (d':=0) rfl ?_
 try walk_nrm
 refine au hQ a6 (Ei _ _) ?_;refine av hQ a6 (Ei _ _) ?_;simp only[AR,AQ,AT,Nat.reduceAdd,AU,O,U];refine cM hQ a6 (Ei _ _) rfl rfl (by decide) (Fp.Hv .disable (by simp) rfl mb (by kernel_rfl) (by kernel_rfl) (by kernel_rfl) (by kernel_rfl)) (d':=1) rfl ?_
 try walk_nrm
 refine au hQ a6 (Ei _ _) ?_;refine am hQ a6 (Ei _ _) ?_;refine av hQ a6 (Ei _ _) ?_;simp only[AR,AQ,AT,Nat.reduceAdd,AU,O,U];refine ag hQ a6 (Ei _ _) rfl rfl λK hK q1 q2 q3=>?_;go_simp;refine hK _ w ?_ _ ⟨rfl,rfl,rfl⟩;clear hK K q1 q2 q3
 try walk_nrm
 try simp only[ab]
 refine ag hQ a6 (Ei _ _) rfl rfl λK hK q1 q2 q3=>?_;go_simp;refine hK _ w ?_ _ ⟨rfl,rfl,rfl⟩;clear hK K q1 q2 q3
 try walk_nrm
 try simp only[ab]
 refine ag hQ a6 (Ei _ _) rfl rfl λK hK q1 q2 q3=>?_;go_simp;refine hK _ w ?_ _ ⟨rfl,rfl,rfl⟩;clear hK K q1 q2 q3
 try walk_nrm
 try simp only[ab]
 refine ag hQ a6 (Ei _ _) rfl rfl @λτ d K hK q1 q2 q3=>?_;have aC:=run_call_add (P:=Y) Tryz.func202 (by kernel_rfl) (by kernel_rfl) (by kernel_rfl) .i32 (by kernel_rfl) (x:=1) (y:=-1) (s:=0) (w:=on w τ d) hc hz (by rfl);go_simp;refine hK _ (w.LE _ _) ?_ _ ⟨rfl,rfl,rfl⟩;clear hK K q1 q2 q3
 try walk_nrm
 try simp only[ab]
 refine ag hQ a6 (Ei _ _) rfl rfl λK hK q1 q2 q3=>?_;go_simp;refine hK _ _ ?_ _ ⟨rfl,rfl,rfl⟩;clear hK K q1 q2 q3
 try walk_nrm
 try simp only[ab]
 refine au hQ a6 (Ei _ _) ?_
 iterate 2 refine am hQ a6 (Ei _ _) ?_
 refine av hQ a6 (Ei _ _) ?_;simp only[AR,AQ,AT,Nat.reduceAdd,AU,O,U];refine ag hQ a6 (Ei _ _) rfl rfl λK hK q1 q2 q3=>?_;go_simp;refine hK _ _ ?_ _ ⟨rfl,rfl,rfl⟩;clear hK K q1 q2 q3
 try walk_nrm
 try simp only[ab]
 refine ag hQ a6 (Ei _ _) rfl rfl λK hK q1 q2 q3=>?_;go_simp;refine hK _ _ ?_ _ ⟨rfl,rfl,rfl⟩;clear hK K q1 q2 q3
 try walk_nrm
 try simp only[ab]
 refine au hQ a6 (Ei _ _) ?_;refine jL hQ a6 (Ei _ _) ?_;refine gh hQ a6 (Ei _ _) ?_;refine av hQ a6 (Ei _ _) ?_;simp only[AR,AQ,AT,Nat.reduceAdd,AU,O,U];refine cM hQ a6 (Ei _ _) rfl rfl (by decide) (Fp.Hv .enable (by simp) rfl ml (by kernel_rfl) (by kernel_rfl) (by kernel_rfl) (by kernel_rfl)) (d':=0) rfl ?_
 try walk_nrm
 refine au hQ a6 (Ei _ _) ?_;refine ar hQ a6 (by kernel_rfl) λτ d=>?_;rw[fu];simp only[I];refine⟨(Ei _ _),_,Dc,?_⟩;refine dM hQ a6 (by kernel_rfl) λτ d=>?_;refine goes_leave0 rfl rfl ed rfl ⟨zW,_,Dc,?_⟩;refine au hQ a7 zW ?_;refine ar hQ a7 (by kernel_rfl) λτ d=>?_;rw[fu];simp only[I];refine⟨zW,_,Dc,.fin (aA _ _ rfl ⟨rfl,rfl,rfl⟩)⟩
def P9:List FuncId:=[45,47,28,48,49,52,44,46,50,51,78,79,80,81,82,83,84,85,86,87,88,89,90,55,57,91,92,93,94,95,96,97,98,99,100,101,121,56,77,102,123,126,127,128,129,130,103,131,132,133,134,135,136,137,138,139,153,154,155,105,140,58,174,177,178,179,180,181,182,183,184,185,186,187,188,189,190,191,104,106,200,204,205,206,207,208,209,210,211,212,213,214,215,216,217,227,228,229,230,232]
def J3 (f:V):Bool:=P9.H f
def put (f:V):Bool:=f==79||f==123||f==129||f==130
def Qb (f:V):Bool:=J3 f&&!put f
def Tryz.Li:Tryz.prog.info? big=none:=by kernel_rfl
def Sq.Li:DP.info? big=none:=by kernel_rfl
noncomputable def PW:Er:=⟨DP,Tryz.prog.L⟩
def mz {p:Nat->Bool}(h:P9.all p=M):∀f,J3 f=M->p f=true:=λf hf=>(B6.1 h) f (by simpa [J3] using hf)
def Nl (f:V):Bool:=f==126||f==127||f==200
def kB {f:V}(h:(f==14||Jh f||f==129||f==130)=N):Tryz.prog.L[f]?=DP.L[f]?:=by
 rw[Sq.get];cases Tryz.prog.L[f]? with
 |none=>rfl
 |some fn =>
  simp only[Cb] at h;simp only[BT,NL,h.1.1.1,h.1.1.2,h.1.2,h.2,Bool.or_self,Ba,if_false]
def tK:P9.all (λf=>Jz DP J3 N f||Nl f)=true:=by kernel_rfl
def NV (f:V)(h:J3 f=M):Jz DP J3 N f=M\/Nl f=true:=by
 have:=mz tK f h;simpa using this
def lY {fs:Array Func}{f:V}(h:Nl f=M)(a6:fs[126]?=J oV/\fs[127]?=J qb/\fs[200]?=J qf):LG ⟨DP,fs⟩ f:=by
 unfold Nl at h;simp only[Bm,beq_iff_eq] at h;obtain(rfl|rfl)|rfl:=h
 .exact⟨oV,_,Sq.fn b9 rfl,a6.1,by kernel_rfl,by kernel_rfl,by kernel_rfl,by kernel_rfl,.add bc,by kernel_rfl⟩
 .exact⟨qb,_,Sq.fn cd rfl,a6.2.1,by kernel_rfl,by kernel_rfl,by kernel_rfl,by kernel_rfl,.load bc,by kernel_rfl⟩
 .exact⟨qf,_,Sq.fn bn rfl,a6.2.2,by kernel_rfl,by kernel_rfl,by kernel_rfl,by kernel_rfl,.Rl .i32 (by decide),by kernel_rfl⟩
def uY {fs:Array Func} {G2:Func} (h:fs[124]?=J G2) (hn:G2.name ≠ "runtime.NumGoroutine") (hb:G2.body.isSome=M) (f:V) (hf:aK J3 f=M):IJ ⟨DP,fs⟩ f:=by
 unfold aK at hf;simp only[AO,beq_iff_eq] at hf;obtain⟨rfl,_⟩:=hf;exact⟨_,G2,_,Sq.put cu rfl,h,by show Tryz.f124.name≠_;decide,hn,rfl,hb⟩
def Am (H:Hid):Lib (Er.of DP) J3 H N J3 0:=oH (λf hf=>(NV f hf).imp_right λh=>lY h ⟨Sq.fn b9 rfl,Sq.fn cd rfl,Sq.fn bn rfl⟩)
 (uY (Sq.put cu rfl) (by show Tryz.f124.name≠_;decide) rfl) ⟨B9 Sq.Lo,Sq.Li⟩
def vM:P9.all (λf=>put f||!(f==14||Jh f||f==129||f==130))=true:=by kernel_rfl
def An (H:Hid):Lib PW J3 H N Qb 0:=by
 refine iJ (λf hf=>?_) (λf hf hb=>?_) (λf hf=>?_) (uY cu (by decide) rfl) ⟨B9 Sq.Lo,Sq.Li⟩
 .simp only[Qb,AO,BX] at hf;obtain h|h:=NV f hf.1
  .refine .inl ⟨h,kB ?_⟩;have:=mz vM f hf.1;simpa [hf.2] using this
  .exact .inr (lY h ⟨b9,cd,bn⟩)
 .simp only[Qb,hf,CX,Ch,put,Bm,beq_iff_eq] at hb;obtain((rfl|rfl)|rfl)|rfl:=hb
  .exact⟨_,_,Sq.put cE rfl,cE,rfl,by show Tryz.f79.name≠_;decide,by decide,rfl,rfl⟩
  .exact⟨_,_,Sq.put cf rfl,cf,rfl,by show Tryz.f123.name≠_;decide,by decide,rfl,rfl⟩
  .exact⟨_,_,Sq.f129,b7,rfl,by show Tryz.f129.name≠_;decide,by decide,rfl,rfl⟩
  .exact⟨_,_,Sq.f130,b8,rfl,by show Tryz.f130.name≠_;decide,by decide,rfl,rfl⟩
 .simp only[Qb,AO] at hf;exact hf.1
def OV (v:bs)(w:R):(∃q,v=.S (J q)/\(bD 166 v 1).run DP w=.ok (.S (J q)) w)\/GN ((bD 166 v 1).run DP w):=by
 by_cases h:∃q,v=.S (J q)
 .obtain⟨q,rfl⟩:=h;refine .inl ⟨q,rfl,?_⟩;obtain⟨b,o,sp⟩:=q;go_simp
 .refine .inr ?_;have hs:Instr.sureAddr v=stuck "an address expected (no nilCheck in front?)":=by
   cases v with
   |pointer o=>cases o with
    |none=>rfl
    |some q=>exact AH ⟨q,rfl⟩ h
   |_=>rfl
  unfold bD;rw[hs];go_simp;simp[GN,stuck];exact trivial
def Kt (f:V)(fn:Func)(x y:Int)(hf:DP.L[f]?=J fn)(ht:fn.body=J (casBody x y))(hn:3<=fn.ntmps)(hr:fn.results=#[]):∃r o1 o2 s,LD DP f x y fn r o1 o2 s:=by
 refine⟨_,_,_,_,hf,ht,hn,hr,⟨rfl,rfl,rfl,rfl⟩,λa w=>?_,λa q w h2 h3 h4=>?_⟩
 .have e:∀o:nt,o.op=.fieldAddr 166 (.tmp 0) 1->cA a.eval o=(do let v<-bD 166 (a.eval (.tmp 0)) 1;pure (.value v)):=λo h=>by unfold cA;rw[h]
  obtain⟨q,h1,h2⟩|h:=OV (a.eval (.tmp 0)) w
  .refine .inl ⟨q,h1,?_⟩;rw[e _ rfl];simp[h2,Result.andThen]
  .refine .inr ?_;rw[e _ rfl];revert h;simp only[Sem.run_bind];generalize (bD 166 (a.eval (.tmp 0)) 1).run DP w=r;intro h;cases r with
   |ok _ _=>exact h.elim
   |halt _ _=>exact h
 .have e : ∀ o : nt, o.op = .call { callee := .value (.func 200), args := #[.tmp 2, .const (.int .i32 x), .const (.int .i32 y)], argTypes := #[291, 21, 21] } -> cA a.eval o = callFunc 200 #[.S (J q), .int .i32 x, .int .i32 y] := fun o h => by
   unfold cA;rw[h];simp[Act.eval,go_sem] at h2 ⊢;rw[h2]
  rw[e _ rfl];rcases OU (Sq.fn bn rfl) (by kernel_rfl) (by kernel_rfl) (by kernel_rfl) (by kernel_rfl) (x:=x) (y:=y) h3 h4 with⟨z,z1,z2⟩|h
  .refine .inl ⟨z,z1,z2,λhz=>?_,λhz=>?_⟩
   .subst hz;exact bA (P:=DP) (Sq.fn bn rfl) (by kernel_rfl) (by kernel_rfl) (by kernel_rfl) .i32 (by kernel_rfl) z1 z2
   .exact run_call_cas_miss (P:=DP) (Sq.fn bn rfl) (by kernel_rfl) (by kernel_rfl) (by kernel_rfl) .i32 (by kernel_rfl) z1 z2 hz
  .exact .inr h
structure MT (BB:V->Bool):Prop where
 sub:∀f,J3 f=M->BB f=M
 Pv:BB 175=M
 Pw:BB 176=M
def oJ {BB:V->Bool}(hL:MT BB){f:V}(h:f=129\/f=130):LF PW BB f:=by
 obtain rfl|rfl:=h
 .obtain⟨r,o1,o2,s,hp⟩:=Kt 129 Dt 0 1 Sq.f129 rfl (by rw[Du];decide) rfl;exact⟨0,1,_,r,o1,o2,s,qo,hp,kZ (hL.sub 129 (by decide)) hL.Pv,b7,rfl⟩
 .obtain⟨r,o1,o2,s,hp⟩:=Kt 130 Dq 1 0 Sq.f130 rfl (by rw[Ds];decide) rfl;exact⟨1,0,_,r,o1,o2,s,q9,hp,i5 (hL.sub 130 (by decide)) hL.Pw,b8,rfl⟩
def xY {BB:V->Bool}{H:Hid}(hL:MT BB)(hn:H.bl=false:=by rfl):II PW J3 Qb BB H 0:=by
 refine⟨Am _,An _,λf hf hb=>?_,hL.sub,hn⟩;obtain hf|hf:=hf
 .simp only[Qb,hf,CX,Ch,put,Bm,beq_iff_eq] at hb;obtain((rfl|rfl)|rfl)|rfl:=hb
  .exact .inl ⟨_,_,Sq.put cE rfl,rfl⟩
  .exact .inl ⟨_,_,Sq.put cf rfl,rfl⟩
  .exact .inr (oJ hL (.inl rfl))
  .exact .inr (oJ hL (.inr rfl))
 .unfold aK at hf;simp only[AO,beq_iff_eq] at hf;obtain⟨rfl,_⟩:=hf;exact .inl ⟨_,_,Sq.put cu rfl,rfl⟩
def az:k9->k9
 |.seq a _=>a
 |c=>c
def af:k9->k9
 |.seq _ b=>b
 |c=>c
def I8:k9->k9
 |.Lo _ b=>b
 |.loop b=>b
 |c=>c
def Gj:k9->Array nt
 |.L _ o _=>o
 |_=>#[]
noncomputable def eB:Code:=Tryz.f79.body.LE .skip
noncomputable def eL:Code:=I8 (I8 (af (az (af (af eB)))))
noncomputable def eI:Code:=I8 (az (af (af eL)))
noncomputable def o0:Array Oper:=Gj (az eB)
noncomputable def o1:Array Oper:=Gj (az (af eB))
noncomputable def o2:Array Oper:=Gj (az (az (af (af eB))))
noncomputable def o3:Array Oper:=Gj (az (I8 (I8 (af (az (af (af eB)))))))
noncomputable def o4:Array Oper:=Gj (az (I8 (az (af (af (I8 (I8 (af (az (af (af eB)))))))))))
noncomputable def o5:Array Oper:=Gj (az (af (I8 (az (af (af (I8 (I8 (af (az (af (af eB))))))))))))
noncomputable def o6:Array Oper:=Gj (az (az (af (af (I8 (az (af (af (I8 (I8 (af (az (af (af eB))))))))))))))
noncomputable def o7:Array Oper:=Gj (az (af (af (af (I8 (az (af (af (I8 (I8 (af (az (af (af eB))))))))))))))
noncomputable def o8:Array Oper:=Gj (af (af (af (af (I8 (az (af (af (I8 (I8 (af (az (af (af eB))))))))))))))
noncomputable def o9:Array Oper:=Gj (af (af (af (I8 (I8 (af (az (af (af eB)))))))))
noncomputable def Kf:Array Oper:=Gj (af (af (af eB)))
def yX:Tryz.f79.body=J (.seq (.L 0 o0 N) (.seq (.L 1 o1 N) (.seq (.seq (.L 2 o2 N) (.Lo 0 (.loop eL))) (.L 10 Kf N)))):=rfl
def yY:eL=.seq (.L 3 o3 N) (.seq (.cond (.tmp 14) .skip (.exit 0)) (.seq (.Lo 1 eI) (.L 9 o9 N))):=rfl
def yZ:eI=.seq (.L 4 o4 N) (.seq (.L 5 o5 N) (.seq (.seq (.L 6 o6 N) (.cond (.tmp 22) (.exit 1) .skip)) (.seq (.L 7 o7 N) (.L 8 o8 N)))):=rfl
def mB {m:Bool}{b:bo}{a:Act}{k:List j2}{cs:List bo}{w:R}:h9 Y m (G (b.at a (.code eL::k)) cs) w=.go (G (b.at a (.code (.L 3 o3 N)::.code (.seq (.cond (.tmp 14) .skip (.exit 0)) (.seq (.Lo 1 eI) (.L 9 o9 N)))::k)) cs) w #[]:=by
 rw[yY];exact bk
def tL {m:Bool}{b:bo}{a:Act}{k:List j2}{cs:List bo}{w:R}:h9 Y m (G (b.at a (.code eI::k)) cs) w=.go (G (b.at a (.code (.L 4 o4 N)::.code (.seq (.L 5 o5 N) (.seq (.seq (.L 6 o6 N) (.cond (.tmp 22) (.exit 1) .skip)) (.seq (.L 7 o7 N) (.L 8 o8 N))))::k)) cs) w #[]:=by
 rw[yZ];exact bk
def vO (w:R)(o:Obj)(a:Addr):(w.Li o).L a=if a.Lo=w.heap.size then(match o with|.cells c _ _=>if a.spot.isSome then F else c[a.off]?|_=>F) else w.L a:=by
 show(match(w.heap.push o)[a.Lo]? with|some (.cells c _ _)=>if a.spot.isSome then F else c[a.off]?|_=>F)=_;rw[Ce];by_cases e:a.Lo=w.heap.size
 .rw[AJ e,AJ e];cases o<;>rfl
 .rw[AE e,AE e];rfl
def aA (w:R)(o:Obj)(b:Nat):(w.Li o).heap[b]?=if b=w.heap.size then J o else w.heap[b]?:=Ce ..
def tM (c:bo)(cs:List bo):(c::cs)≠[]:=by simp
def rq (w:R)(τ:Tape)(d:Nat)(t:TypeId)(z0 z1 z2 z3 z4 y0 y1 y2 y3 y4:bs) :
  Ek (w.Li (cq #[y0,y1,y2,y3,y4] t)) ((((((on (w.Li (cq #[z0,z1,z2,z3,z4] t)) τ d).LE ⟨w.heap.size,0,F⟩ y0).LE ⟨w.heap.size,1,F⟩ y1).LE ⟨w.heap.size,2,F⟩ y2).LE ⟨w.heap.size,3,F⟩ y3).LE ⟨w.heap.size,4,F⟩ y4):=by
 refine⟨?_,rfl,rfl⟩;apply Array.ext_getElem?;intro b;simp only[EC];have e0:(on (w.Li (cq #[z0,z1,z2,z3,z4] t)) τ d).heap[b]?=if b=w.heap.size then J (cq #[z0,z1,z2,z3,z4] t) else w.heap[b]?:=aA w _ b
 rw[e0,aA];by_cases e:b=w.heap.size
 .simp only[AJ e];rfl
 .simp only[AE e]
def aG (w:R)(o:Obj):(w.Li o).heap.size=w.heap.size+1:=Array.size_push _
def ax (W:R)(τ:Tape)(d:Nat)(a:Addr):(on W τ d).L a=W.L a:=rfl
def ak (W:R)(τ:Tape)(d:Nat):(on W τ d).heap.size=W.heap.size:=rfl
def al (W:R)(τ:Tape)(d:Nat)(a:Addr):(on W τ d).H a=W.H a:=rfl
def vP {BB:V->Bool}(hB:BB 79=M){Q:L->R->Prop}(hQ:∀g w W,Ek w W->Q g w->Q g W){cb:Nat}{f:Fn}{fx fc:Array bs}{cs:List bo}(zW:cs≠[]){w:R}
  (h:D9 Y (E7 Y BB) Q (G ((base 79).at ⟨#[.S (J ⟨cb,0,F⟩),.func f fx fc,.S (J ⟨w.heap.size,0,F⟩),.S (J ⟨w.heap.size+1,0,F⟩),undef,undef,undef,undef,undef,undef,undef,undef,undef,undef,undef,undef,undef,undef,undef,undef,undef,undef,undef,undef,undef,undef,undef],[]⟩ [.inRegion o1 [0],.code (.seq (.seq (.L 2 o2 N) (.Lo 0 (.loop eL))) (.L 10 Kf N))]) cs) ((w.Li (cq #[.S (J ⟨cb,0,F⟩)] 112)).Li (cq #[.func f fx fc] 156))) :
  D9 Y (E7 Y BB) Q (G (bW Y 79 #[.S (J ⟨cb,0,F⟩),.func f fx fc] .normal) cs) w:=by
 rw[nx _ cE yX];simp only[Tryz.ntmps79,AR,AQ,AT,Nat.reduceAdd,Nat.reduceSub,Bz,BA,BQ,BI,BZ,BN];refine D9.LE hQ hB (by kernel_rfl) λτ d=>?_;rw[bk];simp only[I];refine⟨zW,w,Dc,?_⟩;refine D9.LE hQ hB (by kernel_rfl) λτ d=>?_;rw[A];simp only[I,o0,eB,br,AS,Gj,az,af,I8,AR,AQ,AT,Nat.reduceAdd,AU,O,U];refine⟨zW,w,Dc,?_⟩;refine D9.LE hQ hB (by kernel_rfl) λτ d=>?_
 refine E rfl rfl (by decide) (λK hK=>?_);have q1:=ax;have q2:=ak;have q3:=al;go_simp;refine hK _ _ ⟨zW,w.Li _,⟨rfl,rfl,rfl⟩,?_⟩;refine D9.LE hQ hB (by kernel_rfl) λτ d=>?_;refine E rfl rfl (by decide) (λK hK=>?_);go_simp;refine hK _ _ ⟨zW,(w.Li _).Li _,⟨rfl,rfl,rfl⟩,?_⟩;refine D9.LE hQ hB (by kernel_rfl) λτ d=>?_;rw[D];simp only[I];refine⟨zW,_,Dc,?_⟩
 refine D9.LE hQ hB (by kernel_rfl) λτ d=>?_;rw[bk];simp only[I];refine⟨zW,_,Dc,?_⟩;refine D9.LE hQ hB (by kernel_rfl) λτ d=>?_;rw[A];have s1:o1.size=1:=rfl;simp only[I,s1,O,U];refine⟨zW,_,Dc,?_⟩;exact h
def pT {m:Bool}{a:Act}{k:List j2}{cs:List bo}{W:R} :
  h9 Y m (G ((base 79).at a (.inRegion o1 [0]::k)) cs) W=.go (G ((base 79).at (a.put (J 4) (.S (J ⟨W.heap.size,0,F⟩))) (.inRegion o1 []::k)) cs) (W.Li (cq #[.int .u64 0,.int .u32 0] 215)) #[]:=by
 obtain⟨o,h1,h2,h3,h4⟩:∃o,o1[0]?=J o/\o.op=.Li 215/\o.dst=J 4/\o.guard=none:=⟨_,rfl,rfl,rfl,rfl⟩;have hr:(cA a.eval o).run Y W=.ok (.value (.S (J ⟨W.heap.size,0,F⟩))) (W.Li (cq #[.int .u64 0,.int .u32 0] 215)):=by
  unfold cA;rw[h2];go_simp
 have he:(cA a.eval o).events Y W #[]=#[]:=by
  unfold cA;rw[h2];simp[go_sem]
 rw[stepG_value h1 (by unfold Region.wanted;rw[h4]) (by decide) hr,h3];have h5:listed Y (base 79).fn a o W=#[]:=by unfold listed;rw[he];exact seen_none _ _
 rw[h5]
def vQ {BB:V->Bool}(hB:BB 79=M){Q:L->R->Prop}(hQ:∀g w W,Ek w W->Q g w->Q g W){cb sb n c b2 b3 b4:Nat}{p0 p1:bs}{cs:List bo}(zW:cs≠[]){w:R}{v0:bs}
  (g1:w.L ⟨b2,0,F⟩=J (.S (J ⟨cb,0,F⟩))) (g2:w.L ⟨cb,2,F⟩=J (.slice (J ⟨sb,0,F⟩) n c)) (g3:w.L ⟨cb,0,F⟩=J v0)
  (h:D9 Y (E7 Y BB) Q (G ((base 79).at ⟨#[p0,p1,.S (J ⟨b2,0,F⟩),.S (J ⟨b3,0,F⟩),.S (J ⟨b4,0,F⟩),undef,undef,undef,.S (J ⟨cb,0,F⟩),.S (J ⟨cb,0,F⟩),.S (J ⟨cb,2,F⟩),.slice (J ⟨sb,0,F⟩) n c,bb bc n,bb bc 0,undef,undef,undef,undef,undef,undef,undef,undef,undef,undef,undef,undef,undef],[]⟩ [.code eL,.inLoop eL,.inBlock 0,.code (.L 10 Kf N)]) cs) w) :
  D9 Y (E7 Y BB) Q (G ((base 79).at ⟨#[p0,p1,.S (J ⟨b2,0,F⟩),.S (J ⟨b3,0,F⟩),.S (J ⟨b4,0,F⟩),undef,undef,undef,undef,undef,undef,undef,undef,undef,undef,undef,undef,undef,undef,undef,undef,undef,undef,undef,undef,undef,undef],[]⟩ [.inRegion o1 [],.code (.seq (.seq (.L 2 o2 N) (.Lo 0 (.loop eL))) (.L 10 Kf N))]) cs) w:=by
 refine D9.LE hQ hB (by kernel_rfl) λτ d=>?_;rw[D];simp only[I];refine⟨zW,w,Dc,?_⟩;refine D9.LE hQ hB (by kernel_rfl) λτ d=>?_;rw[bk];simp only[I];refine⟨zW,w,Dc,?_⟩;refine D9.LE hQ hB (by kernel_rfl) λτ d=>?_;rw[bk];simp only[I];refine⟨zW,w,Dc,?_⟩;refine D9.LE hQ hB (by kernel_rfl) λτ d=>?_;rw[A];simp only[I,o2,eB,br,AS,Gj,az,af,I8,AR,AQ,AT,Nat.reduceAdd,AU,O,U]
 refine⟨zW,w,Dc,?_⟩;refine D9.LE hQ hB (by kernel_rfl) λτ d=>?_;refine E rfl rfl (by decide) (λK hK=>?_);have q1:=ax;have q2:=ak;have q3:=al;go_simp;refine hK _ _ ⟨zW,w,⟨rfl,rfl,rfl⟩,?_⟩;refine D9.LE hQ hB (by kernel_rfl) λτ d=>?_;refine E rfl rfl (by decide) (λK hK=>?_);have q1:=ax;have q2:=ak;have q3:=al;go_simp;refine hK _ _ ⟨zW,w,⟨rfl,rfl,rfl⟩,?_⟩;refine D9.LE hQ hB (by kernel_rfl) λτ d=>?_
 refine E rfl rfl (by decide) (λK hK=>?_);have q1:=ax;have q2:=ak;have q3:=al;go_simp;refine hK _ _ ⟨zW,w,⟨rfl,rfl,rfl⟩,?_⟩;refine D9.LE hQ hB (by kernel_rfl) λτ d=>?_;refine E rfl rfl (by decide) (λK hK=>?_);have q1:=ax;have q2:=ak;have q3:=al;go_simp;refine hK _ _ ⟨zW,w,⟨rfl,rfl,rfl⟩,?_⟩;refine D9.LE hQ hB (by kernel_rfl) λτ d=>?_;refine E rfl rfl (by decide) (λK hK=>?_)
 have q1:=ax;have q2:=ak;have q3:=al;go_simp;refine hK _ _ ⟨zW,w,⟨rfl,rfl,rfl⟩,?_⟩;refine D9.LE hQ hB (by kernel_rfl) λτ d=>?_;refine E rfl rfl (by decide) (λK hK=>?_);go_simp;refine hK _ _ ⟨zW,w,⟨rfl,rfl,rfl⟩,?_⟩;refine D9.LE hQ hB (by kernel_rfl) λτ d=>?_;rw[D];simp only[I];refine⟨zW,w,Dc,?_⟩;refine D9.LE hQ hB (by kernel_rfl) λτ d=>?_;rw[stepG_block];simp only[I]
 refine⟨zW,w,Dc,?_⟩;refine D9.LE hQ hB (by kernel_rfl) λτ d=>?_;rw[stepG_loop];simp only[I];refine⟨zW,w,Dc,?_⟩;exact h
def xZ {BB:V->Bool}(hB:BB 79=M){Q:L->R->Prop}(hQ:∀g w W,Ek w W->Q g w->Q g W){p0 p1 v5 v6 v7 v8 v9 v10 v14 v15 v16 v17 v18 v19 v20 v21 v22 v23 v24 v25 v26:bs}{b2 b3 b4 cb sb n c i:Nat}{cs:List bo}(zW:cs≠[]){w:R}{x:Int}(hi:i<n)(g1:w.L ⟨b2,0,F⟩=J (.S (J ⟨cb,0,F⟩)))(g2:w.L ⟨sb,i,F⟩=J (.int .u8 x))(l2:b2<w.heap.size)
  (h:D9 Y (E7 Y BB) Q (G (bW Y 121 #[.S (J ⟨cb,0,F⟩),.S (J ⟨w.heap.size,0,F⟩),bb bc 0] .normal) (((base 79).at ⟨#[p0,p1,.S (J ⟨b2,0,F⟩),.S (J ⟨b3,0,F⟩),.S (J ⟨b4,0,F⟩),v5,.int .u8 x,.S (J ⟨w.heap.size,0,F⟩),v8,v9,v10,.slice (J ⟨sb,0,F⟩) n c,bb bc n,bb bc i,.bool M,.S (J ⟨sb,i,F⟩),.int .u8 x,.int .u8 x,.agg #[.int .u8 x,.int .u8 0,.int .u8 0,.int .u8 0,.int .u8 0],.S (J ⟨cb,0,F⟩),v20,v21,v22,v23,v24,v25,v26],[]⟩ [.inRegion o6 [1,2,3],.code (.cond (.tmp 22) (.exit 1) .skip),.code (.seq (.L 7 o7 N) (.L 8 o8 N)),.inBlock 1,.code (.L 9 o9 N),.inLoop eL,.inBlock 0,.code (.L 10 Kf N)])::cs)) (w.Li (cq #[.int .u8 x,.int .u8 0,.int .u8 0,.int .u8 0,.int .u8 0] 115))) :
  D9 Y (E7 Y BB) Q (G ((base 79).at ⟨#[p0,p1,.S (J ⟨b2,0,F⟩),.S (J ⟨b3,0,F⟩),.S (J ⟨b4,0,F⟩),v5,v6,v7,v8,v9,v10,.slice (J ⟨sb,0,F⟩) n c,bb bc n,bb bc i,v14,v15,v16,v17,v18,v19,v20,v21,v22,v23,v24,v25,v26],[]⟩ [.code eL,.inLoop eL,.inBlock 0,.code (.L 10 Kf N)]) cs) w:=by
 refine D9.LE hQ hB (by kernel_rfl) λτ d=>?_;rw[mB];simp only[I];refine⟨zW,w,Dc,?_⟩;refine D9.LE hQ hB (by kernel_rfl) λτ d=>?_;rw[A];simp only[I,o3,eB,br,AS,Gj,az,af,I8,AR,AQ,AT,Nat.reduceAdd,AU,O,U];refine⟨zW,w,Dc,?_⟩;refine D9.LE hQ hB (by kernel_rfl) λτ d=>?_;refine E rfl rfl (by decide) (λK hK=>?_);have q1:=ax;have q2:=ak
 have q3:=al;go_simp;clear q1 q2 q3;refine hK _ _ ⟨zW,w,⟨rfl,rfl,rfl⟩,?_⟩;clear hK K
 try walk_nrm
 try simp only[ak]
 refine D9.LE hQ hB (by kernel_rfl) λτ d=>?_;rw[D];simp only[I];refine⟨zW,w,Dc,?_⟩;refine D9.LE hQ hB (by kernel_rfl) λτ d=>?_;rw[bk];simp only[I];refine⟨zW,w,Dc,?_⟩;refine D9.LE hQ hB (by kernel_rfl) λτ d=>?_;rw[ck (t:=M) rfl];simp only[I,if_true,if_false,Ba,↓reduceIte];refine⟨zW,w,Dc,?_⟩;refine D9.LE hQ hB (by kernel_rfl) λτ d=>?_;rw[j3]
 simp only[I];refine⟨zW,w,Dc,?_⟩;refine D9.LE hQ hB (by kernel_rfl) λτ d=>?_;rw[bk];simp only[I];refine⟨zW,w,Dc,?_⟩;refine D9.LE hQ hB (by kernel_rfl) λτ d=>?_;rw[stepG_block];simp only[I];refine⟨zW,w,Dc,?_⟩;refine D9.LE hQ hB (by kernel_rfl) λτ d=>?_;rw[tL];simp only[I];refine⟨zW,w,Dc,?_⟩;refine D9.LE hQ hB (by kernel_rfl) λτ d=>?_;rw[A];simp only[I,o4,eB,br,AS,Gj,az,af,I8,AR,AQ,AT,Nat.reduceAdd,AU,O,U]
 refine⟨zW,w,Dc,?_⟩;have a6:((i:Nat):Int).L=i:=by omega
 refine D9.LE hQ hB (by kernel_rfl) λτ d=>?_;refine E rfl rfl (by decide) (λK hK=>?_);have q1:=ax;have q2:=ak;have q3:=al;go_simp;clear q1 q2 q3;refine hK _ _ ⟨zW,w,⟨rfl,rfl,rfl⟩,?_⟩;clear hK K
 try walk_nrm
 try simp only[ak]
 refine D9.LE hQ hB (by kernel_rfl) λτ d=>?_;refine E rfl rfl (by decide) (λK hK=>?_);have q1:=ax;have q2:=ak;have q3:=al;go_simp;clear q1 q2 q3;refine hK _ _ ⟨zW,w,⟨rfl,rfl,rfl⟩,?_⟩;clear hK K
 try walk_nrm
 try simp only[ak]
 refine D9.LE hQ hB (by kernel_rfl) λτ d=>?_;refine E rfl rfl (by decide) (λK hK=>?_);have q1:=ax;have q2:=ak;have q3:=al;go_simp;clear q1 q2 q3;refine hK _ _ ⟨zW,w,⟨rfl,rfl,rfl⟩,?_⟩;clear hK K
 try walk_nrm
 try simp only[ak]
 refine D9.LE hQ hB (by kernel_rfl) λτ d=>?_;rw[D];simp only[I];refine⟨zW,w,Dc,?_⟩;refine D9.LE hQ hB (by kernel_rfl) λτ d=>?_;rw[bk];simp only[I];refine⟨zW,w,Dc,?_⟩;refine D9.LE hQ hB (by kernel_rfl) λτ d=>?_;rw[A];simp only[I,o5,eB,br,AS,Gj,az,af,I8,AR,AQ,AT,Nat.reduceAdd,AU,O,U];refine⟨zW,w,Dc,?_⟩;refine D9.LE hQ hB (by kernel_rfl) λτ d=>?_
 refine E rfl rfl (by decide) (λK hK=>?_);have q1:=ax;have q2:=ak;have q3:=al;go_simp;clear q1 q2 q3;refine hK _ _ ⟨zW,w,⟨rfl,rfl,rfl⟩,?_⟩;clear hK K
 try walk_nrm
 try simp only[ak]
 refine D9.LE hQ hB (by kernel_rfl) λτ d=>?_;refine E rfl rfl (by decide) (λK hK=>?_);have q1:=ax;have q2:=ak;have q3:=al;go_simp;clear q1 q2 q3;refine hK _ _ ⟨zW,w,⟨rfl,rfl,rfl⟩,?_⟩;clear hK K
 try walk_nrm
 try simp only[ak]
 refine D9.LE hQ hB (by kernel_rfl) λτ d=>?_;refine E rfl rfl (by decide) (λK hK=>?_);have q1:=ax;have q2:=ak;have q3:=al;go_simp;clear q1 q2 q3;refine hK _ _ ⟨zW,w.Li _,⟨rfl,rfl,rfl⟩,?_⟩;clear hK K
 try walk_nrm
 try simp only[ak]
 refine D9.LE hQ hB (by kernel_rfl) λτ d=>?_;refine E rfl rfl (by decide) (λK hK=>?_);have q1:=ax;have q2:=ak;have q3:=al;go_simp;clear q1 q2 q3;refine hK _ _ ⟨zW,_,rq w τ d _ _ _ _ _ _ _ _ _ _ _,?_⟩;clear hK K
 try walk_nrm
 generalize hW:w.Li (cq #[.int .u8 x,.int .u8 0,.int .u8 0,.int .u8 0,.int .u8 0] 115)=W at h ⊢;have g3:W.L ⟨b2,0,F⟩=J (.S (J ⟨cb,0,F⟩)):=by rw[<-hW,<-g1];simp only[vO];rw[AE (by omega)]
 clear g1 g2;refine D9.LE hQ hB (by kernel_rfl) λτ d=>?_;rw[D];simp only[I];refine⟨zW,W,Dc,?_⟩;refine D9.LE hQ hB (by kernel_rfl) λτ d=>?_;rw[bk];simp only[I];refine⟨zW,W,Dc,?_⟩;refine D9.LE hQ hB (by kernel_rfl) λτ d=>?_;rw[bk];simp only[I];refine⟨zW,W,Dc,?_⟩;refine D9.LE hQ hB (by kernel_rfl) λτ d=>?_;rw[A];simp only[I,o6,eB,br,AS,Gj,az,af,I8,AR,AQ,AT,Nat.reduceAdd,AU,O,U]
 refine⟨zW,W,Dc,?_⟩;refine D9.LE hQ hB (by kernel_rfl) λτ d=>?_;refine E rfl rfl (by decide) (λK hK=>?_);have q1:=ax;have q2:=ak;have q3:=al;go_simp;clear q1 q2 q3;refine hK _ _ ⟨zW,W,⟨rfl,rfl,rfl⟩,?_⟩;clear hK K
 try walk_nrm
 try simp only[ak]
 refine D9.LE hQ hB (by kernel_rfl) λτ d=>?_;refine aD rfl rfl (by decide) rfl Tryz.func121 (by kernel_rfl) (by kernel_rfl) ⟨tM _ _,W,Dc,?_⟩
 try walk_nrm
 exact h
def vR {BB:V->Bool}(hB:BB 79=M){Q:L->R->Prop}(hQ:∀g w W,Ek w W->Q g w->Q g W){p0 p1 v5 v6 v7 v8 v9 v10 v14 v15 v16 v17 v18 v19 v20 v21 v22 v23 v24 v25 v26:bs}{b2 b3 b4 cb sb n c i:Nat}{cs:List bo}(zW:cs≠[]){w:R}{k:Int}{y1 y2:bs}(hw:IntKind.i64.wrap ((i:Int)+1)=((i+1:Nat):Int))(hk:k≠0)
  (h:D9 Y (E7 Y BB) Q (G ((base 79).at ⟨#[p0,p1,.S (J ⟨b2,0,F⟩),.S (J ⟨b3,0,F⟩),.S (J ⟨b4,0,F⟩),v5,v6,v7,v8,v9,v10,.slice (J ⟨sb,0,F⟩) n c,bb bc n,bb bc ((i+1:Nat):Int),v14,v15,v16,v17,v18,v19,.agg #[bb bc k,y1,y2],bb bc k,.bool M,v23,v24,bb bc ((i+1:Nat):Int),v26],[]⟩ [.code eL,.inLoop eL,.inBlock 0,.code (.L 10 Kf N)]) cs) w) :
  D9 Y (E7 Y BB) Q (G ((base 79).at ⟨#[p0,p1,.S (J ⟨b2,0,F⟩),.S (J ⟨b3,0,F⟩),.S (J ⟨b4,0,F⟩),v5,v6,v7,v8,v9,v10,.slice (J ⟨sb,0,F⟩) n c,bb bc n,bb bc i,v14,v15,v16,v17,v18,v19,.agg #[bb bc k,y1,y2],v21,v22,v23,v24,v25,v26],[]⟩ [.inRegion o6 [2,3],.code (.cond (.tmp 22) (.exit 1) .skip),.code (.seq (.L 7 o7 N) (.L 8 o8 N)),.inBlock 1,.code (.L 9 o9 N),.inLoop eL,.inBlock 0,.code (.L 10 Kf N)]) cs) w:=by
 simp only[o6,eB,br,AS,Gj,az,af,I8];refine D9.LE hQ hB (by kernel_rfl) λτ d=>?_;refine E rfl rfl (by decide) (λK hK=>?_);have q1:=ax;have q2:=ak;have q3:=al;go_simp;clear q1 q2 q3;refine hK _ _ ⟨zW,w,⟨rfl,rfl,rfl⟩,?_⟩;clear hK K
 try walk_nrm
 try simp only[ak]
 refine D9.LE hQ hB (by kernel_rfl) λτ d=>?_;refine E rfl rfl (by decide) (λK hK=>?_);have q1:=ax;have q2:=ak;have q3:=al;go_simp;clear q1 q2 q3;refine hK _ _ ⟨zW,w,⟨rfl,rfl,rfl⟩,?_⟩;clear hK K
 try walk_nrm
 try simp only[ak]
 refine D9.LE hQ hB (by kernel_rfl) λτ d=>?_;rw[D];simp only[I];refine⟨zW,w,Dc,?_⟩;refine D9.LE hQ hB (by kernel_rfl) λτ d=>?_;rw[ck (t:=M) (by simp[Act.eval,hk])];simp only[I,if_true,if_false,Ba,↓reduceIte];refine⟨zW,w,Dc,?_⟩;refine D9.LE hQ hB (by kernel_rfl) λτ d=>?_;rw[stepG_exit rfl];simp only[I];refine⟨zW,w,Dc,?_⟩;refine D9.LE hQ hB (by kernel_rfl) λτ d=>?_
 rw[A];simp only[I,o9,eB,br,AS,Gj,az,af,I8,AR,AQ,AT,Nat.reduceAdd,AU,O,U];refine⟨zW,w,Dc,?_⟩;refine D9.LE hQ hB (by kernel_rfl) λτ d=>?_;refine E rfl rfl (by decide) (λK hK=>?_);have q1:=ax;have q2:=ak;have q3:=al;go_simp;clear q1 q2 q3;refine hK _ _ ⟨zW,w,⟨rfl,rfl,rfl⟩,?_⟩;clear hK K
 try walk_nrm
 try simp only[ak]
 try rw[hw]
 refine D9.LE hQ hB (by kernel_rfl) λτ d=>?_;refine E rfl rfl (by decide) (λK hK=>?_);have q1:=ax;have q2:=ak;have q3:=al;go_simp;clear q1 q2 q3;refine hK _ _ ⟨zW,w,⟨rfl,rfl,rfl⟩,?_⟩;clear hK K
 try walk_nrm
 try simp only[ak]
 refine D9.LE hQ hB (by kernel_rfl) λτ d=>?_;rw[D];simp only[I];refine⟨zW,w,Dc,?_⟩;refine D9.LE hQ hB (by kernel_rfl) λτ d=>?_;rw[stepG_inLoop];simp only[I];refine⟨zW,w,Dc,?_⟩;simpa [show(k != 0)=M by simp[hk]] using h
def vS {BB:V->Bool}(hB:BB 79=M){Q:L->R->Prop}(hQ:∀g w W,Ek w W->Q g w->Q g W){p0 p1 v5 v6 v7 v8 v9 v10 v14 v15 v16 v17 v18 v19 v20 v21 v22 v23 v24 v25 v26:bs}{b2 b3 b4 cb sb n c i:Nat}{cs:List bo}(zW:cs≠[]){w:R}{y1 y2:bs}
  (h:D9 Y (E7 Y BB) Q (G (bW Y 122 #[.S (J ⟨b4,0,F⟩),bb bc 1] .normal) (((base 79).at ⟨#[p0,p1,.S (J ⟨b2,0,F⟩),.S (J ⟨b3,0,F⟩),.S (J ⟨b4,0,F⟩),v5,v6,v7,v8,v9,v10,.slice (J ⟨sb,0,F⟩) n c,bb bc n,bb bc i,v14,v15,v16,v17,v18,v19,.agg #[bb bc 0,y1,y2],bb bc 0,.bool N,v23,v24,v25,v26],[]⟩ [.inRegion o7 [0],.code (.L 8 o8 N),.inBlock 1,.code (.L 9 o9 N),.inLoop eL,.inBlock 0,.code (.L 10 Kf N)])::cs)) w) :
  D9 Y (E7 Y BB) Q (G ((base 79).at ⟨#[p0,p1,.S (J ⟨b2,0,F⟩),.S (J ⟨b3,0,F⟩),.S (J ⟨b4,0,F⟩),v5,v6,v7,v8,v9,v10,.slice (J ⟨sb,0,F⟩) n c,bb bc n,bb bc i,v14,v15,v16,v17,v18,v19,.agg #[bb bc 0,y1,y2],v21,v22,v23,v24,v25,v26],[]⟩ [.inRegion o6 [2,3],.code (.cond (.tmp 22) (.exit 1) .skip),.code (.seq (.L 7 o7 N) (.L 8 o8 N)),.inBlock 1,.code (.L 9 o9 N),.inLoop eL,.inBlock 0,.code (.L 10 Kf N)]) cs) w:=by
 simp only[o6,eB,br,AS,Gj,az,af,I8];refine D9.LE hQ hB (by kernel_rfl) λτ d=>?_;refine E rfl rfl (by decide) (λK hK=>?_);have q1:=ax;have q2:=ak;have q3:=al;go_simp;clear q1 q2 q3;refine hK _ _ ⟨zW,w,⟨rfl,rfl,rfl⟩,?_⟩;clear hK K
 try walk_nrm
 try simp only[ak]
 refine D9.LE hQ hB (by kernel_rfl) λτ d=>?_;refine E rfl rfl (by decide) (λK hK=>?_);have q1:=ax;have q2:=ak;have q3:=al;go_simp;clear q1 q2 q3;refine hK _ _ ⟨zW,w,⟨rfl,rfl,rfl⟩,?_⟩;clear hK K
 try walk_nrm
 try simp only[ak]
 refine D9.LE hQ hB (by kernel_rfl) λτ d=>?_;rw[D];simp only[I];refine⟨zW,w,Dc,?_⟩;refine D9.LE hQ hB (by kernel_rfl) λτ d=>?_;rw[ck (t:=N) rfl];simp only[I,if_true,if_false,Ba,↓reduceIte];refine⟨zW,w,Dc,?_⟩;refine D9.LE hQ hB (by kernel_rfl) λτ d=>?_;rw[j3];simp only[I];refine⟨zW,w,Dc,?_⟩;refine D9.LE hQ hB (by kernel_rfl) λτ d=>?_;rw[bk]
 simp only[I];refine⟨zW,w,Dc,?_⟩;refine D9.LE hQ hB (by kernel_rfl) λτ d=>?_;rw[A];have s7:o7.size=1:=rfl;simp only[I,s7,O,U];refine⟨zW,w,Dc,?_⟩;refine D9.LE hQ hB (by kernel_rfl) λτ d=>?_;refine aD rfl rfl (by decide) rfl Tryz.func122 (by kernel_rfl) (by kernel_rfl) ⟨tM _ _,w,Dc,?_⟩
 try walk_nrm
 simpa using h
def x9 {BB:V->Bool}(hB:BB 79=M){Q:L->R->Prop}(hQ:∀g w W,Ek w W->Q g w->Q g W){p0 p1 v5 v6 v7 v8 v9 v10 v14 v15 v16 v17 v18 v19 v20 v21 v22 v23 v24 v25 v26:bs}{b2 b3 b4 cb sb n c i:Nat}{cs:List bo}(zW:cs≠[]){w:R}
  (h:D9 Y (E7 Y BB) Q (G ((base 79).at ⟨#[p0,p1,.S (J ⟨b2,0,F⟩),.S (J ⟨b3,0,F⟩),.S (J ⟨b4,0,F⟩),v5,v6,v7,v8,v9,v10,.slice (J ⟨sb,0,F⟩) n c,bb bc n,bb bc i,v14,v15,v16,v17,v18,v19,v20,v21,v22,v23,.func (.func 123) #[] #[.S (J ⟨b4,0,F⟩),.S (J ⟨b2,0,F⟩),v7,.S (J ⟨b3,0,F⟩)],v25,v26],[]⟩ [.inRegion o8 [1],.inBlock 1,.code (.L 9 o9 N),.inLoop eL,.inBlock 0,.code (.L 10 Kf N)]) cs) w) :
  D9 Y (E7 Y BB) Q (G ((base 79).at ⟨#[p0,p1,.S (J ⟨b2,0,F⟩),.S (J ⟨b3,0,F⟩),.S (J ⟨b4,0,F⟩),v5,v6,v7,v8,v9,v10,.slice (J ⟨sb,0,F⟩) n c,bb bc n,bb bc i,v14,v15,v16,v17,v18,v19,v20,v21,v22,v23,v24,v25,v26],[]⟩ [.inRegion o7 [],.code (.L 8 o8 N),.inBlock 1,.code (.L 9 o9 N),.inLoop eL,.inBlock 0,.code (.L 10 Kf N)]) cs) w:=by
 refine D9.LE hQ hB (by kernel_rfl) λτ d=>?_;rw[D];simp only[I];refine⟨zW,w,Dc,?_⟩;refine D9.LE hQ hB (by kernel_rfl) λτ d=>?_;rw[A];have s8:o8.size=2:=rfl;simp only[I,s8,O,U];refine⟨zW,w,Dc,?_⟩;simp only[o8,eB,br,AS,Gj,az,af,I8] at h ⊢;refine D9.LE hQ hB (by kernel_rfl) λτ d=>?_;refine E rfl rfl (by decide) (λK hK=>?_)
 have q1:=ax;have q2:=ak;have q3:=al;go_simp;clear q1 q2 q3;refine hK _ _ ⟨zW,w,⟨rfl,rfl,rfl⟩,?_⟩;clear hK K
 try walk_nrm
 try simp only[ak]
 exact h
def ya {BB:V->Bool}(hB:BB 79=M){Q:L->R->Prop}(hQ:∀g w W,Ek w W->Q g w->Q g W){p0 p1 v5 v6 v7 v8 v9 v10 v14 v15 v16 v17 v18 v19 v20 v21 v22 v23 v24 v25 v26:bs}{b2 b3 b4 cb sb n c i:Nat}{cs:List bo}(zW:cs≠[]){w:R}(hw:IntKind.i64.wrap ((i:Int)+1)=((i+1:Nat):Int))
  (h:D9 Y (E7 Y BB) Q (G ((base 79).at ⟨#[p0,p1,.S (J ⟨b2,0,F⟩),.S (J ⟨b3,0,F⟩),.S (J ⟨b4,0,F⟩),v5,v6,v7,v8,v9,v10,.slice (J ⟨sb,0,F⟩) n c,bb bc n,bb bc ((i+1:Nat):Int),v14,v15,v16,v17,v18,v19,v20,v21,v22,v23,v24,bb bc ((i+1:Nat):Int),v26],[]⟩ [.code eL,.inLoop eL,.inBlock 0,.code (.L 10 Kf N)]) cs) w) :
  D9 Y (E7 Y BB) Q (G ((base 79).at ⟨#[p0,p1,.S (J ⟨b2,0,F⟩),.S (J ⟨b3,0,F⟩),.S (J ⟨b4,0,F⟩),v5,v6,v7,v8,v9,v10,.slice (J ⟨sb,0,F⟩) n c,bb bc n,bb bc i,v14,v15,v16,v17,v18,v19,v20,v21,v22,v23,v24,v25,v26],[]⟩ [.inRegion o8 [],.inBlock 1,.code (.L 9 o9 N),.inLoop eL,.inBlock 0,.code (.L 10 Kf N)]) cs) w:=by
 refine D9.LE hQ hB (by kernel_rfl) λτ d=>?_;rw[D];simp only[I];refine⟨zW,w,Dc,?_⟩;refine D9.LE hQ hB (by kernel_rfl) λτ d=>?_;rw[stepG_inBlock];simp only[I];refine⟨zW,w,Dc,?_⟩;refine D9.LE hQ hB (by kernel_rfl) λτ d=>?_;rw[A];simp only[I,o9,eB,br,AS,Gj,az,af,I8,AR,AQ,AT,Nat.reduceAdd,AU,O,U];refine⟨zW,w,Dc,?_⟩;refine D9.LE hQ hB (by kernel_rfl) λτ d=>?_
 refine E rfl rfl (by decide) (λK hK=>?_);have q1:=ax;have q2:=ak;have q3:=al;go_simp;clear q1 q2 q3;refine hK _ _ ⟨zW,w,⟨rfl,rfl,rfl⟩,?_⟩;clear hK K
 try walk_nrm
 try simp only[ak]
 try rw[hw]
 refine D9.LE hQ hB (by kernel_rfl) λτ d=>?_;refine E rfl rfl (by decide) (λK hK=>?_);have q1:=ax;have q2:=ak;have q3:=al;go_simp;clear q1 q2 q3;refine hK _ _ ⟨zW,w,⟨rfl,rfl,rfl⟩,?_⟩;clear hK K
 try walk_nrm
 try simp only[ak]
 refine D9.LE hQ hB (by kernel_rfl) λτ d=>?_;rw[D];simp only[I];refine⟨zW,w,Dc,?_⟩;refine D9.LE hQ hB (by kernel_rfl) λτ d=>?_;rw[stepG_inLoop];simp only[I];refine⟨zW,w,Dc,?_⟩;exact h
def yb {BB:V->Bool}(hB:BB 79=M){Q:L->R->Prop}(hQ:∀g w W,Ek w W->Q g w->Q g W){p0 p1 v5 v6 v7 v8 v9 v10 v14 v15 v16 v17 v18 v19 v20 v21 v22 v23 v24 v25 v26:bs}{b2 b3 b4 cb sb n c i:Nat}{cs:List bo}(zW:cs≠[]){w:R}(hi:¬i<n)
  (h:D9 Y (E7 Y BB) Q (G (bW Y 125 #[.S (J ⟨b4,0,F⟩)] .normal) (((base 79).at ⟨#[p0,p1,.S (J ⟨b2,0,F⟩),.S (J ⟨b3,0,F⟩),.S (J ⟨b4,0,F⟩),v5,v6,v7,v8,v9,v10,.slice (J ⟨sb,0,F⟩) n c,bb bc n,bb bc i,.bool N,v15,v16,v17,v18,v19,v20,v21,v22,v23,v24,v25,v26],[]⟩ [.inRegion Kf [0]])::cs)) w) :
  D9 Y (E7 Y BB) Q (G ((base 79).at ⟨#[p0,p1,.S (J ⟨b2,0,F⟩),.S (J ⟨b3,0,F⟩),.S (J ⟨b4,0,F⟩),v5,v6,v7,v8,v9,v10,.slice (J ⟨sb,0,F⟩) n c,bb bc n,bb bc i,v14,v15,v16,v17,v18,v19,v20,v21,v22,v23,v24,v25,v26],[]⟩ [.code eL,.inLoop eL,.inBlock 0,.code (.L 10 Kf N)]) cs) w:=by
 refine D9.LE hQ hB (by kernel_rfl) λτ d=>?_;rw[mB];simp only[I];refine⟨zW,w,Dc,?_⟩;refine D9.LE hQ hB (by kernel_rfl) λτ d=>?_;rw[A];simp only[I,o3,eB,br,AS,Gj,az,af,I8,AR,AQ,AT,Nat.reduceAdd,AU,O,U];refine⟨zW,w,Dc,?_⟩;refine D9.LE hQ hB (by kernel_rfl) λτ d=>?_;refine E rfl rfl (by decide) (λK hK=>?_);have q1:=ax;have q2:=ak
 have q3:=al;go_simp;clear q1 q2 q3;refine hK _ _ ⟨zW,w,⟨rfl,rfl,rfl⟩,?_⟩;clear hK K
 try walk_nrm
 try simp only[ak]
 refine D9.LE hQ hB (by kernel_rfl) λτ d=>?_;rw[D];simp only[I];refine⟨zW,w,Dc,?_⟩;refine D9.LE hQ hB (by kernel_rfl) λτ d=>?_;rw[bk];simp only[I];refine⟨zW,w,Dc,?_⟩;refine D9.LE hQ hB (by kernel_rfl) λτ d=>?_;rw[ck (t:=N) rfl];simp only[I,if_true,if_false,Ba,↓reduceIte];refine⟨zW,w,Dc,?_⟩;refine D9.LE hQ hB (by kernel_rfl) λτ d=>?_;rw[stepG_exit rfl]
 simp only[I];refine⟨zW,w,Dc,?_⟩;refine D9.LE hQ hB (by kernel_rfl) λτ d=>?_;rw[A];have s10:Kf.size=1:=rfl;simp only[I,s10,O,U];refine⟨zW,w,Dc,?_⟩;refine D9.LE hQ hB (by kernel_rfl) λτ d=>?_;refine aD rfl rfl (by decide) rfl Tryz.func125 (by kernel_rfl) (by kernel_rfl) ⟨tM _ _,w,Dc,?_⟩
 try walk_nrm
 exact h
def yd {BB:V->Bool}(hB:BB 79=M){Q:L->R->Prop}(hQ:∀g w W,Ek w W->Q g w->Q g W){a:Act}(hd:a.defers=[]){cs:List bo}(zW:cs≠[]){w:R}
  (h:∀a':Act,a'.defers=[]->Q (G { (base 79).at a' [] with mode:=.returning } cs) w) :
  D9 Y (E7 Y BB) Q (G (((base 79).at a [.inRegion Kf [0]]).finish (.tuple #[])) cs) w:=by
 rw[cw];refine D9.LE hQ hB (by kernel_rfl) λτ d=>?_;rw[D];simp only[I];refine⟨zW,w,Dc,?_⟩;refine D9.LE hQ hB (by kernel_rfl) λτ d=>?_;rw[fu];simp only[I];refine⟨zW,w,Dc,.fin ?_⟩;refine h _ ?_;cases(Kf[0]?.bind (·.dst))<;>exact hd
noncomputable abbrev T8:List Item:=[.inBlock 1,.code (.L 9 o9 N),.inLoop eL,.inBlock 0,.code (.L 10 Kf N)]
noncomputable abbrev vV (p1:bs)(b2 b3 b4 cb sb n c:Nat)(i:Nat)(v5 v6 v7 v8 v9 v10 v14 v15 v16 v17 v18 v19 v20 v21 v22 v23 v24 v25 v26:bs):Frame :=
 (base 79).at ⟨#[.S (J ⟨cb,0,F⟩),p1,.S (J ⟨b2,0,F⟩),.S (J ⟨b3,0,F⟩),.S (J ⟨b4,0,F⟩),v5,v6,v7,v8,v9,v10,.slice (J ⟨sb,0,F⟩) n c,bb bc n,bb bc i,v14,v15,v16,v17,v18,v19,v20,v21,v22,v23,v24,v25,v26],[]⟩ [.code eL,.inLoop eL,.inBlock 0,.code (.L 10 Kf N)]
section
variable {P:Er} {SB BB:V->Bool} {zZ:Bool} {Gn ty Wg:Nat} {zN:Nat->Prop} {Ψ0 Ψ2:R->Prop} {fA fW:V} {wl:Nat} {Pr:Ef} {T:List bo} {Fn:Bool->Hid->L->R->Prop}
def tP :
  ∀k {tp:Bool} {H:Hid} {g:L} {w:R},Kg P SB BB zZ Gn ty Wg zN Ψ0 Ψ2 fA fW wl Pr T Fn k tp H g w->Kg P SB BB zZ Gn ty Wg zN Ψ0 Ψ2 fA fW wl Pr T Fn (k+1) tp H g w:=by
 intro k
 induction k with
 |zero=>intro tp H g w h;exact .inl h
 |succ k ih =>
  rintro tp H g w (h|⟨fr,cs,h1,h2,h3⟩)
  .exact .inl h
  .refine .inr ⟨fr,cs,h1,h2,h3.LT (λ_ _ x=>x) λg w hq x G W e1 e2 e3 e4 e5 e6 e7 e8 e9 e10 e11=>?_⟩;obtain⟨G',child,x',xk,Mz,o,OM,Q,q1,q2,q3,q4,q5,q6,q7⟩:=hq x G W e1 e2 e3 e4 e5 e6 e7 e8 e9 e10 e11;exact⟨G',child,x',xk,Mz,o,OM,Q,q1,q2,q3,q4,q5.LT (λ_ _ x=>x) (λ_ _ x=>ih x),q6,q7⟩
def ry {S:Bool->Hid->L->R->Prop}{tp:Bool}{H:Hid}(g:L)(w W:R)(s:Ek w W)(hq:AtGo P SB BB zZ Gn ty Wg zN Ψ0 Ψ2 Pr T S tp H g w):AtGo P SB BB zZ Gn ty Wg zN Ψ0 Ψ2 Pr T S tp H g W:=λx G W' e1 e2=>hq x G W' e1 (s.trans e2)
def dp (hF:∀tp H g w W,Ek w W->Fn tp H g w->Fn tp H g W):∀k {tp:Bool} {H:Hid} (g:L) (w W:R),Ek w W->Kg P SB BB zZ Gn ty Wg zN Ψ0 Ψ2 fA fW wl Pr T Fn k tp H g w->Kg P SB BB zZ Gn ty Wg zN Ψ0 Ψ2 fA fW wl Pr T Fn k tp H g W:=by
 have hW:∀ {tp:Bool} {H:Hid} {g:L} {w W:R},Ek w W->ic P fW wl Fn tp H g w->ic P fW wl Fn tp H g W:=λhs ⟨fr,cs,h1,h2,h3⟩=>⟨fr,cs,h1,h2,hF _ _ _ _ _ hs h3⟩;intro k;cases k with
 |zero=>exact λg w W hs h=>hW hs h
 |succ k =>
  rintro tp H g w W hs (h|⟨fr,cs,h1,h2,h3⟩)
  .exact .inl (hW hs h)
  .exact .inr ⟨fr,cs,h1,h2,h3.same (λ_ _ _ _ x=>x) (λg w W s hq x G W' e1 e2=>hq x G W' e1 (s.trans e2)) hs⟩
end
structure Head (SB:V->Bool)(H:Hid)(Gn:Nat)(Kb:Nat->Prop)(Ok:R->Prop)(K:Nat->Prop)(w:R):Prop where
 sub:∀b,Kb b->K b
 base:∀b,K b->H b=N->Ro w b/\∃o,w.heap[b]?=J o/\EP (SP SB H) (CK Y SB M) (EI K) o o
 LT:∀b,K b->H b=M->w.heap[b]?=J (.coro F)
 lo:∀b,K b->Gn<=b
 lt:∀b,K b->b<w.heap.size
 old:∀b,H b=M->b<w.heap.size
 room:Gn<=w.heap.size
 ok:Ok w
def fh (Kb:Nat->Prop)(Ok:R->Prop):Prop:=∀w w':R,(∀b,Kb b->w'.heap[b]?=w.heap[b]?)->w'.os=w.os->Ok w->Ok w'
section
variable {SB:V->Bool} {H:Hid} {Gn:Nat} {Kb:Nat->Prop} {Ok:R->Prop} {K:Nat->Prop} {w w':R}
def Head.ext (h:Head SB H Gn Kb Ok K w)(hO:fh Kb Ok)(e:Ext w w'):Head SB H Gn Kb Ok K w':=by
 have same:∀b,K b->w'.heap[b]?=w.heap[b]?:=λb hb=>e.2.1 b (h.lt b hb);refine⟨h.sub,λb hb hh=>?_,λb hb hh=>(same b hb).trans (h.LT b hb hh),h.lo,λb hb=>AI (h.lt b hb) e.1,λb hb=>AI (h.old b hb) e.1,AX h.room e.1,hO w w' (λb hb=>same b (h.sub b hb)) e.2.2 h.ok⟩;obtain⟨⟨c,t,f,q1,q2⟩,o,q3,q4⟩:=h.base b hb hh;exact⟨⟨c,t,f,(same b hb).trans q1,q2⟩,o,(same b hb).trans q3,q4⟩
def Head.more (h:Head SB H Gn Kb Ok K w)(hO:fh Kb Ok){r:Nat}(hr:¬K r)(hH:H r=N)(hG:Gn<=r){l:List bs}{t:TypeId}{f:Nat×Nat}(hc:w.heap[r]?=J (.cells l.Li t f))(hl:∀v∈l,E5 SB H (λ_=>False) v) :
  Head SB H Gn Kb Ok (λb=>K b\/b=r) (froze w r):=by
 have ne:∀b,K b->b≠r:=λb hb e=>hr (e▸hb);have same:∀b,K b->(froze w r).heap[b]?=w.heap[b]?:=λb hb=>fg w (ne b hb);refine⟨λb hb=>.inl (h.sub b hb),λb hb hh=>?_,λb hb hh=>?_,λb hb=>?_,λb hb=>?_,λb hb=>by rw[cS];exact h.old b hb,by rw[cS];exact h.room,hO w _ (λb hb=>same b (h.sub b hb)) (gj w r) h.ok⟩
 .obtain hb|rfl:=hb
  .obtain⟨⟨c,t,f,q1,q2⟩,o,q3,q4⟩:=h.base b hb hh;exact⟨⟨c,t,f,(same b hb).trans q1,q2⟩,o,(same b hb).trans q3,q4.LT λx y a6=>⟨.inl a6.1,a6.2⟩⟩
  .exact⟨⟨_,_,_,dm hc,λi hi=>⟨Bc _,hi⟩⟩,_,dm hc,.cells (E9 λv hv=>(hl v hv).LT λ_=>False.elim) λi h1 h2=>⟨h1,h2⟩⟩
 .obtain hb|rfl:=hb
  .exact(same b hb).trans (h.LT b hb hh)
  .rw[hH] at hh;cases hh
 .obtain hb|rfl:=hb
  .exact h.lo b hb
  .exact hG
 .rw[cS];obtain hb|rfl:=hb
  .exact h.lt b hb
  .exact(AC.1 hc).1
end
noncomputable abbrev PP:Er:=Er.of Y
noncomputable abbrev PQ:Er:=⟨DP,Tryz.prog.L⟩
noncomputable abbrev Aw:Code:=Tryz.f123.body.LE .skip
abbrev first (x:Int):Obj:=cq #[.int .u8 x,.int .u8 0,.int .u8 0,.int .u8 0,.int .u8 0] 115
abbrev bK (b2 b3 b4 r:Nat):Array Value:=#[.S (J ⟨b4,0,F⟩),.S (J ⟨b2,0,F⟩),.S (J ⟨r,0,F⟩),.S (J ⟨b3,0,F⟩)]
structure Ns (SB BB:V->Bool)(H:Hid)(Gn Wg:Nat)(zN:Nat->Prop)(Ψ0:R->Prop)(Pr:Ef)(T:List bo)(Kb:Nat->Prop)(Ok:R->Prop)(b2 b3 b4:Nat)(x1:Int)(tp:Bool)(K:Nat->Prop)(a:Act)(r:Nat)(x:Lone)(X:L)(W:R):Prop where
 op:Lk PP SB BB M x X (base 79) a o8 1 T8 123 (bK b2 b3 b4 r) 24 Tryz.f123 Aw
 gl:Fe PP SB BB M x X
 wl:Gw PP SB M Gn x W
 h:x.H=H
 t:x.T=T
 pr:Pr.le x.β
 Hb:tp=M->Ψ0 W
 Jc:∀b B,x.β b B->zN B->x.H b=M
 wg:∀b,x.β b Wg->x.H b=M
 tw:x.H.EX=N
 head:Head SB H Gn Kb Ok K x.w
 rb:x.w.heap[r]?=J (first x1)
 rK:¬K r/\H r=N/\Gn<=r
 cut:LC Y SB M H H (λb=>K b\/b=r) (fz ((base 79).at a (.inRegion o8 []::T8)) [bad]) x.w (froze x.w r)
structure Ctx (SB Ep BB:V->Bool)(H:Hid)(Gn Wg:Nat)(zN:Nat->Prop)(Ψ0 Ψ2:R->Prop)(Pr:Ef)(T:List bo)(Fn:Bool->Hid->L->R->Prop)(Kb Kc:Nat->Prop)(Ok:R->Prop)(b2 b3 b4 cb sb n c:Nat)(p1:bs)(sets kind:Nat->Int)(FK:Nat->Bool):Prop where
 hB:BB 79=M
 Qh:SB 79=M
 Qi:SB 123=M
 L0:Mx PQ Ep Ep BB Gn
 b0:∀f,Ep f=M->BB f=M
 Qj:Ep 121=M
 todo:∀K,E3 (F6 Y SB H M M (EI K)) (.inRegion o8 []::T8) (.inRegion o8 []::T8)
 EX:H.EX=N
 bl:H.bl=M
 only:fh Kb Ok
 Nt:∀w,Ok w->w.L ⟨b2,0,F⟩=J (.S (J ⟨cb,0,F⟩))
 KJ:∀w i,Ok w->i<n->w.L ⟨sb,i,F⟩=J (.int .u8 (sets i))
 F5:∀w b,Ok w->Kc b->Kb b/\∃o,w.heap[b]?=J o/\EP (SP Ep Dd) (CK DP Ep N) (EI Kc) o o
 cK:Kc cb
 kb:Kb b2/\Kb b3/\Kb b4/\Kb cb/\Kb sb
 Ji:E5 SB H Kb p1
 wrap:∀i,i<n->IntKind.i64.wrap ((i:Int)+1)=((i+1:Nat):Int)
 KL:∀w i,Ok w->i<n->∀τ d,Calls DP 121 #[.S (J ⟨cb,0,F⟩),.S (J ⟨w.heap.size,0,F⟩),bb bc 0] (on (w.Li (first (sets i))) τ d) (λe w'=>∃v,e=.L v/\((∃y1 y2,v=.agg #[bb bc (kind i),bb bc y1,bb bc y2])/\Ext (w.Li (first (sets i))) w'))
 QV:∀i,i<n->kind i≠0->FK (i+1)=FK i
 fin:∀(a:Act) (w:R),a.defers=[]->Ok w->Fn (FK n) H (fz (((base 79).at a [.inRegion Kf [0]]).finish (.tuple #[])) [bad]) w
 LR:∀tp H g w W,Ek w W->Fn tp H g w->Fn tp H g W
 go:∀i,i<n->kind i=0->∀(K:Nat->Prop) (a:Act) (r:Nat) (x:Lone) (X:L) (W:R),Ns SB BB H Gn Wg zN Ψ0 Pr T Kb Ok b2 b3 b4 (sets i) (FK i) K a r x X W ->
  ∃(X' child:L) (xk:Lone) (o:Bool) (Pk:Ef) (Q:L->R->Prop),h9 Y M X W=.spawn X' child W #[] /\
   Split PP SB BB M Gn Wg zN x X' child W (FK i) (FK (i+1)) o ⟨fz ((base 79).at a (.inRegion o8 []::T8)) [bad],froze x.w r,H,cut (λb=>K b\/b=r) x.β,T⟩ xk Pk /\
   cO PP SB BB M Gn 215 Wg Ψ2 Q xk.H xk.T Pk o/\(∀g w,Q g w->BB g.L.fn=N)/\EL Y BB Q 0 xk.g xk.w
def gm (w:R)(x:Int):(w.Li (first x)).heap[w.heap.size]?=J (first x):=by rw[aA,AJ rfl]
section
variable {SB Ep BB:V->Bool} {H:Hid} {Gn Wg:Nat} {zN:Nat->Prop} {Ψ0 Ψ2:R->Prop} {Pr:Ef} {T:List bo} {Fn:Bool->Hid->L->R->Prop} {Kb Kc:Nat->Prop} {Ok:R->Prop} {b2 b3 b4 cb sb n c:Nat} {p1:bs} {sets kind:Nat->Int} {FK:Nat->Bool}
def tQ (C:Ctx SB Ep BB H Gn Wg zN Ψ0 Ψ2 Pr T Fn Kb Kc Ok b2 b3 b4 cb sb n c p1 sets kind FK)(aJ:∀b B,Pr b B->Kb b):∀(m i:Nat),i+m=n->∀(K:Nat->Prop) (w:R),Head SB H Gn Kb Ok K w ->
  ∀(v5 v6 v7 v8 v9 v10 v14 v15 v16 v17 v18 v19 v20 v21 v22 v23 v24 v25 v26:bs),(∀v∈[v5,v8,v9,v10,v20,v21,v22,v23,v24,v25,v26],E5 SB H K v) ->
  D9 Y (E7 Y BB) (Kg PP SB BB M Gn 215 Wg zN Ψ0 Ψ2 122 125 b4 Pr T Fn m (FK i) H) (fz (vV p1 b2 b3 b4 cb sb n c i v5 v6 v7 v8 v9 v10 v14 v15 v16 v17 v18 v19 v20 v21 v22 v23 v24 v25 v26) [bad]) w:=by
 intro m
 induction m with
 |zero =>
  intro i hi K w hd v5 v6 v7 v8 v9 v10 v14 v15 v16 v17 v18 v19 v20 v21 v22 v23 v24 v25 v26 hJ;obtain rfl:i=n:=by omega
  refine yb (cb:=0) C.hB (dp C.LR _) (by simp) (CD _) (.fin ?_);exact⟨_,_,rfl,⟨rfl,rfl,_,_,_,_,rfl⟩,C.fin _ _ rfl hd.ok⟩
 |succ m ih =>
  intro i hi K w hd v5 v6 v7 v8 v9 v10 v14 v15 v16 v17 v18 v19 v20 v21 v22 v23 v24 v25 v26 hJ;have a6:i<n:=by omega
  have l2:b2<w.heap.size:=hd.lt _ (hd.sub _ C.kb.1);have aC:H w.heap.size=false:=by
   cases e:H w.heap.size with
   |false=>rfl
   |true=>exact AH (hd.old _ e) (CD _)
  refine xZ C.hB (dp C.LR _) (by simp) a6 (C.Nt w hd.ok) (C.KJ w i hd.ok a6) l2 ?_;refine C.L0.fn C.Qj C.Qj (K0:=λb=>Kc b\/b=w.heap.size) (by simp) (λb hb=>?_) (by rw[aG];exact CI hd.room) (E9 λv hv=>?_) (λb hb=>?_) (dp C.LR _) (C.KL w i hd.ok a6) ?_
  .obtain hb|rfl:=hb
   .exact hd.lo b (hd.sub b (C.F5 w b hd.ok hb).1)
   .exact hd.room
  .simp only[AM,AK,or_false] at hv;obtain rfl|rfl|rfl:=hv
   .exact E5.ptr (.inl C.cK) _ _
   .exact E5.ptr (.inr rfl) _ _
   .exact DX.int _ _
  .obtain hb|rfl:=hb
   .obtain⟨h1,o,h2,h3⟩:=C.F5 w b hd.ok hb;have zY:=hd.lt b (hd.sub b h1);exact⟨o,by rw[aA,AE (C9 zY)];exact h2,h3.LT λx y aD=>⟨.inl aD.1,aD.2⟩⟩
   .refine⟨_,gm w (sets i),.cells (E9 (l:=[.int .u8 (sets i),.int .u8 0,.int .u8 0,.int .u8 0,.int .u8 0]) λv hv=>?_) λj h1 h2=>⟨h1,h2⟩⟩;simp only[AM,AK,or_false] at hv;rcases hv with rfl|rfl|rfl|rfl|rfl<;>exact DX.int _ _
  .rintro v w2 ⟨⟨y1,y2,rfl⟩,hE⟩;have hE2:Ext w w2:=(Ext.Li w _).trans hE;have aF:=hd.ext C.only hE2;have e20:(o6[1]?.bind (·.dst))=J 20:=rfl;rw[cw,e20];have jk:∀y1 y2 k,E5 SB H K (.agg #[bb bc k,bb bc y1,bb bc y2]):=λy1 y2 k=>E5.agg (l:=[bb bc k,bb bc y1,bb bc y2]) λv hv=>by
    simp only[AM,AK,or_false] at hv;rcases hv with rfl|rfl|rfl<;>exact DX.int _ _
   by_cases hk:kind i=0
   .rw[hk];refine vS (cb:=0) (v20:=undef) C.hB (dp C.LR _) (by simp) (.fin (.inr ⟨_,_,rfl,⟨rfl,rfl,_,_,_,_,rfl⟩,?_⟩));have e23:(o7[0]?.bind (·.dst))=J 23:=rfl;unfold back;rw[cw,e23];refine x9 (cb:=cb) (v24:=v24) (cs:=[bad]) C.hB ry (by simp) (.fin ?_);intro x X W ex hs eH eT aH gl wl h0 Jc wg tw;have aI:=aF.ext C.only (Ext.same hs);have a8:¬K w.heap.size:=λh=>CD _ (hd.lt _ h)
    have a7:x.w.heap[w.heap.size]?=J (first (sets i)):=by
     rw[hs.1,hE.2.1 _ (by rw[aG];exact Nat.lt_succ_self _)];exact gm w _
    have aB:∀v∈[bb .u8 (sets i),.int .u8 0,.int .u8 0,.int .u8 0,.int .u8 0],∀K',E5 SB H K' v:=λv hv K'=>by
     simp only[AM,AK,or_false] at hv;rcases hv with rfl|rfl|rfl|rfl|rfl<;>exact DX.int _ _
    have hm:=aI.more C.only a8 aC hd.room a7 λv hv=>aB v hv _;have kb2:=hd.sub _ C.kb.1;have kb3:=hd.sub _ C.kb.2.1;have kb4:=hd.sub _ C.kb.2.2.1;have Ph:=hd.sub _ C.kb.2.2.2.1;have Qk:=hd.sub _ C.kb.2.2.2.2;have toK:∀v,E5 SB H K v->E5 SB H (λb=>K b\/b=w.heap.size) v:=λv hv=>hv.LT λb hb=>.inl hb;have clo:E5 SB H (λb=>K b\/b=w.heap.size) (.func (.func 123) #[] #[.S (J ⟨b4,0,F⟩),.S (J ⟨b2,0,F⟩),.S (J ⟨w.heap.size,0,F⟩),.S (J ⟨b3,0,F⟩)]):=E5.func C.Qi (l:=[.S (J ⟨b4,0,F⟩),.S (J ⟨b2,0,F⟩),.S (J ⟨w.heap.size,0,F⟩),.S (J ⟨b3,0,F⟩)]) λv hv=>by
     simp only[AM,AK,or_false] at hv;obtain rfl|rfl|rfl|rfl:=hv
     .exact E5.ptr (.inl kb4) _ _
     .exact E5.ptr (.inl kb2) _ _
     .exact E5.ptr (.inr rfl) _ _
     .exact E5.ptr (.inl kb3) _ _
    have aK:Ns SB BB H Gn Wg zN Ψ0 Pr T Kb Ok b2 b3 b4 (sets i) (FK i) K _ w.heap.size x X W:={
     op:=⟨ex,C.hB,⟨_,rfl,rfl,rfl,rfl⟩,by decide,rfl,⟨cf,cf,by kernel_rfl,rfl⟩,C.Qi⟩
     gl:=gl,wl:=wl,h:=eH,t:=eT,pr:=aH,Hb:=h0,Jc:=Jc,wg:=wg,tw:=tw,head:=aI,rb:=a7,rK:=⟨a8,aC,hd.room⟩
     cut:=by
      refine⟨⟨rfl,E9 (l:=[_,_,_,_,_,_,_,_,_,_,_,_,_,_,_,_,_,_,_,_,_,_,_,_,_,_,_]) λv hv=>?_,C.todo _,.nil,.run,rfl,⟨(by show CallKind.normal≠.early;decide),C.Qh⟩,.none⟩,⟨[bad],.base⟩,λb hb hh=>⟨hh,?_⟩,λb hb hh=>⟨hm.LT b hb hh,.inl hh⟩,by rw[cS];exact AD _,hm.old,gj _ _,⟨C.EX,C.EX⟩,C.bl⟩
      .simp only[AM,AK,or_false] at hv;obtain rfl|rfl|rfl|rfl|rfl|rfl|rfl|rfl|rfl|rfl|rfl|rfl|rfl|rfl|rfl|rfl|rfl|rfl|rfl|rfl|rfl|rfl|rfl|rfl|rfl|rfl|rfl:=hv
       .exact E5.ptr (.inl Ph) _ _
       .exact toK _ (C.Ji.LT hd.sub)
       .exact E5.ptr (.inl kb2) _ _
       .exact E5.ptr (.inl kb3) _ _
       .exact E5.ptr (.inl kb4) _ _
       .exact toK _ (hJ _ (by simp))
       .exact DX.int _ _
       .exact E5.ptr (.inr rfl) _ _
       .exact toK _ (hJ _ (by simp))
       .exact toK _ (hJ _ (by simp))
       .exact toK _ (hJ _ (by simp))
       .exact E5.slice (.inl Qk) _ _ _ _
       .exact DX.int _ _
       .exact DX.int _ _
       .exact DX.bool _
       .exact E5.ptr (.inl Qk) _ _
       .exact DX.int _ _
       .exact DX.int _ _
       .exact E5.agg (l:=[.int .u8 (sets i),.int .u8 0,.int .u8 0,.int .u8 0,.int .u8 0]) λv hv=>aB v hv _
       .exact E5.ptr (.inl Ph) _ _
       .exact toK _ (jk _ _ _)
       .exact DX.int _ _
       .exact DX.bool _
       .exact DX.undef _ _
       .exact clo
       .exact toK _ (hJ _ (by simp))
       .exact toK _ (hJ _ (by simp))
      .obtain⟨_,o,h2,h3⟩:=hm.base b hb hh;refine⟨o,h2,h3,?_⟩;obtain hb|rfl:=hb
       .have zU:b≠w.heap.size:=λe=>a8 (e▸hb);exact .inl (by rw[<-fg x.w zU];exact h2)
       .rw[dm a7] at h2;cases h2
        exact .inr ⟨_,_,_,_,a7,rfl,λi h1 h2=>⟨Bc _,by simp at h1 h2⟩⟩ }
    obtain⟨X',child,xk,o,Pk,Q,g1,g2,g3,g4⟩:=C.go i a6 hk K _ _ x X W aK;refine⟨X',child,_,xk,_,o,Pk,Q,g1,g2,rfl,λb B h=>⟨.inl (hd.sub _ (aJ b B h)),aH b B h⟩,?_,g3,g4⟩;refine ya (cb:=cb) (v25:=v25) (cs:=[bad]) C.hB (dp C.LR _) (by simp) (C.wrap i a6) ?_;refine ih (i+1) (by omega) _ _ hm _ _ _ _ _ _ _ _ _ _ _ _ _ _ _ _ _ _ _ λv hv=>?_;simp only[AM,AK,or_false] at hv;obtain rfl|rfl|rfl|rfl|rfl|rfl|rfl|rfl|rfl|rfl|rfl:=hv
    .exact toK _ (hJ _ (by simp))
    .exact toK _ (hJ _ (by simp))
    .exact toK _ (hJ _ (by simp))
    .exact toK _ (hJ _ (by simp))
    .exact toK _ (jk _ _ _)
    .exact DX.int _ _
    .exact DX.bool _
    .exact DX.undef _ _
    .exact clo
    .exact DX.int _ _
    .exact toK _ (hJ _ (by simp))
   .refine(vR (cb:=0) (v20:=undef) C.hB (dp C.LR _) (by simp) (C.wrap i a6) hk ?_).LT (λ_ _ h=>h) λ_ _ h=>tP _ h;have:=ih (i+1) (by omega) K w2 aF v5 (.int .u8 (sets i)) (.S (J ⟨w.heap.size,0,F⟩)) v8 v9 v10 (.bool M) (.S (J ⟨sb,i,F⟩)) (.int .u8 (sets i)) (.int .u8 (sets i)) (.agg #[.int .u8 (sets i),.int .u8 0,.int .u8 0,.int .u8 0,.int .u8 0]) (.S (J ⟨cb,0,F⟩))
     (.agg #[bb bc (kind i),bb bc y1,bb bc y2]) (bb bc (kind i)) (.bool M) v23 v24 (bb bc ((i+1:Nat):Int)) v26 (λv hv=>?_)
    .rw[C.QV i a6 hk] at this;exact this
    .simp only[AM,AK,or_false] at hv;obtain rfl|rfl|rfl|rfl|rfl|rfl|rfl|rfl|rfl|rfl|rfl:=hv
     .exact hJ _ (by simp)
     .exact hJ _ (by simp)
     .exact hJ _ (by simp)
     .exact hJ _ (by simp)
     .exact jk _ _ _
     .exact DX.int _ _
     .exact DX.bool _
     .exact hJ _ (by simp)
     .exact hJ _ (by simp)
     .exact DX.int _ _
     .exact hJ _ (by simp)
end
def Qm:List FuncId:=[3,14,7,6,11,18,15,10,36,37,84,39,53,28,48,49,52,44,46,50,51,78,82,86,90,55,57,91,92,93,94,95,96,97,98,99,100,101,121,56,77,102,127,128,129,130,103,131,132,133,134,135,136,137,138,139,153,154,155,105,140,58,174,177,178,179,180,181,182,183,184,185,186,187,188,189,190,191,104,106,200,204,205,206,207,208,209,210,211,212,213,214,215,216,217,227,228,229,230,232,16,19,27,17,20,54,63,21,59,61,60,107,62,8,9,12,13,38,40,41,42,43,66,71,72,73,74,75,76,113,116,117,118,119,120,147,148,149,150,151,152,194,218,219,231,233]
def Io (f:V):Bool:=Qm.H f
def O0 (f:V):Bool:=f==129||f==130||f==14||f==3
def Qn (f:V):Bool:=Io f&&!O0 f
def kD {p:Nat->Bool}(h:Qm.all p=M):∀f,Io f=M->p f=true:=λf hf=>(B6.1 h) f (by simpa [Io] using hf)
def rC:Qm.all (λf=>Jz DP Io N f||Nl f)=true:=by kernel_rfl
def Oa (f:V)(h:Io f=M):Jz DP Io N f=M\/Nl f=true:=by
 have:=kD rC f h;simpa using this
def uZ {P:Er}(f:V)(hf:aK Io f=M):IJ P f:=by
 have h:Io 123=false:=by decide
 unfold aK at hf;rw[h,B7,Cd] at hf;cases hf
def Ao (H:Hid):Lib (Er.of DP) Io H N Io 0:=oH (λf hf=>(Oa f hf).imp_right λh=>lY h ⟨Sq.fn b9 rfl,Sq.fn cd rfl,Sq.fn bn rfl⟩) uZ ⟨B9 Sq.Lo,Sq.Li⟩
def tT:Qm.all (λf=>O0 f||!(f==14||Jh f||f==129||f==130))=true:=by kernel_rfl
def Ap (H:Hid):Lib PW Io H N Qn 0:=by
 refine iJ (λf hf=>?_) (λf hf hb=>?_) (λf hf=>?_) uZ ⟨B9 Sq.Lo,Sq.Li⟩
 .simp only[Qn,AO,BX] at hf;obtain h|h:=Oa f hf.1
  .refine .inl ⟨h,kB ?_⟩;have:=kD tT f hf.1;simpa [hf.2] using this
  .exact .inr (lY h ⟨b9,cd,bn⟩)
 .simp only[Qn,hf,CX,Ch,O0,Bm,beq_iff_eq] at hb;obtain((rfl|rfl)|rfl)|rfl:=hb
  .exact⟨_,_,Sq.f129,b7,rfl,by show Tryz.f129.name≠_;decide,by decide,rfl,rfl⟩
  .exact⟨_,_,Sq.f130,b8,rfl,by show Tryz.f130.name≠_;decide,by decide,rfl,rfl⟩
  .exact⟨_,_,DG,Tryz.func14,rfl,by show Tryz.f14.name≠_;decide,by decide,rfl,rfl⟩
  .exact⟨_,_,Sq.put kn rfl,kn,rfl,by show Tryz.f3.name≠_;decide,by decide,rfl,rfl⟩
 .simp only[Qn,AO] at hf;exact hf.1
structure Ic (BB:V->Bool):Prop where
 sub:∀f,Io f=M->BB f=M
 Pv:BB 175=M
 Pw:BB 176=M
def oM {BB:V->Bool}(hL:Ic BB){f:V}(h:f=129\/f=130):LF PW BB f:=by
 obtain rfl|rfl:=h
 .obtain⟨r,o1,o2,s,hp⟩:=Kt 129 Dt 0 1 Sq.f129 rfl (by rw[Du];decide) rfl;exact⟨0,1,_,r,o1,o2,s,qo,hp,kZ (hL.sub 129 (by decide)) hL.Pv,b7,rfl⟩
 .obtain⟨r,o1,o2,s,hp⟩:=Kt 130 Dq 1 0 Sq.f130 rfl (by rw[Ds];decide) rfl;exact⟨1,0,_,r,o1,o2,s,q9,hp,i5 (hL.sub 130 (by decide)) hL.Pw,b8,rfl⟩
def ej {BB:V->Bool}{H:Hid}(hL:Ic BB)(hn:H.bl=false:=by rfl):II PW Io Qn BB H 0:=by
 refine⟨Ao _,Ap _,λf hf hb=>?_,hL.sub,hn⟩;obtain hf|hf:=hf
 .simp only[Qn,hf,CX,Ch,O0,Bm,beq_iff_eq] at hb;obtain((rfl|rfl)|rfl)|rfl:=hb
  .exact .inr (oM hL (.inl rfl))
  .exact .inr (oM hL (.inr rfl))
  .exact .inl ⟨_,_,DG,rfl⟩
  .exact .inl ⟨_,_,Sq.put kn rfl,rfl⟩
 .have h:Io 123=false:=by decide
  unfold aK at hf;rw[h,B7,Cd] at hf;cases hf
def Ra:List FuncId:=[92,121,128,131,153,154,155,105,174]
def MC (f:V):Bool:=Ra.H f
def kE {p:Nat->Bool}(h:Ra.all p=M):∀f,MC f=M->p f=true:=λf hf=>(B6.1 h) f (by simpa [MC] using hf)
def Pj {P:Er}(f:V)(hf:aK MC f=M):IJ P f:=by
 have h:MC 123=false:=by decide
 unfold aK at hf;rw[h,B7,Cd] at hf;cases hf
def rD:Ra.all (λf=>Jz DP MC N f&&!(f==14||Jh f||f==129||f==130))=true:=by kernel_rfl
def yi {BB:V->Bool}(hb:∀f,MC f=M->BB f=M):Mx PW MC MC BB 0:=by
 have h1:∀f,MC f=M->Jz DP MC N f=true:=λf hf=>by
  have:=kE rD f hf;simp only[AO] at this;exact this.1
 have h2:∀f,MC f=M->PW.fs[f]?=PW.a.L[f]?:=λf hf=>by
  have:=kE rD f hf;simp only[AO,BX] at this;exact kB this.2
 refine⟨xX h1 Pj ⟨B9 Sq.Lo,Sq.Li⟩,vL h1 h2 (λf hf hb=>by rw[hf] at hb;cases hb) (λ_ h=>h) Pj ⟨B9 Sq.Lo,Sq.Li⟩,λf hf hb=>?_,hb⟩;obtain hf|hf:=hf
 .rw[hf] at hb;cases hb
 .have h:MC 123=false:=by decide
  unfold aK at hf;rw[h,B7,Cd] at hf;cases hf
open Go.Shelf
def aU {P:Program} {i:Nat} {f B:Func} (h:P.L[i]?=J f) (hn:(f.name == "runtime.NumGoroutine")=N) (hf:f={ B with name:=f.name }):Bears P i B:=⟨f.name,hn,h.trans (AZ J hf)⟩
def DF:Ren:=⟨λ|6=>134|15=>133|14=>188|28=>186|29=>187|20=>209|21=>210|22=>211|23=>212|24=>213|25=>214|26=>215|27=>216|46=>228|47=>205|48=>206|49=>229|50=>230|57=>232|n=>n,λ|22=>216|24=>113|25=>233|3=>3|39=>130|0=>0|53=>162|55=>77|4=>4|46=>270|45=>269|50=>144|5=>5|9=>9|66=>294|70=>297|76=>307|77=>308|n=>n,λn=>n⟩
def DC:SlLaysF.n6 DP DF where
 mixed:=(AZ (λt:Tables=>t.follows .mixedOrders) Dg).trans (by kernel_rfl)
 f6:=aU Sq.func134 (by decide +kernel) (by kernel_rfl)
 f14:=aU Sq.func188 (by decide +kernel) (by kernel_rfl)
 f15:=Sq.func133.trans (AZ J (by kernel_rfl))
 f20:=aU Sq.func209 (by decide +kernel) (by kernel_rfl)
 f21:=aU Sq.func210 (by decide +kernel) (by kernel_rfl)
 f22:=aU Sq.func211 (by decide +kernel) (by kernel_rfl)
 f23:=aU Sq.func212 (by decide +kernel) (by kernel_rfl)
 f24:=aU Sq.func213 (by decide +kernel) (by kernel_rfl)
 f25:=aU Sq.func214 (by decide +kernel) (by kernel_rfl)
 f26:=aU Sq.func215 (by decide +kernel) (by kernel_rfl)
 f27:=aU Sq.func216 (by decide +kernel) (by kernel_rfl)
 f28:=Sq.func186.trans (AZ J (by kernel_rfl))
 f29:=Sq.func187.trans (AZ J (by kernel_rfl))
 f46:=aU Sq.func228 (by decide +kernel) (by kernel_rfl)
 f47:=Sq.func205.trans (AZ J (by kernel_rfl))
 f48:=Sq.func206.trans (AZ J (by kernel_rfl))
 f49:=aU Sq.func229 (by decide +kernel) (by kernel_rfl)
 f50:=aU Sq.func230 (by decide +kernel) (by kernel_rfl)
 f57:=aU Sq.func232 (by decide +kernel) (by kernel_rfl)
 t0:=(Sq.LT 0).trans gg
 a0:=λw=>(De 0 w).trans (nA w)
 z0:=λw=>(Sq.sizeOf 0 w).trans (mm w)
 v0:=λw=>(Sq.LE 0 w).trans (iv w)
 t3:=(Sq.LT 3).trans gB
 a3:=λw=>(De 3 w).trans (n9 w)
 z3:=λw=>(Sq.sizeOf 3 w).trans (mo w)
 v3:=λw=>(Sq.LE 3 w).trans (js w)
 t4:=(Sq.LT 4).trans gR
 a4:=λw=>(De 4 w).trans (oo w)
 z4:=λw=>(Sq.sizeOf 4 w).trans (mA w)
 v4:=λw=>(Sq.LE 4 w).trans (jx w)
 t5:=(Sq.LT 5).trans gU
 a5:=λw=>(De 5 w).trans (ou w)
 z5:=λw=>(Sq.sizeOf 5 w).trans (nc w)
 v5:=λw=>(Sq.LE 5 w).trans (j0 w)
 t9:=(Sq.LT 9).trans hP
 a9:=λw=>(De 9 w).trans (oK w)
 z9:=λw=>(Sq.sizeOf 9 w).trans (ng w)
 v9:=λw=>(Sq.LE 9 w).trans (j1 w)
 t22:=(Sq.LT 216).trans Tryz.underlying216
 a22:=λw=>(De 216 w).trans (Tryz.isAgg216 w)
 z22:=λw=>(Sq.sizeOf 216 w).trans (Tryz.sizeOf216 w)
 v22:=λw=>(Sq.LE 216 w).trans (Tryz.zeroValue216 w)
 a24:=λw=>(De 113 w).trans (Tryz.isAgg113 w)
 z24:=λw=>(Sq.sizeOf 113 w).trans (Tryz.sizeOf113 w)
 t25:=(Sq.LT 233).trans Tryz.underlying233
 a25:=λw=>(De 233 w).trans (Tryz.isAgg233 w)
 z25:=λw=>(Sq.sizeOf 233 w).trans (Tryz.sizeOf233 w)
 v25:=λw=>(Sq.LE 233 w).trans (Tryz.zeroValue233 w)
 t39:=(Sq.LT 130).trans cF
 a39:=λw=>(De 130 w).trans (lh w)
 z39:=λw=>(Sq.sizeOf 130 w).trans (kp w)
 v39:=λw=>(Sq.LE 130 w).trans (ek w)
 t45:=(Sq.LT 269).trans cU
 a45:=λw=>(De 269 w).trans (ln w)
 z45:=λw=>(Sq.sizeOf 269 w).trans (kq w)
 v45:=λw=>(Sq.LE 269 w).trans (eo w)
 t46:=(Sq.LT 270).trans c0
 a46:=λw=>(De 270 w).trans (lp w)
 z46:=λw=>(Sq.sizeOf 270 w).trans (kt w)
 v46:=λw=>(Sq.LE 270 w).trans (ew w)
 t50:=(Sq.LT 144).trans df
 a50:=λw=>(De 144 w).trans (lu w)
 z50:=λw=>(Sq.sizeOf 144 w).trans (kx w)
 v50:=λw=>(Sq.LE 144 w).trans (ez w)
 t53:=(Sq.LT 162).trans di
 a53:=λw=>(De 162 w).trans (lv w)
 z53:=λw=>(Sq.sizeOf 162 w).trans (kV w)
 v53:=λw=>(Sq.LE 162 w).trans (eA w)
 t55:=(Sq.LT 77).trans eC
 a55:=λw=>(De 77 w).trans (nh w)
 z55:=λw=>(Sq.sizeOf 77 w).trans (lx w)
 v55:=λw=>(Sq.LE 77 w).trans (hZ w)
 t66:=(Sq.LT 294).trans dr
 a66:=λw=>(De 294 w).trans (lA w)
 z66:=λw=>(Sq.sizeOf 294 w).trans (k0 w)
 v66:=λw=>(Sq.LE 294 w).trans (eF w)
 t70:=(Sq.LT 297).trans dt
 a70:=λw=>(De 297 w).trans (l4 w)
 z70:=λw=>(Sq.sizeOf 297 w).trans (k5 w)
 v70:=λw=>(Sq.LE 297 w).trans (eG w)
 t76:=(Sq.LT 307).trans dy
 a76:=λw=>(De 307 w).trans (l5 w)
 z76:=λw=>(Sq.sizeOf 307 w).trans (k6 w)
 v76:=λw=>(Sq.LE 307 w).trans (eV w)
 t77:=(Sq.LT 308).trans dS
 a77:=λw=>(De 308 w).trans (l8 w)
 z77:=λw=>(Sq.sizeOf 308 w).trans (k7 w)
 v77:=λw=>(Sq.LE 308 w).trans (fl w)
def bO {l:List Int}:bE l=0↔∀x∈l,x=0:=by
 refine⟨λh x hx=>?_,iU⟩;unfold bE at h;cases hf:l.find? (· != 0) with
 |none=>have:=C5.1 hf x hx;simpa using this
 |some y =>
  rw[hf] at h;have:=List.find?_some hf;simp only[AS] at h;subst h;simp at this
def dK {n lo hi:Int}:Fc n lo hi=0↔lo<=n/\n<=hi:=by
 unfold Fc;split
 .simp;omega
 .split<;>simp<;>omega
def mJ {x lo hi:Int}:Ha x lo hi=M↔lo<=x/\x<=hi:=by simp[Ha]
def ld {l:List Int}{n:Int}:Gs l n=0↔∀i,i<l.L->GU l n i=0:=by
 unfold Gs;rw[bO];simp
def Ku {l:List Int}{n:Int}(h:Gs l n=0):(∀x∈l,0<=x/\x<n)/\(l.L:Int)<=max n 0/\∀i,i+1<l.L->l[i]?.LE 0<l[i+1]?.LE 0:=by
 rw[ld] at h;have h1:∀i,i<l.L->0<=l[i]?.LE 0/\l[i]?.LE 0<=n-1:=λi hi=>by
  have:=h i hi;unfold GU at this;split at this
  .assumption
  .cases this
 have h2:∀i,i+1<l.L->l[i]?.LE 0<l[i+1]?.LE 0:=λi hi=>by
  have:=h (i+1) hi;unfold GU at this;rw[AJ (h1 _ hi)] at this;by_cases hc:0<i+1/\l[i+1]?.LE 0<=l[i+1-1]?.LE 0
  .rw[AJ hc] at this;cases this
  .simp only[Nat.add_sub_cancel] at hc;omega
 have h3:∀i,i<l.L->(i:Int)<=l[i]?.LE 0:=λi=>by
  induction i with
  |zero=>intro hi;exact(h1 0 hi).1
  |succ k ih=>intro hi;have:=ih (by omega);have:=h2 k hi;omega
 refine⟨λx hx=>?_,?_,h2⟩
 .obtain⟨i,hi,rfl⟩:=List.getElem_of_mem hx;have:=h1 i hi;rw[AG hi] at this;simp only[AS] at this;omega
 .by_cases hz:l.L=0
  .omega
  .have a:=h3 (l.L-1) (by omega);have b:=(h1 (l.L-1) (by omega)).2;omega
def Eb.Ok.of {c:Eb}(h:Es c=0):c.Ok:=by
 unfold Es at h;by_cases h1:Fc c.DW.L 1 5≠0
 .rw[AJ h1] at h;exact AH h h1
 rw[AE h1] at h;have h1':=dK.1 (fo.1 h1);by_cases h2:(c.DW.all λx=>Ha x 0 12)=N
 .rw[AJ h2] at h;cases h
 rw[AE h2] at h;by_cases h3:Fc c.DR.L 1 4≠0
 .rw[AJ h3] at h;exact AH h h3
 rw[AE h3] at h;have a7:=dK.1 (fo.1 h3);rw[bO] at h;have hh:∀x∈c.DR,(1<=x.heads/\x.heads<=40)/\(1<=x.F9/\x.F9<=5)/\(0<=x.most/\x.most<=5)/\Gs x.off c.DW.L=0:=λx hx=>by
  have:=h _ (List.mem_map_of_mem hx);unfold GV at this;split at this
  .rename_i hc;simp only[AO,mJ] at hc;exact⟨hc.1.1,hc.1.2,hc.2,this⟩
  .cases this
 have a6:∀x∈c.DW,0<=x/\x<=12:=λx hx=>by
  have:=B6.1 (Bool.not_eq_false _▸h2) x hx;exact mJ.1 this
 exact⟨by omega,by omega,a6,by omega,by omega,λx hx=>(hh x hx).1,λx hx=>(hh x hx).2.1,λx hx=>(hh x hx).2.2.1,λx hx=>by
  obtain⟨a,b,_⟩:=Ku (hh x hx).2.2.2
  exact⟨by omega,a⟩⟩
def DD:Ren:=⟨λ|189=>94|125=>133|257=>132|128=>186|129=>187|294=>177|295=>178|296=>179|297=>180|298=>181|299=>182|216=>183|300=>184|301=>185|328=>204|329=>205|330=>206|331=>207|332=>208|215=>189|343=>227|n=>n,λ|28=>22|3=>3|46=>130|0=>0|51=>162|53=>77|4=>4|183=>270|182=>269|131=>144|5=>5|9=>9|218=>294|222=>297|228=>307|229=>308|n=>n,λn=>n⟩
def DA:Lays.n189 DP DD where
 mixed:=(AZ (λt:Tables=>t.follows .mixedOrders) Dg).trans (by kernel_rfl)
 f125:=Sq.func133.trans (AZ J (by kernel_rfl))
 f128:=Sq.func186.trans (AZ J (by kernel_rfl))
 f129:=Sq.func187.trans (AZ J (by kernel_rfl))
 f189:=Sq.func94.trans (AZ J (by kernel_rfl))
 f215:=Sq.func189.trans (AZ J (by kernel_rfl))
 f216:=Sq.func183.trans (AZ J (by kernel_rfl))
 f257:=Sq.func132.trans (AZ J (by kernel_rfl))
 f294:=Sq.func177.trans (AZ J (by kernel_rfl))
 f295:=Sq.func178.trans (AZ J (by kernel_rfl))
 f296:=Sq.func179.trans (AZ J (by kernel_rfl))
 f297:=Sq.func180.trans (AZ J (by kernel_rfl))
 f298:=Sq.func181.trans (AZ J (by kernel_rfl))
 f299:=Sq.func182.trans (AZ J (by kernel_rfl))
 f300:=Sq.func184.trans (AZ J (by kernel_rfl))
 f301:=Sq.func185.trans (AZ J (by kernel_rfl))
 f328:=Sq.func204.trans (AZ J (by kernel_rfl))
 f329:=Sq.func205.trans (AZ J (by kernel_rfl))
 f330:=Sq.func206.trans (AZ J (by kernel_rfl))
 f331:=Sq.func207.trans (AZ J (by kernel_rfl))
 f332:=Sq.func208.trans (AZ J (by kernel_rfl))
 f343:=Sq.func227.trans (AZ J (by kernel_rfl))
 t0:=(Sq.LT 0).trans gg
 a0:=λw=>(De 0 w).trans (nA w)
 z0:=λw=>(Sq.sizeOf 0 w).trans (mm w)
 v0:=λw=>(Sq.LE 0 w).trans (iv w)
 t3:=(Sq.LT 3).trans gB
 a3:=λw=>(De 3 w).trans (n9 w)
 z3:=λw=>(Sq.sizeOf 3 w).trans (mo w)
 v3:=λw=>(Sq.LE 3 w).trans (js w)
 t4:=(Sq.LT 4).trans gR
 a4:=λw=>(De 4 w).trans (oo w)
 z4:=λw=>(Sq.sizeOf 4 w).trans (mA w)
 v4:=λw=>(Sq.LE 4 w).trans (jx w)
 t5:=(Sq.LT 5).trans gU
 a5:=λw=>(De 5 w).trans (ou w)
 z5:=λw=>(Sq.sizeOf 5 w).trans (nc w)
 v5:=λw=>(Sq.LE 5 w).trans (j0 w)
 t9:=(Sq.LT 9).trans hP
 a9:=λw=>(De 9 w).trans (oK w)
 z9:=λw=>(Sq.sizeOf 9 w).trans (ng w)
 v9:=λw=>(Sq.LE 9 w).trans (j1 w)
 t28:=(Sq.LT 22).trans Tryz.underlying22
 a28:=λw=>(De 22 w).trans (Tryz.isAgg22 w)
 z28:=λw=>(Sq.sizeOf 22 w).trans (Tryz.sizeOf22 w)
 v28:=λw=>(Sq.LE 22 w).trans (Tryz.zeroValue22 w)
 t46:=(Sq.LT 130).trans cF
 a46:=λw=>(De 130 w).trans (lh w)
 z46:=λw=>(Sq.sizeOf 130 w).trans (kp w)
 v46:=λw=>(Sq.LE 130 w).trans (ek w)
 t51:=(Sq.LT 162).trans di
 a51:=λw=>(De 162 w).trans (lv w)
 z51:=λw=>(Sq.sizeOf 162 w).trans (kV w)
 v51:=λw=>(Sq.LE 162 w).trans (eA w)
 t53:=(Sq.LT 77).trans eC
 a53:=λw=>(De 77 w).trans (nh w)
 z53:=λw=>(Sq.sizeOf 77 w).trans (lx w)
 v53:=λw=>(Sq.LE 77 w).trans (hZ w)
 t131:=(Sq.LT 144).trans df
 a131:=λw=>(De 144 w).trans (lu w)
 z131:=λw=>(Sq.sizeOf 144 w).trans (kx w)
 v131:=λw=>(Sq.LE 144 w).trans (ez w)
 t182:=(Sq.LT 269).trans cU
 a182:=λw=>(De 269 w).trans (ln w)
 z182:=λw=>(Sq.sizeOf 269 w).trans (kq w)
 v182:=λw=>(Sq.LE 269 w).trans (eo w)
 t183:=(Sq.LT 270).trans c0
 a183:=λw=>(De 270 w).trans (lp w)
 z183:=λw=>(Sq.sizeOf 270 w).trans (kt w)
 v183:=λw=>(Sq.LE 270 w).trans (ew w)
 t218:=(Sq.LT 294).trans dr
 a218:=λw=>(De 294 w).trans (lA w)
 z218:=λw=>(Sq.sizeOf 294 w).trans (k0 w)
 v218:=λw=>(Sq.LE 294 w).trans (eF w)
 t222:=(Sq.LT 297).trans dt
 a222:=λw=>(De 297 w).trans (l4 w)
 z222:=λw=>(Sq.sizeOf 297 w).trans (k5 w)
 v222:=λw=>(Sq.LE 297 w).trans (eG w)
 t228:=(Sq.LT 307).trans dy
 a228:=λw=>(De 307 w).trans (l5 w)
 z228:=λw=>(Sq.sizeOf 307 w).trans (k6 w)
 v228:=λw=>(Sq.LE 307 w).trans (eV w)
 t229:=(Sq.LT 308).trans dS
 a229:=λw=>(De 308 w).trans (l8 w)
 z229:=λw=>(Sq.sizeOf 308 w).trans (k7 w)
 v229:=λw=>(Sq.LE 308 w).trans (fl w)
structure EE where
 kind:Int
 pt:Nat
 ot:Nat
 at_:Int
 er:Int
 deriving Inhabited
structure FB where
 pts:Nat
 bend:Int
 Eg:List EE
structure Eu where
 pt:Nat
 yr:Int
 at_:Int
def EE.none:EE:=⟨0,0,0,0,0⟩
def Eu.none:Eu:=⟨0,0,0⟩
structure EE.Ok (n:Nat)(c:EE):Prop where
 kind:1<=c.kind/\c.kind<=5
 pt:c.pt<n
 ot:c.kind≠5->c.ot=0
 RN:c.kind=5->c.ot<n/\c.ot≠c.pt
 at_:(c.kind=5->-9<=c.at_)/\(c.kind≠5->0<=c.at_)/\c.at_<=9
 er:0<=c.er/\c.er<=9/\(c.kind≠2->c.er=0)
structure FB.Ok (x:FB):Prop where
 pts:1<=x.pts/\x.pts<=4
 bend:0<=x.bend/\x.bend<=9
 many:x.Eg.L<=7
 Eg:∀c∈x.Eg,c.Ok x.pts
def D5 (l:List Int)(i:Nat):Int:=l[i]?.LE 0
abbrev BS:=List Int×Bool
def I2 (p:Nat)(n:Int)(s:BS):BS:=if D5 s.1 (p*2)<n then(s.1.SS (p*2) n,M) else s
def H8 (p:Nat)(n:Int)(s:BS):BS:=if n<D5 s.1 (p*2+1) then(s.1.SS (p*2+1) n,M) else s
def m8 (bend:Int)(p:Nat)(s:BS):BS:=I2 p (D5 s.1 ((p+1)*2)-bend) s
def m9 (bend:Int)(p:Nat)(s:BS):BS:=I2 (p+1) (D5 s.1 (p*2)-bend) s
def na (bend:Int)(p:Nat)(s:BS):BS:=H8 p (D5 s.1 ((p+1)*2+1)+bend) s
def nd (bend:Int)(p:Nat)(s:BS):BS:=H8 (p+1) (D5 s.1 (p*2+1)+bend) s
def Pq (bend:Int)(p:Nat)(s:BS):BS:=nd bend p (na bend p (m9 bend p (m8 bend p s)))
def j7 (c:EE)(s:BS):BS :=
 if c.kind=1 then H8 c.pt c.at_ (I2 c.pt c.at_ s)
 else if c.kind=2 then H8 c.pt (c.at_+c.er) (I2 c.pt (c.at_-c.er) s)
 else if c.kind=3 then H8 c.pt c.at_ s
 else if c.kind=4 then I2 c.pt c.at_ s
 else
  let s1:=H8 c.pt (D5 s.1 (c.ot*2+1)+c.at_) s
  I2 c.ot (D5 s1.1 (c.pt*2)-c.at_) s1
def JW (bend:Int):Nat->BS->BS
 |0,s=>s
 |k+1,s=>Pq bend k (JW bend k s)
def Hd (l:List EE):Nat->BS->BS
 |0,s=>s
 |k+1,s=>j7 (l[k]?.LE .none) (Hd l k s)
def FT (x:FB)(l:List Int):BS:=Hd x.Eg x.Eg.L (JW x.bend (x.pts-1) (l,N))
def J9 (l:List Int)(k:Nat):Prop:=∀p,p<k->D5 l (p*2)<=D5 l (p*2+1)
open Classical in
noncomputable def Kl (x:FB):Nat->List Int->Option (List Int)
 |0,_=>.none
 |k+1,l=>if J9 (FT x l).1 x.pts then(if(FT x l).2=M then Kl x k (FT x l).1 else J (FT x l).1) else .none
def JH (l:List Int):Nat->Int
 |0=>0
 |k+1=>JH l k+(D5 l (k*2+1)-D5 l (k*2))
def Ii:Nat->List Int
 |0=>[]
 |k+1=>Ii k++[0,9]
noncomputable def bounds_ (x:FB):Option (List Int):=Kl x (9*x.pts+1) (Ii x.pts)
structure Km (n:Nat)(s t:BS):Prop where
 len:t.1.L=s.1.L
 lo:∀p,p<n->D5 s.1 (p*2)<=D5 t.1 (p*2)
 hi:∀p,p<n->D5 t.1 (p*2+1)<=D5 s.1 (p*2+1)
 wd:JH t.1 n<=JH s.1 n
 ch:t.2=M->s.2=M\/JH t.1 n<JH s.1 n
def Km.refl (n:Nat)(s:BS):Km n s s:=⟨rfl,λ_ _=>CG _,λ_ _=>CG _,CG _,.inl⟩
def Km.trans {n:Nat}{a b c:BS}(h:Km n a b)(k:Km n b c):Km n a c :=
 ⟨k.len.trans h.len,λp hp=>CN (h.lo p hp) (k.lo p hp),λp hp=>CN (k.hi p hp) (h.hi p hp),CN k.wd h.wd,λe=>by
  have h1:=h.wd;have h2:=k.wd;obtain e|e:=k.ch e
  .obtain e|e:=h.ch e
   .exact .inl e
   .exact .inr (by omega)
  .exact .inr (by omega)⟩
def GQ (l:List Int)(i j:Nat)(x:Int):D5 (l.SS i x) j=if j=i/\i<l.L then x else D5 l j:=by
 unfold D5;by_cases e:j=i
 .subst e;by_cases h:j<l.L
  .simp[h]
  .rw[AE (λq=>h q.2),BV (by simp;omega),BV (by omega)]
 .rw[AE (λq=>e q.1),List.getElem?_set_ne (Ne.symm e)]
def iy (l:List Int)(i:Nat)(x:Int)(h:i<l.L):∀n:Nat,JH (l.SS i x) n=JH l n+(if i / 2<n then(if i % 2=0 then D5 l i-x else x-D5 l i) else 0)
 |0=>by simp[JH]
 |n+1=>by
  have a1:=GQ l i (n*2+1) x;have a2:=GQ l i (n*2) x;have a3:=iy l i x h n;unfold JH;rw[a3,a1,a2];by_cases e1:n*2+1=i
  .have b1:¬i / 2<n:=by omega
   have b2:i / 2<n+1:=by omega
   have b3:¬i % 2=0:=by omega
   have b4:¬(n*2=i/\i<l.L):=by omega
   simp only[b1,b2,b3,e1,h,and_self,if_true,if_false];omega
  .by_cases e2:n*2=i
   .have b1:¬i / 2<n:=by omega
    have b2:i / 2<n+1:=by omega
    have b3:i % 2=0:=by omega
    have b4:¬(n*2+1=i/\i<l.L):=by omega
    rw[AE b1,AE b4,AJ ⟨e2,h⟩,AJ b2,AJ b3,e2];omega
   .have b4:¬(n*2+1=i/\i<l.L):=by omega
    have b5:¬(n*2=i/\i<l.L):=by omega
    rw[AE b4,AE b5];by_cases h1:i / 2<n
    .have b2:i / 2<n+1:=by omega
     rw[AJ h1,AJ b2];omega
    .have b2:¬i / 2<n+1:=by omega
     rw[AE h1,AE b2];omega
def uo {n p:Nat}(hp:p<n)(m:Int)(s:BS)(hl:s.1.L=n*2):Km n s (I2 p m s):=by
 unfold I2;split
 .rename_i h;refine⟨by simp,λq hq=>?_,λq hq=>?_,?_,λ_=>.inr ?_⟩
  .show _<=D5 (s.1.SS _ _) _;rw[GQ];split
   .rename_i e;rw[e.1];omega
   .exact CG _
  .show D5 (s.1.SS _ _) _<=_;rw[GQ,AE (by omega)];exact CG _
  .show JH (s.1.SS _ _) n<=_;rw[iy _ _ _ (by omega),AJ (by omega),AJ (by omega)];omega
  .show JH (s.1.SS _ _) n<_;rw[iy _ _ _ (by omega),AJ (by omega),AJ (by omega)];omega
 .exact Km.refl n s
def sn {n p:Nat}(hp:p<n)(m:Int)(s:BS)(hl:s.1.L=n*2):Km n s (H8 p m s):=by
 unfold H8;split
 .rename_i h;refine⟨by simp,λq hq=>?_,λq hq=>?_,?_,λ_=>.inr ?_⟩
  .show _<=D5 (s.1.SS _ _) _;rw[GQ,AE (by omega)];exact CG _
  .show D5 (s.1.SS _ _) _<=_;rw[GQ];split
   .rename_i e;rw[e.1];omega
   .exact CG _
  .show JH (s.1.SS _ _) n<=_;rw[iy _ _ _ (by omega),AJ (by omega),AE (by omega)];omega
  .show JH (s.1.SS _ _) n<_;rw[iy _ _ _ (by omega),AJ (by omega),AE (by omega)];omega
 .exact Km.refl n s
def OO (K:Int)(l:List Int):Prop:=∀i,-K<=D5 l i/\D5 l i<=K
def OO.LT {K K':Int}{l:List Int}(h:OO K l)(hk:K<=K'):OO K' l:=λi=>by have:=h i;omega
def wY {K:Int}{s:BS}(h:OO K s.1)(p:Nat){m:Int}(hm:-K<=m/\m<=K):OO K (I2 p m s).1:=by
 unfold I2;split
 .intro i;show -K<=D5 (s.1.SS _ _) i/\_;rw[GQ];split
  .exact hm
  .exact h i
 .exact h
def uq {K:Int}{s:BS}(h:OO K s.1)(p:Nat){m:Int}(hm:-K<=m/\m<=K):OO K (H8 p m s).1:=by
 unfold H8;split
 .intro i;show -K<=D5 (s.1.SS _ _) i/\_;rw[GQ];split
  .exact hm
  .exact h i
 .exact h
structure Hr (n:Nat)(K:Int)(l:List Int)(s:BS):Prop where
 rel:Km n (l,N) s
 len:s.1.L=n*2
 bd:OO K s.1
def Hr.Li {n:Nat}{K:Int}{l:List Int}{s:BS}(h:Hr n K l s){p:Nat}(hp:p<n){m:Int}(hm:-(K+9)<=m/\m<=K+9):Hr n (K+9) l (I2 p m s) :=
 have r:=uo hp m s h.len
 ⟨h.rel.trans r,r.len.trans h.len,wY (h.bd.LT (by omega)) p hm⟩
def Hr.high {n:Nat}{K:Int}{l:List Int}{s:BS}(h:Hr n K l s){p:Nat}(hp:p<n){m:Int}(hm:-(K+9)<=m/\m<=K+9):Hr n (K+9) l (H8 p m s) :=
 have r:=sn hp m s h.len
 ⟨h.rel.trans r,r.len.trans h.len,uq (h.bd.LT (by omega)) p hm⟩
def Hr.LT {n:Nat}{K K':Int}{l:List Int}{s:BS}(h:Hr n K l s)(hk:K<=K'):Hr n K' l s:=⟨h.rel,h.len,h.bd.LT hk⟩
section
variable {n:Nat} {K:Int} {l:List Int} {s:BS} {bend:Int} {p:Nat}
def Hr.b1 (h:Hr n K l s)(hp:p+1<n)(hb:0<=bend/\bend<=9):Hr n (K+9) l (m8 bend p s):=h.Li (by omega) (by have:=h.bd ((p+1)*2);omega)
def Hr.b2 (h:Hr n K l s)(hp:p+1<n)(hb:0<=bend/\bend<=9):Hr n (K+9) l (m9 bend p s):=h.Li (by omega) (by have:=h.bd (p*2);omega)
def Hr.b3 (h:Hr n K l s)(hp:p+1<n)(hb:0<=bend/\bend<=9):Hr n (K+9) l (na bend p s):=h.high (by omega) (by have:=h.bd ((p+1)*2+1);omega)
def Hr.b4 (h:Hr n K l s)(hp:p+1<n)(hb:0<=bend/\bend<=9):Hr n (K+9) l (nd bend p s):=h.high (by omega) (by have:=h.bd (p*2+1);omega)
def Hr.Q8 (h:Hr n K l s)(hp:p+1<n)(hb:0<=bend/\bend<=9):Hr n (K+36) l (Pq bend p s) :=
 ((((h.b1 hp hb).b2 hp hb).b3 hp hb).b4 hp hb).LT (by omega)
def Hr.claim {c:EE}(h:Hr n K l s)(hc:c.Ok n)(hK:9<=K):Hr n (K+36) l (j7 c s):=by
 obtain⟨a1,a2,a3⟩:=hc.at_;obtain⟨e1,e2,e3⟩:=hc.er;have hp:=hc.pt;have at1:-9<=c.at_:=by by_cases e:c.kind=5;exact a1 e;have:=a2 e;omega
 unfold j7;split
 .exact((h.Li hp (by omega)).high hp (by omega)).LT (by omega)
 .split
  .exact((h.Li hp (by omega)).high hp (by omega)).LT (by omega)
  .split
   .exact(h.high hp (by omega)).LT (by omega)
   .split
    .exact(h.Li hp (by omega)).LT (by omega)
    .have h5:c.kind=5:=by have:=hc.kind;omega
     have h1:=h.high hp (m:=D5 s.1 (c.ot*2+1)+c.at_) (by have:=h.bd (c.ot*2+1);omega);exact(h1.Li (hc.RN h5).1 (by have:=h1.bd (c.pt*2);omega)).LT (by omega)
end
def Hr.start {n:Nat}{l:List Int}{K:Int}(hl:l.L=n*2)(hb:OO K l):Hr n K l (l,N):=⟨Km.refl _ _,hl,hb⟩
def Hr.Oy {n:Nat}{K:Int}{l:List Int}{s:BS}{bend:Int}(h:Hr n K l s)(hb:0<=bend/\bend<=9):∀k,k+1<=n->Hr n (K+36*k) l (JW bend k s)
 |0,_=>h.LT (by omega)
 |k+1,hk=>((Hr.Oy h hb k (by omega)).Q8 (by omega) hb).LT (by omega)
def fJ {x:FB}(hx:x.Ok){k:Nat}(hk:k<x.Eg.L):(x.Eg[k]?.LE .none).Ok x.pts:=by
 rw[AG hk];exact hx.Eg _ (BU hk)
def Hr.Eg {x:FB}(hx:x.Ok){K:Int}{l:List Int}{s:BS}(h:Hr x.pts K l s)(hK:9<=K):∀k,k<=x.Eg.L->Hr x.pts (K+36*k) l (Hd x.Eg k s)
 |0,_=>h.LT (by omega)
 |k+1,hk=>((Hr.Eg hx h hK k (by omega)).claim (fJ hx (by omega)) (by omega)).LT (by omega)
structure I5 (n:Nat)(l:List Int):Prop where
 len:l.L=n*2
 lo:∀p,p<n->0<=D5 l (p*2)
 hi:∀p,p<n->D5 l (p*2+1)<=9
 ord:J9 l n
def I5.bd {n:Nat}{l:List Int}(h:I5 n l):OO 9 l:=λi=>by
 by_cases hi:i<n*2
 .have h1:=h.lo (i / 2) (by omega);have h2:=h.hi (i / 2) (by omega);have h3:=h.ord (i / 2) (by omega);obtain e|e:=Nat.mod_two_eq_zero_or_one i
  .rw[show i / 2*2=i by omega] at h1 h2 h3;omega
  .rw[show i / 2*2+1=i by omega] at h2 h3;omega
 .unfold D5;rw[BV (by rw[h.len];omega)];simp
def bT:∀n,(Ii n).L=n*2
 |0=>rfl
 |n+1=>by unfold Ii;rw[B1,bT n];simp;omega
def dP:∀n p,p<n->D5 (Ii n) (p*2)=0/\D5 (Ii n) (p*2+1)=9
 |n+1,p,hp=>by
  unfold D5 Ii;by_cases e:p=n
  .subst e;rw[Bo (by rw[bT];omega),Bo (by rw[bT];omega),bT];simp
  .rw[Bn (by rw[bT];omega),Bn (by rw[bT];omega)];exact dP n p (by omega)
def nf (n:Nat):I5 n (Ii n):=⟨bT n,λp hp=>by rw[(dP n p hp).1];omega,λp hp=>by rw[(dP n p hp).2];omega,λp hp=>by rw[(dP n p hp).1,(dP n p hp).2];omega⟩
def pf:∀n m,n<=m->JH (Ii m) n=9*n
 |0,_,_=>rfl
 |n+1,m,h=>by unfold JH;rw[pf n m (by omega),(dP m n (by omega)).1,(dP m n (by omega)).2];omega
def iz {l:List Int}:∀n,J9 l n->0<=JH l n
 |0,_=>by simp[JH]
 |n+1,h=>by
  unfold JH;have:=iz n λp hp=>h p (by omega);have:=h n (by omega);omega
def Lq {x:FB}(hx:x.Ok){l:List Int}(h:I5 x.pts l):Hr x.pts 369 l (FT x l):=by
 have h1:=(Hr.start h.len h.bd).Oy hx.bend (x.pts-1) (by have:=hx.pts;omega);have h2:=h1.Eg hx (by omega) x.Eg.L (AD _);exact h2.LT (by have:=hx.pts;have:=hx.many;omega)
def KS {x:FB}(hx:x.Ok){l:List Int}(h:I5 x.pts l)(hf:J9 (FT x l).1 x.pts):I5 x.pts (FT x l).1:=by
 have hp:=Lq hx h;exact⟨hp.len,λp hq=>CN (h.lo p hq) (hp.rel.lo p hq),λp hq=>CN (hp.rel.hi p hq) (h.hi p hq),hf⟩
def ni {x:FB}(hx:x.Ok):∀(k:Nat) (l m:List Int),I5 x.pts l->Kl x k l=J m->I5 x.pts m
 |0,_,_,_,h=>by cases h
 |k+1,l,m,hl,h=>by
  unfold Kl at h;split at h
  .rename_i hf;split at h
   .exact ni hx k _ m (KS hx hl hf) h
   .cases h;exact KS hx hl hf
  .cases h
def j8 {x:FB}(hx:x.Ok){m:List Int}(h:bounds_ x=J m):I5 x.pts m:=ni hx _ _ _ (nf _) h
abbrev FL:=List Eu
def FC (l:FL)(i:Nat):Eu:=l[i]?.LE .none
def KU (l:FL)(i j:Nat):FL:=(l.SS i (FC l j)).SS j (FC l i)
def JI:Nat->FL->FL
 |0,l=>l
 |j+1,l=>if(FC l (j+1)).yr<(FC l j).yr then JI j (KU l (j+1) j) else l
def Ij:Nat->FL->FL
 |0,l=>l
 |k+1,l=>JI k (Ij k l)
def iA (l:FL)(i j:Nat):(KU l i j).L=l.L:=by simp[KU]
def lq:∀(k:Nat) (l:FL),(JI k l).L=l.L
 |0,_=>rfl
 |k+1,l=>by
  unfold JI;split
  .rw[lq k,iA]
  .rfl
def eM:∀(k:Nat) (l:FL),(Ij k l).L=l.L
 |0,_=>rfl
 |k+1,l=>by unfold Ij;rw[lq,eM k]
def F7 (l:FL):FL:=Ij l.L l
structure Eu.Ok (n:Nat)(f:Eu):Prop where
 pt:f.pt<n
 yr:0<=f.yr/\f.yr<=30
 at_:0<=f.at_/\f.at_<=9
def Kw {l:FL}{i:Nat}(h:i<l.L):FC l i∈l:=by unfold FC;rw[AG h];exact BU h
def ur {n:Nat}{l:FL}{i j:Nat}(hi:i<l.L)(hj:j<l.L)(h:∀f∈l,f.Ok n):∀f∈KU l i j,f.Ok n:=by
 intro f hf;obtain hf|rfl:=C4 hf
 .obtain hf|rfl:=C4 hf
  .exact h f hf
  .exact h _ (Kw hj)
 .exact h _ (Kw hi)
def jr {n:Nat}:∀(k:Nat) (l:FL),k<l.L\/l=[]->(∀f∈l,f.Ok n)->∀f∈JI k l,f.Ok n
 |0,_,_,h=>h
 |k+1,l,hk,h=>by
  unfold JI;split
  .obtain hk|rfl:=hk
   .exact jr k _ (.inl (by rw[iA];omega)) (ur hk (by omega) h)
   .exact jr k _ (.inr rfl) (by simp[KU])
  .exact h
def lr {n:Nat}:∀(k:Nat) (l:FL),k<=l.L->(∀f∈l,f.Ok n)->∀f∈Ij k l,f.Ok n
 |0,_,_,h=>h
 |k+1,l,hk,h=>by unfold Ij;exact jr k _ (.inl (by rw[eM];omega)) (lr k l (by omega) h)
def qr {n:Nat}{l:FL}(h:∀f∈l,f.Ok n):∀f∈F7 l,f.Ok n:=lr _ _ (AD _) h
def G5 (l:FL)(p:Nat)(y:Int):Nat->Int×Bool
 |0=>(0,N)
 |k+1=>if(FC l k).pt=p/\(FC l k).yr<=y then((FC l k).at_,M) else G5 l p y k
def FH (l:FL)(p:Nat)(y:Int):Int×Bool:=G5 (F7 l) p y (F7 l).L
def lw {n:Nat}{l:FL}(h:∀f∈l,f.Ok n)(p:Nat)(y:Int):∀k,k<=l.L->0<=(G5 l p y k).1/\(G5 l p y k).1<=9
 |0,_=>by simp[G5]
 |k+1,hk=>by
  unfold G5;split
  .exact(h _ (Kw (by omega))).at_
  .exact lw h p y k (by omega)
def ly {n:Nat}{l:FL}(h:∀f∈l,f.Ok n)(p:Nat)(y:Int):0<=(FH l p y).1/\(FH l p y).1<=9:=lw (qr h) p y _ (AD _)
def en (l:FL)(b:List Int)(p:Nat)(y:Int)(e:Nat):Int:=if(FH l p y).2=M then max 0 (D5 b (p*2+e)-(FH l p y).1) else 0
def Lb {n:Nat}{l:FL}{b:List Int}(h:∀f∈l,f.Ok n)(hb:I5 n b){p:Nat}(hp:p<n)(y:Int):0<=en l b p y 0/\en l b p y 0<=en l b p y 1/\en l b p y 1<=9:=by
 have h1:=ly h p y;have h2:=hb.hi p hp;have h3:=hb.ord p hp;unfold en;split
 .rw[Nat.add_zero];omega
 .omega
def Gz (l:FL)(b:List Int)(rate y:Int)(e:Nat):Nat->Int
 |0=>0
 |k+1=>Gz l b rate y e k+rate*en l b k y e
def Fb (l:FL)(b:List Int)(n:Nat)(rate from_:Int)(e:Nat):Nat->Int
 |0=>0
 |k+1=>Fb l b n rate from_ e k+Gz l b rate (from_+k) e n
def sr {a b c:Int}(ha:0<=a)(h:0<=b)(hc:b<=c):0<=a*b/\a*b<=a*c:=⟨Db ha h,b6 hc ha⟩
def KV {n:Nat}{l:FL}{b:List Int}{rate:Int}(h:∀f∈l,f.Ok n)(hb:I5 n b)(hr:1<=rate/\rate<=9)(y:Int):∀k,k<=n->0<=Gz l b rate y 0 k/\Gz l b rate y 0 k<=Gz l b rate y 1 k/\Gz l b rate y 1 k<=81*k
 |0,_=>by simp[Gz]
 |k+1,hk=>by
  obtain⟨a1,a2,a3⟩:=Lb h hb (p:=k) (by omega) y;obtain⟨b1,b2,b3⟩:=KV h hb hr y k (by omega);have c1:=sr (a:=rate) (by omega) a1 a2;have c2:rate*en l b k y 1<=9*9:=CQ hr.2 a3 (by omega) (by omega);unfold Gz;omega
def iB {n:Nat}{l:FL}{b:List Int}{rate:Int}(h:∀f∈l,f.Ok n)(hb:I5 n b)(hr:1<=rate/\rate<=9)(hn:n<=4)(from_:Int):∀k,0<=Fb l b n rate from_ 0 k/\Fb l b n rate from_ 0 k<=Fb l b n rate from_ 1 k/\Fb l b n rate from_ 1 k<=324*k
 |0=>by simp[Fb]
 |k+1=>by
  have a:=KV h hb hr (from_+k) n (AD _);have b:=iB h hb hr hn from_ k;unfold Fb;omega
noncomputable def IL (x:FB)(l:FL)(rate from_ to:Int):Option (Int×Int) :=
 (bounds_ x).map λb=>(Fb l b x.pts rate from_ 0 (to-from_+1).L,Fb l b x.pts rate from_ 1 (to-from_+1).L)
def nj {x:FB}(hx:x.Ok){l:FL}(h:∀f∈l,f.Ok x.pts){rate from_ to:Int}(hr:1<=rate/\rate<=9)(ht:from_<=to/\to<=from_+30){a b:Int}(e:IL x l rate from_ to=J (a,b)):0<=a/\a<=b/\b<=10044:=by
 unfold IL at e;cases hb:bounds_ x with
 |none=>rw[hb] at e;cases e
 |some m =>
  rw[hb] at e;cases e;have:=iB h (j8 hx hb) hr hx.pts.2 from_ (to-from_+1).L;omega
def Ik (f g:Eu):Bool:=f.pt==g.pt&&f.yr==g.yr
def Gp (H has:List Int):Nat->Nat
 |0=>0
 |k+1=>if D5 H (Gp H has k)*(D5 has k+1)<D5 H k*(D5 has (Gp H has k)+1) then k else Gp H has k
def Ee (H:List Int):Nat->List Int
 |0=>H.map λ_=>0
 |k+1=>(Ee H k).SS (Gp H (Ee H k) H.L) (D5 (Ee H k) (Gp H (Ee H k) H.L)+1)
def iN (H has:List Int)(h:0<H.L):∀k,k<=H.L->Gp H has k<H.L
 |0,_=>h
 |k+1,hk=>by unfold Gp;split;omega;exact iN H has h k (by omega)
def Ld (H has:List Int)(hH:∀i,i<H.L->0<D5 H i)(hh:∀i,0<=D5 has i)(h0:0<H.L):∀k,k<=H.L->(k=0\/Gp H has k<k) /\
  ∀i,i<k->D5 H i*(D5 has (Gp H has k)+1)<=D5 H (Gp H has k)*(D5 has i+1)/\(i<Gp H has k->D5 H i*(D5 has (Gp H has k)+1)<D5 H (Gp H has k)*(D5 has i+1))
 |0,_=>⟨.inl rfl,λi hi=>AH hi (BY _)⟩
 |k+1,hk=>by
  obtain⟨a0,a1⟩:=Ld H has hH hh h0 k (by omega);have hd:=iN H has h0 k (by omega);unfold Gp;generalize hg:Gp H has k=d at a0 a1 hd;have hHd:=hH d hd;have hHk:=hH k (by omega);have a7:=hh d;have hhk:=hh k;split
  .rename_i zY;refine⟨.inr (by omega),λi hi=>?_⟩;by_cases e:i=k
   .subst e;exact⟨CG _,λh=>AH h (CD _)⟩
   .have hik:i<k:=by omega
    obtain⟨b1,_⟩:=a1 i hik;have hHi:=hH i (by omega);have hhi:=hh i;have key:D5 H i*(D5 has k+1)<D5 H k*(D5 has i+1):=by
     have c1:D5 H i*(D5 has d+1)*(D5 has k+1)<=D5 H d*(D5 has i+1)*(D5 has k+1):=Int.mul_le_mul_of_nonneg_right b1 (by omega);have c2:D5 H d*(D5 has k+1)*(D5 has i+1)<D5 H k*(D5 has d+1)*(D5 has i+1):=Int.mul_lt_mul_of_pos_right zY (by omega);have c3:(D5 H i*(D5 has k+1))*(D5 has d+1)<(D5 H k*(D5 has i+1))*(D5 has d+1):=by
      calc (D5 H i*(D5 has k+1))*(D5 has d+1)=D5 H i*(D5 has d+1)*(D5 has k+1):=by rw[CY,CY,fq (D5 has k+1)]
       _<=D5 H d*(D5 has i+1)*(D5 has k+1):=c1
       _=D5 H d*(D5 has k+1)*(D5 has i+1):=by rw[CY,CY,fq (D5 has i+1)]
       _<D5 H k*(D5 has d+1)*(D5 has i+1):=c2
       _=(D5 H k*(D5 has i+1))*(D5 has d+1):=by rw[CY,CY,fq (D5 has d+1)]
     exact Int.lt_of_mul_lt_mul_right c3 (by omega)
    exact⟨np key,λ_=>key⟩
  .rename_i a6;have a6:D5 H k*(D5 has d+1)<=D5 H d*(D5 has k+1):=Int.not_lt.1 a6;have a8:k=0->d=0:=λe=>by subst e;rw[<-hg];rfl
   refine⟨.inr (by omega),λi hi=>?_⟩;by_cases e:i=k
   .subst e;exact⟨a6,λh=>AH h (by omega)⟩
   .exact a1 i (by omega)
structure Fair (H has:List Int)(k:Nat):Prop where
 len:has.L=H.L
 pos:∀i,0<=D5 has i
 Lo:has.Lo=k
 fair:∀i j,i<H.L->j<H.L->i≠j->0<D5 has j->D5 H i*D5 has j<=D5 H j*(D5 has i+1)/\(i<j->D5 H i*D5 has j<D5 H j*(D5 has i+1))
def nk:∀(l:List Int) (i:Nat) (x:Int),i<l.L->(l.SS i x).Lo=l.Lo-D5 l i+x
 |a::l,0,x,_=>by simp[D5];omega
 |a::l,i+1,x,h=>by
  have:=nk l i x (by simpa using h);simp only[Be,k8,this];simp[D5];omega
def gw (H:List Int)(hH:∀i,i<H.L->0<D5 H i)(h0:0<H.L):∀k,Fair H (Ee H k) k
 |0=>by
  have hz:∀i,D5 (Ee H 0) i=0:=λi=>by unfold D5 Ee;rw[BE];cases H[i]?<;>rfl
  refine⟨by simp[Ee],λi=>by rw[hz];omega,?_,λi j _ _ _ h=>by rw[hz] at h;omega⟩;have:∀l:List Int,(l.map λ_=>(0:Int)).Lo=0:=λl=>by induction l with
   |nil=>rfl
   |cons a l ih=>simp[ih]
  simp[Ee,this]
 |k+1=>by
  have ih:=gw H hH h0 k;have hd:=iN H (Ee H k) h0 H.L (AD _);obtain⟨_,hb⟩:=Ld H (Ee H k) hH ih.pos h0 H.L (AD _);unfold Ee;generalize Gp H (Ee H k) H.L=d at hd hb;have a6:∀i,D5 ((Ee H k).SS d (D5 (Ee H k) d+1)) i=if i=d then D5 (Ee H k) d+1 else D5 (Ee H k) i:=λi=>by
   rw[GQ];by_cases e:i=d
   .rw[AJ ⟨e,by rw[ih.len];exact hd⟩,AJ e]
   .rw[AE (λh=>e h.1),AE e]
  refine⟨by rw[Cu,ih.len],λi=>?_,?_,λi j hi hj a8 a7=>?_⟩
  .rw[a6];split
   .have:=ih.pos d;omega
   .exact ih.pos i
  .rw[nk _ _ _ (by rw[ih.len];exact hd),ih.Lo];omega
  .rw[a6,a6];rw[a6] at a7;by_cases e:j=d
   .subst e;rw[AJ rfl,AE a8];exact hb i hi
   .rw[AE e] at a7 ⊢;have:=ih.fair i j hi hj a8 a7;by_cases e2:i=d
    .subst e2;rw[AJ rfl];have hm:D5 H j*(D5 (Ee H k) i+1)<=D5 H j*(D5 (Ee H k) i+1+1):=b6 (by omega) (np (hH j hj));exact⟨CN this.1 hm,λh=>Int.lt_of_lt_of_le (this.2 h) hm⟩
    .rw[AE e2];exact this
def Sq.func8:=Sq.fn Tryz.func8 rfl
@[go_sem] def Sq.call8:=aa Sq.func8
def Sq.func9:=Sq.fn Tryz.func9 rfl
@[go_sem] def Sq.call9:=aa Sq.func9
def Sq.func12:=Sq.fn Tryz.func12 rfl
@[go_sem] def Sq.call12:=aa Sq.func12
def Sq.func13:=Sq.fn Tryz.func13 rfl
@[go_sem] def Sq.call13:=aa Sq.func13
def Sq.func38:=Sq.fn Tryz.func38 rfl
def Sq.func40:=Sq.fn Tryz.func40 rfl
@[go_sem] def Sq.call40:=aa Sq.func40
def Sq.func41:=Sq.fn Tryz.func41 rfl
@[go_sem] def Sq.call41:=aa Sq.func41
def Sq.func42:=Sq.fn Tryz.func42 rfl
@[go_sem] def Sq.call42:=aa Sq.func42
def Sq.func43:=Sq.fn Tryz.func43 rfl
@[go_sem] def Sq.call43:=aa Sq.func43
def Sq.func66:=Sq.fn Tryz.func66 rfl
@[go_sem] def Sq.call66:=aa Sq.func66
def Sq.func71:=Sq.fn Tryz.func71 rfl
@[go_sem] def Sq.call71:=aa Sq.func71
def Sq.func72:=Sq.fn Tryz.func72 rfl
@[go_sem] def Sq.call72:=aa Sq.func72
def Sq.func73:=Sq.fn Tryz.func73 rfl
@[go_sem] def Sq.call73:=aa Sq.func73
def Sq.func74:=Sq.fn Tryz.func74 rfl
@[go_sem] def Sq.call74:=aa Sq.func74
def Sq.func75:=Sq.fn Tryz.func75 rfl
@[go_sem] def Sq.call75:=aa Sq.func75
def Sq.func76:=Sq.fn Tryz.func76 rfl
@[go_sem] def Sq.call76:=aa Sq.func76
def Sq.func113:=Sq.fn Tryz.func113 rfl
@[go_sem] def Sq.call113:=aa Sq.func113
def Sq.func116:=Sq.fn Tryz.func116 rfl
@[go_sem] def Sq.call116:=aa Sq.func116
def Sq.func117:=Sq.fn Tryz.func117 rfl
@[go_sem] def Sq.call117:=aa Sq.func117
def Sq.func118:=Sq.fn Tryz.func118 rfl
@[go_sem] def Sq.call118:=aa Sq.func118
def Sq.func119:=Sq.fn Tryz.func119 rfl
@[go_sem] def Sq.call119:=aa Sq.func119
def Sq.func120:=Sq.fn Tryz.func120 rfl
def Sq.func147:=Sq.fn Tryz.func147 rfl
@[go_sem] def Sq.call147:=aa Sq.func147
def Sq.func149:=Sq.fn Tryz.func149 rfl
@[go_sem] def Sq.call149:=aa Sq.func149
def Sq.func150:=Sq.fn Tryz.func150 rfl
@[go_sem] def Sq.call150:=aa Sq.func150
def Sq.func151:=Sq.fn Tryz.func151 rfl
@[go_sem] def Sq.call151:=aa Sq.func151
def Sq.func152:=Sq.fn Tryz.func152 rfl
def Sq.func194:=Sq.fn Tryz.func194 rfl
@[go_sem] def Sq.call194:=aa Sq.func194
def Sq.func218:=Sq.fn Tryz.func218 rfl
@[go_sem] def Sq.call218:=aa Sq.func218
open Go.Proofs.YtgllajjoinefcaaGreat
def P6:laidOutB Tryz.checked.prog=M/\mapsRowed Tryz.checked.prog=M/\Tryz.checked.prog.plainKeys=true:=Go.ClosedOfChecked.closed_of_checked Tryz.checked (by kernel_rfl) (by kernel_rfl) (by kernel_rfl)
def xO:ik Tryz.pinned.checked.prog 3 Tryz.f3 Rows.wolfPaidSpec Rows.wolfPaidRow=true:=by
 show ik Tryz.checked.prog 3 Tryz.f3 Rows.wolfPaidSpec Rows.wolfPaidRow=M;obtain⟨h1,h2,h3⟩:=P6;unfold ik;rw[h1,h2,h3]
 kernel_rfl
def yU:Tryz.pinned.checked.prog.funcNamed Rows.wolfPaidRow.func=J 3:=by kernel_rfl
end Go.Sq
