/- Parts of the proof. -/
import Derived.Test.YtbnfgnhhfmmejaaGreatP08
import Derived.Deep.DeepAppendRoom
set_option linter.all false
set_option maxHeartbeats 6400000
set_option maxRecDepth 1000000
open Go.Value renaming slice->Z,int->bh,pointer->bn
open Option renaming none->Y,some->bc
open Go.Proofs.Tryz renaming prog->J,underlying27->eH,func84->gg,func49->iv,f49->ko,func85->kp
open Go renaming World->U,Value->bq,Goroutine->dn,wp_seq->dS,Addr->ek,wpOps_cons->eo,wp_cond_false->ez,FuncId->eF,Exit->gB,Frame->gR,TypeId->hZ,wp_skip->js,Program->jx,Deferred->j0,stepG->kv,Code->k0
open Bool renaming true->bb,false->bw
open Go.IntKind renaming i64->br
open Go.Code renaming region->cf,wp->dr
open Go.Obj renaming cells->cw
open Go.World renaming alloc_heap_new->df,setCell->j3
open Go.Conc renaming G->dy,crowd->eC,goes_go->kn
open Go.Frame renaming enter->eb,finish_at->jk
open Go.Proofs renaming intOf->ed
open Go.Instr renaming takeDeferred->eG
open Go.Builtin renaming append_->eT
open List renaming range'->ik,range->j1,take_left->j2
open Array renaming getD->Array.LH,push->Array.LE,setIfInBounds->Array.L,toList->Array.LK
open Eq renaming symm->Eq.LH
open False renaming elim->False.S
open Go renaming underlying->Go.LH
open Go.Addr renaming block->Go.Addr.LE
open Go.BoundsCode renaming toNat->Go.BoundsCode.L
open Go.CallKind renaming deferred->Go.CallKind.S,normal->Go.CallKind.L
open Go.Calls renaming mono->Go.Calls.LT
open Go.Code renaming block->Go.Code.LE,region->Go.Code.L
open Go.Ending renaming returned->Go.Ending.L
open Go.Exit renaming normal->Go.Exit.L
open Go.Goroutine renaming frame->Go.Goroutine.L
open Go.Instr renaming alloc->Go.Instr.LK
open Go.Obj renaming deferred->Go.Obj.S
open Go.Op renaming alloc->Go.Op.LK
open Go.Oper renaming dst->Go.Oper.L
open Go.Program renaming funcs->Go.Program.L,underlying->Go.Program.LH
open Go.RowKit.Below renaming block->Go.RowKit.Below.LE
open Go.TypeDesc renaming pointer->Go.TypeDesc.S
open Go.Value renaming pointer->Go.Value.S
open Go.World renaming alloc->Go.World.LK,cell?->Go.World.S,heap->Go.World.L,ownsRow->Go.World.H,setCell->Go.World.LH
open Go.World.grownBy renaming block->Go.World.grownBy.LE
open Go.World.ownsRow renaming alloc->Go.World.ownsRow.LK
open Int renaming toNat->Int.L
open List renaming length->List.L,set->List.Lo,take->List.LT,toArray->List.LK
open Option renaming getD->Option.LH
open Or renaming elim->Or.S
open UInt8 renaming toNat->UInt8.L
namespace Go.Sq
open Go.RowKit Go.EB
variable {R S:U->U->Prop} {H:U->Prop} {ops:Array Oper} {Q:gB->Act->U->Prop} {n k:Nat} {ds:List j0} {u0:Nat->bq} {w0:U} {l:List (bq->U->Prop)} {d:Option Tmp} {g:Option (Nat×Bool)} {a:Nat}
def I7 [Rfl S]{b o:Nat}{x y:bq}(pa:At R ops n u0 w0 k l a (.S (bc ⟨b,o,Y⟩)))(hc:∀w,R w0 w->w.S ⟨b,o,Y⟩=bc x/\w.S ⟨b,o+1,Y⟩=bc y)(h:opAt ops k=bc (d,.load 25 (.tmp a),g,25):=by exact rfl)(h1:Lf ops n k g=true:=by kernel_rfl)(h2:Gv l g=λv _=>v=.bool (gb g):=by exact rfl):St R S H ops Q n ds u0 w0 k l λv _=>v=.agg #[x,y] :=
 PH _ pa h (λw hg ev e=>by
  obtain⟨c0,c1⟩:=hc w hg;clear hg hc
  go_simp) h1 h2
open Go.Proofs
noncomputable def dV:Code:=Tryz.f3.body.LH .skip
noncomputable def tn (n:Nat):Code:=K4 (JH n dV)
noncomputable def uV:Code:=inBody (inBody (Oa (tn 6)))
noncomputable def aO (n:Nat):Code:=JH n (inBody (K4 (Oa uV)))
noncomputable abbrev ao (k:Nat):Array Oper:=IW k Tryz.f3
def PK (X:List (List Int))(E:Int)(v:bq)(w:U):Prop:=∃y,v=.tuple #[y,bh br E]/\GV X y w
def lT (X:List (List Int))(E:Int):Ga Gr (PK X E):=λv w w' hg ⟨y,e,h⟩=>⟨y,e,LQ X _ _ _ hg h⟩
def gu {L:List Int}{E:Int}{w w':U}{e:Ending}(h:dc L E w e w'):∃v,e=.L v/\Gr w w'/\Mw L E v w':=by
 obtain⟨h1,A,k,rfl,h2⟩:=h;exact⟨_,rfl,h1,_,rfl,A,k,rfl,h2⟩
def pD {X:List (List Int)}{E:Int}{w w':U}{e:Ending}(h:kz X E w e w'):∃v,e=.L v/\Gr w w'/\PK X E v w':=by
 obtain⟨h1,A,k,rfl,h2⟩:=h;exact⟨_,rfl,h1,_,rfl,A,k,rfl,h2⟩
structure Hu (W:U)(cb co rb ro qb pb ob k cc rc qc pc mc sc nc hc:Nat)(mA nA hA sA:Option ek)(x:Hl)(u:Nat->bq):Prop where
 u17:u 17=.slice (bc ⟨cb,co,Y⟩) 4 cc
 u18:u 18=.slice (bc ⟨rb,ro,Y⟩) 4 rc
 u19:u 19=.slice (bc ⟨qb,0,Y⟩) 4 qc
 u20:u 20=.slice (bc ⟨pb,0,Y⟩) 4 pc
 u21:u 21=bh br (k:Nat)
 k4:k<4
 u22:u 22=.S (bc ⟨ob,0,Y⟩)
 u23:u 23=Z mA x.ls.L mc
 u24:u 24=Z sA x.rs.L sc
 sc:x.rs.L<=sc
 FQ:O8 W cb co rb ro k x.toCas
 q0:W.S ⟨qb,k,Y⟩=bc (.slice x.rA x.rs.L x.rc)
 p0:W.S ⟨pb,k,Y⟩=bc (bh br x.p)
 ql:qb<W.L.size/\pb<W.L.size
 rr:FA W W.L.size x.rA x.rs
 small:x.Small
 lt:ob<W.L.size
 o0:W.S ⟨ob,0,Y⟩=bc (Z nA x.c.D9.L nc)
 o1:W.S ⟨ob,1,Y⟩=bc (Z hA x.c.D8.L hc)
 n:RI W W.L.size nA x.c.D9
 h:Fe W W.L.size hA x.c.D8
 m:E7 W W.L.size mA x.ls
 s:FA W W.L.size sA x.rs
section
variable {W:U} {cb co rb ro qb pb ob k cc rc qc pc mc sc nc hc:Nat} {mA nA hA sA:Option ek} {x:Hl} {u:Nat->bq}
def Hu.gr (h:Hu W cb co rb ro qb pb ob k cc rc qc pc mc sc nc hc mA nA hA sA x u){W':U}(hg:Gr W W'){u':Nat->bq}(e:∀t,17<=t->t<=24->u' t=u t):Hu W' cb co rb ro qb pb ob k cc rc qc pc mc sc nc hc mA nA hA sA x u' :=
 ⟨(e 17 (by omega) (by omega)).trans h.u17,(e 18 (by omega) (by omega)).trans h.u18,(e 19 (by omega) (by omega)).trans h.u19,(e 20 (by omega) (by omega)).trans h.u20,(e 21 (by omega) (by omega)).trans h.u21,h.k4,(e 22 (by omega) (by omega)).trans h.u22,(e 23 (by omega) (by omega)).trans h.u23,(e 24 (by omega) (by omega)).trans h.u24,h.sc,h.FQ.gr hg,(hg.cell (p:=⟨qb,_,Y⟩) h.ql.1).trans h.q0,(hg.cell (p:=⟨pb,_,Y⟩) h.ql.2).trans h.p0,⟨AO h.ql.1 hg.size,AO h.ql.2 hg.size⟩,cI h.rr hg,h.small,
  AO h.lt hg.size,(hg.cell (p:=⟨ob,_,Y⟩) h.lt).trans h.o0,(hg.cell (p:=⟨ob,_,Y⟩) h.lt).trans h.o1,h.n.Mx hg,h.h.on hg,h.m.on hg,cI h.s hg⟩
def Hu.lc (h:Hu W cb co rb ro qb pb ob k cc rc qc pc mc sc nc hc mA nA hA sA x u)(V:U)(g:Gr W V):V.S ⟨cb,co+k*2,Y⟩=bc (.slice x.nA x.c.D9.L x.nc)/\V.S ⟨cb,co+k*2+1,Y⟩=bc (.slice x.hA x.c.D8.L x.hc):=⟨(h.FQ.gr g).c0,(h.FQ.gr g).c1⟩
def Hu.lr (h:Hu W cb co rb ro qb pb ob k cc rc qc pc mc sc nc hc mA nA hA sA x u)(V:U)(g:Gr W V):V.S ⟨rb,ro+k,Y⟩=bc (.slice x.gA x.ls.L x.gc):=(h.FQ.gr g).r0
def Hu.lq (h:Hu W cb co rb ro qb pb ob k cc rc qc pc mc sc nc hc mA nA hA sA x u)(V:U)(g:Gr W V):V.S ⟨qb,k,Y⟩=bc (.slice x.rA x.rs.L x.rc):=(g.cell h.ql.1).trans h.q0
def Hu.lp (h:Hu W cb co rb ro qb pb ob k cc rc qc pc mc sc nc hc mA nA hA sA x u)(V:U)(g:Gr W V):V.S ⟨pb,k,Y⟩=bc (bh br x.p):=(g.cell h.ql.2).trans h.p0
def Hu.lo (h:Hu W cb co rb ro qb pb ob k cc rc qc pc mc sc nc hc mA nA hA sA x u)(V:U)(g:Gr W V):V.S ⟨ob,0,Y⟩=bc (Z nA x.c.D9.L nc)/\V.S ⟨ob,0+1,Y⟩=bc (Z hA x.c.D8.L hc):=⟨(g.cell h.lt).trans h.o0,(g.cell h.lt).trans h.o1⟩
end
section
variable {cb co rb ro qb pb ob k cc rc qc pc mc sc nc hc:Nat} {mA nA hA sA:Option ek} {x:Hl} {W:U} {u:Nat->bq} {Q:gB->Act->U->Prop} (hu:Hu W cb co rb ro qb pb ob k cc rc qc pc mc sc nc hc mA nA hA sA x u)
include hu
def xN
  (hK:∀W' u',Gr W W'->(∀t,FN (ao 11) t=bb->u' t=u t)->J4 (x.Jf) (u' 25) W'->u' 26=bh br (x.E9)->Q .L ⟨T 277 u',[]⟩ W'):(cf 11 (ao 11) bw).wp D7 Q ⟨T 277 u,[]⟩ W:=by
 have hk:=hu.k4;have H:=AI λV (hV:Gr W V)=>(tk hu.small (hu.n.Mx hV) (hu.h.on hV) (hu.m.on hV) (cI hu.s hV) (nc:=nc) (hc:=hc) (gc:=mc) (rc:=sc) hu.sc).LT λe w' h=>gu h;refine aD (R:=Gr) 9<|Ed (I7 (Ic hu.u22) hu.lo)<|Ed (Em hu.u23)<|Ed (Em hu.u24)<|Ed (Je Sq.func15 [0,1,2] (Mw (x.Jf) (x.E9)) (ej _ _) H.out)<|Ed (FE 3)<|Ed (JB rfl 4 (J4 (x.Jf)) (Ib _) λ_ _ ⟨y,e1,hy⟩=>⟨_,_,e1,rfl,hy⟩)<|Ed (JB rfl 4 (λv _=>v=bh br (x.E9)) (aF _) λ_ _ ⟨y,e1,hy⟩=>⟨_,_,e1,rfl,rfl⟩)<|Ed (FE 5)<|Ed (FE 6)<|FJ λu w hg hf hv=>?_
 exact hK w u hg hf (hv.at_ 7 25) (hv.at_ 8 26)
def xO
  (hK:∀W' u',Gr W W'->(∀t,FN (ao 12) t=bb->u' t=u t)->J4 (x.Jf) (u' 27) W'->u' 28=bh br (x.E9)->Q .L ⟨T 277 u',[]⟩ W'):(cf 12 (ao 12) bb).wp D7 Q ⟨T 277 u,[]⟩ W:=by
 have hk:=hu.k4;have H:=AI λV (hV:Gr W V)=>(nM hu.small (hu.FQ.at_.gr hV).n (hu.FQ.at_.gr hV).h (hu.FQ.at_.gr hV).g (cI hu.rr hV) (nc:=x.nc) (hc:=x.hc) (gc:=x.gc) (rc:=x.rc)).LT λe w' h=>gu h;refine aD (R:=Gr) 18<|Ed (Em hu.u17)<|Ed (Em hu.u21)<|Ed (FI (co+k*2) 2 (El 0) (El 1))<|Ed (I7 (El 2) hu.lc)<|Ed (Em hu.u18)<|Ed (Em hu.u21)<|Ed (FI (ro+k) 1 (El 4) (El 5))<|Ed (FU (El 6) hu.lr)<|Ed (Em hu.u19)<|Ed (Em hu.u21)<|Ed (FI (k) 1 (El 8) (El 9))<|Ed (FU (El 10) hu.lq)<|Ed (Je Sq.func16 [3,7,11] (Mw (x.Jf) (x.E9)) (ej _ _) H.out)<|Ed (FE 12)<|Ed (JB rfl 13 (J4 (x.Jf)) (Ib _) λ_ _ ⟨y,e1,hy⟩=>⟨_,_,e1,rfl,hy⟩)<|Ed (JB rfl 13 (λv _=>v=bh br (x.E9)) (aF _) λ_ _ ⟨y,e1,hy⟩=>⟨_,_,e1,rfl,rfl⟩)<|Ed (FE 14)<|Ed (FE 15)<|FJ λu w hg hf hv=>?_
 exact hK w u hg hf (hv.at_ 16 27) (hv.at_ 17 28)
def xP
  (hK:∀W' u',Gr W W'->(∀t,FN (ao 15) t=bb->u' t=u t)->J4 (x.Ha) (u' 25) W'->u' 26=bh br (x.E9)->Q .L ⟨T 277 u',[]⟩ W'):(cf 15 (ao 15) bw).wp D7 Q ⟨T 277 u,[]⟩ W:=by
 have hk:=hu.k4;have H:=AI λV (hV:Gr W V)=>(uT hu.small (hu.n.Mx hV) (hu.h.on hV) (hu.m.on hV) (cI hu.s hV) (nc:=nc) (hc:=hc) (gc:=mc) (rc:=sc) hu.sc).LT λe w' h=>gu h;refine aD (R:=Gr) 9<|Ed (I7 (Ic hu.u22) hu.lo)<|Ed (Em hu.u23)<|Ed (Em hu.u24)<|Ed (Je Sq.func18 [0,1,2] (Mw (x.Ha) (x.E9)) (ej _ _) H.out)<|Ed (FE 3)<|Ed (JB rfl 4 (J4 (x.Ha)) (Ib _) λ_ _ ⟨y,e1,hy⟩=>⟨_,_,e1,rfl,hy⟩)<|Ed (JB rfl 4 (λv _=>v=bh br (x.E9)) (aF _) λ_ _ ⟨y,e1,hy⟩=>⟨_,_,e1,rfl,rfl⟩)<|Ed (FE 5)<|Ed (FE 6)<|FJ λu w hg hf hv=>?_
 exact hK w u hg hf (hv.at_ 7 25) (hv.at_ 8 26)
def xQ
  (hK:∀W' u',Gr W W'->(∀t,FN (ao 16) t=bb->u' t=u t)->J4 (x.Ha) (u' 27) W'->u' 28=bh br (x.E9)->Q .L ⟨T 277 u',[]⟩ W'):(cf 16 (ao 16) bb).wp D7 Q ⟨T 277 u,[]⟩ W:=by
 have hk:=hu.k4;have H:=AI λV (hV:Gr W V)=>(oI hu.small (hu.FQ.at_.gr hV).n (hu.FQ.at_.gr hV).h (hu.FQ.at_.gr hV).g (cI hu.rr hV) (nc:=x.nc) (hc:=x.hc) (gc:=x.gc) (rc:=x.rc)).LT λe w' h=>gu h;refine aD (R:=Gr) 18<|Ed (Em hu.u17)<|Ed (Em hu.u21)<|Ed (FI (co+k*2) 2 (El 0) (El 1))<|Ed (I7 (El 2) hu.lc)<|Ed (Em hu.u18)<|Ed (Em hu.u21)<|Ed (FI (ro+k) 1 (El 4) (El 5))<|Ed (FU (El 6) hu.lr)<|Ed (Em hu.u19)<|Ed (Em hu.u21)<|Ed (FI (k) 1 (El 8) (El 9))<|Ed (FU (El 10) hu.lq)<|Ed (Je Sq.func19 [3,7,11] (Mw (x.Ha) (x.E9)) (ej _ _) H.out)<|Ed (FE 12)<|Ed (JB rfl 13 (J4 (x.Ha)) (Ib _) λ_ _ ⟨y,e1,hy⟩=>⟨_,_,e1,rfl,hy⟩)<|Ed (JB rfl 13 (λv _=>v=bh br (x.E9)) (aF _) λ_ _ ⟨y,e1,hy⟩=>⟨_,_,e1,rfl,rfl⟩)<|Ed (FE 14)<|Ed (FE 15)<|FJ λu w hg hf hv=>?_
 exact hK w u hg hf (hv.at_ 16 27) (hv.at_ 17 28)
def xR
  (hK:∀W' u',Gr W W'->(∀t,FN (ao 19) t=bb->u' t=u t)->J4 (x.I6) (u' 25) W'->u' 26=bh br (x.EY)->Q .L ⟨T 277 u',[]⟩ W'):(cf 19 (ao 19) bb).wp D7 Q ⟨T 277 u,[]⟩ W:=by
 have hk:=hu.k4;have H:=AI λV (hV:Gr W V)=>(nL hu.small (hu.n.Mx hV) (hu.h.on hV) (hu.m.on hV) (cI hu.s hV) (nc:=nc) (hc:=hc) (gc:=mc) (rc:=sc) hu.sc).LT λe w' h=>gu h;refine aD (R:=Gr) 13<|Ed (I7 (Ic hu.u22) hu.lo)<|Ed (Em hu.u23)<|Ed (Em hu.u24)<|Ed (Em hu.u20)<|Ed (Em hu.u21)<|Ed (FI (k) 1 (El 3) (El 4))<|Ed (FU (El 5) hu.lp)<|Ed (Je Sq.func20 [0,1,2,6] (Mw (x.I6) (x.EY)) (ej _ _) H.out)<|Ed (FE 7)<|Ed (JB rfl 8 (J4 (x.I6)) (Ib _) λ_ _ ⟨y,e1,hy⟩=>⟨_,_,e1,rfl,hy⟩)<|Ed (JB rfl 8 (λv _=>v=bh br (x.EY)) (aF _) λ_ _ ⟨y,e1,hy⟩=>⟨_,_,e1,rfl,rfl⟩)<|Ed (FE 9)<|Ed (FE 10)<|FJ λu w hg hf hv=>?_
 exact hK w u hg hf (hv.at_ 11 25) (hv.at_ 12 26)
def xS
  (hK:∀W' u',Gr W W'->(∀t,FN (ao 20) t=bb->u' t=u t)->J4 (x.I6) (u' 27) W'->u' 28=bh br (x.EY)->Q .L ⟨T 277 u',[]⟩ W'):(cf 20 (ao 20) bb).wp D7 Q ⟨T 277 u,[]⟩ W:=by
 have hk:=hu.k4;have H:=AI λV (hV:Gr W V)=>(kB hu.small (hu.FQ.at_.gr hV).n (hu.FQ.at_.gr hV).h (hu.FQ.at_.gr hV).g (cI hu.rr hV) (nc:=x.nc) (hc:=x.hc) (gc:=x.gc) (rc:=x.rc)).LT λe w' h=>gu h;refine aD (R:=Gr) 22<|Ed (Em hu.u17)<|Ed (Em hu.u21)<|Ed (FI (co+k*2) 2 (El 0) (El 1))<|Ed (I7 (El 2) hu.lc)<|Ed (Em hu.u18)<|Ed (Em hu.u21)<|Ed (FI (ro+k) 1 (El 4) (El 5))<|Ed (FU (El 6) hu.lr)<|Ed (Em hu.u19)<|Ed (Em hu.u21)<|Ed (FI (k) 1 (El 8) (El 9))<|Ed (FU (El 10) hu.lq)<|Ed (Em hu.u20)<|Ed (Em hu.u21)<|Ed (FI (k) 1 (El 12) (El 13))<|Ed (FU (El 14) hu.lp)<|Ed (Je Sq.func21 [3,7,11,15] (Mw (x.I6) (x.EY)) (ej _ _) H.out)<|Ed (FE 16)<|Ed (JB rfl 17 (J4 (x.I6)) (Ib _) λ_ _ ⟨y,e1,hy⟩=>⟨_,_,e1,rfl,hy⟩)<|Ed (JB rfl 17 (λv _=>v=bh br (x.EY)) (aF _) λ_ _ ⟨y,e1,hy⟩=>⟨_,_,e1,rfl,rfl⟩)<|Ed (FE 18)<|Ed (FE 19)<|FJ λu w hg hf hv=>?_
 exact hK w u hg hf (hv.at_ 20 27) (hv.at_ 21 28)
def xT
  (hK:∀W' u',Gr W W'->(∀t,FN (ao 21) t=bb->u' t=u t)->GV (x.F3) (u' 29) W'->u' 30=bh br (x.EY)->Q .L ⟨T 277 u',[]⟩ W'):(cf 21 (ao 21) bb).wp D7 Q ⟨T 277 u,[]⟩ W:=by
 have hk:=hu.k4;have H:=AI λV (hV:Gr W V)=>(uU hu.small (hu.n.Mx hV) (hu.h.on hV) (hu.m.on hV) (cI hu.s hV) (nc:=nc) (hc:=hc) (gc:=mc) (rc:=sc) hu.sc).LT λe w' h=>pD h;refine aD (R:=Gr) 13<|Ed (I7 (Ic hu.u22) hu.lo)<|Ed (Em hu.u23)<|Ed (Em hu.u24)<|Ed (Em hu.u20)<|Ed (Em hu.u21)<|Ed (FI (k) 1 (El 3) (El 4))<|Ed (FU (El 5) hu.lp)<|Ed (Je Sq.func22 [0,1,2,6] (PK (x.F3) (x.EY)) (lT _ _) H.out)<|Ed (FE 7)<|Ed (JB rfl 8 (GV (x.F3)) (LQ _) λ_ _ ⟨y,e1,hy⟩=>⟨_,_,e1,rfl,hy⟩)<|Ed (JB rfl 8 (λv _=>v=bh br (x.EY)) (aF _) λ_ _ ⟨y,e1,hy⟩=>⟨_,_,e1,rfl,rfl⟩)<|Ed (FE 9)<|Ed (FE 10)<|FJ λu w hg hf hv=>?_
 exact hK w u hg hf (hv.at_ 11 29) (hv.at_ 12 30)
def xU
  (hK:∀W' u',Gr W W'->(∀t,FN (ao 22) t=bb->u' t=u t)->GV (x.F3) (u' 31) W'->u' 32=bh br (x.EY)->Q .L ⟨T 277 u',[]⟩ W'):(cf 22 (ao 22) bb).wp D7 Q ⟨T 277 u,[]⟩ W:=by
 have hk:=hu.k4;have H:=AI λV (hV:Gr W V)=>(oJ hu.small (hu.FQ.at_.gr hV).n (hu.FQ.at_.gr hV).h (hu.FQ.at_.gr hV).g (cI hu.rr hV) (nc:=x.nc) (hc:=x.hc) (gc:=x.gc) (rc:=x.rc)).LT λe w' h=>pD h;refine aD (R:=Gr) 22<|Ed (Em hu.u17)<|Ed (Em hu.u21)<|Ed (FI (co+k*2) 2 (El 0) (El 1))<|Ed (I7 (El 2) hu.lc)<|Ed (Em hu.u18)<|Ed (Em hu.u21)<|Ed (FI (ro+k) 1 (El 4) (El 5))<|Ed (FU (El 6) hu.lr)<|Ed (Em hu.u19)<|Ed (Em hu.u21)<|Ed (FI (k) 1 (El 8) (El 9))<|Ed (FU (El 10) hu.lq)<|Ed (Em hu.u20)<|Ed (Em hu.u21)<|Ed (FI (k) 1 (El 12) (El 13))<|Ed (FU (El 14) hu.lp)<|Ed (Je Sq.func23 [3,7,11,15] (PK (x.F3) (x.EY)) (lT _ _) H.out)<|Ed (FE 16)<|Ed (JB rfl 17 (GV (x.F3)) (LQ _) λ_ _ ⟨y,e1,hy⟩=>⟨_,_,e1,rfl,hy⟩)<|Ed (JB rfl 17 (λv _=>v=bh br (x.EY)) (aF _) λ_ _ ⟨y,e1,hy⟩=>⟨_,_,e1,rfl,rfl⟩)<|Ed (FE 18)<|Ed (FE 19)<|FJ λu w hg hf hv=>?_
 exact hK w u hg hf (hv.at_ 20 31) (hv.at_ 21 32)
def xV {L:List Int}{X:List (List Int)}{E:Int}{lA kA aA bA:Option ek}{lk kq ak bk:Nat}(hl:L.L<=1048576)(hX:X.L<=1048576)(hX2:∀y∈X,y.L<=1048576)(a6:u 25=Z lA L.L lk)(a7:RI W W.L.size lA L)(a8:u 26=bh br E)(aB:u 27=Z kA L.L kq)(aC:RI W W.L.size kA L)(aF:u 28=bh br E)(aG:u 29=Z aA X.L ak)(g29:E7 W W.L.size aA X)(h30:u 30=bh br E)(aH:u 31=Z bA X.L bk)(g31:E7 W W.L.size bA X)(h32:u 32=bh br E)
  (hK:∀W' u',Gr W W'->(∀t,FN (ao 23) t=bb->u' t=u t)->u' 275=.bool bw->Q .L ⟨T 277 u',[]⟩ W'):(cf 23 (ao 23) bb).wp D7 Q ⟨T 277 u,[]⟩ W:=by
 have hk:=hu.k4;have aI:=AI (λV (hV:Gr W V)=>(bM lA kA lk kq L L V _ (AK _) (a7.Mx hV) (aC.Mx hV) (by omega) (by omega)).LT λe w' h=>(by rw[BE rfl] at h;exact h:e=.L (.bool bb)/\Gr V w'));have HGG:=AI (λV (hV:Gr W V)=>(ey aA bA ak bk X X V _ (AK _) (g29.on hV) (g31.on hV) (by omega) (by omega) (λy hy=>AU (hX2 y hy) (by omega)) (λy hy=>AU (hX2 y hy) (by omega))).LT λe w' h=>(by rw[BE rfl] at h;exact h:e=.L (.bool bb)/\Gr V w'))
 have H29:=AI (λV (hV:Gr W V)=>oH nA hA x.nA x.hA nc hc x.nc x.hc x.c V (hu.n.Mx hV) (hu.h.on hV) (hu.FQ.at_.gr hV).n (hu.FQ.at_.gr hV).h hu.FQ.small.n hu.FQ.small.h hu.FQ.small.o);have H28:=AI (λV (hV:Gr W V)=>(ey mA x.gA mc x.gc x.ls x.ls V _ (AK _) (hu.m.on hV) (hu.FQ.at_.gr hV).g (AU hu.FQ.small.l (by omega)) (AU hu.FQ.small.l (by omega)) (λy hy=>AU (hu.FQ.small.g y hy) (by omega)) (λy hy=>AU (hu.FQ.small.g y hy) (by omega))).LT λe w' h=>(by rw[BE rfl] at h;exact h:e=.L (.bool bb)/\Gr V w'))
 have H71:=AI (λV (hV:Gr W V)=>oL sA x.rA sc x.rc x.rs V _ _ (AK _) (AK _) (cI hu.s hV) (cI hu.rr hV) (AU hu.small.r (by omega)));refine aD (R:=Gr) 47<|Ed (Em a8)<|Ed (Em aF)<|Ed (My (.bool bw) (El 0) (El 1))<|Ed (FE 2)<|Ed (Em h30)<|Ed (Em h32)<|Ed (My (.bool bw) (El 4) (El 5))<|Ed (K6 (El 3) (El 6))<|Ed (FE 7)<|Ed (Em a6)<|Ed (Em aB)<|Ed (K7 Sq.func17 [9,10] aI.out)<|Ed (Kk (El 11))<|Ed (K6 (El 8) (El 12))<|Ed (FE 13)<|Ed (Em aG)<|Ed (Em aH)<|Ed (K7 Sq.func24 [15,16] HGG.out)<|Ed (Kk (El 17))<|Ed (K6 (El 14) (El 18))<|Ed (FE 19)<|Ed (I7 (Ic hu.u22) hu.lo)<|Ed (Em hu.u17)<|Ed (Em hu.u21)<|Ed (FI (co+k*2) 2 (El 22) (El 23))<|Ed (I7 (El 24) hu.lc)<|Ed (K7 Sq.func25 [21,25] H29.out)<|Ed (Kk (El 26))<|Ed (K6 (El 20) (El 27))<|Ed (FE 28)<|Ed (Em hu.u23)<|Ed (Em hu.u18)<|Ed (Em hu.u21)<|Ed (FI (ro+k) 1 (El 31) (El 32))<|Ed (FU (El 33) hu.lr)<|Ed (K7 Sq.func24 [30,34] H28.out)<|Ed (Kk (El 35))<|Ed (K6 (El 29) (El 36))<|Ed (FE 37)<|Ed (Em hu.u24)<|Ed (Em hu.u19)<|Ed (Em hu.u21)<|Ed (FI (k) 1 (El 40) (El 41))<|Ed (FU (El 42) hu.lq)<|Ed (K7 Sq.func26 [39,43] H71.out)<|Ed (Kk (El 44))<|Ed (K6 (El 38) (El 45))<|FJ λu w hg hf hv=>?_
 exact hK w u hg hf (hv.at_ 46 275)
end
def xW {W:U}{u:Nat->bq}{Q:gB->Act->U->Prop}{L:List Int}{E:Int}{lA kA:Option ek}{lk kq:Nat}(hl:L.L<=1048576)(a6:u 25=Z lA L.L lk)(a7:RI W W.L.size lA L)(a8:u 26=bh br E)(aA:u 27=Z kA L.L kq)(aB:RI W W.L.size kA L)(aC:u 28=bh br E)
  (hK:∀W' u',Gr W W'->(∀t,FN (ao 13) t=bb->u' t=u t)->u' 134=.bool bw->Q .L ⟨T 277 u',[]⟩ W'):(cf 13 (ao 13) bw).wp D7 Q ⟨T 277 u,[]⟩ W:=by
 have aF:=AI (λV (hV:Gr W V)=>(bM lA kA lk kq L L V _ (AK _) (a7.Mx hV) (aB.Mx hV) (by omega) (by omega)).LT λe w' h=>(by rw[BE rfl] at h;exact h:e=.L (.bool bb)/\Gr V w'));refine aD (R:=Gr) 9<|Ed (Em a8)<|Ed (Em aC)<|Ed (My (.bool bw) (El 0) (El 1))<|Ed (FE 2)<|Ed (Em a6)<|Ed (Em aA)<|Ed (K7 Sq.func17 [4,5] aF.out)<|Ed (Kk (El 6))<|Ed (K6 (El 3) (El 7))<|FJ λu w hg hf hv=>?_
 exact hK w u hg hf (hv.at_ 8 134)
def xX {W:U}{u:Nat->bq}{Q:gB->Act->U->Prop}{L:List Int}{E:Int}{lA kA:Option ek}{lk kq:Nat}(hl:L.L<=1048576)(a6:u 25=Z lA L.L lk)(a7:RI W W.L.size lA L)(a8:u 26=bh br E)(aA:u 27=Z kA L.L kq)(aB:RI W W.L.size kA L)(aC:u 28=bh br E)
  (hK:∀W' u',Gr W W'->(∀t,FN (ao 17) t=bb->u' t=u t)->u' 166=.bool bw->Q .L ⟨T 277 u',[]⟩ W'):(cf 17 (ao 17) bw).wp D7 Q ⟨T 277 u,[]⟩ W:=by
 have aF:=AI (λV (hV:Gr W V)=>(bM lA kA lk kq L L V _ (AK _) (a7.Mx hV) (aB.Mx hV) (by omega) (by omega)).LT λe w' h=>(by rw[BE rfl] at h;exact h:e=.L (.bool bb)/\Gr V w'));refine aD (R:=Gr) 9<|Ed (Em a8)<|Ed (Em aC)<|Ed (My (.bool bw) (El 0) (El 1))<|Ed (FE 2)<|Ed (Em a6)<|Ed (Em aA)<|Ed (K7 Sq.func17 [4,5] aF.out)<|Ed (Kk (El 6))<|Ed (K6 (El 3) (El 7))<|FJ λu w hg hf hv=>?_
 exact hK w u hg hf (hv.at_ 8 166)
def Pe (l:List (Int×Int))(w0:U)(v:bq)(w:U):Prop:=w.H w0.L.size 29 2 v l.L (Es l)
def Og (l:List (Int×Int))(w0:U):Ga Gr (Pe l w0):=λ_ _ _ hg h=>ap h λg _ zY=>hg.Li.LE g zY
structure MC (W:U)(cb co rb ro qb pb k:Nat)(x:Hl):Prop where
 FQ:O8 W cb co rb ro k x.toCas
 q0:W.S ⟨qb,k,Y⟩=bc (.slice x.rA x.rs.L x.rc)
 p0:W.S ⟨pb,k,Y⟩=bc (bh br x.p)
 ql:qb<W.L.size/\pb<W.L.size
 rr:FA W W.L.size x.rA x.rs
 small:x.Small
def MC.gr {W W':U}{cb co rb ro qb pb k:Nat}{x:Hl}(h:MC W cb co rb ro qb pb k x)(hg:Gr W W'):MC W' cb co rb ro qb pb k x :=
 ⟨h.FQ.gr hg,(hg.cell (p:=⟨qb,_,Y⟩) h.ql.1).trans h.q0,(hg.cell (p:=⟨pb,_,Y⟩) h.ql.2).trans h.p0,⟨AO h.ql.1 hg.size,AO h.ql.2 hg.size⟩,cI h.rr hg,h.small⟩
def yY {W:U}{u:Nat->bq}{Q:gB->Act->U->Prop}
  (hK:∀W' u',Gr W W'->Fr (ao 7) u' u->u' 21=bh br 0->Q .L ⟨T 277 u',[]⟩ W'):(cf 7 (ao 7) bw).wp D7 Q ⟨T 277 u,[]⟩ W:=by
 refine aD (R:=Gr) 1<|Ed Rw<|FJ λu w hg hf hv=>?_
 .exact hK w u hg hf (hv.at_ 0 21)
def yZ {cb co k cc:Nat}{W:U}{u:Nat->bq}{Q:gB->Act->U->Prop}(a6:u 17=.slice (bc ⟨cb,co,Y⟩) 4 cc)(a7:u 21=bh br (k:Nat))
  (hK:∀W' u',Gr W W'->Fr (ao 8) u' u->u' 85=.bool (decide ((k:Int)<4))->Q .L ⟨T 277 u',[]⟩ W'):(cf 8 (ao 8) bw).wp D7 Q ⟨T 277 u,[]⟩ W:=by
 refine aD (R:=Gr) 4<|Ed (Em a7)<|Ed (Em a6)<|Ed (Qs (El 1))<|Ed (My (.bool (decide ((k:Int)<4))) (El 0) (El 2))<|FJ λu w hg hf hv=>?_
 .exact hK w u hg hf (hv.at_ 3 85)
def za {k:Nat}{W:U}{u:Nat->bq}{Q:gB->Act->U->Prop}(a6:u 21=bh br (k:Nat))(hk:k<4)
  (hK:∀W' u',Gr W W'->Fr (ao 9) u' u->u' 21=bh br ((k+1:Nat):Int)->Q .L ⟨T 277 u',[]⟩ W'):(cf 9 (ao 9) bw).wp D7 Q ⟨T 277 u,[]⟩ W:=by
 refine aD (R:=Gr) 3<|Ed (Rv (Sr 2 a6))<|Ed (Rx ((k:Int)+1) (El 0))<|Ed (FE 1)<|FJ λu w hg hf hv=>?_
 .exact hK w u hg hf (hv.at_ 2 21)
def xY {cb co rb ro qb pb k cc rc qc:Nat}{x:Hl}{W:U}{u:Nat->bq}{Q:gB->Act->U->Prop}(aB:u 17=.slice (bc ⟨cb,co,Y⟩) 4 cc)(aC:u 18=.slice (bc ⟨rb,ro,Y⟩) 4 rc)(aF:u 19=.slice (bc ⟨qb,0,Y⟩) 4 qc)(a6:u 21=bh br (k:Nat))(hk:k<4)(hx:MC W cb co rb ro qb pb k x)
  (hK:∀W' u',Gr W W'->(∀t,17<=t->t<=21->u' t=u t)->(∃(ob mc sc nc hc:Nat) (mA nA hA sA:Option ek),u' 22=.S (bc ⟨ob,0,Y⟩)/\u' 23=Z mA x.ls.L mc/\u' 24=Z sA x.rs.L sc/\x.rs.L<=sc/\ob<W'.L.size/\W'.S ⟨ob,0,Y⟩=bc (Z nA x.c.D9.L nc)/\W'.S ⟨ob,1,Y⟩=bc (Z hA x.c.D8.L hc)/\RI W' W'.L.size nA x.c.D9/\Fe W' W'.L.size hA x.c.D8/\E7 W' W'.L.size mA x.ls/\FA W' W'.L.size sA x.rs)->Q .L ⟨T 277 u',[]⟩ W'):(cf 10 (ao 10) bb).wp D7 Q ⟨T 277 u,[]⟩ W:=by
 have H23:=AI (λV (hV:Gr W V)=>qQ x.nA x.hA x.nc x.hc x.c V _ (AK _) (hx.FQ.at_.gr hV).n (hx.FQ.at_.gr hV).h hx.FQ.small.n hx.FQ.small.h hx.FQ.small.o);have H33:=AI (λV (hV:Gr W V)=>qG x.gA x.gc x.ls V (hx.FQ.at_.gr hV).g (AU hx.FQ.small.l (by omega)) (λy hy=>AU (hx.FQ.small.g y hy) (by omega)));have H65:=AI (λV (hV:Gr W V)=>ja x.rA x.rc x.rs V _ (cI hx.rr hV) (AK _) (AU hx.small.r (by omega)))
 have HX:=AI (λV (hV:Gr W V)=>hx.gr hV);refine aD (R:=Gr) 16<|Ed (Em aB)<|Ed (Em a6)<|Ed (FI (co+k*2) 2 (El 0) (El 1))<|Ed (PH (.agg #[.slice x.nA x.c.D9.L x.nc,.slice x.hA x.c.D8.L x.hc]) (El 2) rfl λw hg ev e=>by obtain⟨c0,c1,r0,⟨cl,rl⟩,_,_⟩:=(HX.out w hg).FQ;clear hg;go_simp)<|Ed (Je Sq.func13 [3] (Qv x.c W) (O9 _ _) λw hg=>(H23.out w hg).LT λe w' h=>Qw hg h)<|Ed (Em aC)<|Ed (Em a6)<|Ed (FI (ro+k) 1 (El 5) (El 6))<|Ed (FU (El 7) λw hg=>by obtain⟨c0,c1,r0,⟨cl,rl⟩,_,_⟩:=(HX.out w hg).FQ;assumption)<|Ed (Je Sq.func14 [8] (P0 x.ls W) (Oe _ _) λw hg=>(H33.out w hg).LT λe w' h=>?_)<|Ed (Em aF)<|Ed (Em a6)<|Ed (FI k 1 (El 10) (El 11))<|Ed (FU (El 12) λw hg=>(HX.out w hg).q0)<|Ed (Je Sq.func11 [13] (Pe x.rs W) (Og _ _) λw hg=>(H65.out w hg).LT λe w' h=>?_)<|Ed (KC (Ry W) (Pa _) ?_)<|FJ λu w hg hf hv=>?_
 .obtain⟨v,xs,rfl,h1,h2⟩:=h;exact⟨v,rfl,h2,xs,lQ h1 hg.size⟩
 .obtain⟨v,rfl,h1,h2⟩:=h;exact⟨v,rfl,h2,FD h1 hg.size⟩
 .intro u w hg hf hl hd;refine aV (op:=.LK 25) (t:=0) rfl _ (w.LK (cw #[.slice Y 0 0,.slice Y 0 0] 25)) (λev he=>?_) ((Gr.refl w).LK _) ⟨_,rfl,hg.size,df _ _⟩;clear hg hf hl hd he;go_simp
 .obtain⟨b,e12,hb1,zp⟩:=hv.at_ 15 22;obtain⟨nA,hA,nc,hc,e55,hr,hh⟩:=hv.at_ 4 92;obtain⟨xs,a8⟩:=hv.at_ 9 97;have a7:Pe x.rs W (u 102) w:=hv.at_ 14 102;have er:ik 16 ((ao 10).size-16)=[16,17,18]:=by kernel_rfl
  rw[er,eo];refine dE (d:=Y) (op:=.store 25 (.tmp 22) (.tmp 92)) (t:=0) rfl ((w.LH ⟨b,0,Y⟩ (Z nA x.c.D9.L nc)).LH ⟨b,1,Y⟩ (Z hA x.c.D8.L hc)) (λev he=>?_) ?_
  .have e1:=(he.t 22).trans e12;have e2:=(he.t 92).trans e55;obtain⟨⟨q1,q2,q3,q4⟩,q5⟩:=Kl zp;unfold En at e2;clear hv hf hg hr hh a8 zp he hK a7;go_simp
  .rw[eo];refine lP (d:=bc 23) rfl ?_;rw[eo];refine lP (d:=bc 24) rfl ?_;show Q .L _ _;obtain⟨mA,mc,e60,hm⟩:=(Pb (x:=Z nA x.c.D9.L nc) (y:=Z hA x.c.D8.L hc) zp a8).LH;have aA:((w.LH ⟨b,0,Y⟩ (Z nA x.c.D9.L nc)).LH ⟨b,1,Y⟩ (Z hA x.c.D8.L hc)).H W.L.size 29 2 (u 102) x.rs.L (Es x.rs):=ap a7 λg hg _=>eP g (jy a7 zp (by decide) hg)
   obtain⟨sA,sc,e65,hs,hsc⟩:=IQ aA;obtain⟨o0,o1⟩:=NC (x:=Z nA x.c.D9.L nc) (y:=Z hA x.c.D8.L hc) zp;have ne:∀i,i≠23->i≠24->G2 (G2 (G2 u Y undef) (bc 23) (G2 u Y undef 97)) (bc 24) (G2 (G2 u Y undef) (bc 23) (G2 u Y undef 97) 102) i=u i:=λi hi hj=>(Fw hj).trans (Fw hi);refine hK _ _ (ta hg hb1) (λt h1 h2=>(ne t (by omega) (by omega)).trans (hf t (bV (by kernel_rfl) t h1 h2))) ⟨b,mc,sc,nc,hc,mA,nA,hA,sA,(ne 22 (by decide) (by decide)).trans e12,((Fw (by decide)).trans (bi ..)).trans e60,(bi ..).trans ((Fw (by decide)).trans e65),hsc,by rw[gS];exact(Kl zp).2,o0,o1,(pB zp hr).ri λb hb=>by rw[gS];exact hb.2,(xE zp hh).hs λb hb=>by rw[gS];exact hb.2,hm,hs⟩
def uW {x:Hl}(h:x.Small):x.Jf.L<=1048576:=by
 have b:=h.r;show(Go.Sq.Jf x.c x.ls x.rs).L<=_;unfold Go.Sq.Jf Hi;split<;>simp<;>omega
def tq {x:Hl}(h:x.Small):x.Ha.L<=1048576:=by
 have b:=h.FQ.h;show(Go.Sq.Ha x.c x.ls x.rs).L<=_;unfold Go.Sq.Ha JG;split<;>simp<;>omega
def lU (c:Ek)(r:E2)(p:Int)(ws:List Int):(GX c r p ws).L=c.D8.L:=cQ _ _
def uX {x:Hl}(h:x.Small):x.I6.L<=1048576:=by
 have b:=h.FQ.h;show(Go.Sq.I6 x.c x.ls x.rs x.p).L<=_;unfold Go.Sq.I6 Kh;split
 .rw[BD,CQ,lU];omega
 .simp
def lV {x:Hl}(h:x.Small):x.F3.L<=1048576/\∀y∈x.F3,y.L<=1048576:=by
 have b:=h.FQ.h;show(Go.Sq.F3 x.c x.ls x.rs x.p).L<=_/\∀y∈Go.Sq.F3 x.c x.ls x.rs x.p,y.L<=_;unfold Go.Sq.F3;split
 .refine⟨by rw[lU];omega,λy hy=>?_⟩;unfold GX Ld at hy;obtain⟨i,_,rfl⟩:=Bu.1 hy;rw[BD,CQ];omega
 .exact⟨by simp,λy hy=>AS hy (by simp)⟩
def uY:aO 0=.seq (.L 10 (ao 10) bb) (aO 1):=by kernel_rfl
def uZ:aO 1=.seq (.L 11 (ao 11) bw) (aO 2):=by kernel_rfl
def va:aO 2=.seq (.L 12 (ao 12) bb) (aO 3):=by kernel_rfl
def vb:aO 3=.seq (.seq (.L 13 (ao 13) bw) (.cond (.tmp 134) (ND (K4 (aO 3))) .skip)) (aO 4):=by kernel_rfl
def vc:aO 4=.seq (.L 15 (ao 15) bw) (aO 5):=by kernel_rfl
def ve:aO 5=.seq (.L 16 (ao 16) bb) (aO 6):=by kernel_rfl
def vg:aO 6=.seq (.seq (.L 17 (ao 17) bw) (.cond (.tmp 166) (ND (K4 (aO 6))) .skip)) (aO 7):=by kernel_rfl
def vi:aO 7=.seq (.L 19 (ao 19) bb) (aO 8):=by kernel_rfl
def vj:aO 8=.seq (.L 20 (ao 20) bb) (aO 9):=by kernel_rfl
def vm:aO 9=.seq (.L 21 (ao 21) bb) (aO 10):=by kernel_rfl
def tt:aO 10=.seq (.L 22 (ao 22) bb) (aO 11):=by kernel_rfl
def tu:aO 11=.seq (.L 23 (ao 23) bb) (.cond (.tmp 275) (ND (aO 11)) .skip):=by kernel_rfl
def Oh:tn 6=.seq (.L 7 (ao 7) bw) (.LE 0 (.loop uV))/\uV=.seq (.seq (.L 8 (ao 8) bw) (.cond (.tmp 85) .skip (.exit 0))) (.seq (.LE 1 (aO 0)) (.L 9 (ao 9) bw)):=⟨by kernel_rfl,by kernel_rfl⟩
def xZ {cb co rb ro qb pb ob k cc rc qc pc mc sc nc hc:Nat}{mA nA hA sA:Option ek}{x:Hl}{W:U}{u:Nat->bq}{Q:gB->Act->U->Prop}(hu:Hu W cb co rb ro qb pb ob k cc rc qc pc mc sc nc hc mA nA hA sA x u)(hK:∀W' u',Gr W W'->(∀t,17<=t->t<=24->u' t=u t)->Q .L ⟨T 277 u',[]⟩ W'):(aO 1).wp D7 Q ⟨T 277 u,[]⟩ W:=by
 rw[uZ];refine dS (xN hu λW1 u1 g1 f1 a6 a7=>?_);have m1:∀t,17<=t->t<=24->u1 t=u t:=λt h1 h2=>f1 t (bV (by kernel_rfl) t h1 h2);have hu1:=hu.gr g1 (u':=u1) m1;show dr _ _ _ _ _;rw[va];refine dS (xO hu1 λW2 u2 g2 f2 a8 aB=>?_);have m2:∀t,17<=t->t<=24->u2 t=u1 t:=λt h1 h2=>f2 t (bV (by kernel_rfl) t h1 h2);have hu2:=hu1.gr g2 (u':=u2) m2;show dr _ _ _ _ _;obtain⟨lA1,lk1,aC,gl1⟩:=a6
 obtain⟨kA1,kq1,aD,gk1⟩:=a8;rw[vb];refine dS (dS (xW (uW hu.small) ((f2 25 (by kernel_rfl)).trans aC) (gl1.Mx g2) ((f2 26 (by kernel_rfl)).trans a7) aD gk1 aB λW3 u3 g3 f3 zu=>?_));have m3:∀t,17<=t->t<=24->u3 t=u2 t:=λt h1 h2=>f3 t (bV (by kernel_rfl) t h1 h2);have hu3:=hu2.gr g3 (u':=u3) m3;show dr _ _ _ _ _;refine ez ((db (by decide)).trans zu) (js ?_)
 show dr _ _ _ _ _;rw[vc];refine dS (xP hu3 λW4 u4 g4 f4 aF aG=>?_);have m4:∀t,17<=t->t<=24->u4 t=u3 t:=λt h1 h2=>f4 t (bV (by kernel_rfl) t h1 h2);have hu4:=hu3.gr g4 (u':=u4) m4;show dr _ _ _ _ _;rw[ve];refine dS (xQ hu4 λW5 u5 g5 f5 aH aI=>?_);have m5:∀t,17<=t->t<=24->u5 t=u4 t:=λt h1 h2=>f5 t (bV (by kernel_rfl) t h1 h2);have hu5:=hu4.gr g5 (u':=u5) m5;show dr _ _ _ _ _
 obtain⟨lA4,lk4,aJ,gl4⟩:=aF;obtain⟨kA4,kq4,aK,gk4⟩:=aH;rw[vg];refine dS (dS (xX (tq hu.small) ((f5 25 (by kernel_rfl)).trans aJ) (gl4.Mx g5) ((f5 26 (by kernel_rfl)).trans aG) aK gk4 aI λW6 u6 g6 f6 aU=>?_));have m6:∀t,17<=t->t<=24->u6 t=u5 t:=λt h1 h2=>f6 t (bV (by kernel_rfl) t h1 h2);have hu6:=hu5.gr g6 (u':=u6) m6;show dr _ _ _ _ _;refine ez ((db (by decide)).trans aU) (js ?_)
 show dr _ _ _ _ _;rw[vi];refine dS (xR hu6 λW7 u7 g7 f7 aL aM=>?_);have m7:∀t,17<=t->t<=24->u7 t=u6 t:=λt h1 h2=>f7 t (bV (by kernel_rfl) t h1 h2);have hu7:=hu6.gr g7 (u':=u7) m7;show dr _ _ _ _ _;rw[vj];refine dS (xS hu7 λW8 u8 g8 f8 aN aP=>?_);have m8:∀t,17<=t->t<=24->u8 t=u7 t:=λt h1 h2=>f8 t (bV (by kernel_rfl) t h1 h2);have hu8:=hu7.gr g8 (u':=u8) m8;show dr _ _ _ _ _
 obtain⟨lA7,lk7,aQ,gl7⟩:=aL;obtain⟨kA7,kq7,aR,gk7⟩:=aN;rw[vm];refine dS (xT hu8 λW9 u9 g9 f9 v29 v30=>?_);have m9:∀t,17<=t->t<=24->u9 t=u8 t:=λt h1 h2=>f9 t (bV (by kernel_rfl) t h1 h2);have hu9:=hu8.gr g9 (u':=u9) m9;show dr _ _ _ _ _;rw[tt];refine dS (xU hu9 λW10 u10 g10 f10 v31 v32=>?_);have m10:∀t,17<=t->t<=24->u10 t=u9 t:=λt h1 h2=>f10 t (bV (by kernel_rfl) t h1 h2);have aS:=hu9.gr g10 (u':=u10) m10
 show dr _ _ _ _ _;obtain⟨aA,ak,aV,ga⟩:=v29;obtain⟨bA,bk,aW,gb⟩:=v31;have q9:∀t,FN (ao 22) t=bb->FN (ao 21) t=bb->u10 t=u8 t:=λt a b=>(f10 t a).trans (f9 t b);have q8:∀t,FN (ao 22) t=bb->FN (ao 21) t=bb->FN (ao 20) t=bb->u10 t=u7 t:=λt a b c=>(q9 t a b).trans (f8 t c);rw[tu];refine dS (xV aS (uX hu.small) (lV hu.small).1 (lV hu.small).2 ((q8 25 (by kernel_rfl) (by kernel_rfl) (by kernel_rfl)).trans aQ) (gl7.Mx (g8.trans (g9.trans g10))) ((q8 26 (by kernel_rfl) (by kernel_rfl) (by kernel_rfl)).trans aM) ((q9 27 (by kernel_rfl) (by kernel_rfl)).trans aR) (gk7.Mx (g9.trans g10)) ((q9 28 (by kernel_rfl) (by kernel_rfl)).trans aP) ((f10 29 (by kernel_rfl)).trans aV) (ga.on g10) ((f10 30 (by kernel_rfl)).trans v30) aW gb v32 λW11 u11 g11 f11 aT=>?_)
 have m11:∀t,17<=t->t<=24->u11 t=u10 t:=λt h1 h2=>f11 t (bV (by kernel_rfl) t h1 h2);show dr _ _ _ _ _;refine ez ((db (by decide)).trans aT) (js ?_);exact hK W11 u11 (g1.trans (g2.trans (g3.trans (g4.trans (g5.trans (g6.trans (g7.trans (g8.trans (g9.trans (g10.trans g11)))))))))) λt a b=>(m11 t a b).trans ((m10 t a b).trans ((m9 t a b).trans ((m8 t a b).trans ((m7 t a b).trans ((m6 t a b).trans ((m5 t a b).trans ((m4 t a b).trans ((m3 t a b).trans ((m2 t a b).trans (m1 t a b))))))))))
def vp {cb co rb ro qb pb cc rc qc pc:Nat}{F:Nat->Hl}{W:U}{u:Nat->bq}{Q:gB->Act->U->Prop}(a7:u 17=.slice (bc ⟨cb,co,Y⟩) 4 cc)(aA:u 18=.slice (bc ⟨rb,ro,Y⟩) 4 rc)(aB:u 19=.slice (bc ⟨qb,0,Y⟩) 4 qc)(aC:u 20=.slice (bc ⟨pb,0,Y⟩) 4 pc)(hx:∀k,k<4->MC W cb co rb ro qb pb k (F k))(hK:∀W' u',Gr W W'->Q .L ⟨T 277 u',[]⟩ W'):(tn 6).wp D7 Q ⟨T 277 u,[]⟩ W:=by
 obtain⟨e1,e2⟩:=Oh;rw[e1];refine dS (yY λW1 u1 g1 f1 a6=>?_);show dr _ _ _ _ _;refine wp_block (wp_loop (λa w=>∃u k,a=⟨T 277 u,[]⟩/\Gr W w/\u 17=.slice (bc ⟨cb,co,Y⟩) 4 cc/\u 18=.slice (bc ⟨rb,ro,Y⟩) 4 rc/\u 19=.slice (bc ⟨qb,0,Y⟩) 4 qc/\u 20=.slice (bc ⟨pb,0,Y⟩) 4 pc/\u 21=bh br (k:Nat)/\k<=4) (λa _=>4-(ed (a.tmps.LH 21 undef)).L) ⟨u1,0,rfl,g1,(f1.at_ 17).trans a7,(f1.at_ 18).trans aA,(f1.at_ 19).trans aB,(f1.at_ 20).trans aC,a6,by omega⟩ ?_)
 rintro a w ⟨u,k,rfl,hg,a7,aA,aB,aC,a6,hk⟩;have em:∀u:Nat->bq,(T 277 u).LH 21 undef=u 21:=λu=>by rw[B7,gQ (by decide)];rfl
 rw[e2];refine dS (dS (yZ a7 a6 λW2 u2 g2 f2 a8=>?_));show dr _ _ _ _ _;by_cases zY:k<4
 .have hd:decide ((k:Int)<4)=true:=by simp;omega
  rw[hd] at a8;refine wp_cond_true ((db (by decide)).trans a8) (js ?_);show dr _ _ _ _ _;refine dS (wp_block ?_);rw[uY];have i17:=(f2.at_ 17).trans a7;have i18:=(f2.at_ 18).trans aA;have i19:=(f2.at_ 19).trans aB;have i20:=(f2.at_ 20).trans aC;have i21:=(f2.at_ 21).trans a6;refine dS (xY (k:=k) (x:=F k) i17 i18 i19 i21 zY ((hx k zY).gr (hg.trans g2)) λW3 u3 g3 f3 hm=>?_);obtain⟨ob,mc,sc,nc,hc,mA,nA,hA,sA,o22,o23,o24,osc,ol,o0,o1,on_,oh,om,os⟩:=hm
  have aD:=hg.trans (g2.trans g3);have c17:=(f3 17 (by omega) (by omega)).trans i17;have c18:=(f3 18 (by omega) (by omega)).trans i18;have c19:=(f3 19 (by omega) (by omega)).trans i19;have c20:=(f3 20 (by omega) (by omega)).trans i20;have c21:=(f3 21 (by omega) (by omega)).trans i21;have hy:=(hx k zY).gr aD;have hm:Hu W3 cb co rb ro qb pb ob k cc rc qc pc mc sc nc hc mA nA hA sA (F k) u3:=⟨c17,c18,c19,c20,c21,zY,o22,o23,o24,osc,hy.FQ,hy.q0,hy.p0,hy.ql,hy.rr,hy.small,ol,o0,o1,on_,oh,om,os⟩
  show dr _ _ _ _ _;refine xZ hm λW4 u4 g4 m=>?_;show dr _ _ _ _ _;refine za (k:=k) ((m 21 (by omega) (by omega)).trans c21) zY λW5 u5 g5 f5 j21=>?_;refine⟨⟨u5,k+1,rfl,aD.trans (g4.trans g5),(f5.at_ 17).trans ((m 17 (by omega) (by omega)).trans c17),(f5.at_ 18).trans ((m 18 (by omega) (by omega)).trans c18),(f5.at_ 19).trans ((m 19 (by omega) (by omega)).trans c19),(f5.at_ 20).trans ((m 20 (by omega) (by omega)).trans c20),j21,by omega⟩,?_⟩
  show 4-(ed ((T 277 u5).LH 21 undef)).L<4-(ed ((T 277 u).LH 21 undef)).L;rw[em,em,j21,a6];simp[ed];omega
 .have hd:decide ((k:Int)<4)=false:=by simp;omega
  rw[hd] at a8;refine ez ((db (by decide)).trans a8) (wp_exit ?_);exact(show(if(0:Nat)=0 then Q .L ⟨T 277 u2,[]⟩ W2 else Q (.exit 0) ⟨T 277 u2,[]⟩ W2) from by rw[AP rfl];exact hK W2 u2 (hg.trans g2))
variable {R:U->U->Prop} {ops:Array Oper} {Q:gB->Act->U->Prop} {n m:Nat} {u:Nat->bq} {ds:List j0} {w w':U}
instance {T:Nat->Prop}:Goes (KT T):={ refl:=KT.refl T,trans:=KT.trans,drew:=λw=>KT.E3 (Gr.refl w).drew }
def Js (lo:Nat)(v0 v1:bq)(v:bq)(w:U):Prop:=∃b,v=.S (bc ⟨b,0,Y⟩)/\(lo<=b/\b<w.L.size)/\w.S ⟨b,0,Y⟩=bc v0/\w.S ⟨b,1,Y⟩=bc v1
def fe (lo:Nat)(v0 v1:bq):Ga Gr (Js lo v0 v1):=λv w w' hg ⟨b,e,h1,h2,h3⟩=>⟨b,e,⟨h1.1,AO h1.2 hg.size⟩,(hg.cell (p:=⟨b,0,Y⟩) h1.2).trans h2,(hg.cell (p:=⟨b,1,Y⟩) h1.2).trans h3⟩
def tv {w:U}{lo:Nat}(Fa:lo<=w.L.size)(v0 v1:bq):Js lo v0 v1 (.S (bc ⟨w.L.size,0,Y⟩)) (w.LK (cw #[v0,v1] 25)) :=
 ⟨_,rfl,⟨Fa,by simp⟩,by rw[AM _ _ _ _ rfl];rfl,by rw[AM _ _ _ _ rfl];rfl⟩
def Pf (lo:Nat)(A:Option ek)(cap:Nat)(l:List Int)(v:bq)(w:U):Prop:=∃hb B,v=.S (bc ⟨hb,0,Y⟩)/\lo<=hb/\Hand w hb B A cap l 0
def Oi (lo:Nat)(A:Option ek)(cap:Nat)(l:List Int):Ga Gr (Pf lo A cap l):=λv w w' hg ⟨hb,B,e,h1,h2⟩=>⟨hb,B,e,h1,h2.gr hg⟩
def Qx (lo n m:Nat)(ls:List (List Int))(v:bq)(w:U):Prop:=(∃xs,EH w lo v ls xs)/\ls.L=n/\∀x∈ls,∃p,x=EF p m
def vr {hb lo n m:Nat}(h:hb<lo){ls:List (List Int)}{v:bq}{w w':U}(hg:KT (·=hb) w w')(hr:Qx lo n m ls v w):Qx lo n m ls v w':=by
 obtain⟨⟨xs,h1⟩,h2⟩:=hr;exact⟨⟨xs,h1.keep' λb h3 h4=>hg.LE b h4 (by omega)⟩,h2⟩
def Pg (lo n m:Nat)(v:bq)(w:U):Prop:=∃ls,Qx lo n m ls v w
def Ph {hb lo n m:Nat}(h:hb<lo):Ga (KT (·=hb)) (Pg lo n m):=λ_ _ _ hg ⟨ls,hr⟩=>⟨ls,vr h hg hr⟩
def As (a:Array bq):a=T a.size λi=>a[i]?.LH undef:=by
 refine Array.ext JR.LH λi h1 h2=>?_;have e:(T a.size λi=>a[i]?.LH undef)[i]?=bc (a[i]?.LH undef):=gQ h1;rw[AV h2,AV h1] at e;injection e with e
 exact e.LH
def zb {a:Array bq}{n:Nat}(h:a.size=n):a=T n λi=>a[i]?.LH undef:=h▸As a
def kC {P:jx}{id:Nat}{ops:Array Oper}{more:List Item}{N:Act->U->Prop}{a:Act}{w:U}(h:j1 ops.size=[0,1])(hn:N a w):aY P [.inRegion ops [0,1],.code .ret] (.seq (.L id ops bw) .ret) N a w :=
 fV (tgt:=[.inRegion ops [0,1]]) (gn (l:=[]) (by intro j hj;simp at hj) (by rw[h];rfl) hn)
def tx (nn mm:Nat)(bY:1<=nn)(hnn:nn<=5)(hm0:1<=mm)(hmm:mm<=4)(hb B:Nat)(A:Option ek)(cap:Nat)(l:List Int)(N:Nat)(w:U)(h:Hand w hb B A cap l N)(hN:N<=10000) :
  Calls D7 8 #[.S (bc ⟨hb,0,Y⟩),bh br nn,bh br mm] w λe w'=>∃c nA hA nc hc,e=.L (En nA hA c nc hc)/\c.Ok/\Ex c=0/\(c.D9.L<=nn/\c.D8.L<=mm)/\Ie w' (λb=>w.L.size<=b/\b<w'.L.size) nA c.D9/\GK w' (λb=>w.L.size<=b/\b<w'.L.size) hA c.D8/\Hand w' hb B A cap l (N+1000)/\KH hb w w':=by
 obtain⟨W0,zM⟩:∃W0:U,W0=(w.LK (cw #[.slice Y 0 0,.slice Y 0 0] 25)).LK (cw #[.slice Y 0 0,.slice Y 0 0] 25):=⟨_,rfl⟩;have zL:Gr w W0:=zM▸((Gr.refl w).LK _).LK _;have bZ:Hid (W0.L.size=w.L.size+2):=AI (by rw[zM];simp);have HH:=AI (h.gr zL);have zY:=h.lt;have HW:=AI zM;have c5:=AI zL;have HAM:=AI (fi hb B A cap l N 1 nn W0 (h.gr zL) (by omega) (by omega) (by omega))
 have bI:Hid (CO w hb B A cap l N (w.L.size+2) (.slice Y 0 0) [] W0):=AI ⟨h.gr zL,by rw[zM];exact aS _ _ (by simp),by rw[zM,aa _ _ (by simp)];exact heap_alloc_new _ _,Bs _ _ _ _,⟨zL.Li.os,zL.Li.tape,zL.Li.output,zL.drawn,zL.size,λb hb' _=>zL.Li.LE b hb'⟩,zY,by rw[zM];simp⟩;clear zM zL h;go_enter Sq.func8,Tryz.ntmps8;go_wp2_with fail;rw[<-HW.out];refine HAM.out.LT ?_;rintro e w1 ⟨⟨n,rfl,cA,cB⟩,hh,a6⟩
 have bJ:=AI (bI.out.J3 hh a6);clear hh a6 HAM;go_wp2;go_loopw [9] (λi wr=>∃k:Nat,k<=n/\i=bh br k/\∃v ns,CO w hb B A cap l (N+1+4*k) (w.L.size+2) v ns wr/\ns.L=k/\∀x∈ns,0<=x/\x<=12) (λi _=>n-(ed i).L)
 case atStart=>exact⟨0,by omega,rfl,_,[],bJ.out,rfl,λx hx=>by simp at hx⟩
 case round =>
  obtain⟨k,hk,rfl,v,ns,a7,aM,hns⟩:=hrel;have HNS:=AI hns;clear hns;by_cases hlk:k<n
  .obtain⟨c0,f0,l0⟩:=a7.drew.cell;obtain⟨c9,f9,l9⟩:=a7.cell;replace a7:=AI a7.drew;go_wp2;clear c9 f9 l9
   go_region_law (first
    |(refine qD (by rfl) _ _ (by rfl) (by rfl) (w.L.size+2) _ _ _ (by rfl) a7.out.LH (bh br z) rfl (by rfl) (by omega) a7.out.bs.2 ?_;intro v' w6 aI aB bA;clear c0 f0 l0;have aN:=(F7 a7.out.LH aB (w.L.size+1) (by omega) (AJ.1 a7.out.Hj).1).trans a7.out.Hj;have c6:=(Eh aN 0).1;have f6:=(Eh aN 0).2;have aF:w6.H (w.L.size+2) 3 1 v' (ns++[z]).L ((ns++[z]).map (bh br)):=(by simpa using aI);obtain⟨A6,k6,hv6,_⟩:=Dx aF;subst hv6)
    |(refine lM (by rfl) ?_;go_simp;first
     |(go_at_call 12;refine(eO hb B A cap l _ _ _ a7.out.hand (by omega) (by omega)).LT ?_;rintro e w' ⟨⟨q,rfl,hq⟩,hh,a6⟩;replace a7:=AI (a7.out.J3 hh a6);clear c0 f0 l0 hh a6;obtain⟨c0,f0,l0⟩:=a7.out.cell;dsimp only)
     |(go_at_call 34;refine(jv hb B A _ cap 2 l [_,_] _ _ _ (a7.out.LK _).hand (by omega) (by simp) (AB (a7.out.room _))).LT ?_;rintro e w' ⟨⟨z,rfl,hz⟩,hh,a6⟩;have bK:0<=z/\z<=12:=(by simp only[AT,AQ,or_false] at hz;omega);replace a7:=AI ((a7.out.LK _).J3 hh a6);clear c0 f0 l0 hh a6;have HZ:=AI bK;obtain⟨c0,f0,l0⟩:=a7.out.cell;dsimp only)))
   all_goals
    have aO:=AI ((a7.out.LE aF aB bA).more (M':=N+1+4*(k+1)) (by omega));have aP:(ns++[z]).L=k+1:=by simp[aM]
    rw[aP] at aO;have bL:Hid (∀x∈ns++[z],0<=x/\x<=12):=AI λx hx=>by
     obtain hx|hx:=BH.1 hx
     .exact HNS.out x hx
     .simp only[AT,AQ,or_false] at hx;subst hx;exact HZ.out
    clear aF aB bA aI a7 c6 f6 aN;go_wp2;go_roundw
    case rel=>exact⟨k+1,by omega,by go_num,_,_,aO.out,aP,bL.out⟩
    case measure=>simp[Proofs.intOf];omega
  .have bS:k=n:=by omega
   subst bS;have aQ:=AI (a7.cp.more (M':=N+30) (by omega));have aR:=AI (fi hb B A cap l (N+30) 1 mm wr aQ.out.hand (by omega) (by omega) (by omega));clear a7;go_wp2_with fail;refine aR.out.LT ?_;rintro e w2 ⟨⟨m,rfl,cC,hm4⟩,hh,a6⟩;have bM:=AI (aQ.out.J3 hh a6);clear hh a6 aR aQ;go_wp2;go_loopw [10] (λi wr=>∃j:Nat,j<=m/\i=bh br j/\∃u hs xs,CP w hb B A cap l (N+31+20*(m-j)) (w.L.size+2) v ns u hs xs wr/\hs.L=m-j/\∀h∈hs,FZ ns.L h=0) (λi _=>(ed i).L)
   case atStart=>exact⟨m,by omega,rfl,_,[],[],bM.out.more (by omega),by simp,λh hh=>by simp at hh⟩
   case round =>
    obtain⟨wq,rfl⟩:∃wq,wq=wr:=⟨_,rfl⟩;obtain⟨j,hj,rfl,u,hs,xs,bB,hhl,bC⟩:=hrel;have HP:=AI bB;have bD:=AI bC;clear bB bC;by_cases cD:0<j
    .have HA1:=AI (fi hb B A cap l _ 1 6 wq HP.out.hand (by omega) (by omega) (by omega));go_wp2_with fail;refine HA1.out.LT ?_;rintro e v1 ⟨⟨a1,rfl,ha1,hb1⟩,hh,a6⟩;have bE:=AI (HP.out.J3 hh a6);have HA2:=AI (fi hb B A cap l _ 1 40 v1 hh (by omega) (by omega) (by omega));clear hh a6 HA1;go_wp2_with fail;refine HA2.out.LT ?_;rintro e v2 ⟨⟨a2,rfl,ha2,zp⟩,hh,a6⟩;have aT:=AI (bE.out.J3 hh a6)
     have hhl2:=hh.lt;have HA3:=AI (jv hb B A (bc ⟨v2.L.size,0,Y⟩) cap 1 l [(a2:Int)] _ a1 (v2.LK (cw #[bh br a2] 3)) (aT.out.LK _).hand (by omega) (by simp) (yU (by simp;omega)));clear hh a6 HA2;go_wp2_with fail;refine HA3.out.LT ?_;rintro e v3 ⟨⟨a3,rfl,ha3⟩,hh,a6⟩;have h340:1<=a3/\a3<=40:=by simp only[AT,AQ,or_false] at ha3;omega
     have HP3:=AI ((aT.out.LK _).J3 hh a6);have HA4:=AI (fi hb B A cap l _ 1 5 v3 hh (by omega) (by omega) (by omega));clear hh a6 HA3;go_wp2_with fail;refine HA4.out.LT ?_;rintro e v4 ⟨⟨a4,rfl,cE,hb4⟩,hh,a6⟩;have HP4:=AI (HP3.out.J3 hh a6);have HA5:=AI (fi hb B A cap l _ 0 3 v4 hh (by omega) (by omega) (by omega));clear hh a6 HA4;go_wp2_with fail;refine HA5.out.LT ?_;rintro e v5 ⟨⟨a5,rfl,ha5,hb5⟩,hh,a6⟩
     have aU:=AI ((HP4.out.J3 hh a6).more (M':=N+31+20*(m-j)+5) (by omega));have bN:=hh.lt;clear hh a6 HA5 HP bE aT HP3 HP4;obtain⟨vX,aD⟩:∃vX:U,vX=v5.LK (cw #[bh br a3,bh br a4,bh br a5,.slice Y 0 0] 57):=⟨_,rfl⟩;have HX0:Hid (vX.L[v5.L.size]?=bc (cw #[bh br a3,bh br a4,bh br a5,.slice Y 0 0] 57 (0,0))):=AI (by rw[aD];exact heap_alloc_new _ _)
     have bT:=AI (aD▸aU.out.LK (cw #[bh br a3,bh br a4,bh br a5,.slice Y 0 0] 57));have HZX:Hid (vX.L.size=v5.L.size+1):=AI (by rw[aD];simp);have bU:Hid (KT (·=hb) v5 vX):=AI (aD▸KT.E3 ((Gr.refl v5).LK _));have HVX:=AI aD;clear aD;go_wp2;rw[<-HVX.out];go_loopw [12] (λi wr=>∃t:Nat,t<=k/\i=bh br t/\∃y p,KT (·=hb) v5 wr/\Hand wr hb B A cap l (N+31+20*(m-j)+5+t)/\wr.L[v5.L.size]?=bc (cw #[bh br a3,bh br a4,bh br a5,y] 57 (0,0))/\wr.H (v5.L.size+1) 3 1 y (EF p t).L ((EF p t).map (bh br))) (λi _=>k-(ed i).L)
     case atStart=>exact⟨0,by omega,rfl,_,λ_=>false,bU.out,bT.out.hand,HX0.out,Bs _ _ _ _⟩
     case round =>
      obtain⟨t,ht,rfl,y,p,a6,hh,aA,zl⟩:=hrel;have HK:=AI a6;have HO:=AI zl;have HXO:=AI aA;have hzw:=a6.size;have hXl:=(AJ.1 aA).1;by_cases cF:t<k
      .have HOD:=AI (sI hb B A cap l _ 1 6 wr hh (by omega) (by omega));clear hh a6 zl aA;go_wp2_with fail;refine HOD.out.LT ?_;rintro e w8 ⟨⟨bo,rfl⟩,hh,a6⟩;have bO:v5.L.size≠hb:=by omega
       have aV:=AI (HK.out.trans a6);have a8:=fE HO.out (show hb<v5.L.size+1 by omega) a6;have aH:=(a6.LE _ hXl bO).trans HXO.out;have bF:=AI aH;have c8:=(Eh aH 3).1;have f8:=(Eh aH 3).2;have bP:=(AJ.1 aH).1;have HH8:=AI hh;have aJ:=AI a8;obtain⟨p2,aW⟩:∃p2:Nat->Bool,p2=λq=>if q=t then bo else p q:=⟨_,rfl⟩
       have HP:=AI (i9 p2 t);have aX:Hid (p2 t=bo):=AI (by rw[aW];simp);have aY:=AI (iG (p:=p2) (q:=p) (k:=t) λi hi=>by rw[aW];exact AN (by omega));clear aW;have cG:=dR p t;have hz8:=aV.out.size;have hZX:=HZX.out;clear a6 hh HOD aH;obtain⟨yA,yc,aZ,_⟩:=Dx a8;subst aZ;cases bo with
       |true =>
        clear hZX;go_wp2_with (at_builtin;refine fP rfl _ _ rfl (v5.L.size+1) _ _ _ rfl (a8.LK _) ⟨w8.L.size,0,Y⟩ 1 (bh br t) rfl ?c1 rfl ?c2 ?c3 ?_)
        case c1=>first|(rw[Addr.add_lit,AM _ _ _ _ (by simp)];rfl)|(rw[AM _ _ _ _ (by simp)];rfl)
        case c2=>omega
        case c3=>simp;omega
        intro v' w9 hown' hgrow hd;have aG:w9.H (v5.L.size+1) 3 1 v' (EF p2 (t+1)).L ((EF p2 (t+1)).map (bh br)):=by
         rw[HP.out,aY.out,AP aX.out];simpa using hown'
        obtain⟨A9,c9,hv9,_⟩:=Dx aG;subst hv9;have aK:=(F7 aJ.out hgrow v5.L.size (by omega) bP).trans bF.out;have d9:=(Eh aK 3).1;have g9:=(Eh aK 3).2;have aP:(EF p t).L+1=(EF p2 (t+1)).L:=by rw[HP.out,aY.out,AP aX.out];simp
        have bV:=AI ((ee aV.out aJ.out (by omega) hgrow hd).Lo (p:=⟨v5.L.size,3,Y⟩) (AK _) (Z A9 (EF p2 (t+1)).L c9));have HH9:=AI (((cY HH8.out aJ.out (by omega) hgrow).Lo (p:=⟨v5.L.size,3,Y⟩) bN (Z A9 (EF p2 (t+1)).L c9)).more (M:=N+31+20*(m-j)+5+(t+1)) (by omega));have HX9:=AI (aL (i:=3) (u:=Z A9 (EF p2 (t+1)).L c9) aK)
        have b5:=AI (ownsRow_setCell_below aG (show(⟨v5.L.size,3,Y⟩:ek).LE<v5.L.size+1 from De _) (Z A9 (EF p2 (t+1)).L c9));clear hown' hgrow hd aG a8 aK;go_wp2;go_roundw
        case rel=>exact⟨t+1,by omega,by go_num,_,_,bV.out,HH9.out,HX9.out,b5.out⟩
        case measure=>simp[Proofs.intOf];omega
       |false =>
        have b5:Hid (w8.H (v5.L.size+1) 3 1 (Z yA (EF p t).L yc) (EF p2 (t+1)).L ((EF p2 (t+1)).map (bh br))):=AI (by
         rw[HP.out,aY.out,AN (by rw[aX.out];simp)];simpa using aJ.out)
        clear a8;go_wp2;go_roundw
        case rel=>exact⟨t+1,by omega,by go_num,_,_,aV.out,HH8.out,bF.out,b5.out⟩
        case measure=>simp[Proofs.intOf];omega
      .have bQ:t=k:=by omega
       subst bQ;have HH9:=AI hh;obtain⟨yA,yc,aZ,_⟩:=Dx zl;subst aZ;have aC:=AI (aU.out.J3 hh a6);obtain⟨cu,fu,lu⟩:=aC.out.cell;have x0:=(Eh aA 0).1;have x1:=(Eh aA 1).1;have x2:=(Eh aA 2).1;have x3:=(Eh aA 3).1;have b6:=aC.out.Gj;have HOE:=AI (FD zl (show w.L.size+2<=v5.L.size+1 by have:=aU.out.bs;omega));clear hh a6 zl aA
       go_wp2_with (at_builtin;refine Am rfl _ _ rfl (w.L.size+2) _ _ _ rfl (b6.LK _) ⟨wr.L.size,0,Y⟩ 1 [bh br a3,bh br a4,bh br a5,Z yA (EF p t).L yc] rfl rfl ?c1 ?c2 ?c3 ?c4 ?_)
       case c1 =>
        intro q z hq;rw[Addr.add_lit,Bd,AM _ _ _ _ (by simp)]
        match q,hq with
        |0,hq=>exact hq
        |1,hq=>exact hq
        |2,hq=>exact hq
        |3,hq=>exact hq
        |q+4,hq=>simp at hq
       case c2=>intro z hz;simp at hz;rcases hz with rfl|rfl|rfl|rfl<;>rfl
       case c3=>omega
       case c4=>have:=aC.out.bs.2;simp;omega
       intro u' w9 hown' hgrow hd;obtain⟨gU,cU,rfl,_,_⟩:=hown'.form (by omega);have HPN:=AI (aC.out.LE (x:=⟨a3,a4,a5,EF p t⟩) HOE.out (by rw[hhl];exact hown') hgrow hd);have b7:=(F7 aC.out.Gj hgrow (w.L.size+1) (by omega) (AJ.1 aC.out.Hj).1).trans aC.out.Hj;have cq:=(Eh b7 1).1;have fq:=(Eh b7 1).2;have HHN:Hid (∀h∈hs++[(⟨a3,a4,a5,EF p t⟩:EZ)],FZ ns.L h=0):=AI λh hh=>by
        obtain hh|hh:=BH.1 hh
        .exact bD.out h hh
        .simp only[AT,AQ,or_false] at hh;subst hh;unfold FZ;rw[AP (by simp[FM];omega),aM];exact sK p t
       clear hown' hgrow hd b6 b7;go_wp2;go_roundw
       case rel=>exact⟨j-1,by omega,by go_num,_,_,_,HPN.out.more (by omega),by simp[hhl];omega,HHN.out⟩
       case measure=>simp[Proofs.intOf];omega
    .have bR:j=0:=by omega
     subst bR;obtain⟨nA,nc,hA,hc,rfl,rfl,b8,b9⟩:=HP.out.Gs;have cH:=AI b8;have cI:=AI b9;have q0:=(Eh HP.out.Hj 0).1;have q1:=(Eh HP.out.Hj 1).1;have r0:=(Eh HP.out.I5 0).1;have r1:=(Eh HP.out.I5 1).1;have g0:=(Eh HP.out.I5 0).2;have g1:=(Eh HP.out.I5 1).2
     have bH:Hid (Ex ⟨ns,hs⟩=0):=AI (by
      unfold Ex;have e1:EM (ns.L:Int) 1 5=0:=dP.2 (by omega);have e2:EM (hs.L:Int) 1 4=0:=dP.2 (by omega);rw[AN (by simp[e1]),AN,AN (by simp[e2])]
      .exact bG.2 fun x hx => by
        obtain⟨h,hh,rfl⟩:=Bu.1 hx;exact bD.out h hh
      .have : (ns.all fun x => FM x 0 12) = true := BO.2 fun x hx => by
        have:=HNS.out x hx;simp[FM];omega
       rw[this];simp)
     have hhm:hs.L=m:=by omega
     have bW:Hid (KT (·=hb) w ((wq.LH ⟨w.L.size,0,Y⟩ (Z nA k nc)).LH ⟨w.L.size,1,Y⟩ (Z hA m hc))):=AI ((HP.out.kt.Lo (p:=⟨w.L.size,0,Y⟩) (AK _) _).Lo (p:=⟨w.L.size,1,Y⟩) (AK _) _);have HHF:Hid (Hand ((wq.LH ⟨w.L.size,0,Y⟩ (Z nA k nc)).LH ⟨w.L.size,1,Y⟩ (Z hA m hc)) hb B A cap l (N+1000)):=AI (((HP.out.hand.Lo (p:=⟨w.L.size,0,Y⟩) zY _).Lo (p:=⟨w.L.size,1,Y⟩) zY _).more (by omega))
     have bX:Hid (Ie ((wq.LH ⟨w.L.size,0,Y⟩ (Z nA k nc)).LH ⟨w.L.size,1,Y⟩ (Z hA m hc)) (λb=>w.L.size<=b/\b<((wq.LH ⟨w.L.size,0,Y⟩ (Z nA k nc)).LH ⟨w.L.size,1,Y⟩ (Z hA m hc)).L.size) nA ns):=AI (eh b8 (λb hb'=>⟨by omega,by have:=hb'.2;simpa [j3] using this⟩) λb o hb'=>(A7 (Bb _ _ _ _ (by show b≠w.L.size;omega))).trans (A7 (Bb _ _ _ _ (by show b≠w.L.size;omega))))
     have HRG:Hid (GK ((wq.LH ⟨w.L.size,0,Y⟩ (Z nA k nc)).LH ⟨w.L.size,1,Y⟩ (Z hA m hc)) (λb=>w.L.size<=b/\b<((wq.LH ⟨w.L.size,0,Y⟩ (Z nA k nc)).LH ⟨w.L.size,1,Y⟩ (Z hA m hc)).L.size) hA hs):=AI (gO b9 (λb hb'=>⟨by omega,by have:=hb'.2;simpa [j3] using this⟩) λb o hb'=>(A7 (Bb _ _ _ _ (by show b≠w.L.size;omega))).trans (A7 (Bb _ _ _ _ (by show b≠w.L.size;omega))))
     clear b8 b9;go_wp2;have s1:=Ba (wq.LH ⟨w.L.size,0,Y⟩ (Z nA k nc)) ⟨w.L.size,1,Y⟩ (Z hA m hc) ((AW wq ⟨w.L.size,0,Y⟩ ⟨w.L.size,1,Y⟩ (Z nA k nc) (by simp)).trans r1);have s0:=(AW (wq.LH ⟨w.L.size,0,Y⟩ (Z nA k nc)) ⟨w.L.size,1,Y⟩ ⟨w.L.size,0,Y⟩ (Z hA m hc) (by simp)).trans (Ba wq ⟨w.L.size,0,Y⟩ (Z nA k nc) r0)
     refine bodyPost_ret (v:=.agg #[Z nA k nc,Z hA m hc]) (by simp[results,Tryz.results8,go_sem,s0,s1]) rfl ⟨⟨ns,hs⟩,nA,hA,nc,hc,by rw[<-aM,<-hhm];rfl,Ek.Ok.of bH.out,bH.out,⟨by show ns.L<=nn;omega,by show hs.L<=mm;omega⟩,bX.out,HRG.out,HHF.out,bW.out⟩
def HK (hb B:Nat)(A:Option ek)(cap:Nat)(l:List Int)(M:Nat)(w w':U):Prop:=KT (·=hb) w w'/\(Hand w hb B A cap l M->Hand w' hb B A cap l M)
def HK.E3 {hb B cap M:Nat}{A:Option ek}{l:List Int}{w w':U}(h:Gr w w'):HK hb B A cap l M w w':=⟨KT.E3 h,λk=>k.gr h⟩
instance {hb B cap M:Nat} {A:Option ek} {l:List Int}:Goes (HK hb B A cap l M):={ refl:=λw=>.E3 (.refl w),trans:=λa b=>⟨a.1.trans b.1,λh=>b.2 (a.2 h)⟩,drew:=λw=>.E3 (Gr.refl w).drew }
def NG {hb B cap M:Nat}{A:Option ek}{l:List Int}{V:bq->U->Prop}(h:Ga (KT (·=hb)) V):Ga (HK hb B A cap l M) V:=λv w w' hg=>h v w w' hg.1
def RA (v:bq)(_:U):Prop:=∃z:Int,v=bh br z
def vv {R:U->U->Prop}:Ga R RA:=λ_ _ _ _ h=>h
def qU {w:U}{lo:Nat}(Fa:lo<=w.L.size)(t:hZ)(v0 v1:bq):Js lo v0 v1 (.S (bc ⟨w.L.size,0,Y⟩)) (w.LK (cw #[v0,v1] t)):=by
 have h:(w.LK (cw #[v0,v1] t)).L[w.L.size]?=bc (cw #[v0,v1] t (0,0)):=df _ _;exact⟨_,rfl,⟨Fa,by simp⟩,(Eh h 0).1,(Eh h 1).1⟩
def Pj (lo n:Nat)(v:bq)(w:U):Prop:=∃rs:List (Int×Int),w.H lo 29 2 v rs.L (Es rs)/\rs.L<=n
def Na {hb lo n:Nat}(h:hb<lo):Ga (KT (·=hb)) (Pj lo n):=λ_ _ _ hg ⟨rs,h1,h2⟩=>⟨rs,ap h1 λg hv hl=>hg.LE g hl (by have:=(h1.lt g hv).1;omega),h2⟩
def tA {nA hA:Option ek}{nc hc:Nat}{c:Ek}{m1 m2:Int}{W:U}{u:Nat->bq}{Q:gB->Act->U->Prop}(h0:u 0=.agg #[Z nA c.D9.L nc,Z hA c.D8.L hc])(h3:u 3=.agg #[bh br m1,bh br m2])
  (hK:∀W' u',Gr W W'->Fr (ao 0) u' u->Js W.L.size (Z nA c.D9.L nc) (Z hA c.D8.L hc) (u' 6) W'->Js W.L.size (bh br m1) (bh br m2) (u' 9) W'->Q .L ⟨T 277 u',[]⟩ W'):(cf 0 (ao 0) bw).wp D7 Q ⟨T 277 u,[]⟩ W:=by
 refine aD (R:=Gr) 3<|Ed (KC (Js W.L.size (Z nA c.D9.L nc) (Z hA c.D8.L hc)) (fe _ _ _) ?_)<|Ed (KC (Js W.L.size (bh br m1) (bh br m2)) (fe _ _ _) ?_)<|Ed Rw<|FJ λu w hg hf hv=>?_
 .intro u w hg hf hl hd;refine aV (op:=.box 25 (.tmp 0)) (t:=0) rfl _ (w.LK (cw #[(Z nA c.D9.L nc),(Z hA c.D8.L hc)] 25)) (λev he=>?_) ((Gr.refl w).LK _) (tv hg.size _ _);have e0:=((he.t 0).trans ((hf.at_ 0).trans h0));clear hg hf hl hd he;go_simp
 .intro u w hg hf hl hd;refine aV (op:=.box 29 (.tmp 3)) (t:=0) rfl _ (w.LK (cw #[bh br m1,bh br m2] 29)) (λev he=>?_) ((Gr.refl w).LK _) (qU hg.size 29 _ _);have e0:=((he.t 3).trans ((hf.at_ 3).trans h3));clear hg hf hl hd he;go_simp
 .exact hK w u hg hf (hv.at_ 0 6) (hv.at_ 1 9)
section
variable {nA hA gA rA:Option ek} {nc hc B lo gc rc:Nat} {c:Ek} {ls:List (List Int)} {rs:List (Int×Int)} {W:U} {u:Nat->bq} {Q:gB->Act->U->Prop} (h3:Js lo (Z nA c.D9.L nc) (Z hA c.D8.L hc) (u 6) W) (hB:B<=W.L.size) (hh:Fe W B hA c.D8) (Gg:c.D9.L<=9223372036854775807) (zC:c.D8.L<=9223372036854775807) (G4:∀h∈c.D8,h.off.L<=9223372036854775807)
include h3 hB hh Gg zC G4
def x9 (hs:GI c=bw)
  (hK:∀W' u',Gr W W'->Fr (ao 1) u' u->u' 45=.bool bb->Q .L ⟨T 277 u',[]⟩ W'):(cf 1 (ao 1) bw).wp D7 Q ⟨T 277 u,[]⟩ W:=by
 have a6:=AI (λV (hV:Gr W V)=>kW nA hA nc hc c V B (AU hB hV.size) (hh.keep λb o hb=>hV.cell (p:=⟨b,o,Y⟩) (AO hb hB)) Gg zC G4);unfold En at a6;rw[hs] at a6;obtain⟨b,q3,hb,c0,c1⟩:=h3;refine aD (R:=Gr) 13<|Ed (I7 (Ic q3) λw hg=>⟨(hg.cell hb.2).trans c0,(hg.cell hb.2).trans c1⟩)<|Ed (K7 Sq.func4 [0] a6.out)<|Ed (Kk (El 1))<|Ed (FE 2)<|Ed LO<|Ed LO<|Ed LO<|Ed (Qr (El 3))<|Ed (FE 7)<|Ed LO<|Ed LO<|Ed LO<|Ed (Qr (El 8))<|FJ λu w hg hf hv=>?_
 .exact hK w u hg hf (hv.at_ 12 45)
def ya (hs:GI c=bb)(h1:u 1=Z gA ls.L gc)(zL:E7 W B gA ls)(zq:ls.L<=9223372036854775807)(Io:∀x∈ls,x.L<=9223372036854775807)(a8:J2 ls=bw)
  (hK:∀W' u',Gr W W'->Fr (ao 1) u' u->u' 45=.bool bb->Q .L ⟨T 277 u',[]⟩ W'):(cf 1 (ao 1) bw).wp D7 Q ⟨T 277 u,[]⟩ W:=by
 have a6:=AI (λV (hV:Gr W V)=>kW nA hA nc hc c V B (AU hB hV.size) (hh.keep λb o hb=>hV.cell (p:=⟨b,o,Y⟩) (AO hb hB)) Gg zC G4);unfold En at a6;rw[hs] at a6;have a7:=AI (λV (hV:Gr W V)=>vF gA gc ls V B (zL.gr hB hV) zq Io);rw[a8] at a7;obtain⟨b,q3,hb,c0,c1⟩:=h3;refine aD (R:=Gr) 13<|Ed (I7 (Ic q3) λw hg=>⟨(hg.cell hb.2).trans c0,(hg.cell hb.2).trans c1⟩)<|Ed (K7 Sq.func4 [0] a6.out)<|Ed (Kk (El 1))<|Ed (FE 2)<|Ed (Em h1)<|Ed (Je Sq.func5 [4] (λv _=>v=.bool bw) (aF _) λw hg=>(a7.out w hg).LT λe w' h=>⟨_,h.1,h.2▸Gr.refl w,rfl⟩)<|Ed (Kk (El 5))<|Ed (K6 (El 3) (El 6))<|Ed (FE 7)<|Ed LO<|Ed LO<|Ed LO<|Ed (Qr (El 8))<|FJ λu w hg hf hv=>?_
 .exact hK w u hg hf (hv.at_ 12 45)
def pE (hs:GI c=bb)(h1:u 1=Z gA ls.L gc)(zL:E7 W B gA ls)(zq:ls.L<=9223372036854775807)(Io:∀x∈ls,x.L<=9223372036854775807)(a8:J2 ls=bb)(h2:u 2=Z rA rs.L rc)(aA:rs.L<=9223372036854775807)
  (hK:∀W' u',Gr W W'->Fr (ao 1) u' u->u' 45=.bool (decide (20<(rs.L:Int)))->Q .L ⟨T 277 u',[]⟩ W'):(cf 1 (ao 1) bw).wp D7 Q ⟨T 277 u,[]⟩ W:=by
 have a6:=AI (λV (hV:Gr W V)=>kW nA hA nc hc c V B (AU hB hV.size) (hh.keep λb o hb=>hV.cell (p:=⟨b,o,Y⟩) (AO hb hB)) Gg zC G4);unfold En at a6;rw[hs] at a6;have a7:=AI (λV (hV:Gr W V)=>vF gA gc ls V B (zL.gr hB hV) zq Io);rw[a8] at a7;obtain⟨b,q3,hb,c0,c1⟩:=h3;refine aD (R:=Gr) 13<|Ed (I7 (Ic q3) λw hg=>⟨(hg.cell hb.2).trans c0,(hg.cell hb.2).trans c1⟩)<|Ed (K7 Sq.func4 [0] a6.out)<|Ed (Kk (El 1))<|Ed (FE 2)<|Ed (Em h1)<|Ed (Je Sq.func5 [4] (λv _=>v=.bool bb) (aF _) λw hg=>(a7.out w hg).LT λe w' h=>⟨_,h.1,h.2▸Gr.refl w,rfl⟩)<|Ed (Kk (El 5))<|Ed (K6 (El 3) (El 6))<|Ed (FE 7)<|Ed (Em h2)<|Ed (Qs (El 9))<|Ed (O7 (.bool (decide (20<(rs.L:Int)))) ?_)<|Ed (K6 (El 8) (El 11))<|FJ λu w hg hf hv=>?_
 .intro u w hg hf hl hd;refine bH (op:=.binOp .gtr 3 (.tmp 43) (.const (bh br 20)) 3) (g:=bc (8,bw)) rfl (λev he=>?_) (bK hd (by kernel_rfl) (by exact rfl));have e1:=(he.t 43).trans (hd.at_ 10 43);have e2:=he.2.1;clear hg hf hl hd he;go_simp
 .exact hK w u hg hf (hv.at_ 12 45)
end
def zc {A:Option ek}{cap:Nat}{l:List Int}{B:Nat}{W:U}{u:Nat->bq}{Q:gB->Act->U->Prop}(h5:u 5=Z A l.L cap)(hr:RI W B A l)(hB:B<=W.L.size)
  (hK:∀W' u',Gr W W'->Fr (ao 3) u' u->Pf W.L.size A cap l (u' 13) W'->Q .L ⟨T 277 u',[]⟩ W'):(cf 3 (ao 3) bw).wp D7 Q ⟨T 277 u,[]⟩ W:=by
 refine aD (R:=Gr) 3<|Ed (Em h5)<|Ed (Je Sq.func7 [0] (Pf W.L.size A cap l) (Oi _ _ _ _) λw hg=>(sJ A cap l w ((hr.gr hB hg).more (AU hB hg.size))).LT λe w' h=>⟨_,h.1,h.2.2,_,_,rfl,hg.size,h.2.1⟩)<|Ed (FE 1)<|FJ λu w hg hf hv=>?_
 .exact hK w u hg hf (hv.at_ 2 13)
def zd {hb B cap:Nat}{A:Option ek}{l:List Int}{W:U}{u:Nat->bq}{Q:gB->Act->U->Prop}(h7:u 13=.S (bc ⟨hb,0,Y⟩))(hh:Hand W hb B A cap l 0)
  (hK:∀W' u' (c:Ek) (nA hA:Option ek) (nc hc:Nat),KT (·=hb) W W'->Hand W' hb B A cap l 1000->(∀t,t≠49->t≠50->t≠14->u' t=u t)->c.Ok->c.D9.L<=5/\c.D8.L<=4->Js W.L.size (Z nA c.D9.L nc) (Z hA c.D8.L hc) (u' 14) W' ->
   Ie W' (λb=>W.L.size<=b/\b<W'.L.size) nA c.D9->GK W' (λb=>W.L.size<=b/\b<W'.L.size) hA c.D8->Q .L ⟨T 277 u',[]⟩ W'):(cf 4 (ao 4) bw).wp D7 Q ⟨T 277 u,[]⟩ W:=by
 refine wp_region ?_;rw[show j1 (ao 4).size=[0,1,2,3] from by kernel_rfl,eo];refine xB (d:=bc 49) rfl ?_;rw[eo];refine xC (d:=bc 50) rfl Sq.func8 #[.S (bc ⟨hb,0,Y⟩),bh br 5,bh br 4] (λev he=>?_) ((tx 5 4 (by omega) (by omega) (by omega) (by omega) hb B A cap l 0 W hh (by omega)).LT ?_)
 .have e1:=(he.t 49).trans ((bi ..).trans h7);simp[e1,he.2.1]
 rintro e w2 ⟨c,nA,hA,nc,hc,rfl,a8,aA,zv,hn,hs,a6,zn⟩;refine⟨_,rfl,?_⟩;rw[eo];refine gt (d:=bc 14) (op:=.LK 25) (t:=0) rfl (.S (bc ⟨w2.L.size,0,Y⟩)) (w2.LK (cw #[.slice Y 0 0,.slice Y 0 0] 25)) (λev he=>?_) ?_
 .clear he hh hn hs a6 zn hK;go_simp
 have zp:(w2.LK (cw #[.slice Y 0 0,.slice Y 0 0] 25)).L[w2.L.size]?=bc (cw #[.slice Y 0 0,.slice Y 0 0] 25 (0,0)):=df _ _;rw[eo];refine dE (d:=Y) (op:=.store 25 (.tmp 14) (.tmp 50)) (t:=0) rfl (((w2.LK (cw #[.slice Y 0 0,.slice Y 0 0] 25)).LH ⟨w2.L.size,0,Y⟩ (Z nA c.D9.L nc)).LH ⟨w2.L.size,1,Y⟩ (Z hA c.D8.L hc)) (λev he=>?_) ?_
 .have e1:=(he.t 14).trans (bi ..);have e2:=(he.t 50).trans ((Fw (by decide)).trans (bi ..));unfold En at e2;go_simp
 have g2:Gr w2 (((w2.LK (cw #[.slice Y 0 0,.slice Y 0 0] 25)).LH ⟨w2.L.size,0,Y⟩ (Z nA c.D9.L nc)).LH ⟨w2.L.size,1,Y⟩ (Z hA c.D8.L hc)):=ta ((Gr.refl w2).LK _) (AK _);have hz:=zn.size;have a7:∀b,W.L.size<=b/\b<w2.L.size->W.L.size<=b/\b<(((w2.LK (cw #[.slice Y 0 0,.slice Y 0 0] 25)).LH ⟨w2.L.size,0,Y⟩ (Z nA c.D9.L nc)).LH ⟨w2.L.size,1,Y⟩ (Z hA c.D8.L hc)).L.size:=λb hb=>⟨hb.1,AO hb.2 g2.size⟩
 obtain⟨o0,o1⟩:=NC (x:=Z nA c.D9.L nc) (y:=Z hA c.D8.L hc) zp;show Q .L _ _;exact hK _ _ c nA hA nc hc (zn.trans (KT.E3 g2)) (a6.gr g2) (λt h1 h2 h3=>(Fw h3).trans ((Fw h2).trans (Fw h1))) a8 zv ⟨w2.L.size,(show K5 (G2 (G2 u (bc 49) (u 13)) (bc 50) (En nA hA c nc hc)) 14 (.S (bc ⟨w2.L.size,0,Y⟩)) 14=_ from bi ..),⟨hz,by rw[gS];simp⟩,o0,o1⟩ (eh hn a7 λb o hb=>g2.cell (p:=⟨b,o,Y⟩) hb.2) (gO hs a7 λb o hb=>g2.cell (p:=⟨b,o,Y⟩) hb.2)
def ze {nA2 zj A:Option ek}{nc2 zr cap hb B b8:Nat}{c2:Ek}{l:List Int}{W:U}{u:Nat->bq}{Q:gB->Act->U->Prop}(h7:u 13=.S (bc ⟨hb,0,Y⟩))(hh:Hand W hb B A cap l 1000)
  (h8:u 14=.S (bc ⟨b8,0,Y⟩)) (a6:b8<W.L.size/\¬b8=hb) (a7:W.S ⟨b8,0,Y⟩=bc (Z nA2 c2.D9.L nc2)) (a8:W.S ⟨b8,1,Y⟩=bc (Z zj c2.D8.L zr)) (aA:c2.D9.L<=5) (hm4:c2.D8.L<=4)
  (hK:∀W' u',KT (·=hb) W W'->Hand W' hb B A cap l 2000->Fr (ao 5) u' u->Pg W.L.size c2.D9.L c2.D8.L (u' 15) W'->Pj W.L.size c2.D9.L (u' 16) W'->Q .L ⟨T 277 u',[]⟩ W'):(cf 5 (ao 5) bb).wp D7 Q ⟨T 277 u,[]⟩ W:=by
 have zY:=hh.lt;have hmul:c2.D9.L*c2.D8.L<=20:=AU (Nat.mul_le_mul aA hm4) (by omega);have H8:∀w,HK hb B A cap l 2000 W w->w.S ⟨b8,0,Y⟩=bc (Z nA2 c2.D9.L nc2)/\w.S ⟨b8,0+1,Y⟩=bc (Z zj c2.D8.L zr):=λw hg=>⟨(hg.1.cell a6.1 a6.2).trans a7,(hg.1.cell a6.1 a6.2).trans a8⟩;refine Sp (R:=HK hb B A cap l 2000) (λk w=>(k=2->Hand w hb B A cap l 1000)/\(k=5->Hand w hb B A cap l 1020)) 8 (λk=>⟨λ_=>hh.gr (Gr.refl W).drew,λ_=>(hh.more (by omega)).gr (Gr.refl W).drew⟩)<|F6 (Em h7)<|F6 (I7 (Ic h8) H8)<|F6 (Qt Sq.func9 [0,1] (Pg W.L.size c2.D9.L c2.D8.L) (NG (Ph zY)) λw hg hj=>(qB hb B A nA2 zj cap nc2 zr l 1000 c2.D9.L c2.D8.L w (hj.1 rfl) (by omega) (by omega) (by omega)).LT ?_)<|F6 (Em h7)<|F6 (I7 (Ic h8) H8)<|F6 (Qt Sq.func10 [3,4] (Pj W.L.size c2.D9.L) (NG (Na zY)) λw hg hj=>(sU hb B A nA2 zj cap nc2 zr l 1020 c2.D9.L c2.D8.L w (hj.2 rfl) (by omega) (by omega)).LT ?_)<|F6 (FE 2)<|F6 (FE 5)<|M6 λu w hg hf hv=>?_
 .have hz:=hg.1.size;rintro e w2 ⟨v,aB,xs,rfl,h1,h2,h3,h5,h4⟩;exact⟨v,rfl,⟨⟨h4,λ_=>h5.more (by omega)⟩,λk h1 _ _=>⟨λe=>AS e h1,λ_=>h5.more (by omega)⟩⟩,aB,⟨xs,lQ h1 (by omega)⟩,h2,h3⟩
 .have hz:=hg.1.size;rintro e w2 ⟨v,rs,rfl,h1,h2,_,_,h5,h4⟩;exact⟨v,rfl,⟨⟨h4,λ_=>h5.more (by omega)⟩,λk h1 h2 _=>⟨λe=>AS (by subst e;exact Dc.1 (by kernel_rfl)) h2,λe=>AS e h1⟩⟩,rs,FD h1 (by omega),h2⟩
 .have er:ik 8 ((ao 5).size-8)=[]:=by kernel_rfl
  rw[er];exact hK w u hg.1 (hg.2 (hh.more (by omega))) hf (hv.at_ 6 15) (hv.at_ 7 16)
def RB (n:Nat)(L M:List bq)(o o':Option Obj):Prop:=∃cur cur',o=bc (.cells cur 29 (0,0))/\o'=bc (.cells cur' 29 (0,0))/\cur'.size=cur.size/\cur.LK.LT (n*2)=L/\cur'.LK.LT ((n+1)*2)=L++M
structure AR (hb lo n:Nat)(L M:List bq)(w w':U):Prop where
 os:w'.os=w.os
 tape:w'.tape=w.tape
 output:w'.output=w.output
 drawn:w.drawn<=w'.drawn
 size:w.L.size<=w'.L.size
 LE:∀b,b<w.L.size->¬b=hb->w'.L[b]?=w.L[b]?\/(lo<=b/\RB n L M w.L[b]? w'.L[b]?)
section
variable {hb lo n:Nat} {L M:List bq} {w w':U}
def AR.P4 (h:KT (·=hb) w w'):AR hb lo n L M w w':=⟨h.os,h.tape,h.output,h.drawn,h.size,λb h1 h2=>.inl (h.LE b h1 h2)⟩
def AR.E3 (h:Gr w w'):AR hb lo n L M w w':=.P4 (KT.E3 h)
def qV {α:Type}{xs L M:List α}{a b:Nat}(h:xs.LT b=L++M)(hL:L.L=a)(hab:a<=b):xs.LT a=L:=by
 have:=Bh (List.take a) h;rw[List.take_take,Nat.min_eq_left hab,<-hL,j2] at this;rw[<-hL];exact this
def AR.trans (hL:L.L=n*2){a b c:U}(h:AR hb lo n L M a b)(k:AR hb lo n L M b c):AR hb lo n L M a c :=
 ⟨k.os.trans h.os,k.tape.trans h.tape,k.output.trans h.output,AU h.drawn k.drawn,AU h.size k.size,λx hx zU=>by
  obtain e|⟨h1,cur,cur',e1,e2,e3,e4,e5⟩:=h.LE x hx zU
  .obtain e'|⟨h2,h3⟩:=k.LE x (AO hx h.size) zU
   .exact .inl (e'.trans e)
   .rw[e] at h3;exact .inr ⟨h2,h3⟩
  .obtain e'|⟨h2,d,d',f1,f2,f3,f4,f5⟩:=k.LE x (AO hx h.size) zU
   .rw[<-e'] at e2;exact .inr ⟨h1,cur,cur',e1,e2,e3,e4,e5⟩
   .rw[e2] at f1;cases f1
    exact .inr ⟨h1,cur,d',e1,f2,f3.trans e3,e4,f5⟩⟩
def Pm (hb lo n:Nat)(L M:List bq)(w w':U):Prop:=L.L=n*2->AR hb lo n L M w w'
instance RN:Goes (Pm hb lo n L M):={ refl:=λw _=>.E3 (.refl w),trans:=λa b h=>(a h).trans h (b h),drew:=λw _=>.E3 (Gr.refl w).drew }
def AR.keep (h:AR hb lo n L M w w'){b:Nat}{cs:Array bq}{t:hZ}{f:Nat×Nat}(hh:lo<=b->b≠hb)(e:w.L[b]?=bc (.cells cs t f))(ht:t≠29)(hb':¬b=hb):w'.L[b]?=bc (.cells cs t f):=by
 obtain h1|⟨_,cur,cur',e1,_⟩:=h.LE b (AJ.1 e).1 hb'
 .exact h1.trans e
 .rw[e] at e1;cases e1;exact AS rfl ht
def AR.old (h:AR hb lo n L M w w'){b:Nat}(zY:b<w.L.size)(Fa:b<lo)(zU:¬b=hb):w'.L[b]?=w.L[b]?:=by
 obtain h1|⟨h2,_⟩:=h.LE b zY zU
 .exact h1
 .omega
def AR.cell (h:AR hb lo n L M w w'){p:ek}(zY:p.LE<w.L.size)(Fa:p.LE<lo)(zU:¬p.LE=hb):w'.S p=w.S p:=A7 (h.old zY Fa zU)
def RowK (k lo:Nat)(xs:Array bq)(e:hZ)(v:bq)(w:U):Prop:=∃b,v=.slice (bc ⟨b,0,Y⟩) k k/\lo<=b/\w.L[b]?=bc (.cells xs e (0,0))
def fS (hL:L.L=n*2)(zY:hb<lo){k:Nat}{xs:Array bq}{e:hZ}(he:e≠29):Ga (Pm hb lo n L M) (RowK k lo xs e):=λ_ _ _ hg ⟨b,h1,h2,h3⟩ =>
 ⟨b,h1,h2,(hg hL).keep (λ_=>by omega) h3 he (by omega)⟩
def tB (hL:L.L=n*2)(zY:hb<lo){a b:bq}:Ga (Pm hb lo n L [a,b]) (RowK 1 lo #[a,b] 29):=λ_ _ _ hg ⟨g,h1,h2,h3⟩=>by
 refine⟨g,h1,h2,?_⟩;obtain h4|⟨_,cur,cur',e1,e2,e3,e4,e5⟩:=(hg hL).LE g (AJ.1 h3).1 (by omega)
 .exact h4.trans h3
 .rw[h3] at e1;cases e1;have l1:=Bh List.length e5;rw[B4,CV,Array.length_toList,e3] at l1;simp at l1;have hn:n=0:=by omega
  subst hn;have hL0:L=[]:=Bp (by simpa using hL);subst hL0;have hs:cur'.LK.L=2:=by rw[Array.length_toList,e3];rfl
  have:cur'.LK=[a,b]:=by
   rw[<-Bm (BJ hs)];simpa using e5
  rw[e2,<-Array.toArray_toList (xs:=cur'),this]
def tC (hL:L.L=n*2)(zY:hb<lo):Ga (Pm hb lo n L M) (λv w=>w.H lo 29 2 v n L):=λ_ _ _ hg h=>by
 refine⟨h.1,?_⟩;obtain h0|⟨g,cap,cur,h1,h2,h3,h4,h5,h6,h7⟩:=h.2
 .exact .inl h0
 .obtain h8|⟨_,c1,c2,e1,e2,e3,e4,e5⟩:=(hg hL).LE g (AJ.1 h3).1 (by omega)
  .exact .inr ⟨g,cap,cur,h1,h2,h8.trans h3,h4,h5,h6,h7⟩
  .rw[h3] at e1;cases e1;exact .inr ⟨g,cap,c2,h1,h2,e2,h4,h5,e3.trans h6,qV e5 hL (by omega)⟩
def lW (hL:L.L=n*2)(zY:hb<lo):Ga (Pm hb lo n L M) (λv w=>w.H lo 29 2 v (n+1) (L++M)):=λ_ _ _ hg h=>by
 refine⟨h.1,?_⟩;obtain h0|⟨g,cap,cur,h1,h2,h3,h4,h5,h6,h7⟩:=h.2
 .exact .inl h0
 .obtain h8|⟨_,c1,c2,e1,e2,e3,e4,e5⟩:=(hg hL).LE g (AJ.1 h3).1 (by omega)
  .exact .inr ⟨g,cap,cur,h1,h2,h8.trans h3,h4,h5,h6,h7⟩
  .rw[h3] at e1;cases e1;exact .inr ⟨g,cap,c2,h1,h2,e2,h4,h5,e3.trans h6,e5⟩
end
section
variable {hb lo n:Nat} {L M:List bq} {w w':U}
def Pn {v:bq}{x y:Int}(hL:L.L=n*2)(h:w.H lo 29 2 v n L)(Fa:lo<=w.L.size)(hhb:hb<lo){g:Nat}(hg:w.L[g]?=bc (cw #[bh br x,bh br y] 29 (0,0)))(hn:n<=1048576) :
  ∃v' w',(eT #[27,27] 27 #[v,.slice (bc ⟨g,0,Y⟩) 1 1]).run D7 w=.ok v' w'/\w'.H lo 29 2 v' (n+1) (L++[bh br x,bh br y])/\AR hb lo n L [bh br x,bh br y] w w'/\∀b,b<lo->w'.L[b]?=w.L[b]?:=by
 obtain⟨i0,hi,zF,zE,zD⟩:=info_parts DJ;have hnews:∀(j:Nat) (u:bq),[bh br x,bh br y][j]?=bc u->w.S ((⟨g,0,Y⟩:ek).add j)=bc u:=λj u hj=>by
  rw[Addr.add_lit,(Eh hg (0+j)).1]
  match j,hj with
  |0,hj=>exact hj
  |1,hj=>exact hj
 have h1:∀u∈[bh br x,bh br y],u.oneCell'=true:=λu hu=>by
  simp only[AT,AQ,or_false] at hu;rcases hu with rfl|rfl<;>rfl
 obtain⟨rfl,aF⟩|⟨g',cap,cur,hv,hbg,aB,aG,hcm,zW,a8⟩:=h.2
 .obtain⟨v',w',hr,h2,h3,_⟩:=run_append_own (P:=D7) w lo 27 27 29 i0 _ 2 16 ((Sq.LH 27).trans eH) hi zF zE zD rfl (by decide) _ n L h ⟨g,0,Y⟩ 1 1 _ rfl hnews h1 (by unfold maxLen;omega) (by omega) Fa;have hd:=Go.EB.Gh D7 (eT #[27,27] 27 #[.slice Y 0 0,.slice (bc ⟨g,0,Y⟩) 1 1]) w #[];rw[Sem.runT_fst,hr] at hd;have hbl:∀b,b<w.L.size->w'.L[b]?=w.L[b]?:=λb hb'=>h3.LE b hb' (by simp[Value.ownBlock])
  exact⟨v',w',hr,h2,⟨h3.os,h3.tape,h3.output,hd,h3.size,λb hb' _=>.inl (hbl b hb')⟩,λb hb'=>hbl b (by omega)⟩
 .subst hv;by_cases hroom:n+1<=cap
  .obtain⟨w',hr,h2,h3⟩:=run_append_own_spare (P:=D7) w lo 27 27 29 i0 2 ((Sq.LH 27).trans eH) hi zE g' n cap L h ⟨g,0,Y⟩ 1 1 _ rfl hnews h1 hroom;have hd:=Go.EB.Gh D7 (eT #[27,27] 27 #[.slice (bc ⟨g',0,Y⟩) n cap,.slice (bc ⟨g,0,Y⟩) 1 1]) w #[];rw[Sem.runT_fst,hr] at hd;refine⟨_,w',hr,h2,⟨h3.os,h3.tape,h3.output,hd,h3.size,λb hb' _=>?_⟩,λb hb'=>h3.LE b (by omega) (λe=>by cases e;omega)⟩
   by_cases e:b=g'
   .subst e;obtain⟨e0,_⟩|⟨g2,aD,aC,hv2,_,aA,_,_,OB,a6⟩:=h2.2
    .cases e0
    .cases hv2
     exact .inr ⟨hbg,cur,aC,aB,aA,OB.trans zW.LH,a8,a6⟩
   .exact .inl (h3.LE b hb' λe'=>e (by cases e';rfl))
  .have holds:∀(j:Nat) (u:bq),L[j]?=bc u->w.S ((⟨g',0,Y⟩:ek).add j)=bc u:=h.cells (g:=g') rfl;have a7:i0.size=2:=zE;have hr:=run_append_grow (P:=D7) w 27 27 29 i0 _ ((Sq.LH 27).trans eH) hi zF ⟨g',0,Y⟩ n cap L (by rw[a7];exact hL) holds ⟨g,0,Y⟩ 1 1 _ (by rw[a7];rfl) hnews (by omega) (by omega) (growslice_fits (by omega) (by rw[zD];omega));refine⟨_,_,hr,⟨by rw[B4,hL];simp;omega,.inr ⟨w.L.size,_,_,rfl,Fa,heap_alloc_new w.drew _,grownCap_ge w (n+1) cap 29,grownCap_le_maxLen w (n+1) cap 29 (by unfold maxLen;omega),?_,?_⟩⟩,AR.E3 ((Gr.refl w).drew.trans ((Gr.refl w.drew).LK _)),λb hb'=>aa w.drew _ (by show b<w.L.size;omega)⟩
   .have:=grownCap_ge w (n+1) cap 29;simp only[Array.size_append,AZ,size_zeroCells,hL];show n*2+2+(grownCap w (n+1) cap 29-(n+1))*2=_;omega
   .have zk:(L++[bh br x,bh br y]).L=(n+1)*2:=by rw[B4,hL];simp;omega
    simp only[Array.toList_append,Cv];rw[<-Cv,<-zk];exact j2
end
section
variable {hb lo n:Nat} {L M:List bq} {w w':U}
def Qy (lo n:Nat)(L M:List bq)(p q:bq)(v:bq)(w:U):Prop:=∃x,RowK 4 lo #[p,q,x,p] 27 v w/\w.H lo 29 2 x (n+1) (L++M)
def tD (hL:L.L=n*2)(zY:hb<lo){p q:bq}:Ga (Pm hb lo n L M) (Qy lo n L M p q):=λ_ _ _ hg ⟨x,h1,h2⟩=>⟨x,fS hL zY (by decide) _ _ _ hg h1,lW hL zY _ _ _ hg h2⟩
def Qz (lo:Nat)(p:Int)(v:bq)(w:U):Prop:=∃y:Int,RowK 4 lo #[bh br p,bh br y,bh br p,bh br p] 3 v w
def tE (hL:L.L=n*2)(zY:hb<lo){p:Int}:Ga (Pm hb lo n L M) (Qz lo p):=λ_ _ _ hg ⟨x,h1⟩=>⟨x,fS hL zY (by decide) _ _ _ hg h1⟩
def Hand.Li {B cap N:Nat}{A:Option ek}{l:List Int}(h:Hand w hb B A cap l N)(zY:hb<lo)(hk:∀b,b<lo->w'.L[b]?=w.L[b]?):Hand w' hb B A cap l N:=by
 obtain⟨n,s,h1,h2⟩:=h.obj;have ha:=h.apart;exact⟨⟨n,s,(hk hb zY).trans h1,h2⟩,h.M3.keep λb o hb'=>A7 (hk b (by omega)),h.apart⟩
end
def gv (l:List (Int×Int))(a b:Int):Es (l++[(a,b)])=Es l++[bh br a,bh br b]:=by
 rw[eU];rfl
def zf {nA hA gA rA nA2 zj gA2 rA2 A:Option ek}{nc hc gc rc nc2 zr gc2 rc2 cap hb B b3 b8 b9 n0 m0 n2 m2 g0 g2 r0 lo0:Nat}{rs:List (Int×Int)}{x1 x2 price:Int}{l:List Int}{W:U}{u:Nat->bq}{Q:gB->Act->U->Prop}
  (h1:u 1=Z gA g0 gc) (h2:u 2=Z rA r0 rc) (h4:u 4=bh br price)
  (h6:u 6=.S (bc ⟨b3,0,Y⟩)) (hb3:b3<W.L.size/\¬b3=hb) (h60:W.S ⟨b3,0,Y⟩=bc (Z nA n0 nc)) (h61:W.S ⟨b3,1,Y⟩=bc (Z hA m0 hc))
  (h9:u 9=.S (bc ⟨b9,0,Y⟩)) (a8:b9<W.L.size/\¬b9=hb) (h90:W.S ⟨b9,0,Y⟩=bc (bh br x1)) (aK:W.S ⟨b9,1,Y⟩=bc (bh br x2))
  (aL:u 13=.S (bc ⟨hb,0,Y⟩)) (hh:Hand W hb B A cap l 2000)
  (aB:u 14=.S (bc ⟨b8,0,Y⟩)) (aC:b8<W.L.size/\¬b8=hb) (aD:W.S ⟨b8,0,Y⟩=bc (Z nA2 n2 nc2)) (aF:W.S ⟨b8,1,Y⟩=bc (Z zj m2 zr))
  (aG:u 15=Z gA2 g2 gc2) (aH:u 16=Z rA2 rs.L rc2) (zl:W.H lo0 29 2 (u 16) rs.L (Es rs)) (hlo0:hb<lo0) (aN:rs.L<=20)
  (hK:∀W' u',AR hb W.L.size rs.L (Es rs) [bh br x1,bh br x2] W W'->Fr (ao 6) u' u->RowK 4 W.L.size #[Z nA n0 nc,Z hA m0 hc,Z nA2 n2 nc2,Z zj m2 zr,Z nA2 n2 nc2,Z zj m2 zr,Z nA2 n2 nc2,Z zj m2 zr] 25 (u' 17) W'->RowK 4 W.L.size #[Z gA g0 gc,Z gA2 g2 gc2,Z gA2 g2 gc2,Z gA2 g2 gc2] 26 (u' 18) W'->Qy W.L.size rs.L (Es rs) [bh br x1,bh br x2] (Z rA r0 rc) (Z rA2 rs.L rc2) (u' 19) W'->Qz W.L.size price (u' 20) W'->Q .L ⟨T 277 u',[]⟩ W'):(cf 6 (ao 6) bb).wp D7 Q ⟨T 277 u,[]⟩ W:=by
 have zY:=hh.lt;have hL:(Es rs).L=rs.L*2:=eW rs;generalize a6:Es rs=L at zl hK hL;generalize a7:[bh br x1,bh br x2]=M at hK;have aA:∀w,Pm hb W.L.size rs.L L M W w->FA w w.L.size rA2 rs:=λw hg=>by
  have ho:w.H lo0 29 2 (u 16) rs.L (Es rs):=by
   rw[a6];exact ap zl λg hv hl=>(hg hL).old hl hl (by have:=(zl.lt g hv).1;omega)
  obtain⟨A',c',e,h,_⟩:=IQ ho;rw[aH] at e;cases e;exact h
 have HS:∀w,Pm hb W.L.size rs.L L M W w->W.L.size<=w.L.size:=λw hg=>(hg hL).size;have H8:∀ {b x y},b<W.L.size/\¬b=hb->W.S ⟨b,0,Y⟩=bc x->W.S ⟨b,1,Y⟩=bc y->∀w,Pm hb W.L.size rs.L L M W w->w.S ⟨b,0,Y⟩=bc x/\w.S ⟨b,0+1,Y⟩=bc y:=λhb' h0 h1 w hg=>⟨((hg hL).cell hb'.1 hb'.1 hb'.2).trans h0,((hg hL).cell hb'.1 hb'.1 hb'.2).trans h1⟩;refine Sp (R:=Pm hb W.L.size rs.L L M) (λk w=>k=21->Hand w hb B A cap l 2000) 29 (λ_ _=>hh.gr (Gr.refl W).drew) <|
  F6 (I7 (Ic h6) (H8 hb3 h60 h61)) <|
  F6 (I7 (Ic aB) (H8 aC aD aF))<|F6 (I7 (Ic aB) (H8 aC aD aF))<|F6 (I7 (Ic aB) (H8 aC aD aF)) <|
  F6 (KC (RowK 4 W.L.size #[Z nA n0 nc,Z hA m0 hc,Z nA2 n2 nc2,Z zj m2 zr,Z nA2 n2 nc2,Z zj m2 zr,Z nA2 n2 nc2,Z zj m2 zr] 25) (fS hL zY (by decide)) ?_) <|
  F6 (Em h1)<|F6 (Em aG)<|F6 (Em aG)<|F6 (Em aG) <|
  F6 (KC (RowK 4 W.L.size #[Z gA g0 gc,Z gA2 g2 gc2,Z gA2 g2 gc2,Z gA2 g2 gc2] 26) (fS hL zY (by decide)) ?_) <|
  F6 (Em h2)<|F6 (Em aH)<|F6 (Em aH) <|
  F6 (Je Sq.func11 [12] (λv w=>w.H W.L.size 29 2 v rs.L L) (tC hL zY) λw hg=>(ja rA2 rc2 rs w _ (aA w hg) (AK _) (by omega)).LT ?_) <|
  F6 (PH (.agg #[bh br x1,bh br x2]) (Ic h9) rfl λw hg ev e=>by have c0:=((hg hL).cell (p:=⟨b9,0,Y⟩) a8.1 a8.1 a8.2).trans h90;have c1:=((hg hL).cell (p:=⟨b9,1,Y⟩) a8.1 a8.1 a8.2).trans aK;clear hg;go_simp) <|
  F6 (KC (RowK 1 W.L.size #[bh br x1,bh br x2] 29) (a7▸tB hL zY) ?_) <|
  F6 (KC (λv w=>w.H W.L.size 29 2 v (rs.L+1) (L++M)) (lW hL zY) ?_) <|
  F6 (Em h2) <|
  F6 (KC (Qy W.L.size rs.L L M (Z rA r0 rc) (Z rA2 rs.L rc2)) (tD hL zY) ?_) <|
  F6 (Em h4)<|F6 (Em aL)<|F6 (yW RA vv ?_)<|F6 (Em h4)<|F6 (Em h4) <|
  F6 (KC (Qz W.L.size price) (tE hL zY) ?_) <|
  F6 (FE 4)<|F6 (FE 9)<|F6 (FE 18)<|F6 (FE 24)<|M6 λu w hg hf hv=>?_
 .intro u w hg hf hl hd;have hz:=HS w hg;refine aV (op:=.buildSlice 38 4 #[(0,.tmp 57),(1,.tmp 58),(2,.tmp 59),(3,.tmp 60)]) (t:=38) rfl _ (w.LK (cw #[Z nA n0 nc,Z hA m0 hc,Z nA2 n2 nc2,Z zj m2 zr,Z nA2 n2 nc2,Z zj m2 zr,Z nA2 n2 nc2,Z zj m2 zr] 25)) (λev he=>?_) ⟨λ_=>.E3 ((Gr.refl w).LK _),λk _ _ h e=>(h e).gr ((Gr.refl w).LK _)⟩ ⟨_,rfl,hz,df _ _⟩
  have e1:=((he.t 57).trans (hd.at_ 0 57));have e2:=((he.t 58).trans (hd.at_ 1 58));have e3:=((he.t 59).trans (hd.at_ 2 59));have e4:=((he.t 60).trans (hd.at_ 3 60));clear hg hf hl hd he hK aA H8 HS a7 a6;go_simp
 .intro u w hg hf hl hd;have hz:=HS w hg;refine aV (op:=.buildSlice 39 4 #[(0,.tmp 62),(1,.tmp 63),(2,.tmp 64),(3,.tmp 65)]) (t:=39) rfl _ (w.LK (cw #[Z gA g0 gc,Z gA2 g2 gc2,Z gA2 g2 gc2,Z gA2 g2 gc2] 26)) (λev he=>?_) ⟨λ_=>.E3 ((Gr.refl w).LK _),λk _ _ h e=>(h e).gr ((Gr.refl w).LK _)⟩ ⟨_,rfl,hz,df _ _⟩;have e1:=((he.t 62).trans (hd.at_ 5 62))
  have e2:=((he.t 63).trans (hd.at_ 6 63));have e3:=((he.t 64).trans (hd.at_ 7 64));have e4:=((he.t 65).trans (hd.at_ 8 65));clear hg hf hl hd he hK aA H8 HS a7 a6;go_simp
 .have hz:=HS w hg;rintro e w2 ⟨v,rfl,h1,h2⟩;exact⟨v,rfl,⟨λ_=>.E3 h2,λk _ _ h e=>(h e).gr h2⟩,by rw[<-a6];exact FD h1 hz⟩
 .intro u w hg hf hl hd;have hz:=HS w hg;refine aV (op:=.buildSlice 27 1 #[(0,.tmp 71)]) (t:=27) rfl _ (w.LK (cw #[bh br x1,bh br x2] 29)) (λev he=>?_) ⟨λ_=>.E3 ((Gr.refl w).LK _),λk _ _ h e=>(h e).gr ((Gr.refl w).LK _)⟩ ⟨_,rfl,hz,df _ _⟩;have e1:=((he.t 71).trans (hd.at_ 14 71));clear hg hf hl hd he hK aA H8 HS a7 a6;go_simp
 .intro u w hg hf hl hd;have hz:=HS w hg;obtain⟨g,e72,_,aM⟩:=hd.at_ 15 72;have h70:w.H W.L.size 29 2 (u 70) rs.L L:=hd.at_ 13 70;obtain⟨v',w',hr,ho,ha,hbl⟩:=Pn (hb:=hb) hL h70 hz zY aM (by omega);rw[a7] at ho ha;refine aV (op:=.call { callee:=.builtin .append,args:=#[.tmp 70,.tmp 72],argTypes:=#[27,27] }) (t:=27) rfl v' w' (λev he=>jb ?_) ⟨λ_=>ha,λk _ _ h e=>(h e).Li zY hbl⟩ ho
  rw[he.t 70,he.t 72,e72];exact hr
 .intro u w hg hf hl hd;have hz:=HS w hg;have aI:w.H W.L.size 29 2 (u 73) (rs.L+1) (L++M):=hd.at_ 16 73;have aJ:w.H W.L.size 29 2 (u 73) (rs++[(x1,x2)]).L (Es (rs++[(x1,x2)])):=by
   rw[gv,a6,a7,B4];exact aI
  obtain⟨A3,c3,e73,_⟩:=IQ aJ;refine aV (op:=.buildSlice 41 4 #[(0,.tmp 67),(1,.tmp 68),(2,.tmp 73),(3,.tmp 74)]) (t:=41) rfl _ (w.LK (cw #[Z rA r0 rc,Z rA2 rs.L rc2,Z A3 (rs++[(x1,x2)]).L c3,Z rA r0 rc] 27)) (λev he=>?_) ⟨λ_=>.E3 ((Gr.refl w).LK _),λk _ _ h e=>(h e).gr ((Gr.refl w).LK _)⟩ ⟨_,⟨_,rfl,hz,df _ _⟩,by rw[<-e73];exact aI.LK _⟩
  have e1:=((he.t 67).trans (hd.at_ 10 67));have e2:=((he.t 68).trans (hd.at_ 11 68));have e3:=(he.t 73).trans e73;have e4:=((he.t 74).trans (hd.at_ 17 74));clear hg hf hl hd he hK aA H8 HS aI aJ a7 a6;go_simp
 .intro u w hg hf hl hd hj;refine iH rfl Sq.func12 #[.S (bc ⟨hb,0,Y⟩),bh br 99] (λev he=>by simp[he.2.1,(he.t 77).trans (hd.at_ 20 77)]) ((eO hb B A cap l 2000 99 w (hj rfl) (by omega) (by omega)).LT ?_);rintro e w2 ⟨⟨z,rfl,_⟩,hH,hk⟩;exact⟨_,rfl,⟨λ_=>.P4 hk,λk h1 h2 hC e=>AS e h1⟩,z,rfl⟩
 .intro u w hg hf hl hd;have hz:=HS w hg;obtain⟨y,e2⟩:=(hd.at_ 21 78);refine aV (op:=.buildSlice 22 4 #[(0,.tmp 76),(1,.tmp 78),(2,.tmp 79),(3,.tmp 80)]) (t:=22) rfl _ (w.LK (cw #[bh br price,bh br y,bh br price,bh br price] 3)) (λev he=>?_) ⟨λ_=>.E3 ((Gr.refl w).LK _),λk _ _ h e=>(h e).gr ((Gr.refl w).LK _)⟩ ⟨y,_,rfl,hz,df _ _⟩;have e1:=((he.t 76).trans (hd.at_ 19 76))
  have e4:=(he.t 78).trans e2;have e3:=((he.t 79).trans (hd.at_ 22 79));have e5:=((he.t 80).trans (hd.at_ 23 80));clear hg hf hl hd he hK aA H8 HS a7 a6;go_simp
 .have er:ik 29 ((ao 6).size-29)=[]:=by kernel_rfl
  rw[er];exact hK w u (hg hL) hf (hv.at_ 25 17) (hv.at_ 26 18) (hv.at_ 27 19) (hv.at_ 28 20)
noncomputable def kD:Code:=JH 2 dV
noncomputable def I8:Array Oper:=Rz (K4 (ND (tn 1)))
noncomputable def Jt:Array Oper:=Rz (K4 (JH 7 dV))
def lX:dV=.seq (.L 0 (ao 0) bw) (.seq (.seq (.L 1 (ao 1) bw) (.cond (.tmp 45) (.seq (.L 2 I8 bw) .ret) .skip)) kD):=by kernel_rfl
def tF:kD=.seq (.L 3 (ao 3) bw) (.seq (.L 4 (ao 4) bw) (.seq (.L 5 (ao 5) bb) (.seq (.L 6 (ao 6) bb) (.seq (tn 6) (.seq (.L 25 Jt bw) .ret))))):=by kernel_rfl
def tG (a:Act):Prop:=a.tmps.size=277/\a.defers=[]
def n16 {u:Nat->bq}:tG ⟨T 277 u,[]⟩:=⟨JR,rfl⟩
section
variable {nA hA gA rA A:Option ek} {nc hc gc rc cap:Nat} {c:Ek} {ls:List (List Int)} {rs:List (Int×Int)} {x1 x2 price:Int} {l:List Int} {w:U} {u:Nat->bq}
def yb (h0:u 0=.agg #[Z nA c.D9.L nc,Z hA c.D8.L hc])(h1:u 1=Z gA ls.L gc)(h2:u 2=Z rA rs.L rc)(h3:u 3=.agg #[bh br x1,bh br x2])(hh:Fe w w.L.size hA c.D8)(hg:E7 w w.L.size gA ls)(Gg:c.D9.L<=9223372036854775807)(zC:c.D8.L<=9223372036854775807)(G4:∀h∈c.D8,h.off.L<=9223372036854775807)
  (zq:ls.L<=9223372036854775807) (Io:∀x∈ls,x.L<=9223372036854775807) (aA:rs.L<=9223372036854775807) (hs:(GI c&&(J2 ls&&decide (rs.L<=20)))=bw):aY D7 [.inRegion I8 [0,1],.code .ret,.code kD] dV (λa _=>tG a) ⟨T 277 u,[]⟩ w:=by
 rw[lX];refine aT λK hK=>?_;refine tA h0 h3 λW1 u1 g1 f1 h6 _=>hK _ _ ?_;refine fV (tgt:=[.inRegion I8 [0,1],.code .ret]) ?_;refine aT λK hK=>?_;have i1:=(f1.at_ 1).trans h1;have i2:=(f1.at_ 2).trans h2;cases a7:GI c with
 |false =>
  refine x9 (B:=w.L.size) h6 g1.size (hh.keep λb o hb=>g1.cell hb) Gg zC G4 a7 λW2 u2 g2 f2 a6=>hK _ _ ?_;refine dQ (v:=bb) ((db (by decide)).trans a6) ?_;exact kC (more:=[]) (by kernel_rfl) n16
 |true =>
  rw[a7,Cm] at hs;cases a8:J2 ls with
  |false =>
   refine ya (B:=w.L.size) h6 g1.size (hh.keep λb o hb=>g1.cell hb) Gg zC G4 a7 i1 (hg.keep λb o hb=>g1.cell hb) zq Io a8 λW2 u2 g2 f2 a6=>hK _ _ ?_;refine dQ (v:=bb) ((db (by decide)).trans a6) ?_;exact kC (more:=[]) (by kernel_rfl) n16
  |true =>
   rw[a8,Cm,decide_eq_false_iff_not] at hs;refine pE (B:=w.L.size) h6 g1.size (hh.keep λb o hb=>g1.cell hb) Gg zC G4 a7 i1 (hg.keep λb o hb=>g1.cell hb) zq Io a8 i2 aA λW2 u2 g2 f2 a6=>hK _ _ ?_;rw[BE (show(20:Int)<(rs.L:Int) by omega)] at a6;refine dQ (v:=bb) ((db (by decide)).trans a6) ?_;exact kC (more:=[]) (by kernel_rfl) n16
def yd (h0:u 0=.agg #[Z nA c.D9.L nc,Z hA c.D8.L hc])(h1:u 1=Z gA ls.L gc)(h2:u 2=Z rA rs.L rc)(h3:u 3=.agg #[bh br x1,bh br x2])(h4:u 4=bh br price)(h5:u 5=Z A l.L cap)(hn:RI w w.L.size nA c.D9)(hh:Fe w w.L.size hA c.D8)(hg:E7 w w.L.size gA ls)(hq:FA w w.L.size rA rs)(Im:rs.L<=rc)(hr:RI w w.L.size A l)
  (hs:(GI c&&(J2 ls&&decide (rs.L<=20)))=bb):aY D7 [.inRegion Jt [0,1],.code .ret] dV (λa _=>tG a) ⟨T 277 u,[]⟩ w:=by
 obtain⟨aO,aP,aJ⟩:GI c=bb/\J2 ls=bb/\rs.L<=20:=by simpa using hs
 obtain⟨s1,s2,s3⟩:=N8 aO;obtain⟨s4,s5⟩:=PF aP;rw[lX];refine aT λK hK=>?_;refine tA h0 h3 λW1 u1 g1 f1 h6 h9=>hK _ _ ?_;refine aT λK hK=>?_;refine dS (pE (B:=w.L.size) h6 g1.size (hh.keep λb o hb=>g1.cell hb) (by omega) (by omega) (λy hy=>AU (s3 y hy) (by omega)) aO ((f1.at_ 1).trans h1) (hg.keep λb o hb=>g1.cell hb) (by omega) (λy hy=>AU (s5 y hy) (by omega)) aP ((f1.at_ 2).trans h2) (by omega) λW2 u2 g2 f2 aQ=>?_)
 rw[B2 (show ¬(20:Int)<(rs.L:Int) by omega)] at aQ;show dr _ _ _ _ _;refine ez ((db (by decide)).trans aQ) (js (hK _ _ ?_));rw[tF];have aA:=g1.trans g2;refine aT λK hK=>?_;refine zc (B:=w.L.size) ((f2.at_ 5).trans ((f1.at_ 5).trans h5)) (hr.keep λb o hb=>aA.cell hb) aA.size λW3 u3 g3 f3 h7=>hK _ _ ?_;obtain⟨hb,B,e7,Fa,hh3⟩:=h7;have bI:Js w.L.size (Z nA c.D9.L nc) (Z hA c.D8.L hc) (u3 6) W2:=by
  rw[f3.at_ 6,f2.at_ 6];exact fe _ _ _ _ _ _ g2 h6
 have h9':Js w.L.size (bh br x1) (bh br x2) (u3 9) W2:=by
  rw[f3.at_ 9,f2.at_ 9];exact fe _ _ _ _ _ _ g2 h9
 obtain⟨b3,e3,hb3,c30,c31⟩:=bI;obtain⟨b9,e9,aR,c90,c91⟩:=h9';have aF:¬b3=hb:=by omega
 have aG:¬b9=hb:=by omega
 have aS:=aA.trans g3;refine aT λK hK=>?_;refine zd e7 hh3 λW4 u4 c2 nA2 zj nc2 zr k4 bJ f4 bK zv h8 bL hs2=>hK _ _ ?_;obtain⟨b8,e8,aK,c80,c81⟩:=h8;have G4:=hh3.lt;have i13:u4 13=_:=(f4 13 (by decide) (by decide) (by decide)).trans e7;refine aT λK hK=>?_;refine ze (b8:=b8) (c2:=c2) (nA2:=nA2) (zj:=zj) (nc2:=nc2) (zr:=zr) i13 bJ e8 ⟨aK.2,by omega⟩ c80 c81 zv.1 zv.2 λW5 u5 k5 hh5 f5 bM bN=>hK _ _ ?_
 obtain⟨a8,⟨xs,aU⟩,zC,hch⟩:=bM;obtain⟨a7,hrow,hrl2⟩:=bN;obtain⟨gA2,gc2,aV,zI⟩:=aU.LH;obtain⟨rA2,rc2,aW,hq2,b5⟩:=IQ hrow;have bY:=k5.size;have aH:∀b o v,¬b=hb->b<W2.L.size->W2.S ⟨b,o,Y⟩=bc v->W5.S ⟨b,o,Y⟩=bc v:=λb o v zU zY e =>
  (k5.cell (p:=⟨b,o,Y⟩) (show b<W4.L.size by omega) zU).trans ((k4.cell (p:=⟨b,o,Y⟩) (show b<W3.L.size by omega) zU).trans ((g3.cell (p:=⟨b,o,Y⟩) zY).trans e))
 have n4:∀t,t≠49->t≠50->t≠14->u4 t=u3 t:=f4;refine aT λK hK=>?_;refine zf (lo0:=W4.L.size) (b3:=b3) (b8:=b8) (b9:=b9) (rs:=a7) (x1:=x1) (x2:=x2) (price:=price) (gA:=gA) (g0:=ls.L) (gc:=gc) (rA:=rA) (r0:=rs.L) (rc:=rc) (nA:=nA) (hA:=hA) (n0:=c.D9.L) (m0:=c.D8.L) (nc:=nc) (hc:=hc) (nA2:=nA2) (zj:=zj) (n2:=c2.D9.L) (m2:=c2.D8.L) (nc2:=nc2) (zr:=zr) (gA2:=gA2) (g2:=a8.L) (gc2:=gc2) (rA2:=rA2) (rc2:=rc2)
  ((f5.at_ 1).trans ((f4 1 (by decide) (by decide) (by decide)).trans ((f3.at_ 1).trans ((f2.at_ 1).trans ((f1.at_ 1).trans h1)))))
  ((f5.at_ 2).trans ((f4 2 (by decide) (by decide) (by decide)).trans ((f3.at_ 2).trans ((f2.at_ 2).trans ((f1.at_ 2).trans h2)))))
  ((f5.at_ 4).trans ((f4 4 (by decide) (by decide) (by decide)).trans ((f3.at_ 4).trans ((f2.at_ 4).trans ((f1.at_ 4).trans h4)))))
  ((f5.at_ 6).trans ((f4 6 (by decide) (by decide) (by decide)).trans e3)) ⟨by omega,aF⟩ (aH _ _ _ aF hb3.2 c30) (aH _ _ _ aF hb3.2 c31)
  ((f5.at_ 9).trans ((f4 9 (by decide) (by decide) (by decide)).trans e9)) ⟨by omega,aG⟩ (aH _ _ _ aG aR.2 c90) (aH _ _ _ aG aR.2 c91)
  ((f5.at_ 13).trans i13) hh5 ((f5.at_ 14).trans e8) ⟨by omega,by omega⟩
  ((k5.cell (p:=⟨b8,0,Y⟩) aK.2 (show ¬b8=hb by omega)).trans c80) ((k5.cell (p:=⟨b8,1,Y⟩) aK.2 (show ¬b8=hb by omega)).trans c81) aV aW hrow (by omega) (by omega) λW6 u6 a6 f6 bO bP bQ bR=>hK _ _ ?_
 obtain⟨cb,bS,lcb,hcb⟩:=bO;obtain⟨rb,e18,lrb,aX⟩:=bP;obtain⟨x3,⟨qb,bT,lqb,hqb⟩,hrow3⟩:=bQ;obtain⟨y,pb,bU,lpb,hpb⟩:=bR;have aL:W6.H W5.L.size 29 2 x3 (a7++[(x1,x2)]).L (Es (a7++[(x1,x2)])):=by
  rw[gv,B4];exact hrow3
 obtain⟨rA3,rc3,rfl,bV,b6⟩:=IQ aL;have hz6:=a6.size;have hz03:=aS.size;have aI:∀b o,b<w.L.size->W6.S ⟨b,o,Y⟩=w.S ⟨b,o,Y⟩:=λb o bW=>(a6.cell (p:=⟨b,o,Y⟩) (show b<W5.L.size by omega) (show b<W5.L.size by omega) (show ¬b=hb by have:=aA.size;omega)).trans ((k5.cell (p:=⟨b,o,Y⟩) (show b<W4.L.size by omega) (show ¬b=hb by have:=aA.size;omega)).trans ((k4.cell (p:=⟨b,o,Y⟩) (show b<W3.L.size by omega) (show ¬b=hb by have:=aA.size;omega)).trans (aS.cell (p:=⟨b,o,Y⟩) bW)))
 have hz:w.L.size<=W6.L.size:=by omega
 have zn:∀b o,W3.L.size<=b/\b<W4.L.size->W6.S ⟨b,o,Y⟩=W4.S ⟨b,o,Y⟩:=λb o hb'=>(a6.cell (p:=⟨b,o,Y⟩) (show b<W5.L.size by omega) (show b<W5.L.size by omega) (show ¬b=hb by omega)).trans (k5.cell (p:=⟨b,o,Y⟩) hb'.2 (show ¬b=hb by omega));have hn6:RI W6 W6.L.size nA2 c2.D9:=(bL.keep zn).ri λb hb'=>by omega
 have hs6:Fe W6 W6.L.size zj c2.D8:=(hs2.keep zn).hs λb hb'=>by omega
 have bX:E7 W6 W6.L.size gA ls:=(hg.keep aI).more hz;have aZ:FA W6 W6.L.size rA rs:=λzU=>by
  obtain⟨b,o,e,zY,zW⟩:=(hq.keep aI) zU;exact⟨b,o,e,by omega,zW⟩
 have b7:EH W6 W4.L.size (u5 15) a8 xs:=aU.keep' λb h3 h4=>a6.old h4 h4 (by omega);obtain⟨bA,bB,e',bC⟩:=b7.LH;obtain⟨rfl,rfl⟩:gA2=bA/\gc2=bB:=by rw[aV] at e';injection e' with a b c;exact⟨a,c⟩
 have aN:W6.H W4.L.size 29 2 (u5 16) a7.L (Es a7):=ap hrow λg hv hl=>a6.old hl hl (by have:=(hrow.lt g hv).1;omega);obtain⟨bD,bE,e'',bF,_⟩:=IQ aN;obtain⟨rfl,rfl⟩:rA2=bD/\rc2=bE:=by rw[aW] at e'';injection e'' with a b c;exact⟨a,c⟩
 have o5:∀y∈c2.D8,y.off.L<=20:=λy hy=>AU (bK.off y hy).1 (by omega);have aC:=(AJ.1 hcb).1;have aD:=(AJ.1 aX).1;have bG:=(AJ.1 hqb).1;have bH:=(AJ.1 hpb).1;have cc:=λi=>(Eh hcb i).1;have rr:=λi=>(Eh aX i).1;have qq:=λi=>(Eh hqb i).1;have pp:=λi=>(Eh hpb i).1;have sm1:Cas.Small ⟨nA,hA,gA,nc,hc,gc,c,ls⟩:=⟨s1,s2,s3,s4,s5⟩
 have aB:Cas.Small ⟨nA2,zj,gA2,nc2,zr,gc2,c2,a8⟩:=⟨by show c2.D9.L<=20;omega,by show c2.D8.L<=20;omega,o5,by show a8.L<=20;omega,λy hy=>by
  obtain⟨p,rfl⟩:=hch y hy;have:=dR p c2.D8.L
  omega⟩
 have at1:Cas.At ⟨nA,hA,gA,nc,hc,gc,c,ls⟩ W6:=⟨(hn.keep aI).more hz,(hh.keep aI).more hz,bX⟩;have aM:Cas.At ⟨nA2,zj,gA2,nc2,zr,gc2,c2,a8⟩ W6:=⟨hn6,hs6,bC⟩;have lq:qb<W6.L.size/\pb<W6.L.size:=⟨bG,bH⟩;have G4:(a7++[(x1,x2)]).L<=20:=by rw[B4];show a7.L+1<=20;omega
 refine aT λK hK=>?_
 refine vp (cb:=cb) (co:=0) (rb:=rb) (ro:=0) (qb:=qb) (pb:=pb) (cc:=4) (rc:=4) (qc:=4) (pc:=4) (F:=λk=>match k with
  |0=>⟨⟨nA,hA,gA,nc,hc,gc,c,ls⟩,rA,rc,rs,price⟩
  |1=>⟨⟨nA2,zj,gA2,nc2,zr,gc2,c2,a8⟩,rA2,rc2,a7,y⟩
  |2=>⟨⟨nA2,zj,gA2,nc2,zr,gc2,c2,a8⟩,rA3,rc3,a7++[(x1,x2)],price⟩
  |_=>⟨⟨nA2,zj,gA2,nc2,zr,gc2,c2,a8⟩,rA,rc,rs,price⟩) bS e18 bT bU (λk hk=>?_) λW7 u7 g7=>hK _ _ ?_
 .match k,hk with
  |0,_=>exact⟨⟨cc 0,cc 1,rr 0,⟨aC,aD⟩,at1,sm1⟩,qq 0,pp 0,lq,aZ,⟨sm1,aJ,Im⟩⟩
  |1,_=>exact⟨⟨cc 2,cc 3,rr 1,⟨aC,aD⟩,aM,aB⟩,qq 1,pp 1,lq,bF,⟨aB,by show a7.L<=20;omega,b5⟩⟩
  |2,_=>exact⟨⟨cc 4,cc 5,rr 2,⟨aC,aD⟩,aM,aB⟩,qq 2,pp 2,lq,bV,⟨aB,G4,b6⟩⟩
  |3,_=>exact⟨⟨cc 6,cc 7,rr 3,⟨aC,aD⟩,aM,aB⟩,qq 3,pp 3,lq,aZ,⟨aB,aJ,Im⟩⟩
 .exact kC (more:=[]) (by kernel_rfl) n16
end
end Go.Sq
namespace Go.Co
open Go.EB Go.Conc Go.ConcN
section
variable {SB:eF->Bool} {H H':Hid} {β:Ey}
def IX.less (h:∀b,H b=bw->H' b=bw){f F:Fn}(r:IX (SP SB H) β f F):IX (SP SB H') β f F:=by
 cases r with
 |func s=>exact .func s
 |yield l k=>exact .yield l (h _ k)
def Ee.less (h:(∀b,H b=bw->H' b=bw)/\(H.bl=bb->H'.bl=bb)){v V:bq}(r:Ee (SP SB H) β v V):Ee (SP SB H') β v V:=by
 induction r with
 |bool b=>exact .bool b
 |int k n=>exact .int k n
 |string s=>exact .string s
 |Hy=>exact .Hy
 |ptr o s hb=>exact .ptr o s hb
 |Hb l c=>exact .Hb l c
 |slice o s l c hb=>exact .slice o s l c hb
 |func hf h1 _ h2 _ i1 i2=>exact .func (IX.less h.1 hf) h1 i1 h2 i2
 |nilFunc=>exact .nilFunc
 |Hp=>exact .Hp
 |GN=>exact .GN
 |nilIface=>exact .nilIface
 |iface t _ ih=>exact .iface t ih
 |agg h1 _ i1=>exact .agg h1 i1
 |tuple h1 _ i1=>exact .tuple h1 i1
 |blank h1 h2=>exact .blank (h1.imp (λh=>h) h.2) h2
 |E8 h1=>exact .E8 (h1.imp (λh=>h) h.2)
 |Fq h1=>exact .Fq (h1.imp (λh=>h) h.2)
def Ei.less (h:(∀b,H b=bw->H' b=bw)/\(H.bl=bb->H'.bl=bb)){x X:Array bq}(r:Ei (SP SB H) β x X):Ei (SP SB H') β x X:=⟨r.size,λi v V h1 h2=>Ee.less h (r.at_ i v V h1 h2)⟩
def FY.less (h:(∀b,H b=bw->H' b=bw)/\(H.bl=bb->H'.bl=bb)){d D:j0}(r:FY (SP SB H) β d D):FY (SP SB H') β d D:=by
 cases r with
 |fn f c a=>exact .fn (IX.less h.1 f) (Ei.less h c) (Ei.less h a)
 |nil a=>exact .nil (Ei.less h a)
 |collected r k=>exact .collected r (h.1 _ k)
 |E8 a A h1 h2 h3=>exact .E8 a A (Ei.less h h1) h2 (h3.imp (λh=>h) λx=>⟨h.2 x.1,x.2⟩)
def Fj.imp {α:Type}{R R':α->α->Prop}(h:∀a A,R a A->R' a A){l L:List α}(r:Fj R l L):Fj R' l L:=by
 induction r with
 |nil=>exact .nil
 |cons ha _ ih=>exact .cons (h _ _ ha) ih
def Fb.less (h:(∀b,H b=bw->H' b=bw)/\(H.bl=bb->H'.bl=bb)){Ck:k0->Prop}{o O:Obj}(r:Fb (SP SB H) Ck β o O):Fb (SP SB H') Ck β o O:=by
 cases r with
 |cells a f=>exact .cells (Ei.less h a) f
 |loop p a b x d k=>exact .loop p a b (Ei.less h x) d (h.1 _ k)
 |number o s l hb=>exact .number o s l hb
 |taken=>exact .taken
 |defs l=>exact .defs (Fj.imp (λ_ _=>FY.less h) l)
end
def JN (p:jx)(b4:Nat)(Ψ:U->Prop)(g:dn)(w:U):Prop :=
 ∃c,g=Fc (eb p 85 #[JW b4] .S) [c,bad]/\c.fn=84/\c.mode=.returning/\c.defers=[]/\c.kind=.S/\Ψ w
def rQ {p:jx}{b4:Nat}{Ψ:U->Prop}{BB:eF->Bool}(MF:BB 85=bw){g:dn}{w:U}(h:JN p b4 Ψ g w):BB g.L.fn=false:=by
 obtain⟨c,rfl,_⟩:=h;exact MF
def yz {c:gR}(h:c.mode=.returning):c≠bad:=λe=>by rw[e] at h;cases h
section
variable {P:EK} {SB BB:eF->Bool} {zZ:Bool} {Gn ty Wg:Nat} {Ψ2:U->Prop}
def mR {L:Lib.WgLink}(Wl:Lib.WgLib P.b L)(MF:L.done=85)(a7:Barred P SB zZ L.done (Lib.doneFn L)){f92:Func}(hf:P.b.L[84]?=bc f92)(hr:f92.results=#[]){b4:Nat}{Ψ:U->Prop}{H:Hid}{Pk:Ey}(hPk:Pk b4 Wg){o:Bool}
  (a8:o=bb->∀(x:Lone) (W:U),x.H=H->Pk.le x.β->GQ P SB zZ Gn x W->Ψ x.w->Ψ2 W) :
  cO P SB BB zZ Gn L.tWg Wg Ψ2 (JN P.a b4 Ψ) H [cT P.b] Pk o:=by
 rintro x g W hH hT zX ⟨c,e,c1,c2,c3,c4,c5⟩ hg hw a6;refine⟨?_,λho=>a8 ho x W hH zX hw c5⟩;refine yy Wl a7 (x:=x) (c:=c) (cs:=[bad]) (wl:=b4) (by rw[e,MF]) (yz c2) (zX _ _ hPk) hg hw a6 λC CS r1 r2=>?_;have m:=r1.mode;rw[c2] at m;have hm:C.mode=.returning:=by
  generalize C.mode=M at m;cases m;rfl
 have d:=r1.defers;rw[c3] at d;have hd:C.defers=[]:=by
  generalize C.defers=M at d;cases d;rfl
 rw[hT] at r2;have zW:CS=[cT P.b]:=by
  generalize aA:[bad]=BL at r2;cases r2 with
  |base=>rfl
  |cons h1 h2=>cases aA;exact AS rfl h2.ne
 refine⟨hm,2,?_⟩;rw[zW];exact rO (by rw[<-r1.fn,c1];exact hf) hr hm hd (by rw[<-r1.kind,c4])
end
end Go.Co
namespace Go.Sq
open Go.Proofs
open Go.RowKit Go.EB Go.Co Go.Conc
section
variable {SB BB:eF->Bool} {H:Hid} {Gn Wg:Nat} {zN:Nat->Prop} {Ψ0 Ψ2:U->Prop} {Pr:Ey} {T:List gR} {Kb:Nat->Prop} {Ok:U->Prop} {b2 b3 b4:Nat} {x1:Int} {tp:Bool} {K:Nat->Prop} {a:Act} {r:Nat} {x:Lone} {X:dn} {W:U}
def qi (x1:Int)(SB:eF->Bool)(H:Hid)(K:Nat->Prop):∀v∈[bh .u8 x1,.int .u8 0,.int .u8 0,.int .u8 0,.int .u8 0],Fo SB H K v:=λv hv=>by
 simp only[AT,AQ,or_false] at hv;rcases hv with rfl|rfl|rfl|rfl|rfl<;>exact Ee.int _ _
def NT.KV (ga:NT SB BB H Gn Wg zN Ψ0 Pr T Kb Ok b2 b3 b4 x1 tp K a r x X W)(hO:fz Kb Ok):Head SB H Gn Kb Ok (λb=>K b\/b=r) (froze x.w r) :=
 ga.head.more hO ga.rK.1 ga.rK.2.1 ga.rK.2.2 ga.rb λv hv=>qi x1 SB H _ v hv
def jR {H':Hid}(hk:K b2/\K b3/\K b4):Ei (SP SB H') (E0 (λb=>K b\/b=r)) (bT b2 b3 b4 r) (bT b2 b3 b4 r):=Fs λv hv=>by
 simp only[AT,AQ,or_false] at hv;obtain rfl|rfl|rfl|rfl:=hv
 .exact Fo.ptr (.inl hk.2.2) _ _
 .exact Fo.ptr (.inl hk.1) _ _
 .exact Fo.ptr (.inr rfl) _ _
 .exact Fo.ptr (.inl hk.2.1) _ _
def uk (lib:∀H,Lib PP SB H bb BB Gn){L:Lib.WgLink}(Wl:Lib.WgLib J L)(MF:L.done=85)(hT:L.tWg=148)(a6:Go.Co.Barred PP SB bb L.done (Lib.doneFn L))(hO:fz Kb Ok)(hkb:Kb b2/\Kb b3/\Kb b4)(a8:Pr b4 Wg)(aA:∀b B,Pr b B->Kb b)
  (ga:NT SB BB H Gn Wg zN Ψ0 Pr T Kb Ok b2 b3 b4 x1 tp K a r x X W)
  (a7:BB 85=bw) (kid:E5 J BB (JN J b4 λ_=>True) 0 (dy (eb J 84 (bT b2 b3 b4 r) .S) [bad]) (froze x.w r)) :
  ∃(X' child:dn) (xk:Lone) (o:Bool) (Pk:Ey) (Q:dn->U->Prop),kv J bb X W=.spawn X' child W #[] /\
   Split PP SB BB bb Gn Wg zN x X' child W tp tp o ⟨dy ((base 49).at a (.inRegion o8 []::T8)) [bad],froze x.w r,H,cut (λb=>K b\/b=r) x.β,T⟩ xk Pk /\
   cO PP SB BB bb Gn 148 Wg Ψ2 Q xk.H xk.T Pk o/\(∀g w,Q g w->BB g.L.fn=bw)/\E5 J BB Q 0 xk.g xk.w:=by
 have hm:=ga.KV hO;have hH:=ga.h;have ht:=ga.t;subst hH ht
 obtain⟨G',child,e1,e2⟩:=Mc (zN:=zN) (tp:=tp) (wl:=Pr) lib ga.op ga.gl ga.wl ga.tw ga.wg ga.Jz (λb B h=>ga.pr b B h) ga.cut (λb hb=>by
  cases e:x.H b with
  |true=>exact .inl rfl
  |false=>exact .inr (hm.base b hb e).1) (jR ⟨ga.head.sub _ hkb.1,ga.head.sub _ hkb.2.1,ga.head.sub _ hkb.2.2⟩) (λb B h=>.inl (ga.head.sub _ (aA b B h)))
 refine⟨G',child,_,bw,Pr,JN J b4 λ_=>True,e1,e2,?_,λg w h=>rQ a7 h,kid⟩;have:=mR (P:=PP) (Gn:=Gn) (Ψ2:=Ψ2) (BB:=BB) Wl MF a6 (f92:=Tryz.f84) gg rfl (Ψ:=λ_=>True) (H:=x.H) (Pk:=Pr) a8 (o:=bw) (λe=>by cases e);rw[hT] at this;exact this
def H7 (tl:Nat->Bool)(oK:Nat->Obj)(w:U):World:={ w with heap:=w.L.mapIdx λb o=>if tl b then oK b else o }
def bX (tl:Nat->Bool)(oK:Nat->Obj)(w:U):(H7 tl oK w).L.size=w.L.size:=by simp[H7]
def bY (tl:Nat->Bool)(oK:Nat->Obj)(w:U)(b:Nat)(hb:b<w.L.size):(H7 tl oK w).L[b]?=if tl b then bc (oK b) else w.L[b]?:=by
 simp only[H7,C8,AV hb,B5];split<;>rfl
def ul (lib:∀H,Lib PP SB H bb BB Gn){L:Lib.WgLink}(Wl:Lib.WgLib J L)(MF:L.done=85)(hT:L.tWg=148)(a6:Go.Co.Barred PP SB bb L.done (Lib.doneFn L))(hO:fz Kb Ok)(hkb:Kb b2/\Kb b3/\Kb b4)(aD:Pr b4 Wg)(aF:∀b B,Pr b B->Kb b)
  (ga:NT SB BB H Gn Wg zN Ψ0 Pr T Kb Ok b2 b3 b4 x1 bb K a r x X W) {tl:Nat->Bool} {oK:Nat->Obj} (aG:∀b B,Pr b B->tl b=bb->zN B) (a7:∀b,tl b=bb->∃B,Pr b B) (a8:∀b,tl b=bb->H b=bb) (aH:¬zN Wg)
  (aA:∀W,Ψ0 W->∀b B,Pr b B->tl b=bb->∃O,W.L[B]?=bc O/\∀(S:FO) (Ck:k0->Prop) (β:Ey),Fb S Ck β (oK b) O) {Ψk:U->Prop}
  (aB:∀(x:Lone) (W:U),x.H=Dw H tl->Pr.le x.β->GQ PP SB bb Gn x W->Ψk x.w->Ψ2 W)
  (aC:BB 85=bw) (kid:E5 J BB (JN J b4 Ψk) 0 (dy (eb J 84 (bT b2 b3 b4 r) .S) [bad]) (H7 tl oK (froze x.w r))) :
  ∃(X' child:dn) (xk:Lone) (o:Bool) (Pk:Ey) (Q:dn->U->Prop),kv J bb X W=.spawn X' child W #[] /\
   Split PP SB BB bb Gn Wg zN x X' child W bb bw o ⟨dy ((base 49).at a (.inRegion o8 []::T8)) [bad],froze x.w r,H,cut (λb=>K b\/b=r) x.β,T⟩ xk Pk /\
   cO PP SB BB bb Gn 148 Wg Ψ2 Q xk.H xk.T Pk o/\(∀g w,Q g w->BB g.L.fn=bw)/\E5 J BB Q 0 xk.g xk.w:=by
 have hm:=ga.KV hO;have hH:=ga.h;have ht:=ga.t;subst hH ht;have lt:∀b,(K b\/b=r)->b<(froze x.w r).L.size:=hm.lt;have pr:∀b B,x.β b B->tl b=bb->Pr b B:=λb B hb h=>by
  obtain⟨B',hB⟩:=a7 b h;rw[ga.wl.FH.fn hb (ga.pr _ _ hB)];exact hB
 have aI:∀b o,(K b\/b=r)->x.H b=bw->(froze x.w r).L[b]?=bc o->Fb (SP SB (Dw x.H tl)) (CK J SB bb) (E0 λb=>K b\/b=r) o o:=λb o hb hh ho=>by
  obtain⟨_,o',h1,h2⟩:=hm.base b hb hh;rw[ho] at h1;cases h1;exact Fb.less ⟨λb hb=>by simp[Dw,hb],λ_=>rfl⟩ h2
 have aJ:∀b B,(K b\/b=r)->tl b=bb->x.β b B->∃o O,(H7 tl oK (froze x.w r)).L[b]?=bc o/\W.L[B]?=bc O/\Fb (SP SB (Dw x.H tl)) (CK J SB bb) (cut (λb=>K b\/b=r) x.β) o O:=λb B hb h hB=>by
  obtain⟨O,h1,h2⟩:=aA W (ga.Hv rfl) b B (pr b B hB h) h;exact⟨oK b,O,by rw[bY _ _ _ _ (lt b hb),AP h],h1,h2 _ _ _⟩
 obtain⟨G',child,e1,e2⟩:=Md (zN:=zN) (wl:=Pr) (wk:=H7 tl oK (froze x.w r)) (tl:=tl) lib ga.op ga.gl ga.wl ga.tw ga.wg ga.Jz (λb B h=>ga.pr b B h) ga.cut (λb hb=>by
  cases e:x.H b with
  |true=>exact .inl rfl
  |false=>exact .inr (hm.base b hb e).1) (λb B h=>.inl (ga.head.sub _ (aF b B h))) (jR ⟨ga.head.sub _ hkb.1,ga.head.sub _ hkb.2.1,ga.head.sub _ hkb.2.2⟩)
  (λb B hb h=>aG b B (pr b B hb h) h) a8 aH ⟨by rw[bX];exact AK _,rfl⟩ (λb hb h=>by rw[bY _ _ _ _ (lt b hb),AN (by simp[h])]) aI aJ (λb hh=>by rw[bX];exact hm.old b hh)
 refine⟨G',child,_,bb,Pr,JN J b4 Ψk,e1,e2,?_,λg w h=>rQ aC h,kid⟩;have:=mR (P:=PP) (Gn:=Gn) (Ψ2:=Ψ2) (BB:=BB) Wl MF a6 (f92:=Tryz.f84) gg rfl (Ψ:=Ψk) (H:=Dw x.H tl) (Pk:=Pr) aD (o:=bb) (λ_=>aB);rw[hT] at this;exact this
end
def sink (kx tl:Nat->Bool)(w:U):World:={ w with heap:=w.L.mapIdx λb o=>if tl b then .coro Y else if kx b then(match o with|.cells c t _=>.cells c t (0,c.size)|o=>o) else o }
def eJ (kx tl:Nat->Bool)(w:U):(sink kx tl w).L.size=w.L.size:=by simp[sink]
def kN {kx tl:Nat->Bool}{w:U}{b:Nat}(hb:b<w.L.size)(h:tl b=bb):(sink kx tl w).L[b]?=bc (.coro Y):=by
 simp[sink,C8,AV hb,h]
def gh {kx tl:Nat->Bool}{w:U}{b:Nat}{c:Array bq}{t:hZ}{f:Nat×Nat}(hw:w.L[b]?=bc (.cells c t f))(h:kx b=bb)(h':tl b=bw):(sink kx tl w).L[b]?=bc (.cells c t (0,c.size)):=by
 simp[sink,C8,hw,h,h']
abbrev Ke (tl:Nat->Bool)(w:U):Hid:=⟨λb=>tl b||b==w.L.size,bw,bb⟩
abbrev MG (kx tl:Nat->Bool)(w:U)(b:Nat):Prop:=kx b=bb\/tl b=bb\/b=w.L.size\/b=w.L.size+1\/b=w.L.size+2
def GR (kx tl:Nat->Bool)(w:U)(cb:Nat)(p1:bq):World:=froze (froze ((((sink kx tl w).LK (.coro Y)).LK (cw #[.S (bc ⟨cb,0,Y⟩)] 75)).LK (cw #[p1] 99)) (w.L.size+1)) (w.L.size+2)
inductive OJ:bq->Prop
 |bool (b:Bool):OJ (.bool b)
 |int (k:IntKind) (n:Int):OJ (.int k n)
def OJ.rel {v V:bq}(h:OJ v){S S':FO}{β Ef:Ey}(r:Ee S β v V):Ee S' Ef v V:=by
 cases h with
 |bool b=>cases r;exact .bool b
 |int k n=>cases r;exact .int k n
def Hw (o:Obj):Prop:=∃(l:List bq) (t:hZ) (f:Nat×Nat),o=.cells l.LK t f/\∀v∈l,OJ v
def Hw.rel {o O:Obj}(h:Hw o){S S':FO}{Ck QY:k0->Prop}{β Ef:Ey}(r:Fb S Ck β o O):Fb S' QY Ef o O:=by
 obtain⟨l,t,f,rfl,hl⟩:=h;cases r with
 |cells a z=>exact .cells ⟨a.size,λi v V h1 h2=>(hl v (By (by simpa using h1))).rel (a.at_ i v V h1 h2)⟩ z
def LF (β:Ey)(tl:Nat->Bool)(oK:Nat->Obj)(W:U):Prop:=∀b B,β b B->tl b=bb->∃O,W.L[B]?=bc O/\∀(S:FO) (Ck:k0->Prop) (Ef:Ey),Fb S Ck Ef (oK b) O
structure Jo (SB EI BB:eF->Bool)(w:U)(kx tl:Nat->Bool)(Kc:Nat->Prop)(Ok:U->Prop)(cb sb n c:Nat)(f:Fn)(fx fc:Array bq)(sets kind:Nat->Int)(F8:Nat->Bool)(oK oE:Nat->Obj):Prop where
 hB:BB 49=bb
 MF:BB 85=bw
 QK:SB 49=bb
 QL:SB 84=bb
 L0:MR PQ EI EI BB 0
 b0:∀f,EI f=bb->BB f=bb
 QM:EI 82=bb
 todo:∀H K,Fj (Gt J SB H bb bb (E0 K)) (.inRegion o8 []::T8) (.inRegion o8 []::T8)
 only:fz (MG kx tl w) Ok
 ok:Ok (GR kx tl w cb (.func f fx fc))
 NU:∀w',Ok w'->w'.S ⟨w.L.size+1,0,Y⟩=bc (.S (bc ⟨cb,0,Y⟩))
 hold:∀w',Ok w'->w'.S ⟨cb,2,Y⟩=bc (.slice (bc ⟨sb,0,Y⟩) n c)/\∃v,w'.S ⟨cb,0,Y⟩=bc v
 KS:∀w' i,Ok w'->i<n->w'.S ⟨sb,i,Y⟩=bc (.int .u8 (sets i))
 Gs:∀w' b,Ok w'->Kc b->kx b=bb/\∃o,w'.L[b]?=bc o/\Fb (SP EI Du) (CK D7 EI bw) (E0 Kc) o o
 cK:Kc cb
 ks:kx cb=bb/\kx sb=bb
 QO:∀b,kx b=bb->tl b=bw/\∃(l:List bq) (t:hZ) (g:Nat×Nat),w.L[b]?=bc (.cells l.LK t g)/\(∀i,g.1<=i->i<g.2->i<l.L)/\∀v∈l,∀H,Fo SB H (λb=>kx b=bb\/tl b=bb) v
 Ri:∀b,tl b=bb->w.L[b]?=bc (oK b)/\Hw (oK b)/\Hw (oE b)
 Jj:∀H,Fo SB H (λb=>kx b=bb\/tl b=bb) (.func f fx fc)
 wrap:∀i,i<n->IntKind.i64.wrap ((i:Int)+1)=((i+1:Nat):Int)
 KU:∀w' i,Ok w'->i<n->∀τ d,Calls D7 82 #[.S (bc ⟨cb,0,Y⟩),.S (bc ⟨w'.L.size,0,Y⟩),bh br 0] (on (w'.LK (first (sets i))) τ d) (λe w2=>∃v,e=.L v/\((∃y1 y2,v=.agg #[bh br (kind i),bh br y1,bh br y2])/\Ext (w'.LK (first (sets i))) w2))
 tp0:F8 0=bb
 Rg:∀i,i<n->kind i≠0->F8 (i+1)=F8 i
 which:∀i,i<n->kind i=0->F8 (i+1)=F8 i\/(F8 i=bb/\F8 (i+1)=bw)
 plain:∀i r w',i<n->kind i=0->F8 (i+1)=F8 i->Ok w'->¬MG kx tl w r->w'.L[r]?=bc (cw #[.int .u8 (sets i),.int .u8 0,.int .u8 0,.int .u8 0,.int .u8 0] 97 (0,5)) ->
  E5 J BB (JN J w.L.size λ_=>True) 0 (dy (eb J 84 (bT (w.L.size+1) (w.L.size+2) w.L.size r) .S) [bad]) w'
 owner:∀i r w',i<n->kind i=0->F8 i=bb->F8 (i+1)=bw->Ok w'->¬MG kx tl w r->w'.L[r]?=bc (cw #[.int .u8 (sets i),.int .u8 0,.int .u8 0,.int .u8 0,.int .u8 0] 97 (0,5)) ->
  E5 J BB (JN J w.L.size λw2=>∀b,tl b=bb->w2.L[b]?=bc (oE b)) 0 (dy (eb J 84 (bT (w.L.size+1) (w.L.size+2) w.L.size r) .S) [bad]) (H7 tl oK w')
section
variable {SB EI BB:eF->Bool} {w:U} {kx tl:Nat->Bool} {Kc:Nat->Prop} {Ok:U->Prop} {cb sb n c:Nat} {f:Fn} {fx fc:Array bq} {sets kind:Nat->Int} {F8:Nat->Bool} {oK oE:Nat->Obj}
def Jo.lt (I:Jo SB EI BB w kx tl Kc Ok cb sb n c f fx fc sets kind F8 oK oE){b:Nat}(h:kx b=bb\/tl b=bb):b<w.L.size:=by
 obtain h|h:=h
 .obtain⟨_,_,_,_,h1,_⟩:=I.QO b h;exact(AJ.1 h1).1
 .exact(AJ.1 (I.Ri b h).1).1
def R7 (BB:eF->Bool)(tl:Nat->Bool)(w:U)(tp:Bool)(MT:Bool)(H:Hid)(g:dn)(w':U):Prop:=MT=tp/\H=Ke tl w/\Ep J (Fp J BB) (EB.Left J 49 λv _=>v=.tuple #[]) g w'
def wD {BB:eF->Bool}(hB:BB 49=bb){a:Act}{w':U}(hd:a.defers=[]):Ep J (Fp J BB) (EB.Left J 49 λv _=>v=.tuple #[]) (dy (((base 49).at a [.inRegion Kv [0]]).finish (.tuple #[])) [bad]) w' :=
 yw hB EB.Left.same hd (by simp) λa' ha'=>⟨w',.tuple #[],_,⟨rfl,rfl,rfl⟩,rfl,rfl,rfl,rfl,ha',rfl,ko,iv,results_none rfl _ _ _⟩
def Jo.ctx (I:Jo SB EI BB w kx tl Kc Ok cb sb n c f fx fc sets kind F8 oK oE)(lib:∀H,Lib PP SB H bb BB 0){L:Lib.WgLink}(Wl:Lib.WgLib J L)(MF:L.done=85)(hT:L.tWg=148)(a6:Go.Co.Barred PP SB bb L.done (Lib.doneFn L))
    {Wg:Nat} {β:Ey} {Pr:Ey} {T:List gR} {zN:Nat->Prop} (aA:∀b B,Pr b B->tl b=bb->zN B) (aB:∀b,tl b=bb->∃B,Pr b B) (a8:∀b B,Pr b B->MG kx tl w b) (hPw:Pr w.L.size Wg) (aC:¬zN Wg) (a7:∀b B,tl b=bb->(Pr b B↔β b B)) :
    Ctx SB EI BB (Ke tl w) 0 Wg zN (LF β tl oK) (LF β tl oE) Pr T (R7 BB tl w (F8 n)) (MG kx tl w) Kc Ok (w.L.size+1) (w.L.size+2) w.L.size cb sb n c (.func f fx fc) sets kind F8:=by
  have hkb:MG kx tl w (w.L.size+1)/\MG kx tl w (w.L.size+2)/\MG kx tl w w.L.size:=⟨.inr (.inr (.inr (.inl rfl))),.inr (.inr (.inr (.inr rfl))),.inr (.inr (.inl rfl))⟩
  refine { hB := I.hB, QK := I.QK, QL := I.QL, L0 := I.L0, b0 := I.b0, QM := I.QM, todo := fun K => I.todo _ K, Fg := rfl, bl := rfl, only := I.only, NU := I.NU, KS := I.KS, Gs := fun w' b h1 h2 => ?_, cK := I.cK,
           kb := ⟨hkb.1, hkb.2.1, hkb.2.2, .inl I.ks.1, .inl I.ks.2⟩, Jj := ((I.Jj _).LT fun b hb => hb.S .inl fun h => .inr (.inl h)), wrap := I.wrap, KU := I.KU, Rg := I.Rg, fin := fun a w' hd _ => ⟨rfl, rfl, wD I.hB hd⟩,
           Me:=λtp H g w1 W1 hs h=>⟨h.1,h.2.1,h.2.2.same (λ_ _ _ _ x=>x) EB.Left.same hs⟩,go:=λi hi hk K a r x X W ga=>?_ }
  · obtain⟨h3,h4⟩:=I.Gs w' b h1 h2
    exact⟨.inl h3,h4⟩
  · have hm:=ga.KV I.only
    have zT:¬MG kx tl w r:=λh=>ga.rK.1 (ga.head.sub _ h);obtain e|⟨e1,e2⟩:=I.which i hi hk
    · rw[e]
      exact uk lib Wl MF hT a6 I.only hkb hPw a8 ga I.MF (I.plain i r _ hi hk e hm.ok zT (dm ga.rb))
    · rw[e2]
      rw[e1] at ga ⊢;refine ul (tl:=tl) (oK:=oK) (Ψk:=λw2=>∀b,tl b=bb->w2.L[b]?=bc (oE b)) lib Wl MF hT a6 I.only hkb hPw a8 ga aA aB (λb h=>by simp[h]) aC (λW hW b B hb h=>hW b B ((a7 b B h).1 hb) h) (λx W hH zX hw hk b B hb h=>?_) I.MF (I.owner i r _ hi hk e1 e2 hm.ok zT (dm ga.rb));have hp:=zX b B ((a7 b B h).2 hb);obtain⟨o,O,h1,h2,h3⟩:=hw.F4 b B hp (by rw[hH];simp[Dw,h]);rw[hk b h] at h1;cases h1
      exact⟨O,h2,λS Ck Ef=>(I.Ri b h).2.2.rel h3⟩
end
def step_collected {P:jx}{main:Bool}{b:gR}{a:Act}{todo:List Item}{cs:List gR}{w:U}{D:Nat}{l ds:List j0}{x:Array bq}(hd:a.defers={ target:=.collected D,args:=x }::ds)(hD:w.L[D]?=bc (.S (bc l))) :
  ∃es,kv P main (dy { b.at a todo with mode:=.returning } cs) w=.go (dy { b.at ⟨a.tmps,l++ds⟩ todo with mode:=.returning } cs) { w with heap:=w.L.L D (.S Y) } es:=by
 have hr:(eG D).run P w=.ok l { w with heap:=w.L.L D (.S Y) }:=by
  simp[eG,getObj,setObj,Sem.run,hD,Result.andThen]
 exact⟨seen P b.fn ((eG D).events P w #[]),by simp[dy,kv,unwind,Frame.at,hd,hr,GStep.after]⟩
noncomputable abbrev iN (b2 b3 b4 r:Nat):Array Value:=(dI b2 b3 b4 r).tmps
def yB:codeOk D7 Kn bw bb P7=true:=by kernel_rfl
def mS {BB:eF->Bool}(hL:Nl BB){T0 K0:Nat->Prop}{b2 b3 b4 r:Nat}{H:Hid}(hn:H.bl=bw){Ψ:U->Prop}{w:U}(hk:K0 b2/\K0 b3/\K0 b4/\K0 r)(hh:∀b,K0 b->H b=bb->H.Fg=bb/\w.L[b]?=bc (.coro Y))(aD:∀b,H b=bb->b<w.L.size)
  (a7:∀b,K0 b->H b=bw->∃o,w.L[b]?=bc o/\Fb (SP Kn H) (CK D7 Kn bw) (E0 K0) o o)
  (aF:∀τ d,P7.wp D7 (λe a' w'=>(e=.L\/e=.ret)/\(e=.L/\Ψ w'/\∃D,a'.defers=[{ target:=.collected D,args:=#[] },LU b4]/\¬T0 D/\w'.L[D]?=bc (.S (bc [])))) (dI b2 b3 b4 r) (on w τ d))
  (a6:∀W W',Ψ W->(∀b,T0 b->W'.L[b]?=W.L[b]?)->Ψ W') :
  E5 J BB (JN J b4 Ψ) 0 (dy (eb J 84 (bT b2 b3 b4 r) .S) [bad]) w:=by
 have hB:BB (baseD 84).fn=true:=hL.sub 84 (by decide);have hQ:∀g w W,EE w W->JN J b4 Ψ g w->JN J b4 Ψ g W:=by
  rintro g w W s ⟨c,e1,e2,e3,e4,e5,e6⟩;exact⟨c,e1,e2,e3,e4,e5,a6 w W e6 λb _=>by rw[s.1]⟩
 rw[enter_atD _ gg rfl];have e0:(bT b2 b3 b4 r++Array.replicate (Tryz.f84.ntmps-(bT b2 b3 b4 r).size) undef)=iN b2 b3 b4 r:=by
  rw[Tryz.ntmps84];rfl
 rw[e0];refine au hQ hB (EA _ _) ?_;refine aC hQ hB (EA _ _) ?_;simp only[AZ,AX,Bc,Nat.reduceAdd,Bd,j1,List.range.loop];refine az hQ hB (by kernel_rfl) λτ d=>?_;rw[stepG_defer rfl rfl (by decide) rfl];simp only[kn];refine⟨EA _ _,w,Dt,?_⟩;refine aB hQ hB (EA _ _) ?_;have eA:∀o:Option Tmp,o=Y->(Act.put ⟨iN b2 b3 b4 r,dcall 85 (#[Operand.tmp 0].map (Act.mk (iN b2 b3 b4 r) []).eval)::[]⟩ o undef)=dI b2 b3 b4 r:=by
  rintro o rfl;simp[Act.put,iN,dI,dcall,LU,Act.eval]
 have hI:∀v∈[bn (bc ⟨b4,0,Y⟩),.S (bc ⟨b2,0,Y⟩),.S (bc ⟨r,0,Y⟩),.S (bc ⟨b3,0,Y⟩),undef,undef,undef,undef,undef,undef,undef,undef],Fo Kn H K0 v:=λv hv=>by
  simp only[AT,AQ,or_false] at hv;obtain rfl|rfl|rfl|rfl|rfl|rfl|rfl|rfl|rfl|rfl|rfl|rfl:=hv
  .exact Fo.ptr hk.2.2.1 _ _
  .exact Fo.ptr hk.1 _ _
  .exact Fo.ptr hk.2.2.2 _ _
  .exact Fo.ptr hk.2.1 _ _
  all_goals exact Fo.undef
 have zR:EC D7 Kn H bw (E0 K0) ((baseD 84).at (dI b2 b3 b4 r) [.code P7]) ((baseD 84).at (dI b2 b3 b4 r) [.code P7]):=by
  refine⟨rfl,Fs hI,.cons (.code yB) .nil,.cons ?_ .nil,.run,rfl,⟨(by show CallKind.deferred≠.early;decide),(by show Kn 84=bb;decide)⟩,.none⟩;refine .fn (.func (.inr (by decide))) (Fs (l:=[]) (by simp)) (Fs (l:=[.S (bc ⟨b4,0,Y⟩)]) λv hv=>?_);simp only[AT,AQ,or_false] at hv;subst hv;exact Fo.ptr hk.2.2.1 _ _
 have a8:=(yp (H:=H) hL hn).seg (b:=baseD 84) (a:=dI b2 b3 b4 r) (c:=P7) (k:=[]) (C:=bad) (cs:=[]) (Q:=JN J b4 Ψ) (w:=w) (K0:=K0) zR (λ_ _=>Bg _) (Bg _) hh aD
  a7 (λs h=>by cases h) (λ_ _ _ _ _ _ _ _ _ _ _ h=>by cases h) (.inr ⟨_,_,Sq.put gg rfl,rfl⟩) hQ
  (N:=λe a' w'=>e=.L/\Ψ w'/\∃D,a'.defers=[{ target:=.collected D,args:=#[] },LU b4]/\¬T0 D/\w'.L[D]?=bc (.S (bc []))) aF ?_ (λa' w' todo h _=>by cases h.1)
 .have e9:=eA (#[({ dst:=Y,op:=Op.defer { callee:=Callee.value (Operand.func 85),args:=#[Operand.tmp 0],argTypes:=#[148] },type:=0,pos := "wolf.go:243",after:=#[],guard:=Y }:Oper)][0].L) rfl;rw[e9];exact a8
 .rintro a' w' ⟨_,aA,D,hd,hD,hDw⟩;show E5 J BB (JN J b4 Ψ) 0 _ w';refine az hQ hB (by kernel_rfl) λτ d=>?_;rw[stepG_end];simp only[kn];refine⟨EA _ _,w',Dt,?_⟩;refine dY hQ hB (by kernel_rfl) λτ d=>?_;obtain⟨es,e1⟩:=step_collected (P:=J) (main:=bb) (b:=baseD 84) (todo:=[]) (cs:=[bad]) (w:=on w' τ d) hd hDw;rw[e1];simp only[kn];refine⟨EA _ _,{ w' with heap:=w'.L.L D (.S Y) },⟨rfl,rfl,rfl⟩,?_⟩
  refine dY hQ hB (by kernel_rfl) λτ d=>?_;rw[stepG_unwind_enter (f:=85) (args:=#[.S (bc ⟨b4,0,Y⟩)]) (ds:=[]) rfl kp (by kernel_rfl) rfl];simp only[kn];refine⟨EA _ _,{ w' with heap:=w'.L.L D (.S Y) },⟨rfl,rfl,rfl⟩,.fin ?_⟩;rw[<-enter_atD _ kp rfl];exact⟨_,rfl,rfl,rfl,rfl,rfl,a6 w' _ aA λb hb=>Br (λe:D=b=>hD (by rw[e];exact hb))⟩
open Go.ConcN
open Go.ConcR (WgAt wgBlock)
section
variable {SB EI BB Rj R8:eF->Bool} {Mg:Bool} {kx tl:Nat->Bool} {Kc:Nat->Prop} {Ok:U->Prop} {cb sb n c:Nat} {f:Fn} {fx fc:Array bq} {sets kind:Nat->Int} {F8:Nat->Bool} {oK oE:Nat->Obj}
 {zO:Nat->Prop} {Kp:IB} {x:Lone} {A:dn} {W:U}
abbrev II (cb:Nat)(f:Fn)(fx fc:Array bq):Array Value:=#[.S (bc ⟨cb,0,Y⟩),.func f fx fc]
noncomputable def inner (kx tl:Nat->Bool)(cb:Nat)(f:Fn)(fx fc:Array bq)(x:Lone)(A:dn):Lone :=
 ⟨Go.EB.Fc (eb J 49 (II cb f fx fc) .L) [bad],(sink kx tl x.w).LK (.coro Y),Ke tl x.w,cut (λb=>kx b=bb\/tl b=bb) x.β,A.callers⟩
def jS:((sink kx tl x.w).LK (.coro Y)).L.size=x.w.L.size+1:=by rw[aM,eJ]
def iz {b:Nat}(hb:b<x.w.L.size):((sink kx tl x.w).LK (.coro Y)).L[b]?=(sink kx tl x.w).L[b]?:=by
 rw[aH,eJ,AN (by omega)]
def Mh (I:Jo SB EI BB x.w kx tl Kc Ok cb sb n c f fx fc sets kind F8 oK oE)(lib:∀H,Lib PP SB H bb BB 0){cE:k0}(aD:Tryz.f49.body=bc cE)(aC:codeOk J Rj Mg bb cE=bw)
  (ht:Tw PP Rj R8 Mg 0 zO Kp x A W) (hH:∀b,x.H b=bw) {fr:gR} {cs:List gR} (hg:x.g=cm PP 49 (II cb f fx fc) fr cs) :
  Fx PP SB BB bb (inner kx tl cb f fx fc x A) A/\GQ PP SB bb 0 (inner kx tl cb f fx fc x A) W/\(∀b,tl b=bb->Ro (inner kx tl cb f fx fc x A).w b\/(inner kx tl cb f fx fc x A).H b=bb)/\∀b,kx b=bb->Ro (inner kx tl cb f fx fc x A).w b:=by
 have a7:=ht.gl.top;rw[hg] at a7;obtain⟨ARGS,eA,aA⟩:=Mf (fa:=ko) (fb:=ko) iv iv aD aC rfl (by rw[Tryz.ntmps49];simp) a7;have aF:Ei (SP SB (Ke tl x.w)) (E0 λb=>kx b=bb\/tl b=bb) (II cb f fx fc) (II cb f fx fc):=Fs λv hv=>by
  simp only[AT,AQ,or_false] at hv;obtain rfl|rfl:=hv
  .exact .ptr (.inl I.ks.1) _ _
  .exact I.Jj _
 refine⟨⟨?_,.base,⟨rfl,ht.gl.status.2⟩,⟨rfl,ht.gl.dying.2⟩,⟨rfl,ht.gl.offers.2⟩⟩,⟨⟨λh1 h2=>ht.wl.FH.fn h1.2 h2.2,λh1 h2=>ht.wl.FH.inj h1.2 h2.2,λ_=>⟨Bg _,Bg _⟩⟩,⟨Bg _,Bg _⟩,?_,?_,?_,?_⟩,λb hb=>.inr (by simp[inner,hb]),λb hb=>?_⟩
 .rw[eA];exact Fl (P:=PP) (lib _) (.inl I.QK) (aA.cut rfl aF) .L (by decide)
 .rintro b B ⟨hk,hb⟩ hh;have a6:(tl b||b==x.w.L.size)=false:=hh;simp only[CI] at a6;have a8:kx b=true:=hk.resolve_right (by simp[a6.1]);obtain⟨e1,l,t,g,e2,e3,e4⟩:=I.QO b a8;obtain⟨o,O,q1,q2,q3⟩:=ht.wl.F4 b B hb (hH b);rw[e2] at q1;cases q1;have zY:=I.lt (.inl a8);cases q3 with
  |cells a z =>
   refine⟨_,_,(iz zY).trans (gh e2 a8 e1),q2,.cells (a.cut rfl (Fs λv hv=>e4 v hv _)) λi h1 h2=>?_⟩;obtain⟨z1,z2⟩:=z i h1 h2;exact⟨Bg _,by simpa using e3 i z1 z2⟩
 .rintro b B ⟨hk,hb⟩ hh;have zY:=I.lt hk;have a6:(tl b||b==x.w.L.size)=true:=hh;have aB:tl b=true:=by
   simp only[Bq,beq_iff_eq] at a6;exact a6.resolve_right (by omega)
  refine⟨(iz zY).trans (kN zY aB),λ_=>?_,λh=>by cases h⟩;obtain⟨e1,⟨l,t,g,e2,e3⟩,_⟩:=I.Ri b aB;obtain⟨o,O,q1,q2,q3⟩:=ht.wl.F4 b B hb (hH b);rw[e1,e2] at q1;cases q1;cases q3 with
  |cells a z=>exact⟨_,_,_,q2⟩
 .intro b hb;have hb':(tl b||b==x.w.L.size)=true:=hb;show b<((sink kx tl x.w).LK (.coro Y)).L.size;rw[jS];simp only[Bq,beq_iff_eq] at hb';obtain h|h:=hb'
  .have:=I.lt (.inr h);omega
  .omega
 .exact ht.wl.env
 .obtain⟨e1,l,t,g,e2,e3,e4⟩:=I.QO b hb;exact⟨_,_,_,(iz (I.lt (.inl hb))).trans (gh e2 hb e1),λi hi=>⟨Bg _,hi⟩⟩
def Qj {p:jx}{H:Hid}{zZ:Bool}{β:Ey}{g:eF}{a:Act}{ops:Array Oper}{l:List Nat}{k:List Item}{F:gR}(h:EC p SB H zZ β ((base g).at a (.inRegion ops l::k)) F) :
  ∃(a':Act) (K:List Item),F=(base g).at a' (.inRegion ops l::K):=by
 obtain⟨h1,h2,h3,h4,h5,h6,h7,h8⟩:=h;obtain⟨f1,f2,f3,f4,f5,f6,f7⟩:=F;dsimp only[Frame.at,base] at h1 h2 h3 h4 h5 h6 h7 h8;subst h1 h6;cases h5;cases h8;cases h3 with
 |cons hi _ =>
  cases hi
  exact⟨⟨f2,f4⟩,_,rfl⟩
noncomputable abbrev gA (cb b2 b3:Nat)(p1:bq):Act:=⟨#[.S (bc ⟨cb,0,Y⟩),p1,.S (bc ⟨b2,0,Y⟩),.S (bc ⟨b3,0,Y⟩),undef,undef,undef,undef,undef,undef,undef,undef,undef,undef,undef,undef,undef,undef,undef,undef,undef,undef,undef,undef,undef,undef,undef],[]⟩
noncomputable abbrev kA:List Item:=[.code (.seq (.seq (.L 2 o2 bw) (.LE 0 (.loop eL))) (.L 10 Kv bw))]
def boxed (w:U)(cb:Nat)(p1:bq):World:=(w.LK (cw #[.S (bc ⟨cb,0,Y⟩)] 75)).LK (cw #[p1] 99)
def QA (cb:Nat)(p1:bq)(w0:U)(g:dn)(w:U):Prop:=g=G ((base 49).at (gA cb w0.L.size (w0.L.size+1) p1) (.inRegion o1 [0]::kA)) [bad]/\EE (boxed w0 cb p1) w
def MX {P:EK}{zZ:Bool}(hBB:BB 49=bb){x:Lone}{a:dn}{W:U}{cb b2 b3 b4:Nat}{p1:bq}(hg:x.g=G ((base 49).at (gA cb b2 b3 p1) (.inRegion o1 [0]::kA)) [bad])(zQ:Fx P SB BB zZ x a)
  {β:Ey} (zX:x.β.le β) (hb4:β b4 W.L.size) :
  ∃a',kv J bb a W=.go a' (W.LK (cw #[.int .u64 0,.int .u32 0] 148)) #[]/\Fx P SB BB zZ ⟨G ((base 49).at ((gA cb b2 b3 p1).put (bc 4) (.S (bc ⟨b4,0,Y⟩))) (.inRegion o1 []::kA)) [bad],x.w,x.H,β,x.T⟩ a':=by
 have a6:=zQ.top.Jm (by rw[hg];exact hBB);have zW:=zQ.callers;have ea:=iy zQ;rw[hg] at a6 zW;obtain⟨A,K,eA⟩:=Qj a6;refine⟨_,by rw[ea,eA];exact qa,?_⟩;have hf:=bp (a6.LT zX) (v:=.S (bc ⟨b4,0,Y⟩)) (V:=.S (bc ⟨W.L.size,0,Y⟩)) (.ptr 0 Y hb4);rw[eA] at hf;have e1:(o1[0]?).bind (·.L)=bc 4:=rfl;change EC _ _ _ _ _ (((base 49).at (gA cb b2 b3 p1) (.inRegion o1 [0]::kA)).finish _) _ at hf
 rw[jk,jk,e1] at hf;exact⟨.on hf,zW.LT λc C h=>h.LT zX,⟨rfl,rfl⟩,⟨rfl,rfl⟩,⟨rfl,rfl⟩⟩
def wE {cb:Nat}{p1:bq}{w0:U}(g:dn)(w W:U)(h:EE w W)(q:QA cb p1 w0 g w):QA cb p1 w0 g W:=⟨q.1,q.2.trans h⟩
def qj (hB:BB 49=bb){w:U}:Ep J (Fp J BB) (QA cb (.func f fx fc) w) (Go.EB.Fc (eb J 49 (II cb f fx fc) .L) [bad]) w :=
 we hB wE (by simp) (.fin ⟨rfl,rfl,rfl,rfl⟩)
def bu (w:U)(p1:bq)(b:Nat):(GR kx tl w cb p1).L[b]?=if b=w.L.size+2 then bc (cw #[p1] 99 (0,1)) else if b=w.L.size+1 then bc (cw #[.S (bc ⟨cb,0,Y⟩)] 75 (0,1)) else if b=w.L.size then bc (.coro Y) else(sink kx tl w).L[b]?:=by
 have z:=eJ kx tl w;have g:∀b,((((sink kx tl w).LK (.coro Y)).LK (cw #[.S (bc ⟨cb,0,Y⟩)] 75)).LK (cw #[p1] 99)).L[b]?=if b=w.L.size+2 then bc (cw #[p1] 99) else if b=w.L.size+1 then bc (cw #[.S (bc ⟨cb,0,Y⟩)] 75) else if b=w.L.size then bc (.coro Y) else(sink kx tl w).L[b]?:=λb=>by
  rw[aH,aM,aM,aH,aM,aH,z]
 unfold GR;by_cases h2:b=w.L.size+2
 .subst h2;rw[AP rfl];exact dm (c:=#[p1]) (t:=99) (f:=(0,0)) (by rw[fy _ (by omega),g,AP rfl])
 .rw[AN h2,fy _ h2];by_cases h1:b=w.L.size+1
  .subst h1;rw[AP rfl];exact dm (c:=#[.S (bc ⟨cb,0,Y⟩)]) (t:=75) (f:=(0,0)) (by rw[g,AN (by omega),AP rfl])
  .rw[AN h1,fy _ h1,g,AN h2,AN h1]
def et (w:U)(p1:bq):(GR kx tl w cb p1).L.size=w.L.size+3:=by
 unfold GR;rw[cV,cV,aM,aM,aM,eJ]
def rV (w:U)(p1:bq):(GR kx tl w cb p1).os=w.os:=by
 unfold GR;rw[gG,gG];rfl
def qk (I:Jo SB EI BB x.w kx tl Kc Ok cb sb n c f fx fc sets kind F8 oK oE):Head SB (Ke tl x.w) 0 (MG kx tl x.w) Ok (MG kx tl x.w) (GR kx tl x.w cb (.func f fx fc)):=by
 have hk:∀b,kx b=bb\/tl b=bb->b<x.w.L.size:=λb h=>I.lt h;refine⟨λ_ h=>h,λb hb hh=>?_,λb hb hh=>?_,λ_ _=>Bg _,λb hb=>?_,λb hb=>?_,Bg _,I.ok⟩
 .have a6:(tl b||b==x.w.L.size)=false:=hh;simp only[CI,beq_eq_false_iff_ne] at a6;rw[bu];unfold Ro;rw[bu];obtain h|h|h|h|h:=hb
  .have hl:=hk b (.inl h);obtain⟨e1,l,t,g,e2,e3,e4⟩:=I.QO b h;rw[AN (by omega),AN (by omega),AN (by omega),gh e2 h e1];exact⟨⟨_,_,_,rfl,λi hi=>⟨Bg _,hi⟩⟩,_,rfl,.cells (Fs λv hv=>(e4 v hv _).LT λb hb=>hb.S .inl λh=>.inr (.inl h)) λi h1 h2=>⟨h1,h2⟩⟩
  .rw[a6.1] at h;cases h
  .exact AS h a6.2
  .subst h;rw[AN (by omega),AP rfl]
   exact⟨⟨_,_,_,rfl,λi hi=>⟨Bg _,hi⟩⟩,_,rfl,.cells (Fs (l:=[_]) λv hv=>by
    simp only[AT,AQ,or_false] at hv;subst hv
    exact .ptr (.inl I.ks.1) _ _) λi h1 h2=>⟨h1,h2⟩⟩
  .subst h;rw[AP rfl]
   exact⟨⟨_,_,_,rfl,λi hi=>⟨Bg _,hi⟩⟩,_,rfl,.cells (Fs (l:=[_]) λv hv=>by
    simp only[AT,AQ,or_false] at hv;subst hv
    exact(I.Jj _).LT λb hb=>hb.S .inl λh=>.inr (.inl h)) λi h1 h2=>⟨h1,h2⟩⟩
 .have a6:(tl b||b==x.w.L.size)=true:=hh;simp only[Bq,beq_iff_eq] at a6;rw[bu];obtain h|h:=a6
  .have hl:=hk b (.inr h);rw[AN (by omega),AN (by omega),AN (by omega),kN hl h]
  .subst h;rw[AN (by omega),AN (by omega),AP rfl]
 .rw[et];obtain h|h|h|h|h:=hb
  .have:=hk b (.inl h);omega
  .have:=hk b (.inr h);omega
  all_goals omega
 .have hb':(tl b||b==x.w.L.size)=true:=hb;simp only[Bq,beq_iff_eq] at hb';rw[et];obtain h|h:=hb'
  .have:=hk b (.inr h);omega
  .omega
def oF (tpn:Bool)(oK oE:Nat->Obj):Nat->Obj:=if tpn then oK else oE
def Lk {sl:Option (Nat×Nat)}{gs:Array dn}{t:Trace}{q:Nat->Nat}(I:Jo SB EI BB x.w kx tl Kc Ok cb sb n c f fx fc sets kind F8 oK oE)(lib:∀H,Lib PP SB H bb BB 0){cE:k0}(cV:Tryz.f49.body=bc cE)(cH:codeOk J Rj Mg bb cE=bw)
  {L:Lib.WgLink} (Wl:Lib.WgLib J L) (cX:L.add=83) (h94:L.wait=86) (MF:L.done=85) (hT:L.tWg=148) (bA:Go.Co.Barred PP SB bb L.add (Lib.addFn L)) (bW:Go.Co.Barred PP SB bb L.wait (Lib.waitFn L)) (bD:Go.Co.Barred PP SB bb L.done (Lib.doneFn L))
  (hb:Jw J zO gs W t q) (ht:Tw PP Rj R8 Mg 0 zO Kp x A W) (h0:gs[0]?=bc A) {fr:gR} {cs:List gR} (hg:x.g=cm PP 49 (II cb f fx fc) fr cs) (hc:fw fr) (hH:∀b,x.H b=bw)
  (aV:∀b,kx b=bb\/tl b=bb->∃B,x.β b B) (hKp:∀b B,x.β b B->tl b=bb->¬Kp.at_ B) (d3:gs.size+n<=2147483647) :
  ∃N m' t',runNT J N (eC gs W sl) t=(.next m',t')/\∃gs' W' sl' q' A' aI,m'=eC gs' W' sl'/\gs'[0]?=bc A'/\gs'.size<=gs.size+n/\Jw J aI gs' W' t' q' /\
   Tw PP Rj R8 Mg 0 aI Kp ⟨back fr cs,H7 tl (oF (F8 n) oK oE) x.w,x.H,x.β,x.T⟩ A' W'/\(W'.os=W.os/\W'.output=W.output)/\W.L.size<=W'.L.size/\∀B,aI B->zO B\/W.L.size<=B:=by
 obtain⟨s1,s2,s3,s4⟩:=Mh I lib cV cH ht hH hg;have zW:=ht.gl.callers;rw[hg] at zW;obtain⟨FR,CS,cY,r1,r2⟩:=JM zW hc;have a8:∀b B,x.β b B->¬zO B:=λb B hb hd=>by have:=ht.dead b B hb hd;rw[hH] at this;cases this
 have aC:∀b B,x.β b B->b<x.w.L.size/\B<W.L.size:=λb B h=>ht.wl.lt h;have bC:∀b,kx b=bb\/tl b=bb->b<x.w.L.size:=λb h=>I.lt h;have aP:((sink kx tl x.w).LK (.coro Y)).L.size=x.w.L.size+1:=jS;have kx0:∀b B,(inner kx tl cb f fx fc x A).β b B->(inner kx tl cb f fx fc x A).H b=bb\/Ro (inner kx tl cb f fx fc x A).w b:=λb B hb=>hb.1.S (λh=>.inr (s4 b h)) λh=>.inl (by simp[inner,h])
 obtain⟨N1,m1,t1,zi,c4,W1,bE,q1,x1,a1,rfl,g1,z1,b1,aW,Q1,bF,eT1,c5,os1,sz1,sz1',bG⟩:=Kq (P:=PP) (SB:=SB) (BB:=BB) (zZ:=bb) (Gn:=0) (zO:=zO) (Kp:=⟨λB=>B<W.L.size,W,0⟩) lib
  (H:=Ke tl x.w) (T:=A.callers) (β:=cut (λb=>kx b=bb\/tl b=bb) x.β) (Q:=QA cb (.func f fx fc) ((sink kx tl x.w).LK (.coro Y))) (os:=W.os) (ou:=W) (n:=gs.size) (b0:=x.w.L.size+1) (B0:=W.L.size) _ (eC gs W sl) t
  ⟨gs,W,sl,q,inner kx tl cb f fx fc x A,A,rfl,h0,rfl,hb,⟨s1,s2,rfl,λb B hb hd=>AS hd (a8 b B hb.2),λB hB=>⟨hB,rfl⟩,λb B hb _=>kx0 b B hb⟩,qj I.hB,rfl,rfl,Ey.le_refl _,⟨rfl,rfl⟩,⟨AK _,BJ aP.LH,λb B h=>.inl h⟩,rfl⟩
 obtain⟨Q1g,bH⟩:=Q1;rw[aP] at Q1g;obtain⟨N2,m2,t2,zy,d4,d2,aQ,q2,cA,g2,z2,b2⟩:=Lj (P:=PP) (sl:=bE) b1 g1 aW.gl.status.2;obtain⟨W2,zm⟩:∃W2,W2=W1.at d2:=⟨_,rfl⟩;have aR:=aW.at d2;rw[<-zm] at cA b2 aR;have W2h:W2.L=W1.L:=by rw[zm];rfl
 have W2o:W2.os=W1.os/\W2.output=W1.output:=by rw[zm];exact⟨rfl,rfl⟩
 have aU:∀b B,tl b=bb->(x1.β b B↔x.β b B):=λb B h=>by
  obtain⟨B',cB⟩:=aV b (.inr h);have h1:=c5 b B' ⟨.inr h,cB⟩;exact⟨λh2=>by rw[aW.wl.FH.fn h2 h1];exact cB,λh2=>c5 b B ⟨.inr h,h2⟩⟩
 have aX:∀B,¬x1.β x.w.L.size B:=λB h=>by
  obtain h|h:=bG _ _ h
  .have:=bC _ h.1;omega
  .omega
 have lt1:∀b B,x1.β b B->B<W2.L.size:=λb B h=>by rw[W2h];exact(aW.wl.lt h).2
 have bI:∀b B,x1.β b B->B<W.L.size->x.β b B/\(kx b=bb\/tl b=bb):=λb B h hB=>by
  obtain h|h:=bG _ _ h
  .exact⟨h.2,h.1⟩
  .omega
 obtain⟨a6,aJ⟩:∃a6,a6=more x1.β x.w.L.size W2.L.size:=⟨_,rfl⟩;have cC:x1.β.le a6:=by rw[aJ];exact oZ _ _ _
 have aS:∀b B,a6 b B->x1.β b B\/(b=x.w.L.size/\B=W2.L.size):=λb B h=>by rw[aJ] at h;exact h
 have aK:a6 x.w.L.size W2.L.size:=by rw[aJ];exact .inr ⟨rfl,rfl⟩
 obtain⟨A3,st3,gl3⟩:=MX I.hB Q1g aR.gl cC aK;obtain⟨W3,hW3⟩:∃W3,W3=W2.LK (cw #[.int .u64 0,.int .u32 0] 148):=⟨_,rfl⟩;rw[<-hW3] at st3;have bT:∀B,B<W2.L.size->W3.L[B]?=W2.L[B]?:=λB h=>by rw[hW3,aH,AN (by omega)]
 have cZ:W3.L.size=W2.L.size+1:=by rw[hW3,aM]
 have bJ:W3.os=W2.os/\W3.output=W2.output:=by rw[hW3];exact⟨rfl,rfl⟩
 obtain⟨aY,cI,z3,g3,lv3⟩:=b2.Rh (P:=PP) (sl:=aQ) g2 st3;have hr3:runNT J (N1+(N2+1)) (eC gs W sl) t=(.next (eC aY W3 aQ),t2):=by
  have e1:runNT J N1 (eC gs W sl) t=(.next (eC c4 W1 bE),t1):=zi;have e2:runNT J N2 (eC c4 W1 bE) t1=(.next m2,t2):=zy;have e3:stepT J m2=(.next (eC aY W3 aQ),#[]):=cA.trans cI;rw[cW e1,cW e2,pf e3,Array.append_empty]
 have wl3:EU (SP SB (Ke tl x.w)) (CK J SB bb) 0 a6 (GR kx tl x.w cb (.func f fx fc)) W3:=by
  have e1:EU (SP SB (Ke tl x.w)) (CK J SB bb) 0 x1.β x1.w W2:=by have:=aR.wl;rw[GQ,bF] at this;exact this
  have bx:∀b,x1.w.L[b]?=if b=x.w.L.size+2 then bc (cw #[.func f fx fc] 99) else if b=x.w.L.size+1 then bc (cw #[.S (bc ⟨cb,0,Y⟩)] 75) else if b=x.w.L.size then bc (.coro Y) else(sink kx tl x.w).L[b]?:=λb=>by
   rw[bH.1,boxed,aH,aM,aP,aH,aP,aH,eJ]
  have e2:=rR (c:=#[.int .u64 0,.int .u32 0]) (ty:=148) (f:=(0,0)) e1 (b:=x.w.L.size) aX (by simp) rfl (by rw[bx,AN (by omega),AN (by omega),AP rfl]) (Bg _);rw[<-aJ] at e2;rw[hW3];refine rU e2 ?_ ?_ λb=>?_
  .rw[et,bH.1,boxed,aM,aM,aP]
  .rw[rV,bH.2.1];rfl
  .rw[bu,bx];by_cases h2:b=x.w.L.size+2
   .rw[AP h2,AP h2];exact .inr ⟨_,_,_,_,rfl,rfl,λi h1 h2=>by simp at h2⟩
   .rw[AN h2,AN h2];by_cases h1:b=x.w.L.size+1
    .rw[AP h1,AP h1];exact .inr ⟨_,_,_,_,rfl,rfl,λi h1 h2=>by simp at h2⟩
    .rw[AN h1,AN h1];exact .inl rfl
 obtain⟨zN,a7⟩:∃zN:Nat->Prop,zN=λB=>∃b,tl b=bb/\x.β b B:=⟨_,rfl⟩;obtain⟨Pr,aA⟩:∃Pr:Ey,Pr=cut (MG kx tl x.w) a6:=⟨_,rfl⟩;have aB:∀B,zN B->B<W.L.size:=λB h=>by rw[a7] at h;obtain⟨b,_,h⟩:=h;exact(aC _ _ h).2
 have W23:W2.L.size=W1.L.size:=by rw[W2h]
 have n0:∀b,kx b=bb\/tl b=bb->b≠x.w.L.size:=λb h e=>by have:=bC b h;omega
 have aL:∀b B,tl b=bb->(a6 b B↔x.β b B):=λb B h=>⟨λh3=>by
  obtain h4|h4:=aS b B h3
  .exact(aU b B h).1 h4
  .exact AS h4.1 (n0 b (.inr h)),λh3=>cC _ _ ((aU b B h).2 h3)⟩
 have bK:∀b B,a6 b B->zN B->tl b=true:=λb B h hB=>by
  have zY:=aB B hB;rw[a7] at hB;obtain⟨b',h1,h2⟩:=hB;obtain h4|h4:=aS b B h
  .have h5:=(bI b B h4 zY).1;rw[ht.wl.FH.inj h5 h2];exact h1
  .omega
 have C:=I.ctx (β:=x.β) (Pr:=Pr) (T:=A.callers) (zN:=zN) (Wg:=W2.L.size) lib Wl MF hT bD (λb B h1 h2=>by rw[aA] at h1;rw[a7];exact⟨b,h2,(aL b B h2).1 h1.2⟩)
  (λb h=>by obtain⟨B,hB⟩:=aV b (.inr h);exact⟨B,by rw[aA];exact⟨.inr (.inl h),(aL b B h).2 hB⟩⟩) (λb B h=>by rw[aA] at h;exact h.1) (by rw[aA];exact⟨.inr (.inr (.inl rfl)),aK⟩) (λh=>by have:=aB _ h;omega)
  (λb B h=>by rw[aA];exact⟨λh1=>(aL b B h).1 h1.2,λh1=>⟨.inr (.inl h),(aL b B h).2 h1⟩⟩)
 have NP:=qk I;have sw:∀b,b<x.w.L.size+3->(GR kx tl x.w cb (.func f fx fc)).L[b]?≠none:=λb hb=>by rw[Ne,Array.getElem?_eq_none_iff,et];omega
 have scr : Qf PP SB BB bb 0 148 W2.L.size zN (LF x.β tl oK) (LF x.β tl oE) 83 86 x.w.L.size Pr A.callers (R7 BB tl x.w (F8 n)) n bb (Ke tl x.w)
   (G ((base 49).at ((gA cb (x.w.L.size+1) (x.w.L.size+1+1) (.func f fx fc)).put (bc 4) (.S (bc ⟨x.w.L.size,0,Y⟩))) (.inRegion o1 []::kA)) [bad]) (GR kx tl x.w cb (.func f fx fc)):=by
  obtain⟨e1,v,e2⟩:=I.hold _ I.ok;refine wj I.hB (dp C.Me n) (by simp) (I.NU _ I.ok) e1 e2 ?_
  have:=uj C (λb B h=>by rw[aA] at h;exact h.1) n 0 (by omega) (MG kx tl x.w) _ NP undef undef undef (.S (bc ⟨cb,0,Y⟩)) (.S (bc ⟨cb,0,Y⟩)) (.S (bc ⟨cb,2,Y⟩)) undef undef undef undef undef undef undef undef undef undef undef undef undef (λv hv=>by
   simp only[AT,AQ,or_false] at hv
   rcases hv with rfl|rfl|rfl|rfl|rfl|rfl|rfl|rfl|rfl|rfl|rfl<;>first|exact Ee.undef _ _|exact .ptr (.inl I.ks.1) _ _)
  rw[I.tp0] at this;exact this
 have bU:=aR.keep;have bL:∀B,B<W.L.size->W3.L[B]?=W.L[B]?:=λB hB=>by
  obtain⟨h1,h2⟩:=bU B hB;rw[bT B h1];exact h2
 have bV:W3.os=W.os/\W3.output=W.output:=⟨bJ.1.trans (W2o.1.trans os1.1),bJ.2.trans (W2o.2.trans os1.2)⟩;obtain⟨x3,hx3⟩:∃x3:Lone,x3=⟨G ((base 49).at ((gA cb (x.w.L.size+1) (x.w.L.size+1+1) (.func f fx fc)).put (bc 4) (.S (bc ⟨x.w.L.size,0,Y⟩))) (.inRegion o1 []::kA)) [bad],GR kx tl x.w cb (.func f fx fc),Ke tl x.w,a6,A.callers⟩:=⟨_,rfl⟩;have cJ:Fx PP SB BB bb x3 A3:=by rw[hx3];rw[bF,eT1] at gl3;exact gl3
 have b3:x3.β=a6:=by rw[hx3]
 have H3:x3.H=Ke tl x.w:=by rw[hx3]
 have wg3:∀b,a6 b W2.L.size->(Ke tl x.w).at_ b=true:=λb hb=>by
  obtain h|h:=aS _ _ hb
  .have:=lt1 _ _ h;omega
  .simp[h.1]
 have nd3:∀b B,a6 b B->¬zO B:=λb B hb hd=>by
  obtain h|h:=aS _ _ hb
  .have h1:=aR.dead b B h hd;rw[bF] at h1;simp only[Bq,beq_iff_eq] at h1;obtain h1|rfl:=h1
   .exact a8 b B ((aU b B h1).1 h) hd
   .exact aX _ h
  .have:=b2.LK B hd;omega
 have bM:∀b B,a6 b B->B<W.L.size->(Ke tl x.w).at_ b=bb\/Ro (GR kx tl x.w cb (.func f fx fc)) b:=λb B hb hB=>by
  obtain h|h:=aS _ _ hb
  .obtain h|h:=(bI b B h hB).2
   .have hl:=bC b (.inl h);obtain⟨q1,l,ty,g,q2,q3,q4⟩:=I.QO b h;refine .inr ?_;unfold Ro;rw[bu,AN (by omega),AN (by omega),AN (by omega),gh q2 h q1];exact⟨_,_,_,rfl,λi hi=>⟨Bg _,hi⟩⟩
   .exact .inl (by simp[h])
  .exact .inl (by simp[h.1])
 have bX:LF x.β tl oK W3:=λb B hb h=>by
  obtain⟨o,O,p1,p2,p3⟩:=ht.wl.F4 b B hb (hH b);obtain⟨q1,q2,_⟩:=I.Ri b h;rw[q1] at p1;cases p1;exact⟨O,(bL B (aC b B hb).2).trans p2,λS Ck Ef=>q2.rel p3⟩
 obtain⟨μ,hinv⟩:=Mb (P:=PP) (SB:=SB) (BB:=BB) (zZ:=bb) (Gn:=0) (ty:=148) (Wg:=W2.L.size) (zO:=zO) (zN:=zN) (Kp:=⟨λB=>B<W.L.size/\¬zN B,W,gs.size+n⟩) (Ψ0:=LF x.β tl oK) (Ψ2:=LF x.β tl oE) (fA:=83) (fW:=86) (wl:=x.w.L.size) (Pr:=Pr) (T:=A.callers) (Fn:=R7 BB tl x.w (F8 n))
  (gs:=aY) (W:=W3) (t:=t2) (q:=q2) (sl:=aQ) (x:=x3) (a:=A3) (tp:=bb) (k:=n) lv3 b2.past b2.LE (λi op h=>by rw[z3];exact b2.OI i op h) b2.LK (by show W3.L[W2.L.size]?=_;rw[hW3,aH,AP rfl];rfl) g3
  cJ (by rw[hx3];exact wl3) (by rw[H3]) (by rw[hx3]) (λb B h=>by rw[aA] at h;rw[b3];exact h.2) (λb hb=>by rw[b3] at hb;rw[H3];exact wg3 b hb) (λb B hb=>by rw[b3] at hb;exact nd3 b B hb) (λb B hb hB=>by rw[b3] at hb;rw[H3];simp[bK b B hb hB])
  (λB hB=>⟨⟨by have:=aB B hB;omega,λhd=>by rw[a7] at hB;obtain⟨b,_,h⟩:=hB;exact a8 _ _ h hd⟩,λh=>h.2 hB,by have:=aB B hB;omega⟩)
  (λB hB=>⟨by have:=hB.1;omega,by have:=hB.1;omega,bL B hB.1⟩) (λb B hb hB=>by rw[b3] at hb;have:=bM b B hb hB.1;rw[hx3];exact this) bV ⟨λ_=>bX,λh=>(by cases h)⟩ (by rw[hx3];exact scr) (by simp only;omega)
 have tzK:ax zN (LF x.β tl oK):=λW W' hW h b B h1 h2=>by
  obtain⟨O,h3,h4⟩:=h b B h1 h2;exact⟨O,(hW B (by rw[a7];exact⟨b,h2,h1⟩)).trans h3,h4⟩
 have tzE:ax zN (LF x.β tl oE):=λW W' hW h b B h1 h2=>by
  obtain⟨O,h3,h4⟩:=h b B h1 h2;exact⟨O,(hW B (by rw[a7];exact⟨b,h2,h1⟩)).trans h3,h4⟩
 have hA:=Rf (P:=PP) (SB:=SB) (BB:=BB) (zZ:=bb) (Gn:=0) (Wg:=W2.L.size) (T:=A.callers) (L:=L) Wl bA x.w.L.size;have hW:=yx (P:=PP) (SB:=SB) (BB:=BB) (zZ:=bb) (Gn:=0) (Wg:=W2.L.size) (T:=A.callers) (L:=L) Wl bW x.w.L.size;rw[hT,cX] at hA;rw[hT,h94] at hW;obtain⟨N4,m4,t4,hr4,cK⟩:=join (by rw[aA];exact⟨.inr (.inr (.inl rfl)),aK⟩) lib (λf fn h _=>h) tzK tzE hA hW hinv;obtain⟨aF,W4,aZ,x4,a4,tp4,q4,rfl,g4,lv4,bZ,bN,cL,aN,wl4,tw4,wg4,c0,cM,c2,cN,dl4,cO,cP,os4,ou4,bd4,bO⟩:=Ma cK
 obtain⟨e4,eH4,r4⟩:=aN.fin;have cQ:∀B,B<W.L.size->B<W4.L.size:=λB h=>by omega
 have b4:Jw J (λB=>zO B\/B=W2.L.size) aF W4 t4 q4:=⟨lv4,bZ,bN,cL,λB hB=>hB.S (dl4 B) λh=>h▸cN⟩
 have cR:Tw PP SB BB bb 0 (λB=>zO B\/B=W2.L.size) ⟨λB=>B<W.L.size,W4,0⟩ x4 a4 W4:=⟨aN.gl,wl4,tw4,λb B hb hd=>hd.S (λh=>AS h (c0 b B hb)) λh=>wg4 b (h▸hb),λB hB=>⟨cQ B hB,rfl⟩,λb B hb hB=>by
  by_cases cD:zN B
  .exact .inl (cM b B hb cD)
  .exact bO b B hb ⟨hB,cD⟩⟩
 obtain⟨N5,m5,t5,hr5,cF,W5,bP,q5,x5,a5,rfl,g5,z5,b5,b8,Q5,eH5,eT5,le5,os5,sz5,sz5',new5⟩:=Kq (P:=PP) (SB:=SB) (BB:=BB) (zZ:=bb) (Gn:=0) (Kp:=⟨λB=>B<W.L.size,W4,0⟩) lib
  (H:=x4.H) (T:=x4.T) (β:=x4.β) (Q:=EB.Left J 49 λv _=>v=.tuple #[]) (os:=W4.os) (ou:=W4) (n:=aF.size) (b0:=0) (B0:=W4.L.size) _ (eC aF W4 aZ) t4
  ⟨aF,W4,aZ,q4,x4,a4,rfl,g4,rfl,b4,cR,r4,rfl,rfl,Ey.le_refl _,⟨rfl,rfl⟩,⟨AK _,Bg _,λb B h=>.inl h⟩,rfl⟩
 obtain⟨N6,m6,t6,hr6,gs6,d6,b9,q6,st6,g6,z6,b6⟩:=Lj (P:=PP) (sl:=bP) b5 g5 b8.gl.status.2;have bB:=b8.at d6;have cS:Gf PP SB x5.H bb BB (FR::CS) x5.β x5.g a5:=by
  have:=b8.gl;rw[Fx,eT5,aN.t,cY] at this;exact this
 obtain⟨v,w0,w1,V,W7,ES,β7,_,hv,_,st7,hV,aD⟩:=leave (P:=PP) (lib x5.H) (main2:=bb) Q5 I.hB cS bB.wl;subst hv;have eV:V=.tuple #[]:=by
  cases hV with
  |@tuple _ X h1 _ =>
   have:X=#[]:=by simpa using h1.LH
   rw[this]
 subst eV;obtain⟨bQ,bR,cT,z7,g7,b7⟩:=b6.fin (P:=PP) (SB:=SB) (zZ:=bb) (Gn:=0) (x:=x5) b8.tw bB.dead g6 st7 aD b9;obtain⟨c3,_⟩:=KQ (P:=PP) (SB:=SB) (zZ:=bb) (Gn:=0) (x:=x5) aD bB.keep bB.F2;have zA:runNT J ((N1+(N2+1))+(N4+(N5+(N6+1)))) (eC gs W sl) t=(.next (eC bQ W7 b9),t6++bR):=by
  have e4:runNT J N4 (eC aY W3 aQ) t2=(.next (eC aF W4 aZ),t4):=hr4;have e5:runNT J N5 (eC aF W4 aZ) t4=(.next (eC cF W5 bP),t5):=hr5;have e6:runNT J N6 (eC cF W5 bP) t5=(.next m6,t6):=hr6;have e7:stepT J m6=(.next (eC bQ W7 b9),bR):=st6.trans cT;rw[cW hr3,cW e4,cW e5,cW e6,pf e7]
 have aO:∀B,B<W.L.size->B<W7.L.size/\W7.L[B]?=W4.L[B]?:=λB hB=>c3 B hB;have aG:∀B,B<W.L.size->¬zN B->W7.L[B]?=W.L[B]?:=λB hB hT=>(aO B hB).2.trans (c2 B ⟨hB,hT⟩);have W5s:W5.L.size<=W7.L.size:=aD.SIZE;have cU:∀b B,x.β b B->tl b=bb->∃O,W7.L[B]?=bc O/\∀(S:FO) (Ck:k0->Prop) (Ef:Ey),Fb S Ck Ef (oF (F8 n) oK oE b) O:=λb B hb h=>by
  have hE:=(aO B (aC b B hb).2).2;rw[hE];cases cG:F8 n with
  |true=>exact cO (by rw[e4];exact cG) b B hb h
  |false=>exact cP (by rw[e4];exact cG) b B hb h
 have bS:∀b B,x.β b B->tl b=bw->¬zN B:=λb B hb h hT=>by
  rw[a7] at hT;obtain⟨b',h1,h2⟩:=hT;rw[ht.wl.FH.inj hb h2] at h;rw[h] at h1;cases h1
 have os7:W7.os=W.os/\W7.output=W.output:=⟨aD.OS.trans (os5.1.trans os4),aD.OUT.trans (os5.2.trans ou4)⟩;refine⟨_,_,_,zA,bQ,W7,b9,q6,_,_,rfl,g7,?_,b7,⟨jl (x:=⟨back fr cs,H7 tl (oF (F8 n) oK oE) x.w,x.H,x.β,x.T⟩) r1 r2,⟨ht.wl.FH,⟨Bg _,Bg _⟩,λb B hb hh=>?_,λb B hb hh=>?_,λb hh=>?_,?_⟩,ht.tw,λb B hb hd=>?_,λB hB=>?_,λb B hb hB=>?_⟩,os7,by omega,λB hB=>hB.imp id λh=>by rw[h];omega⟩
 .rw[z7,z6,z5];exact bd4
 .have hl:=(aC b B hb).1;rw[bY _ _ _ _ hl];cases h:tl b with
  |true =>
   obtain⟨O,h1,h2⟩:=cU b B hb h;exact⟨_,O,rfl,h1,h2 _ _ _⟩
  |false =>
   obtain⟨o,O,p1,p2,p3⟩:=ht.wl.F4 b B hb (hH b);exact⟨o,O,p1,(aG B (aC b B hb).2 (bS b B hb h)).trans p2,p3⟩
 .have aT:x.H b=true:=hh;rw[hH] at aT;cases aT
 .have aT:x.H b=true:=hh;rw[hH] at aT;cases aT
 .show x.w.os.env=W7.os.env;rw[os7.1];exact ht.wl.env
 .obtain hd|hd:=hd
  .exact AS hd (a8 b B hb)
  .have:=(aC b B hb).2;omega
 .obtain⟨k1,k2⟩:=ht.keep B hB;refine⟨(aO B k1).1,(aG B k1 λhT=>?_).trans k2⟩;rw[a7] at hT;obtain⟨b,h1,h2⟩:=hT;exact hKp b B h2 h1 hB
 .obtain h|⟨c',t',f',h1,h2⟩:=ht.F2 b B hb hB
  .exact .inl h
  .refine .inr ⟨c',t',f',?_,h2⟩;show(H7 tl _ x.w).L[b]?=_;rw[bY _ _ _ _ (aC b B hb).1];cases h:tl b with
   |true=>exact AS hB (hKp b B hb h)
   |false=>exact h1
end
end Go.Sq
