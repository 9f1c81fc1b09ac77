/- Parts of the proof. -/
import Derived.Test.YtbnfgnhhfmmejaaGreatP04
set_option linter.all false
set_option maxHeartbeats 3200000
set_option maxRecDepth 1000000
open Go.Value renaming slice->Z,pointer->E,int->O
open Option renaming none->Y,some->U
open Go renaming World->X,Value->S,Addr->ak,Calls->bh,heap_alloc_old->bo,TypeId->cw,bodyPost_ret->cF,results_none->eb,callsIn_wide->ed,run_endLoop->er,leaves_cons->ez,run_enterLoop_outer->eA,Code->eC,info_parts->eF,roundIn_of_wpIn->fq,Operand->fu,wpIn_rangeFunc->fx,run_beginRound->fA,wpIn_mono->gg,Ending->gB
open Go.World renaming putObj_heap_other->C,setCell->V,alloc_heap_new->L,putObj_heap_same->bq,cell?->cu,frozen?->dr,putObj->eG
open Go.IntKind renaming i64->G,u8->gU
open Go.Obj renaming cells->H
open Go.Proofs renaming intOf->bb,size_putRow->cK,sortWorld->e9
open Bool renaming false->bk,true->cE
open List renaming range->bl
open Go.Fence renaming wide->bs
open Ne renaming symm->cq
open Go.Proofs.Tryz renaming results60->cU,ntmps45->eH,ntmps91->eT,ntmps69->e8,results68->fW,ntmps81->gl
open Go.Builtin renaming zeroCells->dn,append_->ek
open Go.Lib renaming bitLen->dy
open Decidable renaming decide->dS
open Go.Code renaming rangeFunc->eo
open Go.Addr renaming add->eV,block->gR
open Array renaming getD->Array.LH,push->Array.LE,setIfInBounds->Array.L,toList->Array.LK
open Eq renaming symm->Eq.LH
open False renaming elim->False.S
open Go renaming underlying->Go.LH
open Go.Addr renaming block->Go.Addr.LE
open Go.BoundsCode renaming toNat->Go.BoundsCode.L
open Go.Calls renaming mono->Go.Calls.LT
open Go.CallsD renaming mono->Go.CallsD.LT
open Go.CallsIn renaming mono->Go.CallsIn.LT
open Go.Code renaming block->Go.Code.LE
open Go.Ending renaming returned->Go.Ending.L
open Go.Exit renaming normal->Go.Exit.L
open Go.Instr renaming alloc->Go.Instr.LK
open Go.Obj renaming deferred->Go.Obj.S
open Go.Op renaming alloc->Go.Op.LK
open Go.Oper renaming dst->Go.Oper.L
open Go.Program renaming underlying->Go.Program.LH
open Go.RowKit.Below renaming block->Go.RowKit.Below.LE
open Go.TypeDesc renaming pointer->Go.TypeDesc.S
open Go.Value renaming ownBlock->Go.Value.L,pointer->Go.Value.S
open Go.World renaming alloc->Go.World.LK,cell?->Go.World.S,frozen?->Go.World.O,heap->Go.World.L,ownsRow->Go.World.H,putObj->Go.World.LB,setCell->Go.World.LH
open Go.World.grownBy renaming block->Go.World.grownBy.LE
open Go.World.ownsRow renaming alloc->Go.World.ownsRow.LK
open Int renaming toNat->Int.L
open List renaming filter->List.S,length->List.L,set->List.Lo,sum->List.LE,take->List.LT,toArray->List.LK
open Nat renaming below->Nat.Li,testBit->Nat.L
open Ne renaming symm->Ne.LH
open Option renaming getD->Option.LH,isNone->Option.L
open Or renaming elim->Or.S
open UInt8 renaming toNat->UInt8.L
namespace Go.Sq
open Go.Proofs
open Go.RowKit Go.Shelf
attribute [local go_sem] Oper.semAt_some
def mw (cb n:Nat)(r:E2)(w:X):bh D7 66 #[.S (U ⟨cb,0,Y⟩),E6 r,O G n] w λe w' =>
  e=.L (.func (.func 99) #[] #[.S (U ⟨w.L.size,0,Y⟩),.S (U ⟨w.L.size+1,0,Y⟩),.S (U ⟨w.L.size+2,0,Y⟩)]) /\
   w'=((w.LK (H #[.S (U ⟨cb,0,Y⟩)] 75)).LK (H #[.int .u8 (r 0),.int .u8 (r 1),.int .u8 (r 2),.int .u8 (r 3),.int .u8 (r 4)] 97)).LK (H #[O G n] 3):=by
 unfold E6;go_enter Sq.func66,Tryz.ntmps66;go_wp2;go_ret;exact⟨rfl,rfl⟩
section
variable {T K:Nat->Prop} {cb:Nat} {c:Ek} {sets:List Nat} {nA hA:Option ak} {nc hc sb sc bc br bn l:Nat} {J Jx:List E2->X->Prop} {W0:X}
structure ML (T K:Nat->Prop)(cb:Nat)(c:Ek)(sets:List Nat)(nA hA:Option ak)(nc hc sb sc bc br bn:Nat)(r:E2)(n:Nat)(w:X):Prop where
 Gs:Gk w K cb c sets nA hA nc hc sb sc
 kt:∀b,K b->¬T b
 xc:w.S ⟨bc,0,Y⟩=U (.S (U ⟨cb,0,Y⟩))/\¬T bc/\bc<w.L.size
 xr:(∀i,i<5->w.S ⟨br,i,Y⟩=U (.int .u8 (r i))/\w.O ⟨br,i,Y⟩=bk)/\¬T br/\br<w.L.size
 xn:w.S ⟨bn,0,Y⟩=U (O G n)/\bn<w.L.size
 ne:bc≠br/\∀b,K b->b≠br
 rs:∀i,c.has (r i)
def vz (aF:c.Ok)(aA:∀x∈sets,c.has x)(aG:sets.L<=16)(aB:∀pre w w',J pre w->(∀b,T b->w'.L[b]?=w.L[b]?)->J pre w')
  (a6:∀pre w,J pre w->∀b,T b->b<w.L.size)
  {k n:Nat} {r:E2} {W:X} (hY:∀pre ρ W,pre++[ρ] <+: E4 c sets k r n->KT (λb=>T b\/b=br) W0 W->J pre W->YieldAt bs 0 D7 l #[E6 ρ] W (P6 T J Jx pre ρ W))
  (hn:n+k=c.D9.L) (hs:ML T K cb c sets nA hA nc hc sb sc bc br bn r n W) (hk:KT (λb=>T b\/b=br) W0 W) (hj:J [] W) (hz:∀i,n<=i->r i=0) :
  CallsIn bs 0 D7 99 #[.func (.yield l) #[] #[],.S (U ⟨bc,0,Y⟩),.S (U ⟨br,0,Y⟩),.S (U ⟨bn,0,Y⟩)] W
   λe W'=>e=.L (.tuple #[])/\KT (λb=>T b\/b=br) W W'/\(J (E4 c sets k r n) W'\/∃q,q <+: E4 c sets k r n/\Jx q W'):=by
 obtain⟨W1,zt⟩:∃W1:X,W1=(W.LK (H #[.func (.yield l) #[] #[]] 169)).LK (H #[.func (.func 100) #[] #[.S (U ⟨bc,0,Y⟩),.S (U ⟨W.L.size,0,Y⟩),.S (U ⟨br,0,Y⟩),.S (U ⟨W.L.size+1,0,Y⟩)]] 143):=⟨_,rfl⟩;have g1:Gr W W1:=by rw[zt];exact((Gr.refl W).LK _).LK _
 have a7:=a6 _ _ hj;have zE:W1.L.size=W.L.size+2:=by rw[zt];simp
 have aH:Hid (ME T K cb c sets nA hA nc hc sb sc bc W.L.size br (W.L.size+1) l r W1):=AI (by
  have k1:KT T W W1:=KT.E3 g1
  refine⟨hs.Gs.keep k1.size λb o hb=>k1.cell (p:=⟨b,o,Y⟩) (hs.Gs.lt b hb) (hs.kt b hb),hs.kt,⟨(k1.cell hs.xc.2.2 hs.xc.2.1).trans hs.xc.1,hs.xc.2.1,by have:=hs.xc.2.2;omega⟩,⟨?_,λh=>by have:=a7 _ h;omega,by omega⟩,⟨?_,λh=>by have:=a7 _ h;omega,by omega⟩,
   ⟨λi hi=>⟨(k1.cell (p:=⟨br,i,Y⟩) hs.xr.2.2 hs.xr.2.1).trans (hs.xr.1 i hi).1,(k1.frozen (p:=⟨br,i,Y⟩) hs.xr.2.2 hs.xr.2.1).trans (hs.xr.1 i hi).2⟩,hs.xr.2.1,by have:=hs.xr.2.2;omega⟩,⟨hs.ne.1,?_,?_,hs.ne.2⟩,hs.rs⟩
  .rw[zt,Bi _ _ _ (by simp),AM _ _ _ _ rfl];rfl
  .rw[zt,AM _ _ _ _ (by simp)];rfl
  .have:=hs.xr.2.2;omega
  .have:=hs.xr.2.2;omega)
 have aI:Hid (J [] W1):=AI (aB _ _ _ hj λb hb=>g1.Li.LE b (a7 b hb));have aC:=AI (yf (by_:=W.L.size) (bw:=W.L.size+1) aF aA aG aB a6 hs.xr.2.1 hY k n r [] W1 hn aH.out (hk.trans (KT.E3 g1)) aI.out hz (by simp));have hxn:=hs.xn.1;have hbn:=hs.xn.2;have aD:=AI g1;have aM:∀(fn:Fn) (first cap:Array S) (w:X),(Instr.makeFunc fn first cap).run D7 w=.ok (.func fn first cap) w:=λ_ _ _ _=>rfl
 rw[zt] at aC;refine callsIn_of_wp Sq.func99 rfl trivial ?_ rfl;simp only[Tryz.ntmps99,AZ,AX,Bc,Nat.reduceAdd,Nat.reduceSub,BX,BY,B8,B3,BP,BW]
 gi_wp2_with fail
 refine⟨trivial,rfl,aC.out.LT ?_⟩;rw[<-zt];rintro e w3 (⟨rfl,aJ,_,zx⟩|⟨rfl,aK,zx⟩)
 .have aL:=AI aJ;have a8:=AI ((KT.E3 aD.out).trans zx)
  gi_wp2
  go_end0;exact⟨rfl,a8.out,.inl (by simpa using aL.out)⟩
 .have HQ3:=AI aK;have a8:=AI ((KT.E3 aD.out).trans zx)
  gi_wp2
  go_end0;refine⟨rfl,a8.out,.inr ?_⟩;obtain⟨q,h1,h2⟩:=HQ3.out;exact⟨q,h1,by simpa using h2⟩
end
def Ov (T0:Nat->Prop)(I:List E2->X->Prop)(Ix:eC->List E2->X->Prop)(xs:List E2)(W:X):Exit->Act->X->Prop
 |.L,_,W'=>KT T0 W W'/\I xs W'
 |.ret,_,W'=>KT T0 W W'/\Ix .ret xs W'
 |.exit id,_,W'=>KT T0 W W'/\Ix (.exit id) xs W'
 |.goto t,_,W'=>KT T0 W W'/\Ix (.goto t) xs W'
 |.panic _,_,_=>False
 |.outgrown,_,_=>False
def _root_.Go.Sq.KT.LK {T T':Nat->Prop}{w w':X}(h:KT T w w')(hT:∀b,b<w.L.size->T b->T' b):KT T' w w':=⟨h.os,h.tape,h.output,h.drawn,h.size,λb hb hn=>h.LE b hb λt=>hn (hT b hb t)⟩
def en {fn:Func}{tmps:Array S}{R:gB->X->Prop}{D:Nat}{W:X}{v:S}(hd:W.L[D]?=U (.S (U [])))(hr:(results fn tmps).run D7 (W.LB D (.S Y))=.ok v (W.LB D (.S Y)))(hR:R (.L v) (W.LB D (.S Y))) :
  LeavesInM bs 0 D7 fn tmps R [{ target:=.collected D,args:=#[] }] .returning W:=⟨by simp,.inl ⟨D,_,rfl,run_takeDeferred hd,v,hr,hR⟩⟩
def cC {W:X}{D:Nat}{o:Obj}{p:ak}(h:p.LE≠D):(W.LB D o).S p=W.S p:=A7 (C h)
def one_cell {W:X}{b:Nat}{v:S}{t:cw}(h:W.L[b]?=U (H #[v] t (0,0))):W.S ⟨b,0,Y⟩=U v/\W.O ⟨b,0,Y⟩=bk/\b<W.L.size:=by
 refine⟨?_,?_,(AJ.1 h).1⟩
 .unfold cu;simp only[h];rfl
 .unfold dr;simp only[h];rfl
def one_set {W:X}{b:Nat}{v u:S}{t:cw}(h:W.L[b]?=U (H #[v] t (0,0))):(W.LH ⟨b,0,Y⟩ u).L[b]?=U (H #[u] t (0,0)):=by
 unfold V;simp only[BR,if_true,h]
 rfl
def _root_.Go.Sq.KT.gr {T:Nat->Prop}{w w1 W:X}(h:Gr w w1)(hk:KT T w1 W)(hT:∀b,T b->w.L.size<=b):Gr w W :=
 ⟨⟨hk.os.trans h.Li.os,hk.tape.trans h.Li.tape,hk.output.trans h.Li.output,AU h.size hk.size,λb hb=>(hk.LE b (AO hb h.size) λt=>by have:=hT b t;omega).trans (h.Li.LE b hb)⟩,AU h.drawn hk.drawn⟩
def _root_.Go.Sq.Gr.LB {w W:X}(h:Gr w W){D:Nat}(hD:w.L.size<=D)(o:Obj):Gr w (W.LB D o) :=
 ⟨⟨h.Li.os,h.Li.tape,h.Li.output,by simpa [eG] using h.size,λb hb=>(C (by omega)).trans (h.Li.LE b hb)⟩,h.drawn⟩
def rq {T0 K:Nat->Prop}{cb:Nat}{c:Ek}{sets:List Nat}{nA hA:Option ak}{nc hc sb sc bc br bn k n:Nat}{r:E2}{g:fu}{ps:Array Tmp}{assign body:eC}{Q:Exit->Act->X->Prop}{a:Act}{w:X}
  (aO:c.Ok) (aK:∀x∈sets,c.has x) (aP:sets.L<=16) (hg:a.eval g=.func (.func 99) #[] #[.S (U ⟨bc,0,Y⟩),.S (U ⟨br,0,Y⟩),.S (U ⟨bn,0,Y⟩)])
  (hn:n+k=c.D9.L) (hz:∀i,n<=i->r i=0) (hs:ML T0 K cb c sets nA hA nc hc sb sc bc br bn r n w) (a7:∀b,T0 b->b<w.L.size) (aQ:ps.size=1)
  (I:List E2->X->Prop) (Ix:eC->List E2->X->Prop) (hI:∀pre W W',I pre W->(∀b,T0 b->W'.L[b]?=W.L[b]?)->I pre W') (aF:∀c pre W W',Ix c pre W->(∀b,T0 b->W'.L[b]?=W.L[b]?)->Ix c pre W') (h0:I [] w)
  (a₁:E2->Act)
  (aG:∀(l:Nat) (ρ:E2) (W:X) (K:Act->X->Prop),K (a₁ ρ) W->assign.wpIn (Fence.wide.inRound l) 0 D7 (Exit.then K (λ_ _ _=>False)) { tmps:=(ps.zip #[E6 ρ]).foldl (λt (p,v)=>t.L p v) a.tmps,defers:=[] } W)
  (aL:∀(l:Nat) (pre:List E2) (ρ:E2) (W:X),pre++[ρ] <+: E4 c sets k r n->KT (λb=>T0 b\/b=br) w W->I pre W->body.wpIn (Fence.wide.inRound l) 0 D7 (Ov T0 I Ix (pre++[ρ]) W) (a₁ ρ) W)
  (hdone:∀(D:Nat) (W:X),w.L.size<=D->KT (λb=>T0 b\/b=br) w W->I (E4 c sets k r n) W->W.L[D]?=U (.S (U []))->Q .L { a with defers:={ target:=.collected D,args:=#[] }::a.defers } W)
  (aM:∀(D:Nat) (j:eC) (q:List E2) (W:X),w.L.size<=D->KT (λb=>T0 b\/b=br) w W->q <+: E4 c sets k r n->Ix j q W->W.L[D]?=U (.S (U []))->j.wpIn bs 0 D7 Q { a with defers:={ target:=.collected D,args:=#[] }::a.defers } W) :
  (eo g ps assign body).wpIn bs 0 D7 Q a w:=by
 refine fx ?_;intro fn hfn;have aH:∀b,K b->b<w.L.size:=hs.Gs.lt;obtain⟨rec,a6⟩:∃rec:LoopState->Option eC->Loop,rec=λst pe=>{ state:=st,pending:=pe,fn,tmps:=a.tmps,params:=ps,assign,body,defers:=w.L.size }:=⟨_,rfl⟩;obtain⟨W1,zt⟩:∃W1,(w.LK (.S (U []))).LK (.loop (rec .ready Y))=W1:=⟨_,rfl⟩;have aR:W1.L[w.L.size+1]?=U (.loop (rec .ready Y)):=by
  rw[<-zt];have:=L (w.LK (.S (U []))) (.loop (rec .ready Y));rwa [B6] at this
 have aS:W1.L[w.L.size]?=U (.S (U [])):=by
  rw[<-zt];exact(Cj _ _ _ (by simp)).trans (L w _)
 have zJ:Gr w W1:=by rw[<-zt];exact((Gr.refl w).LK _).LK _
 have aT:I [] W1:=hI _ _ _ h0 λb hb=>zJ.Li.LE b (a7 b hb);have zE:W1.L.size=w.L.size+2:=by rw[<-zt];simp
 refine⟨w.L.size+1,[{ target:=.collected w.L.size,args:=#[] }],W1,{ target:=.fn (.func 99) #[.S (U ⟨bc,0,Y⟩),.S (U ⟨br,0,Y⟩),.S (U ⟨bn,0,Y⟩)],args:=#[.func (.yield (w.L.size+1)) #[] #[]] },W1,99,
  #[.func (.yield (w.L.size+1)) #[] #[]]++#[.S (U ⟨bc,0,Y⟩),.S (U ⟨br,0,Y⟩),.S (U ⟨bn,0,Y⟩)],W1,?_,?_,?_,?_,λh=>(by cases h),?_⟩
 .rw[<-zt,a6];exact eA _ _ _ _ _
 .simp only[resolve,hg];simp[go_sem]
 .intro f' _;trivial
 .simp[invoke,go_sem]
 .obtain⟨T,hT⟩:∃T:Nat->Prop,T=λb=>T0 b\/b=w.L.size\/b=w.L.size+1:=⟨_,rfl⟩;have aI:∀b,T0 b->T b:=λb hb=>by rw[hT];exact .inl hb
  have aU:T w.L.size:=by rw[hT];exact .inr (.inl rfl)
  have aJ:T (w.L.size+1):=by rw[hT];exact .inr (.inr rfl)
  have a8:∀b,b<w.L.size->T b->T0 b:=λb hb h=>by
   rw[hT] at h;obtain h|h|h:=h
   .exact h
   .omega
   .omega
  have k1:KT T0 w W1:=KT.E3 zJ;have hs1:ML T K cb c sets nA hA nc hc sb sc bc br bn r n W1:=by
   refine⟨hs.Gs.keep zJ.size λb o hb=>zJ.cell (aH b hb),λb hb h=>hs.kt b hb (a8 b (aH b hb) h),⟨(zJ.cell hs.xc.2.2).trans hs.xc.1,λh=>hs.xc.2.1 (a8 _ hs.xc.2.2 h),by have:=hs.xc.2.2;omega⟩,⟨λi hi=>⟨(zJ.cell (p:=⟨br,i,Y⟩) hs.xr.2.2).trans (hs.xr.1 i hi).1,(zJ.frozen (p:=⟨br,i,Y⟩) hs.xr.2.2).trans (hs.xr.1 i hi).2⟩,λh=>hs.xr.2.1 (a8 _ hs.xr.2.2 h),by have:=hs.xr.2.2;omega⟩,
    ⟨(zJ.cell hs.xn.2).trans hs.xn.1,by have:=hs.xn.2;omega⟩,hs.ne,hs.rs⟩
  have aD:∀ {W:X},KT (λb=>T b\/b=br) W1 W->KT (λb=>T0 b\/b=br) w W:=λhk =>
   KT.LK (T:=λb=>T b\/b=br) ((KT.E3 zJ).trans hk) λb hb h=>h.S (λh=>.inl (a8 b hb h)) .inr
  have aZ:=hs.xr.2.2;have hput:∀(W:X) (o:Obj),KT T W (W.LB (w.L.size+1) o):=λW o=>KT.LB W aJ o;have hq:=vz (T:=T) (l:=w.L.size+1) (W0:=W1)
   (J:=λpre W=>I pre W/\W.L[w.L.size+1]?=U (.loop (rec .ready Y))/\W.L[w.L.size]?=U (.S (U [])))
   (Jx:=λpre W=>∃j,Ix j pre W/\W.L[w.L.size+1]?=U (.loop (rec .done (U j)))/\W.L[w.L.size]?=U (.S (U [])))
   aO aK aP (λpre W W' h hk=>⟨hI _ _ _ h.1 λb hb=>hk b (aI b hb),(hk _ aJ).trans h.2.1,(hk _ aU).trans h.2.2⟩)
   (λpre W h b hb=>by
    have h1:=(AJ.1 h.2.1).1;rw[hT] at hb;obtain hb|hb|hb:=hb
    .have:=a7 b hb;omega
    .omega
    .omega)
   ?_ hn hs1 (KT.refl _ _) ⟨aT,aR,aS⟩ hz
  .refine hq.LT ?_;rintro e W2 ⟨rfl,zn,(⟨hi,hl,hd⟩|⟨q,aN,j,hi,hl,hd⟩)⟩
   .refine⟨Y,_,by have:=er (P:=D7) hl (by rw[a6];simp);rw[a6] at this;exact this,hdone _ _ (AK _) (aD (zn.trans ((hput _ _).LT λb h=>.inl h))) (hI _ _ _ hi λb hb=>C (by have:=a7 b hb;omega)) ((C (by omega)).trans hd)⟩
   .exact⟨U j,_,by have:=er (P:=D7) hl (by rw[a6];simp);rw[a6] at this;exact this,aM _ j q _ (AK _) (aD (zn.trans ((hput _ _).LT λb h=>.inl h))) aN (aF _ _ _ _ hi λb hb=>C (by have:=a7 b hb;omega)) ((C (by omega)).trans hd)⟩
  .rintro pre ρ W hpl aV ⟨hi,hl,hd⟩;have zY:w.L.size+1<W.L.size:=(AJ.1 hl).1;have hy:=run_yield (P:=D7) (args:=#[E6 ρ]) hl (by rw[a6];simp[aQ]);rw[a6] at hy;refine⟨fn,_,assign,body,hy,fq hfn (aG _ ρ W _ ⟨_,fA hl (by rw[a6]),?_⟩)⟩;obtain⟨Wb,aC⟩:∃Wb,Wb=W.LB (w.L.size+1) (.loop { rec .ready Y with state:=.busy }):=⟨_,rfl⟩;rw[<-aC];have kb:KT T W Wb:=by rw[aC];exact hput _ _
   have zC:Wb.L[w.L.size+1]?=U (.loop { rec .ready Y with state:=.busy }):=by rw[aC];exact bq zY
   have aW:Wb.L[w.L.size]?=U (.S (U [])):=by rw[aC];exact(C (by omega)).trans hd
   have aX:I pre Wb:=hI _ _ _ hi λb hb=>by rw[aC];exact C (by have:=a7 b hb;omega)
   have hzb:Wb.L.size=W.L.size:=by rw[aC];simp[eG]
   refine gg (aL _ pre ρ Wb hpl (aD (aV.trans (kb.LT λb h=>.inl h))) aX) ?_;have fin : ∀ (jump : Option eC) (W3 : X), KT T0 Wb W3 ->
     (Instr.endRound (w.L.size+1) jump).run D7 W3=.ok (.bool jump.L) (W3.LB (w.L.size+1) (.loop (rec (if jump.L then .ready else .done) jump))) /\
     (W3.LB (w.L.size+1) (.loop (rec (if jump.L then .ready else .done) jump))).L[w.L.size+1]?=U (.loop (rec (if jump.L then .ready else .done) jump)) /\
     (W3.LB (w.L.size+1) (.loop (rec (if jump.L then .ready else .done) jump))).L[w.L.size]?=U (.S (U []))/\KT T W (W3.LB (w.L.size+1) (.loop (rec (if jump.L then .ready else .done) jump))) /\
     ∀b,T0 b->(W3.LB (w.L.size+1) (.loop (rec (if jump.L then .ready else .done) jump))).L[b]?=W3.L[b]?:=λjump W3 zx=>by
    have G4:W3.L[w.L.size+1]?=U (.loop { rec .ready Y with state:=.busy }):=(zx.LE _ (by omega) λh=>by have:=a7 _ h;omega).trans zC;have aY:W3.L[w.L.size]?=U (.S (U [])):=(zx.LE _ (by omega) λh=>by have:=a7 _ h;omega).trans aW;have:=run_endRound (P:=D7) jump G4;rw[a6] at this ⊢;exact⟨this,bq (AJ.1 G4).1,(C (by omega)).trans aY,(kb.trans (zx.LT aI)).trans (KT.LB W3 aJ _),λb hb=>C (by have:=a7 b hb;omega)⟩
   rintro e a3 W3 hp;cases e with
   |normal =>
    obtain⟨zx,aA⟩:=hp;obtain⟨hr,zq,aB,hk4,hb4⟩:=fin Y W3 zx;exact⟨_,_,hr,.inl ⟨rfl,⟨hI _ _ _ aA hb4,zq,aB⟩,hk4⟩⟩
   |ret =>
    obtain⟨zx,aA⟩:=hp;obtain⟨hr,zq,aB,hk4,hb4⟩:=fin (U .ret) W3 zx;exact⟨_,_,hr,.inr ⟨rfl,⟨.ret,aF _ _ _ _ aA hb4,zq,aB⟩,hk4⟩⟩
   |exit id =>
    obtain⟨zx,aA⟩:=hp;obtain⟨hr,zq,aB,hk4,hb4⟩:=fin (U (.exit id)) W3 zx;exact⟨_,_,hr,.inr ⟨rfl,⟨.exit id,aF _ _ _ _ aA hb4,zq,aB⟩,hk4⟩⟩
   |goto t =>
    obtain⟨zx,aA⟩:=hp;obtain⟨hr,zq,aB,hk4,hb4⟩:=fin (U (.goto t)) W3 zx;exact⟨_,_,hr,.inr ⟨rfl,⟨.goto t,aF _ _ _ _ aA hb4,zq,aB⟩,hk4⟩⟩
   |panic ch=>exact hp.S
   |outgrown=>exact hp.S
def pI {T0 K:Nat->Prop}{cb:Nat}{c:Ek}{sets:List Nat}{nA hA:Option ak}{nc hc sb sc bc br bn k n:Nat}{r:E2}{g:fu}{p:Tmp}{body:eC}{Q:Exit->Act->X->Prop}{a:Act}{w:X}
  (aA:c.Ok) (a6:∀x∈sets,c.has x) (aB:sets.L<=16) (hg:a.eval g=.func (.func 99) #[] #[.S (U ⟨bc,0,Y⟩),.S (U ⟨br,0,Y⟩),.S (U ⟨bn,0,Y⟩)])
  (hn:n+k=c.D9.L) (hz:∀i,n<=i->r i=0) (hs:ML T0 K cb c sets nA hA nc hc sb sc bc br bn r n w) (aC:∀b,T0 b->b<w.L.size)
  (I:List E2->X->Prop) (Ix:eC->List E2->X->Prop) (hI:∀pre W W',I pre W->(∀b,T0 b->W'.L[b]?=W.L[b]?)->I pre W') (aD:∀c pre W W',Ix c pre W->(∀b,T0 b->W'.L[b]?=W.L[b]?)->Ix c pre W') (h0:I [] w)
  (a7:∀(l:Nat) (pre:List E2) (ρ:E2) (W:X),KT (λb=>T0 b\/b=br) w W->I pre W->body.wpIn (Fence.wide.inRound l) 0 D7 (Ov T0 I Ix (pre++[ρ]) W) { tmps:=a.tmps.L p (E6 ρ),defers:=[] } W)
  (hdone:∀(D:Nat) (W:X),w.L.size<=D->KT (λb=>T0 b\/b=br) w W->I (E4 c sets k r n) W->W.L[D]?=U (.S (U []))->Q .L { a with defers:={ target:=.collected D,args:=#[] }::a.defers } W)
  (a8:∀(D:Nat) (j:eC) (q:List E2) (W:X),w.L.size<=D->KT (λb=>T0 b\/b=br) w W->q <+: E4 c sets k r n->Ix j q W->W.L[D]?=U (.S (U []))->j.wpIn bs 0 D7 Q { a with defers:={ target:=.collected D,args:=#[] }::a.defers } W) :
  (eo g #[p] .skip body).wpIn bs 0 D7 Q a w:=by
 exact rq (ps:=#[p]) (assign:=.skip) aA a6 aB hg hn hz hs aC rfl I Ix hI aD h0 (λρ=>{ tmps:=a.tmps.L p (E6 ρ),defers:=[] }) (λl ρ W K hK=>wpIn_skip (by show K _ W;simpa using hK)) (λl pre ρ W _=>a7 l pre ρ W) hdone a8
def ld {T0 K:Nat->Prop}{cb:Nat}{c:Ek}{sets:List Nat}{nA hA:Option ak}{nc hc sb sc bc br bn k n:Nat}{r:E2}{g:fu}{ps:Array Tmp}{assign body:eC}{Q:Exit->Act->X->Prop}{a:Act}{w:X}
  (aQ:c.Ok) (aL:∀x∈sets,c.has x) (aR:sets.L<=16) (hg:a.eval g=.func (.func 99) #[] #[.S (U ⟨bc,0,Y⟩),.S (U ⟨br,0,Y⟩),.S (U ⟨bn,0,Y⟩)])
  (hn:n+k=c.D9.L) (hz:∀i,n<=i->r i=0) (hs:ML T0 K cb c sets nA hA nc hc sb sc bc br bn r n w) (a7:∀b,T0 b->b<w.L.size) (aS:ps.size=1)
  (I:List E2->X->Prop) (Ix:eC->List E2->X->Prop) (hI:∀pre W W',I pre W->(∀b,T0 b->W'.L[b]?=W.L[b]?)->I pre W') (aG:∀c pre W W',Ix c pre W->(∀b,T0 b->W'.L[b]?=W.L[b]?)->Ix c pre W') (h0:I [] w)
  (aH:∀(l:Nat) (pre:List E2) (ρ:E2) (W:X),pre++[ρ] <+: E4 c sets k r n->KT (λb=>T0 b\/b=br) w W->I pre W->w.L.size<l->l<W.L.size ->
   assign.wpIn (Fence.wide.inRound l) 0 D7 (Exit.then (λa₁ w₁=>KT T0 W w₁/\∀o,body.wpIn (Fence.wide.inRound l) 0 D7 (Ov T0 I Ix (pre++[ρ]) (w₁.LB l o)) a₁ (w₁.LB l o)) (λ_ _ _=>False)) { tmps:=(ps.zip #[E6 ρ]).foldl (λt (p,v)=>t.L p v) a.tmps,defers:=[] } W)
  (hdone:∀(D:Nat) (W:X),w.L.size<=D->KT (λb=>T0 b\/b=br) w W->I (E4 c sets k r n) W->W.L[D]?=U (.S (U []))->Q .L { a with defers:={ target:=.collected D,args:=#[] }::a.defers } W)
  (aM:∀(D:Nat) (j:eC) (q:List E2) (W:X),w.L.size<=D->KT (λb=>T0 b\/b=br) w W->q <+: E4 c sets k r n->Ix j q W->W.L[D]?=U (.S (U []))->j.wpIn bs 0 D7 Q { a with defers:={ target:=.collected D,args:=#[] }::a.defers } W) :
  (eo g ps assign body).wpIn bs 0 D7 Q a w:=by
 refine fx ?_;intro fn hfn;have aI:∀b,K b->b<w.L.size:=hs.Gs.lt;obtain⟨rec,a6⟩:∃rec:LoopState->Option eC->Loop,rec=λst pe=>{ state:=st,pending:=pe,fn,tmps:=a.tmps,params:=ps,assign,body,defers:=w.L.size }:=⟨_,rfl⟩;obtain⟨W1,zt⟩:∃W1,(w.LK (.S (U []))).LK (.loop (rec .ready Y))=W1:=⟨_,rfl⟩;have aT:W1.L[w.L.size+1]?=U (.loop (rec .ready Y)):=by
  rw[<-zt];have:=L (w.LK (.S (U []))) (.loop (rec .ready Y));rwa [B6] at this
 have aU:W1.L[w.L.size]?=U (.S (U [])):=by
  rw[<-zt];exact(Cj _ _ _ (by simp)).trans (L w _)
 have zJ:Gr w W1:=by rw[<-zt];exact((Gr.refl w).LK _).LK _
 have aV:I [] W1:=hI _ _ _ h0 λb hb=>zJ.Li.LE b (a7 b hb);have zE:W1.L.size=w.L.size+2:=by rw[<-zt];simp
 refine⟨w.L.size+1,[{ target:=.collected w.L.size,args:=#[] }],W1,{ target:=.fn (.func 99) #[.S (U ⟨bc,0,Y⟩),.S (U ⟨br,0,Y⟩),.S (U ⟨bn,0,Y⟩)],args:=#[.func (.yield (w.L.size+1)) #[] #[]] },W1,99,
  #[.func (.yield (w.L.size+1)) #[] #[]]++#[.S (U ⟨bc,0,Y⟩),.S (U ⟨br,0,Y⟩),.S (U ⟨bn,0,Y⟩)],W1,?_,?_,?_,?_,λh=>(by cases h),?_⟩
 .rw[<-zt,a6];exact eA _ _ _ _ _
 .simp only[resolve,hg];simp[go_sem]
 .intro f' _;trivial
 .simp[invoke,go_sem]
 .obtain⟨T,hT⟩:∃T:Nat->Prop,T=λb=>T0 b\/b=w.L.size\/b=w.L.size+1:=⟨_,rfl⟩;have aD:∀b,T0 b->T b:=λb hb=>by rw[hT];exact .inl hb
  have aW:T w.L.size:=by rw[hT];exact .inr (.inl rfl)
  have aJ:T (w.L.size+1):=by rw[hT];exact .inr (.inr rfl)
  have a8:∀b,b<w.L.size->T b->T0 b:=λb hb h=>by
   rw[hT] at h;obtain h|h|h:=h
   .exact h
   .omega
   .omega
  have k1:KT T0 w W1:=KT.E3 zJ;have hs1:ML T K cb c sets nA hA nc hc sb sc bc br bn r n W1:=by
   refine⟨hs.Gs.keep zJ.size λb o hb=>zJ.cell (aI b hb),λb hb h=>hs.kt b hb (a8 b (aI b hb) h),⟨(zJ.cell hs.xc.2.2).trans hs.xc.1,λh=>hs.xc.2.1 (a8 _ hs.xc.2.2 h),by have:=hs.xc.2.2;omega⟩,⟨λi hi=>⟨(zJ.cell (p:=⟨br,i,Y⟩) hs.xr.2.2).trans (hs.xr.1 i hi).1,(zJ.frozen (p:=⟨br,i,Y⟩) hs.xr.2.2).trans (hs.xr.1 i hi).2⟩,λh=>hs.xr.2.1 (a8 _ hs.xr.2.2 h),by have:=hs.xr.2.2;omega⟩,
    ⟨(zJ.cell hs.xn.2).trans hs.xn.1,by have:=hs.xn.2;omega⟩,hs.ne,hs.rs⟩
  have aF:∀ {W:X},KT (λb=>T b\/b=br) W1 W->KT (λb=>T0 b\/b=br) w W:=λhk =>
   KT.LK (T:=λb=>T b\/b=br) ((KT.E3 zJ).trans hk) λb hb h=>h.S (λh=>.inl (a8 b hb h)) .inr
  have b6:=hs.xr.2.2;have hput:∀(W:X) (o:Obj),KT T W (W.LB (w.L.size+1) o):=λW o=>KT.LB W aJ o;have hq:=vz (T:=T) (l:=w.L.size+1) (W0:=W1)
   (J:=λpre W=>I pre W/\W.L[w.L.size+1]?=U (.loop (rec .ready Y))/\W.L[w.L.size]?=U (.S (U [])))
   (Jx:=λpre W=>∃j,Ix j pre W/\W.L[w.L.size+1]?=U (.loop (rec .done (U j)))/\W.L[w.L.size]?=U (.S (U [])))
   aQ aL aR (λpre W W' h hk=>⟨hI _ _ _ h.1 λb hb=>hk b (aD b hb),(hk _ aJ).trans h.2.1,(hk _ aW).trans h.2.2⟩)
   (λpre W h b hb=>by
    have h1:=(AJ.1 h.2.1).1;rw[hT] at hb;obtain hb|hb|hb:=hb
    .have:=a7 b hb;omega
    .omega
    .omega)
   ?_ hn hs1 (KT.refl _ _) ⟨aV,aT,aU⟩ hz
  .refine hq.LT ?_;rintro e W2 ⟨rfl,zn,(⟨hi,hl,hd⟩|⟨q,aO,j,hi,hl,hd⟩)⟩
   .refine⟨Y,_,by have:=er (P:=D7) hl (by rw[a6];simp);rw[a6] at this;exact this,hdone _ _ (AK _) (aF (zn.trans ((hput _ _).LT λb h=>.inl h))) (hI _ _ _ hi λb hb=>C (by have:=a7 b hb;omega)) ((C (by omega)).trans hd)⟩
   .exact⟨U j,_,by have:=er (P:=D7) hl (by rw[a6];simp);rw[a6] at this;exact this,aM _ j q _ (AK _) (aF (zn.trans ((hput _ _).LT λb h=>.inl h))) aO (aG _ _ _ _ hi λb hb=>C (by have:=a7 b hb;omega)) ((C (by omega)).trans hd)⟩
  .rintro pre ρ W hpl aX ⟨hi,hl,hd⟩;have zY:w.L.size+1<W.L.size:=(AJ.1 hl).1;have hy:=run_yield (P:=D7) (args:=#[E6 ρ]) hl (by rw[a6];simp[aS]);rw[a6] at hy;refine⟨fn,_,assign,body,hy,fq hfn (gg (aH (w.L.size+1) pre ρ W hpl (aF aX) hi (by omega) zY) ?_)⟩;rintro e1 a1 w1 Jj;cases e1 with
   |panic ch=>exact Jj.S
   |outgrown=>exact Jj.S
   |ret=>exact Jj.S
   |exit id=>exact Jj.S
   |goto t=>exact Jj.S
   |normal =>
   obtain⟨aK,hb1⟩:=Jj;have Gg:w1.L[w.L.size+1]?=U (.loop (rec .ready Y)):=(aK.LE _ zY λh=>by have:=a7 _ h;omega).trans hl;have aY:w1.L[w.L.size]?=U (.S (U [])):=(aK.LE _ (by omega) λh=>by have:=a7 _ h;omega).trans hd;have aP:w.L.size+1<w1.L.size:=(AJ.1 Gg).1;refine⟨_,fA Gg (by rw[a6]),?_⟩;obtain⟨Wb,aC⟩:∃Wb,Wb=w1.LB (w.L.size+1) (.loop { rec .ready Y with state:=.busy }):=⟨_,rfl⟩
   have aN:=hb1 (.loop { rec .ready Y with state:=.busy });rw[<-aC] at aN ⊢;have kb:KT T W Wb:=(aK.LT aD).trans (by rw[aC];exact hput _ _);have zC:Wb.L[w.L.size+1]?=U (.loop { rec .ready Y with state:=.busy }):=by rw[aC];exact bq aP
   have aZ:Wb.L[w.L.size]?=U (.S (U [])):=by rw[aC];exact(C (by omega)).trans aY
   have hzb:Wb.L.size=w1.L.size:=by rw[aC];simp[eG]
   refine gg aN ?_;have fin : ∀ (jump : Option eC) (W3 : X), KT T0 Wb W3 ->
     (Instr.endRound (w.L.size+1) jump).run D7 W3=.ok (.bool jump.L) (W3.LB (w.L.size+1) (.loop (rec (if jump.L then .ready else .done) jump))) /\
     (W3.LB (w.L.size+1) (.loop (rec (if jump.L then .ready else .done) jump))).L[w.L.size+1]?=U (.loop (rec (if jump.L then .ready else .done) jump)) /\
     (W3.LB (w.L.size+1) (.loop (rec (if jump.L then .ready else .done) jump))).L[w.L.size]?=U (.S (U []))/\KT T W (W3.LB (w.L.size+1) (.loop (rec (if jump.L then .ready else .done) jump))) /\
     ∀b,T0 b->(W3.LB (w.L.size+1) (.loop (rec (if jump.L then .ready else .done) jump))).L[b]?=W3.L[b]?:=λjump W3 zx=>by
    have G4:W3.L[w.L.size+1]?=U (.loop { rec .ready Y with state:=.busy }):=(zx.LE _ (by omega) λh=>by have:=a7 _ h;omega).trans zC;have b5:W3.L[w.L.size]?=U (.S (U [])):=(zx.LE _ (by omega) λh=>by have:=a7 _ h;omega).trans aZ;have:=run_endRound (P:=D7) jump G4;rw[a6] at this ⊢;exact⟨this,bq (AJ.1 G4).1,(C (by omega)).trans b5,(kb.trans (zx.LT aD)).trans (KT.LB W3 aJ _),λb hb=>C (by have:=a7 b hb;omega)⟩
   rintro e a3 W3 hp;cases e with
   |normal =>
    obtain⟨zx,aA⟩:=hp;obtain⟨hr,zq,aB,hk4,hb4⟩:=fin Y W3 zx;exact⟨_,_,hr,.inl ⟨rfl,⟨hI _ _ _ aA hb4,zq,aB⟩,hk4⟩⟩
   |ret =>
    obtain⟨zx,aA⟩:=hp;obtain⟨hr,zq,aB,hk4,hb4⟩:=fin (U .ret) W3 zx;exact⟨_,_,hr,.inr ⟨rfl,⟨.ret,aG _ _ _ _ aA hb4,zq,aB⟩,hk4⟩⟩
   |exit id =>
    obtain⟨zx,aA⟩:=hp;obtain⟨hr,zq,aB,hk4,hb4⟩:=fin (U (.exit id)) W3 zx;exact⟨_,_,hr,.inr ⟨rfl,⟨.exit id,aG _ _ _ _ aA hb4,zq,aB⟩,hk4⟩⟩
   |goto t =>
    obtain⟨zx,aA⟩:=hp;obtain⟨hr,zq,aB,hk4,hb4⟩:=fin (U (.goto t)) W3 zx;exact⟨_,_,hr,.inr ⟨rfl,⟨.goto t,aG _ _ _ _ aA hb4,zq,aB⟩,hk4⟩⟩
   |panic ch=>exact hp.S
   |outgrown=>exact hp.S
def vM (nb:Nat)(x y s:Int)(w:X)(hc:w.L[nb]?=U (H #[O G x] 95 (0,0)))(hs:IntKind.i64.wrap (x+y)=s) :
  bh D7 51 #[.S (U ⟨nb,0,Y⟩),O G y] w λe w'=>e=.L (O G s)/\w'=w.LH ⟨nb,0,Y⟩ (O G s):=by
 obtain⟨h1,h2,h3⟩:=one_cell hc;have a6:=run_call_add (P:=D7) Sq.func87 (by kernel_rfl) (by kernel_rfl) (by kernel_rfl) G (by kernel_rfl) (y:=y) (s:=s) h1 h2 (by simp[go_sem];exact hs);go_enter Sq.func51,Tryz.ntmps51;go_wp2;go_ret;exact⟨rfl,rfl⟩
def tJ (nb:Nat)(x:Int)(w:X)(hc:w.L[nb]?=U (H #[O G x] 95 (0,0))) :
  bh D7 52 #[.S (U ⟨nb,0,Y⟩)] w λe w'=>e=.L (O G x)/\w'=w:=by
 obtain⟨h1,h2,h3⟩:=one_cell hc;have hload:=run_call_load (P:=D7) Sq.func88 (by kernel_rfl) (by kernel_rfl) (by kernel_rfl) G (by kernel_rfl) h1;go_enter Sq.func52,Tryz.ntmps52;go_wp2;go_ret;exact⟨rfl,rfl⟩
def tK (nb:Nat)(x s:Int)(ρ:E2)(w:X)(hc:w.L[nb]?=U (H #[O G x] 95 (0,0)))(hs:IntKind.i64.wrap (x+1)=s) :
  bh D7 50 #[E6 ρ,.S (U ⟨nb,0,Y⟩)] w λe w'=>e=.L (.tuple #[])/\KT (·=nb) w w'/\w'.L[nb]?=U (H #[O G s] 95 (0,0)):=by
 have zY:=(one_cell hc).2.2;obtain⟨W,hW⟩:∃W,W=w.LK (H #[.int .u8 (ρ 0),.int .u8 (ρ 1),.int .u8 (ρ 2),.int .u8 (ρ 3),.int .u8 (ρ 4)] 97):=⟨_,rfl⟩;have zr:W.L[nb]?=U (H #[O G x] 95 (0,0)):=by rw[hW,bo _ _ zY];exact hc
 have HK:=AI (show KT (·=nb) w W by rw[hW];exact KT.E3 ((Gr.refl w).LK _));have a6:=AI (vM nb x 1 s W zr hs);have HW:=AI hW;have a7:=AI zr;unfold E6;go_enter Sq.func50,Tryz.ntmps50;go_wp2_with fail;rw[<-HW.out];refine a6.out.LT ?_;rintro e w' ⟨rfl,hw'⟩;have HW':=AI hw';clear hw';go_wp2;go_end0;refine⟨rfl,HK.out.trans (by rw[HW'.out];exact KT.LH (T:=(·=nb)) W (p:=⟨nb,0,Y⟩) rfl _),?_⟩
 rw[HW'.out];exact one_set a7.out
def cn {W:X}{b i:Nat}{a:Array S}{u:S}{t:cw}{f:Nat×Nat}(h:W.L[b]?=U (.cells a t f)):(W.LH ⟨b,i,Y⟩ u).L[b]?=U (.cells (a.L i u) t f):=by
 unfold V;simp only[BR,if_true,h]
 rfl
def GP {W:X}{b:Nat}{a:Array S}{t:cw}(h:W.L[b]?=U (.cells a t (0,0))):(∀i:Nat,W.S ⟨b,i,Y⟩=a[i]?)/\(∀i,W.O ⟨b,i,Y⟩=bk)/\b<W.L.size:=by
 refine⟨λi=>?_,λi=>?_,(AJ.1 h).1⟩
 .unfold cu;simp only[h];rfl
 .unfold dr;simp[h]
def Jk (m:Int)(r:E2)(b:Bool):Array Value:=#[.int .i32 m,.int .u32 0,.int .u8 (r 0),.int .u8 (r 1),.int .u8 (r 2),.int .u8 (r 3),.int .u8 (r 4),.bool b]
def tL (kb:Nat)(ρ:E2)(f:S)(w:X)(hk:w.L[kb]?=U (.cells (Jk 0 (λ_=>0) bk) 111 (0,0))) :
  bh D7 58 #[.S (U ⟨kb,0,Y⟩),E6 ρ,f] w λe w'=>e=.L (.tuple #[])/\KT (·=kb) w w'/\w'.L[kb]?=U (.cells (Jk 0 ρ cE) 111 (0,0)):=by
 obtain⟨W,hW⟩:∃W,W=w.LK (H #[.int .u8 (ρ 0),.int .u8 (ρ 1),.int .u8 (ρ 2),.int .u8 (ρ 3),.int .u8 (ρ 4)] 97):=⟨_,rfl⟩;have zY:=(AJ.1 hk).1;have zn:W.L[kb]?=U (.cells (Jk 0 (λ_=>0) bk) 111 (0,0)):=by rw[hW,bo _ _ zY];exact hk
 obtain⟨hc,hf,_⟩:=GP zn;have h0:=hc 0;have f0:=hf 0;have zx:=cn (i:=0) (u:=.int .i32 1) zn;have HK:=AI (show KT (·=kb) w W by rw[hW];exact KT.E3 ((Gr.refl w).LK _));obtain⟨hc3,hf3,_⟩:=GP zx;have g0:=hc3 0;have g2:=hc3 2;have g3:=hc3 3;have g4:=hc3 4;have g5:=hc3 5;have g6:=hc3 6;have g7:=hc3 7;have e0:=hf3 0;have e2:=hf3 2;have e3:=hf3 3;have e4:=hf3 4;have e5:=hf3 5;have e6:=hf3 6
 have e7:=hf3 7;simp[Jk] at h0 g0 g2 g3 g4 g5 g6 g7;have hb:∀i,i<5->(W.LH ⟨kb,0,Y⟩ (.int .i32 1)).S ⟨w.L.size,i,Y⟩=U (.int .u8 (ρ i)):=λi hi=>by
  rw[AW _ _ _ _ (λe=>by have:kb=w.L.size:=Bh gR e;omega),hW,AM _ _ _ _ rfl]
  match i,hi with
  |0,_=>rfl
  |1,_=>rfl
  |2,_=>rfl
  |3,_=>rfl
  |4,_=>rfl
 have b0:=hb 0 (by omega);have b1:=hb 1 (by omega);have b2:=hb 2 (by omega);have b3:=hb 3 (by omega);have b4:=hb 4 (by omega);have HW:=AI hW;have a8:=AI zn;have a6:=AI zx;clear hc hf hc3 hf3 zx zn hk hW hb;unfold E6;go_enter_defers Sq.func58,Tryz.ntmps58;go_wp2_with (go_at_call 89;rw[<-HW.out];refine(DF ⟨kb,0,Y⟩ _ h0 f0).LT ?_;rintro e w' ⟨rfl,rfl⟩);go_quiet (fail);go_wp2;have HS:=AI (cn (i:=7) (u:=.bool cE) (cn (i:=6) (u:=.int .u8 (ρ 4)) (cn (i:=5) (u:=.int .u8 (ρ 3)) (cn (i:=4) (u:=.int .u8 (ρ 2)) (cn (i:=3) (u:=.int .u8 (ρ 1)) (cn (i:=2) (u:=.int .u8 (ρ 0)) (show((W.LH ⟨kb,0,Y⟩ (.int .i32 1)).drewN nq).L[kb]?=_ from a6.out)))))))
 refine ez (f:=90) (args:=#[.S (U ⟨kb,0,Y⟩)]) (by simp) (by simp[go_sem]) ?_;obtain⟨a7,hf4,_⟩:=GP HS.out;refine(DE ⟨kb,0,Y⟩ .returning _ (by rw[a7 0];rfl) (hf4 0)).LT ?_;rintro e u' w'' ⟨rfl,rfl,rfl⟩;have k:∀(w:X) (i:Nat) (v:S),KT (·=kb) w (w.LH ⟨kb,i,Y⟩ v):=λw i v=>KT.LH (T:=(·=kb)) w (p:=⟨kb,i,Y⟩) rfl v;refine⟨.tuple #[],eb rfl _ _ _,rfl,HK.out.trans ((k _ 0 _).trans ((KT.E3 ((Gr.refl _).drewN nq)).trans ((k _ 2 _).trans ((k _ 3 _).trans ((k _ 4 _).trans ((k _ 5 _).trans ((k _ 6 _).trans ((k _ 7 _).trans (k _ 0 _))))))))),?_⟩
 exact cn (i:=0) (u:=.int .i32 0) HS.out
def vO (kb xb:Nat)(ρ:E2)(f:S)(w:X)(hx:w.S ⟨xb,0,Y⟩=U f)(aA:xb<w.L.size)(hk:w.L[kb]?=U (.cells (Jk 0 (λ_=>0) bk) 111 (0,0))) :
  bh D7 57 #[E6 ρ,.S (U ⟨kb,0,Y⟩),.S (U ⟨xb,0,Y⟩)] w λe w'=>e=.L (.tuple #[])/\KT (·=kb) w w'/\w'.L[kb]?=U (.cells (Jk 0 ρ cE) 111 (0,0)):=by
 obtain⟨W,hW⟩:∃W,W=w.LK (H #[.int .u8 (ρ 0),.int .u8 (ρ 1),.int .u8 (ρ 2),.int .u8 (ρ 3),.int .u8 (ρ 4)] 97):=⟨_,rfl⟩;have zY:=(AJ.1 hk).1;have HO:=AI (tL kb ρ f W (by rw[hW,bo _ _ zY];exact hk));have HK:=AI (show KT (·=kb) w W by rw[hW];exact KT.E3 ((Gr.refl w).LK _));have HW:=AI hW;unfold E6 at HO ⊢;go_enter Sq.func57,Tryz.ntmps57;go_wp2_with fail;rw[<-HW.out];refine HO.out.LT ?_
 rintro e w' ⟨rfl,a6,zn⟩;have a7:=AI (HK.out.trans a6);have a8:=AI zn;go_wp2;go_end0;exact⟨rfl,a7.out,a8.out⟩
def kG {T0 K:Nat->Prop}{cb:Nat}{c:Ek}{sets:List Nat}{nA hA:Option ak}{nc hc sb sc n:Nat}{r:E2}{w:X}(hC:Gk w K cb c sets nA hA nc hc sb sc)(hT:∀b,T0 b->b<w.L.size)(hK:∀b,K b->¬T0 b)(hr:∀i,c.has (r i)) :
  ML T0 K cb c sets nA hA nc hc sb sc w.L.size (w.L.size+1) (w.L.size+2) r n
   (((w.LK (H #[.S (U ⟨cb,0,Y⟩)] 75)).LK (H #[.int .u8 (r 0),.int .u8 (r 1),.int .u8 (r 2),.int .u8 (r 3),.int .u8 (r 4)] 97)).LK (H #[O G n] 3)):=by
 have hg:Gr w (((w.LK (H #[.S (U ⟨cb,0,Y⟩)] 75)).LK (H #[.int .u8 (r 0),.int .u8 (r 1),.int .u8 (r 2),.int .u8 (r 3),.int .u8 (r 4)] 97)).LK (H #[O G n] 3)):=(((Gr.refl w).LK _).LK _).LK _;refine⟨hC.keep hg.size λb o hb=>hg.cell (hC.lt b hb),hK,⟨?_,λh=>by have:=hT _ h;omega,by simp;omega⟩,⟨λi hi=>?_,λh=>by have:=hT _ h;omega,by simp⟩,⟨?_,by simp⟩,⟨by omega,λb hb=>by have:=hC.lt b hb;omega⟩,hr⟩
 .rw[Bi _ _ _ (by simp;omega),Bi _ _ _ (by simp),AM _ _ _ _ rfl];rfl
 .rw[Bi _ _ _ (by simp),AM _ _ _ _ (by simp),CL _ _ _ (by simp),BK _ _ _ _ (by simp)]
  match i,hi with
  |0,_=>exact⟨rfl,rfl⟩
  |1,_=>exact⟨rfl,rfl⟩
  |2,_=>exact⟨rfl,rfl⟩
  |3,_=>exact⟨rfl,rfl⟩
  |4,_=>exact⟨rfl,rfl⟩
 .rw[AM _ _ _ _ (by simp)];rfl
attribute [local go_sem] Oper.semAt_some
def QV:eC->eC
 |.seq _ b=>b
 |c=>c
noncomputable abbrev P7:Code:=QV (Tryz.f84.body.LH .skip)
def LU (b4:Nat):Deferred:={ target:=.fn (.func 85) #[],args:=#[.S (U ⟨b4,0,Y⟩)] }
def dI (b2 b3 b4 r:Nat):Act:=⟨#[.S (U ⟨b4,0,Y⟩),.S (U ⟨b2,0,Y⟩),.S (U ⟨r,0,Y⟩),.S (U ⟨b3,0,Y⟩),undef,undef,undef,undef,undef,undef,undef,undef],[LU b4]⟩
def oS {T0 K:Nat->Prop}{cb:Nat}{c:Ek}{sets:List Nat}{nA hA:Option ak}{nc hc sb sc b2 b3 b4 rb F k:Nat}{fc:Array S}{r:E2}{w:X}
  (aP:c.Ok) (aC:∀x∈sets,c.has x) (aQ:sets.L<=16) (hC:Gk w K cb c sets nA hA nc hc sb sc) (hT:∀b,T0 b->b<w.L.size) (hK:∀b,K b->¬T0 b) (hr:∀i,c.has (r i)) (hz:∀i,1<=i->r i=0) (hk:1+k=c.D9.L)
  (h2:w.S ⟨b2,0,Y⟩=U (.S (U ⟨cb,0,Y⟩))) (a7:∀i,i<5->w.S ⟨rb,i,Y⟩=U (.int .u8 (r i))) (h3:w.S ⟨b3,0,Y⟩=U (.func (.func F) #[] fc)) (a8:b3<w.L.size/\¬T0 b3)
  (I:List E2->X->Prop) (hI:∀pre W W',I pre W->(∀b,T0 b->W'.L[b]?=W.L[b]?)->I pre W') (h0:I [] w)
  (zS:∀(x:Array S) (w:X),(callFunc F x).run D7 w=.ok (.enter F x) w)
  (aL:∀(pre:List E2) (ρ:E2) (W:X),pre++[ρ] <+: E4 c sets k r 1->KT (λb=>T0 b\/w.L.size<=b) w W->I pre W->bh D7 F (#[E6 ρ]++fc) W λe W'=>e=.L (.tuple #[])/\KT T0 W W'/\I (pre++[ρ]) W') :
  P7.wp D7 (λe a' w'=>(e=.L\/e=.ret)/\(e=.L/\I (E4 c sets k r 1) w'/\∃D,a'.defers=[{ target:=.collected D,args:=#[] },LU b4]/\¬T0 D/\w'.L[D]?=U (.S (U [])))) (dI b2 b3 b4 rb) w:=by
 have HC:=AI hC;have HDO:=AI aL;have HT:=AI hT;have HK:=AI hK;have HI:=AI hI;have H0:=AI h0;have HR:=AI hr;have HZ:=AI hz;have HST:=AI aC;have r0:=a7 0 (by omega);have r1:=a7 1 (by omega);have r2:=a7 2 (by omega);have r3:=a7 3 (by omega);have r4:=a7 4 (by omega);have a6:=mw cb 1 r w;rw[<-ed (n:=0)] at a6;unfold E6 at a6;rw[show(((1:Nat):Int))=1 from rfl] at a6;have HF:=AI a6
 have aR:=AI h3;clear hC aL hT hK hI h0 hr hz aC a7 a6 h3;unfold dI P7 Tryz.f84;simp only[Bf,QV];rw[<-wpIn_wide (n:=0)]
 gi_wp2_with fail
 refine⟨trivial,rfl,HF.out.LT ?_⟩;rintro e w1 ⟨rfl,aD⟩;have hs:=kG (T0:=T0) (K:=K) (n:=1) (r:=r) HC.out HT.out HK.out HR.out;rw[show(((1:Nat):Int))=1 from rfl,<-aD] at hs;have HS:=AI hs;have zJ:Gr w w1:=by rw[aD];exact(((Gr.refl w).LK _).LK _).LK _
 have zE:w1.L.size=w.L.size+3:=by rw[aD];simp
 have aF:=AI zJ;have aH:=AI zE;clear hs zJ aD HF zE
 gi_wp2_with fail
 refine ld (T0:=T0) (K:=K) (cb:=cb) (c:=c) (sets:=sets) (nA:=nA) (hA:=hA) (nc:=nc) (hc:=hc) (sb:=sb) (sc:=sc) (bc:=w.L.size) (br:=w.L.size+1) (bn:=w.L.size+2) (k:=k) (n:=1) (r:=r)
  aP HST.out aQ rfl hk HZ.out HS.out (λb hb=>AO (HT.out b hb) aF.out.size) rfl
  I (λ_ _ _=>False) HI.out (λc pre W W' h _=>h) (HI.out _ _ _ H0.out λb hb=>aF.out.Li.LE b (HT.out b hb)) ?_ ?_ (λD j q W _ _ _ h _=>h.S)
 .intro l pre ρ W hpl aG aI Gg zC;have aA:KT (λb=>T0 b\/w.L.size<=b) w W:=KT.LK (T:=λb=>T0 b\/b=w.L.size+1) ((KT.E3 aF.out).trans aG) λb hb h=>h.S .inl λh=>by omega
  have HKW:=AI aA;have aS:=AI hpl;have aO:=AI aI;have hb3:W.S ⟨b3,0,Y⟩=U (.func (.func F) #[] fc):=(aA.cell (p:=⟨b3,0,Y⟩) a8.1 (by rintro(h|h);exact a8.2 h;have:=a8.1;exact AS h (by show ¬w.L.size<=b3;omega))).trans aR.out;have hzw:=aA.size;have hzl:w.L.size+3<=W.L.size:=by have:=aG.size;have:=aH.out;omega
  obtain⟨W2,zm⟩:∃W2,W2=W.LK (H #[.int .u8 (ρ 0),.int .u8 (ρ 1),.int .u8 (ρ 2),.int .u8 (ρ 3),.int .u8 (ρ 4)] 97):=⟨_,rfl⟩;have aJ:Hid (KT T0 W W2):=AI (by rw[zm];exact KT.E3 ((Gr.refl W).LK _));have aT:Hid (W2.L[W.L.size]?=U (H #[.int .u8 (ρ 0),.int .u8 (ρ 1),.int .u8 (ρ 2),.int .u8 (ρ 3),.int .u8 (ρ 4)] 97 (0,0))):=AI (by rw[zm];exact L W _);have HOLD:Hid (∀b,b<W.L.size->W2.L[b]?=W.L[b]?):=AI λb hb=>by rw[zm];exact bo _ _ hb
  have zD:W2.L.size=W.L.size+1:=by rw[zm];simp
  have aX:=AI zD;have aM:=AI zm;clear aG aA hpl aI zm zD;unfold E6
  gi_wp2
  rw[<-aM.out];refine⟨aJ.out,λo=>?_⟩;clear aM;have aN:∀b,b<w.L.size->b≠l:=λb hb=>by have:=aH.out;omega
  have HB3:(W2.LB l o).S ⟨b3,0,Y⟩=U (.func (.func F) #[] fc):=(cC (aN b3 a8.1)).trans ((aJ.out.cell (p:=⟨b3,0,Y⟩) (by show b3<_;have:=a8.1;omega) a8.2).trans hb3);obtain⟨aB,_,_⟩:=GP (W:=W2.LB l o) ((C (by omega)).trans aT.out);have c0:=aB 0;have c1:=aB 1;have c2:=aB 2;have c3:=aB 3;have c4:=aB 4;simp at c0 c1 c2 c3 c4;have HI2:=AI (HI.out pre W (W2.LB l o) aO.out λb hb=>(C (aN b (HT.out b hb))).trans (HOLD.out b (by have:=HT.out b hb;omega)))
  have aK:=HDO.out pre ρ (W2.LB l o) aS.out ((HKW.out.trans (aJ.out.LT λb h=>.inl h)).trans (KT.LB (T:=λb=>T0 b\/w.L.size<=b) W2 (.inr (by have:=aH.out;omega)) o)) HI2.out;rw[<-ed (n:=0)] at aK;unfold E6 at aK;have HD2:=AI aK
  gi_wp2_with fail
  refine⟨trivial,rfl,HD2.out.LT ?_⟩;rintro e w5 ⟨rfl,aU,hi5⟩;have aV:=AI aU;have HI5:=AI hi5
  gi_wp2
  exact⟨aV.out,HI5.out⟩
 .intro D W hD aG hi hd;have aW:=AI (show ¬T0 D from λh=>by have:=HT.out D h;have:=aF.out.size;omega)
  gi_wp2
  exact⟨hi,aW.out⟩
def bP (a b c:Int)(w:X):bh D7 45 #[O G a,O G b,O G c] w λe w'=>e=.L (.bool (FM a b c))/\w=w':=by
 by_cases h1:b<=a
 .by_cases h2:a<=c
  .have HS:=AI (show FM a b c=cE by simp[FM,h1,h2]);go_enter Sq.func45,eH;go_wp2;go_ret;exact⟨aq HS.out.LH,rfl⟩
  .have HS:=AI (show FM a b c=bk by simp[FM];omega);go_enter Sq.func45,eH;go_wp2;go_ret;exact⟨aq HS.out.LH,rfl⟩
 .have HS:=AI (show FM a b c=bk by simp[FM];omega);go_enter Sq.func45,eH;go_wp2;go_ret;exact⟨aq HS.out.LH,rfl⟩
def iA (n lo hi:Int)(w:X):bh D7 91 #[O G n,O G lo,O G hi] w λe w'=>e=.L (O G (EM n lo hi))/\w=w':=by
 by_cases h1:n<lo
 .have HS:=AI (show EM n lo hi=7 by simp[EM,h1]);go_enter Sq.func91,eT;go_wp2;go_ret;exact⟨al HS.out.LH,rfl⟩
 .by_cases h2:hi<n
  .have HS:=AI (show EM n lo hi=6 by simp[EM,h1,h2]);go_enter Sq.func91,eT;go_wp2;go_ret;exact⟨al HS.out.LH,rfl⟩
  .have HS:=AI (show EM n lo hi=0 by simp[EM,h1,h2]);go_enter Sq.func91,eT;go_wp2;go_ret;exact⟨al HS.out.LH,rfl⟩
def i4 (A:Option ak)(c:Nat)(l:List Int)(n:Int)(w:X)(B:Nat)(h:RI w B A l)(hl:l.L<=4611686018427387904)(a6:0<=n)(hn:n<=4611686018427387904) :
  bh D7 92 #[Z A l.L c,O G n] w λe w'=>e=.L (O G (Fz l n))/\w=w':=by
 have HR:=AI h;go_enter Sq.func92,Tryz.ntmps92;go_wp2;go_loop [9] (λi=>∃k:Nat,k<=l.L/\i=O G k/\∀j,j<k->Gi l n j=0) (λi=>l.L-(bb i).L)
 case atStart=>exact⟨0,by omega,rfl,λj hj=>AS hj (BI _)⟩
 case round =>
  obtain⟨k,hk,rfl,hz⟩:=hrel;have HZ:=AI hz;by_cases zY:k<l.L
  .obtain⟨b,o,rfl,hb,hc⟩:=HR.out.at_ zY;have HA:Hid (Gi l n k=if 0<=l[k]?.LH 0/\l[k]?.LH 0<=n-1 then(if 0<k/\l[k]?.LH 0<=l[k-1]?.LH 0 then 5 else 0) else 3):=AI rfl;by_cases hr:0<=l[k]?.LH 0/\l[k]?.LH 0<=n-1
   .have HI : Hid (bh D7 45 #[O G (l[k]?.LH 0), O G 0, O G (n - 1)] w fun e w' => e = .L (.bool cE) ∧ w = w') := Lib.hid (by
     have:=bP (l[k]?.LH 0) 0 (n-1) w
     rwa [show FM (l[k]?.LH 0) 0 (n-1)=cE by simp[FM,hr.1,hr.2]] at this)
    obtain h0|h0:=Bw k
    .subst h0;have HS:=AI (show Gi l n 0=0 by rw[HA.out,AP hr,AN (by omega)]);simp only[Nat.add_zero] at hc;generalize l[0]?.LH 0=x at hc HI;go_wp2_with (go_at_call 45;refine HI.out.LT ?_;rintro e w' ⟨rfl,rfl⟩);go_round
     case rel=>exact⟨1,by omega,by go_num,λj hj=>by
      have:j=0:=by omega
      subst this;exact HS.out⟩
     case measure=>simp[Proofs.intOf];omega
    .obtain⟨m,rfl⟩:∃m,k=m+1:=⟨k-1,by omega⟩;have hc':w.S ⟨b,o+m,Y⟩=U (O G (l[m]?.LH 0)):=by
      obtain⟨b',o',e,_,h⟩:=HR.out.at_ (k:=m) (by omega);simp only[Option.some.injEq,Addr.mk.injEq] at e;obtain⟨rfl,rfl,_⟩:=e;exact h
     by_cases zX:l[m+1]?.LH 0<=l[m]?.LH 0
     .have HS := Lib.hid (show Fz l n = 5 by
       have e:Gi l n (m+1)=5:=by rw[HA.out,AP hr,AP ⟨h0,zX⟩]
       rw[gz zY HZ.out (by rw[e];decide),e])
      generalize l[m+1]?.LH 0=x at hc HI zX;generalize l[m]?.LH 0=y at hc' zX;go_wp2_with (go_at_call 45;refine HI.out.LT ?_;rintro e w' ⟨rfl,rfl⟩);go_ret;exact⟨al HS.out.LH,rfl⟩
     .have HS:=AI (show Gi l n (m+1)=0 by rw[HA.out,AP hr,AN (λh=>zX h.2)]);generalize l[m+1]?.LH 0=x at hc HI zX;generalize l[m]?.LH 0=y at hc' zX;go_wp2_with (go_at_call 45;refine HI.out.LT ?_;rintro e w' ⟨rfl,rfl⟩);go_round
      case rel=>exact⟨m+1+1,by omega,by go_num,λj hj=>by
       obtain h|rfl:=BU (Ce hj)
       .exact HZ.out j h
       .exact HS.out⟩
      case measure=>simp[Proofs.intOf];omega
   .have HI : Hid (bh D7 45 #[O G (l[k]?.LH 0), O G 0, O G (n - 1)] w fun e w' => e = .L (.bool bk) ∧ w = w') := Lib.hid (by
     have:=bP (l[k]?.LH 0) 0 (n-1) w
     rwa [show FM (l[k]?.LH 0) 0 (n-1)=bk by simp[FM];omega] at this)
    have HS:=AI (show Fz l n=3 by
     have e:Gi l n k=3:=by rw[HA.out,AN hr]
     rw[gz zY HZ.out (by rw[e];decide),e])
    generalize l[k]?.LH 0=x at hc HI;go_wp2_with (go_at_call 45;refine HI.out.LT ?_;rintro e w' ⟨rfl,rfl⟩);go_ret;exact⟨al HS.out.LH,rfl⟩
  .have HS:=AI (show Fz l n=0 from kY λi hi=>HZ.out i (by omega));have:k=l.L:=by omega
   go_wp2;go_ret;exact⟨al HS.out.LH,rfl⟩
def En (nA hA:Option ak)(c:Ek)(nc hc:Nat):Value:=.agg #[Z nA c.D9.L nc,Z hA c.D8.L hc]
def jT {c:Ek}(h1:EM c.D9.L 1 5=0)(h2:(c.D9.all λx=>FM x 0 12)=cE)(h3:EM c.D8.L 1 4=0):Ex c=bI (c.D8.map (FZ c.D9.L)):=by
 simp[Ex,h1,h2,h3]
def bU (c:Ek)(n:Int){i:Nat}(hi:i<c.D8.L):(c.D8.map (FZ n))[i]?.LH 0=FZ n (c.h i):=by
 unfold Ek.h;simp[hi]
def wF (nA hA:Option ak)(nc hc:Nat)(c:Ek)(w:X)(B:Nat)(hB:B<=w.L.size)(hn:RI w B nA c.D9)(hh:Fe w B hA c.D8)(Gg:c.D9.L<=4611686018427387904)(zC:c.D8.L<=4611686018427387904)
  (Fa:∀h∈c.D8,h.off.L<=4611686018427387904) :
  bh D7 81 #[En nA hA c nc hc] w λe w'=>e=.L (O G (Ex c))/\Gr w w':=by
 have HN:=AI hn;have HH:=AI hh;have aL:=AI Fa;clear hn hh Fa;unfold En;obtain⟨W0,zM⟩:∃W0:X,W0=w.LK (H #[Z nA c.D9.L nc,Z hA c.D8.L hc] 25):=⟨_,rfl⟩;have aD:Hid (Gr w W0):=AI (by rw[zM];exact(Gr.refl w).LK _);have HC:Hid (∀W,Gr W0 W->W.S ⟨w.L.size,0,Y⟩=U (Z nA c.D9.L nc)/\W.S ⟨w.L.size,1,Y⟩=U (Z hA c.D8.L hc)):=AI λW hg=>by
  rw[hg.cell (by show w.L.size<_;rw[zM];simp),hg.cell (by show w.L.size<_;rw[zM];simp),zM,AM _ _ _ _ rfl,AM _ _ _ _ rfl];exact⟨rfl,rfl⟩
 have zF:W0.L.size=w.L.size+1:=by rw[zM];simp
 by_cases aA:EM c.D9.L 1 5=0
 .have HM:Hid (bh D7 91 #[O G c.D9.L,O G 1,O G 5] (w.LK (H #[Z nA c.D9.L nc,Z hA c.D8.L hc] 25)) λe w'=>e=.L (O G 0)/\(w.LK (H #[Z nA c.D9.L nc,Z hA c.D8.L hc] 25))=w'):=AI (by rw[<-aA];exact iA _ _ _ _);have aH:=AI aA;have HW:=AI zM;clear aA zM;go_enter Sq.func81,gl
  go_wp2_with (first|(go_at_call 91;refine HM.out.LT ?_;rintro e w' ⟨rfl,rfl⟩));rw[<-HW.out];clear HW HM;obtain⟨zo,zu⟩:=HC.out W0 (Gr.refl _);have aM:=AI ((HN.out.gr hB aD.out).more (B':=W0.L.size) (by omega));go_loop [20] (λi=>∃k:Nat,k<=c.D9.L/\i=O G k/\∀j,j<k->FM (c.D9[j]?.LH 0) 0 12=cE) (λi=>c.D9.L-(bb i).L)
  case atStart=>exact⟨0,by omega,rfl,λj hj=>AS hj (BI _)⟩
  case round =>
   obtain⟨k,hk,rfl,hz⟩:=hrel;have HZ:=AI hz;clear hz;by_cases zY:k<c.D9.L
   .obtain⟨b,o,rfl,hb,hcell⟩:=aM.out.at_ zY;have hI:=bP (c.D9[k]?.LH 0) 0 12 W0;cases a7:FM (c.D9[k]?.LH 0) 0 12 with
    |true =>
     rw[a7] at hI;have HI:=AI hI;have aN:=AI a7;clear hI a7;generalize c.D9[k]?.LH 0=x at hcell HI;go_wp2_with (go_at_call 45;refine HI.out.LT ?_;rintro e w' ⟨rfl,rfl⟩);go_round
     case rel=>exact⟨k+1,by omega,by go_num,λj hj=>by
      obtain h|rfl:=BU (Ce hj)
      .exact HZ.out j h
      .exact aN.out⟩
     case measure=>simp[Proofs.intOf];omega
    |false =>
     rw[a7] at hI;have HI:=AI hI
     have HS:=AI (show Ex c=1 by
      have:(c.D9.all λx=>FM x 0 12)=false:=by
       rw[List.all_eq_false];exact⟨_,GA _ _ zY,by simp[a7]⟩
      simp[Ex,aH.out,this])
     clear hI a7;generalize c.D9[k]?.LH 0=x at hcell HI;go_wp2_with (go_at_call 45;refine HI.out.LT ?_;rintro e w' ⟨rfl,rfl⟩);go_ret;exact⟨al HS.out.LH,aD.out⟩
   .have HA := Lib.hid (show (c.D9.all fun x => FM x 0 12) = cE by
     rw[BO];intro x hx;obtain⟨j,hj,rfl⟩:=Cr.1 hx;have:=HZ.out j (by omega)
     rwa [AL hj] at this)
    have aI:k=c.D9.L:=by omega
    clear HZ;subst aI;have aF:=iA c.D8.L 1 4 W0;by_cases aB:EM c.D8.L 1 4=0
    .rw[aB] at aF;have HM:=AI aF;have HD:=AI (jT aH.out HA.out aB);clear aF aB;go_wp2_with (first|(go_at_call 91;refine HM.out.LT ?_;rintro e w' ⟨rfl,rfl⟩));go_loopw [38] (λi wr=>∃k:Nat,k<=c.D8.L/\i=O G k/\(∀j,j<k->FZ c.D9.L (c.h j)=0)/\Gr W0 wr) (λi _=>c.D8.L-(bb i).L)
     case atStart=>exact⟨0,by omega,rfl,λj hj=>AS hj (BI _),Gr.refl _⟩
     case round =>
      obtain⟨k,hk,rfl,hz,zV⟩:=hrel;have HZ:=AI hz;have aK:=AI zV;have a8:=AI (aD.out.trans zV);obtain⟨NP,aU⟩:=HC.out wr zV;have zv:w.L.size<wr.L.size:=by have:=aK.out.size;omega
      clear hz zV;by_cases zY:k<c.D8.L
      .have aO:=AI (HH.out.keep λb o hb=>a8.out.cell (p:=⟨b,o,Y⟩) (AO hb hB));obtain⟨b,o,rfl,hb,hat⟩:=aO.out.at_ (c:=c) zY;obtain⟨g0,g1,g2,A,ac,g3,aP⟩:=hat;have aQ:=AI (aP.more (B':=wr.L.size) (by omega));have aR:=aL.out _ (c.I9 zY);have HF:=AI (bU c c.D9.L zY);have aS:∀x lo hi v,FM x lo hi=v->∀W:X,bh D7 45 #[O G x,O G lo,O G hi] W λe w'=>e=.L (.bool v)/\W=w':=λx lo hi v h W=>by rw[<-h];exact bP _ _ _ _
       have a6:=AI aS;cases t1:FM (c.h k).heads 1 40 with
       |false =>
        have HS:=AI (show Ex c=1 by
         have e:FZ c.D9.L (c.h k)=1:=by simp[FZ,t1]
         rw[HD.out,aW (k:=k) (by simpa using zY) (λi hi=>by rw[bU c _ (by omega)];exact HZ.out i hi) (by rw[HF.out,e];decide),HF.out,e])
        have HA:=AI (a6.out _ _ _ _ t1);go_wp2_with (first|(go_at_call 45;refine(HA.out _).LT ?_;rintro e w' ⟨rfl,rfl⟩));go_ret;exact⟨al HS.out.LH,a8.out.LK _⟩
       |true =>
        have HA:=AI (a6.out _ _ _ _ t1);cases t2:FM (c.h k).FL 1 5 with
        |false =>
         have HS:=AI (show Ex c=1 by
          have e:FZ c.D9.L (c.h k)=1:=by simp[FZ,t2]
          rw[HD.out,aW (k:=k) (by simpa using zY) (λi hi=>by rw[bU c _ (by omega)];exact HZ.out i hi) (by rw[HF.out,e];decide),HF.out,e])
         have aC:=AI (a6.out _ _ _ _ t2);go_wp2_with fail;refine(HA.out _).LT ?_;rintro e w' ⟨rfl,rfl⟩;go_wp2_with fail;refine(aC.out _).LT ?_;rintro e w' ⟨rfl,rfl⟩;go_wp2;go_ret;exact⟨al HS.out.LH,a8.out.LK _⟩
        |true =>
         have aC:=AI (a6.out _ _ _ _ t2);cases t3:FM (c.h k).most 0 5 with
         |false =>
          have HS:=AI (show Ex c=1 by
           have e:FZ c.D9.L (c.h k)=1:=by simp[FZ,t3]
           rw[HD.out,aW (k:=k) (by simpa using zY) (λi hi=>by rw[bU c _ (by omega)];exact HZ.out i hi) (by rw[HF.out,e];decide),HF.out,e])
          have aG:=AI (a6.out _ _ _ _ t3);go_wp2_with fail;refine(HA.out _).LT ?_;rintro e w' ⟨rfl,rfl⟩;go_wp2_with fail;refine(aC.out _).LT ?_;rintro e w' ⟨rfl,rfl⟩;go_wp2_with fail;refine(aG.out _).LT ?_;rintro e w' ⟨rfl,rfl⟩;go_wp2;go_ret;exact⟨al HS.out.LH,a8.out.LK _⟩
         |true =>
          have aG:=AI (a6.out _ _ _ _ t3);have HE:=AI (show FZ c.D9.L (c.h k)=Fz (c.h k).off c.D9.L by simp[FZ,t1,t2,t3]);have HAS:=AI (λW (hg:Gr wr W)=>i4 A ac (c.h k).off c.D9.L W wr.L.size (aQ.out.gr (AK _) hg) aR (by omega) (by omega));have aJ:Hid (∀v,Gr wr (wr.LK v)):=AI λv=>(Gr.refl wr).LK v;by_cases he:Fz (c.h k).off c.D9.L=0
          .rw[he] at HAS;have aT:=AI (HE.out.trans he);go_wp2_with fail;refine(HA.out _).LT ?_;rintro e w' ⟨rfl,rfl⟩;go_wp2_with fail;refine(aC.out _).LT ?_;rintro e w' ⟨rfl,rfl⟩;go_wp2_with fail;refine(aG.out _).LT ?_;rintro e w' ⟨rfl,rfl⟩;go_wp2_with fail;refine(HAS.out _ (aJ.out _)).LT ?_;rintro e w' ⟨rfl,rfl⟩;go_wp2;go_roundw
           case rel=>exact⟨k+1,by omega,by go_num,λj hj=>by
            obtain h|rfl:=BU (Ce hj)
            .exact HZ.out j h
            .exact aT.out,aK.out.LK _⟩
           case measure=>simp[Proofs.intOf];omega
          .have HS := Lib.hid (show Ex c = Fz (c.h k).off c.D9.L by
            rw[HD.out,aW (k:=k) (by simpa using zY) (λi hi=>by rw[bU c _ (by omega)];exact HZ.out i hi) (by rw[HF.out,HE.out];exact he),HF.out,HE.out])
           have zU:((Fz (c.h k).off c.D9.L) != 0)=true:=by simpa using he
           generalize Fz (c.h k).off c.D9.L=e0 at HAS HS zU;go_wp2_with fail;refine(HA.out _).LT ?_;rintro e w' ⟨rfl,rfl⟩;go_wp2_with fail;refine(aC.out _).LT ?_;rintro e w' ⟨rfl,rfl⟩;go_wp2_with fail;refine(aG.out _).LT ?_;rintro e w' ⟨rfl,rfl⟩;go_wp2_with fail;refine(HAS.out _ (aJ.out _)).LT ?_;rintro e w' ⟨rfl,rfl⟩;go_wp2;go_ret;exact⟨al HS.out.LH,a8.out.LK _⟩
      .have HS := Lib.hid (show Ex c = 0 by
        rw[HD.out];exact cA λi hi=>by
         rw[BD] at hi
         rw[bU c _ hi];exact HZ.out i (by omega))
       have aI:k=c.D8.L:=by omega
       subst aI;go_wp2;go_ret;exact⟨al HS.out.LH,a8.out⟩
    .have HS:=AI (show Ex c=EM c.D8.L 1 4 by simp[Ex,aH.out,HA.out,aB]);have HM:=AI aF;have hb:((EM c.D8.L 1 4) != 0)=true:=by simpa using aB
     generalize EM c.D8.L 1 4=e0 at HM hb HS;go_wp2_with (first|(go_at_call 91;refine HM.out.LT ?_;rintro e w' ⟨rfl,rfl⟩));go_ret;exact⟨al HS.out.LH,aD.out⟩
 .have HS:=AI (show Ex c=EM c.D9.L 1 5 by simp[Ex,aA]);have HM:=AI (iA c.D9.L 1 5 W0);have hb:((EM c.D9.L 1 5) != 0)=true:=by simpa using aA
  rw[zM] at HM;generalize EM c.D9.L 1 5=e0 at HM hb HS;go_enter Sq.func81,gl;go_wp2_with (first|(go_at_call 91;refine HM.out.LT ?_;rintro e w' ⟨rfl,rfl⟩));go_ret;exact⟨al HS.out.LH,(Gr.refl w).LK _⟩
def iB (u:S):Prop:=∃x,u=.int .u8 x
def G7 (w:X)(v:S):Prop:=∀a n c,v=.slice (U a) n c->∃(cur:Array S) (t:cw),w.L[a.LE]?=U (.cells cur t (0,0))/\∀u∈cur.LK,iB u
def G7.nil (w:X):G7 w (.slice Y 0 0):=λa n c h=>by cases h
def G7.keep {w w':X}{v:S}(h:G7 w v)(hk:∀a n c,v=.slice (U a) n c->w'.L[a.LE]?=w.L[a.LE]?):G7 w' v:=λa n c e=>by
 obtain⟨cur,t,h1,h2⟩:=h a n c e;exact⟨cur,t,(hk a n c e).trans h1,h2⟩
variable {P:Program}
def wG (n:Nat):∀u∈(dn (O .u8 0).cells n).LK,iB u:=by
 intro u hu;simp only[dn,Array.toList_map,Bu] at hu;obtain⟨i,_,rfl⟩:=hu;refine⟨0,?_⟩;show(#[O .u8 0]:Array S)[i % 1]! = _;rw[Nat.mod_one];rfl
def n8 (w:X)(base:Nat)(t ty e:cw)(i:TypeInfo)(ht:P.LH t=U (.slice e))(hi:P.info? e=U i)(hz:i.zero=U (.int .u8 0))
  (hsize:i.size=1) (hby:i.bytes=1) (v:S) (n:Nat) (xs:List S) (zl:w.H base e 1 v n xs) (hf:G7 w v)
  (a:ak) (m c:Nat) (news:List S) (hl:news.L=m*1) (hnews:∀j u,news[j]?=U u->w.S (a.add j)=U u) (h1:∀u∈news,iB u) (h63:n+m<=maxLen) (hbytes:(n+m)*1<=140737488355328)
  {v':S} {w':X} (zA:(ek #[t,t] ty #[v,.slice (U a) m c]).run P w=.ok v' w'):G7 w' v':=by
 have a7:∀u∈news,u.oneCell'=true:=λu hu=>by obtain⟨x,rfl⟩:=h1 u hu;rfl
 have grown:∀(ys:List S) k,(∀u∈ys,iB u)->∀l1 l2 n1 c1,l1++l2=ys->G7 (w.drew.LK (.cells (l1.LK++l2.LK++dn (O .u8 0).cells k) e)) (.slice (U ⟨w.L.size,0,Y⟩) n1 c1):=by
  intro ys k hys l1 l2 n1 c1 a8 a n c he;injection he with h _ _
  injection h with h
  subst h;refine⟨_,e,heap_alloc_new w.drew _,λu hu=>?_⟩;simp only[Array.toList_append,BH] at hu;obtain hu|hu:=hu
  .refine hys u ?_;rw[<-a8];simpa using hu
  .exact wG _ u hu
 obtain⟨rfl,rfl⟩|⟨g,cap,cur,rfl,hbg,hg,aC,hcm,zW,a6⟩:=zl.2
 .by_cases hm:m=0
  .subst hm;have hn:news=[]:=Bp (by simpa using hl);subst hn;simp[ek,run_underlying ht,sizeOf,typeInfo,hi,Builtin.lenOf,Builtin.firstCells,loadCells,loadCellsFrom] at zA;obtain⟨rfl,rfl⟩:=zA;exact G7.nil _
  .have hr:=run_append_nil (P:=P) w t ty e i (.int .u8 0) ht hi hz a m c news (by rw[hsize];exact hl) hnews (by omega) (by omega) (by rw[hby];omega);rw[hr] at zA;cases zA;have:=grown news (grownCap w m 0 e-m) h1 [] news m (grownCap w m 0 e) rfl;simpa using this
 .obtain⟨cur',t',z1,z2⟩:=hf _ _ _ rfl;have z1':w.L[g]?=U (.cells cur' t' (0,0)):=z1;rw[hg] at z1';cases z1';have aB:∀u∈xs,iB u:=λu hu=>z2 u (by rw[<-a6] at hu;exact Cq hu);by_cases hroom:n+m<=cap
  .have aA:n*i.size+news.L<=cur.size:=by rw[hsize,hl,zW];omega
   have hr:=run_append_room (P:=P) w t ty e i ht hi g n cap cur hg a m c news (by rw[hsize];exact hl) hnews a7 hroom aA;rw[hr] at zA;cases zA;intro a2 n2 c2 he;injection he with h _ _
   injection h with h
   subst h;refine⟨_,e,setRow_heap w g cur _ e _ hg,λu hu=>?_⟩;simp only[BH] at hu;obtain(hu|hu)|hu:=hu
   .exact z2 u (Cq hu)
   .exact h1 u hu
   .exact z2 u (List.mem_of_mem_drop hu)
  .have holds:∀j u,xs[j]?=U u->w.S ((⟨g,0,Y⟩:ak).add j)=U u:=zl.cells (g:=g) rfl;have hr:=run_append_grow (P:=P) w t ty e i (.int .u8 0) ht hi hz ⟨g,0,Y⟩ n cap xs (by rw[hsize];exact zl.1) holds a m c news (by rw[hsize];exact hl) hnews (by omega) (by omega) (by rw[hby];exact growslice_fits (by omega) hbytes);rw[hr] at zA;cases zA;exact grown (xs++news) _ (λu hu=>(BH.1 hu).S (aB u) (h1 u)) xs news _ _ rfl
def iC {w:X}{ops:Array Oper}{rest:List Oper}{o:Oper}{a:Act}{Q:Exit->Act->X->Prop}(hgd:o.guard=Y)(s x:fu)(t:cw)
  (ho:o.op=.call { callee:=.builtin .append,args:=#[s,x],argTypes:=#[t,t] })
  (base:Nat) (e:cw) (i:TypeInfo) (ht:P.LH t=U (.slice e)) (hi:P.info? e=U i) (hz:i.zero=U (.int .u8 0))
  (hsize:i.size=1) (hby:i.bytes=1)
  (v:S) (n:Nat) (xs:List S) (hs:a.eval s=v) (zl:w.H base e 1 v n xs) (hf:G7 w v)
  (ad:ak) (m c:Nat) (news:List S) (hx:a.eval x=.slice (U ad) m c) (hl:news.L=m*1) (hnews:∀j u,news[j]?=U u->w.S (ad.add j)=U u) (h1:∀u∈news,iB u)
  (h63:n+m<=maxLen) (hbytes:(n+m)*1<=140737488355328) (hbase:base<=w.L.size)
  (h:∀v' w',w'.H base e 1 v' (n+m) (xs++news)->w.grownBy w' v.L->w.drawn<=w'.drawn->G7 w' v'->wpList P ops Q rest (a.put o.L v') w'):wpList P ops Q (o::rest) a w:=by
 refine wpList_plain hgd λK hK=>?_;have a6:∀u∈news,u.oneCell'=true:=λu hu=>by obtain⟨x,rfl⟩:=h1 u hu;rfl
 obtain⟨v',w',hr,h2,h3,h4⟩:=run_append_own (P:=P) w base t o.type e i (.int .u8 0) 1 1 ht hi hz hsize hby rfl (by decide) v n xs zl ad m c news hl hnews a6 h63 hbytes hbase;have a7:=n8 (P:=P) w base t o.type e i ht hi hz hsize hby v n xs zl hf ad m c news hl hnews h1 h63 hbytes hr;have hd:=Go.EB.Gh P (ek #[t,t] o.type #[v,.slice (U ad) m c]) w #[];rw[Sem.runT_fst,hr] at hd
 unfold Oper.wp execOp;simp only[ho,resolve,invoke,builtin,Sem.run_bind,Sem.run_pure,Result.andThen_ok,C4,Ci,CX,hs,hx,hr];exact hK _ _ (h v' w' h2 h3 hd a7)
def wH:∀x:Fin 16,∀n:Fin 4,bits BinOp.or gU (x.val:Int) (2 ^ n.val % 256)=((x.val ||| 2 ^ n.val:Nat):Int):=by decide
def R9 (A:Option ak)(c:Nat)(l:List Int)(w:X)(B:Nat)(h:RI w B A l)(hl:l.L<=4611686018427387904)(hx:∀x∈l,0<=x/\x<4) :
  bh D7 93 #[Z A l.L c] w λe w'=>e=.L (.int .u8 (JK l))/\w=w':=by
 have HR:=AI h;have HX:=AI hx;go_enter Sq.func93,Tryz.ntmps93;go_wp2;go_loop [3,8] (λs i=>∃k:Nat,k<=l.L/\i=O G k/\s=.int .u8 (JK (l.LT k))) (λ_ i=>l.L-(bb i).L)
 case atStart=>exact⟨0,by omega,rfl,rfl⟩
 case round =>
  obtain⟨k,hk,rfl,rfl⟩:=hrel;by_cases zY:k<l.L
  .obtain⟨b,o,rfl,hb,hc⟩:=HR.out.at_ zY;have HS:=AI (tI l k zY);obtain⟨n,hn,a8⟩:∃n:Nat,l[k]?.LH 0=n/\n<4:=by
    obtain⟨h1,h2⟩:=HX.out _ (GA l k zY);exact⟨(l[k]?.LH 0).L,by omega,by omega⟩
   rw[hn] at hc;have HN:=AI hn;have a6:JK (l.LT k)<16:=rj _ λy hy=>HX.out y (Cq hy);have HO:=AI (show bits BinOp.or gU ((JK (l.LT k):Nat):Int) (2 ^ n % 256)=((JK (l.LT k) ||| 2 ^ n:Nat):Int) from wH ⟨_,a6⟩ ⟨n,a8⟩);have a7:=AI (show JK (l.LT (k+1))=JK (l.LT k) ||| 2 ^ n by rw[HS.out,HN.out];rfl);generalize JK (l.LT k)=x at HO a7 a6;go_wp2;go_round
   case rel=>exact⟨k+1,by omega,by go_num,by rw[a7.out];exact Bh (Value.int .u8) HO.out⟩
   case measure=>simp[Proofs.intOf];omega
  .have aA:k=l.L:=by omega
   have HS:=AI (show JK (l.LT k)=JK l by rw[Bm (by omega)]);clear aA;go_wp2;go_ret;exact⟨al (by rw[HS.out]),rfl⟩
def D0:(D7.info? 76).map (λi=>(i.zero,i.size,i.bytes))=U (U (.int .u8 0),1,1):=by
 rw[Dy];kernel_rfl
def Mi (k:Nat):List Value:=(bl k).map λi:Nat=>.int .u8 (i:Int)
def rW (k:Nat):Mi (k+1)=Mi k++[.int .u8 k]:=by simp[Mi,C6]
def rX (N:Nat)(R:S->X->X->Prop):Prop:=∀(W:X) (g cap B:Nat),W.H B 76 1 (.slice (U ⟨g,0,Y⟩) N cap) N (Mi N) ->
 bh D7 97 #[.slice (U ⟨g,0,Y⟩) N cap,.func (.func 98) #[] #[]] W λe W'=>e=.L (.tuple #[])/\R (.slice (U ⟨g,0,Y⟩) N cap) W W'
def pg (nA hA:Option ak)(nc hc nn m:Nat)(w:X)(hm:m<=4){R:S->X->X->Prop}(hs:rX (2 ^ m) R) :
  bh D7 65 #[.agg #[Z nA nn nc,Z hA m hc]] w λe w'=>e=.L (.S (U ⟨w.L.size+1,0,Y⟩))/\∃(g cap:Nat) (W:X),R (.slice (U ⟨g,0,Y⟩) (2 ^ m) cap) W w'/\w.L.size+2<=g/\Gr w W/\w.L.size+1<W.L.size /\
   W.S ⟨w.L.size+1,0,Y⟩=U (Z nA nn nc)/\W.S ⟨w.L.size+1,1,Y⟩=U (Z hA m hc)/\W.S ⟨w.L.size+1,2,Y⟩=U (.slice (U ⟨g,0,Y⟩) (2 ^ m) cap) /\
   W.H (w.L.size+2) 76 1 (.slice (U ⟨g,0,Y⟩) (2 ^ m) cap) (2 ^ m) (Mi (2 ^ m)) /\
   G7 W (.slice (U ⟨g,0,Y⟩) (2 ^ m) cap)/\W.L[w.L.size+1]?=U (H #[Z nA nn nc,Z hA m hc,.slice (U ⟨g,0,Y⟩) (2 ^ m) cap] 151 (0,0)):=by
 obtain⟨i0,hi,zF,zE,zD⟩:=eF D0;have a6:=AI hs;have a8:((2:Int) ^ m % 256)=((2 ^ m:Nat):Int)/\2 ^ m<=16/\1<=2 ^ m:=by
  have:m=0\/m=1\/m=2\/m=3\/m=4:=by omega
  rcases this with rfl|rfl|rfl|rfl|rfl<;>decide
 obtain⟨Jj,aF,hp3⟩:=a8;generalize 2 ^ m=N at Jj aF hp3 a6 ⊢;have HP:=AI Jj;go_enter Sq.func65,Tryz.ntmps65;go_wp2;rw[HP.out]
 go_loopw [13] (λi wr=>∃k:Nat,k<=N/\i=.int .u8 k/\∃v,wr.S ⟨w.L.size+1,0,Y⟩=U (Z nA nn nc)/\wr.S ⟨w.L.size+1,1,Y⟩=U (Z hA m hc)/\wr.S ⟨w.L.size+1,2,Y⟩=U v/\wr.O ⟨w.L.size+1,2,Y⟩=bk /\
  wr.H (w.L.size+2) 76 1 v k (Mi k)/\Gr w wr/\w.L.size+2<=wr.L.size/\G7 wr v/\wr.L[w.L.size+1]?=U (H #[Z nA nn nc,Z hA m hc,v] 151 (0,0))) (λi _=>N-(bb i).L)
 case atStart =>
  refine⟨0,by omega,rfl,.slice Y 0 0,?_,?_,?_,?_,Bs _ _ _ _,((Gr.refl w).LK _).LK _,by simp,G7.nil _,?_⟩
  .rw[AM _ _ _ _ (by simp)];rfl
  .rw[AM _ _ _ _ (by simp)];rfl
  .rw[AM _ _ _ _ (by simp)];rfl
  .rw[BK _ _ _ _ (by simp)]
  .have e1:∀A:Obj,w.L.size+1=(w.LK A).L.size:=λA=>by simp
   rw[e1 (H #[Z nA nn nc,Z hA m hc] 25)];exact heap_alloc_new _ _
 case round =>
  obtain⟨k,hk,rfl,v,h0,h1,h2,aG,zl,zV,zv,aH,aI⟩:=hrel;have HFL:=AI aH;have a7:=AI aI;have HG:=AI zV;by_cases zY:k<N
  .have h0':=h0;have hfa:G7 (wr.LK (H #[.int .u8 k] 76)) v:=HFL.out.keep λa n c e=>bo wr _ (zl.lt a.LE (by rw[e];rfl)).2;go_wp2_with (at_builtin;refine iC rfl _ _ 149 rfl (w.L.size+2) 76 i0 Sq.underlying149 hi zF zE zD _ _ _ rfl (zl.LK _) hfa ⟨wr.L.size,0,Y⟩ 1 1 [.int .u8 k] rfl rfl ?c1 ?c2 ?c3 ?c4 ?c5 ?_)
   case c1 =>
    intro j u hj
    match j,hj with
    |0,hj=>simp at hj;subst hj;simp[eV]
   case c2=>intro u hu;simp at hu;subst hu;exact⟨_,rfl⟩
   case c3=>unfold maxLen;omega
   case c4=>omega
   case c5=>simp;omega
   intro v' w1 hown' hgrow hd aA;have aB:=AI aA;obtain⟨g',cap',rfl⟩:=ownsRow_succ hown';have zU:U (w.L.size+1)≠v.L:=λh=>by have:=(zl.lt _ h.LH).1;omega
   have k0:w1.S ⟨w.L.size+1,0,Y⟩=U (Z nA nn nc):=hgrow.cell ((Bi _ _ _ (by show w.L.size+1<_;omega)).trans h0) zU;have k1:w1.S ⟨w.L.size+1,1,Y⟩=U (Z hA m hc):=hgrow.cell ((Bi _ _ _ (by show w.L.size+1<_;omega)).trans h1) zU;have k2:w1.S ⟨w.L.size+1,2,Y⟩=U v:=hgrow.cell ((Bi _ _ _ (by show w.L.size+1<_;omega)).trans h2) zU;have kf:w1.O ⟨w.L.size+1,2,Y⟩=false:=by
    rw[Cc (w:=wr.LK (H #[.int .u8 k] 76)) (hgrow.LE (w.L.size+1) (by simp;omega) zU)];exact(CL _ _ _ (by show w.L.size+1<_;omega)).trans aG
   have aC:=AI ((hgrow.LE (w.L.size+1) (by simp;omega) zU).trans ((bo wr _ (by omega)).trans a7.out));have aJ:=AI ((HG.out.LK (H #[.int .u8 k] 76)).Lo hgrow hd λj hj=>by have:=(zl.lt j hj).1;omega);have aD:w.L.size+2<=w1.L.size:=by have:=hgrow.size;simp at this;omega
   have HO:Hid (w1.H (w.L.size+2) 76 1 (.slice (U ⟨g',0,Y⟩) (k+1) cap') (k+1) (Mi (k+1))):=AI (by rw[rW];exact hown');go_wp2;go_roundw
   case rel =>
    refine⟨k+1,by omega,by go_num,_,(AW _ _ _ _ (by simp)).trans k0,(AW _ _ _ _ (by simp)).trans k1,Ba _ _ _ k2,(BG _ _ _ _).trans kf,ownsRow_setCell_below HO.out (by show w.L.size+1<_;omega) _,aJ.out.LH (by show _<=w.L.size+1;omega) _,by simpa using aD,aB.out.keep λa n c e=>?_,?_⟩
    .have hb:a.LE=g':=by injection e with e1 _ _;injection e1 with e1;rw[<-e1]
     have zY:=(HO.out.lt g' rfl).1;unfold V;simp only[BR];rw[AN (by omega)]
    .unfold V;simp only[BR,if_true,aC.out]
     rfl
   case measure=>simp[Proofs.intOf];omega
  .have aK:k=N:=by omega
   subst aK;obtain⟨m',rfl⟩:∃m',k=m'+1:=⟨k-1,by omega⟩;obtain⟨g,cap,rfl⟩:=ownsRow_succ zl;have HC:=AI (a6.out wr g cap _ zl);have hg:=(zl.lt g rfl).1;have HO:=AI zl;go_wp2_with fail;refine HC.out.LT ?_;rintro e w2 ⟨rfl,hR⟩;have HR:=AI hR;go_wp2;go_ret;exact⟨rfl,g,cap,wr,HR.out,hg,HG.out,by omega,h0,h1,h2,HO.out,HFL.out,a7.out⟩
open Go.Sort Go.Lib
abbrev yD:=Fin 16
def LG (x:yD):Value:=.int .u8 (x.val:Int)
def Qk (a b:yD):Int:=Jh (wl a.val) (wl b.val)
def Sa:OneCell LG:=λ_=>rfl
def Sb:SWO (ltOf Qk):=by
 constructor
 all_goals decide +kernel
def Kz (m:Nat):Array yD:=((bl (2 ^ m)).map (Fin.ofNat 16)).LK
def EN:Nat->List Nat
 |0=>[0]
 |1=>[0,1]
 |2=>[0,1,3,2]
 |3=>[0,1,3,7,5,2,6,4]
 |_=>[0,1,3,7,15,11,5,13,9,2,6,14,10,4,12,8]
def five {p:Nat->Prop}(h:p 0/\p 1/\p 2/\p 3/\p 4):∀m,m<=4->p m:=λm hm=>by
 have:m=0\/m=1\/m=2\/m=3\/m=4:=by omega
 obtain⟨h0,h1,h2,h3,h4⟩:=h;rcases this with rfl|rfl|rfl|rfl|rfl<;>assumption
def Sc:∀m,m<=4->(pdq (ltOf Qk) (Kz m) 0 (Kz m).size (dy (Kz m).size) cE cE).LK.map Fin.val=EN m :=
 five ⟨by decide +kernel,by decide +kernel,by decide +kernel,by decide +kernel,by decide +kernel⟩
def Sd:∀m,m<=4->(Kz m).size=2 ^ m/\∀j,j<2 ^ m->((Kz m)[j]!).val=j :=
 five ⟨by decide +kernel,by decide +kernel,by decide +kernel,by decide +kernel,by decide +kernel⟩
def dw:∀m,m<=4->(EN m).L=2 ^ m:=five ⟨rfl,rfl,rfl,rfl,rfl⟩
def mT:∀m,m<=4->∀x∈EN m,x<2 ^ m:=five ⟨by decide,by decide,by decide,by decide,by decide⟩
def Gr.grow {w w':X}(h:Gr w w'):∃q os',w'=grow (w.drewN q) os':=by
 refine⟨w'.drawn-w.drawn,w'.L.extract w.L.size w'.L.size,?_⟩;have hd:=h.drawn;have e:w'.L=w.L++w'.L.extract w.L.size w'.L.size:=by
  apply Array.ext_getElem?;intro k;by_cases hk:k<w.L.size
  .rw[Dh hk];exact h.Li.LE k hk
  .rw[Array.getElem?_append_right (by omega),Array.getElem?_extract];by_cases zn:k<w'.L.size
   .rw[AP (by omega)];congr 1;omega
   .rw[AN (by omega),Cz (by omega)]
 cases w with
 |mk wh wt wd wo wu =>
  cases w' with
  |mk vh vt vd vo vu =>
   have e1:=h.Li.os;have e2:=h.Li.tape;have e3:=h.Li.output;simp only at e1 e2 e3 e hd;subst e1 e2 e3;unfold Sort.grow World.drewN;simp only[World.mk.injEq,and_true,true_and];exact⟨e,by omega⟩
def SortedIn (sets:List Nat)(g:Nat)(W W':X):Prop :=
 KT (·=g) W W'/\(∀(i x:Nat),sets[i]?=U x->W'.S ⟨g,i,Y⟩=U (.int .u8 (x:Int)))/\∀n c,G7 W (.slice (U ⟨g,0,Y⟩) n c)->G7 W' (.slice (U ⟨g,0,Y⟩) n c)
def uo (a b:Nat)(w:X)(ha:a<16)(hb:b<16) :
  bh D7 98 #[.int .u8 a,.int .u8 b] w λe w'=>e=.L (O G (Jh (wl a) (wl b)))/\Gr w w':=by
 have a7:=dH a;have a8:=dH b;have HL:=AI a7;have HL':=AI a8;go_enter Sq.func98,Tryz.ntmps98;go_wp2_with fail;refine(gY a w ha).LT ?_;rintro e w1 ⟨v,rfl,ho,hg⟩;have hO:=AI ho;have hG:=AI hg;go_wp2_with fail;refine(gY b w1 hb).LT ?_;rintro e w2 ⟨v',rfl,aA,a6⟩;obtain⟨A,c,rfl,hr⟩:=Dx hO.out;obtain⟨A',c',rfl,aB⟩:=Dx aA;have hG2:=AI (hG.out.trans a6);have HC:=AI (kZ A A' c c' (wl a) (wl b) w2 w2.L.size ((hr.gr (AK _) a6).more a6.size) aB (by have:=HL.out;omega) (by have:=HL'.out;omega))
 go_wp2_with fail;refine HC.out.LT ?_;rintro e w3 ⟨rfl,rfl⟩;go_wp2;go_ret;exact⟨rfl,hG2.out⟩
def rY (m:Nat)(hm:m<=4):rX (2 ^ m) (λv W W'=>∃g cap,v=.slice (U ⟨g,0,Y⟩) (2 ^ m) cap/\SortedIn (EN m) g W W'):=by
 intro W g cap B ho;obtain⟨zv,a7⟩:=Sd m hm;have a6:=Sc m hm;have zk:=dw m hm;have aC:1<=2 ^ m:=Nat.one_le_two_pow;have aD:2 ^ m<=16:=(five (p:=λm=>2 ^ m<=16) ⟨by decide,by decide,by decide,by decide,by decide⟩) m hm;have zY:g<W.L.size:=(ho.lt g rfl).2;have hH:Holds LG W g 0 (Kz m):=by
  intro j hj;rw[zv] at hj;refine⟨?_,?_⟩
  .have:=ho.cells (g:=g) rfl j (.int .u8 j) (by unfold Mi;simp[hj]);rw[show(⟨g,0,Y⟩:ak).add j=⟨g,0+j,Y⟩ by unfold eV;split<;>simp_all] at this;rw[this,LG,a7 j hj]
  .obtain⟨h,_⟩|⟨g',c',cur,h,_,hb,_⟩:=ho.2
   .cases h
   .obtain⟨rfl⟩:g=g':=by injection h with h1;injection h1 with h2;injection h2
    simp[dr,hb]
 have hC:CmpLays1 D7 98 #[] LG Qk g 0 (Kz m).size W:=by
  intro k os dk _ x y;refine(uo x.val y.val _ x.isLt y.isLt).LT ?_;rintro e w' ⟨he,hg⟩;exact⟨he,hg.grow⟩
 have h:=Any.slices_SortFunc_eq DT LG Sa Qk Sb 98 #[] g 0 cap (Kz m) W DZ hC hH zY (by rw[zv];omega);rw[zv] at h;refine h.LT ?_;rintro e W' ⟨he,n,os,hW⟩;refine⟨he,g,cap,rfl,?_,?_,?_⟩
 rotate_left 2
 .intro n1 c1 a8 a n2 c2 e2;obtain⟨cur,t,q1,q2⟩:=a8 a n2 c2 e2;have ea:a.LE=g:=by injection e2 with z _ _;injection z with z;rw[<-z]
  rw[ea] at q1 ⊢;subst hW;refine⟨putCells LG 0 (pdq (ltOf Qk) (Kz m) 0 (2 ^ m) (dy (2 ^ m)) cE cE) cur,t,?_,λu hu=>?_⟩
  .unfold e9;rw[heap_grow_old _ _ (by rw[cK];exact zY)];unfold putRow mapBlock;have aA:(Sort.ahead W n).L[g]?=U (.cells cur t (0,0)):=q1;simp only[BR,if_true,aA]
   rfl
  .unfold putCells at hu;rw[Array.toList_mapIdx,List.mem_mapIdx] at hu;obtain⟨i,hi,rfl⟩:=hu;split
   .exact⟨_,rfl⟩
   .exact q2 _ (BN hi)
 .subst hW;refine⟨rfl,rfl,rfl,?_,?_,?_⟩
  .show W.drawn<=W.drawn+n;omega
  .have : W.L.size <= (e9 LG W g 0 n (pdq (ltOf Qk) (Kz m) 0 (2 ^ m) (dy (2 ^ m)) cE cE) os).L.size := by
    unfold e9;rw[size_grow,cK];exact Nat.le_add_right _ _
   exact this
  .intro b hb zU;unfold e9;rw[heap_grow_old _ _ (by rw[cK];exact hb)];unfold putRow mapBlock;rw[BR,AN (λh=>zU h.LH)]
   rfl
 .intro i x hx;rw[zv] at a6;have hi:i<2 ^ m:=by rw[<-zk];exact(Be.1 hx).1
  generalize hd:pdq (ltOf Qk) (Kz m) 0 (2 ^ m) (dy (2 ^ m)) cE cE=d at hW a6;have aB:d.size=2 ^ m:=by have:=Bh List.length a6;simpa [zk] using this
  have hS:=(holds_sortWorld LG W g 0 n (Kz m) d os zY hH (by rw[aB,zv])) i (by omega);subst hW;rw[Bd] at hS;rw[hS.1,LG];rw[<-a6,Bv,Array.getElem?_toList] at hx;rw[getElem!_pos d i (by omega)];rw[AV (by omega)] at hx;simp at hx;rw[hx]
def wI (l m:List Int)(k:Nat)(h1:k<l.L)(h2:k<m.L) :
  (l.LT k=m.LT k->l[k]?.LH 0=m[k]?.LH 0->l.LT (k+1)=m.LT (k+1))/\(l[k]?.LH 0≠m[k]?.LH 0->l≠m):=by
 refine⟨λh e=>?_,λh e=>h (by rw[e])⟩;rw[bN 0 l k h1,bN 0 m k h2,h,e]
def uq (l m:List (List Int))(k:Nat)(h1:k<l.L)(h2:k<m.L) :
  (l.LT k=m.LT k->l[k]?.LH []=m[k]?.LH []->l.LT (k+1)=m.LT (k+1))/\(l[k]?.LH []≠m[k]?.LH []->l≠m):=by
 refine⟨λh e=>?_,λh e=>h (by rw[e])⟩;rw[bN [] l k h1,bN [] m k h2,h,e]
def E7 (w:X)(B:Nat)(A:Option ak)(ls:List (List Int)):Prop :=
 ls≠[]->∃b o,A=U ⟨b,o,Y⟩/\b<B/\∀i l,ls[i]?=U l->∃A' c,w.S ⟨b,o+i,Y⟩=U (Z A' l.L c)/\RI w B A' l
def E7.keep {w w':X}{B:Nat}{A:Option ak}{ls:List (List Int)}(h:E7 w B A ls)(hk:∀b o,b<B->w'.S ⟨b,o,Y⟩=w.S ⟨b,o,Y⟩):E7 w' B A ls:=λhn=>by
 obtain⟨b,o,e,hb,hc⟩:=h hn;refine⟨b,o,e,hb,λi l hl=>?_⟩;obtain⟨A',c,h1,h2⟩:=hc i l hl;exact⟨A',c,(hk _ _ hb).trans h1,h2.keep hk⟩
def E7.gr {w w':X}{B:Nat}{A:Option ak}{ls:List (List Int)}(h:E7 w B A ls)(hB:B<=w.L.size)(hg:Gr w w'):E7 w' B A ls:=h.keep λ_ _ hb=>hg.cell (AO hb hB)
def E7.more {w:X}{B B':Nat}{A:Option ak}{ls:List (List Int)}(h:E7 w B A ls)(hB:B<=B'):E7 w B' A ls:=λhn=>by
 obtain⟨b,o,e,hb,hc⟩:=h hn;refine⟨b,o,e,by omega,λi l hl=>?_⟩;obtain⟨A',c,h1,h2⟩:=hc i l hl;exact⟨A',c,h1,h2.more hB⟩
def E7.nil {w:X}{B:Nat}{A:Option ak}:E7 w B A []:=λh=>AS rfl h
def E7.at_ {w:X}{B:Nat}{A:Option ak}{ls:List (List Int)}(h:E7 w B A ls){k:Nat}(hk:k<ls.L):∃b o A' c,A=U ⟨b,o,Y⟩/\b<B/\w.S ⟨b,o+k,Y⟩=U (Z A' (ls[k]?.LH []).L c)/\RI w B A' (ls[k]?.LH []):=by
 obtain⟨b,o,e,hb,hc⟩:=h (λe=>by rw[e] at hk;simp at hk);obtain⟨A',c,h1,h2⟩:=hc k _ (AL hk);refine⟨b,o,A',c,e,hb,?_⟩;rw[AL hk];exact⟨h1,h2⟩
def gI (l:List (List Int))(k:Nat)(h:k<l.L):l[k]?.LH []∈l:=by
 rw[AL h];exact BN h
def cP {w:X}{B b:Nat}{l:List Int}{t:cw}{f:Nat×Nat}(h:w.L[b]?=U (.cells (l.map (O G)).LK t f))(hB:b<B):RI w B (U ⟨b,0,Y⟩) l:=λ_ =>
 ⟨b,0,rfl,hB,λi x hx=>by
  unfold cu;rw[h];show(l.map (O G)).LK[0+i]?=_
  rw[Bd,BA,Bv,hx];rfl⟩
def heap_alloc_new (w:X)(o:Obj):(w.LK o).L[w.L.size]?=U o:=by
 show(w.L.LE o)[w.L.size]?=_;simp
def aa (w:X)(o:Obj){b:Nat}(h:b<w.L.size):(w.LK o).L[b]?=w.L[b]?:=by
 show(w.L.LE o)[b]?=_;simp[Cy,Dr h]
def aS (w:X)(o:Obj){b:Nat}(h:b=w.L.size):(w.LK o).L[b]?=U o:=by subst h;exact heap_alloc_new w o
def Fi:List (List Int):=[[0],[1],[0,2]]
def kQ (w:X):bh D7 32 #[] w λe w'=>∃A,e=.L (Z A Fi.L 3)/\E7 w' w'.L.size A Fi/\Gr w w':=by
 go_enter Sq.func32,Tryz.ntmps32;go_wp2;go_ret;refine⟨_,rfl,λ_=>⟨_,0,rfl,by simp,λi l hl=>?_⟩,((((Gr.refl w).LK _).LK _).LK _).LK _⟩
 match i,hl with
 |0,hl =>
  simp[Fi] at hl;subst hl;refine⟨U ⟨w.L.size,0,Y⟩,1,?_,cP (l:=[0]) (t:=3) (f:=(0,0)) ?_ (by simp;omega)⟩
  .rw[AM _ _ _ _ (by simp)];rfl
  .rw[aa _ _ (by simp;omega),aa _ _ (by simp;omega),aa _ _ (by simp),aS _ _ rfl];rfl
 |1,hl =>
  simp[Fi] at hl;subst hl;refine⟨U ⟨w.L.size+1,0,Y⟩,1,?_,cP (l:=[1]) (t:=3) (f:=(0,0)) ?_ (by simp)⟩
  .rw[AM _ _ _ _ (by simp)];rfl
  .rw[aa _ _ (by simp),aa _ _ (by simp),aS _ _ (by simp)];rfl
 |2,hl =>
  simp[Fi] at hl;subst hl;refine⟨U ⟨w.L.size+2,0,Y⟩,2,?_,cP (l:=[0,2]) (t:=3) (f:=(0,0)) ?_ (by simp)⟩
  .rw[AM _ _ _ _ (by simp)];rfl
  .rw[aa _ _ (by simp),aS _ _ (by simp)];rfl
 |k+3,hl=>simp[Fi] at hl
def E1 (l:List Int):Ek:=⟨l,[⟨12,3,2,[]⟩,⟨6,2,2,[0]⟩,⟨6,1,1,[]⟩]⟩
def rZ (A:Option ak)(c:Nat)(l:List Int)(w:X):bh D7 28 #[Z A l.L c] w λe w'=>∃hA,e=.L (En A hA (E1 l) c 3)/\Fe w' w'.L.size hA (E1 l).D8/\Gr w w'/\hA=U ⟨w.L.size+2,0,Y⟩/\w'.L[w.L.size+1]?=U (H #[O G 0] 3 (0,0)) /\
      w'.L[w.L.size+2]?=U (H #[O G 12,O G 3,O G 2,.slice Y 0 0,O G 6,O G 2,O G 2,.slice (U ⟨w.L.size+1,0,Y⟩) 1 1,O G 6,O G 1,O G 1,.slice Y 0 0] 57 (0,0)):=by
  go_enter Sq.func28,Tryz.ntmps28;go_wp2;obtain⟨W,hW⟩:∃W:X,W=((w.LK (H #[Z A l.L c,.slice (U ⟨w.L.size+1+1,0,Y⟩) 3 3] 25)).LK (H #[O G 0] 3)).LK (H #[O G 12,O G 3,O G 2,.slice Y 0 0,O G 6,O G 2,O G 2,.slice (U ⟨w.L.size+1,0,Y⟩) 1 1,O G 6,O G 1,O G 1,.slice Y 0 0] 57):=⟨_,rfl⟩
  rw[<-hW];have s0:W.S ⟨w.L.size,0,Y⟩=U (Z A l.L c):=by
    rw[hW,Bi _ _ _ (by simp;omega),Bi _ _ _ (by simp),AM _ _ _ _ rfl];rfl
  have s1:W.S ⟨w.L.size,1,Y⟩=U (.slice (U ⟨w.L.size+1+1,0,Y⟩) 3 3):=by
    rw[hW,Bi _ _ _ (by simp;omega),Bi _ _ _ (by simp),AM _ _ _ _ rfl];rfl
  refine cF (v:=En A (U ⟨w.L.size+1+1,0,Y⟩) (E1 l) c 3) (by simp[results,Tryz.results28,go_sem,s0,s1,En,E1]) rfl ⟨_,rfl,?_,?_,rfl,?_,?_⟩
  · have hz:w.L.size+1+1<W.L.size:=by rw[hW];simp
    have hc:∀o,W.S ⟨w.L.size+1+1,o,Y⟩=(#[O G 12,O G 3,O G 2,.slice Y 0 0,O G 6,O G 2,O G 2,.slice (U ⟨w.L.size+1,0,Y⟩) 1 1,O G 6,O G 1,O G 1,.slice Y 0 0]:Array S)[o]?:=λo=>by
      rw[hW,AM _ _ _ _ (by simp)]
    have a6:RI W W.L.size (U ⟨w.L.size+1,0,Y⟩) [0]:=cP (l:=[0]) (t:=3) (f:=(0,0)) (by
      rw[hW,aa _ _ (by simp),aS _ _ (by simp)];rfl) (by omega)
    refine λ_=>⟨_,0,rfl,hz,λi h hh=>?_⟩
    match i,hh with
    |0,hh=>simp[E1] at hh;subst hh;exact⟨hc _,hc _,hc _,Y,0,hc _,.nil⟩
    |1,hh=>simp[E1] at hh;subst hh;exact⟨hc _,hc _,hc _,_,1,hc _,a6⟩
    |2,hh=>simp[E1] at hh;subst hh;exact⟨hc _,hc _,hc _,Y,0,hc _,.nil⟩
    |k+3,hh=>simp[E1] at hh
  · rw[hW];exact(((Gr.refl w).LK _).LK _).LK _
  · rw[hW,aa _ _ (by simp),aS _ _ (by simp)]
  · rw[hW,aS _ _ (by simp)]
def mV (A:Option ak)(c:Nat)(l:List Int)(w:X):bh D7 28 #[Z A l.L c] w λe w'=>∃hA,e=.L (En A hA (E1 l) c 3)/\Fe w' w'.L.size hA (E1 l).D8/\Gr w w' :=
 (rZ A c l w).LT λe w' ⟨hA,h1,h2,h3,_⟩=>⟨hA,h1,h2,h3⟩
def fB (l:List Int)(d:Int):List Int:=if d∈l then l else(l++[d]).mergeSort λx y=>decide (x<=y)
def Kf (c:Ek)(k:Nat)(d:Int):Ek:={ c with D8:=c.D8.Lo k { c.h k with off:=fB (c.h k).off d } }
def JX (a b:E2):Nat->Nat
 |0=>0
 |n+1=>JX a b n+(wl (a n ^^^ b n)).L
def Ho (r:E2):List E2->Option (E2×Nat)
 |[]=>Y
 |l@(_::_)=>l.foldl (λo ρ=>match o with
  |none=>U (ρ,JX ρ r 5)
  |some b=>if JX ρ r 5<b.2 then U (ρ,JX ρ r 5) else U b) Y
def jU (r:E2)(l:List E2)(ρ:E2):Ho r (l++[ρ])=(match Ho r l with
  |none=>U (ρ,JX ρ r 5)
  |some b=>if JX ρ r 5<b.2 then U (ρ,JX ρ r 5) else U b):=by
 cases l with
 |nil=>rfl
 |cons a l =>
  show((a::l)++[ρ]).foldl _ Y=_;rw[List.foldl_append]
  rfl
def r6 {r:E2}:∀(n:Nat) (l:List E2) (p:E2×Nat),l.L=n->Ho r l=U p->p.1∈l:=by
 intro n
 induction n with
 |zero =>
  intro l p hl h;rw[Bp hl] at h;cases h
 |succ n ih =>
  intro l p hl h;obtain rfl|⟨l',b,rfl⟩:=List.eq_nil_or_concat l
  .simp at hl
  .rw[List.concat_eq_append] at h hl ⊢;rw[jU] at h;have hl':l'.L=n:=by simpa using hl
   cases ho:Ho r l' with
   |none=>rw[ho] at h;cases h;simp
   |some q =>
    rw[ho] at h;simp only at h;split at h
    .cases h;simp
    .have e:=Option.some.inj h;rw[<-e];exact List.mem_append_left _ (ih l' q hl' ho)
def gi {w:X}{B:Nat}{A:Option ak}{l:List Int}{K:Nat->Prop}(h:RI w B A l)(hK:∀b,b<B->K b):Ie w K A l:=λhn=>by
 obtain⟨b,o,e,hb,hc⟩:=h hn;exact⟨b,o,e,hK b hb,hc⟩
def yE {w:X}{B:Nat}{A:Option ak}{l:List EZ}{K:Nat->Prop}(h:Fe w B A l)(hK:∀b,b<B->K b):GK w K A l:=λhn=>by
 obtain⟨b,o,e,hb,hc⟩:=h hn;refine⟨b,o,e,hK b hb,λi x hx=>?_⟩;obtain⟨h1,h2,h3,A',c,h4,h5⟩:=hc i x hx;exact⟨h1,h2,h3,A',c,h4,gi h5 hK⟩
def OM (B cb g:Nat):Nat->Prop:=λb=>b<B\/b=cb\/b=g
def PU (w:X)(cb g:Nat)(c:Ek)(sets:List Nat)(nA hA:Option ak)(nc hc cap:Nat):Prop :=
 G7 w (.slice (U ⟨g,0,Y⟩) sets.L cap)/\w.L[cb]?=U (H #[Z nA c.D9.L nc,Z hA c.D8.L hc,.slice (U ⟨g,0,Y⟩) sets.L cap] 151 (0,0))
def jV (nA hA:Option ak)(nc hc:Nat)(c:Ek)(w:X)(B:Nat)(hB:B<=w.L.size)(hn:RI w B nA c.D9)(hh:Fe w B hA c.D8)(hm:c.D8.L<=4) :
  bh D7 65 #[En nA hA c nc hc] w λe w'=>e=.L (.S (U ⟨w.L.size+1,0,Y⟩))/\Gr w w'/\∃g cap,w.L.size+2<=g /\
   Gk w' (OM B (w.L.size+1) g) (w.L.size+1) c (EN c.D8.L) nA hA nc hc g cap/\PU w' (w.L.size+1) g c (EN c.D8.L) nA hA nc hc cap:=by
 refine(pg nA hA nc hc c.D9.L c.D8.L w hm (rY c.D8.L hm)).LT ?_;rintro e w' ⟨rfl,g,cap,W,⟨g',cap',hv,hk,hs,hsf⟩,hg,zV,hz,h0,h1,h2,ho,a7,a8⟩;obtain⟨rfl,rfl⟩:g=g'/\cap=cap':=by injection hv with a b c;injection a with a;injection a with a;exact⟨a,c⟩
 have hgW:=(ho.lt g rfl).2;have a6:Gr w w':=⟨⟨hk.os.trans zV.Li.os,hk.tape.trans zV.Li.tape,hk.output.trans zV.Li.output,AU zV.size hk.size,λb hb=>(hk.LE b (AO hb zV.size) (by show b≠g;omega)).trans (zV.Li.LE b hb)⟩,AU zV.drawn hk.drawn⟩;refine⟨rfl,a6,g,cap,hg,?_,?_,?_⟩
 rotate_left
 .rw[dw _ hm];exact hsf _ _ a7
 .rw[dw _ hm];exact(hk.LE _ hz (by show ¬w.L.size+1=g;omega)).trans a8
 have zu:∀o,w'.S ⟨w.L.size+1,o,Y⟩=W.S ⟨w.L.size+1,o,Y⟩:=λo=>hk.cell (p:=⟨w.L.size+1,o,Y⟩) hz (by show w.L.size+1≠g;omega);refine⟨?_,Or.inr (Or.inl rfl),(zu 0).trans h0,(zu 1).trans h1,?_,Or.inr (Or.inr rfl),hs,gi (hn.gr hB a6) λb hb=>Or.inl hb,yE (hh.keep λb o hb=>a6.cell (AO hb hB)) λb hb=>Or.inl hb⟩
 .rintro b (h|h|h)
  .have:=a6.size;omega
  .have:=hk.size;omega
  .have:=hk.size;omega
 .rw[dw _ hm];exact(zu 2).trans h2
def Rk (nA hA:Option ak)(nc hc:Nat)(c:Ek)(B:Nat)(w:X)(e:gB)(w':X):Prop :=
 Gr w w' ∧ if Ex c = 0 then ∃ cb g cap, e = .L (.tuple #[.S (U ⟨cb, 0, Y⟩), O G 0]) ∧ w.L.size <= cb ∧ cb < g ∧ Gk w' (OM B cb g) cb c (EN c.D8.L) nA hA nc hc g cap ∧ PU w' cb g c (EN c.D8.L) nA hA nc hc cap
   else e=.L (.tuple #[.S Y,O G (Ex c)])
def kR (nA hA:Option ak)(nc hc:Nat)(c:Ek)(w:X)(B:Nat)(hB:B<=w.L.size)(hn:RI w B nA c.D9)(hh:Fe w B hA c.D8)(Gg:c.D9.L<=4611686018427387904)(zC:c.D8.L<=4611686018427387904)
  (Fa:∀h∈c.D8,h.off.L<=4611686018427387904) :
  bh D7 48 #[En nA hA c nc hc] w (Rk nA hA nc hc c B w):=by
 have HN:=AI hn;have HH:=AI hh;have aC:=AI Fa;unfold En;obtain⟨W0,zM⟩:∃W0:X,W0=w.LK (H #[Z nA c.D9.L nc,Z hA c.D8.L hc] 25):=⟨_,rfl⟩;have zL:Gr w W0:=zM▸(Gr.refl w).LK _;have a8:RI W0 B nA c.D9:=HN.out.gr hB zL;have aA:Fe W0 B hA c.D8:=HH.out.keep λb o hb=>zL.cell (AO hb hB);have zF:W0.L.size=w.L.size+1:=by rw[zM];simp
 have HW:=AI zM;have HC:=AI (wF nA hA nc hc c W0 B (by omega) a8 aA Gg zC aC.out);have aB:=AI zL;have aD:=AI a8;have aF:=AI aA;unfold En at HC;go_enter Sq.func48,Tryz.ntmps48;go_wp2_with fail;rw[<-HW.out];refine HC.out.LT ?_;rintro e w1 ⟨rfl,zJ⟩;have a7:=AI zJ;by_cases hE:Ex c=0
 .rw[hE];have hm:=Ek.Ok.of hE;have a6:Gr W0 w1:=a7.out;have HS:=AI (jV nA hA nc hc c w1 B (by have:=a6.size;omega) (aD.out.gr (by omega) a6) (aF.out.keep λb o hb=>a6.cell (AO hb (by omega))) hm.h4);have zo:w1.S ⟨w.L.size,0,Y⟩=U (Z nA c.D9.L nc):=(a6.cell (by show w.L.size<_;omega)).trans (by rw[HW.out];simp);have zu:w1.S ⟨w.L.size,1,Y⟩=U (Z hA c.D8.L hc):=(a6.cell (by show w.L.size<_;omega)).trans (by rw[HW.out];simp)
  have zE:=a6.size;unfold En at HS;have HE:=AI hE;go_wp2_with fail;refine HS.out.LT ?_;rintro e w2 ⟨rfl,zI,g,cap,hg,hK,hKF⟩;have aG:=AI hKF;have HR:=AI hK;have aH:=AI zI;go_wp2;go_ret2;refine⟨aB.out.trans (a7.out.trans aH.out),?_⟩;rw[AP HE.out];exact⟨_,g,cap,rfl,by omega,by omega,HR.out,aG.out⟩
 .have HE:=AI hE;obtain⟨k,hk⟩:∃k,k=Ex c:=⟨_,rfl⟩;rw[<-hk] at hE ⊢;have HK:=AI hk;clear hk;go_wp2;go_ret2;refine⟨aB.out.trans a7.out,?_⟩;rw[AN HE.out];show Ending.returned (.tuple #[.S Y,O G k])=_;rw[HK.out]
attribute [local go_sem] Oper.semAt_some
def G8:E2:=λ_=>0
def gJ {c:Ek}:∀i,c.has (G8 i):=λ_=>Nat.pos_of_ne_zero (by simp)
def mW {c:Ek}(a6:c.Ok):∀x∈EN c.D8.L,c.has x:=mT _ a6.h4
def ph {c:Ek}(a6:c.Ok):(EN c.D8.L).L<=16:=by
 rw[dw _ a6.h4];exact AU (Dd (by omega) a6.h4) (by decide)
def isSome (c:Ek):Bool:=!(E4 c (EN c.D8.L) c.D9.L G8 0).isEmpty
def r7 {K:Nat->Prop}{cb:Nat}{c:Ek}{nA hA:Option ak}{nc hc sb sc:Nat}(w:X)(aA:c.Ok)(hK:Gk w K cb c (EN c.D8.L) nA hA nc hc sb sc) :
  bh D7 68 #[.S (U ⟨cb,0,Y⟩)] w λe w'=>e=.L (.bool (isSome c))/\Gr w w':=by
 rw[<-ed (n:=0)];have HK:=AI hK;have aC:=hK.lt;have aD:=AI aC;clear hK aC;refine callsIn_of_wp_marks Sq.func68 rfl trivial ?_ rfl;simp only[Tryz.ntmps68,AZ,AX,Bc,Nat.reduceAdd,Nat.reduceSub,BX,BY,B8,B3,BP,BW]
 gi_wp2_with fail
 have a7:=mw cb 0 G8 (w.LK (H #[.bool bk] 4));rw[<-ed (n:=0)] at a7;refine⟨trivial,rfl,a7.LT ?_⟩;rintro e w1 ⟨rfl,aB⟩;have HS:=AI (kG (T0:=(·=w.L.size)) (K:=K) (n:=0) (r:=G8) (HK.out.keep (w':=w.LK (H #[.bool bk] 4)) (by simp) λb o hb=>Bi _ _ _ (aD.out b hb)) (λb hb=>by subst hb;simp) (λb hb h=>by have:=aD.out b hb;omega) gJ);rw[<-aB] at HS;have HW:=AI aB
 clear aB a7;have hres:w1.L[w.L.size]?=U (H #[.bool bk] 4 (0,0)):=by
  rw[HW.out,Cj _ _ _ (by simp;omega),Cj _ _ _ (by simp;omega),Cj _ _ _ (by simp)];exact L w _
 have aF:=AI hres;have hz:w1.L.size=w.L.size+4:=by rw[HW.out];simp
 have HZ:=AI hz;have zJ:Gr w w1:=by rw[HW.out];exact((((Gr.refl w).LK _).LK _).LK _).LK _
 have HG:=AI zJ;clear hres hz zJ
 gi_wp2_with fail
 refine pI (T0:=(·=w.L.size)) (K:=K) (cb:=cb) (c:=c) (sets:=EN c.D8.L) (nA:=nA) (hA:=hA) (nc:=nc) (hc:=hc) (sb:=sb) (sc:=sc) (bc:=w.L.size+1) (br:=w.L.size+1+1) (bn:=w.L.size+1+2) (k:=c.D9.L) (n:=0) (r:=G8)
  aA (mW aA) (ph aA) rfl (by omega) (λ_ _=>rfl) (by simpa using HS.out) (by rintro b rfl;have:=HZ.out;omega)
  (λpre W=>pre=[]/\W.L[w.L.size]?=U (H #[.bool bk] 4 (0,0)))
  (λj pre W=>j=.ret/\pre≠[]/\W.L[w.L.size]?=U (H #[.bool cE] 4 (0,0)))
  (λpre W W' h hk=>⟨h.1,(hk _ rfl).trans h.2⟩) (λj pre W W' h hk=>⟨h.1,h.2.1,(hk _ rfl).trans h.2.2⟩) ⟨rfl,aF.out⟩
  ?_ ?_ ?_
 .intro l pre ρ W a6 aG;obtain⟨rfl,hb⟩:=aG;obtain⟨h1,h2,h3⟩:=one_cell hb;have HB:=AI (one_set (u:=.bool cE) hb);clear a6 hb
  gi_wp2
  exact⟨KT.LH (T:=(·=w.L.size)) W (p:=⟨w.L.size,0,Y⟩) rfl _,rfl,by simp,HB.out⟩
 .rintro D W hD a6 ⟨hL,hb⟩ hd;obtain⟨h1,h2,h3⟩:=one_cell hb;have HB:=AI (one_set (u:=.bool bk) hb);have aH:=AI (a6.gr HG.out (by rintro b (rfl|rfl)<;>omega));have HL:=AI (show isSome c=bk by unfold isSome;rw[hL];rfl);have a8:D≠w.L.size:=λe=>by subst e;rw[hb] at hd;cases hd
  have HD:=AI (show(W.LH ⟨w.L.size,0,Y⟩ (.bool bk)).L[D]?=U (.S (U [])) from(Bb _ _ _ _ a8).trans hd);have hz:=HZ.out;clear a6 hb hd hL
  gi_wp2
  refine en HD.out (v:=.bool bk) ?_ ⟨by rw[HL.out],(aH.out.LH (AK _) _).LB (by omega) _⟩;have:=(one_cell HB.out).1;rw[<-cC (D:=D) (o:=.S Y) (p:=⟨w.L.size,0,Y⟩) (cq a8)] at this;simp[results,fW,go_sem,this]
 .rintro D j q W hD a6 hq ⟨rfl,zU,hb⟩ hd;have a8:D≠w.L.size:=λe=>by subst e;rw[hb] at hd;cases hd
  refine wpIn_ret ?_;refine en hd (v:=.bool cE) ?_ ⟨?_,(a6.gr HG.out (by have:=HZ.out;rintro b (rfl|rfl)<;>omega)).LB (by have:=HZ.out;omega) _⟩
  .have:=(one_cell hb).1;rw[<-cC (D:=D) (o:=.S Y) (p:=⟨w.L.size,0,Y⟩) (cq a8)] at this;simp[results,fW,go_sem,this]
  .refine aq ?_;unfold isSome;obtain⟨t,ht⟩:=hq;cases hw:E4 c (EN c.D8.L) c.D9.L G8 0 with
   |nil=>rw[hw] at ht;exact AS (List.append_eq_nil_iff.1 ht).1 zU
   |cons a l=>rfl
def JY (l m:List Int):Bool:=dS (l.L<m.L)||(dS (l.L=m.L)&&dS (Jh l m<0))
def JZ (w:X)(kb:Nat):Option (List Int)->Prop
 |none=>w.L[kb]?=U (H #[.int .i32 0,.int .u32 0,.slice Y 0 0,.bool bk] 127 (0,0))
 |some l=>∃A c,w.L[kb]?=U (H #[.int .i32 0,.int .u32 0,Z A l.L c,.bool cE] 127 (0,0))/\l.L<=4611686018427387904/\Ie w (λb=>b≠kb/\b<w.L.size) A l
def KW:Option (List Int)->List Int->List Int
 |none,x=>x
 |some b,x=>if JY x b then x else b
def GF {W:X}{b:Nat}{v0 v1 v2 v3:S}{t:cw}(h:W.L[b]?=U (H #[v0,v1,v2,v3] t (0,0))) :
  W.S ⟨b,0,Y⟩=U v0/\W.S ⟨b,1,Y⟩=U v1/\W.S ⟨b,2,Y⟩=U v2/\W.S ⟨b,3,Y⟩=U v3/\(∀i,W.O ⟨b,i,Y⟩=bk)/\b<W.L.size:=by
 refine⟨?_,?_,?_,?_,λi=>?_,(AJ.1 h).1⟩
 .unfold cu;simp only[h];rfl
 .unfold cu;simp only[h];rfl
 .unfold cu;simp only[h];rfl
 .unfold cu;simp only[h];rfl
 .unfold dr;simp[h]
def aL {W:X}{b i:Nat}{a:Array S}{u:S}{t:cw}{f:Nat×Nat}(h:W.L[b]?=U (.cells a t f)):(W.LH ⟨b,i,Y⟩ u).L[b]?=U (.cells (a.L i u) t f):=by
 unfold V;simp only[BR,if_true,h]
 rfl
def Ie.keep' {w w':X}{kb:Nat}{A:Option ak}{l:List Int}(h:Ie w (λb=>b≠kb/\b<w.L.size) A l)(hz:w.L.size<=w'.L.size)(hk:∀b o,b≠kb->w'.S ⟨b,o,Y⟩=w.S ⟨b,o,Y⟩):Ie w' (λb=>b≠kb/\b<w'.L.size) A l:=λhn=>by
 obtain⟨b,o,e,hb,hc⟩:=h hn;exact⟨b,o,e,⟨hb.1,AO hb.2 hz⟩,λi x hx=>(hk _ _ hb.1).trans (hc i x hx)⟩
def ur (A A':Option ak)(c c':Nat)(l m:List Int)(w:X)(B:Nat)(h:RI w B A l)(h':RI w B A' m)(hl:l.L<=4611686018427387904)(hm:m.L<=4611686018427387904) :
  bh D7 70 #[Z A l.L c,Z A' m.L c'] w λe w'=>e=.L (.bool (JY l m))/\w=w':=by
 have HC:=AI (kZ A A' c c' l m w B h h' hl hm);go_enter Sq.func70,Tryz.ntmps70;by_cases h1:l.L<m.L
 .have HL:=AI (show JY l m=cE by simp[JY,h1]);go_wp2;go_ret;exact⟨aq HL.out.LH,rfl⟩
 .by_cases h2:l.L=m.L
  .have HL:=AI (show JY l m=dS (Jh l m<0) by simp[JY,h2]);rw[h2] at HC ⊢;generalize Jh l m=q at HC HL;go_wp2_with (go_at_call 71;refine HC.out.LT ?_;rintro e w' ⟨rfl,rfl⟩);go_ret;exact⟨aq HL.out.LH,rfl⟩
  .have HL:=AI (show JY l m=bk by simp[JY,h1,h2]);generalize l.L=a at h1 h2 hl ⊢;generalize m.L=b at h1 h2 hm ⊢;go_wp2;go_ret;exact⟨aq HL.out.LH,rfl⟩
def wJ (kb:Nat)(xA:Option ak)(xc:Nat)(x:List Int)(o:Option (List Int))(w:X)(hk:JZ w kb o)(hx:Ie w (λb=>b≠kb/\b<w.L.size) xA x)(hl:x.L<=4611686018427387904) :
  bh D7 69 #[.S (U ⟨kb,0,Y⟩),Z xA x.L xc,.func (.func 70) #[] #[]] w λe w'=>e=.L (.tuple #[])/\KT (·=kb) w w'/\JZ w' kb (U (KW o x)):=by
 have HX:=AI hx;cases o with
 |none =>
  obtain⟨h0,h1,h2,h3,hf,zY⟩:=GF hk;have f0:=hf 0;have f2:=hf 2;have f3:=hf 3;have HK:=AI hk;go_enter_defers Sq.func69,e8;go_wp2_with (go_at_call 89;refine(DF ⟨kb,0,Y⟩ _ h0 f0).LT ?_;rintro e w' ⟨rfl,rfl⟩);have HS:=AI (aL (i:=3) (u:=.bool cE) (aL (i:=2) (u:=Z xA x.L xc) (aL (i:=0) (u:=.int .i32 1) HK.out)));refine ez (f:=90) (args:=#[.S (U ⟨kb,0,Y⟩)]) (by simp) (by simp[go_sem]) ?_
  obtain⟨c0,_,_,_,cf,_⟩:=GF HS.out;refine(DE ⟨kb,0,Y⟩ .returning _ c0 (cf 0)).LT ?_;rintro e u' w'' ⟨rfl,rfl,rfl⟩;have a6:=aL (i:=0) (u:=.int .i32 0) HS.out;refine⟨.tuple #[],eb rfl _ _ _,rfl,(((KT.LH (T:=(·=kb)) w (p:=⟨kb,0,Y⟩) rfl _).trans (KT.LH (T:=(·=kb)) _ (p:=⟨kb,2,Y⟩) rfl _)).trans (KT.LH (T:=(·=kb)) _ (p:=⟨kb,3,Y⟩) rfl _)).trans (KT.LH (T:=(·=kb)) _ (p:=⟨kb,0,Y⟩) rfl _),?_⟩
  refine⟨xA,xc,a6,hl,HX.out.keep' (by simp[V]) λb i hb=>?_⟩;rw[AW _ _ _ _ (by simp[cq hb]),AW _ _ _ _ (by simp[cq hb]),AW _ _ _ _ (by simp[cq hb]),AW _ _ _ _ (by simp[cq hb])]
 |some b =>
  obtain⟨bA,bc,hk,hbl,hb⟩:=hk;obtain⟨h0,h1,h2,h3,hf,zY⟩:=GF hk;have f0:=hf 0;have HK:=AI hk;have HB:=AI hb;have kp:∀ {A:Option ak} {l:List Int},Ie w (λb=>b≠kb/\b<w.L.size) A l->RI (w.LH ⟨kb,0,Y⟩ (.int .i32 1)) w.L.size A l:=λh=>Ie.ri (K:=λb=>b≠kb/\b<w.L.size) (h.keep λb o hb=>AW _ _ _ _ (by simp[cq hb.1])) λb hb=>hb.2;have HC:=AI (ur xA bA xc bc x b (w.LH ⟨kb,0,Y⟩ (.int .i32 1)) w.L.size (kp HX.out) (kp hb) hl hbl)
  obtain⟨v,hv⟩:∃v,v=JY x b:=⟨_,rfl⟩;rw[<-hv] at HC;have HV:=AI hv;clear hv;cases v with
  |true =>
   go_enter_defers Sq.func69,e8;go_wp2_with (first|(go_at_call 89;refine(DF ⟨kb,0,Y⟩ _ h0 f0).LT ?_;rintro e w' ⟨rfl,rfl⟩)|(go_at_call 70;refine HC.out.LT ?_;rintro e w' ⟨rfl,rfl⟩));have HS:=AI (aL (i:=3) (u:=.bool cE) (aL (i:=2) (u:=Z xA x.L xc) (aL (i:=0) (u:=.int .i32 1) HK.out)));refine ez (f:=90) (args:=#[.S (U ⟨kb,0,Y⟩)]) (by simp) (by simp[go_sem]) ?_
   obtain⟨c0,_,_,_,cf,_⟩:=GF HS.out;refine(DE ⟨kb,0,Y⟩ .returning _ c0 (cf 0)).LT ?_;rintro e u' w'' ⟨rfl,rfl,rfl⟩;have a6:=aL (i:=0) (u:=.int .i32 0) HS.out;refine⟨.tuple #[],eb rfl _ _ _,rfl,(((KT.LH (T:=(·=kb)) w (p:=⟨kb,0,Y⟩) rfl _).trans (KT.LH (T:=(·=kb)) _ (p:=⟨kb,2,Y⟩) rfl _)).trans (KT.LH (T:=(·=kb)) _ (p:=⟨kb,3,Y⟩) rfl _)).trans (KT.LH (T:=(·=kb)) _ (p:=⟨kb,0,Y⟩) rfl _),?_⟩
   have a7:KW (U b) x=x:=by simp[KW,<-HV.out]
   rw[a7];refine⟨xA,xc,a6,hl,HX.out.keep' (by simp[V]) λb i hb=>?_⟩;rw[AW _ _ _ _ (by simp[cq hb]),AW _ _ _ _ (by simp[cq hb]),AW _ _ _ _ (by simp[cq hb]),AW _ _ _ _ (by simp[cq hb])]
  |false =>
   go_enter_defers Sq.func69,e8;go_wp2_with (first|(go_at_call 89;refine(DF ⟨kb,0,Y⟩ _ h0 f0).LT ?_;rintro e w' ⟨rfl,rfl⟩)|(go_at_call 70;refine HC.out.LT ?_;rintro e w' ⟨rfl,rfl⟩));have HS:=AI (aL (i:=0) (u:=.int .i32 1) HK.out);refine ez (f:=90) (args:=#[.S (U ⟨kb,0,Y⟩)]) (by simp) (by simp[go_sem]) ?_;obtain⟨c0,_,_,_,cf,_⟩:=GF HS.out;refine(DE ⟨kb,0,Y⟩ .returning _ c0 (cf 0)).LT ?_
   rintro e u' w'' ⟨rfl,rfl,rfl⟩;have a6:=aL (i:=0) (u:=.int .i32 0) HS.out;refine⟨.tuple #[],eb rfl _ _ _,rfl,(KT.LH (T:=(·=kb)) w (p:=⟨kb,0,Y⟩) rfl _).trans (KT.LH (T:=(·=kb)) _ (p:=⟨kb,0,Y⟩) rfl _),?_⟩;have a7:KW (U b) x=b:=by simp[KW,<-HV.out]
   rw[a7];refine⟨bA,bc,a6,hbl,HB.out.keep' (by simp[V]) λb i hb=>?_⟩;rw[AW _ _ _ _ (by simp[cq hb]),AW _ _ _ _ (by simp[cq hb])]
def ap {w w':X}{base size n:Nat}{e:cw}{v:S}{xs:List S}(h:w.H base e size v n xs)(hk:∀g,v.L=U g->g<w.L.size->w'.L[g]?=w.L[g]?):w'.H base e size v n xs:=by
 have zY:=h.lt;refine⟨h.1,?_⟩;obtain h0|⟨g,cap,cur,rfl,h1,h2,h3⟩:=h.2
 .exact .inl h0
 .exact .inr ⟨g,cap,cur,rfl,h1,(hk g rfl (zY g rfl).2).trans h2,h3⟩
def fO {w:X}{b1 b2 s1 s2 n1 n2:Nat}{e1 e2:cw}{v1 v2:S}{x1 x2:List S}(he:e1≠e2)(h1:w.H b1 e1 s1 v1 n1 x1)(h2:w.H b2 e2 s2 v2 n2 x2){g:Nat}(hg:v1.L=U g):U g≠v2.L:=by
 obtain⟨rfl,_⟩|⟨g1,c1,u1,rfl,_,a1,_⟩:=h1.2
 .cases hg
 .obtain⟨rfl,_⟩|⟨g2,c2,u2,rfl,_,a2,_⟩:=h2.2
  .intro h;cases h
  .intro h;obtain rfl:g1=g:=by injection hg
   obtain rfl:g1=g2:=by injection h
   rw[a1] at a2;injection a2 with a2
   injection a2 with _ h _
   exact he h
def cr {w:X}{B:Nat}{e:cw}{size n:Nat}{v:S}{xs:List S}(h:w.H B e size v n xs){b:Nat}(hb:b<B):U b≠v.L:=λhh=>by
 have:=(h.lt b hh.LH).1;omega
def FD {w:X}{B B':Nat}{e:cw}{size n:Nat}{v:S}{xs:List S}(h:w.H B e size v n xs)(hb:B'<=B):w.H B' e size v n xs:=by
 refine⟨h.1,?_⟩;obtain h0|⟨g,cap,cur,h1,h2,h3⟩:=h.2
 .exact .inl h0
 .exact .inr ⟨g,cap,cur,h1,by omega,h3⟩
structure EH (w:X)(base:Nat)(v:S)(ls:List (List Int))(xs:List S):Prop where
 row:w.H base 22 1 v ls.L xs
 cells:∀(i:Nat) (l:List Int),ls[i]?=U l->∃u,xs[i]?=U u/\w.H base 3 1 u l.L (l.map (O G))
def EH.nil (w:X)(base:Nat):EH w base (.slice Y 0 0) [] []:=⟨Bs _ _ _ _,λi l h=>by simp at h⟩
def EH.keep {w w':X}{base:Nat}{v:S}{ls:List (List Int)}{xs:List S}(h:EH w base v ls xs)(hk:∀b,b<w.L.size->w'.L[b]?=w.L[b]?):EH w' base v ls xs :=
 ⟨ap h.row λg _ hl=>hk g hl,λi l hi=>by
  obtain⟨u,h1,h2⟩:=h.cells i l hi
  exact⟨u,h1,ap h2 λg _ hl=>hk g hl⟩⟩
def EH.keep' {w w':X}{base:Nat}{v:S}{ls:List (List Int)}{xs:List S}(h:EH w base v ls xs)(hk:∀b,base<=b->b<w.L.size->w'.L[b]?=w.L[b]?):EH w' base v ls xs :=
 ⟨ap h.row λg hg hl=>hk g (h.row.lt g hg).1 hl,λi l hi=>by
  obtain⟨u,h1,h2⟩:=h.cells i l hi
  exact⟨u,h1,ap h2 λg hg hl=>hk g (h2.lt g hg).1 hl⟩⟩
def EH.LE {w1 w w':X}{base n:Nat}{v v' u:S}{ls:List (List Int)}{xs:List S}{l:List Int}(h:EH w base v ls xs)(hu:w.H base 3 1 u l.L (l.map (O G)))
  (h1:∀b,b<w.L.size->w1.L[b]?=w.L[b]?) (hs:w.L.size<=w1.L.size) (hg:w1.grownBy w' v.L) (hn:n=ls.L) (hr:w'.H base 22 1 v' (n+1) (xs++[u])):EH w' base v' (ls++[l]) (xs++[u]):=by
 subst hn;have key:∀ {y:S} {m:Nat} {zs:List S},w.H base 3 1 y m zs->w'.H base 3 1 y m zs:=λhy=>ap hy λg a6 hl =>
  (hg.LE g (AO hl hs) (fO (by decide) hy h.row a6)).trans (h1 g hl)
 have zk:xs.L=ls.L:=by have:=h.row.1;omega
 refine⟨by simpa using hr,λi y hi=>?_⟩;obtain zY|a8:=BV i ls.L
 .rw[BF zY] at hi;obtain⟨z,hz,hzo⟩:=h.cells i y hi;exact⟨z,by rw[BF (by omega)];exact hz,key hzo⟩
 .have a7 : i = ls.L := by
   have:=(Be.1 hi).1;simp at this;omega
  subst a7;rw[BM (AK _)] at hi;simp at hi;subst hi;exact⟨u,by rw[BM (by omega),zk];simp,key hu⟩
def EH.LH {w:X}{base:Nat}{v:S}{ls:List (List Int)}{xs:List S}(h:EH w base v ls xs):∃A c,v=Z A ls.L c/\E7 w w.L.size A ls:=by
 obtain⟨rfl,h0⟩|⟨g,cap,cur,rfl,h1,h2,h3⟩:=h.row.2
 .have:ls=[]:=Bp h0;subst this;exact⟨Y,0,rfl,.nil⟩
 .refine⟨_,cap,rfl,λ_=>⟨g,0,rfl,(AJ.1 h2).1,λi l hi=>?_⟩⟩;obtain⟨u,hu,ho⟩:=h.cells i l hi;obtain⟨A,c,rfl,hr⟩:=Dx ho;refine⟨A,c,?_,hr⟩;have:=h.row.cells (g:=g) rfl i _ hu;have e:(⟨g,0,Y⟩:ak).add i=⟨g,0+i,Y⟩:=by unfold eV;split<;>simp_all
  rwa [e] at this
def DH:(D7.info? 22).map (λi=>(i.zero,i.size,i.bytes))=U (U (.slice Y 0 0),1,24):=by
 rw[Dy];kernel_rfl
def be (r:E2)(k:Nat):List (List Int):=(bl k).map λi=>wl (r i)
def oa (r:E2)(k:Nat):be r (k+1)=be r k++[wl (r k)]:=by simp[be,C6]
def eZ (r:E2)(k:Nat):(be r k).L=k:=by simp[be]
def pi (cb:Nat)(nA:Option ak)(n nc:Nat)(r:E2)(w:X)(hcb:cb<w.L.size)(zo:w.S ⟨cb,0,Y⟩=U (Z nA n nc))(hn:n<=5)(hr:∀i,i<5->r i<16) :
  bh D7 59 #[.S (U ⟨cb,0,Y⟩),E6 r] w λe w'=>∃A c xs,e=.L (Z A n c)/\EH w' (w.L.size+1) (Z A n c) (be r n) xs/\Gr w w':=by
 obtain⟨i0,hi,zF,zE,zD⟩:=eF DH;have HR:=AI hr;unfold E6;go_enter Sq.func59,Tryz.ntmps59;go_wp2;go_loopw [5,13] (λv i wr=>∃k:Nat,k<=n/\i=O G k/\∃xs,EH wr (w.L.size+1) v (be r k) xs/\(∀j,j<5->wr.S ⟨w.L.size,j,Y⟩=U (.int .u8 (r j)))/\Gr w wr/\w.L.size+1<=wr.L.size) (λ_ i _=>n-(bb i).L)
 case atStart =>
  refine⟨0,by omega,rfl,[],EH.nil _ _,λj hj=>?_,(Gr.refl w).LK _,by simp⟩;rw[AM _ _ _ _ rfl]
  match j,hj with
  |0,_=>rfl
  |1,_=>rfl
  |2,_=>rfl
  |3,_=>rfl
  |4,_=>rfl
 case round =>
  obtain⟨k,hk,rfl,xs,aB,Im,zV,zv⟩:=hrel;have HG:=AI zV;have HO:=AI aB;have a8:=AI Im;by_cases zY:k<n
  .have hx:=HR.out k (by omega);have aC:=a8.out k (by omega);have HS:=AI (oa r k);have HL:=AI (gY (r k) wr hx);generalize zT:r k=x at hx aC HS HL;go_wp2_with fail;refine HL.out.LT ?_;rintro e w1 ⟨u,rfl,hou,zJ⟩;obtain⟨uA,uc,rfl,_⟩:=Dx hou;have HU:=AI hou;have a6:=AI zJ;have hs1:=zJ.size;have a7:EH w1 (w.L.size+1) _ (be r k) xs:=HO.out.keep λb hb=>a6.out.Li.LE b hb;have HO1:=AI a7
   have hrow:=a7.row;have zk:=eZ r k;rw[zk] at hrow;go_wp2_with (at_builtin;refine EL rfl _ _ 26 rfl (w.L.size+1) 22 i0 (.slice Y 0 0) 1 24 Sq.underlying26 hi zF zE zD rfl (by decide) _ _ _ rfl (hrow.LK _) ⟨w1.L.size,0,Y⟩ 1 1 [Z uA (wl x).L uc] rfl rfl ?c1 ?c2 ?c3 ?c4 ?c5 ?_)
   case c1 =>
    intro j u hj
    match j,hj with
    |0,hj=>simp at hj;subst hj;simp[eV]
   case c2 =>
    intro u' hu;simp at hu;subst hu;rfl
   case c3=>unfold maxLen;omega
   case c4=>omega
   case c5=>simp;omega
   intro v' w2 hown' hgrow hd;have aD:=AI (((HG.out.trans a6.out).LK (H #[Z uA (wl x).L uc] 22)).Lo hgrow hd λj hj=>by have:=(hrow.lt j hj).1;omega);have hz2':w1.L.size+1<=w2.L.size:=by have:=hgrow.size;simpa using this
   have aF:Hid (EH w2 (w.L.size+1) v' (be r (k+1)) (xs++[Z uA (wl x).L uc])):=AI (by
    rw[HS.out]
    refine EH.LE (HO1.out) (FD HU.out (by omega)) (λb hb=>bo w1 _ hb) (by simp) hgrow (eZ r k).LH hown')
   have aA:Hid (∀j,j<5->w2.S ⟨w.L.size,j,Y⟩=U (.int .u8 (r j))):=AI λj hj =>
    hgrow.cell ((Bi _ _ _ (by show w.L.size<w1.L.size;omega)).trans ((a6.out.cell (by show w.L.size<wr.L.size;omega)).trans (a8.out j hj))) (cr hrow (by show w.L.size<_;omega))
   have hz3:w.L.size+1<=w2.L.size:=by omega
   go_wp2;go_roundw
   case rel=>exact⟨k+1,by omega,by go_num,_,aF.out,aA.out,aD.out,by omega⟩
   case measure=>simp[Proofs.intOf];omega
  .have aG:k=n:=by omega
   subst aG;obtain⟨A,c,rfl,_⟩:=HO.out.LH;have hl:=eZ r k;rw[hl] at HO ⊢;go_wp2;go_ret;exact⟨_,_,_,rfl,HO.out,HG.out⟩
def Kg (l:List Int)(i k:Nat):List Int:=(bl l.L).map λj=>if j<k/\i.L j=cE then l[j]?.LH 0 else 0
def bf (i k:Nat):List Int:=((bl k).S i.L).map λn:Nat=>(n:Int)
def KX (c:Ek)(i:Nat):Ek:={ c with D9:=Kg c.D9 i c.D9.L }
def F9 (c:Ek):Nat->Option (List Int)
 |0=>Y
 |i+1=>if Go.Sq.isSome (KX c i) then F9 c i else U (KW (F9 c i) (bf i c.D9.L))
def jm (l:List Int)(i k:Nat):(Kg l i k).L=l.L:=by simp[Kg]
def fg (l:List Int)(i k j:Nat)(hj:j<l.L):(Kg l i k)[j]?=U (if j<k/\i.L j=cE then l[j]?.LH 0 else 0):=by simp[Kg,hj]
def wK {c:Ek}(h:c.Ok)(i:Nat):(KX c i).Ok:=by
 have hl:(KX c i).D9.L=c.D9.L:=jm _ _ _;refine⟨by rw[hl];exact h.n1,by rw[hl];exact h.n5,λx hx=>?_,h.h1,h.h4,h.heads,h.FL,h.most,by rw[hl];exact h.off⟩;obtain⟨j,hj,rfl⟩:=List.getElem_of_mem hx;have hj':j<c.D9.L:=by rw[hl] at hj;exact hj
 have:=fg c.D9 i c.D9.L j hj';have e:(KX c i).D9[j]=if j<c.D9.L/\i.L j=cE then c.D9[j]?.LH 0 else 0:=by
  rw[AL (by rw[jm];exact hj')] at this;exact Option.some.inj this
 rw[e];split
 .exact h.need _ (GA c.D9 j hj')
 .omega
def mX (i k:Nat):bf i (k+1)=bf i k++if i.L k then[(k:Int)] else[]:=by
 unfold bf;rw[C6,CY,Cx];cases h:i.L k<;>simp[h]
def jW (i k:Nat):(bf i k).L<=k:=by
 unfold bf;rw[BD];exact AU (Da _ _) (by simp)
def JZ.gr {w w':X}{kb:Nat}{o:Option (List Int)}(h:JZ w kb o)(hg:Gr w w'):JZ w' kb o:=by
 cases o with
 |none=>exact(hg.Li.LE kb (AJ.1 h).1).trans h
 |some l =>
  obtain⟨A,c,h1,h2,h3⟩:=h;refine⟨A,c,(hg.Li.LE kb (AJ.1 h1).1).trans h1,h2,λhn=>?_⟩;obtain⟨b,o,e,hb,hc⟩:=h3 hn;exact⟨b,o,e,⟨hb.1,AO hb.2 hg.size⟩,λi x hx=>(hg.cell (p:=⟨b,o+i,Y⟩) hb.2).trans (hc i x hx)⟩
def fP {w:X}{ops:Array Oper}{rest:List Oper}{o:Oper}{a:Act}{Q:Exit->Act->X->Prop}(hgd:o.guard=Y)(s x:fu)(ho:o.op=.call { callee:=.builtin .append,args:=#[s,x],argTypes:=#[22,22] })
  (base:Nat) (v:S) (n:Nat) (xs:List S) (hs:a.eval s=v) (zl:w.H base 3 1 v n xs) (ad:ak) (c:Nat) (u:S) (hx:a.eval x=.slice (U ad) 1 c) (hc:w.S ad=U u) (h1:u.oneCell'=cE)
  (hn:n<=1048576) (hbase:base<=w.L.size) (h:∀v' w',w'.H base 3 1 v' (n+1) (xs++[u])->w.grownBy w' v.L->w.drawn<=w'.drawn->wpList D7 ops Q rest (a.put o.L v') w'):wpList D7 ops Q (o::rest) a w:=by
 obtain⟨i0,hi,zF,zE,zD⟩:=eF DD;refine EL hgd s x 22 ho base 3 i0 (O G 0) 1 8 Sq.underlying22 hi zF zE zD rfl (by decide) v n xs hs zl ad 1 c [u] hx rfl (λj u' hj=>?_) (λu' hu=>?_) (by unfold maxLen;omega) (by omega) hbase h
 .match j,hj with
  |0,hj =>
   simp at hj;subst hj;have:ad.add 0=ad:=by unfold eV;split<;>simp_all
   rw[this];exact hc
 .simp at hu;subst hu;exact h1
def wL:∀k:Fin 32,∀j:Fin 5,(bits BinOp.and G ((k.val:Int) / 2 ^ j.val) 1==1)=k.val.L j.val:=by decide +kernel
def mY {l:List Int}{i k m:Nat}(hm:m<l.L)(zU:m≠k):(Kg l i (k+1))[m]?.LH 0=(Kg l i k)[m]?.LH 0:=by
 rw[fg _ _ _ _ hm,fg _ _ _ _ hm];have:(m<k+1↔m<k):=by omega
 simp[this]
def mZ {l:List Int}{i k:Nat}(hm:k<l.L):(Kg l i (k+1))[k]?.LH 0=if i.L k=cE then l[k]?.LH 0 else 0:=by
 rw[fg _ _ _ _ hm];simp
def us {l:List Int}{i k:Nat}(hm:k<l.L):(Kg l i k)[k]?.LH 0=0:=by
 rw[fg _ _ _ _ hm];simp
def ID (n:Nat):Array Value:=madeCells (O G 0).cells (n*1)
def da (n:Nat)(w:X)(hn:n<=1048576):(Instr.makeSlice 22 (O G (n:Int)) (O G (n:Int))).run D7 w=.ok (.slice (U ⟨w.L.size,0,Y⟩) n n) (w.LK (.cells (ID n) 3)):=by
 obtain⟨i0,hi,zF,zE,zD⟩:=eF DD;have:=run_makeSlice (P:=D7) w 22 3 i0 (O G 0) Sq.underlying22 hi zF G G (n:Int) (n:Int) (by omega) (by omega) (by rw[zE];simp;omega) (by rw[zD];omega) (by omega);rw[zE] at this;simpa [ID] using this
def dx (n j:Nat)(hj:j<n):(ID n)[j]?=U (O G 0):=by
 simp[ID,madeCells,Value.cells,hj,Nat.mod_one]
def wM (c:Ek)(w:X)(e:gB)(w':X):Prop :=
 Gr w w'/\if Ex c≠0 then e=.L (.tuple #[.slice Y 0 0,O G (Ex c)]) else if isSome c then e=.L (.tuple #[.slice Y 0 0,O G 11])
  else ∃A k,e=.L (.tuple #[Z A ((F9 c (2 ^ c.D9.L)).LH []).L k,O G 0])/\RI w' w'.L.size A ((F9 c (2 ^ c.D9.L)).LH [])
def wN (nA hA:Option ak)(nc hc:Nat)(c:Ek)(w:X)(B:Nat)(hB:B<=w.L.size)(hn:RI w B nA c.D9)(hh:Fe w B hA c.D8)
  (Gg:c.D9.L<=4611686018427387904) (zC:c.D8.L<=4611686018427387904) (Fa:∀h∈c.D8,h.off.L<=4611686018427387904) :
  bh D7 31 #[En nA hA c nc hc] w (wM c w):=by
 unfold En;obtain⟨W0,zM⟩:∃W0:X,W0=w.LK (H #[Z nA c.D9.L nc,Z hA c.D8.L hc] 25):=⟨_,rfl⟩;have zL:Gr w W0:=zM▸(Gr.refl w).LK _;have zF:W0.L.size=w.L.size+1:=by rw[zM];simp
 have HW:=AI zM;have aD:=AI (kR nA hA nc hc c W0 B (by omega) (hn.gr hB zL) (hh.keep λb o hb=>zL.cell (AO hb hB)) Gg zC Fa);have aS:=AI zL;have hcm:W0.S ⟨w.L.size,0,Y⟩=U (Z nA c.D9.L nc)/\W0.S ⟨w.L.size,1,Y⟩=U (Z hA c.D8.L hc):=by
  rw[zM];constructor
  all_goals rw[AM _ _ _ _ rfl];rfl
 have b8:=AI hcm;have HN:=AI hn;have HH:=AI hh;clear zM zL hn hh Fa hcm;go_enter Sq.func31,Tryz.ntmps31;unfold En at aD;go_wp2_with fail;rw[<-HW.out];refine aD.out.LT ?_;rintro e w1 ⟨zJ,aF⟩;have aA:=AI zJ;by_cases hE:Ex c=0
 .rw[AP hE] at aF;obtain⟨cb,g,cap,rfl,hcb,bW,hK,_⟩:=aF;have HK:=AI hK;have HE:=AI hE;have aP:=AI (Ek.Ok.of hE);have aG:=AI (r7 w1 aP.out hK);clear zJ hK aD hE;obtain⟨v,hv⟩:∃v,v=isSome c:=⟨_,rfl⟩;rw[<-hv] at aG;have HV:=AI hv;clear hv;cases v with
  |true =>
   go_wp2_with (go_at_call 68;refine aG.out.LT ?_;rintro e w2 ⟨rfl,zI⟩;have aQ:=AI zI;clear zI);go_ret2;refine⟨aS.out.trans (aA.out.trans aQ.out),?_⟩;rw[AN (by simp[HE.out]),AP HV.out.LH]
   rfl
  |false =>
   go_wp2_with fail;refine aG.out.LT ?_;rintro e w2 ⟨rfl,zI⟩;have aQ:=AI (aS.out.trans (aA.out.trans zI));have zo:w2.S ⟨w.L.size,0,Y⟩=U (Z nA c.D9.L nc):=((aA.out.trans zI).cell (by show w.L.size<_;omega)).trans b8.out.1;have zu:w2.S ⟨w.L.size,1,Y⟩=U (Z hA c.D8.L hc):=((aA.out.trans zI).cell (by show w.L.size<_;omega)).trans b8.out.2
   have zD:w.L.size<w2.L.size:=by have:=zI.size;have:=aA.out.size;omega
   have bX:=aP.out.n5;have bF:((2:Int) ^ c.D9.L)=((2 ^ c.D9.L:Nat):Int)/\2 ^ c.D9.L<=32:=by
    have:c.D9.L=0\/c.D9.L=1\/c.D9.L=2\/c.D9.L=3\/c.D9.L=4\/c.D9.L=5:=by omega
    rcases this with e|e|e|e|e|e<;>rw[e]<;>decide
   obtain⟨Jj,bH⟩:=bF;have hw:∀N:Nat,N<=32->IntKind.i64.wrap (N:Int)=N:=λN h=>by simp[IntKind.wrap,IntKind.bits,IntKind.signed];omega
   obtain⟨N,hN⟩:∃N,N=2 ^ c.D9.L:=⟨_,rfl⟩;rw[<-hN] at Jj bH;have b9:wrap64 ((2:Int) ^ c.D9.L)=(N:Int):=by
    rw[Jj];unfold wrap64;omega
   have bY:=λw=>da c.D9.L w (by omega);have HNN:=AI hN;clear Jj hw hN;have bB:JZ (w2.LK (H #[.int .i32 0,.int .u32 0,.slice Y 0 0,.bool bk] 127)) w2.L.size (F9 c 0):=L w2 _;have bI:=AI bB;clear bB;go_wp2;rw[b9];clear b9;have bZ:=aQ.out.size;go_loopw [26] (λi wr=>∃k:Nat,k<=N/\i=O G k/\JZ wr w2.L.size (F9 c k)/\Gr w wr/\wr.S ⟨w.L.size,0,Y⟩=U (Z nA c.D9.L nc)/\wr.S ⟨w.L.size,1,Y⟩=U (Z hA c.D8.L hc)/\w2.L.size<wr.L.size) (λi _=>N-(bb i).L)
   case atStart =>
    exact⟨0,by omega,rfl,bI.out,aQ.out.LK _,(Bi _ _ _ zD).trans zo,(Bi _ _ _ zD).trans zu,by simp⟩
   case round =>
    obtain⟨wq,rfl⟩:∃wq,wq=wr:=⟨_,rfl⟩;obtain⟨k,hk,rfl,bC,zV,zo,zu,c0⟩:=hrel;have aK:=AI bC;have a8:=AI zV;clear bC zV;have aH:w.L.size<wq.L.size:=by omega
    by_cases zY:k<N
    .go_wp2
     go_loopw [9,38] (λv i wr=>∃j:Nat,j<=c.D9.L/\i=O G j/\wr.H (wq.L.size+2) 3 1 v (bf k j).L ((bf k j).map (O G)) /\
      (∀m,m<c.D9.L->wr.S ⟨wq.L.size+1,m,Y⟩=U (O G ((Kg c.D9 k j)[m]?.LH 0))/\wr.O ⟨wq.L.size+1,m,Y⟩=bk) /\
      wr.S ⟨wq.L.size,0,Y⟩=U (.slice (U ⟨wq.L.size+1,0,Y⟩) c.D9.L c.D9.L)/\wr.S ⟨wq.L.size,1,Y⟩=U (Z hA c.D8.L hc)/\Gr wq wr/\wq.L.size+2<=wr.L.size) (λ_ i _=>c.D9.L-(bb i).L)
     case atStart =>
      refine⟨0,by omega,rfl,Bs _ _ _ _,λm hm=>⟨?_,?_⟩,?_,?_,((Gr.refl wq).LK _).LK _,by simp⟩
      .rw[AM _ _ _ _ (by simp),dx _ _ hm,fg _ _ _ _ hm];simp
      .rw[BK _ _ _ _ (by simp)]
      .rw[Bi _ _ _ (by simp),AM _ _ _ _ rfl];rfl
      .rw[Bi _ _ _ (by simp),AM _ _ _ _ rfl];rfl
     case round =>
      obtain⟨j,hj,rfl,zl,zW,hx0,hx1,bD,bJ⟩:=hrel;have a7:=AI bD;have aB:=AI zW;clear bD zW;have hlt3:w.L.size<wr.L.size:=by omega
      have hc0i:wr.S ⟨w.L.size,0,Y⟩=U (Z nA c.D9.L nc):=(a7.out.cell (by show w.L.size<_;omega)).trans zo;by_cases aT:j<c.D9.L
      .obtain⟨nb,no,rfl,c4,bK⟩:=(HN.out.gr hB (a8.out.trans a7.out)).at_ aT;have HS:=AI (mX k j);have zX:=jW k j;obtain⟨aR,hfj⟩:=aB.out j aT;have aI:Hid ((bits BinOp.and G ((k:Int) / 2 ^ j) 1==1)=k.L j):=AI (wL ⟨k,by omega⟩ ⟨j,by omega⟩);obtain⟨x,hx⟩:∃x,x=c.D9[j]?.LH 0:=⟨_,rfl⟩;rw[<-hx] at bK;have HX:=AI hx;clear hx;cases hb:k.L j with
       |true =>
        rw[hb] at HS aI;have aU:=aI.out;have HB:=AI hb;clear hb;have bL:=zl.lt;go_wp2_with (at_builtin;refine fP rfl _ _ rfl (wq.L.size+2) _ _ _ rfl ((ownsRow_setCell_below zl (by show wq.L.size+1<_;omega) _).LK _) ⟨wr.L.size,0,Y⟩ 1 (O G j) rfl ?c1 rfl ?c2 ?c3 ?_)
        case c2=>omega
        case c3=>(try simp);omega
        intro v' w3 hown' hgrow hd;have hG3:Gr wq w3:=((a7.out.LH (p:=⟨wq.L.size+1,j,Y⟩) (by show _<=wq.L.size+1;omega) _).LK _).Lo hgrow hd λq hq=>by have:=(bL q hq).1;omega
        have aJ:∀b o,b<wq.L.size+2->w3.S ⟨b,o,Y⟩=(wr.LH ⟨wq.L.size+1,j,Y⟩ (O G x)).S ⟨b,o,Y⟩/\w3.O ⟨b,o,Y⟩=(wr.LH ⟨wq.L.size+1,j,Y⟩ (O G x)).O ⟨b,o,Y⟩:=λb o hb=>by
         have zU:U b≠_:=cr zl (show b<wq.L.size+2 from hb);have bM:=hgrow.LE b (by simp[V];omega) zU;have aV:=bM.trans (aa _ _ (by simp[V];omega));exact⟨A7 aV,Cc aV⟩
        have aN:Hid (∀m,m<c.D9.L->w3.S ⟨wq.L.size+1,m,Y⟩=U (O G ((Kg c.D9 k (j+1))[m]?.LH 0))/\w3.O ⟨wq.L.size+1,m,Y⟩=bk):=AI λm hm=>by
         obtain⟨e1,e2⟩:=aJ (wq.L.size+1) m (by omega);refine⟨e1.trans ?_,e2.trans ((BG _ _ _ _).trans (aB.out m hm).2)⟩;by_cases aC:m=j
         .subst aC;rw[Ba _ _ _ aR,mZ hm,AP HB.out,HX.out]
         .rw[AW _ _ _ _ (by simp[aC]),(aB.out m hm).1,mY hm aC]
        have H0:Hid (w3.S ⟨wq.L.size,0,Y⟩=U (.slice (U ⟨wq.L.size+1,0,Y⟩) c.D9.L c.D9.L)/\w3.S ⟨wq.L.size,1,Y⟩=U (Z hA c.D8.L hc)):=AI
         ⟨(aJ _ _ (by omega)).1.trans ((AW _ _ _ _ (by simp)).trans hx0),(aJ _ _ (by omega)).1.trans ((AW _ _ _ _ (by simp)).trans hx1)⟩
        have aW:Hid (w3.H (wq.L.size+2) 3 1 v' (bf k (j+1)).L ((bf k (j+1)).map (O G))):=AI (by rw[HS.out];simpa using hown');have aL:=AI hG3;have hz3:wq.L.size+2<=w3.L.size:=by have:=hgrow.size;simp[V] at this;omega
        clear hown' hgrow hd hG3 aJ aR hfj zl hx0 hx1 aU;go_wp2;go_roundw
        case rel=>exact⟨j+1,by omega,by go_num,aW.out,aN.out,H0.out.1,H0.out.2,aL.out,hz3⟩
        case measure=>simp[Proofs.intOf];omega
       |false =>
        rw[hb] at HS aI;have aU:=aI.out;have HB:=AI hb;clear hb;have aN:Hid (∀m,m<c.D9.L->wr.S ⟨wq.L.size+1,m,Y⟩=U (O G ((Kg c.D9 k (j+1))[m]?.LH 0))/\wr.O ⟨wq.L.size+1,m,Y⟩=bk):=AI λm hm=>by
         refine⟨?_,(aB.out m hm).2⟩;by_cases aC:m=j
         .subst aC;rw[aR,mZ hm,us hm,AN (by rw[HB.out];simp)]
         .rw[(aB.out m hm).1,mY hm aC]
        have aW:Hid (wr.H (wq.L.size+2) 3 1 _ (bf k (j+1)).L ((bf k (j+1)).map (O G))):=AI (by rw[HS.out];simpa using zl);have bN:=AI hx0;have bO:=AI hx1;clear zl aR hfj hx0 hx1;go_wp2;go_roundw
        case rel=>exact⟨j+1,by omega,by go_num,aW.out,aN.out,bN.out,bO.out,a7.out,bJ⟩
        case measure=>simp[Proofs.intOf];omega
      .have aX:j=c.D9.L:=by omega
       clear aT hj;have zk:(KX c k).D9.L=c.D9.L:=jm _ _ _
       have bE:RI wr wr.L.size (U ⟨wq.L.size+1,0,Y⟩) (KX c k).D9:=λ_=>⟨_,0,rfl,by omega,λm y hm=>by
        have bP:m<c.D9.L:=by rw[<-zk];exact(Be.1 hm).1
        rw[Bd,(aB.out m bP).1,aX];have:(KX c k).D9=Kg c.D9 k c.D9.L:=rfl
        rw[<-this,hm];rfl⟩
       have HST : Hid (bh D7 65 #[.agg #[.slice (U ⟨wq.L.size + 1, 0, Y⟩) c.D9.L c.D9.L, Z hA c.D8.L hc]] wr fun e w' => e = .L (.S (U ⟨wr.L.size + 1, 0, Y⟩)) ∧ Gr wr w' ∧ ∃ g cap, wr.L.size + 2 <= g ∧
         Gk w' (OM wr.L.size (wr.L.size+1) g) (wr.L.size+1) (KX c k) (EN c.D8.L) (U ⟨wq.L.size+1,0,Y⟩) hA c.D9.L hc g cap):=AI (by
        have:=jV (U ⟨wq.L.size+1,0,Y⟩) hA c.D9.L hc (KX c k) wr wr.L.size (AK _) bE (((HH.out.keep λb o hb=>(a8.out.trans a7.out).cell (AO hb hB))).more (by have:=(a8.out.trans a7.out).size;omega)) aP.out.h4;unfold En at this;rw[zk] at this
        exact this.LT λe w' ⟨h1,h2,g,cap,h3,h4,_⟩=>⟨h1,h2,g,cap,h3,h4⟩)
       have hown2:=zl;rw[aX] at hown2;have hrow:∃A c',u9=Z A (bf k c.D9.L).L c'/\Ie wr (λb=>b≠w2.L.size/\b<wr.L.size) A (bf k c.D9.L):=by
        obtain⟨A,c',e,h⟩:=Dx hown2;refine⟨A,c',e,λzU=>?_⟩;obtain⟨b,o,e2,hb,zr⟩:=h zU;refine⟨b,o,e2,⟨?_,hb⟩,zr⟩;have:=(hown2.lt b (by rw[e,e2];rfl)).1;omega
       obtain⟨A,c',rfl,aY⟩:=hrow;have bG:=AI aY;clear bE hown2 zl aY;go_wp2_with fail;refine HST.out.LT ?_;rintro e w3 ⟨rfl,zH,g3,bV,hg3l,hK3⟩;have aL:=AI zH;have aZ:=AI (r7 (c:=KX c k) w3 (wK aP.out k) hK3);clear zH hK3 HST;obtain⟨v,hv⟩:∃v,v=isSome (KX c k):=⟨_,rfl⟩;rw[<-hv] at aZ;have HV:=AI hv;clear hv;cases v with
       |true =>
        go_wp2_with fail;refine aZ.out.LT ?_;rintro e w4 ⟨rfl,hg4⟩;have a6:=AI (a7.out.trans (aL.out.trans hg4))
        have bQ:Hid (JZ w4 w2.L.size (F9 c (k+1))):=AI (by
         have:F9 c (k+1)=F9 c k:=by show(if _ then _ else _)=_;rw[AP HV.out.LH]
         rw[this];exact aK.out.gr a6.out)
        clear hg4;go_wp2;go_roundw
        case rel=>exact⟨k+1,by omega,by go_num,bQ.out,a8.out.trans a6.out,(a6.out.cell aH).trans zo,(a6.out.cell aH).trans zu,by have:=a6.out.size;omega⟩
        case measure=>simp[Proofs.intOf];omega
       |false =>
        go_wp2_with fail;refine aZ.out.LT ?_;rintro e w4 ⟨rfl,hg4⟩;have a6:=AI (a7.out.trans (aL.out.trans hg4));have aO:=aL.out.trans hg4
        have b5:=AI (wJ w2.L.size A c' (bf k c.D9.L) (F9 c k) w4 (aK.out.gr a6.out) (λzU=>by
         obtain⟨b,o,e2,hb,zr⟩:=bG.out zU
         exact⟨b,o,e2,⟨hb.1,AO hb.2 aO.size⟩,λi y hy=>(aO.cell (p:=⟨b,o+i,Y⟩) hb.2).trans (zr i y hy)⟩) (by have:=jW k c.D9.L;omega))
        clear hg4 aO;go_wp2_with fail;refine b5.out.LT ?_;rintro e w5 ⟨rfl,aM,b6⟩
        have bR:Hid (JZ w5 w2.L.size (F9 c (k+1))):=AI (by
         have:F9 c (k+1)=U (KW (F9 c k) (bf k c.D9.L)):=by show(if _ then _ else _)=_;rw[AN (by rw[<-HV.out];simp)]
         rw[this];exact b6)
        have bS:=AI (KT.gr (a8.out.trans a6.out) aM (by rintro b rfl;omega));have c5:=a6.out.size;have NP:w5.S ⟨w.L.size,0,Y⟩=U (Z nA c.D9.L nc):=(aM.cell (p:=⟨w.L.size,0,Y⟩) (by show w.L.size<_;omega) (by show w.L.size≠_;omega)).trans ((a6.out.cell aH).trans zo);have bT:w5.S ⟨w.L.size,1,Y⟩=U (Z hA c.D8.L hc):=(aM.cell (p:=⟨w.L.size,1,Y⟩) (by show w.L.size<_;omega) (by show w.L.size≠_;omega)).trans ((a6.out.cell aH).trans zu)
        have cA:=aM.size;clear aM b6 b5;go_wp2;go_roundw
        case rel=>exact⟨k+1,by omega,by go_num,bR.out,bS.out,NP,bT,by omega⟩
        case measure=>simp[Proofs.intOf];omega
    .have bU:k=N:=by omega
     subst bU;have b7:Hid (F9 c (2 ^ c.D9.L)=F9 c k):=AI (by rw[<-HNN.out]);obtain⟨o,ho⟩:∃o,o=F9 c k:=⟨_,rfl⟩;rw[<-ho] at aK b7;clear ho zY;cases o with
     |none =>
      obtain⟨d0,d1,d2,d3,df,dl⟩:=GF aK.out;go_wp2;go_ret2;refine⟨a8.out,?_⟩;rw[AN (by simp[HE.out]),AN (by rw[<-HV.out];simp),b7.out];exact⟨Y,0,rfl,.nil⟩
     |some b =>
      obtain⟨bA,bc,hkb,hbl,zT⟩:=aK.out;obtain⟨d0,d1,d2,d3,df,dl⟩:=GF hkb;have HRK:=AI zT;clear hkb zT;go_wp2;go_ret2;refine⟨a8.out,?_⟩;rw[AN (by simp[HE.out]),AN (by rw[<-HV.out];simp),b7.out];exact⟨bA,bc,rfl,Ie.ri HRK.out λb hb=>hb.2⟩
 .rw[AN hE] at aF;subst aF;have HE:=AI hE;obtain⟨k,hk⟩:∃k,k=Ex c:=⟨_,rfl⟩;rw[<-hk] at hE ⊢;have HK:=AI hk;clear hk zJ aD;go_wp2;go_ret2;refine⟨aS.out.trans aA.out,?_⟩;rw[AP HE.out];show Ending.returned (.tuple #[.slice Y 0 0,O G k])=_;rw[HK.out]
def Et (c:Ek)(ls:List (List Int)):Int :=
 if Ex c≠0 then Ex c else if EM ls.L c.D9.L c.D9.L≠0 then EM ls.L c.D9.L c.D9.L else bI (ls.map λl=>Fz l c.D8.L)
def Ec (ls:List (List Int)):E2:=λi=>JK (ls[i]?.LH [])
def IJ {w:X}{b:Nat}{r:E2}(h:∀i,i<5->w.S ⟨b,i,Y⟩=U (.int .u8 (r i))) :
  w.S ⟨b,0,Y⟩=U (.int .u8 (r 0))/\w.S ⟨b,1,Y⟩=U (.int .u8 (r 1))/\w.S ⟨b,2,Y⟩=U (.int .u8 (r 2))/\w.S ⟨b,3,Y⟩=U (.int .u8 (r 3))/\w.S ⟨b,4,Y⟩=U (.int .u8 (r 4)) :=
 ⟨h 0 (by omega),h 1 (by omega),h 2 (by omega),h 3 (by omega),h 4 (by omega)⟩
def GG (w:X)(b:Nat)(v0 v1 v2 v3 v4:S):World:=((((w.LH ⟨b,0,Y⟩ v0).LH ⟨b,1,Y⟩ v1).LH ⟨b,2,Y⟩ v2).LH ⟨b,3,Y⟩ v3).LH ⟨b,4,Y⟩ v4
def bZ {w:X}{b:Nat}{r:E2}(h:∀i,i<5->w.S ⟨b,i,Y⟩=U (.int .u8 (r i)))(v0 v1 v2 v3 v4:S) :
  (GG w b v0 v1 v2 v3 v4).S ⟨b,0,Y⟩=U v0/\(GG w b v0 v1 v2 v3 v4).S ⟨b,1,Y⟩=U v1/\(GG w b v0 v1 v2 v3 v4).S ⟨b,2,Y⟩=U v2/\(GG w b v0 v1 v2 v3 v4).S ⟨b,3,Y⟩=U v3/\(GG w b v0 v1 v2 v3 v4).S ⟨b,4,Y⟩=U v4:=by
 have ne:∀(W:X) (i j:Nat) (v:S),i≠j->(W.LH ⟨b,i,Y⟩ v).S ⟨b,j,Y⟩=W.S ⟨b,j,Y⟩:=λW i j v a6=>AW _ _ _ _ (by simp[cq a6]);obtain⟨h0,h1,h2,h3,h4⟩:=IJ h;unfold GG;refine⟨?_,?_,?_,?_,?_⟩
 .rw[ne _ _ _ _ (by decide),ne _ _ _ _ (by decide),ne _ _ _ _ (by decide),ne _ _ _ _ (by decide)];exact Ba _ _ _ h0
 .rw[ne _ _ _ _ (by decide),ne _ _ _ _ (by decide),ne _ _ _ _ (by decide)];exact Ba _ _ _ (by rw[ne _ _ _ _ (by decide)];exact h1)
 .rw[ne _ _ _ _ (by decide),ne _ _ _ _ (by decide)];exact Ba _ _ _ (by rw[ne _ _ _ _ (by decide),ne _ _ _ _ (by decide)];exact h2)
 .rw[ne _ _ _ _ (by decide)];exact Ba _ _ _ (by rw[ne _ _ _ _ (by decide),ne _ _ _ _ (by decide),ne _ _ _ _ (by decide)];exact h3)
 .exact Ba _ _ _ (by rw[ne _ _ _ _ (by decide),ne _ _ _ _ (by decide),ne _ _ _ _ (by decide),ne _ _ _ _ (by decide)];exact h4)
def jX (w:X)(b:Nat)(v0 v1 v2 v3 v4:S){k:Nat}(hk:k≠b):(GG w b v0 v1 v2 v3 v4).L[k]?=w.L[k]?:=by
 unfold GG;rw[Bb _ _ _ _ (by exact hk),Bb _ _ _ _ (by exact hk),Bb _ _ _ _ (by exact hk),Bb _ _ _ _ (by exact hk),Bb _ _ _ _ (by exact hk)]
def dZ {w0 w:X}{b:Nat}(h:Gr w0 w)(hb:w0.L.size<=b)(v0 v1 v2 v3 v4:S):Gr w0 (GG w b v0 v1 v2 v3 v4):=((((h.LH (p:=⟨b,0,Y⟩) hb v0).LH (p:=⟨b,1,Y⟩) hb v1).LH (p:=⟨b,2,Y⟩) hb v2).LH (p:=⟨b,3,Y⟩) hb v3).LH (p:=⟨b,4,Y⟩) hb v4
def lD (w:X)(b:Nat)(v0 v1 v2 v3 v4:S):(GG w b v0 v1 v2 v3 v4).L.size=w.L.size:=by simp[GG,V]
def yF (nA hA:Option ak)(nc hc:Nat)(c:Ek)(ls:List (List Int))(B:Nat)(w:X)(e:gB)(w':X):Prop :=
 Gr w w' ∧ if Et c ls = 0 then ∃ cb g cap, e = .L (.tuple #[.S (U ⟨cb, 0, Y⟩), E6 (Ec ls), O G 0]) ∧ w.L.size <= cb ∧ cb < g ∧ Gk w' (OM B cb g) cb c (EN c.D8.L) nA hA nc hc g cap
   else ∃(p:S) (r:E2),e=.L (.tuple #[p,E6 r,O G (Et c ls)])
structure FW (nA hA:Option ak)(nc hc:Nat)(c:Ek)(K:Nat->Prop)(cb g cap:Nat)(w:X)(r:E2)(wr:X):Prop where
 x5:∀i,i<5->wr.S ⟨w.L.size+1,i,Y⟩=U (.int .u8 ((λ_=>0:E2) i:Nat))
 f5:∀i,i<5->wr.O ⟨w.L.size+1,i,Y⟩=bk
 x7:∀i,i<5->wr.S ⟨w.L.size+2,i,Y⟩=U (.int .u8 (r i:Nat))
 f7:∀i,i<5->wr.O ⟨w.L.size+2,i,Y⟩=bk
 c0:wr.S ⟨w.L.size,0,Y⟩=U (Z nA c.D9.L nc)
 c1:wr.S ⟨w.L.size,1,Y⟩=U (Z hA c.D8.L hc)
 K:Gk wr K cb c (EN c.D8.L) nA hA nc hc g cap
 gr:Gr w wr
def FW.Lo {nA hA:Option ak}{nc hc:Nat}{c:Ek}{K:Nat->Prop}{cb g cap:Nat}{w wr:X}{r:E2}(h:FW nA hA nc hc c K cb g cap w r wr)(hK:¬K (w.L.size+2)){k x:Nat}(hk:k<5) :
  FW nA hA nc hc c K cb g cap w (upd r k x) (wr.LH ⟨w.L.size+2,k,Y⟩ (.int .u8 (x:Int))):=by
 have ho:∀b o,b≠w.L.size+2->(wr.LH ⟨w.L.size+2,k,Y⟩ (.int .u8 (x:Int))).S ⟨b,o,Y⟩=wr.S ⟨b,o,Y⟩:=λb o hb=>AW _ _ _ _ (λe=>hb (Bh gR e).LH);refine⟨λi hi=>(ho _ _ (by omega)).trans (h.x5 i hi),λi hi=>(BG _ _ _ _).trans (h.f5 i hi),λi hi=>?_,λi hi=>(BG _ _ _ _).trans (h.f7 i hi),(ho _ _ (by omega)).trans h.c0,(ho _ _ (by omega)).trans h.c1,h.K.keep (by simp[V]) λb o hb=>ho b o λe=>hK (e▸hb),h.gr.LH (by show _<=w.L.size+2;omega) _⟩
 unfold upd;by_cases e:i=k
 .subst e;rw[AP rfl];exact Ba _ _ _ (h.x7 i hi)
 .rw[AN e];exact(AW _ _ _ _ (by simp[e])).trans (h.x7 i hi)
def FW.fin {nA hA:Option ak}{nc hc:Nat}{c:Ek}{K:Nat->Prop}{cb g cap:Nat}{w wr:X}{r:E2}(h:FW nA hA nc hc c K cb g cap w r wr)(hK:¬K (w.L.size+1))(v0 v1 v2 v3 v4:S) :
  Gk (GG wr (w.L.size+1) v0 v1 v2 v3 v4) K cb c (EN c.D8.L) nA hA nc hc g cap/\Gr w (GG wr (w.L.size+1) v0 v1 v2 v3 v4) :=
 ⟨h.K.keep (by rw[lD];exact AK _) λb o hb=>A7 (jX _ _ _ _ _ _ _ λe=>hK (e▸hb)),dZ h.gr (by omega) _ _ _ _ _⟩
def _root_.Go.Sq.Gk.drew {w:X}{K:Nat->Prop}{cb:Nat}{c:Ek}{sets:List Nat}{nA hA:Option ak}{nc hc sb sc:Nat}(h:Gk w K cb c sets nA hA nc hc sb sc):Gk w.drew K cb c sets nA hA nc hc sb sc :=
 h.keep (AK _) λ_ _ _=>rfl
def GH (ls:List (List Int))(k:Nat):E2:=λi=>if i<k then JK (ls[i]?.LH []) else 0
def ut (ls:List (List Int))(k:Nat):upd (GH ls k) k (JK (ls[k]?.LH []))=GH ls (k+1):=by
 funext i;unfold upd GH;by_cases e:i=k
 .subst e;rw[AP rfl,AP (by omega)]
 .rw[AN e];by_cases h:i<k
  .rw[AP h,AP (by omega)]
  .rw[AN h,AN (by omega)]
def uu (ls:List (List Int)):GH ls ls.L=Ec ls:=by
 funext i;unfold GH Ec;by_cases h:i<ls.L
 .rw[AP h]
 .rw[AN h,CF (by omega)];rfl
def fC (ls:List (List Int))(n:Int){i:Nat}(hi:i<ls.L):(ls.map λl=>Fz l n)[i]?.LH 0=Fz (ls[i]?.LH []) n:=by simp[hi]
def na (nA hA gA:Option ak)(nc hc gc:Nat)(c:Ek)(ls:List (List Int))(w:X)(B:Nat)(hB:B<=w.L.size)(hn:RI w B nA c.D9)(hh:Fe w B hA c.D8)(hg:E7 w B gA ls)
  (Gg:c.D9.L<=4611686018427387904) (zC:c.D8.L<=4611686018427387904) (Fa:∀h∈c.D8,h.off.L<=4611686018427387904) (G4:ls.L<=4611686018427387904) (zq:∀x∈ls,x.L<=4611686018427387904) :
  bh D7 60 #[En nA hA c nc hc,Z gA ls.L gc] w (yF nA hA nc hc c ls B w):=by
 have HG:=AI hg;have aV:=AI zq;unfold En;obtain⟨W0,zM⟩:∃W0:X,W0=((w.LK (H #[Z nA c.D9.L nc,Z hA c.D8.L hc] 25)).LK (H #[.int .u8 0,.int .u8 0,.int .u8 0,.int .u8 0,.int .u8 0] 97)).LK (H #[.int .u8 0,.int .u8 0,.int .u8 0,.int .u8 0,.int .u8 0] 97):=⟨_,rfl⟩;have zL:Gr w W0:=zM▸(((Gr.refl w).LK _).LK _).LK _;have zF:W0.L.size=w.L.size+3:=by rw[zM];simp
 have HW:=AI zM;have aG:=AI (kR nA hA nc hc c W0 B (by omega) (hn.gr hB zL) (hh.keep λb o hb=>zL.cell (AO hb hB)) Gg zC Fa);have aK:=AI zL;have hcm:W0.S ⟨w.L.size,0,Y⟩=U (Z nA c.D9.L nc)/\W0.S ⟨w.L.size,1,Y⟩=U (Z hA c.D8.L hc):=by
  rw[zM];constructor
  all_goals rw[Bi _ _ _ (by simp;omega),Bi _ _ _ (by simp),AM _ _ _ _ rfl];rfl
 have aP:=AI hcm;have aQ:∀i,i<5->W0.S ⟨w.L.size+1,i,Y⟩=U (.int .u8 ((λ_=>0:E2) i:Nat))/\W0.S ⟨w.L.size+2,i,Y⟩=U (.int .u8 ((λ_=>0:E2) i:Nat))/\W0.O ⟨w.L.size+1,i,Y⟩=bk/\W0.O ⟨w.L.size+2,i,Y⟩=false:=λi hi=>by
  rw[zM,Bi _ _ _ (by simp),CL _ _ _ (by simp),AM _ _ _ _ (by simp),AM _ _ _ _ (by simp),BK _ _ _ _ (by simp),BK _ _ _ _ (by simp)]
  match i,hi with
  |0,_=>exact⟨rfl,rfl,rfl,rfl⟩
  |1,_=>exact⟨rfl,rfl,rfl,rfl⟩
  |2,_=>exact⟨rfl,rfl,rfl,rfl⟩
  |3,_=>exact⟨rfl,rfl,rfl,rfl⟩
  |4,_=>exact⟨rfl,rfl,rfl,rfl⟩
 have aR:=AI aQ;clear zM zL hn hh hg zq Fa hcm aQ;go_enter Sq.func60,Tryz.ntmps60;unfold En at aG;go_wp2_with fail;rw[<-HW.out];refine aG.out.LT ?_;rintro e w1 ⟨zJ,aH⟩;have a6:=AI zJ;by_cases hE:Ex c=0
 .rw[AP hE] at aH;obtain⟨cb,g,cap,rfl,hcb,aX,hK,_⟩:=aH;have HK:=AI hK;have HE:=AI hE;have aS:=AI (Ek.Ok.of hE);have aN:¬OM B cb g (w.L.size+2)/\¬OM B cb g (w.L.size+1):=by unfold OM;omega
  have aJ:=AI aN;have b8:=aS.out.n5;have b9:=aS.out.h4;have hfw:FW nA hA nc hc c (OM B cb g) cb g cap w (GH ls 0) w1:=by
   have h5:∀i,i<5->w1.S ⟨w.L.size+1,i,Y⟩=U (.int .u8 ((λ_=>0:E2) i:Nat))/\w1.S ⟨w.L.size+2,i,Y⟩=U (.int .u8 ((λ_=>0:E2) i:Nat))/\w1.O ⟨w.L.size+1,i,Y⟩=bk/\w1.O ⟨w.L.size+2,i,Y⟩=false:=λi hi=>by
    obtain⟨a,b,c,d⟩:=aR.out i hi;exact⟨(a6.out.cell (by show w.L.size+1<_;omega)).trans a,(a6.out.cell (by show w.L.size+2<_;omega)).trans b,(a6.out.frozen (by show w.L.size+1<_;omega)).trans c,(a6.out.frozen (by show w.L.size+2<_;omega)).trans d⟩
   exact⟨λi hi=>(h5 i hi).1,λi hi=>(h5 i hi).2.2.1,λi hi=>by rw[(h5 i hi).2.1];simp[GH],λi hi=>(h5 i hi).2.2.2,(a6.out.cell (by show w.L.size<_;omega)).trans aP.out.1,(a6.out.cell (by show w.L.size<_;omega)).trans aP.out.2,hK,aK.out.trans zJ⟩
  clear zJ hK aG hE aN;have a7:=AI hfw;have zo:=hfw.c0;have zu:=hfw.c1;clear hfw;by_cases hM:EM ls.L c.D9.L c.D9.L=0
  .have zk:c.D9.L=ls.L:=by have:=dP.1 hM;omega
   have HM:=AI hM;have HF:=AI (show Et c ls=bI (ls.map λl=>Fz l c.D8.L) by unfold Et;rw[AN (by simp[HE.out]),AN (by simp[hM])]);have aL:bh D7 91 #[O G ls.L,O G c.D9.L,O G c.D9.L] w1 λe w'=>e=.L (O G 0)/\w1=w':=by rw[<-hM];exact iA _ _ _ _
   have aB:=AI aL;have HLEN:=AI zk;have Io:ls.L<=5:=by omega
   clear hM aL zk;go_wp2_with (go_at_call 91;refine aB.out.LT ?_;rintro e w' ⟨rfl,rfl⟩);go_loopw [38] (λi wr=>∃k:Nat,k<=ls.L/\i=O G k/\FW nA hA nc hc c (OM B cb g) cb g cap w (GH ls k) wr/\∀j,j<k->Fz (ls[j]?.LH []) c.D8.L=0) (λi _=>ls.L-(bb i).L)
   case atStart=>exact⟨0,by omega,rfl,a7.out,λj hj=>AS hj (by omega)⟩
   case round =>
    obtain⟨k,hk,rfl,hfw,hz⟩:=hrel;have a8:=AI hfw;have HZ:=AI hz;have zo:=hfw.c0;have zu:=hfw.c1;obtain⟨a0,a1,a2,a3,a4⟩:=IJ hfw.x5;obtain⟨b0,b1,b2,b3,b4⟩:=IJ hfw.x7;have c0:=hfw.f5 0 (by omega);have c1:=hfw.f5 1 (by omega);have c2:=hfw.f5 2 (by omega);have c3:=hfw.f5 3 (by omega);have c4:=hfw.f5 4 (by omega);have aC:=AI (bZ hfw.x5);clear hfw hz;by_cases zY:k<ls.L
    .obtain⟨b,o,A',c',rfl,hb,aY,aM⟩:=(HG.out.gr hB a8.out.gr).at_ zY;have hx:=aV.out _ (gI ls k zY);have HA:=AI (fC ls c.D8.L zY);have HU:=AI (ut ls k);generalize ls[k]?.LH []=l at aY aM hx HA HU;have aI:=AI (i4 A' c' l c.D8.L wr B aM hx (by omega) (by omega));have aO:=AI aM;clear aM;by_cases hE:Fz l c.D8.L=0
     .rw[hE] at aI;have aT:=I0 hE;have aU:=AI (R9 A' c' l wr B aO.out hx λx hx=>by have:=aT.1 x hx;omega);have aZ:Hid (∀j,j<k+1->Fz (ls[j]?.LH []) c.D8.L=0):=AI λj hj=>by
       obtain h|h:=BV j k
       .exact HZ.out j h
       .have:j=k:=by omega
        subst this;have:=HA.out;rw[hE] at this;rw[<-fC ls _ zY];exact this
      have HF3:Hid (FW nA hA nc hc c (OM B cb g) cb g cap w (GH ls (k+1)) (wr.LH ⟨w.L.size+2,k,Y⟩ (.int .u8 (JK l:Int)))):=AI (by rw[<-HU.out];exact a8.out.Lo aJ.out.1 (by omega));have bA:=a8.out.f7 k (by omega);have bB:=a8.out.x7 k (by omega);clear aT hE HU HA aO HZ;generalize JK l=x at aU HF3;clear a8 a0 a1 a2 a3 a4 b0 b1 b2 b3 b4 c0 c1 c2 c3 c4 aC;go_wp2_with (first|(go_at_call 92;refine aI.out.LT ?_;rintro e w' ⟨rfl,rfl⟩)|(go_at_call 93;refine aU.out.LT ?_;rintro e w' ⟨rfl,rfl⟩))
      go_roundw
      case rel=>exact⟨k+1,by omega,by go_num,HF3.out,aZ.out⟩
      case measure=>simp[Proofs.intOf];omega
     .have aD := Lib.hid (show Et c ls = Fz l c.D8.L by
       rw[HF.out,aW (k:=k) (by simpa using zY) (λi hi=>by rw[fC ls _ (by omega)];exact HZ.out i hi) (by rw[HA.out];exact hE),HA.out])
      have aF:=AI hE;clear hE HU HA aO HZ;generalize Fz l c.D8.L=q at aI aD aF;have b5:(q != 0)=true:=by simp[aF.out]
      go_wp2_with (go_at_call 92;refine aI.out.LT ?_;rintro e w' ⟨rfl,rfl⟩);have aA:=AI (a8.out.fin aJ.out.2 (.int .u8 (GH ls k 0:Nat)) (.int .u8 (GH ls k 1:Nat)) (.int .u8 (GH ls k 2:Nat)) (.int .u8 (GH ls k 3:Nat)) (.int .u8 (GH ls k 4:Nat))).2;go_region
      all_goals
       go_wp2;obtain⟨s0,s1,s2,s3,s4⟩:=aC.out (.int .u8 (GH ls k 0:Nat)) (.int .u8 (GH ls k 1:Nat)) (.int .u8 (GH ls k 2:Nat)) (.int .u8 (GH ls k 3:Nat)) (.int .u8 (GH ls k 4:Nat));unfold GG at s0 s1 s2 s3 s4;refine cF (v:=.tuple #[.S Y,E6 (GH ls k),O G q]) (by simp[results,cU,go_sem,E6,s0,s1,s2,s3,s4]) rfl ⟨?_,?_⟩
       .first|exact aA.out|exact aA.out.drew
       .rw[AN (aD.out▸aF.out),aD.out];exact⟨_,_,rfl⟩
    .have b6:k=ls.L:=by omega
     subst b6;clear zY;rw[uu] at a8 b0 b1 b2 b3 b4;obtain⟨HFK,aA⟩:Hid (Gk (GG wr (w.L.size+1) (.int .u8 (Ec ls 0:Nat)) (.int .u8 (Ec ls 1:Nat)) (.int .u8 (Ec ls 2:Nat)) (.int .u8 (Ec ls 3:Nat)) (.int .u8 (Ec ls 4:Nat))) (OM B cb g) cb c (EN c.D8.L) nA hA nc hc g cap)/\Hid (Gr w (GG wr (w.L.size+1) (.int .u8 (Ec ls 0:Nat)) (.int .u8 (Ec ls 1:Nat)) (.int .u8 (Ec ls 2:Nat)) (.int .u8 (Ec ls 3:Nat)) (.int .u8 (Ec ls 4:Nat)))):=⟨AI (a8.out.fin aJ.out.2 _ _ _ _ _).1,AI (a8.out.fin aJ.out.2 _ _ _ _ _).2⟩
     have b7:=AI (show Et c ls=0 by
      rw[HF.out];exact cA λi hi=>by
       have hi':i<ls.L:=by simpa using hi
       rw[fC ls _ hi'];exact HZ.out i hi')
     go_wp2;go_region
     all_goals
      go_wp2;obtain⟨s0,s1,s2,s3,s4⟩:=aC.out (.int .u8 (Ec ls 0:Nat)) (.int .u8 (Ec ls 1:Nat)) (.int .u8 (Ec ls 2:Nat)) (.int .u8 (Ec ls 3:Nat)) (.int .u8 (Ec ls 4:Nat));unfold GG at s0 s1 s2 s3 s4;refine cF (v:=.tuple #[.S (U ⟨cb,0,Y⟩),E6 (Ec ls),O G 0]) (by simp[results,cU,go_sem,E6,s0,s1,s2,s3,s4]) rfl ⟨?_,?_⟩
      .first|exact aA.out|exact aA.out.drew
      .rw[AP b7.out];exact⟨cb,g,cap,rfl,by omega,aX,by first|exact HFK.out|exact HFK.out.drew⟩
  .have aD:=AI (show Et c ls=EM ls.L c.D9.L c.D9.L by unfold Et;rw[AN (by simp[HE.out]),AP hM]);have aF:=AI hM;have aB:=AI (iA ls.L c.D9.L c.D9.L w1);clear hM;generalize EM ls.L c.D9.L c.D9.L=q at aD aF aB;have b5:(q != 0)=true:=by simp[aF.out]
   obtain⟨a0,a1,a2,a3,a4⟩:=IJ a7.out.x5;obtain⟨b0,b1,b2,b3,b4⟩:=IJ a7.out.x7;have c0:=a7.out.f5 0 (by omega);have c1:=a7.out.f5 1 (by omega);have c2:=a7.out.f5 2 (by omega);have c3:=a7.out.f5 3 (by omega);have c4:=a7.out.f5 4 (by omega);have bC:=a7.out.c0;have bD:=a7.out.c1;have aC:=AI (bZ a7.out.x5);have aA:=AI (a7.out.fin aJ.out.2 (.int .u8 (GH ls 0 0:Nat)) (.int .u8 (GH ls 0 1:Nat)) (.int .u8 (GH ls 0 2:Nat)) (.int .u8 (GH ls 0 3:Nat)) (.int .u8 (GH ls 0 4:Nat))).2
   go_wp2_with (go_at_call 91;refine aB.out.LT ?_;rintro e w' ⟨rfl,rfl⟩);go_region
   all_goals
    go_wp2;obtain⟨s0,s1,s2,s3,s4⟩:=aC.out (.int .u8 (GH ls 0 0:Nat)) (.int .u8 (GH ls 0 1:Nat)) (.int .u8 (GH ls 0 2:Nat)) (.int .u8 (GH ls 0 3:Nat)) (.int .u8 (GH ls 0 4:Nat));unfold GG at s0 s1 s2 s3 s4;refine cF (v:=.tuple #[.S Y,E6 (GH ls 0),O G q]) (by simp[results,cU,go_sem,E6,s0,s1,s2,s3,s4]) rfl ⟨?_,?_⟩
    .first|exact aA.out|exact aA.out.drew
    .rw[AN (aD.out▸aF.out),aD.out];exact⟨_,_,rfl⟩
 .rw[AN hE] at aH;subst aH;have HF:=AI (show Et c ls=Ex c by unfold Et;rw[AP hE]);have h5:∀i,i<5->w1.S ⟨w.L.size+1,i,Y⟩=U (.int .u8 ((λ_=>0:E2) i:Nat))/\w1.S ⟨w.L.size+2,i,Y⟩=U (.int .u8 ((λ_=>0:E2) i:Nat))/\w1.O ⟨w.L.size+1,i,Y⟩=bk/\w1.O ⟨w.L.size+2,i,Y⟩=false:=λi hi=>by
   obtain⟨a,b,c,d⟩:=aR.out i hi;exact⟨(a6.out.cell (by show w.L.size+1<_;omega)).trans a,(a6.out.cell (by show w.L.size+2<_;omega)).trans b,(a6.out.frozen (by show w.L.size+1<_;omega)).trans c,(a6.out.frozen (by show w.L.size+2<_;omega)).trans d⟩
  obtain⟨a0,b0,c0,d0⟩:=h5 0 (by omega);obtain⟨a1,b1,c1,d1⟩:=h5 1 (by omega);obtain⟨a2,b2,c2,d2⟩:=h5 2 (by omega);obtain⟨a3,b3,c3,d3⟩:=h5 3 (by omega);obtain⟨a4,b4,c4,d4⟩:=h5 4 (by omega);have aC:=AI (bZ (w:=w1) (b:=w.L.size+1) (r:=λ_=>0) (λi hi=>(h5 i hi).1) (.int .u8 0) (.int .u8 0) (.int .u8 0) (.int .u8 0) (.int .u8 0));have HE:=AI hE;clear h5 aG zJ;obtain⟨k,hk⟩:∃k,k=Ex c:=⟨_,rfl⟩;rw[<-hk] at hE ⊢
  have HK:=AI hk;clear hk;go_wp2;go_region
  all_goals
   go_wp2;obtain⟨s0,s1,s2,s3,s4⟩:=aC.out;unfold GG at s0 s1 s2 s3 s4;refine cF (v:=.tuple #[.S Y,.agg #[.int .u8 0,.int .u8 0,.int .u8 0,.int .u8 0,.int .u8 0],O G k]) (by simp[results,cU,go_sem,s0,s1,s2,s3,s4]) rfl ⟨?_,?_⟩
   .first|exact(dZ (aK.out.trans a6.out) (by omega) _ _ _ _ _)|exact(dZ (aK.out.trans a6.out) (by omega) _ _ _ _ _).drew|exact(dZ (aK.out.trans a6.out).drew (by omega) _ _ _ _ _)
   .rw[HF.out,HK.out,AN HE.out];exact⟨_,λ_=>0,rfl⟩
def iO:Ex (E1 [3,2,4])=0:=by decide +kernel
def uv:(Ho (Ec [[0,1],[1],[]]) (E4 (Kf (E1 [3,2,4]) 2 0) (EN 3) 3 G8 0)).map (λp=>((bl 3).map λi=>wl (p.1 i),p.2))=U (Fi,3):=by decide +kernel
def mf:Ex (E1 [3,2,5])=0:=by decide +kernel
def jY:isSome (E1 [3,2,5])=false:=by decide +kernel
def qm:F9 (E1 [3,2,5]) 8=U [1,2]:=by decide +kernel
abbrev Ew:Ek:=E1 [3,2,4]
def Gy (i:Nat):Nat:=(EN 3)[i]?.LH 0
def FT (x:Nat):E2:=λj=>if j=0 then x else 0
def OO (i:Nat):Int:=(Gq Ew (FT (Gy i)) 0).1
def I1:∀i,i<8->(OO i=0↔i=1\/i=4):=by decide +kernel
def qp:E4 Ew (EN 3) 2 (FT (Gy 4)) 1=[]:=by
 have:(E4 Ew (EN 3) 2 (FT (Gy 4)) 1).L=0:=by decide +kernel
 exact Bp this
def qr:(E4 Ew (EN 3) 2 (FT (Gy 1)) 1).L=1:=by decide +kernel
def jn:∀x∈EN 3,Ew.has x:=λx hx=>mT 3 (by decide) x hx
def gK (i:Nat)(hi:i<8):∀j,Ew.has (FT (Gy i) j):=by
 intro j;unfold FT;split
 .refine jn _ ?_;have:∀i,i<8->Gy i∈EN 3:=by decide
  exact this i hi
 .show 0<2 ^ 3;decide
def O1 (w:X)(B:Nat)(A:Option ak)(l:List Int):Prop :=
 l≠[]->∃b o,A=U ⟨b,o,Y⟩/\b<B/\∀(i:Nat) (x:Int),l[i]?=U x->w.S ⟨b,o+i*5+4,Y⟩=U (O G x)/\∃(n0 n1 n2:Int) (A:Option ak) (m c:Nat),
  w.S ⟨b,o+i*5,Y⟩=U (O G n0)/\w.S ⟨b,o+i*5+1,Y⟩=U (O G n1)/\w.S ⟨b,o+i*5+2,Y⟩=U (O G n2)/\w.S ⟨b,o+i*5+3,Y⟩=U (Z A m c)
def O1.gr {w w':X}{B:Nat}{A:Option ak}{l:List Int}(h:O1 w B A l)(hB:B<=w.L.size)(hg:Gr w w'):O1 w' B A l:=λhn=>by
 obtain⟨b,o,e,hb,hc⟩:=h hn;refine⟨b,o,e,hb,λi x hx=>?_⟩;have k:∀o,w'.S ⟨b,o,Y⟩=w.S ⟨b,o,Y⟩:=λo=>hg.cell (p:=⟨b,o,Y⟩) (AO hb hB);obtain⟨h1,n0,n1,n2,A,m,c,h2,h3,h4,h5⟩:=hc i x hx;exact⟨(k _).trans h1,n0,n1,n2,A,m,c,(k _).trans h2,(k _).trans h3,(k _).trans h4,(k _).trans h5⟩
def ER (l:List Int):Nat->Int
 |0=>-1
 |k+1=>if 0<l[k]?.LH 0/\(ER l k<0\/l[(ER l k).L]?.LH 0<l[k]?.LH 0) then k else ER l k
def jo (l:List Int)(k:Nat):-1<=ER l k/\ER l k<k:=by
 induction k with
 |zero=>simp[ER]
 |succ k ih =>
  unfold ER;split
  .omega
  .omega
def yJ (A:Option ak)(c:Nat)(l:List Int)(w:X)(B:Nat)(hB:B<=w.L.size)(h:O1 w B A l)(hl:l.L<=4611686018427387904) :
  bh D7 76 #[Z A l.L c] w λe w'=>e=.L (O G (ER l l.L))/\Gr w w':=by
 have HR:=AI h;go_enter Sq.func76,Tryz.ntmps76;go_wp2;go_loopw [3,8] (λs i wr=>∃k:Nat,k<=l.L/\i=O G k/\s=O G (ER l k)/\Gr w wr) (λ_ i _=>l.L-(bb i).L)
 case atStart=>exact⟨0,by omega,rfl,rfl,.refl _⟩
 case round =>
  obtain⟨k,hk,rfl,rfl,hg⟩:=hrel;have HG:=AI hg;by_cases zY:k<l.L
  .obtain⟨b,o,e,hb,hc⟩:=HR.out.gr hB HG.out (λe=>by rw[e] at zY;simp at zY);subst e;obtain⟨c4,n0,n1,n2,A',m,c',c0,c1,c2,c3⟩:=hc k _ (AL zY)
   have HM:=AI (show ER l (k+1)=if 0<l[k]/\(ER l k<0\/l[(ER l k).L]?.LH 0<l[k]) then(k:Int) else ER l k by
    show(if _ then _ else _)=_
    rw[AL zY];rfl)
   have a7:=jo l k;have aB:=AI hc;clear hc;have hz:=HG.out.size;generalize l[k]=x at c4 HM;by_cases hx:0<x
   .by_cases hm:ER l k<0
    .have a6:=AI (show ER l (k+1)=k by rw[HM.out,AP ⟨hx,.inl hm⟩]);clear HM a7;generalize ER l k=q at hm a6;have a8:dS (x > 0)=true:=by simp;omega
     have aA:dS (q<0)=true:=by simp;omega
     go_wp2;go_region;go_wp2;go_roundw
     case rel=>exact⟨k+1,by omega,by go_num,Bh (Value.int .i64) a6.out.LH,(HG.out.LK _).drew⟩
     case measure=>simp[Proofs.intOf];omega
    .obtain⟨j,hj⟩:∃j:Nat,ER l k=j:=⟨(ER l k).L,by omega⟩;rw[hj] at HM hm a7 ⊢;have hjk:j<k:=by omega
     obtain⟨y4,_⟩:=aB.out j _ (AL (show j<l.L by omega));have HY:=AI (show l[(j:Int).L]?.LH 0=l[j] by rw[Cu,AL (by omega)];rfl);generalize l[j]=y at y4 HY;have aF:j<l.L:=by omega
     have HJ:=AI hj;clear hj hm a7;have a8:dS (x > 0)=true:=by simp;omega
     have aG:dS ((j:Int)<0)=false:=by simp
     have hbl:b<wr.L.size:=by omega
     by_cases aC:y<x
     .have a6:=AI (show ER l (k+1)=k by rw[HM.out,AP ⟨hx,.inr (by rw[HY.out];exact aC)⟩]);have aA:dS (x > y)=true:=by simp;omega
      clear HM HY;go_wp2;go_quiet (fail);go_wp2;go_roundw
      case rel=>exact⟨k+1,by omega,by go_num,Bh (Value.int .i64) a6.out.LH,(HG.out.LK _).drewN _⟩
      case measure=>simp[Proofs.intOf];omega
     .have a6:=AI (show ER l (k+1)=j by rw[HM.out,AN (by rw[HY.out];omega)]);have aA:dS (x > y)=false:=by simp;omega
      clear HM HY;go_wp2;go_quiet (fail);go_wp2;go_roundw
      case rel=>exact⟨k+1,by omega,by go_num,Bh (Value.int .i64) a6.out.LH,(HG.out.LK _).drewN _⟩
      case measure=>simp[Proofs.intOf];omega
   .have a6:=AI (show ER l (k+1)=ER l k by rw[HM.out,AN (by omega)]);have a8:dS (x > 0)=false:=by simp;omega
    clear HM a7;generalize hq:ER l k=q at a6;clear hq;go_wp2;go_region;go_wp2;go_roundw
    case rel=>exact⟨k+1,by omega,by go_num,Bh (Value.int .i64) a6.out.LH,(HG.out.LK _).drew⟩
    case measure=>simp[Proofs.intOf];omega
  .have aD:k=l.L:=by omega
   subst aD;go_wp2;go_ret;exact⟨rfl,HG.out⟩
def E9 (n:Nat)(rs:List (Int×Int))(k:Nat):Int :=
 if FM (rs[k]?.LH (0,0)).1 0 (n-1)=bk then 3 else if FM (rs[k]?.LH (0,0)).2 0 60=bk then 1 else if(rs.LT k).any (·.1==(rs[k]?.LH (0,0)).1)=cE then 4 else 0
def bE (n:Nat)(rs:List (Int×Int)):Int:=bI ((bl rs.L).map (E9 n rs))
def Fu (rs:List (Int×Int)):Nat->Nat->Int
 |0,_=>0
 |k+1,j=>if(rs[k]?.LH (0,0)).1=j then(rs[k]?.LH (0,0)).2 else Fu rs k j
def Er (n:Nat)(rs:List (Int×Int))(k:Nat):List Int:=(bl n).map (Fu rs k)
def aI (n:Nat)(rs:List (Int×Int))(k:Nat):(Er n rs k).L=n:=by simp[Er]
def j5 {n:Nat}{rs:List (Int×Int)}{k j:Nat}(hj:j<n):(Er n rs k)[j]?=U (Fu rs k j):=by simp[Er,hj]
def Ez (c:Ek)(ls:List (List Int))(rs:List (Int×Int)):Int:=if Et c ls≠0 then Et c ls else bE c.D9.L rs
def eu {n:Nat}{rs:List (Int×Int)}(h:∀k,k<rs.L->E9 n rs k=0)(k j:Nat)(hk:k<=rs.L):0<=Fu rs k j/\Fu rs k j<=60:=by
 induction k with
 |zero=>simp[Fu]
 |succ k ih =>
  have:=h k (by omega);unfold Fu;split
  .unfold E9 at this;split at this
   .omega
   .split at this
    .omega
    .rename_i h1 h2;simp[FM] at h2;omega
  .exact ih (by omega)
def FX (n:Int)(s:List Int×List (Int×Int)):List Int×List (Int×Int) :=
 if ER s.1 s.1.L<0 then s else(s.1.Lo (ER s.1 s.1.L).L (s.1[(ER s.1 s.1.L).L]?.LH 0-1),s.2++[(n,ER s.1 s.1.L)])
def EP (n:Int)(s:List Int×List (Int×Int)):Nat->List Int×List (Int×Int)
 |0=>s
 |m+1=>FX n (EP n s m)
def Hm (c:Ek)(r:E2)(ws:List Int)(k:Nat):Nat:=(ws[k]?.LH 0-c.FL (r k)).L
def Eu (c:Ek)(r:E2)(ws:List Int):Nat->List Int×List (Int×Int)
 |0=>(c.D8.map (·.heads),[])
 |k+1=>EP k (Eu c r ws k) (Hm c r ws k)
def ET (c:Ek)(r:E2)(ws:List Int):List (Int×Int):=(Eu c r ws ws.L).2
def iD {n:Int}{s:List Int×List (Int×Int)}(h:ER s.1 s.1.L<0):FX n s=s:=AP h
def qu {n:Int}{s:List Int×List (Int×Int)}(h:ER s.1 s.1.L<0)(m:Nat):EP n s m=s:=by
 induction m with
 |zero=>rfl
 |succ m ih=>rw[EP,ih];exact iD h
def oc {n:Int}{s:List Int×List (Int×Int)}{k m:Nat}(h:ER (EP n s k).1 (EP n s k).1.L<0)(hm:k<=m):EP n s m=EP n s k:=by
  induction m with
  | zero => obtain rfl : k = 0 := by omega
            rfl
  |succ m ih =>
    obtain h1|h1:=BV m k
    · obtain rfl:k=m+1:=by omega
      rfl
    · rw[EP,ih h1];exact iD h
def ni {c:Ek}{r:E2}{ws:List Int}{k m:Nat}(h:ER (Eu c r ws k).1 (Eu c r ws k).1.L<0)(hm:k<=m):Eu c r ws m=Eu c r ws k:=by
  induction m with
  | zero => obtain rfl : k = 0 := by omega
            rfl
  |succ m ih =>
    obtain h1|h1:=BV m k
    · obtain rfl:k=m+1:=by omega
      rfl
    · rw[Eu,ih h1];exact qu h _
def od {c:Ek}{r:E2}{ws:List Int}{k m:Nat}(hk:k<ws.L)(hm:m<=Hm c r ws k)(h:ER (EP k (Eu c r ws k) m).1 (EP k (Eu c r ws k) m).1.L<0):ET c r ws=(EP k (Eu c r ws k) m).2:=by
 have e:Eu c r ws (k+1)=EP k (Eu c r ws k) m:=by rw[Eu];exact oc h hm
 unfold ET;rw[ni (k:=k+1) (by rw[e];exact h) (by omega),e]
structure Hf (c:Ek)(n:Nat)(s:List Int×List (Int×Int)):Prop where
 len:s.1.L=c.D8.L
 LK:∀x∈s.1,0<=x/\x<=40
 count:s.1.LE+s.2.L<=160
 night:∀p∈s.2,0<=p.1/\p.1<n/\0<=p.2/\p.2<c.D8.L
def sn (l:List Int)(k:Nat)(h:0<=ER l k):0<l[(ER l k).L]?.LH 0:=by
 induction k with
 |zero=>simp[ER] at h
 |succ k ih =>
  unfold ER at h ⊢;by_cases hc:0<l[k]?.LH 0/\(ER l k<0\/l[(ER l k).L]?.LH 0<l[k]?.LH 0)
  .rw[AP hc];simpa using hc.1
  .rw[AN hc] at h ⊢;exact ih h
def wW (l:List Int)(k:Nat)(x:Int)(h:k<l.L):(l.Lo k x).LE=l.LE-l[k]?.LH 0+x:=by
 induction l generalizing k with
 |nil=>simp at h
 |cons a l ih =>
  cases k with
  |zero=>simp;omega
  |succ k =>
   simp only[Cb,List.sum_cons,Bz];rw[ih k (by simpa using h)];omega
def Hf.step {c:Ek}{n:Nat}{s:List Int×List (Int×Int)}{d:Nat}(hd:d<n)(h:Hf c n s):Hf c n (FX d s):=by
 unfold FX;split
 .exact h
 .rename_i hm;have h1:=jo s.1 s.1.L;have h2:=sn s.1 s.1.L (by omega);have hl:(ER s.1 s.1.L).L<s.1.L:=by omega
  have h3:=h.LK _ (GA s.1 _ hl);refine⟨by simp[h.len],λx hx=>?_,?_,λp hp=>?_⟩
  .obtain h4|rfl:=List.mem_or_eq_of_mem_set hx
   .exact h.LK x h4
   .omega
  .have h4:=h.count;show(s.1.Lo _ _).LE+((s.2++[((d:Int),ER s.1 s.1.L)]).L:Nat)<=160;rw[wW _ _ _ hl,B4];simp only[AX,Bc,Int.natCast_add];omega
  .obtain h4|h4:=BH.1 hp
   .exact h.night p h4
   .simp only[AT,AQ,or_false] at h4;subst h4;have:=h.len;show(0:Int)<=d/\(d:Int)<n/\_/\_;omega
def Hf.it {c:Ek}{n:Nat}{s:List Int×List (Int×Int)}{d:Nat}(hd:d<n)(h:Hf c n s)(m:Nat):Hf c n (EP d s m):=by
 induction m with
 |zero=>exact h
 |succ m ih=>exact ih.step hd
def Hf.all {c:Ek}(hc:c.Ok){r:E2}{ws:List Int}{n:Nat}(hn:ws.L<=n)(k:Nat)(hk:k<=ws.L):Hf c n (Eu c r ws k):=by
 induction k with
 |zero =>
  refine⟨by simp[Eu],λx hx=>?_,?_,λp hp=>by simp[Eu] at hp⟩
  .simp only[Eu,Bu] at hx;obtain⟨h,hh,rfl⟩:=hx;have:=hc.heads h hh;omega
  .have := Hx 1 40 (c.D8.map (·.heads)) fun x hx => by
    simp only[Bu] at hx;obtain⟨h,hh,rfl⟩:=hx;exact hc.heads h hh
   have h4:=hc.h4;simp only[Eu,Bc,BD] at *;omega
 |succ k ih=>exact(ih (by omega)).it (by omega) _
def dz {c:Ek}(hc:c.Ok)(r:E2)(ws:List Int):Hf c ws.L (Eu c r ws ws.L):=Hf.all hc (AK _) _ (AK _)
def cX {c:Ek}(hc:c.Ok)(r:E2)(ws:List Int):(ET c r ws).L<=160:=by
 have h:=dz hc r ws;have h1:=Hx 0 40 _ h.LK;have h2:=h.count;unfold ET;omega
def Kr (p:Int)(on:List Int)(h:Int):Nat->Int
 |0=>0
 |k+1=>Kr p on h k+if on[k]?.LH 0=h then p / on.L+(if(k:Int)<p % on.L then 1 else 0) else 0
def nj {p:Int}(hp:0<=p/\p<=99)(on:List Int)(h:Int)(k:Nat):0<=Kr p on h k/\Kr p on h k<=100*k:=by
 induction k with
 |zero=>simp[Kr]
 |succ k ih =>
  have h1:0<=p / (on.L:Int):=Dn hp.1 (by omega);have h2:p / (on.L:Int)<=p:=Int.ediv_le_self _ hp.1;unfold Kr;split
  .split<;>omega
  .omega
def Gu (p:Int)(r:E2)(ls:List (Int×Int))(h t:Nat):Nat->Int
 |0=>0
 |k+1=>Gu p r ls h t k+if(ls[k]?.LH (0,0)).2=t/\h≠t then Kr p (wl (r (ls[k]?.LH (0,0)).1.L)) h (wl (r (ls[k]?.LH (0,0)).1.L)).L else 0
def nk {p:Int}(hp:0<=p/\p<=99)(r:E2)(ls:List (Int×Int))(h t:Nat)(k:Nat):0<=Gu p r ls h t k/\Gu p r ls h t k<=400*k:=by
 induction k with
 |zero=>simp[Gu]
 |succ k ih =>
  have h1:=nj hp (wl (r (ls[k]?.LH (0,0)).1.L)) h (wl (r (ls[k]?.LH (0,0)).1.L)).L;have h2:=dH (r (ls[k]?.LH (0,0)).1.L);unfold Gu;split<;>omega
def Ld (n:Nat)(M:Nat->Nat->Int):List (List Int):=(bl n).map λh=>(bl n).map (M h)
def cQ (n:Nat)(M:Nat->Nat->Int):(Ld n M).L=n:=by simp[Ld]
def wX {n:Nat}{M:Nat->Nat->Int}{h:Nat}(hh:h<n):(Ld n M)[h]?=U ((bl n).map (M h)):=by simp[Ld,hh]
def GX (c:Ek)(r:E2)(p:Int)(ws:List Int):List (List Int):=Ld c.D8.L λh t=>Gu p r (ET c r ws) h t (ET c r ws).L
def Hg (M:List (List Int)):Nat->Nat->Int
 |0,_=>0
 |k+1,j=>Hg M k j-(if j=k then(M[k]?.LH []).LE else 0)+(M[k]?.LH [])[j]?.LH 0
def Kh (M:List (List Int)):List Int:=(bl M.L).map (Hg M M.L)
end Go.Sq
