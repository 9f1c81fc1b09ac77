/- What is proved: whatever the numbers, the law WolfRaids answers true. Conditions: none beyond the statement's own. -/
import Derived.Test.YtbnfgnhhfmmejaaGreatP09
import Derived.Deep.Matrix
import Derived.Conc.LeavingOf
set_option linter.all false
set_option maxHeartbeats 16000000
set_option maxRecDepth 1000000
open Go.Proofs.Tryz renaming prog->Y,underlying3->dr,underlying22->fu,func49->gR,func83->iv,func85->jk,func86->js,func149->j2,func151->j3,func3->lA,globals_size->l8,underlying25->mA,underlying29->ng,underlying27->nh,checked->np,underlying26->nx,func50->n4,func57->n5,func27->n9,func29->oh,f3->qf,func6->qq,func148->q9,func150->rk,f6->rK,func87->sS,func88->s3,func48->s4,func28->s7,func53->s8,ntmps3->tr
open Go.Value renaming slice->J,pointer->ak,int->bq,okWide->hZ,cells->s9
open Option renaming some->I,none->bb,bind_eq_some_iff->j1,bind_eq_bind->k9,pure_def->oq
open Bool renaming true->bc,false->cw
open Go renaming Value->bk,World->bl,Goroutine->cf,FuncId->cu,TypeId->dn,Frame->er,MemPlace->fW,Addr->j0,DataW->lx,Calls->l5,results_tmp->oo,Item->rr,Program->sw,callFunc->sA,Oper->s5
open Go.IntKind renaming i64->br
open List.range renaming loop->bs
open Go.Conc renaming G->bw,Good->kn,crowd->om,goes_go->qc,enter_at->ql,stepG_ret'->qo
open List renaming range->df,mem_append_right->ko,mem_append_left->kv,mapM_cons->q7,mapM_nil->q8
open Go.Obj renaming cells->ea
open Go.Frame renaming enter->eb,finish_at->eo
open Array renaming replicate->ed
open Go.DataW renaming Trod->ek,trod->fq,trod_int->gg,TrodAll->jx,trod_struct->mm
open Go.ChangeShapes renaming trodAll_cons->gB
open Go.CallKind renaming normal->gU
open Go.RowKit.Below renaming trod->ik
open Go.World renaming cell?->kp,setCell->lu,cells?->sy
open Option.some renaming injEq->l9,inj->tz
open Array renaming getD->Array.LH,setIfInBounds->Array.L,toList->Array.LK
open Eq renaming symm->Eq.LH
open False renaming elim->False.S
open Go renaming underlying->Go.LH
open Go.Addr renaming block->Go.Addr.LE
open Go.CallKind renaming deferred->Go.CallKind.S,normal->Go.CallKind.L
open Go.Calls renaming mono->Go.Calls.LT
open Go.Code renaming block->Go.Code.LE,region->Go.Code.L
open Go.Conc.Good renaming mono->Go.Conc.Good.LT
open Go.Ending renaming returned->Go.Ending.L
open Go.Exit renaming normal->Go.Exit.L
open Go.GoStatus renaming running->Go.GoStatus.L
open Go.Goroutine renaming frame->Go.Goroutine.L
open Go.Instr renaming alloc->Go.Instr.LK
open Go.MemPlace renaming block->Go.MemPlace.LE
open Go.Obj renaming deferred->Go.Obj.S
open Go.Op renaming alloc->Go.Op.LK
open Go.Oper renaming dst->Go.Oper.L
open Go.Program renaming cellsOf->Go.Program.LT,funcs->Go.Program.L,underlying->Go.Program.LH
open Go.RowKit.Below renaming block->Go.RowKit.Below.LE,frame->Go.RowKit.Below.L
open Go.TypeDesc renaming pointer->Go.TypeDesc.S
open Go.Value renaming pointer->Go.Value.S
open Go.World renaming alloc->Go.World.LK,cell?->Go.World.S,frozen?->Go.World.O,heap->Go.World.L,setCell->Go.World.LH
open List renaming contains->List.H,getD->List.LH,length->List.L,take->List.LT,toArray->List.LK
open Nat renaming below->Nat.Li
open Option renaming getD->Option.LH,isNone->Option.L
open Or renaming elim->Or.S
open String renaming toList->String.LK
namespace Go.Sq
open Go.Proofs
open Go.RowKit Go.EB Go.Co Go.Conc
abbrev J0:=List (Nat×List bk×dn)
def zB (o:J0)(b:Nat):Bool:=o.any λp=>p.1==b
def Ip {o:J0}{b:Nat}(h:zB o b=bc):∃p∈o,p.1=b:=by
 obtain⟨p,h1,h2⟩:=Df.1 h;exact⟨p,h1,by simpa using h2⟩
def jZ {o:J0}{p:Nat×List bk×dn}(h:p∈o):zB o p.1=true:=Df.2 ⟨p,h,by simp⟩
def bj {o e:J0}{b:Nat}:zB (o++e) b=(zB o b||zB e b):=List.any_append ..
def Sg:List FuncId:=QD++[83,85,86,128,129,149,150,151]
def LI (f:cu):Bool:=Sg.H f
def OP (f:cu):Bool:=LI f&&!(f==83||f==85||f==86||f==149||f==151)
def pj:Nl OP:=by
 refine⟨λf hf=>?_,by decide,by decide⟩;have:QD.all OP=true:=by decide
 exact mL this f hf
def pk:∀f,MW f=bc->OP f=true:=λf hf=>by
 have:RD.all OP=true:=by decide
 exact kP this f hf
def IK (W:bl)(o:J0):Prop:=∀p∈o,∃f,W.L[p.1]?=I (.cells p.2.1.LK p.2.2 f)
structure F5 (w:bl)(co ex:J0)(tb cb sb cap:Nat)(nA hA:Option j0)(nc F:Nat)(fc:List bk)(oK oE:Obj):Prop where
 obj:∀p∈co++ex,w.L[p.1]?=I (.cells p.2.1.LK p.2.2 (0,0))
 Jz:w.L[tb]?=I oK
 Pz:Hw oK/\Hw oE
 nt:zB (co++ex) tb=cw
 Rl:∀p∈co,∀v∈p.2.1,∀(SB:cu->Bool) (H:Hid),Fo SB H (λb=>zB co b=bc) v
 RF:∀p∈ex,∀v∈p.2.1,∀(SB:cu->Bool) (H:Hid),SB 53=bc->Fo SB H (λb=>zB (co++ex) b=bc) v
 RG:∀v∈fc,∀(SB:cu->Bool) (H:Hid),Fo SB H (λb=>zB (co++ex) b=bc\/b=tb) v
 sF:Kn F=bc/\LI F=bc
 cF:∀(x:Array bk) (w:bl),(sA F x).run D7 w=.ok (.enter F x) w
 PS:zB co cb=bc
 QN:zB co sb=bc
 Gs:∀W:bl,IK W co->Gk W (λb=>zB co b=bc) cb Ew (EN 3) nA hA nc 3 sb cap
abbrev NV (co ex:J0):Nat->Bool:=zB (co++ex)
abbrev Lb (tb:Nat):Nat->Bool:=λb=>b==tb
def Ql (kx tl:Nat->Bool)(w:bl)(cb:Nat)(p1:bk)(w':bl):Prop:=∀b,MG kx tl w b->w'.L[b]?=(GR kx tl w cb p1).L[b]?
section
variable {w:bl} {co ex:J0} {tb cb sb cap:Nat} {nA hA:Option j0} {nc F:Nat} {fc:List bk} {oK oE:Obj}
def F5.lt (S:F5 w co ex tb cb sb cap nA hA nc F fc oK oE){b:Nat}(h:NV co ex b=bc\/Lb tb b=bc):b<w.L.size:=by
 obtain h|h:=h
 .obtain⟨p,h1,rfl⟩:=Ip h;exact(AJ.1 (S.obj p h1)).1
 .have:b=tb:=by simpa using h
  subst this;exact(AJ.1 S.Jz).1
def F5.at_ (S:F5 w co ex tb cb sb cap nA hA nc F fc oK oE){p1:bk}{w':bl}(h:Ql (NV co ex) (Lb tb) w cb p1 w') :
  (∀p∈co++ex,w'.L[p.1]?=I (.cells p.2.1.LK p.2.2 (0,p.2.1.LK.size)))/\w'.L[tb]?=I (.coro bb)/\w'.L[w.L.size]?=I (.coro bb) /\
   w'.L[w.L.size+1]?=I (ea #[.S (I ⟨cb,0,bb⟩)] 75 (0,1))/\w'.L[w.L.size+2]?=I (ea #[p1] 99 (0,1)):=by
 refine⟨λp hp=>?_,?_,?_,?_,?_⟩
 .have hk:NV co ex p.1=true:=jZ hp;have hl:=S.lt (.inl hk);have ht:Lb tb p.1=false:=by
   cases hc:Lb tb p.1 with
   |false=>rfl
   |true =>
    have:p.1=tb:=by simpa using hc
    have h2:=S.nt;rw[<-this] at h2;rw[show zB (co++ex) p.1=bc from hk] at h2;cases h2
  rw[h _ (.inl hk),bu,AN (by omega),AN (by omega),AN (by omega),gh (S.obj p hp) hk ht]
 .have hl:=S.lt (b:=tb) (.inr (by simp));rw[h _ (.inr (.inl (by simp))),bu,AN (by omega),AN (by omega),AN (by omega),kN hl (by simp)]
 .rw[h _ (.inr (.inr (.inl rfl))),bu,AN (by omega),AN (by omega),AP rfl]
 .rw[h _ (.inr (.inr (.inr (.inl rfl)))),bu,AN (by omega),AP rfl]
 .rw[h _ (.inr (.inr (.inr (.inr rfl)))),bu,AP rfl]
def cell_of {W:bl}{b:Nat}{l:Array bk}{t:dn}{f:Nat×Nat}(h:W.L[b]?=I (.cells l t f))(i:Nat):W.S ⟨b,i,bb⟩=l[i]?:=by
 unfold kp;simp only[h]
 rfl
def F5.sees (S:F5 w co ex tb cb sb cap nA hA nc F fc oK oE){p1:bk}{w':bl}(h:Ql (NV co ex) (Lb tb) w cb p1 w'):IK w' (co++ex):=λp hp=>⟨_,(S.at_ h).1 p hp⟩
def IK.left {W:bl}{o e:J0}(h:IK W (o++e)):IK W o:=λp hp=>h p (kv _ hp)
def Ae:∀i:Nat,i<8->IntKind.i64.wrap ((i:Int)+1)=((i+1:Nat):Int):=by decide
def Af (i:Nat)(hi:i<8):(EN 3)[i]?=I (Gy i):=by
 have:∀i,i<8->(EN 3)[i]?=I (Gy i):=by decide
 exact this i hi
def kS (x:Nat)(j:Nat)(hj:j<5):(#[.int .u8 (x:Int),.int .u8 0,.int .u8 0,.int .u8 0,.int .u8 0]:Array bk)[j]?=I (.int .u8 (FT x j:Nat)):=by
 match j,hj with
 |0,_=>rfl
 |1,_=>rfl
 |2,_=>rfl
 |3,_=>rfl
 |4,_=>rfl
def F5.KU (S:F5 w co ex tb cb sb cap nA hA nc F fc oK oE){p1:bk}{w':bl}(h:Ql (NV co ex) (Lb tb) w cb p1 w')(i:Nat)(hi:i<8)(τ:Tape)(d:Nat) :
  l5 D7 82 #[.S (I ⟨cb,0,bb⟩),.S (I ⟨w'.L.size,0,bb⟩),bq br 0] (on (w'.LK (first (Gy i))) τ d) (λe w2=>∃v,e=.L v/\((∃y1 y2,v=.agg #[bq br (OO i),bq br y1,bq br y2])/\Ext (w'.LK (first (Gy i))) w2)):=by
 have hold:∀b,b<w'.L.size->(on (w'.LK (first (Gy i))) τ d).L[b]?=w'.L[b]?:=λb hb=>aa w' _ hb;have hs:IK (on (w'.LK (first (Gy i))) τ d) co:=λp hp=>by
  obtain⟨f,hf⟩:=(S.sees h).left p hp;exact⟨f,(hold _ (AJ.1 hf).1).trans hf⟩
 have hr:Hn (on (w'.LK (first (Gy i))) τ d) (on (w'.LK (first (Gy i))) τ d).L.size w'.L.size (FT (Gy i)):=by
  refine⟨by show _<(w'.LK _).L.size;rw[aM];omega,λj hj=>?_⟩;exact(cell_of (W:=w'.LK (first (Gy i))) (l:=#[.int .u8 (Gy i:Int),.int .u8 0,.int .u8 0,.int .u8 0,.int .u8 0]) (t:=97) (f:=(0,0)) (gH w' (Gy i)) j).trans (kS _ j hj)
 refine(oQ cb w'.L.size 0 Ew (FT (Gy i)) _ (S.Gs _ hs).Ou hr (Ek.Ok.of iO) (by decide) (gK i hi)).LT ?_;rintro e w2 ⟨rfl,hg⟩;exact⟨_,rfl,⟨_,_,rfl⟩,hg.size,λb hb=>hg.Li.LE b hb,hg.Li.os⟩
def kT {o:Obj}(h:Hw o){S:FO}{Ck:Code->Prop}{β:Ey}:Fb S Ck β o o:=by
 obtain⟨l,t,f,rfl,hl⟩:=h;refine .cells ⟨rfl,λi v V h1 h2=>?_⟩ λi h1 h2=>⟨h1,h2⟩;rw[h1] at h2;cases h2;cases hl v (By (by simpa using h1)) with
 |bool b=>exact .bool b
 |int k n=>exact .int k n
def OQ (co ex:J0)(tb n r:Nat)(b:Nat):Prop:=zB (co++ex) b=bc\/b=tb\/b=n\/b=n+1\/b=n+2\/b=r
def nd (S:F5 w co ex tb cb sb cap nA hA nc F fc oK oE){p1:bk}{w' W:bl}(h:Ql (NV co ex) (Lb tb) w cb p1 w')(Jj:∀(H:Hid),Fo Kn H (λb=>zB (co++ex) b=bc\/b=tb) p1){x:Nat}{r:Nat}(hr:w'.L[r]?=I (ea #[.int .u8 (x:Int),.int .u8 0,.int .u8 0,.int .u8 0,.int .u8 0] 97 (0,5)))
  (hW:∀b,b≠tb->W.L[b]?=w'.L[b]?) {H:Hid} (hH:∀b,H b=cw->b≠w.L.size/\(b=tb->W.L[tb]?=I oK)) :
  ∀b,OQ co ex tb w.L.size r b->H b=cw->∃o,W.L[b]?=I o/\Fb (SP Kn H) (CK D7 Kn cw) (E0 (OQ co ex tb w.L.size r)) o o:=by
 obtain⟨a1,a2,a3,a4,a5⟩:=S.at_ h;have nt:∀b,zB (co++ex) b=bc->b≠tb:=λb hb e=>by
  have:=S.nt;rw[<-e,hb] at this;cases this
 intro b hb hHb;obtain⟨h1,h2⟩:=hH b hHb;by_cases a6:b=tb
 .subst a6;exact⟨oK,h2 rfl,kT S.Pz.1⟩
 obtain hb|hb|hb|hb|hb|hb:=hb
 .obtain⟨p,hp,rfl⟩:=Ip hb;refine⟨_,(hW _ a6).trans (a1 p hp),.cells (Fs λv hv=>?_) λi z1 z2=>⟨z1,z2⟩⟩;obtain hp|hp:=BH.1 hp
  .exact(S.Rl p hp v hv Kn H).LT λc hc=>.inl (by rw[bj];simp[hc])
  .exact(S.RF p hp v hv Kn H (by decide)).LT λc hc=>.inl hc
 .exact AS hb a6
 .exact AS hb h1
 .subst hb;refine⟨_,(hW _ a6).trans a4,.cells (Fs (l:=[.S (I ⟨cb,0,bb⟩)]) λv hv=>?_) λi z1 z2=>⟨z1,z2⟩⟩;simp only[AT,AQ,or_false] at hv;subst hv;exact Fo.ptr (.inl (by rw[bj];simp[S.PS])) _ _
 .subst hb;refine⟨_,(hW _ a6).trans a5,.cells (Fs (l:=[p1]) λv hv=>?_) λi z1 z2=>⟨z1,z2⟩⟩;simp only[AT,AQ,or_false] at hv;subst hv;exact(Jj H).LT λc hc=>hc.S .inl λh=>.inr (.inl h)
 .subst hb;refine⟨_,(hW _ a6).trans hr,.cells (Fs (l:=[.int .u8 (x:Int),.int .u8 0,.int .u8 0,.int .u8 0,.int .u8 0]) λv hv=>?_) λi z1 z2=>⟨z1,z2⟩⟩;simp only[AT,AQ,or_false] at hv;rcases hv with rfl|rfl|rfl|rfl|rfl<;>exact Ee.int _ _
def vC (S:F5 w co ex tb cb sb cap nA hA nc F fc oK oE)(H:Hid):Fo Kn H (λb=>zB (co++ex) b=bc\/b=tb) (.func (.func F) #[] fc.LK):=Fo.func S.sF.1 λv hv=>S.RG v hv Kn H
def r8 (S:F5 w co ex tb cb sb cap nA hA nc F fc oK oE){w':bl}(h:Ql (NV co ex) (Lb tb) w cb (.func (.func F) #[] fc.LK) w'){i:Nat}(hi:i<8)(hnone:E4 Ew (EN 3) 2 (FT (Gy i)) 1=[]){r:Nat}(zT:¬MG (NV co ex) (Lb tb) w r)
  (hr:w'.L[r]?=I (ea #[.int .u8 (Gy i:Int),.int .u8 0,.int .u8 0,.int .u8 0,.int .u8 0] 97 (0,5))) :
  E5 Y OP (JN Y w.L.size λ_=>True) 0 (bw (eb Y 84 (bT (w.L.size+1) (w.L.size+2) w.L.size r) .S) [bad]) w':=by
 obtain⟨a1,a2,a3,a4,a5⟩:=S.at_ h;have l2:w.L.size+2<w'.L.size:=(AJ.1 a5).1;have ltb:tb<w.L.size:=S.lt (.inr (by simp));have hid:∀b,(⟨λb=>b==w.L.size||b==tb,bc,cw⟩:Hid) b=bc->b=w.L.size\/b=tb:=λb hb=>by simpa using hb
 refine mS (H:=⟨λb=>b==w.L.size||b==tb,bc,cw⟩) (T0:=λ_=>False) pj (hn:=rfl) (K0:=OQ co ex tb w.L.size r) ⟨.inr (.inr (.inr (.inl rfl))),.inr (.inr (.inr (.inr (.inl rfl)))),.inr (.inr (.inl rfl)),.inr (.inr (.inr (.inr (.inr rfl))))⟩
  (λb _ hb=>⟨rfl,by obtain rfl|rfl:=hid b hb;exact a3;exact a2⟩) (λb hb=>by rcases hid b hb with rfl|rfl<;>omega)
  (nd S h (vC S) hr (λ_ _=>rfl) λb hb=>?_) (λτ d=>?_) (λ_ _ _ _=>trivial)
 .have hb':(b==w.L.size||b==tb)=false:=hb;simp only[CI,beq_eq_false_iff_ne] at hb';exact⟨hb'.1,λe=>AS e hb'.2⟩
 .have := oS (T0 := fun _ => False) (K := fun b => zB co b = bc) (cb := cb) (c := Ew) (sets := EN 3) (b2 := w.L.size + 1) (b3 := w.L.size + 2) (b4 := w.L.size) (rb := r) (F := F) (k := 2) (fc := fc.LK) (r := FT (Gy i)) (w := on w' τ d)
   (Ek.Ok.of iO) jn (by decide) (S.Gs (on w' τ d) (S.sees h).left) (λ_ hb=>hb.S) (λ_ _ hb=>hb) (gK i hi) (λj hj=>by unfold FT;rw[AN (by omega)]) rfl
   (cell_of (W:=on w' τ d) a4 0) (λj hj=>(cell_of (W:=on w' τ d) hr j).trans (kS _ j hj)) (cell_of (W:=on w' τ d) a5 0) ⟨l2,λhb=>hb⟩
   (λpre _=>pre=[]) (λ_ _ _ hp _=>hp) rfl S.cF (λpre ρ W a6 _ _=>by
    rw[hnone] at a6;have:=a6.length_le
    simp at this)
  refine Go.wp_mono this ?_;rintro e a' w2 ⟨he,h1,_,D,h2,h3,h4⟩;exact⟨he,h1,trivial,D,h2,h3,h4⟩
def r9 (S:F5 w co ex tb cb sb cap nA hA nc F fc oK oE){w':bl}(h:Ql (NV co ex) (Lb tb) w cb (.func (.func F) #[] fc.LK) w'){i:Nat}(hi:i<8){aA:E2}(aB:E4 Ew (EN 3) 2 (FT (Gy i)) 1=[aA]){r:Nat}(zT:¬MG (NV co ex) (Lb tb) w r)
  (hr:w'.L[r]?=I (ea #[.int .u8 (Gy i:Int),.int .u8 0,.int .u8 0,.int .u8 0,.int .u8 0] 97 (0,5)))
  (aF:∀W:bl,W.L[tb]?=I oK->IK W ex->l5 D7 F (#[E6 aA]++fc.LK) W λe W'=>e=.L (.tuple #[])/\KT (λb=>b=tb) W W'/\W'.L[tb]?=I oE) :
  E5 Y OP (JN Y w.L.size λw2=>∀b,Lb tb b=bc->w2.L[b]?=I oE) 0 (bw (eb Y 84 (bT (w.L.size+1) (w.L.size+2) w.L.size r) .S) [bad]) (H7 (Lb tb) (λ_=>oK) w'):=by
 obtain⟨a1,a2,a3,a4,a5⟩:=S.at_ h;have l2:w.L.size+2<w'.L.size:=(AJ.1 a5).1;have ltb:tb<w.L.size:=S.lt (.inr (by simp));obtain⟨W0,zM⟩:∃W0,W0=H7 (Lb tb) (λ_=>oK) w':=⟨_,rfl⟩;have g0:∀b,b<w'.L.size->W0.L[b]?=if Lb tb b then I oK else w'.L[b]?:=λb hb=>by rw[zM];exact bY _ _ _ _ hb
 have a6:∀b,b≠tb->W0.L[b]?=w'.L[b]?:=λb hb=>by
  by_cases hl:b<w'.L.size
  .rw[g0 b hl,AN (by simpa using hb)]
  .rw[Cz (show W0.L.size<=b by rw[zM,bX];omega),Cz (by omega)]
 have gtb:W0.L[tb]?=I oK:=by rw[g0 tb (by omega),AP (by simp)]
 have gsz:W0.L.size=w'.L.size:=by rw[zM,bX]
 rw[<-zM];have nt:∀b,zB (co++ex) b=bc->b≠tb:=λb hb e=>by
  have:=S.nt;rw[<-e,hb] at this;cases this
 have rne:r≠tb:=λe=>zT (.inr (.inl (by simp[e])));have a8:IK W0 (co++ex):=λp hp=>⟨_,(a6 _ (nt _ (jZ hp))).trans (a1 p hp)⟩;have aC:∀b,OQ co ex tb w.L.size r b->(⟨λb=>b==w.L.size,bc,cw⟩:Hid) b=bc->(⟨λb=>b==w.L.size,bc,cw⟩:Hid).Fg=bc/\W0.L[b]?=I (.coro bb):=λb _ hb=>by
  have e:b=w.L.size:=by simpa using hb
  refine⟨rfl,?_⟩;rw[e,a6 _ (by omega)];exact a3
 have aD:∀b,(⟨λb=>b==w.L.size,bc,cw⟩:Hid) b=bc->b<W0.L.size:=λb hb=>by
  have e:b=w.L.size:=by simpa using hb
  omega
 refine mS (H:=⟨λb=>b==w.L.size,bc,cw⟩) (T0:=λb=>b=tb) pj (hn:=rfl) (K0:=OQ co ex tb w.L.size r) ⟨.inr (.inr (.inr (.inl rfl))),.inr (.inr (.inr (.inr (.inl rfl)))),.inr (.inr (.inl rfl)),.inr (.inr (.inr (.inr (.inr rfl))))⟩
  aC aD
  (nd S h (vC S) hr a6 λb hb=>⟨by simpa using hb,λ_=>gtb⟩) (λτ d=>?_) (λW W' hW hk b hb=>?_)
 .have := oS (T0 := fun b => b = tb) (K := fun b => zB co b = bc) (cb := cb) (c := Ew) (sets := EN 3) (b2 := w.L.size + 1) (b3 := w.L.size + 2) (b4 := w.L.size) (rb := r) (F := F) (k := 2) (fc := fc.LK) (r := FT (Gy i)) (w := on W0 τ d)
   (Ek.Ok.of iO) jn (by decide) (S.Gs (on W0 τ d) a8.left) (λb hb=>by show b<W0.L.size;omega) (λb hb=>nt b (by rw[bj];simp[hb])) (gK i hi) (λj hj=>by unfold FT;rw[AN (by omega)]) rfl
   (cell_of (W:=on W0 τ d) ((a6 _ (by omega)).trans a4) 0) (λj hj=>(cell_of (W:=on W0 τ d) ((a6 _ rne).trans hr) j).trans (kS _ j hj)) (cell_of (W:=on W0 τ d) ((a6 _ (by omega)).trans a5) 0) ⟨by show _<W0.L.size;omega,by omega⟩
   (λpre W=>W.L[tb]?=I (if pre=[] then oK else oE)) (λpre W W' hp hk=>(hk tb rfl).trans hp) gtb S.cF (λpre ρ W a7 aG hI=>by
    rw[aB] at a7;have hl:=a7.length_le;have hp:pre=[]:=by cases pre with
     |nil=>rfl
     |cons a l=>simp at hl
    subst hp;have aH:ρ=aA:=by
     obtain⟨t,ht⟩:=a7;simp at ht;exact ht.1
    subst aH;have hex:IK W ex:=λp hp=>by
     obtain⟨f,hf⟩:=a8 p (ko _ hp);have zC:=(AJ.1 hf).1
     exact⟨f,(aG.LE p.1 zC (by
      rintro(e|e)
      .exact nt _ (jZ (ko co hp)) e
      .have e':W0.L.size<=p.1:=e
       omega)).trans hf⟩
    refine(aF W hI hex).LT ?_;rintro e W' ⟨h1,h2,h3⟩
    exact⟨h1,h2,h3⟩)
  refine Go.wp_mono this ?_;rintro e a' w2 ⟨he,h1,hI,D,h2,h3,h4⟩;rw[aB] at hI
  exact⟨he,h1,λb hb=>by
   have e:b=tb:=by simpa using hb
   rw[e];exact hI,D,h2,h3,h4⟩
 .have e:b=tb:=by simpa using hb
  rw[e,hk tb rfl];exact hW tb (by simp)
end
def wO {p:Nat->Bool}(h:Sg.all p=bc):∀f,LI f=bc->p f=true:=λf hf=>(BO.1 h) f (by simpa [LI] using hf)
def PC (f:cu):Bool:=f==87||f==88||f==148||f==150
def Rm (f:cu):Bool:=f==83||f==85||f==86||f==149||f==151
def yG:Sg.all (λf=>JV Y LI bc f||PC f||Rm f)=true:=by kernel_rfl
def vD {f:cu}(h:PC f=bc):LZ PP f:=by
 unfold PC at h;simp only[Bq,beq_iff_eq] at h;obtain((rfl|rfl)|rfl)|rfl:=h
 .exact⟨Tryz.f87,_,sS,sS,by kernel_rfl,by kernel_rfl,by kernel_rfl,by kernel_rfl,.add br,by kernel_rfl⟩
 .exact⟨Tryz.f88,_,s3,s3,by kernel_rfl,by kernel_rfl,by kernel_rfl,by kernel_rfl,.load br,by kernel_rfl⟩
 .exact⟨Tryz.f148,_,q9,q9,by kernel_rfl,by kernel_rfl,by kernel_rfl,by kernel_rfl,.FQ .i32 (by decide),by kernel_rfl⟩
 .exact⟨Tryz.f150,_,rk,rk,by kernel_rfl,by kernel_rfl,by kernel_rfl,by kernel_rfl,.add .i32,by kernel_rfl⟩
def Ag {P:EK}(f:cu)(hf:aP LI f=bc):Jb P f:=by
 unfold aP at hf;have h:LI 85=true:=by decide
 rw[h,Bool.not_true,Cs,Cs] at hf;cases hf
def PV (H:Hid):Lib PP LI H bc OP 0:=by
 refine iM (λf hf=>?_) (λf hf hb=>?_) (λf hf=>?_) Ag ⟨BJ l8,Tryz.LB⟩
 .simp only[OP,AY,B9] at hf;have:=wO yG f hf.1;have a6:Rm f=false:=hf.2;simp only[a6,Di,Bq] at this;obtain h|h:=this
  .exact .inl ⟨h,rfl⟩
  .exact .inr (vD h)
 .simp only[OP,hf,Cm,CE,Bq,beq_iff_eq] at hb;obtain(((rfl|rfl)|rfl)|rfl)|rfl:=hb
  .exact⟨_,_,iv,iv,rfl,by decide,by decide,rfl,rfl⟩
  .exact⟨_,_,jk,jk,rfl,by decide,by decide,rfl,rfl⟩
  .exact⟨_,_,js,js,rfl,by decide,by decide,rfl,rfl⟩
  .exact⟨_,_,j2,j2,rfl,by decide,by decide,rfl,rfl⟩
  .exact⟨_,_,j3,j3,rfl,by decide,by decide,rfl,rfl⟩
 .simp only[OP,AY] at hf;exact hf.1
section
variable {w:bl} {co ex:J0} {tb cb sb cap:Nat} {nA hA:Option j0} {nc F:Nat} {fc:List bk} {oK oE:Obj}
def Ah:codeOk Y LI bc bc (.L 9 o9 cw)=true:=by kernel_rfl
def yH:codeOk Y LI bc bc (.L 10 Kv cw)=true:=by kernel_rfl
def Ai:codeOk Y LI bc bc eL=true:=by kernel_rfl
def Aj:o8.all (cy Y LI bc bc)=true:=by kernel_rfl
def Nt (S:F5 w co ex tb cb sb cap nA hA nc F fc oK oE){a6:E2}(a7:E4 Ew (EN 3) 2 (FT (Gy 1)) 1=[a6])
  (a8:∀W:bl,W.L[tb]?=I oK->IK W ex->l5 D7 F (#[E6 a6]++fc.LK) W λe W'=>e=.L (.tuple #[])/\KT (λb=>b=tb) W W'/\W'.L[tb]?=I oE) :
  Jo LI MW OP w (NV co ex) (Lb tb) (λb=>zB co b=bc) (Ql (NV co ex) (Lb tb) w cb (.func (.func F) #[] fc.LK)) cb sb 8 cap (.func F) #[] fc.LK (λi=>(Gy i:Int)) OO (λi=>decide (i<=1)) (λ_=>oK) (λ_=>oE) where
 hB:=by decide
 MF:=by decide
 QK:=by decide
 QL:=by decide
 L0:=yC pk
 b0:=pk
 QM:=by decide
 todo:=λH K=>.cons (.inRegion Aj) (.cons (.inBlock 1) (.cons (.code Ah) (.cons (.inLoop Ai) (.cons (.inBlock 0) (.cons (.code yH) .nil)))))
 only:=λw1 w2 h _ aA b hb=>(h b hb).trans (aA b hb)
 ok:=λb hb=>rfl
 NU:=λw' h=>cell_of (S.at_ h).2.2.2.1 0
 hold:=λw' h=>⟨(S.Gs w' (S.sees h).left).c2,_,(S.Gs w' (S.sees h).left).c0⟩
 KS:=λw' i h hi=>(S.Gs w' (S.sees h).left).sets i _ (Af i hi)
 Gs:=λw' b h hb=>by
  obtain⟨p,hp,rfl⟩:=Ip hb;refine⟨by show zB (co++ex) p.1=bc;rw[bj];simp[hb],_,(S.at_ h).1 p (kv _ hp),.cells (Fs λv hv=>S.Rl p hp v hv MW Du) λi z1 z2=>⟨z1,z2⟩⟩
 cK:=S.PS
 ks:=⟨by show zB (co++ex) cb=bc;rw[bj];simp[S.PS],by show zB (co++ex) sb=bc;rw[bj];simp[S.QN]⟩
 QO:=λb hb=>by
  have ht:Lb tb b=false:=by
   cases hc:Lb tb b with
   |false=>rfl
   |true =>
    have e:b=tb:=by simpa using hc
    have h2:=S.nt;rw[<-e] at h2;rw[show zB (co++ex) b=bc from hb] at h2;cases h2
  obtain⟨p,hp,rfl⟩:=Ip hb;refine⟨ht,p.2.1,p.2.2,(0,0),S.obj p hp,λi h1 h2=>AS h2 (BI _),λv hv H=>?_⟩;obtain hp|hp:=BH.1 hp
  .exact(S.Rl p hp v hv LI H).LT λc hc=>.inl (by show zB (co++ex) c=bc;rw[bj];simp[hc])
  .exact(S.RF p hp v hv LI H (by decide)).LT λc hc=>.inl hc
 Ri:=λb hb=>by
  have e:b=tb:=by simpa using hb
  subst e;exact⟨S.Jz,S.Pz⟩
 Jj:=λH=>Fo.func S.sF.2 λv hv=>(S.RG v hv LI H).LT λc hc=>hc.S .inl λh=>.inr (by simp[h])
 wrap:=Ae
 KU:=λw' i h hi τ d=>S.KU h i hi τ d
 tp0:=rfl
 Rg:=λi hi hk=>by
  have h1:i≠1:=λe=>hk ((I1 i hi).2 (.inl e));show decide (i+1<=1)=decide (i<=1);by_cases h0:i=0
  .subst h0;rfl
  .rw[B2 (by omega),B2 (by omega)]
 which:=λi hi hk=>by
  obtain rfl|rfl:=(I1 i hi).1 hk
  .exact .inr ⟨rfl,rfl⟩
  .exact .inl rfl
 plain:=λi r w' hi hk ht h zT hr=>by
  obtain rfl|rfl:=(I1 i hi).1 hk
  .cases ht
  .exact r8 S h hi qp zT hr
 owner:=λi r w' hi hk ht ht1 h zT hr=>by
  obtain rfl|rfl:=(I1 i hi).1 hk
  .exact r9 S h hi a7 zT hr a8
  .cases ht
end
abbrev Lw:Go.Conc.Lib.WgLink:={ add:=83,done:=85,wait:=86,relMerge:=110,disable:=111,enable:=112,inBubble:=113,associate:=114,fatal:=115,uOr:=116,uAdd:=117,raceRead:=118,uLoad:=119,uStore:=120,disassociate:=121,semrelease:=122,acquire:=123,isAssociated:=124,uCas:=125,raceWrite:=126,semacquire:=127,orU64:=143,addU64:=144,loadU64:=145,storeU64:=146,casU64:=147,tWgP:=175,tUP:=177,tAssoc:=178,tWg:=148,tAU:=146,tU64:=66,tUint:=131,tU32:=105,tPU32:=182,tPAU:=201,tPU64:=203,tNoCopy:=104,tANoCopy:=92,tAlign64:=93 }
def PX:Go.Conc.Lib.WgLib Y Lw :=
 ⟨iv,jk,js,Tryz.func110,Tryz.func111,Tryz.func112,Tryz.func113,Tryz.func114,Tryz.func115,Tryz.func116,Tryz.func117,Tryz.func118,Tryz.func119,Tryz.func120,Tryz.func121,Tryz.func122,Tryz.func123,Tryz.func124,Tryz.func125,Tryz.func126,Tryz.func127,Tryz.func143,Tryz.func144,Tryz.func145,Tryz.func146,Tryz.func147,Tryz.underlying175,Tryz.runUnderlying175,Tryz.sizeOf175,Tryz.isAgg175,Tryz.zeroValue175,Tryz.underlying177,Tryz.runUnderlying177,Tryz.sizeOf177,Tryz.isAgg177,Tryz.zeroValue177,Tryz.underlying178,Tryz.runUnderlying178,Tryz.sizeOf178,Tryz.isAgg178,Tryz.zeroValue178,Tryz.underlying148,Tryz.runUnderlying148,Tryz.sizeOf148,Tryz.isAgg148,Tryz.zeroValue148,Tryz.underlying146,Tryz.runUnderlying146,Tryz.sizeOf146,Tryz.isAgg146,Tryz.zeroValue146,Tryz.underlying66,Tryz.runUnderlying66,Tryz.sizeOf66,Tryz.isAgg66,Tryz.zeroValue66,Tryz.underlying131,Tryz.runUnderlying131,Tryz.sizeOf131,Tryz.isAgg131,Tryz.zeroValue131,Tryz.underlying105,Tryz.runUnderlying105,Tryz.sizeOf105,Tryz.isAgg105,Tryz.zeroValue105,Tryz.underlying182,Tryz.runUnderlying182,Tryz.sizeOf182,Tryz.isAgg182,Tryz.zeroValue182,Tryz.underlying201,Tryz.runUnderlying201,Tryz.sizeOf201,Tryz.isAgg201,Tryz.zeroValue201,Tryz.underlying203,Tryz.runUnderlying203,Tryz.sizeOf203,Tryz.isAgg203,Tryz.zeroValue203,Tryz.underlying0,Tryz.runUnderlying0,Tryz.sizeOf0,Tryz.isAgg0,Tryz.zeroValue0,dr,Tryz.runUnderlying3,Tryz.sizeOf3,Tryz.isAgg3,Tryz.zeroValue3,Tryz.underlying4,Tryz.runUnderlying4,Tryz.sizeOf4,Tryz.isAgg4,Tryz.zeroValue4,Tryz.underlying9,Tryz.runUnderlying9,Tryz.sizeOf9,Tryz.isAgg9,Tryz.zeroValue9,Tryz.underlying20,Tryz.runUnderlying20,Tryz.sizeOf20,Tryz.isAgg20,Tryz.zeroValue20,Tryz.underlying21,Tryz.runUnderlying21,Tryz.sizeOf21,Tryz.isAgg21,Tryz.zeroValue21,(by kernel_rfl),(by kernel_rfl)⟩
def Nu:Go.Co.Barred PP LI bc Lw.add (Go.Conc.Lib.addFn Lw):=⟨_,iv,iv,rfl,by kernel_rfl⟩
def Mj:Go.Co.Barred PP LI bc Lw.wait (Go.Conc.Lib.waitFn Lw):=⟨_,js,js,rfl,by kernel_rfl⟩
def Mk:Go.Co.Barred PP LI bc Lw.done (Go.Conc.Lib.doneFn Lw):=⟨_,jk,jk,rfl,by kernel_rfl⟩
def Iq (bo:Nat):List Value:=[bq br 12,bq br 3,bq br 2,.slice bb 0 0,bq br 6,bq br 2,bq br 2,.slice (I ⟨bo,0,bb⟩) 1 1,bq br 6,bq br 1,bq br 1,.slice bb 0 0]
def Ml (bn bh sb cap:Nat):List Value:=[.slice (I ⟨bn,0,bb⟩) 3 3,.slice (I ⟨bh,0,bb⟩) 3 3,.slice (I ⟨sb,0,bb⟩) 8 cap]
def Ht:List Value:=[bq br 3,bq br 2,bq br 4]
def EO (bn bo bh cb sb cap:Nat)(cur:List bk)(t:dn):J0:=[(bn,Ht,3),(bo,[bq br 0],3),(bh,Iq bo,57),(cb,Ml bn bh sb cap,151),(sb,cur,t)]
section
variable {bn bo bh cb sb cap:Nat} {cur:List bk} {t:dn}
def Ff (b:Nat):zB (EO bn bo bh cb sb cap cur t) b=bc↔b=bn\/b=bo\/b=bh\/b=cb\/b=sb:=by
 simp only[zB,EO,List.any_cons,List.any_nil,Di,Bq,beq_iff_eq];constructor
 .rintro(h|h|h|h|h)<;>simp[h]
 .rintro(h|h|h|h|h)<;>simp[h]
def pm {W:bl}(h:IK W (EO bn bo bh cb sb cap cur t))(a6:∀(i x:Nat),(EN 3)[i]?=I x->cur[i]?=I (bq .u8 (x:Int))) :
  Gk W (λb=>zB (EO bn bo bh cb sb cap cur t) b=bc) cb Ew (EN 3) (I ⟨bn,0,bb⟩) (I ⟨bh,0,bb⟩) 3 3 sb cap:=by
 obtain⟨f1,h1⟩:=h (bn,Ht,3) (by simp[EO]);obtain⟨f2,h2⟩:=h (bo,[bq br 0],3) (by simp[EO]);obtain⟨f3,h3⟩:=h (bh,Iq bo,57) (by simp[EO]);obtain⟨f4,h4⟩:=h (cb,Ml bn bh sb cap,151) (by simp[EO]);obtain⟨f5,h5⟩:=h (sb,cur,t) (by simp[EO]);have hb:∀i:Nat,W.S ⟨bh,i,bb⟩=(Iq bo)[i]?:=λi=>(cell_of h3 i).trans (by simp);have hn:Ie W (λb=>zB (EO bn bo bh cb sb cap cur t) b=bc) (I ⟨bn,0,bb⟩) [3,2,4]:=λ_=>by
  refine⟨bn,0,rfl,(Ff _).2 (by simp),λi x hx=>?_⟩;rw[cell_of h1]
  match i,hx with
  |0,hx=>simp at hx;subst hx;rfl
  |1,hx=>simp at hx;subst hx;rfl
  |2,hx=>simp at hx;subst hx;rfl
  |k+3,hx=>simp at hx
 have ho:Ie W (λb=>zB (EO bn bo bh cb sb cap cur t) b=bc) (I ⟨bo,0,bb⟩) [0]:=λ_=>by
  refine⟨bo,0,rfl,(Ff _).2 (by simp),λi x hx=>?_⟩;rw[cell_of h2]
  match i,hx with
  |0,hx=>simp at hx;subst hx;rfl
  |k+1,hx=>simp at hx
 have hnil:Ie W (λb=>zB (EO bn bo bh cb sb cap cur t) b=bc) bb []:=λh=>AS rfl h;refine⟨λb a7=>?_,(Ff _).2 (by simp),cell_of h4 0,cell_of h4 1,cell_of h4 2,(Ff _).2 (by simp),λi x hx=>(cell_of h5 i).trans (by simpa using a6 i x hx),hn,λ_=>⟨bh,0,rfl,(Ff _).2 (by simp),λi x hx=>?_⟩⟩
 .obtain rfl|rfl|rfl|rfl|rfl:=(Ff _).1 a7
  .exact(AJ.1 h1).1
  .exact(AJ.1 h2).1
  .exact(AJ.1 h3).1
  .exact(AJ.1 h4).1
  .exact(AJ.1 h5).1
 .match i,hx with
  |0,hx=>simp[Ew,E1] at hx;subst hx;exact⟨hb _,hb _,hb _,bb,0,hb _,hnil⟩
  |1,hx=>simp[Ew,E1] at hx;subst hx;exact⟨hb _,hb _,hb _,_,1,hb _,ho⟩
  |2,hx=>simp[Ew,E1] at hx;subst hx;exact⟨hb _,hb _,hb _,bb,0,hb _,hnil⟩
  |k+3,hx=>simp[Ew,E1] at hx
def gL (a7:∀u∈cur,iB u):∀p∈EO bn bo bh cb sb cap cur t,∀v∈p.2.1,∀(SB:cu->Bool) (H:Hid),Fo SB H (λb=>zB (EO bn bo bh cb sb cap cur t) b=bc) v:=by
 intro p hp v hv SB H;have a6:Fo SB H (λb=>zB (EO bn bo bh cb sb cap cur t) b=bc) (.slice bb 0 0):=Ee.Hb 0 0;simp only[EO,AT,AQ,or_false] at hp;obtain rfl|rfl|rfl|rfl|rfl:=hp
 .simp only[Ht,AT,AQ,or_false] at hv;rcases hv with rfl|rfl|rfl<;>exact Ee.int _ _
 .simp only[AT,AQ,or_false] at hv;subst hv;exact Ee.int _ _
 .simp only[Iq,AT,AQ,or_false] at hv;rcases hv with rfl|rfl|rfl|rfl|rfl|rfl|rfl|rfl|rfl|rfl|rfl|rfl<;>first|exact Ee.int _ _|exact a6|exact Fo.slice ((Ff _).2 (by simp)) _ _ _ _
 .simp only[Ml,AT,AQ,or_false] at hv;rcases hv with rfl|rfl|rfl<;>exact Fo.slice ((Ff _).2 (by simp)) _ _ _ _
 .obtain⟨x,rfl⟩:=a7 v hv;exact Ee.int _ _
end
section
variable {bn bo bh cb sb cap:Nat} {cur:List bk} {t:dn} {w:bl}
structure Gm (w:bl)(bn bo bh cb sb cap:Nat)(cur:List bk)(t:dn):Prop where
 obj:∀p∈EO bn bo bh cb sb cap cur t,w.L[p.1]?=I (.cells p.2.1.LK p.2.2 (0,0))
 sets:∀(i x:Nat),(EN 3)[i]?=I x->cur[i]?=I (bq .u8 (x:Int))
 flat:∀u∈cur,iB u
def Gm.keep {w':bl}(h:Gm w bn bo bh cb sb cap cur t)(hk:∀b,zB (EO bn bo bh cb sb cap cur t) b=bc->w'.L[b]?=w.L[b]?):Gm w' bn bo bh cb sb cap cur t :=
 ⟨λp hp=>(hk _ (jZ hp)).trans (h.obj p hp),h.sets,h.flat⟩
def Gm.lt (h:Gm w bn bo bh cb sb cap cur t){b:Nat}(hb:zB (EO bn bo bh cb sb cap cur t) b=bc):b<w.L.size:=by
 obtain⟨p,hp,rfl⟩:=Ip hb;exact(AJ.1 (h.obj p hp)).1
abbrev JO (n:Int):Obj:=ea #[bq br n] 95 (0,0)
def Qm (n:Int):Hw (JO n):=⟨[bq br n],95,(0,0),rfl,λv hv=>by
 simp only[AT,AQ,or_false] at hv
 subst hv;exact .int _ _⟩
def NW (h:Gm w bn bo bh cb sb cap cur t){nb:Nat}(hn:w.L[nb]?=I (JO 0))(a6:zB (EO bn bo bh cb sb cap cur t) nb=cw) :
  F5 w (EO bn bo bh cb sb cap cur t) [] nb cb sb cap (I ⟨bn,0,bb⟩) (I ⟨bh,0,bb⟩) 3 50 [.S (I ⟨nb,0,bb⟩)] (JO 0) (JO 1) where
 obj:=λp hp=>h.obj p (by simpa using hp)
 Jz:=hn
 Pz:=⟨Qm 0,Qm 1⟩
 nt:=by rw[CM];exact a6
 Rl:=gL h.flat
 RF:=λp hp=>by cases hp
 RG:=λv hv SB H=>by
  simp only[AT,AQ,or_false] at hv;subst hv;exact Fo.ptr (.inr rfl) _ _
 sF:=⟨by decide,by decide⟩
 cF:=λx w=>by
  have h1:¬Tryz.f50.name = "runtime.NumGoroutine":=by decide
  simp[sA,Sq.fn n4 rfl,h1,Tryz.f50]
 PS:=(Ff _).2 (by simp)
 QN:=(Ff _).2 (by simp)
 Gs:=λW hW=>pm hW h.sets
def OT (nb:Nat){ex:J0}(ρ:E2)(W:bl)(h:W.L[nb]?=I (JO 0))(_:IK W ex) :
  l5 D7 50 (#[E6 ρ]++[ak (I ⟨nb,0,bb⟩)].LK) W λe W'=>e=.L (.tuple #[])/\KT (λb=>b=nb) W W'/\W'.L[nb]?=I (JO 1) :=
 tK nb 0 1 ρ W h (by decide)
abbrev GU (b:Bool)(r:E2):Obj:=.cells (Jk 0 r b) 111 (0,0)
def OU (b:Bool)(r:E2):Hw (GU b r):=⟨(Jk 0 r b).LK,111,(0,0),by simp[Jk],λv hv=>by
 simp only[Jk,AT,AQ,or_false] at hv
 rcases hv with rfl|rfl|rfl|rfl|rfl|rfl|rfl|rfl<;>first|exact .int _ _|exact .bool _⟩
def Gd (xb qb cb:Nat):J0:=[(xb,[.func (.func 53) #[] #[.S (I ⟨qb,0,bb⟩)]],103),(qb,[.S (I ⟨cb,0,bb⟩)],75)]
def OV (h:Gm w bn bo bh cb sb cap cur t){kb xb qb:Nat}{ρ:E2}(hk:w.L[kb]?=I (GU cw λ_=>0))(hx:∀p∈Gd xb qb cb,w.L[p.1]?=I (.cells p.2.1.LK p.2.2 (0,0)))
  (a6:zB (EO bn bo bh cb sb cap cur t++Gd xb qb cb) kb=cw) :
  F5 w (EO bn bo bh cb sb cap cur t) (Gd xb qb cb) kb cb sb cap (I ⟨bn,0,bb⟩) (I ⟨bh,0,bb⟩) 3 57 [.S (I ⟨kb,0,bb⟩),.S (I ⟨xb,0,bb⟩)] (GU cw λ_=>0) (GU bc ρ) where
 obj:=λp hp=>(BH.1 hp).S (h.obj p) (hx p)
 Jz:=hk
 Pz:=⟨OU _ _,OU _ _⟩
 nt:=a6
 Rl:=gL h.flat
 RF:=λp hp v hv SB H h54=>by
  have hq:∀b,(b=xb\/b=qb)->zB (EO bn bo bh cb sb cap cur t++Gd xb qb cb) b=true:=λb hb=>by
   rw[bj];rcases hb with rfl|rfl<;>simp[zB,Gd]
  simp only[Gd,AT,AQ,or_false] at hp;obtain rfl|rfl:=hp
  .simp only[AT,AQ,or_false] at hv;subst hv;refine Fo.func (l:=[.S (I ⟨qb,0,bb⟩)]) h54 λv hv=>?_;simp only[AT,AQ,or_false] at hv;subst hv;exact Fo.ptr (hq _ (.inr rfl)) _ _
  .simp only[AT,AQ,or_false] at hv;subst hv;exact Fo.ptr (by rw[bj,(Ff cb).2 (by simp),Bool.true_or]) _ _
 RG:=λv hv SB H=>by
  simp only[AT,AQ,or_false] at hv;obtain rfl|rfl:=hv
  .exact Fo.ptr (.inr rfl) _ _
  .exact Fo.ptr (.inl (by rw[bj];simp[zB,Gd])) _ _
 sF:=⟨by decide,by decide⟩
 cF:=λx w=>by
  have h1:¬Tryz.f57.name = "runtime.NumGoroutine":=by decide
  simp[sA,Sq.fn n5 rfl,h1,Tryz.f57]
 PS:=(Ff _).2 (by simp)
 QN:=(Ff _).2 (by simp)
 Gs:=λW hW=>pm hW h.sets
def PD (kb xb qb cb:Nat)(ρ:E2)(W:bl)(h:W.L[kb]?=I (GU cw λ_=>0))(hs:IK W (Gd xb qb cb)) :
  l5 D7 57 (#[E6 ρ]++[ak (I ⟨kb,0,bb⟩),.S (I ⟨xb,0,bb⟩)].LK) W λe W'=>e=.L (.tuple #[])/\KT (λb=>b=kb) W W'/\W'.L[kb]?=I (GU bc ρ):=by
 obtain⟨f,hf⟩:=hs (xb,[.func (.func 53) #[] #[.S (I ⟨qb,0,bb⟩)]],103) (by simp[Gd]);exact vO kb xb ρ _ W (cell_of hf 0) (AJ.1 hf).1 h
end
attribute [local go_sem] Oper.semAt_some
noncomputable def cB:Code:=Tryz.f27.body.LH .skip
noncomputable def c5:Array Oper:=GD (aG (af (af (af (af cB)))))
noncomputable def x5:Code:=af (af (af (af (af cB))))
def vE {bn bo bh:Nat}{w:bl}{SB:cu->Bool}(hn:w.L[bn]?=I (.cells Ht.LK 3 (0,0)))(ho:w.L[bo]?=I (ea #[bq br 0] 3 (0,0)))(hh:w.L[bh]?=I (.cells (Iq bo).LK 57 (0,0))) :
  ∀b,(b=bn\/b=bo\/b=bh)->∃o,w.L[b]?=I o/\Fb (SP SB Du) (CK D7 SB cw) (E0 λb=>b=bn\/b=bo\/b=bh) o o:=by
 rintro b (rfl|rfl|rfl)
 .refine⟨_,hn,.cells (Fs λv hv=>?_) λi h1 h2=>⟨h1,h2⟩⟩;simp only[Ht,AT,AQ,or_false] at hv;rcases hv with rfl|rfl|rfl<;>exact Ee.int _ _
 .refine⟨_,ho,.cells (Fs (l:=[bq br 0]) λv hv=>?_) λi h1 h2=>⟨h1,h2⟩⟩;simp only[AT,AQ,or_false] at hv;subst hv;exact Ee.int _ _
 .refine⟨_,hh,.cells (Fs λv hv=>?_) λi h1 h2=>⟨h1,h2⟩⟩;simp only[Iq,AT,AQ,or_false] at hv;rcases hv with rfl|rfl|rfl|rfl|rfl|rfl|rfl|rfl|rfl|rfl|rfl|rfl<;>first|exact Ee.int _ _|exact Ee.Hb _ _|exact Fo.slice (.inr (.inl rfl)) _ _ _ _
def nf (bn bo bh:Nat)(w1:bl)(v:bk)(w':bl):Prop:=∃(cb sb cap:Nat) (cur:List bk) (t:dn),v=.tuple #[.S (I ⟨cb,0,bb⟩),bq br 0]/\w1.L.size<=cb/\cb<sb/\Gm w' bn bo bh cb sb cap cur t/\w1.L.size<=w'.L.size/\∀b,b<w1.L.size->w'.L[b]?=w1.L[b]?
def sa (bn bo bh:Nat){SB:cu->Bool}:Ei (SP SB Du) (E0 λb=>b=bn\/b=bo\/b=bh) #[.agg #[.slice (I ⟨bn,0,bb⟩) 3 3,.slice (I ⟨bh,0,bb⟩) 3 3]] #[.agg #[.slice (I ⟨bn,0,bb⟩) 3 3,.slice (I ⟨bh,0,bb⟩) 3 3]] :=
 Fs (l:=[.agg #[.slice (I ⟨bn,0,bb⟩) 3 3,.slice (I ⟨bh,0,bb⟩) 3 3]]) λv hv=>by
  simp only[AT,AQ,or_false] at hv;subst hv;refine Fo.agg (l:=[.slice (I ⟨bn,0,bb⟩) 3 3,.slice (I ⟨bh,0,bb⟩) 3 3]) λv hv=>?_;simp only[AT,AQ,or_false] at hv;obtain rfl|rfl:=hv
  .exact Fo.slice (.inl rfl) _ _ _ _
  .exact Fo.slice (.inr (.inr rfl)) _ _ _ _
def pn {bn bo bh:Nat}{w:bl}(hn:w.L[bn]?=I (.cells Ht.LK 3 (0,0)))(ho:w.L[bo]?=I (ea #[bq br 0] 3 (0,0)))(hh:w.L[bh]?=I (.cells (Iq bo).LK 57 (0,0)))(τ:Tape)(d:Nat) :
  l5 D7 48 #[.agg #[.slice (I ⟨bn,0,bb⟩) 3 3,.slice (I ⟨bh,0,bb⟩) 3 3]] (on w τ d) (λe w'=>∃v,e=.L v/\nf bn bo bh w v w'):=by
 have ln:=(AJ.1 hn).1;have lo:=(AJ.1 ho).1;have lh:=(AJ.1 hh).1;have hb:∀i:Nat,(on w τ d).S ⟨bh,i,bb⟩=(Iq bo)[i]?:=λi=>(cell_of (W:=on w τ d) hh i).trans (by simp);have a8:RI (on w τ d) w.L.size (I ⟨bn,0,bb⟩) Ew.D9:=λ_=>by
  refine⟨bn,0,rfl,ln,λi x hx=>?_⟩;rw[cell_of (W:=on w τ d) hn]
  match i,hx with
  |0,hx=>simp[Ew,E1] at hx;subst hx;rfl
  |1,hx=>simp[Ew,E1] at hx;subst hx;rfl
  |2,hx=>simp[Ew,E1] at hx;subst hx;rfl
  |k+3,hx=>simp[Ew,E1] at hx
 have hro:RI (on w τ d) w.L.size (I ⟨bo,0,bb⟩) [0]:=λ_=>by
  refine⟨bo,0,rfl,lo,λi x hx=>?_⟩;rw[cell_of (W:=on w τ d) ho]
  match i,hx with
  |0,hx=>simp at hx;subst hx;rfl
  |k+1,hx=>simp at hx
 have aA:Fe (on w τ d) w.L.size (I ⟨bh,0,bb⟩) Ew.D8:=λ_=>⟨bh,0,rfl,lh,λi x hx=>by
  match i,hx with
  |0,hx=>simp[Ew,E1] at hx;subst hx;exact⟨hb _,hb _,hb _,bb,0,hb _,.nil⟩
  |1,hx=>simp[Ew,E1] at hx;subst hx;exact⟨hb _,hb _,hb _,_,1,hb _,hro⟩
  |2,hx=>simp[Ew,E1] at hx;subst hx;exact⟨hb _,hb _,hb _,bb,0,hb _,.nil⟩
  |k+3,hx=>simp[Ew,E1] at hx⟩
 refine(kR (I ⟨bn,0,bb⟩) (I ⟨bh,0,bb⟩) 3 3 Ew (on w τ d) w.L.size (AK _) a8 aA (by decide) (by decide) (by decide)).LT ?_;rintro e w' ⟨hg,a7⟩;rw[AP iO] at a7;obtain⟨cb,g,cap,rfl,hcb,aB,hK,hF1,hF2⟩:=a7;obtain⟨cur,t,q1,q2⟩:=hF1 _ _ _ rfl;have a6:∀b,b<w.L.size->w'.L[b]?=w.L[b]?:=λb hb=>hg.Li.LE b hb;refine⟨_,rfl,cb,g,cap,cur.LK,t,rfl,hcb,aB,⟨λp hp=>?_,λi x hx=>?_,q2⟩,hg.size,a6⟩
 .simp only[EO,AT,AQ,or_false] at hp;obtain rfl|rfl|rfl|rfl|rfl:=hp
  .exact(a6 bn ln).trans hn
  .exact(a6 bo lo).trans ho
  .exact(a6 bh lh).trans hh
  .exact hF2
  .simpa using q1
 .have h1:=hK.sets i x hx;rw[cell_of q1] at h1;simpa using h1
def sd {BB:cu->Bool}(hB:BB 27=bc)(aL:IC BB){Q:cf->bl->Prop}(hQ:∀g w W,EE w W->Q g w->Q g W){cs:List er}(zW:cs≠[]){bn bo bh:Nat}{w:bl}
  (hn:w.L[bn]?=I (.cells Ht.LK 3 (0,0))) (ho:w.L[bo]?=I (ea #[bq br 0] 3 (0,0))) (hh:w.L[bh]?=I (.cells (Iq bo).LK 57 (0,0)))
  (h:∀(cb sb cap nb:Nat) (cur:List bk) (t:dn) (w':bl) (T:Array bk),Gm w' bn bo bh cb sb cap cur t->w'.L[nb]?=I (JO 0)->zB (EO bn bo bh cb sb cap cur t) nb=cw->T.size=19->T.LH 6 undef=.S (I ⟨nb,0,bb⟩)->w.L.size<=w'.L.size->(∀b,b<w.L.size->w'.L[b]?=w.L[b]?) ->
   E5 Y BB Q 0 (cm PP 49 (II cb (.func 50) #[] [ak (I ⟨nb,0,bb⟩)].LK) ((base 27).at ⟨T,[]⟩ [.inRegion c5 [2],.code x5]) cs) w') :
  E5 Y BB Q 0 (bw (eb Y 27 #[En (I ⟨bn,0,bb⟩) (I ⟨bh,0,bb⟩) Ew 3 3] .L) cs) w:=by
 rw[ql _ n9 rfl];simp only[Tryz.ntmps27,AZ,AX,Bc,Nat.reduceAdd,Nat.reduceSub,BX,BY,B8,B3,BP,BW];unfold En;change E5 Y BB Q 0 (G _ cs) w;have ln:Ew.D9.L=3:=rfl;have lh:Ew.D8.L=3:=rfl;rw[ln,lh];refine au hQ hB zW ?_;refine aC hQ hB zW ?_;simp only[AZ,AX,Bc,Nat.reduceAdd,Bd,df,bs];refine ag hQ hB zW rfl rfl λK hK q1 q2 q3=>?_
 go_simp;refine hK _ (w.LK _) ?_ _ ⟨rfl,rfl,rfl⟩
 try walk_nrm
 try simp only[ab]
 obtain⟨w1,a7⟩:∃w1,w1=w.LK (ea #[.slice (I ⟨bn,0,bb⟩) 3 3,.slice (I ⟨bh,0,bb⟩) 3 3] 25):=⟨_,rfl⟩;rw[<-a7];have zE:w1.L.size=w.L.size+1:=by rw[a7,aM]
 have aF:w1.L[w.L.size]?=I (ea #[.slice (I ⟨bn,0,bb⟩) 3 3,.slice (I ⟨bh,0,bb⟩) 3 3] 25 (0,0)):=by rw[a7,aH,AP rfl]
 have a6:∀b,b<w.L.size->w1.L[b]?=w.L[b]?:=λb hb=>by rw[a7,aH,AN (by omega)]
 have zo:w1.S ⟨w.L.size,0,bb⟩=I (.slice (I ⟨bn,0,bb⟩) 3 3):=cell_of aF 0;have zu:w1.S ⟨w.L.size,1,bb⟩=I (.slice (I ⟨bh,0,bb⟩) 3 3):=cell_of aF 1;have aA:bn<w.L.size/\bo<w.L.size/\bh<w.L.size:=⟨(AJ.1 hn).1,(AJ.1 ho).1,(AJ.1 hh).1⟩;have aG:=(a6 bn aA.1).trans hn;have aI:=(a6 bo aA.2.1).trans ho;have aK:=(a6 bh aA.2.2).trans hh;clear a7;refine ag hQ hB zW rfl rfl λK hK q1 q2 q3=>?_
 go_simp;refine hK _ w1 ?_ _ ⟨rfl,rfl,rfl⟩
 try walk_nrm
 try simp only[ab]
 refine ag hQ hB zW rfl rfl λK hK q1 q2 q3=>?_;go_simp;refine hK _ w1 ?_ _ ⟨rfl,rfl,rfl⟩
 try walk_nrm
 try simp only[ab]
 refine aB hQ hB zW ?_;refine au hQ hB zW ?_;refine aC hQ hB zW ?_;simp only[AZ,AX,Bc,Nat.reduceAdd,Bd,df,bs];refine ag hQ hB zW rfl rfl λK hK q1 q2 q3=>?_;go_simp;refine hK _ w1 ?_ _ ⟨rfl,rfl,rfl⟩
 try walk_nrm
 try simp only[ab]
 refine az hQ hB (by kernel_rfl) λτ d=>?_;refine aJ rfl rfl (by decide) rfl s4 (by kernel_rfl) (by kernel_rfl) ⟨EA _ _,w1,Dt,?_⟩
 try walk_nrm
 refine(eK (H:=Du) aL).fn (f:=48) (by decide) (by decide) (K0:=λb=>b=bn\/b=bo\/b=bh) zW (λ_ _=>Bg _) (Bg _) (sa bn bo bh) (λb _ hb=>by cases hb) (λb hb=>by cases hb)
  (λb hb _=>vE aG aI aK b hb) hQ (R:=nf bn bo bh w1) (pn aG aI aK) ?_
 rintro v w2 ⟨cb,sb,cap,cur,t,rfl,hcb,aO,zP,zD,aD⟩;change E5 Y BB Q 0 _ w2;rw[eo];simp only[BA,Bz,Bt,BS]
 try walk_nrm
 refine ag hQ hB zW rfl rfl λK hK q1 q2 q3=>?_;go_simp;refine hK _ w2 ?_ _ ⟨rfl,rfl,rfl⟩
 try walk_nrm
 try simp only[ab]
 refine ag hQ hB zW rfl rfl λK hK q1 q2 q3=>?_;go_simp;refine hK _ w2 ?_ _ ⟨rfl,rfl,rfl⟩
 try walk_nrm
 try simp only[ab]
 refine ag hQ hB zW rfl rfl λK hK q1 q2 q3=>?_;go_simp;refine hK _ w2 ?_ _ ⟨rfl,rfl,rfl⟩
 try walk_nrm
 try simp only[ab]
 refine ag hQ hB zW rfl rfl λK hK q1 q2 q3=>?_;go_simp;refine hK _ w2 ?_ _ ⟨rfl,rfl,rfl⟩
 try walk_nrm
 try simp only[ab]
 refine ag hQ hB zW rfl rfl λK hK q1 q2 q3=>?_;go_simp;refine hK _ w2 ?_ _ ⟨rfl,rfl,rfl⟩
 try walk_nrm
 try simp only[ab]
 refine aB hQ hB zW ?_
 iterate 2 refine au hQ hB zW ?_
 refine aC hQ hB zW ?_;simp only[AZ,AX,Bc,Nat.reduceAdd,Bd,df,bs];refine ag hQ hB zW rfl rfl λK hK q1 q2 q3=>?_;go_simp;refine hK _ w2 ?_ _ ⟨rfl,rfl,rfl⟩
 try walk_nrm
 try simp only[ab]
 refine ag hQ hB zW rfl rfl λK hK q1 q2 q3=>?_;go_simp;refine hK _ w2 ?_ _ ⟨rfl,rfl,rfl⟩
 try walk_nrm
 try simp only[ab]
 refine aB hQ hB zW ?_;refine jO hQ hB zW ?_;refine gE hQ hB zW ?_;refine au hQ hB zW ?_;refine aC hQ hB zW ?_;simp only[AZ,AX,Bc,Nat.reduceAdd,Bd,df,bs];refine ag hQ hB zW rfl rfl λK hK q1 q2 q3=>?_;go_simp;refine hK _ (w2.LK _) ?_ _ ⟨rfl,rfl,rfl⟩;clear hK K q1 q2 q3
 try walk_nrm
 try simp only[ab]
 obtain⟨w3,hw3⟩:∃w3,w3=w2.LK (JO 0):=⟨_,rfl⟩;change E5 Y BB Q 0 _ (w2.LK (JO 0));rw[<-hw3];have hz3:w3.L.size=w2.L.size+1:=by rw[hw3,aM]
 have a8:∀b,b<w2.L.size->w3.L[b]?=w2.L[b]?:=λb hb=>by rw[hw3,aH,AN (by omega)]
 have aN:w3.L[w2.L.size]?=I (JO 0):=by rw[hw3,aH,AP rfl]
 clear hw3;refine aB hQ hB zW ?_;refine au hQ hB zW ?_;refine aC hQ hB zW ?_;simp only[AZ,AX,Bc,Nat.reduceAdd,Bd,df,bs];refine ag hQ hB zW rfl rfl λK hK q1 q2 q3=>?_;go_simp;refine hK _ w3 ?_ _ ⟨rfl,rfl,rfl⟩;refine ag hQ hB zW rfl rfl λK hK q1 q2 q3=>?_;go_simp;refine hK _ w3 ?_ _ ⟨rfl,rfl,rfl⟩
 try walk_nrm
 try simp only[ab]
 refine az hQ hB (by kernel_rfl) λτ d=>?_;refine aJ rfl rfl (by decide) rfl gR (by kernel_rfl) (by kernel_rfl) ⟨EA _ _,w3,Dt,?_⟩
 try walk_nrm
 refine h cb sb cap w2.L.size cur t w3 _ (zP.keep λb hb=>a8 b (zP.lt hb)) aN (by
  cases hq:zB (EO bn bo bh cb sb cap cur t) w2.L.size with
  |false=>rfl
  |true=>exact AS (zP.lt hq) (C5 _)) rfl rfl (by omega) λb hb=>(a8 b (by omega)).trans ((aD b (by omega)).trans (a6 b hb))
def Rn {T:Array bk}(h:T.size=19):∃y0 y1 y2 y3 y4 y5 y6 y7 y8 y9 a6 a7 a8 aA aB aC aD aF aG:bk,T=#[y0,y1,y2,y3,y4,y5,y6,y7,y8,y9,a6,a7,a8,aA,aB,aC,aD,aF,aG]:=by
 obtain⟨l⟩:=T;have h:l.L=19:=h
 match l,h with
 |[y0,y1,y2,y3,y4,y5,y6,y7,y8,y9,a6,a7,a8,aA,aB,aC,aD,aF,aG],_=>exact⟨y0,y1,y2,y3,y4,y5,y6,y7,y8,y9,a6,a7,a8,aA,aB,aC,aD,aF,aG,rfl⟩
def qs {BB:cu->Bool}(hB:BB 27=bc)(a6:IC BB){Q:cf->bl->Prop}(hQ:∀g w W,EE w W->Q g w->Q g W){b0:er}{a0:Act}{ops:Array s5}{i:Nat}{rest:List Nat}{k:List rr}{cs:List er}(zW:cs≠[]){nb:Nat}{n:Int}{w:bl}
  (hn:w.L[nb]?=I (JO n)) {T:Array bk} (hT:T.size=19) (h6:T.LH 6 undef=.S (I ⟨nb,0,bb⟩))
  (h:E5 Y BB Q 0 (bw (b0.at (a0.put ((ops[i]?).bind (·.L)) (.tuple #[bq br n,bq br 0])) (.inRegion ops rest::k)) cs) w) :
  E5 Y BB Q 0 (back ((base 27).at ⟨T,[]⟩ [.inRegion c5 [2],.code x5]) (b0.at a0 (.inRegion ops (i::rest)::k)::cs)) w:=by
 obtain⟨y0,y1,y2,y3,y4,y5,y6,y7,y8,y9,a8,aA,aD,aF,aG,aH,aI,aK,aL,rfl⟩:=Rn hT;have h6:y6=.S (I ⟨nb,0,bb⟩):=h6;subst h6;unfold back;rw[eo];change E5 Y BB Q 0 (G _ _) w;have a7:(c5[2]?.bind (·.L))=I 17:=rfl;rw[a7]
 try walk_nrm
 refine aB hQ hB (EA _ _) ?_;have ex5:x5=af (af (af (af (af cB)))):=rfl;simp only[cB,Tryz.f27,Bf,af] at ex5;rw[ex5];refine au hQ hB (EA _ _) ?_;refine aC hQ hB (EA _ _) ?_;simp only[AZ,AX,Bc,Nat.reduceAdd,Bd,df,bs];refine az hQ hB (by kernel_rfl) λτ d=>?_;refine aJ rfl rfl (by decide) rfl Tryz.func52 (by kernel_rfl) (by kernel_rfl) ⟨EA _ _,w,Dt,?_⟩
 try walk_nrm
 refine(eK (H:=Du) a6).fn (f:=52) (by decide) (by decide) (K0:=λb=>b=nb) (EA _ _) (λ_ _=>Bg _) (Bg _) (Fs (l:=[.S (I ⟨nb,0,bb⟩)]) λv hv=>?_) (λb _ hb=>by cases hb) (λb hb=>by cases hb)
  (λb hb _=>⟨_,(by rw[hb];exact hn),kT (Qm n)⟩) hQ (R:=λv w'=>v=bq br n/\EE w w') (λτ d=>(tJ nb n (on w τ d) hn).LT ?_) ?_
 .simp only[AT,AQ,or_false] at hv;subst hv;exact Fo.ptr (K:=λb=>b=nb) rfl _ _
 .rintro e w9 ⟨rfl,rfl⟩;exact⟨_,rfl,rfl,Dt⟩
 rintro v w2 ⟨rfl,hs2⟩;refine E5.same hQ (W:=w2) ?_ hs2;change E5 Y BB Q 0 _ w;rw[eo];simp only[BA,Bz,Bt,BS]
 try walk_nrm
 refine ag hQ hB (EA _ _) rfl rfl λK hK q1 q2 q3=>?_;go_simp;refine hK _ w ?_ _ ⟨rfl,rfl,rfl⟩
 try walk_nrm
 try simp only[ab]
 refine ag hQ hB (EA _ _) rfl rfl λK hK q1 q2 q3=>?_;go_simp;refine hK _ w ?_ _ ⟨rfl,rfl,rfl⟩
 try walk_nrm
 try simp only[ab]
 refine aB hQ hB (EA _ _) ?_;refine az hQ hB (by kernel_rfl) λτ d=>?_;rw[qo];simp only[qc];refine⟨(EA _ _),w,Dt,?_⟩;refine dY hQ hB (by kernel_rfl) λτ d=>?_;refine goes_leave2 rfl rfl n9 rfl ⟨zW,w,Dt,?_⟩;exact h
attribute [local go_sem] Oper.semAt_some
noncomputable def dB:Code:=Tryz.f29.body.LH .skip
noncomputable def d6:Array Oper:=GD (aG (af (af (af (af (af dB))))))
noncomputable def z6:Code:=af (af (af (af (af (af dB)))))
def se {W:bl}{b i:Nat}{a:Array bk}{u:bk}{t:dn}{f:Nat×Nat}(h:W.L[b]?=I (.cells a t f)):(W.LH ⟨b,i,bb⟩ u).L[b]?=I (.cells (a.L i u) t f):=by
 unfold lu;simp only[BR,if_true,h]
 rfl
def EJ {W:bl}{b i c:Nat}{u:bk}(h:c≠b):(W.LH ⟨b,i,bb⟩ u).L[c]?=W.L[c]?:=by
 unfold lu;simp only[BR];rw[AN (λe=>h e.LH)]
def sf {W:bl}{b i:Nat}{u:bk}:(W.LH ⟨b,i,bb⟩ u).L.size=W.L.size:=by
 unfold lu;simp
def sg {W:bl}{b:Nat}{l:Array bk}{t:dn}(h:W.L[b]?=I (.cells l t (0,0)))(i:Nat):W.O ⟨b,i,bb⟩=false:=by
 unfold World.frozen?;simp[h]
def uw {BB:cu->Bool}(hB:BB 29=bc)(bE:IC BB){Q:cf->bl->Prop}(hQ:∀g w W,EE w W->Q g w->Q g W){cs:List er}(zW:cs≠[]){bn bo bh:Nat}{w:bl}
  (hn:w.L[bn]?=I (.cells Ht.LK 3 (0,0))) (ho:w.L[bo]?=I (ea #[bq br 0] 3 (0,0))) (hh:w.L[bh]?=I (.cells (Iq bo).LK 57 (0,0)))
  (h:∀(cb sb cap qb xb kb:Nat) (cur:List bk) (t:dn) (w':bl) (T:Array bk),Gm w' bn bo bh cb sb cap cur t->w'.L[kb]?=I (GU cw λ_=>0)->(∀p∈Gd xb qb cb,w'.L[p.1]?=I (.cells p.2.1.LK p.2.2 (0,0)))->zB (EO bn bo bh cb sb cap cur t++Gd xb qb cb) kb=cw ->
   T.size=27->T.LH 4 undef=.S (I ⟨qb,0,bb⟩)->T.LH 7 undef=.S (I ⟨kb,0,bb⟩)->w.L.size<=w'.L.size->(∀b,b<w.L.size->w'.L[b]?=w.L[b]?) ->
   E5 Y BB Q 0 (cm PP 49 (II cb (.func 57) #[] [ak (I ⟨kb,0,bb⟩),.S (I ⟨xb,0,bb⟩)].LK) ((base 29).at ⟨T,[]⟩ [.inRegion d6 [2],.code z6]) cs) w') :
  E5 Y BB Q 0 (bw (eb Y 29 #[En (I ⟨bn,0,bb⟩) (I ⟨bh,0,bb⟩) Ew 3 3] .L) cs) w:=by
 rw[ql _ oh rfl];simp only[Tryz.ntmps29,AZ,AX,Bc,Nat.reduceAdd,Nat.reduceSub,BX,BY,B8,B3,BP,BW];unfold En;change E5 Y BB Q 0 (G _ cs) w;have ln:Ew.D9.L=3:=rfl;have lh:Ew.D8.L=3:=rfl;rw[ln,lh];refine au hQ hB zW ?_;refine aC hQ hB zW ?_;simp only[AZ,AX,Bc,Nat.reduceAdd,Bd,df,bs];refine ag hQ hB zW rfl rfl λK hK q1 q2 q3=>?_
 go_simp;refine hK _ (w.LK _) ?_ _ ⟨rfl,rfl,rfl⟩;clear hK K q1 q2 q3
 try walk_nrm
 try simp only[ab]
 obtain⟨w1,aD⟩:∃w1,w1=w.LK (ea #[.slice (I ⟨bn,0,bb⟩) 3 3,.slice (I ⟨bh,0,bb⟩) 3 3] 25):=⟨_,rfl⟩;rw[<-aD];have zE:w1.L.size=w.L.size+1:=by rw[aD,aM]
 have bA:w1.L[w.L.size]?=I (ea #[.slice (I ⟨bn,0,bb⟩) 3 3,.slice (I ⟨bh,0,bb⟩) 3 3] 25 (0,0)):=by rw[aD,aH,AP rfl]
 have a6:∀b,b<w.L.size->w1.L[b]?=w.L[b]?:=λb hb=>by rw[aD,aH,AN (by omega)]
 have zo:w1.S ⟨w.L.size,0,bb⟩=I (.slice (I ⟨bn,0,bb⟩) 3 3):=cell_of bA 0;have zu:w1.S ⟨w.L.size,1,bb⟩=I (.slice (I ⟨bh,0,bb⟩) 3 3):=cell_of bA 1;have aP:bn<w.L.size/\bo<w.L.size/\bh<w.L.size:=⟨(AJ.1 hn).1,(AJ.1 ho).1,(AJ.1 hh).1⟩;have bB:=(a6 bn aP.1).trans hn;have bC:=(a6 bo aP.2.1).trans ho;have bD:=(a6 bh aP.2.2).trans hh;clear aD;refine ag hQ hB zW rfl rfl λK hK q1 q2 q3=>?_
 go_simp;refine hK _ w1 ?_ _ ⟨rfl,rfl,rfl⟩;clear hK K q1 q2 q3
 try walk_nrm
 try simp only[ab]
 refine ag hQ hB zW rfl rfl λK hK q1 q2 q3=>?_;go_simp;refine hK _ w1 ?_ _ ⟨rfl,rfl,rfl⟩;clear hK K q1 q2 q3
 try walk_nrm
 try simp only[ab]
 refine aB hQ hB zW ?_;refine au hQ hB zW ?_;refine aC hQ hB zW ?_;simp only[AZ,AX,Bc,Nat.reduceAdd,Bd,df,bs];refine ag hQ hB zW rfl rfl λK hK q1 q2 q3=>?_;go_simp;refine hK _ w1 ?_ _ ⟨rfl,rfl,rfl⟩;clear hK K q1 q2 q3
 try walk_nrm
 try simp only[ab]
 refine az hQ hB (by kernel_rfl) λτ d=>?_;refine aJ rfl rfl (by decide) rfl s4 (by kernel_rfl) (by kernel_rfl) ⟨EA _ _,w1,Dt,?_⟩
 try walk_nrm
 refine(eK (H:=Du) bE).fn (f:=48) (by decide) (by decide) (K0:=λb=>b=bn\/b=bo\/b=bh) zW (λ_ _=>Bg _) (Bg _) (sa bn bo bh) (λb _ hb=>by cases hb) (λb hb=>by cases hb)
  (λb hb _=>vE bB bC bD b hb) hQ (R:=nf bn bo bh w1) (pn bB bC bD) ?_
 rintro v w2 ⟨cb,sb,cap,cur,t,rfl,hcb,bF,zP,zD,b6⟩;change E5 Y BB Q 0 _ w2;rw[eo];simp only[BA,Bz,Bt,BS]
 try walk_nrm
 refine ag hQ hB zW rfl rfl λK hK q1 q2 q3=>?_;go_simp;refine hK _ w2 ?_ _ ⟨rfl,rfl,rfl⟩;clear hK K q1 q2 q3
 try walk_nrm
 try simp only[ab]
 refine ag hQ hB zW rfl rfl λK hK q1 q2 q3=>?_;go_simp;refine hK _ w2 ?_ _ ⟨rfl,rfl,rfl⟩;clear hK K q1 q2 q3
 try walk_nrm
 try simp only[ab]
 refine ag hQ hB zW rfl rfl λK hK q1 q2 q3=>?_;go_simp;refine hK _ w2 ?_ _ ⟨rfl,rfl,rfl⟩;clear hK K q1 q2 q3
 try walk_nrm
 try simp only[ab]
 refine ag hQ hB zW rfl rfl λK hK q1 q2 q3=>?_;go_simp;refine hK _ (w2.LK _) ?_ _ ⟨rfl,rfl,rfl⟩;clear hK K q1 q2 q3
 try walk_nrm
 try simp only[ab]
 obtain⟨w3,hw3⟩:∃w3,w3=w2.LK (ea #[.S bb] 75):=⟨_,rfl⟩;change E5 Y BB Q 0 _ (w2.LK (ea #[.S bb] 75));rw[<-hw3];have aQ:=AI (show w3.L.size=w2.L.size+1 by rw[hw3,aM]);have b7:∀b,b<w2.L.size->w3.L[b]?=w2.L[b]?:=λb hb=>by rw[hw3,aH,AN (by omega)]
 have a7:w3.L[w2.L.size]?=I (ea #[.S bb] 75):=by rw[hw3,aH,AP rfl]
 clear hw3;refine ag hQ hB zW rfl rfl λK hK q1 q2 q3=>?_;have z1:=cell_of a7 0;have z2:=sg a7 0;go_simp;refine hK _ (w3.LH _ _) ?_ _ ⟨rfl,rfl,rfl⟩;clear hK K q1 q2 q3
 try walk_nrm
 try simp only[ab]
 obtain⟨w4,hw4⟩:∃w4,w4=w3.LH ⟨w2.L.size,0,bb⟩ (.S (I ⟨cb,0,bb⟩)):=⟨_,rfl⟩;change E5 Y BB Q 0 _ (w3.LH ⟨w2.L.size,0,bb⟩ (.S (I ⟨cb,0,bb⟩)));rw[<-hw4];have aR:=AI (show w4.L.size=w3.L.size by rw[hw4,sf]);have b8:∀b,b≠w2.L.size->w4.L[b]?=w3.L[b]?:=λb hb=>by rw[hw4,EJ hb]
 have aK:=se (i:=0) (u:=.S (I ⟨cb,0,bb⟩)) a7;rw[<-hw4] at aK;clear hw4;refine ag hQ hB zW rfl rfl λK hK q1 q2 q3=>?_;go_simp;refine hK _ w4 ?_ _ ⟨rfl,rfl,rfl⟩;clear hK K q1 q2 q3
 try walk_nrm
 try simp only[ab]
 refine aB hQ hB zW ?_
 iterate 2 refine au hQ hB zW ?_
 refine aC hQ hB zW ?_;simp only[AZ,AX,Bc,Nat.reduceAdd,Bd,df,bs];refine ag hQ hB zW rfl rfl λK hK q1 q2 q3=>?_;go_simp;refine hK _ w4 ?_ _ ⟨rfl,rfl,rfl⟩;clear hK K q1 q2 q3
 try walk_nrm
 try simp only[ab]
 refine ag hQ hB zW rfl rfl λK hK q1 q2 q3=>?_;go_simp;refine hK _ w4 ?_ _ ⟨rfl,rfl,rfl⟩;clear hK K q1 q2 q3
 try walk_nrm
 try simp only[ab]
 refine aB hQ hB zW ?_;refine jO hQ hB zW ?_;refine gE hQ hB zW ?_;refine au hQ hB zW ?_;refine aC hQ hB zW ?_;simp only[AZ,AX,Bc,Nat.reduceAdd,Bd,df,bs];refine ag hQ hB zW rfl rfl λK hK q1 q2 q3=>?_;go_simp;refine hK _ w4 ?_ _ ⟨rfl,rfl,rfl⟩;clear hK K q1 q2 q3
 try walk_nrm
 try simp only[ab]
 refine ag hQ hB zW rfl rfl λK hK q1 q2 q3=>?_;go_simp;refine hK _ (w4.LK _) ?_ _ ⟨rfl,rfl,rfl⟩;clear hK K q1 q2 q3
 try walk_nrm
 try simp only[ab]
 obtain⟨w5,aF⟩:∃w5,w5=w4.LK (ea #[.nilFunc] 103):=⟨_,rfl⟩;change E5 Y BB Q 0 _ (w4.LK (ea #[.nilFunc] 103));rw[<-aF];have aS:=AI (show w5.L.size=w4.L.size+1 by rw[aF,aM]);have aL:∀b,b<w4.L.size->w5.L[b]?=w4.L[b]?:=λb hb=>by rw[aF,aH,AN (by omega)]
 have a8:w5.L[w4.L.size]?=I (ea #[.nilFunc] 103):=by rw[aF,aH,AP rfl]
 clear aF;refine ag hQ hB zW rfl rfl λK hK q1 q2 q3=>?_;have z1:=cell_of a8 0;have z2:=sg a8 0;go_simp;refine hK _ (w5.LH _ _) ?_ _ ⟨rfl,rfl,rfl⟩;clear hK K q1 q2 q3
 try walk_nrm
 try simp only[ab]
 obtain⟨w6,aG⟩:∃w6,w6=w5.LH ⟨w4.L.size,0,bb⟩ (.func (.func 53) #[] #[.S (I ⟨w2.L.size,0,bb⟩)]):=⟨_,rfl⟩;change E5 Y BB Q 0 _ (w5.LH ⟨w4.L.size,0,bb⟩ (.func (.func 53) #[] #[.S (I ⟨w2.L.size,0,bb⟩)]));rw[<-aG];have aT:=AI (show w6.L.size=w5.L.size by rw[aG,sf]);have aN:∀b,b≠w4.L.size->w6.L[b]?=w5.L[b]?:=λb hb=>by rw[aG,EJ hb]
 have aO:=se (i:=0) (u:=.func (.func 53) #[] #[.S (I ⟨w2.L.size,0,bb⟩)]) a8;rw[<-aG] at aO;clear aG;refine aB hQ hB zW ?_;refine au hQ hB zW ?_;refine aC hQ hB zW ?_;simp only[AZ,AX,Bc,Nat.reduceAdd,Bd,df,bs];refine ag hQ hB zW rfl rfl λK hK q1 q2 q3=>?_;go_simp;refine hK _ (w6.LK _) ?_ _ ⟨rfl,rfl,rfl⟩;clear hK K q1 q2 q3
 try walk_nrm
 try simp only[ab]
 obtain⟨w7,aI⟩:∃w7,w7=w6.LK (GU cw λ_=>0):=⟨_,rfl⟩;change E5 Y BB Q 0 _ (w6.LK (GU cw λ_=>0));rw[<-aI];have aU:=AI (show w7.L.size=w6.L.size+1 by rw[aI,aM]);have aA:∀b,b<w6.L.size->w7.L[b]?=w6.L[b]?:=λb hb=>by rw[aI,aH,AN (by omega)]
 have b9:w7.L[w6.L.size]?=I (GU cw λ_=>0):=by rw[aI,aH,AP rfl]
 clear aI;refine aB hQ hB zW ?_;refine au hQ hB zW ?_;refine aC hQ hB zW ?_;simp only[AZ,AX,Bc,Nat.reduceAdd,Bd,df,bs];have aV:=aQ.out;have aW:=aR.out;have aX:=aS.out;have aY:=aT.out;have aZ:=aU.out;have hq7:w7.L[w2.L.size]?=I (ea #[.S (I ⟨cb,0,bb⟩)] 75 (0,0)):=(aA _ (by omega)).trans ((aN _ (by omega)).trans ((aL _ (by omega)).trans aK))
 have hx7:w7.L[w4.L.size]?=I (ea #[.func (.func 53) #[] #[.S (I ⟨w2.L.size,0,bb⟩)]] 103 (0,0)):=(aA _ (by omega)).trans aO;have b5:∀b,b<w2.L.size->w7.L[b]?=w2.L[b]?:=λb hb=>(aA _ (by omega)).trans ((aN _ (by omega)).trans ((aL _ (by omega)).trans ((b8 _ (by omega)).trans (b7 _ hb))));clear aV aW aX aY aZ;refine ag hQ hB zW rfl rfl λK hK q1 q2 q3=>?_
 have z1:=cell_of hq7 0;go_simp;refine hK _ w7 ?_ _ ⟨rfl,rfl,rfl⟩
 try walk_nrm
 try simp only[ab]
 refine ag hQ hB zW rfl rfl λK hK q1 q2 q3=>?_;go_simp;refine hK _ w7 ?_ _ ⟨rfl,rfl,rfl⟩
 try walk_nrm
 try simp only[ab]
 refine az hQ hB (by kernel_rfl) λτ d=>?_;refine aJ rfl rfl (by decide) rfl gR (by kernel_rfl) (by kernel_rfl) ⟨EA _ _,w7,Dt,?_⟩
 try walk_nrm
 have aV:=aQ.out;have aW:=aR.out;have aX:=aS.out;have aY:=aT.out;have aZ:=aU.out;refine h cb sb cap w2.L.size w4.L.size w6.L.size cur t w7 _ (zP.keep λb hb=>b5 b (zP.lt hb)) b9 (λp hp=>?_) ?_ rfl rfl rfl (by omega) λb hb=>(b5 b (by omega)).trans ((b6 b (by omega)).trans (a6 b hb))
 .simp only[Gd,AT,AQ,or_false] at hp;obtain rfl|rfl:=hp
  .exact hx7
  .exact hq7
 .cases hq:zB (EO bn bo bh cb sb cap cur t++Gd w4.L.size w2.L.size cb) w6.L.size with
  |false=>rfl
  |true =>
   exfalso;rw[bj,Bq] at hq;obtain hq|hq:=hq
   .have:=zP.lt hq;omega
   .simp[zB,Gd] at hq;omega
def Rp {T:Array bk}(h:T.size=27):∃y0 y1 y2 y3 y4 y5 y6 y7 y8 y9 a6 a7 a8 aA aB aC aD aF aG aH aI aJ aK aL aM aN aO:bk,T=#[y0,y1,y2,y3,y4,y5,y6,y7,y8,y9,a6,a7,a8,aA,aB,aC,aD,aF,aG,aH,aI,aJ,aK,aL,aM,aN,aO]:=by
 obtain⟨l⟩:=T;have h:l.L=27:=h
 match l,h with
 |[y0,y1,y2,y3,y4,y5,y6,y7,y8,y9,a6,a7,a8,aA,aB,aC,aD,aF,aG,aH,aI,aJ,aK,aL,aM,aN,aO],_=>exact⟨y0,y1,y2,y3,y4,y5,y6,y7,y8,y9,a6,a7,a8,aA,aB,aC,aD,aF,aG,aH,aI,aJ,aK,aL,aM,aN,aO,rfl⟩
def si {BB:cu->Bool}(hB:BB 29=bc)(a8:IC BB){Q:cf->bl->Prop}(hQ:∀g w W,EE w W->Q g w->Q g W){b0:er}{a0:Act}{ops:Array s5}{i:Nat}{rest:List Nat}{k:List rr}{cs:List er}(zW:cs≠[])
  {bn bo bh cb sb cap qb kb:Nat} {cur:List bk} {t:dn} {ρ:E2} (aA:∀i,i<5->ρ i<16) {w:bl} (hC:Gm w bn bo bh cb sb cap cur t) (hk:w.L[kb]?=I (GU bc ρ)) (hq:w.L[qb]?=I (ea #[.S (I ⟨cb,0,bb⟩)] 75 (0,0)))
  {T:Array bk} (hT:T.size=27) (h4:T.LH 4 undef=.S (I ⟨qb,0,bb⟩)) (h7:T.LH 7 undef=.S (I ⟨kb,0,bb⟩))
  (h:∀(A:Option j0) (c:Nat) (xs:List bk) (w':bl) (K':Nat->Prop),EH w' (w.L.size+1) (J A 3 c) (be ρ 3) xs->w.L.size<=w'.L.size->(∀b,b<w.L.size->w'.L[b]?=w.L[b]?)->Ee (SP IH Du) (E0 K') (J A 3 c) (J A 3 c) ->
   (∀b,K' b->∃o,w'.L[b]?=I o/\Fb (SP IH Du) (CK D7 IH cw) (E0 K') o o)->E5 Y BB Q 0 (bw (b0.at (a0.put ((ops[i]?).bind (·.L)) (.tuple #[J A 3 c,bq br 0])) (.inRegion ops rest::k)) cs) w') :
  E5 Y BB Q 0 (back ((base 29).at ⟨T,[]⟩ [.inRegion d6 [2],.code z6]) (b0.at a0 (.inRegion ops (i::rest)::k)::cs)) w:=by
 obtain⟨y0,y1,y2,y3,y4,y5,y6,y7,y8,y9,aF,aG,aH,aI,aK,aL,aM,aN,aO,aP,aQ,aR,aS,aT,aU,aV,aW,rfl⟩:=Rp hT;have h4:y4=.S (I ⟨qb,0,bb⟩):=h4;have h7:y7=.S (I ⟨kb,0,bb⟩):=h7;subst h4 h7;unfold back;rw[eo];change E5 Y BB Q 0 (G _ _) w;have aD:(d6[2]?.bind (·.L))=I 19:=rfl;rw[aD]
 try walk_nrm
 have k2:=cell_of hk 2;have k3:=cell_of hk 3;have k4:=cell_of hk 4;have k5:=cell_of hk 5;have k6:=cell_of hk 6;have k7:=cell_of hk 7;have kq:=cell_of hq 0;simp only[Jk,BA,Bz,Bt] at k2 k3 k4 k5 k6 k7 kq;refine aB hQ hB (EA _ _) ?_;have a6:z6=af (af (af (af (af (af dB))))):=rfl;simp only[dB,Tryz.f29,Bf,af] at a6;rw[a6];clear a6
 iterate 2 refine au hQ hB (EA _ _) ?_
 refine aC hQ hB (EA _ _) ?_;simp only[AZ,AX,Bc,Nat.reduceAdd,Bd,df,bs];refine ag hQ hB (EA _ _) rfl rfl λK hK q1 q2 q3=>?_;go_simp;refine hK _ w ?_ _ ⟨rfl,rfl,rfl⟩;clear hK K q1 q2 q3
 try walk_nrm
 try simp only[ab]
 refine ag hQ hB (EA _ _) rfl rfl λK hK q1 q2 q3=>?_;go_simp;refine hK _ w ?_ _ ⟨rfl,rfl,rfl⟩;clear hK K q1 q2 q3
 try walk_nrm
 try simp only[ab]
 refine ag hQ hB (EA _ _) rfl rfl λK hK q1 q2 q3=>?_;go_simp;refine hK _ w ?_ _ ⟨rfl,rfl,rfl⟩;clear hK K q1 q2 q3
 try walk_nrm
 try simp only[ab]
 refine aB hQ hB (EA _ _) ?_;refine jO hQ hB (EA _ _) ?_;refine gE hQ hB (EA _ _) ?_;refine au hQ hB (EA _ _) ?_;refine aC hQ hB (EA _ _) ?_;simp only[AZ,AX,Bc,Nat.reduceAdd,Bd,df,bs];refine ag hQ hB (EA _ _) rfl rfl λK hK q1 q2 q3=>?_;go_simp;refine hK _ w ?_ _ ⟨rfl,rfl,rfl⟩;clear hK K q1 q2 q3
 try walk_nrm
 try simp only[ab]
 refine ag hQ hB (EA _ _) rfl rfl λK hK q1 q2 q3=>?_;go_simp;refine hK _ w ?_ _ ⟨rfl,rfl,rfl⟩;clear hK K q1 q2 q3
 try walk_nrm
 try simp only[ab]
 refine ag hQ hB (EA _ _) rfl rfl λK hK q1 q2 q3=>?_;go_simp;refine hK _ w ?_ _ ⟨rfl,rfl,rfl⟩;clear hK K q1 q2 q3
 try walk_nrm
 try simp only[ab]
 refine az hQ hB (by kernel_rfl) λτ d=>?_;refine aJ rfl rfl (by decide) rfl Tryz.func59 (by kernel_rfl) (by kernel_rfl) ⟨EA _ _,w,Dt,?_⟩
 try walk_nrm
 have zo:w.S ⟨cb,0,bb⟩=I (.slice (I ⟨bn,0,bb⟩) 3 3):=cell_of (hC.obj (cb,Ml bn bh sb cap,151) (by simp[EO])) 0;have lcb:cb<w.L.size:=hC.lt ((Ff _).2 (by simp));refine(eK (H:=Du) a8).fnK (f:=59) (by decide) (by decide) (K0:=λb=>zB (EO bn bo bh cb sb cap cur t) b=bc) (EA _ _) (λ_ _=>Bg _) (Bg _) (Fs (l:=[.S (I ⟨cb,0,bb⟩),E6 ρ]) λv hv=>?_) (λb _ hb=>by cases hb) (λb hb=>by cases hb)
  (λb hb _=>?_) hQ (R:=λv w'=>∃A c xs,v=J A 3 c/\EH w' (w.L.size+1) (J A 3 c) (be ρ 3) xs/\w.L.size<=w'.L.size/\∀b,b<w.L.size->w'.L[b]?=w.L[b]?) (λτ d=>(pi cb (I ⟨bn,0,bb⟩) 3 3 ρ (on w τ d) lcb zo (by decide) aA).LT ?_) ?_
 .simp only[AT,AQ,or_false] at hv;obtain rfl|rfl:=hv
  .exact Fo.ptr (K:=λb=>zB (EO bn bo bh cb sb cap cur t) b=bc) ((Ff cb).2 (by simp)) _ _
  .refine Fo.agg (l:=[.int .u8 (ρ 0),.int .u8 (ρ 1),.int .u8 (ρ 2),.int .u8 (ρ 3),.int .u8 (ρ 4)]) λv hv=>?_;simp only[AT,AQ,or_false] at hv;rcases hv with rfl|rfl|rfl|rfl|rfl<;>exact Ee.int _ _
 .obtain⟨p,hp,rfl⟩:=Ip hb;exact⟨_,hC.obj p hp,.cells (Fs λv hv=>gL hC.flat p hp v hv IH Du) λi z1 z2=>⟨z1,z2⟩⟩
 .rintro e w9 ⟨A,c,xs,rfl,ho,hg⟩;exact⟨_,rfl,A,c,xs,rfl,ho,hg.size,λb hb=>hg.Li.LE b hb⟩
 rintro v w2 K' ⟨A,c,xs,rfl,ho,hz,hold⟩ hv _ a7;change E5 Y BB Q 0 _ w2;rw[eo];simp only[BA,Bz,Bt,BS]
 try walk_nrm
 refine ag hQ hB (EA _ _) rfl rfl λK hK q1 q2 q3=>?_;go_simp;refine hK _ w2 ?_ _ ⟨rfl,rfl,rfl⟩;clear hK K q1 q2 q3
 try walk_nrm
 try simp only[ab]
 refine ag hQ hB (EA _ _) rfl rfl λK hK q1 q2 q3=>?_;go_simp;refine hK _ w2 ?_ _ ⟨rfl,rfl,rfl⟩;clear hK K q1 q2 q3
 try walk_nrm
 try simp only[ab]
 refine aB hQ hB (EA _ _) ?_;refine az hQ hB (by kernel_rfl) λτ d=>?_;rw[qo];simp only[qc];refine⟨(EA _ _),w2,Dt,?_⟩;refine dY hQ hB (by kernel_rfl) λτ d=>?_;refine goes_leave2 rfl rfl oh rfl ⟨zW,w2,Dt,?_⟩;exact h A c xs w2 K' ho hz hold hv λb hb=>a7 b hb rfl
attribute [local go_sem] Oper.semAt_some
noncomputable def wB:Code:=Tryz.f6.body.LH .skip
noncomputable def e1:Array Oper:=GD (aG (af wB))
noncomputable def e2:Array Oper:=GD (aG (af (af wB)))
noncomputable def sj:Code:=af (af wB)
noncomputable def OW:Code:=af (af (af wB))
def LJ (bn:Nat)(w1:bl)(v:bk)(w':bl):Prop:=∃bo bh:Nat,v=En (I ⟨bn,0,bb⟩) (I ⟨bh,0,bb⟩) Ew 3 3/\w'.L[bo]?=I (ea #[bq br 0] 3 (0,0))/\w'.L[bh]?=I (.cells (Iq bo).LK 57 (0,0))/\w1.L.size<=w'.L.size/\∀b,b<w1.L.size->w'.L[b]?=w1.L[b]?
def Mm {bn:Nat}{w:bl}(τ:Tape)(d:Nat):l5 D7 28 #[.slice (I ⟨bn,0,bb⟩) 3 3] (on w τ d) (λe w'=>∃v,e=.L v/\LJ bn w v w'):=by
 refine(rZ (I ⟨bn,0,bb⟩) 3 [3,2,4] (on w τ d)).LT ?_;rintro e w' ⟨hA,rfl,_,hg,rfl,h1,h2⟩;exact⟨_,rfl,_,_,rfl,h1,by simpa [Iq] using h2,hg.size,λb hb=>hg.Li.LE b hb⟩
def Nw {bn:Nat}{w:bl}{SB:cu->Bool}(hn:w.L[bn]?=I (.cells Ht.LK 3 (0,0))):∀b,b=bn->∃o,w.L[b]?=I o/\Fb (SP SB Du) (CK D7 SB cw) (E0 λb=>b=bn) o o:=by
 rintro b rfl;refine⟨_,hn,.cells (Fs λv hv=>?_) λi h1 h2=>⟨h1,h2⟩⟩;simp only[Ht,AT,AQ,or_false] at hv;rcases hv with rfl|rfl|rfl<;>exact Ee.int _ _
def wP {BB:cu->Bool}(hB:BB 6=bc)(aG:BB 27=bc)(aF:IC BB){Q:cf->bl->Prop}(hQ:∀g w W,EE w W->Q g w->Q g W){cs:List er}(zW:cs≠[]){w:bl}
  (h:∀(bn bo bh cb sb cap nb:Nat) (cur:List bk) (t:dn) (w':bl) (T U:Array bk),Gm w' bn bo bh cb sb cap cur t->w'.L[nb]?=I (JO 0)->zB (EO bn bo bh cb sb cap cur t) nb=cw->T.size=19->T.LH 6 undef=.S (I ⟨nb,0,bb⟩) ->
   U.size=95->(∀v∈U.LK,∀(SB:cu->Bool) (H:Hid),Fo SB H (λb=>zB (EO bn bo bh cb sb cap cur t) b=bc) v)->w.L.size<=w'.L.size->(∀b,b<w.L.size->w'.L[b]?=w.L[b]?) ->
   E5 Y BB Q 0 (cm PP 49 (II cb (.func 50) #[] [ak (I ⟨nb,0,bb⟩)].LK) ((base 27).at ⟨T,[]⟩ [.inRegion c5 [2],.code x5]) ((base 6).at ⟨U,[]⟩ [.inRegion e1 [2,3,4,5,6,7],.code sj]::cs)) w') :
  E5 Y BB Q 0 (bw (eb Y 6 #[] .L) cs) w:=by
 rw[ql _ qq rfl];simp only[Tryz.ntmps6,AZ,AX,Bc,Nat.reduceAdd,Nat.reduceSub,BX,BY,B8,B3,BP,BW];change E5 Y BB Q 0 (G _ cs) w;refine au hQ hB zW ?_;refine aC hQ hB zW ?_;simp only[AZ,AX,Bc,Nat.reduceAdd,Bd,df,bs];refine ag hQ hB zW rfl rfl λK hK q1 q2 q3=>?_;go_simp;refine hK _ w ?_ _ ⟨rfl,rfl,rfl⟩;refine aB hQ hB zW ?_;refine au hQ hB zW ?_;refine aC hQ hB zW ?_
 simp only[AZ,AX,Bc,Nat.reduceAdd,Bd,df,bs];refine ag hQ hB zW rfl rfl λK hK q1 q2 q3=>?_;go_simp;refine hK _ (w.LK _) ?_ _ ⟨rfl,rfl,rfl⟩
 try simp only[ab]
 obtain⟨w1,a8⟩:∃w1,w1=w.LK (.cells Ht.LK 3):=⟨_,rfl⟩;change E5 Y BB Q 0 _ (w.LK (.cells Ht.LK 3));rw[<-a8];have a6:=AI (show w1.L.size=w.L.size+1 by rw[a8,aM]);have aD:=AI (show ∀b,b<w.L.size->w1.L[b]?=w.L[b]? from λb hb=>by rw[a8,aH,AN (by omega)]);have aA:w1.L[w.L.size]?=I (.cells Ht.LK 3 (0,0)):=by rw[a8,aH,AP rfl]
 refine az hQ hB (by kernel_rfl) λτ d=>?_;refine aJ rfl rfl (by decide) rfl s7 (by kernel_rfl) (by kernel_rfl) ⟨EA _ _,w1,Dt,?_⟩
 try walk_nrm
 refine(eK (H:=Du) aF).fn (f:=28) (by decide) (by decide) (K0:=λb=>b=w.L.size) zW (λ_ _=>Bg _) (Bg _) (Fs (l:=[.slice (I ⟨w.L.size,0,bb⟩) 3 3]) λv hv=>?_) (λb _ hb=>by cases hb) (λb hb=>by cases hb) (λb hb _=>Nw aA b hb) hQ (R:=LJ w.L.size w1) Mm ?_
 .simp only[AT,AQ,or_false] at hv;subst hv;exact Fo.slice (K:=λb=>b=w.L.size) rfl _ _ _ _
 rintro v w2 ⟨bo,bh,rfl,aI,aK,aO,a7⟩;change E5 Y BB Q 0 _ w2;rw[eo];simp only[BA,Bz,Bt,BS]
 try walk_nrm
 refine az hQ hB (by kernel_rfl) λτ d=>?_;refine aJ rfl rfl (by decide) rfl n9 (by kernel_rfl) (by kernel_rfl) ⟨EA _ _,w2,Dt,?_⟩
 try walk_nrm
 refine sd aG aF hQ (EA _ _) (bn:=w.L.size) (bo:=bo) (bh:=bh) ((a7 _ (by have:=a6.out;omega)).trans aA) aI aK λcb sb cap nb cur t w' T hC aL aN hT h6 hz hold=>?_;refine h w.L.size bo bh cb sb cap nb cur t w' T _ hC aL aN hT h6 rfl (λv hv SB H=>?_) (by have:=a6.out;omega) λb hb=>(hold b (by have:=a6.out;omega)).trans ((a7 b (by have:=a6.out;omega)).trans (aD.out b hb))
 have k0:Fo SB H (λb=>zB (EO w.L.size bo bh cb sb cap cur t) b=bc) (.slice (I ⟨w.L.size,0,bb⟩) 3 3):=Fo.slice ((Ff _).2 (by simp)) _ _ _ _;have k1:Fo SB H (λb=>zB (EO w.L.size bo bh cb sb cap cur t) b=bc) (En (I ⟨w.L.size,0,bb⟩) (I ⟨bh,0,bb⟩) Ew 3 3):=Fo.agg (l:=[.slice (I ⟨w.L.size,0,bb⟩) 3 3,.slice (I ⟨bh,0,bb⟩) 3 3]) λv hv=>by
  simp only[AT,AQ,or_false] at hv;obtain rfl|rfl:=hv
  .exact k0
  .exact Fo.slice ((Ff _).2 (by simp)) _ _ _ _
 simp only[AT,AQ,or_false,or_self] at hv
 repeat (obtain hv|hv:=hv;· subst hv;first|exact Ee.bool _|exact k0|exact k1|exact Fo.undef)
 subst hv;first|exact Ee.bool _|exact k0|exact k1|exact Fo.undef
def PY {T:Array bk}(h:T.size=95):∃(y0 y1 y2 y3 y4 y5 y6 y7 y8 y9 a6 a7 a8 aA aB aC aD aF aG aH aI aJ aK aL aM:bk) (tl:List bk),T=(y0::y1::y2::y3::y4::y5::y6::y7::y8::y9::a6::a7::a8::aA::aB::aC::aD::aF::aG::aH::aI::aJ::aK::aL::aM::tl).LK/\tl.L=70:=by
 obtain⟨l⟩:=T;have h:l.L=95:=h
 match l,h with
 |y0::y1::y2::y3::y4::y5::y6::y7::y8::y9::a6::a7::a8::aA::aB::aC::aD::aF::aG::aH::aI::aJ::aK::aL::aM::tl,h=>exact⟨y0,y1,y2,y3,y4,y5,y6,y7,y8,y9,a6,a7,a8,aA,aB,aC,aD,aF,aG,aH,aI,aJ,aK,aL,aM,tl,rfl,by simpa using h⟩
def wQ {BB:cu->Bool}(hB:BB 6=bc)(aZ:BB 27=bc)(b5:BB 29=bc)(aD:IC BB){Q:cf->bl->Prop}(hQ:∀g w W,EE w W->Q g w->Q g W){cs:List er}(zW:cs≠[]){K1:Nat->Prop}{nb:Nat}{w:bl}
  (hn:w.L[nb]?=I (JO 1)) {T U:Array bk} (hT:T.size=19) (h6:T.LH 6 undef=.S (I ⟨nb,0,bb⟩)) (hU:U.size=95) (b8:∀v∈U.LK,∀(SB:cu->Bool) (H:Hid),Fo SB H K1 v)
  (h:∀(bn bo bh cb sb cap qb xb kb:Nat) (cur:List bk) (t:dn) (w':bl) (T U:Array bk),Gm w' bn bo bh cb sb cap cur t->w'.L[kb]?=I (GU cw λ_=>0)->(∀p∈Gd xb qb cb,w'.L[p.1]?=I (.cells p.2.1.LK p.2.2 (0,0)))->zB (EO bn bo bh cb sb cap cur t++Gd xb qb cb) kb=cw ->
   T.size=27->T.LH 4 undef=.S (I ⟨qb,0,bb⟩)->T.LH 7 undef=.S (I ⟨kb,0,bb⟩) ->
   U.size=95->U.LH 1 undef=bq br 1->U.LH 2 undef=bq br 0->(∀v∈U.LK,∀(SB:cu->Bool) (H:Hid),Fo SB H (λb=>K1 b\/zB (EO bn bo bh cb sb cap cur t) b=bc) v)->w.L.size<=w'.L.size->(∀b,b<w.L.size->w'.L[b]?=w.L[b]?) ->
   E5 Y BB Q 0 (cm PP 49 (II cb (.func 57) #[] [ak (I ⟨kb,0,bb⟩),.S (I ⟨xb,0,bb⟩)].LK) ((base 29).at ⟨T,[]⟩ [.inRegion d6 [2],.code z6]) ((base 6).at ⟨U,[]⟩ [.inRegion e2 [2,3,4,5,6,7],.code OW]::cs)) w') :
  E5 Y BB Q 0 (back ((base 27).at ⟨T,[]⟩ [.inRegion c5 [2],.code x5]) ((base 6).at ⟨U,[]⟩ [.inRegion e1 [2,3,4,5,6,7],.code sj]::cs)) w:=by
 refine qs aZ aD hQ zW hn hT h6 ?_;obtain⟨y0,y1,y2,y3,y4,y5,y6,y7,y8,y9,aI,aK,aL,aN,aO,aP,aQ,aR,aS,aT,aU,aV,aW,aX,aY,tl,rfl,b9⟩:=PY hU;have bA:(e1[2]?.bind (·.L))=I 15:=rfl;rw[bA]
 try walk_nrm
 have ee1:e1=GD (aG (af wB)):=rfl;simp only[wB,rK,Bf,af,aG,GD] at ee1;rw[ee1];refine ag hQ hB zW rfl rfl λK hK q1 q2 q3=>?_;go_simp;refine hK _ w ?_ _ ⟨rfl,rfl,rfl⟩
 try walk_nrm
 try simp only[ab]
 refine ag hQ hB zW rfl rfl λK hK q1 q2 q3=>?_;go_simp;refine hK _ w ?_ _ ⟨rfl,rfl,rfl⟩
 try walk_nrm
 try simp only[ab]
 refine ag hQ hB zW rfl rfl λK hK q1 q2 q3=>?_;go_simp;refine hK _ w ?_ _ ⟨rfl,rfl,rfl⟩
 try walk_nrm
 try simp only[ab]
 refine ag hQ hB zW rfl rfl λK hK q1 q2 q3=>?_;go_simp;refine hK _ w ?_ _ ⟨rfl,rfl,rfl⟩
 try walk_nrm
 try simp only[ab]
 refine ag hQ hB zW rfl rfl λK hK q1 q2 q3=>?_;go_simp;refine hK _ w ?_ _ ⟨rfl,rfl,rfl⟩
 try walk_nrm
 try simp only[ab]
 refine aB hQ hB zW ?_;have ez2:sj=af (af wB):=rfl;simp only[wB,rK,Bf,af] at ez2;rw[ez2];refine au hQ hB zW ?_;refine aC hQ hB zW ?_;simp only[AZ,AX,Bc,Nat.reduceAdd,Bd,df,bs];refine ag hQ hB zW rfl rfl λK hK q1 q2 q3=>?_;go_simp;refine hK _ (w.LK _) ?_ _ ⟨rfl,rfl,rfl⟩
 try walk_nrm
 try simp only[ab]
 obtain⟨w1,a8⟩:∃w1,w1=w.LK (.cells Ht.LK 3):=⟨_,rfl⟩;change E5 Y BB Q 0 _ (w.LK (.cells Ht.LK 3));rw[<-a8];have a6:=AI (show w1.L.size=w.L.size+1 by rw[a8,aM]);have aF:=AI (show ∀b,b<w.L.size->w1.L[b]?=w.L[b]? from λb hb=>by rw[a8,aH,AN (by omega)]);have aA:w1.L[w.L.size]?=I (.cells Ht.LK 3 (0,0)):=by rw[a8,aH,AP rfl]
 refine az hQ hB (by kernel_rfl) λτ d=>?_;refine aJ rfl rfl (by decide) rfl s7 (by kernel_rfl) (by kernel_rfl) ⟨EA _ _,w1,Dt,?_⟩
 try walk_nrm
 refine(eK (H:=Du) aD).fn (f:=28) (by decide) (by decide) (K0:=λb=>b=w.L.size) zW (λ_ _=>Bg _) (Bg _) (Fs (l:=[.slice (I ⟨w.L.size,0,bb⟩) 3 3]) λv hv=>?_) (λb _ hb=>by cases hb) (λb hb=>by cases hb) (λb hb _=>Nw aA b hb) hQ (R:=LJ w.L.size w1) Mm ?_
 .simp only[AT,AQ,or_false] at hv;subst hv;exact Fo.slice (K:=λb=>b=w.L.size) rfl _ _ _ _
 rintro v w2 ⟨bo,bh,rfl,b6,b7,bD,a7⟩;change E5 Y BB Q 0 _ w2;rw[eo];simp only[BA,Bz,Bt,BS]
 try walk_nrm
 refine az hQ hB (by kernel_rfl) λτ d=>?_;refine aJ rfl rfl (by decide) rfl oh (by kernel_rfl) (by kernel_rfl) ⟨EA _ _,w2,Dt,?_⟩
 try walk_nrm
 refine uw b5 aD hQ (EA _ _) (bn:=w.L.size) (bo:=bo) (bh:=bh) ((a7 _ (by have:=a6.out;omega)).trans aA) b6 b7 λcb sb cap qb xb kb cur t w' T hC bB hX bC hT h4 h7 hz hold=>?_;refine h w.L.size bo bh cb sb cap qb xb kb cur t w' T _ hC bB hX bC hT h4 h7 (by simp[b9]) rfl rfl (λv hv SB H=>?_) (by have:=a6.out;omega) λb hb=>(hold b (by have:=a6.out;omega)).trans ((a7 b (by have:=a6.out;omega)).trans (aF.out b hb))
 have k0:Fo SB H (λb=>K1 b\/zB (EO w.L.size bo bh cb sb cap cur t) b=bc) (.slice (I ⟨w.L.size,0,bb⟩) 3 3):=Fo.slice (.inr ((Ff _).2 (by simp))) _ _ _ _;have k1:Fo SB H (λb=>K1 b\/zB (EO w.L.size bo bh cb sb cap cur t) b=bc) (En (I ⟨w.L.size,0,bb⟩) (I ⟨bh,0,bb⟩) Ew 3 3):=Fo.agg (l:=[.slice (I ⟨w.L.size,0,bb⟩) 3 3,.slice (I ⟨bh,0,bb⟩) 3 3]) λv hv=>by
  simp only[AT,AQ,or_false] at hv;obtain rfl|rfl:=hv
  .exact k0
  .exact Fo.slice (.inr ((Ff _).2 (by simp))) _ _ _ _
 have k2:Fo SB H (λb=>K1 b\/zB (EO w.L.size bo bh cb sb cap cur t) b=bc) (.tuple #[bq br 1,bq br 0]):=by
  refine(Fs (l:=[bq br 1,bq br 0]) λv hv=>?_).tuple;simp only[AT,AQ,or_false] at hv;rcases hv with rfl|rfl<;>exact Ee.int _ _
 have k3:∀u∈(y0::y1::y2::y3::y4::y5::y6::y7::y8::y9::aI::aK::aL::aN::aO::aP::aQ::aR::aS::aT::aU::aV::aW::aX::aY::tl:List bk),Fo SB H (λb=>K1 b\/zB (EO w.L.size bo bh cb sb cap cur t) b=bc) u:=λu hu=>(b8 u (by simpa using hu) SB H).LT λb hb=>.inl hb;have hv2:v=bq br 1\/v=bq br 0\/v=.tuple #[bq br 1,bq br 0]\/v=.slice (I ⟨w.L.size,0,bb⟩) 3 3\/v=En (I ⟨w.L.size,0,bb⟩) (I ⟨bh,0,bb⟩) Ew 3 3\/v∈(y0::y1::y2::y3::y4::y5::y6::y7::y8::y9::aI::aK::aL::aN::aO::aP::aQ::aR::aS::aT::aU::aV::aW::aX::aY::tl:List bk):=by
  simp only[AT,AQ,or_false] at hv ⊢
  grind
 obtain rfl|rfl|rfl|rfl|rfl|hv2:=hv2
 .exact Ee.int _ _
 .exact Ee.int _ _
 .exact k2
 .exact k0
 .exact k1
 .exact k3 v hv2
def wR {BB:cu->Bool}(hB:BB 6=bc)(aR:BB 29=bc)(aT:IC BB){Q:cf->bl->Prop}(hQ:∀g w W,EE w W->Q g w->Q g W){cs:List er}(zW:cs≠[]){K1:Nat->Prop}{bn bo bh cb sb cap qb kb:Nat}{cur:List bk}{t:dn}{ρ:E2}(aU:∀i,i<5->ρ i<16){w:bl}
  (hC:Gm w bn bo bh cb sb cap cur t) (hk:w.L[kb]?=I (GU bc ρ)) (hq:w.L[qb]?=I (ea #[.S (I ⟨cb,0,bb⟩)] 75 (0,0))) {T U:Array bk} (hT:T.size=27) (h4:T.LH 4 undef=.S (I ⟨qb,0,bb⟩)) (h7:T.LH 7 undef=.S (I ⟨kb,0,bb⟩))
  (hU:U.size=95) (a6:U.LH 1 undef=bq br 1) (a7:U.LH 2 undef=bq br 0) (aV:∀v∈U.LK,∀(SB:cu->Bool) (H:Hid),Fo SB H K1 v)
  (h:∀(A:Option j0) (c:Nat) (xs:List bk) (w':bl) (K':Nat->Prop) (U:Array bk),EH w' (w.L.size+1) (J A 3 c) (be ρ 3) xs->w.L.size<=w'.L.size->(∀b,b<w.L.size->w'.L[b]?=w.L[b]?)->(∀b,K' b->∃o,w'.L[b]?=I o/\Fb (SP IH Du) (CK D7 IH cw) (E0 K') o o) ->
   U.size=95->U.LH 1 undef=bq br 1->U.LH 2 undef=bq br 0->U.LH 3 undef=J A 3 c->U.LH 4 undef=bq br 0->(∀v∈U.LK,Fo IH Du (λb=>K1 b\/K' b) v)->E5 Y BB Q 0 (bw ((base 6).at ⟨U,[]⟩ [.code OW]) cs) w') :
  E5 Y BB Q 0 (back ((base 29).at ⟨T,[]⟩ [.inRegion d6 [2],.code z6]) ((base 6).at ⟨U,[]⟩ [.inRegion e2 [2,3,4,5,6,7],.code OW]::cs)) w:=by
 refine si aR aT hQ zW aU hC hk hq hT h4 h7 λA c xs w2 K' ho hz hold hv aS=>?_;obtain⟨y0,y1,y2,y3,y4,y5,y6,y7,y8,y9,a8,aA,aC,aD,aF,aH,aI,aJ,aK,aL,aM,aN,aO,aP,aQ,tl,rfl,aW⟩:=PY hU;have a6:y1=bq br 1:=a6;have a7:y2=bq br 0:=a7;subst a6 a7;have aX:(e2[2]?.bind (·.L))=I 21:=rfl;rw[aX]
 try walk_nrm
 have ee2:e2=GD (aG (af (af wB))):=rfl;simp only[wB,rK,Bf,af,aG,GD] at ee2;rw[ee2];refine ag hQ hB zW rfl rfl λK hK q1 q2 q3=>?_;go_simp;refine hK _ w2 ?_ _ ⟨rfl,rfl,rfl⟩
 try walk_nrm
 try simp only[ab]
 refine ag hQ hB zW rfl rfl λK hK q1 q2 q3=>?_;go_simp;refine hK _ w2 ?_ _ ⟨rfl,rfl,rfl⟩
 try walk_nrm
 try simp only[ab]
 refine ag hQ hB zW rfl rfl λK hK q1 q2 q3=>?_;go_simp;refine hK _ w2 ?_ _ ⟨rfl,rfl,rfl⟩
 try walk_nrm
 try simp only[ab]
 refine ag hQ hB zW rfl rfl λK hK q1 q2 q3=>?_;go_simp;refine hK _ w2 ?_ _ ⟨rfl,rfl,rfl⟩
 try walk_nrm
 try simp only[ab]
 refine ag hQ hB zW rfl rfl λK hK q1 q2 q3=>?_;go_simp;refine hK _ w2 ?_ _ ⟨rfl,rfl,rfl⟩
 try walk_nrm
 try simp only[ab]
 refine aB hQ hB zW ?_;refine h A c xs w2 K' _ ho hz hold aS (by simp[aW]) rfl rfl rfl rfl λv hv3=>?_;have k0:Fo IH Du (λb=>K1 b\/K' b) (J A 3 c):=hv.LT λb B hb=>⟨.inr hb.1,hb.2⟩;have k2:Fo IH Du (λb=>K1 b\/K' b) (.tuple #[J A 3 c,bq br 0]):=by
  refine(Fs (l:=[J A 3 c,bq br 0]) λv hv=>?_).tuple;simp only[AT,AQ,or_false] at hv;obtain rfl|rfl:=hv
  .exact k0
  .exact Ee.int _ _
 have k3:∀u∈(y0::bq br 1::bq br 0::y3::y4::y5::y6::y7::y8::y9::a8::aA::aC::aD::aF::aH::aI::aJ::aK::aL::aM::aN::aO::aP::aQ::tl:List bk),Fo IH Du (λb=>K1 b\/K' b) u:=λu hu=>(aV u (by simpa using hu) IH Du).LT λb hb=>.inl hb;have hv2:v=J A 3 c\/v=bq br 0\/v=.tuple #[J A 3 c,bq br 0]\/v∈(y0::bq br 1::bq br 0::y3::y4::y5::y6::y7::y8::y9::a8::aA::aC::aD::aF::aH::aI::aJ::aK::aL::aM::aN::aO::aP::aQ::tl:List bk):=by
  simp only[AT,AQ,or_false] at hv3 ⊢
  grind
 obtain rfl|rfl|rfl|hv2:=hv2
 .exact k0
 .exact Ee.int _ _
 .exact k2
 .exact k3 v hv2
def Si:List FuncId:=QP++[27,29,49,50,53,57,128,129,149,150,151]
def KY (f:cu):Bool:=Si.H f
def Qn (f:cu):Bool:=f==49||f==50||f==53||f==57||f==149||f==151
def IE (f:cu):Bool:=KY f&&!Qn f
def wS {p:Nat->Bool}(h:Si.all p=bc):∀f,KY f=bc->p f=true:=λf hf=>(BO.1 h) f (by simpa [KY] using hf)
def gj:IC IE:=by
 refine⟨λf hf=>?_,by decide,by decide⟩;have:QP.all IE=true:=by kernel_rfl
 exact kO this f hf
def yI:Si.all (λf=>JV Y KY bc f||PC f||Qn f)=true:=by kernel_rfl
def Ak {P:EK}(f:cu)(hf:aP KY f=bc):Jb P f:=by
 unfold aP at hf;have h:KY 84=false:=by decide
 rw[h,Cf,Cs] at hf;cases hf
def Nx (H:Hid):Lib PP KY H bc IE 0:=by
 refine iM (λf hf=>?_) (λf hf hb=>?_) (λf hf=>?_) Ak ⟨BJ l8,Tryz.LB⟩
 .simp only[IE,AY,B9] at hf;have:=wS yI f hf.1;simp only[hf.2,Di,Bq] at this;obtain h|h:=this
  .exact .inl ⟨h,rfl⟩
  .exact .inr (vD h)
 .simp only[IE,hf,Cm,CE,Qn,Bq,beq_iff_eq] at hb;obtain((((rfl|rfl)|rfl)|rfl)|rfl)|rfl:=hb
  .exact⟨_,_,gR,gR,rfl,by decide,by decide,rfl,rfl⟩
  .exact⟨_,_,n4,n4,rfl,by decide,by decide,rfl,rfl⟩
  .exact⟨_,_,s8,s8,rfl,by decide,by decide,rfl,rfl⟩
  .exact⟨_,_,n5,n5,rfl,by decide,by decide,rfl,rfl⟩
  .exact⟨_,_,j2,j2,rfl,by decide,by decide,rfl,rfl⟩
  .exact⟨_,_,j3,j3,rfl,by decide,by decide,rfl,rfl⟩
 .simp only[IE,AY] at hf;exact hf.1
def OX:∃cE,Tryz.f49.body=I cE/\codeOk Y KY bc bc cE=false:=⟨_,rfl,by kernel_rfl⟩
open Go.ConcN
def OY:∀(f:cu) (fn:Func),PP.a.L[f]?=I fn->fn.body.L=bc->PP.fs[f]?=I fn:=λ_ _ h _=>h
def Mn (cs:List er)(g:cf)(w:bl):Prop:=∃(bn bo bh cb sb cap nb:Nat) (cur:List bk) (t:dn) (T U:Array bk),Gm w bn bo bh cb sb cap cur t/\w.L[nb]?=I (JO 0)/\zB (EO bn bo bh cb sb cap cur t) nb=cw/\T.size=19/\T.LH 6 undef=.S (I ⟨nb,0,bb⟩) /\
 U.size=95/\(∀v∈U.LK,∀(SB:cu->Bool) (H:Hid),Fo SB H (λb=>zB (EO bn bo bh cb sb cap cur t) b=bc) v) /\
 g=cm PP 49 (II cb (.func 50) #[] [ak (I ⟨nb,0,bb⟩)].LK) ((base 27).at ⟨T,[]⟩ [.inRegion c5 [2],.code x5]) ((base 6).at ⟨U,[]⟩ [.inRegion e1 [2,3,4,5,6,7],.code sj]::cs)
def Gm.same {w w':bl}{bn bo bh cb sb cap:Nat}{cur:List bk}{t:dn}(h:Gm w bn bo bh cb sb cap cur t)(s:EE w w'):Gm w' bn bo bh cb sb cap cur t:=h.keep λb _=>by rw[s.1]
def Mn.same {cs:List er}(g:cf)(w W:bl)(s:EE w W)(h:Mn cs g w):Mn cs g W:=by
 obtain⟨bn,bo,bh,cb,sb,cap,nb,cur,t,T,U,h1,h2,h3,h4,h5,h6,h7,h8⟩:=h;exact⟨bn,bo,bh,cb,sb,cap,nb,cur,t,T,U,h1.same s,by rw[s.1];exact h2,h3,h4,h5,h6,h7,h8⟩
def Mn.fn {cs:List er}(g:cf)(w:bl)(h:Mn cs g w):IE g.L.fn=false:=by
 obtain⟨bn,bo,bh,cb,sb,cap,nb,cur,t,T,U,h1,h2,h3,h4,h5,h6,h7,rfl⟩:=h;show IE 49=cw;decide
def wT {cs:List er}(zW:cs≠[])(w:bl):E5 Y IE (Mn cs) 0 (bw (eb Y 6 #[] .L) cs) w :=
 wP (by decide) (by decide) gj Mn.same zW λbn bo bh cb sb cap nb cur t w' T U h1 h2 h3 h4 h5 h6 h7 _ _=>.fin ⟨bn,bo,bh,cb,sb,cap,nb,cur,t,T,U,h1,h2,h3,h4,h5,h6,h7,rfl⟩
def OZ (cs:List er)(g:cf)(w:bl):Prop:=∃(K1:Nat->Prop) (bn bo bh cb sb cap qb xb kb:Nat) (cur:List bk) (t:dn) (T U:Array bk),(∀b,K1 b->∃(l:List bk) (t:dn),w.L[b]?=I (.cells l.LK t (0,0))/\∀v∈l,∀(SB:cu->Bool) (H:Hid),Fo SB H K1 v)/\Gm w bn bo bh cb sb cap cur t/\w.L[kb]?=I (GU cw λ_=>0)/\(∀p∈Gd xb qb cb,w.L[p.1]?=I (.cells p.2.1.LK p.2.2 (0,0)))/\zB (EO bn bo bh cb sb cap cur t++Gd xb qb cb) kb=cw /\
 T.size=27/\T.LH 4 undef=.S (I ⟨qb,0,bb⟩)/\T.LH 7 undef=.S (I ⟨kb,0,bb⟩)/\U.size=95/\U.LH 1 undef=bq br 1/\U.LH 2 undef=bq br 0/\(∀v∈U.LK,∀(SB:cu->Bool) (H:Hid),Fo SB H (λb=>K1 b\/zB (EO bn bo bh cb sb cap cur t) b=bc) v) /\
 g=cm PP 49 (II cb (.func 57) #[] [ak (I ⟨kb,0,bb⟩),.S (I ⟨xb,0,bb⟩)].LK) ((base 29).at ⟨T,[]⟩ [.inRegion d6 [2],.code z6]) ((base 6).at ⟨U,[]⟩ [.inRegion e2 [2,3,4,5,6,7],.code OW]::cs)
def OZ.same {cs:List er}(g:cf)(w W:bl)(s:EE w W)(h:OZ cs g w):OZ cs g W:=by
 obtain⟨K1,bn,bo,bh,cb,sb,cap,qb,xb,kb,cur,t,T,U,h0,h1,h2,h3,h4⟩:=h;exact⟨K1,bn,bo,bh,cb,sb,cap,qb,xb,kb,cur,t,T,U,by rw[s.1];exact h0,h1.same s,by rw[s.1];exact h2,by rw[s.1];exact h3,h4⟩
def OZ.fn {cs:List er}(g:cf)(w:bl)(h:OZ cs g w):IE g.L.fn=false:=by
 obtain⟨K1,bn,bo,bh,cb,sb,cap,qb,xb,kb,cur,t,T,U,h0,h1,h2,h3,h4,h5,h6,h7,h8,h9,h10,h11,rfl⟩:=h;show IE 49=cw;decide
def Ll {w:bl}{bn bo bh cb sb cap:Nat}{cur:List bk}{t:dn}(h:Gm w bn bo bh cb sb cap cur t):∀b,zB (EO bn bo bh cb sb cap cur t) b=bc->∃(l:List bk) (t':dn),w.L[b]?=I (.cells l.LK t' (0,0))/\∀v∈l,∀(SB:cu->Bool) (H:Hid),Fo SB H (λb=>zB (EO bn bo bh cb sb cap cur t) b=bc) v:=λb hb=>by
 obtain⟨p,hp,rfl⟩:=Ip hb;exact⟨_,_,h.obj p hp,λv hv SB H=>gL h.flat p hp v hv SB H⟩
def wU {cs:List er}(zW:cs≠[]){w:bl}{bn bo bh cb sb cap nb:Nat}{cur:List bk}{t:dn}{T U:Array bk}(hC:Gm w bn bo bh cb sb cap cur t)(hn:w.L[nb]?=I (JO 1))(hT:T.size=19)(h6:T.LH 6 undef=.S (I ⟨nb,0,bb⟩))
  (hU:U.size=95) (a6:∀v∈U.LK,∀(SB:cu->Bool) (H:Hid),Fo SB H (λb=>zB (EO bn bo bh cb sb cap cur t) b=bc) v) :
  E5 Y IE (OZ cs) 0 (back ((base 27).at ⟨T,[]⟩ [.inRegion c5 [2],.code x5]) ((base 6).at ⟨U,[]⟩ [.inRegion e1 [2,3,4,5,6,7],.code sj]::cs)) w :=
 wQ (by decide) (by decide) (by decide) gj OZ.same zW hn hT h6 hU a6 λbn' bo' bh' cb' sb' cap' qb xb kb cur' t' w' T' U' h1 h2 h3 h4 h5 h6 h7 h8 h9 h10 h11 hz hold =>
  .fin ⟨_,bn',bo',bh',cb',sb',cap',qb,xb,kb,cur',t',T',U',λb hb=>by
   obtain⟨l,t2,e1,e2⟩:=Ll hC b hb
   exact⟨l,t2,(hold b (hC.lt hb)).trans e1,e2⟩,h1,h2,h3,h4,h5,h6,h7,h8,h9,h10,h11,rfl⟩
section
variable {SB BB:cu->Bool} {zZ:Bool} {zO:Nat->Prop} {Kp:IB} {x:Lone} {A:cf} {W:bl}
def J1 (ht:Tw PP SB BB zZ 0 zO Kp x A W)(hH:∀b,x.H b=cw){b:Nat}(hb:∃B,x.β b B){l:List bk}{t:dn}{f:Nat×Nat}(h:x.w.L[b]?=I (.cells l.LK t f)){v:bk}(hv:v∈l):∃V,Ee (SP SB x.H) x.β v V:=by
 obtain⟨B,hb⟩:=hb;obtain⟨o,O,q1,q2,q3⟩:=ht.wl.F4 b B hb (hH b);rw[h] at q1;cases q1;cases q3 with
 |cells a z =>
  obtain⟨i,hi,rfl⟩:=Cr.1 hv;obtain⟨V,_,h2⟩:=a.get? (i:=i) (v:=l[i]) (by simp);exact⟨V,h2⟩
def H9 {S:FO}{β:Ey}{b o:Nat}{s:Option Nat}{l c:Nat}{V:bk}(h:Ee S β (.slice (I ⟨b,o,s⟩) l c) V)(hl:l≠0:=by decide):∃B,β b B:=by
 cases h with
 |slice o s l c hb=>exact⟨_,hb⟩
 |Fq _=>exact AS rfl hl
def IM {S:FO}{β:Ey}{b o:Nat}{s:Option Nat}{V:bk}(h:Ee S β (.S (I ⟨b,o,s⟩)) V):∃B,β b B:=by
 cases h with
 |ptr o s hb=>exact⟨_,hb⟩
def Ny {S:FO}{β:Ey}{f:Fn}{fx:Array bk}{l:List bk}{V v:bk}(h:Ee S β (.func f fx l.LK) V)(hv:v∈l):∃V,Ee S β v V:=by
 cases h with
 |E8 _=>cases hv
 |func hf h1 i1 h2 i2 =>
  obtain⟨i,hi,rfl⟩:=Cr.1 hv;have hl:i<l.LK.size:=by simpa using hi
  exact⟨_,i2 i _ _ (AV hl) (AV (by rw[<-h2];exact hl))⟩
def lE (ht:Tw PP SB BB zZ 0 zO Kp x A W)(hH:∀b,x.H b=cw){bn bo bh cb sb cap:Nat}{cur:List bk}{t:dn}(h:Gm x.w bn bo bh cb sb cap cur t)(hcb:∃B,x.β cb B):∀b,zB (EO bn bo bh cb sb cap cur t) b=bc->∃B,x.β b B:=by
 have h4:=h.obj (cb,Ml bn bh sb cap,151) (by simp[EO]);have h3:=h.obj (bh,Iq bo,57) (by simp[EO]);obtain⟨V1,v1⟩:=J1 ht hH hcb h4 (v:=.slice (I ⟨bn,0,bb⟩) 3 3) (by simp[Ml]);obtain⟨V2,v2⟩:=J1 ht hH hcb h4 (v:=.slice (I ⟨bh,0,bb⟩) 3 3) (by simp[Ml]);obtain⟨V3,v3⟩:=J1 ht hH hcb h4 (v:=.slice (I ⟨sb,0,bb⟩) 8 cap) (by simp[Ml]);obtain⟨V4,v4⟩:=J1 ht hH (H9 v2) h3 (v:=.slice (I ⟨bo,0,bb⟩) 1 1) (by simp[Iq])
 intro b hb;obtain rfl|rfl|rfl|rfl|rfl:=(Ff b).1 hb
 .exact H9 v1
 .exact H9 v4
 .exact H9 v2
 .exact hcb
 .exact H9 v3
def Lm (ht:Tw PP KY IE bc 0 zO Kp x A W){cb F:Nat}{fc:List bk}{fr:er}{cs:List er}(hg:x.g=cm PP 49 (II cb (.func F) #[] fc.LK) fr cs):(∃B,x.β cb B)/\∀v∈fc,∃V,Ee (SP KY x.H) x.β v V:=by
 obtain⟨cE,aA,a8⟩:=OX;have a7:=ht.gl.top;rw[hg] at a7;obtain⟨ARGS,eA,a6⟩:=Mf (P:=PP) (fa:=Tryz.f49) (fb:=Tryz.f49) gR gR aA a8 rfl (by rw[Tryz.ntmps49];simp) a7;obtain⟨V0,_,r0⟩:=a6.get? (i:=0) (v:=.S (I ⟨cb,0,bb⟩)) rfl;obtain⟨V1,_,r1⟩:=a6.get? (i:=1) (v:=.func (.func F) #[] fc.LK) rfl;exact⟨IM r0,λv hv=>Ny r1 hv⟩
end
def Mo:∃a6:E2,E4 Ew (EN 3) 2 (FT (Gy 1)) 1=[a6]:=by
 have:=qr
 match h:E4 Ew (EN 3) 2 (FT (Gy 1)) 1,this with
 |[ρ],_=>exact⟨ρ,rfl⟩
def sk {w:bl}{b:Nat}{l:Array bk}{t:dn}(h:w.L[b]?=I (.cells l t (0,0)))(hl:0<l.size):¬EB.Ro w b:=by
 rintro⟨c,t',f,h1,h2⟩;rw[h] at h1;cases h1;have:=h2 0 hl;omega
section
variable {gs:Array cf} {W:bl} {sl:Option (Nat×Nat)} {t:Trace} {q:Nat->Nat} {zO:Nat->Prop} {Kp:IB} {x:Lone} {A:cf} {cs:List er}
def NX (hb:Jw Y zO gs W t q)(ht:Tw PP KY IE bc 0 zO Kp x A W)(h0:gs[0]?=I A)(hq:Mn cs x.g x.w)(zW:cs≠[])(hH:∀b,x.H b=cw)(aB:gs.size+8<=2147483647) :
  ∃N m' t',runNT Y N (om gs W sl) t=(.next m',t')/\∃gs' W' sl' q' A' a6 g2 w2,m'=om gs' W' sl'/\gs'[0]?=I A'/\gs'.size<=gs.size+8/\Jw Y a6 gs' W' t' q' /\
   Tw PP KY IE bc 0 a6 Kp ⟨g2,w2,x.H,x.β,x.T⟩ A' W'/\E5 Y IE (OZ cs) 0 g2 w2/\w2.L.size=x.w.L.size/\(W'.os=W.os/\W'.output=W.output)/\W.L.size<=W'.L.size/\∀B,a6 B->zO B\/W.L.size<=B:=by
 obtain⟨bn,bo,bh,cb,sb,cap,nb,cur,ty,T,U,hC,hn,a7,hT,h6,hU,aC,hg⟩:=hq;obtain⟨aD,a8⟩:=Mo;obtain⟨cE,aF,aA⟩:=OX;obtain⟨p1,p2⟩:=Lm ht hg;obtain⟨Vn,vn⟩:=p2 (.S (I ⟨nb,0,bb⟩)) (by simp);obtain⟨N,m',t',zA,gs',W',sl',q',A',a6,e1,e2,e3,e4,e5,e6,e7⟩:=Lk (sl:=sl) (Nt (NW hC hn a7) a8 (OT nb aD)) PV aF aA PX rfl rfl rfl rfl Nu Mj Mk hb ht h0 hg ⟨rfl,rfl,_,_,_,_,rfl⟩ hH
  (λb hb=>by
   obtain hb|hb:=hb
   .exact lE ht hH hC p1 b (by simpa [NV] using hb)
   .have e:b=nb:=by simpa using hb
    rw[e];exact IM vn) (λb B h aG k=>by
   have e:b=nb:=by simpa using aG
   subst e;obtain h|h:=ht.F2 b B h k
   .rw[hH] at h;cases h
   .exact sk hn (by decide) h) aB
 refine⟨N,m',t',zA,gs',W',sl',q',A',a6,_,_,e1,e2,e3,e4,e5,?_,bX _ _ _,e6,e7⟩;have zY:nb<x.w.L.size:=(AJ.1 hn).1;refine wU zW (hC.keep λb hb=>?_) (nb:=nb) ?_ hT h6 hU aC
 .rw[bY _ _ _ _ (hC.lt hb)];rw[AN];intro h;have e:b=nb:=by simpa using h
  rw[e,a7] at hb;cases hb
 .rw[bY _ _ _ _ zY,AP (by simp)]
  rfl
def j4 (QT:cf->bl->Prop)(cs:List er):Prop:=∀(K:Nat->Prop) (A:Option j0) (c B:Nat) (xs:List bk) (w':bl) (U:Array bk) (ρ:E2),E4 Ew (EN 3) 2 (FT (Gy 1)) 1=[ρ]->EH w' B (J A 3 c) (be ρ 3) xs ->
 U.size=95->U.LH 1 undef=bq br 1->U.LH 2 undef=bq br 0->U.LH 3 undef=J A 3 c->U.LH 4 undef=bq br 0->(∀v∈U.LK,Fo IH Du K v)->(∀b,K b->∃o,w'.L[b]?=I o/\Fb (SP IH Du) (CK D7 IH cw) (E0 K) o o) ->
 E5 Y IE QT 0 (bw ((base 6).at ⟨U,[]⟩ [.code OW]) cs) w'
def wV:∀ρ∈E4 Ew (EN 3) 2 (FT (Gy 1)) 1,∀i,i<5->ρ i<16:=by decide +kernel
def O0 {QT:cf->bl->Prop}(aJ:∀g w W,EE w W->QT g w->QT g W)(aD:j4 QT cs)(hb:Jw Y zO gs W t q)(ht:Tw PP KY IE bc 0 zO Kp x A W)(h0:gs[0]?=I A)(hq:OZ cs x.g x.w)(zW:cs≠[])(hH:∀b,x.H b=cw)(aK:gs.size+8<=2147483647) :
  ∃N m' t',runNT Y N (om gs W sl) t=(.next m',t')/\∃gs' W' sl' q' A' a6 g2 w2,m'=om gs' W' sl'/\gs'[0]?=I A'/\gs'.size<=gs.size+8/\Jw Y a6 gs' W' t' q' /\
   Tw PP KY IE bc 0 a6 Kp ⟨g2,w2,x.H,x.β,x.T⟩ A' W'/\E5 Y IE QT 0 g2 w2/\w2.L.size=x.w.L.size/\(W'.os=W.os/\W'.output=W.output)/\W.L.size<=W'.L.size/\∀B,a6 B->zO B\/W.L.size<=B:=by
 obtain⟨K1,bn,bo,bh,cb,sb,cap,qb,xb,kb,cur,ty,T,U,aL,hC,hk,hX,aC,hT,h4,h7,hU,aM,aN,aO,hg⟩:=hq;obtain⟨a7,aB⟩:=Mo;have aP:∀i,i<5->a7 i<16:=wV a7 (by rw[aB];simp);obtain⟨cE,aQ,aG⟩:=OX;obtain⟨p1,p2⟩:=Lm ht hg;obtain⟨Vk,vk⟩:=p2 (.S (I ⟨kb,0,bb⟩)) (by simp);obtain⟨Vx,vx⟩:=p2 (.S (I ⟨xb,0,bb⟩)) (by simp);have aR:=hX (xb,[.func (.func 53) #[] #[.S (I ⟨qb,0,bb⟩)]],103) (by simp[Gd])
 have hqo:=hX (qb,[.S (I ⟨cb,0,bb⟩)],75) (by simp[Gd]);obtain⟨Vf,vf⟩:=J1 ht hH (IM vx) aR (v:=.func (.func 53) #[] #[.S (I ⟨qb,0,bb⟩)]) (by simp);obtain⟨Vq,vq⟩:=Ny (l:=[.S (I ⟨qb,0,bb⟩)]) vf (v:=.S (I ⟨qb,0,bb⟩)) (by simp);have aF:zB (EO bn bo bh cb sb cap cur ty) kb=cw/\zB (Gd xb qb cb) kb=false:=by
  rw[bj,CI] at aC;exact aC
 obtain⟨N,m',t',zA,gs',W',sl',q',A',a6,e1,e2,e3,e4,e5,e6,e7⟩:=Lk (sl:=sl) (Nt (OV (ρ:=a7) hC hk hX aC) aB (PD kb xb qb cb a7)) PV aQ aG PX rfl rfl rfl rfl Nu Mj Mk hb ht h0 hg ⟨rfl,rfl,_,_,_,_,rfl⟩ hH
  (λb hb=>by
   obtain hb|hb:=hb
   .have hb':zB (EO bn bo bh cb sb cap cur ty++Gd xb qb cb) b=true:=hb;rw[bj,Bq] at hb';obtain hb'|hb':=hb'
    .exact lE ht hH hC p1 b hb'
    .have : b = xb ∨ b = qb := by
      obtain⟨p,hp,rfl⟩:=Ip hb';simp only[Gd,AT,AQ,or_false] at hp;rcases hp with rfl|rfl<;>simp
     obtain rfl|rfl:=this
     .exact IM vx
     .exact IM vq
   .have e:b=kb:=by simpa using hb
    rw[e];exact IM vk) (λb B h aS k=>by
   have e:b=kb:=by simpa using aS
   subst e;obtain h|h:=ht.F2 b B h k
   .rw[hH] at h;cases h
   .exact sk hk (by decide) h) aK
 refine⟨N,m',t',zA,gs',W',sl',q',A',a6,_,_,e1,e2,e3,e4,e5,?_,bX _ _ _,e6,e7⟩;have zY:kb<x.w.L.size:=(AJ.1 hk).1;obtain⟨w1,aA⟩:∃w1,w1=H7 (Lb kb) (oF (decide (8<=1)) (λ_=>GU cw λ_=>0) λ_=>GU bc a7) x.w:=⟨_,rfl⟩;have hkb:w1.L[kb]?=I (GU bc a7):=by
  rw[aA,bY _ _ _ _ zY,AP (by simp)]
  rfl
 have zU:∀b,b≠kb->b<x.w.L.size->w1.L[b]?=x.w.L[b]?:=λb hb hl=>by
  rw[aA,bY _ _ _ _ hl,AN (by simpa using hb)]
 have hC1:Gm w1 bn bo bh cb sb cap cur ty:=hC.keep λb hb=>zU b (λe=>by rw[e,aF.1] at hb;cases hb) (hC.lt hb);have aT:w1.L[qb]?=I (ea #[.S (I ⟨cb,0,bb⟩)] 75 (0,0)):=by
  refine(zU qb (λe=>?_) (AJ.1 hqo).1).trans hqo;have:=aF.2;rw[<-e] at this;simp[zB,Gd] at this
 show E5 Y IE QT 0 _ (H7 (Lb kb) (oF (decide (8<=1)) (λ_=>GU cw λ_=>0) λ_=>GU bc a7) x.w);rw[<-aA];refine wR (by decide) (by decide) gj aJ zW aP hC1 hkb aT hT h4 h7 hU aM aN aO λA c xs w2 K' U2 ho hz hold aH u0 u1 u2 u3 u4 aI=>?_;refine aD _ A c _ xs w2 U2 a7 aB ho u0 u1 u2 u3 u4 aI λb a8=>?_;obtain(a8|a8)|a8:=a8
 .obtain⟨l,t2,r1,r2⟩:=aL b a8;have hl:=(AJ.1 r1).1;by_cases e:b=kb
  .subst e;exact⟨_,(hold _ (by rw[aA,bX];exact hl)).trans hkb,kT (OU _ _)⟩
  .exact⟨_,(hold _ (by rw[aA,bX];exact hl)).trans ((zU b e hl).trans r1),.cells (Fs λv hv=>(r2 v hv IH Du).LT λb hb=>.inl (.inl hb)) λi z1 z2=>⟨z1,z2⟩⟩
 .obtain⟨l,t2,r1,r2⟩:=Ll hC1 b a8;exact⟨_,(hold _ (AJ.1 r1).1).trans r1,.cells (Fs λv hv=>(r2 v hv IH Du).LT λb hb=>.inl (.inr hb)) λi z1 z2=>⟨z1,z2⟩⟩
 .obtain⟨o,r1,r2⟩:=aH b a8;exact⟨o,r1,r2.LT λb B hb=>⟨.inr hb.1,hb.2⟩⟩
end
def qw:Et (E1 [3,2,4]) [[0,1],[1],[]]=0:=by decide +kernel
def qx:Et (E1 [3,2,4]) Fi=0:=by decide +kernel
def uD:bE 3 [(2,6)]=0:=by decide +kernel
def xi:Kh (GX (E1 [3,2,4]) (Ec Fi) 9 (Er 3 [(2,6)] 1))=[8,0,-8]:=by decide +kernel
def uE:(E4 Ew (EN 3) 2 (FT (Gy 1)) 1).map (λr=>be r 3)=[Fi]:=by decide +kernel
def ju {l:List Int}:(∀h∈(E1 l).D8,h.off.L<=4611686018427387904):=by
 intro h hh;simp only[E1,AT,AQ,or_false] at hh;rcases hh with rfl|rfl|rfl<;>simp
def sC (nA hA gA:Option j0)(w:bl)(B:Nat)(hB:B<=w.L.size)(hn:RI w B nA [3,2,4])(hh:Fe w B hA (E1 [3,2,4]).D8)(hg:E7 w B gA [[0,1],[1],[]]) :
  l5 D7 30 #[.agg #[J nA 3 3,J hA 3 3],J gA 3 3,bq br 2,bq br 0] w λe w'=>Gr w w'/\∃A k,e=.L (.tuple #[J A 3 k,bq br 3,bq br 0])/\E7 w' w'.L.size A Fi:=by
 refine(uC nA hA gA 3 3 3 (E1 [3,2,4]) [[0,1],[1],[]] 2 0 w B hB hn hh hg (by decide) (by decide) ju (by decide) (by decide) (λk _ hk _ _=>?_)).LT ?_
 .obtain rfl:k=2:=by omega
  exact Ek.Ok.of (by decide +kernel)
 .rintro e w' ⟨hg,h⟩;refine⟨hg,?_⟩;rw[AN (by simp[qw]),AN (by decide)] at h;have hr:=uv;have h2:E4 (Kf (E1 [3,2,4]) (Int.toNat 2) 0) (EN (E1 [3,2,4]).D8.L) (E1 [3,2,4]).D9.L G8 0=E4 (Kf (E1 [3,2,4]) 2 0) (EN 3) 3 G8 0:=rfl;rw[h2] at h;cases hn:Ho (Ec [[0,1],[1],[]]) (E4 (Kf (E1 [3,2,4]) 2 0) (EN 3) 3 G8 0) with
  |none=>rw[hn] at hr;cases hr
  |some p =>
   rw[hn] at hr h;obtain⟨A,k,he,zV⟩:=h;have zy:(be p.1 3,p.2)=(Fi,3):=tz hr;injection zy with e1 e2
   refine⟨A,k,?_,?_⟩
   .rw[he,e2];rfl
   .rw[<-e1];exact zV
def uF (nA hA:Option j0)(w:bl)(B:Nat)(hB:B<=w.L.size)(hn:RI w B nA [3,2,5])(hh:Fe w B hA (E1 [3,2,5]).D8) :
  l5 D7 31 #[.agg #[J nA 3 3,J hA 3 3]] w λe w'=>Gr w w'/\∃A k,e=.L (.tuple #[J A 2 k,bq br 0])/\RI w' w'.L.size A [1,2]:=by
 refine(wN nA hA 3 3 (E1 [3,2,5]) w B hB hn hh (by decide) (by decide) ju).LT ?_;rintro e w' ⟨hg,h⟩;refine⟨hg,?_⟩;rw[AN (by simp[mf]),AN (by simp[jY])] at h;have h2:F9 (E1 [3,2,5]) (2 ^ (E1 [3,2,5]).D9.L)=I [1,2]:=qm;rw[h2] at h;exact h
def yO (nA hA gA rA:Option j0)(w:bl)(B:Nat)(hB:B<=w.L.size)(hn:RI w B nA [3,2,4])(hh:Fe w B hA (E1 [3,2,4]).D8)(hg:E7 w B gA Fi)(hr:FA w B rA [(2,6)]) :
  l5 D7 20 #[.agg #[J nA 3 3,J hA 3 3],J gA 3 3,J rA 1 1,bq br 9] w λe w'=>Gr w w'/\∃A k,e=.L (.tuple #[J A 3 k,bq br 0])/\RI w' w'.L.size A [8,0,-8]:=by
 refine(kg nA hA gA rA 3 3 3 1 (E1 [3,2,4]) Fi [(2,6)] 9 w B hB hn hh hg hr (by decide) (by decide) ju (by decide) (by decide) (by decide) (by decide) qx uD (by omega)).LT ?_;rintro e w' ⟨hg,A,k,he,h⟩;refine⟨hg,A,k,he,?_⟩;rw[<-xi];exact h
def AE {w:bl}{B b:Nat}{A0 A1 A2:Option j0}{c0 c1 c2:Nat}{l0 l1 l2:List Int}{t:dn}{f:Nat×Nat}(h:w.L[b]?=I (ea #[J A0 l0.L c0,J A1 l1.L c1,J A2 l2.L c2] t f))(hb:b<B)(h0:RI w B A0 l0)(h1:RI w B A1 l1)(h2:RI w B A2 l2):E7 w B (I ⟨b,0,bb⟩) [l0,l1,l2]:=λ_=>by
 have e:∀o,w.S ⟨b,o,bb⟩=(#[J A0 l0.L c0,J A1 l1.L c1,J A2 l2.L c2]:Array bk)[o]?:=λo=>by unfold kp;rw[h];simp
 refine⟨b,0,rfl,hb,λi l hl=>?_⟩
 match i,hl with
 |0,hl=>cases hl;exact⟨A0,c0,e _,h0⟩
 |1,hl=>cases hl;exact⟨A1,c1,e _,h1⟩
 |2,hl=>cases hl;exact⟨A2,c2,e _,h2⟩
def AF {w:bl}{B b:Nat}{x y:Int}{t:dn}{f:Nat×Nat}(h:w.L[b]?=I (ea #[bq br x,bq br y] t f))(hb:b<B):FA w B (I ⟨b,0,bb⟩) [(x,y)]:=λ_=>by
 have e:∀o,w.S ⟨b,o,bb⟩=(#[bq br x,bq br y]:Array bk)[o]?:=λo=>by unfold kp;rw[h];simp
 refine⟨b,0,rfl,hb,λi q hq=>?_⟩
 match i,hq with
 |0,hq=>cases hq;exact⟨e _,e _⟩
def Mq (n:Nat)(l:List bk)(h:l.L=n+19):∃(y0 y1 y2 y3 y4 y5 y6 y7 y8 y9 a6 a7 a8 aA aB aC aD aF aG:bk) (tl:List bk),l=y0::y1::y2::y3::y4::y5::y6::y7::y8::y9::a6::a7::a8::aA::aB::aC::aD::aF::aG::tl/\tl.L=n:=by
 match l,h with
 |y0::y1::y2::y3::y4::y5::y6::y7::y8::y9::a6::a7::a8::aA::aB::aC::aD::aF::aG::tl,h=>exact⟨y0,y1,y2,y3,y4,y5,y6,y7,y8,y9,a6,a7,a8,aA,aB,aC,aD,aF,aG,tl,rfl,by simpa using h⟩
def Al {T:Array bk}(h:T.size=95):∃(y0 y1 y2 y3 y4 y5 y6 y7 y8 y9 a6 a7 a8 aA aB aC aD aF aG aH aI aJ aK aL aM aN aO aP aQ aR aS aT aU aV aW aX aY aZ b5 b6 b7 b8 b9 bA bB bC bD bE bF bG bH bI bJ bK bL bM bN bO bP bQ bR bS bT bU bV bW bX bY bZ c0 c2 c3 c4 c5 cA cB cC cD cE cF cG cH cI cJ cK cL cM cN cO cP cQ cR cS cT cU:bk),T=#[y0,y1,y2,y3,y4,y5,y6,y7,y8,y9,a6,a7,a8,aA,aB,aC,aD,aF,aG,aH,aI,aJ,aK,aL,aM,aN,aO,aP,aQ,aR,aS,aT,aU,aV,aW,aX,aY,aZ,b5,b6,b7,b8,b9,bA,bB,bC,bD,bE,bF,bG,bH,bI,bJ,bK,bL,bM,bN,bO,bP,bQ,bR,bS,bT,bU,bV,bW,bX,bY,bZ,c0,c2,c3,c4,c5,cA,cB,cC,cD,cE,cF,cG,cH,cI,cJ,cK,cL,cM,cN,cO,cP,cQ,cR,cS,cT,cU]:=by
 obtain⟨l⟩:=T;have h:l.L=76+19:=h;obtain⟨y0,y1,y2,y3,y4,y5,y6,y7,y8,y9,a6,a7,a8,aA,aB,aC,aD,aF,aG,l0,rfl,h0⟩:=Mq 76 l h;obtain⟨aH,aI,aJ,aK,aL,aM,aN,aO,aP,aQ,aR,aS,aT,aU,aV,aW,aX,aY,aZ,l1,rfl,h1⟩:=Mq 57 l0 h0;obtain⟨b5,b6,b7,b8,b9,bA,bB,bC,bD,bE,bF,bG,bH,bI,bJ,bK,bL,bM,bN,l2,rfl,h2⟩:=Mq 38 l1 h1;obtain⟨bO,bP,bQ,bR,bS,bT,bU,bV,bW,bX,bY,bZ,c0,c2,c3,c4,c5,cA,cB,l3,rfl,h3⟩:=Mq 19 l2 h2
 obtain⟨cC,cD,cE,cF,cG,cH,cI,cJ,cK,cL,cM,cN,cO,cP,cQ,cR,cS,cT,cU,l4,rfl,h4⟩:=Mq 0 l3 h3;obtain rfl:l4=[]:=Bp h4;exact⟨y0,y1,y2,y3,y4,y5,y6,y7,y8,y9,a6,a7,a8,aA,aB,aC,aD,aF,aG,aH,aI,aJ,aK,aL,aM,aN,aO,aP,aQ,aR,aS,aT,aU,aV,aW,aX,aY,aZ,b5,b6,b7,b8,b9,bA,bB,bC,bD,bE,bF,bG,bH,bI,bJ,bK,bL,bM,bN,bO,bP,bQ,bR,bS,bT,bU,bV,bW,bX,bY,bZ,c0,c2,c3,c4,c5,cA,cB,cC,cD,cE,cF,cG,cH,cI,cJ,cK,cL,cM,cN,cO,cP,cQ,cR,cS,cT,cU,rfl⟩
def xj (A:Option j0)(c:Nat)(y0 y5 y6 y7 y8 y9 cB cC cD cE cF cG cH cI cJ cK cL cM cN cO cQ cR cS cT cU cV cW cX cY cZ d2 d3 d4 d5 d6 d7 d8 d9 dA dB dC dD dE dF dG dH dI dJ dK dL dM dN dO dP dQ dR dS dT dU dV dW dX dY dZ e5 e6 e7 e8 e9 eA eB eC eD eE eF eG eH eI eJ eK eL eM eN eO eP eQ eR eT eU eV eW:bk)(w:bl)(aQ:E7 w w.L.size A Fi) :
  OW.wp D7 (λe a' _=>(e=.L\/e=.ret)/\e=.ret/\a'.tmps.LH 0 undef=.bool bc/\a'.defers=[]) ⟨#[y0,bq br 1,bq br 0,J A 3 c,bq br 0,y5,y6,y7,y8,y9,cB,cC,cD,cE,cF,cG,cH,cI,cJ,cK,cL,cM,cN,cO,cQ,cR,cS,cT,cU,cV,cW,cX,cY,cZ,d2,d3,d4,d5,d6,d7,d8,d9,dA,dB,dC,dD,dE,dF,dG,dH,dI,dJ,dK,dL,dM,dN,dO,dP,dQ,dR,dS,dT,dU,dV,dW,dX,dY,dZ,e5,e6,e7,e8,e9,eA,eB,eC,eD,eE,eF,eG,eH,eI,eJ,eK,eL,eM,eN,eO,eP,eQ,eR,eT,eU,eV,eW],[]⟩ w:=by
 have HB:=AI aQ;clear aQ;have ez:OW=af (af (af wB)):=rfl;simp only[wB,rK,Bf,af] at ez;rw[ez];clear ez;obtain⟨W1,zt⟩:∃W1:bl,W1=w.LK (ea #[bq br 3,bq br 2,bq br 4] 3):=⟨_,rfl⟩;have zJ:Gr w W1:=zt▸(Gr.refl w).LK _;have bR:RowKit.Hid (RI W1 W1.L.size (I ⟨w.L.size,0,bb⟩) [3,2,4]):=AI (cP (t:=3) (f:=(0,0)) (by rw[zt];exact heap_alloc_new w _) (by rw[zt];simp))
 have eX:=AI (HB.out.gr (AK _) zJ);have bS:=AI (mV (I ⟨w.L.size,0,bb⟩) 3 [3,2,4] W1);have eY:=AI zt;have zE:=zJ.size;clear zJ zt;go_wp2_with fail;rw[<-eY.out];refine bS.out.LT ?_;rintro e w2 ⟨hA,rfl,bT,zI⟩;obtain⟨W2,zm⟩:∃W2:bl,W2=((w2.LK (ea #[bq br 0,bq br 1] 3)).LK (ea #[bq br 1] 3)).LK (ea #[.slice (I ⟨w2.L.size,0,bb⟩) 2 2,.slice (I ⟨w2.L.size+1,0,bb⟩) 1 1,.slice bb 0 0] 22):=⟨_,rfl⟩
 have zH:Gr w2 W2:=zm▸(((Gr.refl w2).LK _).LK _).LK _;have zD:W2.L.size=w2.L.size+3:=by rw[zm];simp
 have b0:W2.L[w2.L.size]?=I (.cells ([0,1].map (bq br)).LK 3 (0,0)):=by
  rw[zm,aa _ _ (by simp;omega),aa _ _ (by simp)];exact heap_alloc_new _ _
 have b1:W2.L[w2.L.size+1]?=I (.cells ([1].map (bq br)).LK 3 (0,0)):=by
  rw[zm,aa _ _ (by simp)];exact aS _ _ (by simp)
 have b2:W2.L[w2.L.size+2]?=I (ea #[.slice (I ⟨w2.L.size,0,bb⟩) 2 2,.slice (I ⟨w2.L.size+1,0,bb⟩) 1 1,.slice bb 0 0] 22 (0,0)):=by
  rw[zm];exact aS _ _ (by simp)
 have aR:E7 W2 W2.L.size (I ⟨w2.L.size+2,0,bb⟩) [[0,1],[1],[]]:=AE (l0:=[0,1]) (l1:=[1]) (l2:=[]) b2 (by omega) (cP b0 (by omega)) (cP b1 (by omega)) .nil;have HR:=AI (sC (I ⟨w.L.size,0,bb⟩) hA (I ⟨w2.L.size+2,0,bb⟩) W2 W2.L.size (AK _) (((bR.out.gr (AK _) zI).gr zI.size zH).more (by have:=zI.size;have:=zH.size;omega)) ((bT.keep λb o hb=>zH.cell (p:=⟨b,o,bb⟩) hb).more zH.size) aR)
 have eZ:=AI ((eX.out.gr (by omega) zI).gr (by have:=zI.size;omega) zH);have f3:=AI zm;have fA:=zI.size;clear bT zI zm b0 b1 b2 aR bS zD;have ec:En (I ⟨w.L.size,0,bb⟩) hA (E1 [3,2,4]) 3 3=.agg #[.slice (I ⟨w.L.size,0,bb⟩) 3 3,J hA 3 3]:=rfl;rw[ec];clear ec;have hz3:=zH.size;clear zH;go_wp2_with fail;rw[<-f3.out];refine HR.out.LT ?_;rintro e w3 ⟨zH,A5,k5,rfl,aZ⟩
 have HB3:=AI (eZ.out.gr (by omega) zH);have f4:=AI aZ;have fB:=zH.size;clear zH aZ HR bR;obtain⟨V6,aJ⟩:∃V:bl,V=w3.LK (ea #[bq br 3,bq br 2,bq br 5] 3):=⟨_,rfl⟩;have b5:Gr w3 V6:=aJ▸(Gr.refl w3).LK _;have HN6:RowKit.Hid (RI V6 V6.L.size (I ⟨w3.L.size,0,bb⟩) [3,2,5]):=AI (cP (t:=3) (f:=(0,0)) (by rw[aJ];exact heap_alloc_new w3 _) (by rw[aJ];simp));have HC6:=AI (mV (I ⟨w3.L.size,0,bb⟩) 3 [3,2,5] V6)
 have bV:=AI b5;have HV6:=AI aJ;have hzV6:=b5.size;clear b5 aJ;go_wp2_with fail;rw[<-HV6.out];refine HC6.out.LT ?_;rintro e x6 ⟨b6,rfl,b7,aB⟩;have b8:=AI (bV.out.trans aB);have b9:=AI ((HN6.out.gr (AK _) aB).more aB.size);have bA:=AI b7;have hzx6:=aB.size;clear b7 aB;have ec:En (I ⟨w3.L.size,0,bb⟩) b6 (E1 [3,2,5]) 3 3=.agg #[.slice (I ⟨w3.L.size,0,bb⟩) 3 3,J b6 3 3]:=rfl
 have bU:=AI (uF (I ⟨w3.L.size,0,bb⟩) b6 x6 x6.L.size (AK _) b9.out bA.out);rw[ec];clear ec;go_wp2_with fail;refine bU.out.LT ?_;rintro e w5 ⟨aT,A8,k8,rfl,bB⟩;have HB5:=AI (HB3.out.gr (by omega) (b8.out.trans aT));have bW:=AI (f4.out.gr (AK _) (b8.out.trans aT));have HI8:=AI bB;have fC:=(b8.out.trans aT).size;clear aT bB bU HN6 HC6 bA b9;obtain⟨V7,aK⟩:∃V:bl,V=w5.LK (ea #[bq br 3,bq br 2,bq br 4] 3):=⟨_,rfl⟩
 have bC:Gr w5 V7:=aK▸(Gr.refl w5).LK _;have HN7:RowKit.Hid (RI V7 V7.L.size (I ⟨w5.L.size,0,bb⟩) [3,2,4]):=AI (cP (t:=3) (f:=(0,0)) (by rw[aK];exact heap_alloc_new w5 _) (by rw[aK];simp));have HC7:=AI (mV (I ⟨w5.L.size,0,bb⟩) 3 [3,2,4] V7);have bX:=AI bC;have HV7:=AI aK;have hzV7:=bC.size;clear bC aK;go_wp2_with fail;rw[<-HV7.out];refine HC7.out.LT ?_;rintro e x7 ⟨bD,rfl,bE,aC⟩
 have HX7:=AI (bX.out.trans aC);have bF:=AI ((HN7.out.gr (AK _) aC).more aC.size);have bG:=AI bE;have hzx7:=aC.size;clear bE aC;have ec:En (I ⟨w5.L.size,0,bb⟩) bD (E1 [3,2,4]) 3 3=.agg #[.slice (I ⟨w5.L.size,0,bb⟩) 3 3,J bD 3 3]:=rfl;rw[ec];clear ec;have HGU:=AI (kQ x7);go_wp2_with fail;refine HGU.out.LT ?_;rintro e x8 ⟨gA,rfl,aA,aG⟩;obtain⟨V8,aL⟩:∃V:bl,V=x8.LK (ea #[bq br 2,bq br 6] 29):=⟨_,rfl⟩
 have a6:Gr x8 V8:=aL▸(Gr.refl x8).LK _;have bH:FA V8 V8.L.size (I ⟨x8.L.size,0,bb⟩) [(2,6)]:=AF (t:=29) (f:=(0,0)) (by rw[aL];exact heap_alloc_new _ _) (by rw[aL];simp)
 have bI:=AI (yO (I ⟨w5.L.size,0,bb⟩) bD gA (I ⟨x8.L.size,0,bb⟩) V8 V8.L.size (AK _) ((bF.out.gr (AK _) (aG.trans a6)).more (aG.trans a6).size)
  ((bG.out.keep λb o hb=>(aG.trans a6).cell (p:=⟨b,o,bb⟩) hb).more (aG.trans a6).size) ((aA.gr (AK _) a6).more a6.size) bH)
 have aU:=AI (HX7.out.trans (aG.trans a6));have HV8:=AI aL;have a8:(Fi.L:Nat)=3:=rfl;clear aA aG aL a6 bH HGU;rw[a8];go_wp2_with fail;rw[<-HV8.out];refine bI.out.LT ?_;rintro e w9 ⟨aM,A10,f5,rfl,aV⟩;have hzz9:=(aU.out.trans aM).size;have HB9:=AI (HB5.out.gr (by omega) (aU.out.trans aM));have bY:=AI (bW.out.gr (by omega) (aU.out.trans aM));have bZ:=AI (HI8.out.gr (AK _) (aU.out.trans aM))
 have c0:=AI aV;clear aM aV bI HN7 HC7 bG bF;have aW:=AI (kQ w9);go_wp2_with fail;refine aW.out.LT ?_;rintro e g11 ⟨c2,rfl,aA,hg⟩;have aH:=AI (ey A c2 c 3 Fi Fi g11 g11.L.size (AK _) ((HB9.out.gr (by omega) hg).more (by have:=hg.size;omega)) aA (by decide) (by decide) (by decide) (by decide));rw[BE (rfl:Fi=Fi)] at aH;have bJ:=AI hg;have hzq11:=hg.size
 clear aA hg aW;have a8:(Fi.L:Nat)=3:=rfl;rw[a8];rw[a8] at aH;clear a8;go_wp2_with fail;refine aH.out.LT ?_;rintro e s11 ⟨rfl,hg⟩;have aN:=AI (bJ.out.trans hg);have hzs11:=(bJ.out.trans hg).size;clear hg aH;have HGM:=AI (bY.out.gr (by omega) aN.out);have HIM:=AI (bZ.out.gr (by omega) aN.out);have f9:=AI (c0.out.gr (by omega) aN.out);have aX:=AI (kQ s11)
 go_wp2_with fail;refine aX.out.LT ?_;rintro e g12 ⟨c3,rfl,aA,hg⟩;have aI:=AI (ey A5 c3 k5 3 Fi Fi g12 g12.L.size (AK _) ((HGM.out.gr (by omega) hg).more (by have:=hg.size;omega)) aA (by decide) (by decide) (by decide) (by decide));rw[BE (rfl:Fi=Fi)] at aI;have bK:=AI hg;have hzq12:=hg.size;clear aA hg aX;have a8:(Fi.L:Nat)=3:=rfl;rw[a8];rw[a8] at aI
 clear a8;go_wp2_with fail;refine aI.out.LT ?_;rintro e s12 ⟨rfl,hg⟩;have bL:=AI (bK.out.trans hg);have hzs12:=(bK.out.trans hg).size;clear hg aI;obtain⟨bN,aD⟩:∃V:bl,V=s12.LK (ea #[bq br 1,bq br 2] 3):=⟨_,rfl⟩;have a7:Gr s12 bN:=aD▸(Gr.refl s12).LK _;have aO:=AI (bM A8 (I ⟨s12.L.size,0,bb⟩) k8 2 [1,2] [1,2] bN bN.L.size (AK _) (((HIM.out.gr (by omega) bL.out).gr (by omega) a7).more (by have:=a7.size;omega)) (cP (t:=3) (f:=(0,0)) (by rw[aD];exact heap_alloc_new _ _) (by rw[aD];simp)) (by decide) (by decide))
 rw[BE (rfl:([1,2]:List Int)=[1,2])] at aO;have c4:=AI aD;have bO:=AI a7;have hzq13:=a7.size;clear a7 aD;go_wp2_with fail;rw[<-c4.out];refine aO.out.LT ?_;rintro e aY ⟨rfl,hg⟩;have c5:=AI (bO.out.trans hg);have hzs13:=(bO.out.trans hg).size;clear hg aO;obtain⟨bP,aF⟩:∃V:bl,V=aY.LK (ea #[bq br 8,bq br 0,bq br (-8)] 3):=⟨_,rfl⟩;have a7:Gr aY bP:=aF▸(Gr.refl aY).LK _
 have aP:=AI (bM A10 (I ⟨aY.L.size,0,bb⟩) f5 3 [8,0,-8] [8,0,-8] bP bP.L.size (AK _) ((((f9.out.gr (by omega) bL.out).gr (by omega) c5.out).gr (by omega) a7).more (by have:=a7.size;omega)) (cP (t:=3) (f:=(0,0)) (by rw[aF];exact heap_alloc_new _ _) (by rw[aF];simp)) (by decide) (by decide));rw[BE (rfl:([8,0,-8]:List Int)=[8,0,-8])] at aP;have cA:=AI aF;have bQ:=AI a7
 have hzq14:=a7.size;clear a7 aF;go_wp2_with fail;rw[<-cA.out];refine aP.out.LT ?_;rintro e s14 ⟨rfl,hg⟩;have HT14:=AI (bQ.out.trans hg);have hzs14:=(bQ.out.trans hg).size;clear hg aP;go_wp2
section
variable {Q:cf->bl->Prop} {b:er} {a:Act} {todo:List rr} {cs:List er} {w:bl} {BB:cu->Bool}
def sD (hQ:∀g w W,EE w W->Q g w->Q g W)(hf:BB b.fn=bc)(hg:∀o,({ b.at a todo with mode:=.returning }:er).oper?=I o->aN Y o.op=bc)(h:∀τ d,(stepG Y bc (bw { b.at a todo with mode:=.returning } cs) (on w τ d)).goes (λg' w' _=>g'.callers≠[]/\∃W,EE W w'/\E5 Y BB Q 0 g' W)) :
  E5 Y BB Q 0 (bw { b.at a todo with mode:=.returning } cs) w:=by
 refine E5.step ⟨hf,hg⟩ λτ d=>?_;have:=h τ d;cases hs:stepG Y bc (bw { b.at a todo with mode:=.returning } cs) (on w τ d) with
 |go g' w' es =>
  rw[hs] at this;obtain⟨h1,W,h2,h3⟩:=this;exact⟨g',w',es,rfl,h1,h3.same hQ h2⟩
 |_=>rw[hs] at this;exact this.S
end
def yP:codeOk D7 IH cw bc OW=true:=by kernel_rfl
def xl {QT:cf->bl->Prop}{C:er}{cs:List er}(cZ:∀g w W,EE w W->QT g w->QT g W)
  (h:∀(a':Act) (todo:List rr) (w':bl),a'.tmps.LH 0 undef=.bool bc->a'.defers=[]->(∀o,({ (base 6).at a' todo with mode:=.returning }:er).oper?=I o->aN Y o.op=bc)->E5 Y IE QT 0 (bw { (base 6).at a' todo with mode:=.returning } (C::cs)) w'):j4 QT (C::cs):=by
 intro K A c B xs w' U ρ cX ho hU u1 u2 u3 u4 d2 cY;obtain⟨y0,y1,y2,y3,y4,y5,y6,y7,y8,y9,a6,a7,a8,aA,aB,aC,aD,aF,aG,aH,aI,aJ,aK,aL,aM,aO,aP,aQ,aR,aS,aT,aU,aV,aW,aX,aY,aZ,b5,b6,b7,b8,b9,bA,bB,bC,bD,bE,bF,bG,bH,bI,bJ,bK,bL,bM,bN,bO,bP,bQ,bR,bS,bT,bU,bV,bW,bX,bY,bZ,c0,c2,c3,c4,c5,cA,cB,cC,cD,cE,cF,cG,cH,cI,cJ,cK,cL,cM,cN,cO,cP,cQ,cR,cS,cT,cU,cV,rfl⟩:=Al hU
 have u1:y1=bq br 1:=u1;have u2:y2=bq br 0:=u2;have u3:y3=J A 3 c:=u3;have u4:y4=bq br 0:=u4;subst u1 u2 u3 u4;have cW:E7 w' w'.L.size A Fi:=by
  obtain⟨A',c',hv,hg⟩:=ho.LH;have hA:A=A':=by injection hv
  subst hA;have hl:=uE;rw[cX] at hl;have:be ρ 3=Fi:=by simpa using hl
  rw[<-this];exact hg
 have zR:EC D7 IH Du cw (E0 K) ((base 6).at ⟨#[y0,bq br 1,bq br 0,J A 3 c,bq br 0,y5,y6,y7,y8,y9,a6,a7,a8,aA,aB,aC,aD,aF,aG,aH,aI,aJ,aK,aL,aM,aO,aP,aQ,aR,aS,aT,aU,aV,aW,aX,aY,aZ,b5,b6,b7,b8,b9,bA,bB,bC,bD,bE,bF,bG,bH,bI,bJ,bK,bL,bM,bN,bO,bP,bQ,bR,bS,bT,bU,bV,bW,bX,bY,bZ,c0,c2,c3,c4,c5,cA,cB,cC,cD,cE,cF,cG,cH,cI,cJ,cK,cL,cM,cN,cO,cP,cQ,cR,cS,cT,cU,cV],[]⟩ [.code OW]) ((base 6).at ⟨#[y0,bq br 1,bq br 0,J A 3 c,bq br 0,y5,y6,y7,y8,y9,a6,a7,a8,aA,aB,aC,aD,aF,aG,aH,aI,aJ,aK,aL,aM,aO,aP,aQ,aR,aS,aT,aU,aV,aW,aX,aY,aZ,b5,b6,b7,b8,b9,bA,bB,bC,bD,bE,bF,bG,bH,bI,bJ,bK,bL,bM,bN,bO,bP,bQ,bR,bS,bT,bU,bV,bW,bX,bY,bZ,c0,c2,c3,c4,c5,cA,cB,cC,cD,cE,cF,cG,cH,cI,cJ,cK,cL,cM,cN,cO,cP,cQ,cR,cS,cT,cU,cV],[]⟩ [.code OW]):=by
  refine⟨rfl,?_,.cons (.code yP) .nil,.nil,.run,rfl,⟨(by show gU≠.early;decide),(by show IH 6=bc;decide)⟩,.none⟩;exact Fs (l:=[y0,bq br 1,bq br 0,J A 3 c,bq br 0,y5,y6,y7,y8,y9,a6,a7,a8,aA,aB,aC,aD,aF,aG,aH,aI,aJ,aK,aL,aM,aO,aP,aQ,aR,aS,aT,aU,aV,aW,aX,aY,aZ,b5,b6,b7,b8,b9,bA,bB,bC,bD,bE,bF,bG,bH,bI,bJ,bK,bL,bM,bN,bO,bP,bQ,bR,bS,bT,bU,bV,bW,bX,bY,bZ,c0,c2,c3,c4,c5,cA,cB,cC,cD,cE,cF,cG,cH,cI,cJ,cK,cL,cM,cN,cO,cP,cQ,cR,cS,cT,cU,cV]) d2
 have hs:=(eK (H:=Du) gj).seg (b:=base 6) (a:=⟨#[y0,bq br 1,bq br 0,J A 3 c,bq br 0,y5,y6,y7,y8,y9,a6,a7,a8,aA,aB,aC,aD,aF,aG,aH,aI,aJ,aK,aL,aM,aO,aP,aQ,aR,aS,aT,aU,aV,aW,aX,aY,aZ,b5,b6,b7,b8,b9,bA,bB,bC,bD,bE,bF,bG,bH,bI,bJ,bK,bL,bM,bN,bO,bP,bQ,bR,bS,bT,bU,bV,bW,bX,bY,bZ,c0,c2,c3,c4,c5,cA,cB,cC,cD,cE,cF,cG,cH,cI,cJ,cK,cL,cM,cN,cO,cP,cQ,cR,cS,cT,cU,cV],[]⟩) (c:=OW) (k:=[]) (C:=C) (cs:=cs) (Q:=QT) (w:=w') (K0:=K) zR (λ_ _=>Bg _) (Bg _) (λb _ hb=>by cases hb) (λb hb=>by cases hb) (λb hb _=>cY b hb)
  (λs h=>by cases h) (λ_ _ _ _ _ _ _ _ _ _ _ h=>by cases h) (.inr ⟨_,_,DX,rfl⟩) cZ
  (N:=λe a' _=>e=.ret/\a'.tmps.LH 0 undef=.bool bc/\a'.defers=[]) (λτ d=>xj A c y0 y5 y6 y7 y8 y9 a6 a7 a8 aA aB aC aD aF aG aH aI aJ aK aL aM aO aP aQ aR aS aT aU aV aW aX aY aZ b5 b6 b7 b8 b9 bA bB bC bD bE bF bG bH bI bJ bK bL bM bN bO bP bQ bR bS bT bU bV bW bX bY bZ c0 c2 c3 c4 c5 cA cB cC cD cE cF cG cH cI cJ cK cL cM cN cO cP cQ cR cS cT cU cV (on w' τ d) cW)
  (λa' w' h=>by cases h.1) (λa' w' todo hn hpl=>h a' todo w' hn.2.1 hn.2.2 hpl)
 exact hs
structure Mr (f:cu) where
 fn:Func
 t:Nat
 hf:Tryz.prog.L[f]?=I fn
 hres:fn.results=#[.tmp t]
 looked:IE f=bc
 fr:Act->er
 N:Act->Prop
 back:∀a,N a->j4 (EB.Left Y f λv _=>v=.bool bc) (fr a::[bad])
def fR {P:sw}{N K:Nat}{m m1 m2:Machine}{t t1 t2:Trace}(h:runNT P N m t=(.next m1,t1))(k:runNT P K m1 t1=(.next m2,t2)):runNT P (N+K) m t=(.next m2,t2):=by
 rw[cW h];exact k
def O3 {f:cu}{fn:Func}{t:Nat}(hf:Tryz.prog.L[f]?=I fn)(hres:fn.results=#[.tmp t])(hb:IE f=bc){H:Hid}{β:Ey}{g A:cf}{w:bl}(hg:Gf PP KY H bc IE [] β g A)(hl:EB.Left Y f (λv _=>v=.bool bc) g w)(W:bl) :
  A.status=.L/\stepG Y bc A W=.ended (.done (.bool bc)) W #[]:=by
 obtain⟨w0,v,fr,hs,rfl,rfl,zR,hm,hd,hk,Hq,hfn,hr⟩:=hl;have aD:=hg.top.Jm (show IE fr.fn=bc by rw[zR];exact hb);have e0:=hg.status.2;have e1:=hg.dying.2;have e2:=hg.offers.2;have zW:=hg.callers;obtain⟨FR,aF,st,dy,off⟩:=A;dsimp only at e0 e1 e2 zW aD;subst e0 e1 e2;have aG:aF=[]:=by
  cases zW with
  |base=>rfl
  |cons _ h=>exact AS rfl h.ne
 subst aG;refine⟨rfl,?_⟩;obtain⟨aH,tmps,todo,defers,mode,kind,round⟩:=fr;obtain⟨aL,aA,aJ,aB,aC,aK,aI⟩:=FR;obtain⟨a1,a2,a3,a4,a5,a6,a7,a8⟩:=aD;dsimp only[Fc] at a1 a2 a3 a4 a5 a6 a7 a8 hm hd hk hfn hr zR;subst a1 a6 hm hd hk zR;have d2:aB=[]:=by cases a4;rfl
 have m2:aC=.returning:=by cases a5;rfl
 subst d2 m2;rw[hf] at hfn;cases hfn;have hv:tmps.LH t undef=.bool true:=by
  have:=oo hres tmps Y w0;rw[hr] at this;injection this with h1 _
  exact h1.LH
 have hV:=a2.LH t (Ee.undef (SP KY H) β);rw[hv] at hV;have hV2:aA.LH t undef=.bool true:=by
  generalize aA.LH t undef=V at hV;cases hV;rfl
 have zy:=oo hres aA Y W;rw[hV2] at zy;have he2:=events_results_tmp (P:=Y) (w:=W) hres aA #[];have zU:¬2=aH:=λe=>by subst e;revert hb;decide
 simp[stepG,unwind,doReturn,hf,zy,he2,seen,GStep.after,zU]
section
variable {f:cu}
def Jy (E:Mr f)(g:cf)(w:bl):Prop:=∃a:Act,E.N a/\Mn (E.fr a::[bad]) g w
def xm (E:Mr f){A:cf}{W:bl}{x:Lone}(ht:Tw PP KY IE bc 0 (λ_=>False) ⟨λB=>B<W.L.size,W,0⟩ x A W)(hx:E5 Y IE (Jy E) 0 x.g x.w)(hT:x.T=[])(hH:∀b,x.H b=cw) :
  ∃N last o w' t',runNT Y (N+1) (om #[A] W bb) #[]=(.ended o w',t')/\runN Y N (om #[A] W bb)=.next last/\step Y last=.ended o w' /\
   kn Y (λv w'=>v=.bool bc/\(w'.os=W.os/\w'.output=W.output)/\W.L.size<=w'.L.size/\∀B,B<W.L.size->w'.L[B]?=W.L[B]?) last o w' t':=by
 have hb:Jw Y (λ_=>False) #[A] W #[] (λ_=>0):=by
  refine⟨⟨λi g hi hg=>?_,λj _=>rfl⟩,⟨past_nil.clean,λi a ha=>?_,past_nil.over,past_nil.hears,λop hop=>by simp at hop⟩,λi op x h=>by simp at h,λi op h=>by simp at h,λB h=>h.S⟩
  .have:=(AJ.1 hg).1;simp at this;omega
  .simp[touchAt,Trace.act?] at ha
 obtain⟨N1,m1,t1,r1,aO,W1,aI,q1,x1,A1,rfl,a1,a2,a3,a4,a5,a6,a7,a8,a9,a10⟩:=I2 (P:=PP) (SB:=KY) (BB:=IE) (zZ:=bc) (Gn:=0) (zO:=λ_=>False) (Kp:=⟨λB=>B<W.L.size,W,0⟩) Nx OY (H:=x.H) (T:=x.T) (β:=x.β) (Q:=Jy E) (λg w h=>by obtain⟨a,_,h⟩:=h;exact .inl (Mn.fn g w h)) (os:=W.os) (ou:=W) (n:=1) (b0:=x.w.L.size) (B0:=W.L.size) _ (om #[A] W bb) #[]
  ⟨#[A],W,bb,λ_=>0,x,A,0,rfl,rfl,rfl,.of hb,ht,hx,rfl,rfl,Ey.le_refl _,⟨rfl,rfl⟩,⟨AK _,AK _,λb B h=>.inl h⟩,rfl⟩
 obtain⟨a,ha,aJ⟩:=a5;have aF:∀b,x1.H b=false:=λb=>by rw[a6];exact hH b
 obtain⟨N2,m2,t2,r2,aB,W2,aG,q2,A2,aD,g2,w2,rfl,b1,b2,b3,b4,b5,b6,b7,b8,b9⟩:=NX (sl:=aI) a3.RH a4 a1 aJ (EA _ _) aF (by omega);obtain⟨N3,m3,t3,r3,aP,W3,sl3,q3,x3,A3,rfl,c1,c2,c3,c4,c5,c6,c7,c8,c9,c10⟩:=I2 (P:=PP) (SB:=KY) (BB:=IE) (zZ:=bc) (Gn:=0) (zO:=aD) (Kp:=⟨λB=>B<W.L.size,W,0⟩) Nx OY (H:=x1.H) (T:=x1.T) (β:=x1.β) (Q:=OZ (E.fr a::[bad])) (λg w h=>.inl (OZ.fn g w h)) (os:=W2.os) (ou:=W2) (n:=aB.size) (b0:=w2.L.size) (B0:=W2.L.size) _ (om aB W2 aG) t2
  ⟨aB,W2,aG,q2,⟨g2,w2,x1.H,x1.β,x1.T⟩,A2,0,rfl,b1,rfl,.of b3,b4,b5,rfl,rfl,Ey.le_refl _,⟨rfl,rfl⟩,⟨AK _,AK _,λb B h=>.inl h⟩,rfl⟩
 obtain⟨N4,m4,t4,r4,aC,W4,aH,q4,A4,aA,g4,w4,rfl,d1,d2,d3,d4,d5,d6,d7,d8,d9⟩:=O0 (sl:=sl3) EB.Left.same (E.back a ha) c3.RH c4 c1 c5 (EA _ _) (λb=>by rw[c6];exact aF b) (by omega);obtain⟨N5,m5,t5,r5,aK,W5,aL,q5,x5,A5,rfl,f1,f2,f3,f4,f5,f6,f7,f8,f9,f10⟩:=I2 (P:=PP) (SB:=KY) (BB:=IE) (zZ:=bc) (Gn:=0) (zO:=aA) (Kp:=⟨λB=>B<W.L.size,W,0⟩) Nx OY (H:=x3.H) (T:=x3.T) (β:=x3.β) (Q:=EB.Left Y f λv _=>v=.bool bc) (λg w h=>.inr ⟨f,_,h⟩) (os:=W4.os) (ou:=W4) (n:=aC.size) (b0:=w4.L.size) (B0:=W4.L.size) _ (om aC W4 aH) t4
  ⟨aC,W4,aH,q4,⟨g4,w4,x3.H,x3.β,x3.T⟩,A4,0,rfl,d1,rfl,.of d3,d4,d5,rfl,rfl,Ey.le_refl _,⟨rfl,rfl⟩,⟨AK _,AK _,λb B h=>.inl h⟩,rfl⟩
 have eT:x5.T=[]:=f7.trans (c7.trans (a7.trans hT));have zA:=fR r1 (fR r2 (fR r3 (fR r4 r5)));have zQ:=f4.gl;unfold Fx at zQ;rw[eT] at zQ;have aM:W5.os=W.os/\W5.output=W.output:=⟨f9.1.trans (d7.1.trans (c9.1.trans (b7.1.trans a9.1))),f9.2.trans (d7.2.trans (c9.2.trans (b7.2.trans a9.2)))⟩;have zv:W.L.size<=W5.L.size:=by have:=f10.1;have:=c10.1;have:=a10.1;omega
 obtain⟨M,last,o,w',t',e1,e2,e3,e4⟩:=beside_ends (P:=Y) (Shun:=JE aA) (B:=W5.L.size) (D:=λ_ _ _=>False) (Post:=λv w'=>v=.bool bc/\(w'.os=W.os/\w'.output=W.output)/\W.L.size<=w'.L.size/\∀B,B<W.L.size->w'.L[B]?=W.L[B]?) (λ_ _ _ h=>h.S) (gs:=aK) (a:=A5) (w:=W5) (sl:=aL) (t:=t5) (q:=q5) (n:=0) f1 f3.RH.lv f3.RH.past (λw1 aN=>by
  obtain⟨d,rfl⟩:=aN;obtain⟨s1,s2⟩:=O3 E.hf E.hres E.looked zQ f5 (W5.at d)
  exact⟨s1,.bool bc,#[],s2,λe he=>by simp at he,rfl,aM,zv,λB hB=>(f4.keep B hB).2⟩)
 refine⟨N1+(N2+(N3+(N4+N5)))+M,last,o,w',t',?_,?_,e3,e4⟩
 .exact(cW zA).trans e1
 .have h1:=Bh Prod.fst (cW (K:=M) zA);rw[runNT_fst,runNT_fst] at h1;exact h1.trans e2
end
inductive Mt (ops:Array s5):List Nat->Act->Act->Prop
 |nil (a:Act):Mt ops [] a a
 |cons {i:Nat} {rest:List Nat} {a a':Act} {o:s5} {v:bk}:ops[i]?=I o->Region.wanted o (yielded ops a.tmps)=bc->aN Y o.op=bc->(∀w,(execOp a.eval o).run Y w=.ok (.value v) w)->Mt ops rest (a.put o.L v) a'->Mt ops (i::rest) a a'
def sG {Q:cf->bl->Prop}(hQ:∀g w W,EE w W->Q g w->Q g W){b:er}(hB:IE b.fn=bc)(hk:b.kind≠.early){ops:Array s5}{k:List rr}{C:er}{cs:List er}{w:bl}{rest:List Nat}{a a':Act}(h:Mt ops rest a a')
  (he:E5 Y IE Q 0 (bw (b.at a' (.inRegion ops []::k)) (C::cs)) w):E5 Y IE Q 0 (bw (b.at a (.inRegion ops rest::k)) (C::cs)) w:=by
 induction h with
 |nil a=>exact he
 |@cons i rest a a' o v ho hw pl hv _ ih =>
  have hn:bR Y (.inRegion ops (i::rest)::k)=true:=by
   show(match ops[i]? with|some o=>aN Y o.op|none=>bc)=bc;rw[ho];exact pl
  refine az hQ hB hn λτ d=>?_;rw[stepG_value ho hw hk (hv _)];simp only[qc];exact⟨EA _ _,w,Dt,ih he⟩
structure LawIn (f:cu)(ops:Array s5)(i:Nat)(rest:List Nat)(more:List rr) where
 fn:Func
 o:s5
 d:Nat
 t:Nat
 n:Nat
 N:Act->Prop
 hf:Tryz.prog.L[f]?=I fn
 ho:ops[i]?=I o
 Qp:o.L=I d
 hop:∃ts,o.op=.call { callee:=.value (.func 6),args:=#[],argTypes:=ts }
 plain:aN Y o.op=bc
 hres:fn.results=#[.tmp t]
 looked:IE f=bc
 hn:fn.ntmps=n
 want:∀a,N a->Region.wanted o (yielded ops a.tmps)=bc
 NP:∀a,N a->a.defers=[]
 pure:∀a,N a->∃a',Mt ops rest (a.put (I d) (.bool bc)) a'/\a'.defers=[]/\a'.tmps.LH t undef=.bool bc
section
variable {f:cu} {ops:Array s5} {i:Nat} {rest:List Nat} {more:List rr}
def LawIn.tgt (_:LawIn f ops i rest more):List Item:=.inRegion ops (i::rest)::.code .ret::more
def LawIn.fr (E:LawIn f ops i rest more)(a:Act):Frame:=(base f).at a E.tgt
def LawIn.go (E:LawIn f ops i rest more){a:Act}(ha:E.N a){cs:List er}(zW:cs≠[]){w:bl}:E5 Y IE (Mn (E.fr a::cs)) 0 (bw ((base f).at a E.tgt) cs) w:=by
 have hQ:∀g w W,EE w W->Mn (E.fr a::cs) g w->Mn (E.fr a::cs) g W:=Mn.same;have hB:IE (base f).fn=true:=E.looked;obtain⟨ts,g3⟩:=E.hop;have hn:bR Y E.tgt=true:=by
  show(match ops[i]? with|some o=>aN Y o.op|none=>bc)=bc;rw[E.ho];exact E.plain
 refine az hQ hB hn λτ d=>?_;refine aJ (o:=E.o) E.ho (E.want a ha) (by show gU≠.early;decide) g3 qq (by kernel_rfl) (by kernel_rfl) ⟨EA _ _,w,Dt,?_⟩;have em:(#[]:Array Operand).map a.eval=#[]:=by simp
 rw[em];exact wT (cs:=E.fr a::cs) (EA _ _) w
def LawIn.back (E:LawIn f ops i rest more){a:Act}(ha:E.N a):j4 (EB.Left Y f λv _=>v=.bool bc) (E.fr a::[bad]):=by
 have hQ:∀g w W,EE w W->EB.Left Y f (λv _=>v=.bool bc) g w->EB.Left Y f (λv _=>v=.bool bc) g W:=EB.Left.same;have hB:IE (base f).fn=true:=E.looked;refine xl hQ λa' todo w' hv a7 hpl=>?_;refine sD hQ (by show IE 6=bc;decide) hpl λτ dd=>?_;refine goes_leave1 (b:=base 6) (b₀:=base f) (a₀:=a) (ops:=ops) (i:=i) (rest:=rest) (k:=.code .ret::more) rfl a7 qq rfl ⟨EA _ _,w',Dt,?_⟩
 rw[hv];have e1:(ops[i]?.bind (·.L))=I E.d:=by rw[E.ho];exact E.Qp
 rw[e1];obtain⟨a2,hp,a8,a6⟩:=E.pure a ha;refine sG hQ hB (by show gU≠.early;decide) hp ?_;refine az hQ hB rfl λτ dd=>?_;rw[stepG_region_end];simp only[qc];refine⟨EA _ _,w',Dt,?_⟩;refine az hQ hB rfl λτ dd=>?_;rw[qo];simp only[qc];refine⟨EA _ _,w',Dt,.fin ?_⟩;refine⟨w',.bool bc,_,⟨rfl,rfl,rfl⟩,rfl,rfl,rfl,rfl,a8,rfl,E.fn,E.hf,?_⟩;have:=oo E.hres a2.tmps Y w'
 rw[a6] at this;exact this
noncomputable def LawIn.Sl (E:LawIn f ops i rest more):Mr f where
 fn:=E.fn
 t:=E.t
 hf:=E.hf
 hres:=E.hres
 looked:=E.looked
 fr:=E.fr
 N:=E.N
 back _ h:=E.back h
variable {K:Nat->Bool} {k:Nat->Nat->Bool} {W:bl} {args:Array bk}
def sH (E:Mr f){n:Nat}(hn:E.fn.ntmps=n)(tg:Act->List rr)(aA:∀a c t,tg a≠.code c::t)(hE:∀a,E.N a->∀w,E5 Y IE (Mn (E.fr a::[bad])) 0 (bw ((base f).at a (tg a)) [bad]) w){C:Code}(a6:E.fn.body=I C)(hput:(f != 6&&JC f)=bc)(aB:IH f=bc)(a7:codeOk D7 IH cw bc C=bc)(aC:∀S,Ln S K k W)(a8:∀S,Ei S (E0 λb=>K b=bc) args args)
  (zK:∀τ d,dA D7 tg C (λa _=>E.N a) ⟨args++ed (n-args.size) undef,[]⟩ (on (bJ K k W) τ d)) :
  E5 Y IE (Jy E) 0 (bw (eb Y f args .L) [bad]) (bJ K k W):=by
 have hQ:∀g w W,EE w W->Jy E g w->Jy E g W:=λg w W s ⟨a,h1,h3⟩=>⟨a,h1,Mn.same g w W s h3⟩;rw[ql _ E.hf a6,hn];have zR:EC D7 IH Du cw (E0 λb=>K b=bc) ((base f).at ⟨args++ed (n-args.size) undef,[]⟩ [.code C]) ((base f).at ⟨args++ed (n-args.size) undef,[]⟩ [.code C]) :=
  ⟨rfl,(a8 _).append (.replicate (.undef _ _) _),.cons (.code a7) .nil,.nil,.run,rfl,⟨(by show gU≠.early;decide),aB⟩,.none⟩
 refine(eK (H:=Du) gj).Qo (b:=base f) (a:=⟨args++ed (n-args.size) undef,[]⟩) (tgt:=tg) (c:=C) (k:=[]) (C:=bad) (cs:=[]) (Q:=Jy E) (w:=bJ K k W) (K0:=λb=>K b=bc) zR (λ_ _=>Bg _) (Bg _) (λb _ hb=>by cases hb) (λb hb=>by cases hb) (λb hb _=>Ms (aC _) b hb)
  (λa c t h=>aA a c t (by simpa using h)) (.inr ⟨_,_,Sq.put E.hf hput,rfl⟩) hQ (N:=λa _=>E.N a) zK (λa' w' hn=>?_)
 rw[CM];exact(hE a' hn _).LT λg w h=>⟨a',hn,h⟩
def qz (E:Mr f){n:Nat}(hn:E.fn.ntmps=n)(tg:Act->List rr)(aB:∀a c t,tg a≠.code c::t)(hE:∀a,E.N a->∀w,E5 Y IE (Mn (E.fr a::[bad])) 0 (bw ((base f).at a (tg a)) [bad]) w){C:Code}(a8:E.fn.body=I C)(hput:(f != 6&&JC f)=bc)(aC:IH f=bc)(hsm:KY f=bc)(aA:codeOk D7 IH cw bc C=bc)(a7:∀S,Ln S K k W)(a6:∀S,Ei S (E0 λb=>K b=bc) args args)
  (zK:∀τ d,dA D7 tg C (λa _=>E.N a) ⟨args++ed (n-args.size) undef,[]⟩ (on (bJ K k W) τ d)) :
  ∃M last o w' t',runNT Y (M+1) (solo (bw (eb Y f args .L) []) W) #[]=(.ended o w',t')/\runN Y M (solo (bw (eb Y f args .L) []) W)=.next last/\step Y last=.ended o w' /\
   kn Y (λv w'=>v=.bool bc/\(w'.os=W.os/\w'.output=W.output)/\W.L.size<=w'.L.size/\∀B,B<W.L.size->w'.L[B]?=W.L[B]?) last o w' t' :=
 xm E (A:=bw (eb Y f args .L) []) (W:=W) (x:=⟨bw (eb Y f args .L) [bad],bJ K k W,Hid.nb,E0 λb=>K b=bc,[]⟩)
  ⟨⟨Fl (P:=PP) (Nx _) (.inl hsm) (a6 _) .L (by decide),.base,⟨rfl,rfl⟩,⟨rfl,rfl⟩,⟨rfl,rfl⟩⟩,ow rfl (λ_=>rfl) (a7 _),rfl,λ_ _ _ h=>h.S,λB hB=>⟨hB,rfl⟩,λb B hb _=>by
   obtain⟨hk,rfl⟩:=hb;obtain⟨C,t,f,h1,_⟩:=a7 (SP KY Hid.nb) b hk
   exact .inr (sE hk h1)⟩ (sH E hn tg aB hE a8 hput aC aA a7 a6 zK) rfl λ_=>rfl
def i8 (E:LawIn f ops i rest more){C:Code}(a6:E.fn.body=I C)(hput:(f != 6&&JC f)=bc)(aA:IH f=bc)(hsm:KY f=bc)(a7:codeOk D7 IH cw bc C=bc)(aB:∀S,Ln S K k W)(a8:∀S,Ei S (E0 λb=>K b=bc) args args)
  (zK:∀τ d,aY D7 E.tgt C (λa _=>E.N a) ⟨args++ed (E.n-args.size) undef,[]⟩ (on (bJ K k W) τ d)) :
  ∃M last o w' t',runNT Y (M+1) (solo (bw (eb Y f args .L) []) W) #[]=(.ended o w',t')/\runN Y M (solo (bw (eb Y f args .L) []) W)=.next last/\step Y last=.ended o w' /\
   kn Y (λv w'=>v=.bool bc/\(w'.os=W.os/\w'.output=W.output)/\W.L.size<=w'.L.size/\∀B,B<W.L.size->w'.L[B]?=W.L[B]?) last o w' t' :=
 qz E.Sl E.hn (λ_=>E.tgt) (λ_ c t h=>by simp[LawIn.tgt] at h) (λ_ h _=>E.go h (EA _ _)) a6 hput aA hsm a7 aB a8 zK
variable {Qi:Array s5} {i2:Nat} {PR:List Nat} {more2:List rr}
end
end Go.Sq
namespace Go.EB
open Classical
noncomputable def Lp (W:bl)(b:Nat):Bool:=decide (∃C t f,W.L[b]?=I (.cells C t f))
def G9 (W:bl)(v:bk):Prop:=∀S:FO,Ee S (E0 λb=>Lp W b=bc) v v
noncomputable def NA (W:bl)(b i:Nat):Bool:=decide (∀C t f v,W.L[b]?=I (.cells C t f)->C[i]?=I v->G9 W v)
noncomputable abbrev GZ (W:bl):World:=bJ (Lp W) (NA W) W
def kj (W:bl)(S:FO):Ln S (Lp W) (NA W) W:=λb hb=>by
 obtain⟨C,t,f,h⟩:=Ca hb;exact⟨C,t,f,h,λi v hk hv=>Ca hk C t f v h hv S⟩
def IP {W:bl}{a:j0}{v:bk}(h:W.S a=I v):a.spot=bb/\∃C t f,W.L[a.LE]?=I (.cells C t f)/\C[a.off]?=I v:=by
 unfold kp at h;split at h
 .rename_i C t f hC;cases hs:a.spot with
  |none=>rw[hs] at h;exact⟨rfl,_,_,_,hC,h⟩
  |some s=>rw[hs] at h;cases h
 .cases h
def bF {W:bl}{b o:Nat}{v:bk}(h:W.S ⟨b,o,bb⟩=I v)(hv:G9 W v):(GZ W).S ⟨b,o,bb⟩=I v:=by
 unfold GZ;rw[ov λ_=>?_]
 .exact h
 .obtain⟨_,C,t,f,h1,h2⟩:=IP h;refine BE λC' t' f' v' a6 a7=>?_;rw[h1] at a6;cases a6;rw[h2] at a7;cases a7;exact hv
def dC {W:bl}(k:IntKind)(n:Int):G9 W (.int k n):=λ_=>.int _ _
def bz {W:bl}{A:Option j0}{len cap:Nat}(hl:len<=cap)(h:∀a,A=I a->0<cap->∃v,W.S a=I v):G9 W (J A len cap):=λS=>by
 cases A with
 |none=>exact .Hb _ _
 |some a =>
  obtain e|e:=Bw cap
  .subst e;obtain rfl:len=0:=by omega
   exact .Fq (.inl rfl)
  .obtain⟨v,hv⟩:=h _ rfl e;obtain⟨_,C,t,f,h1,_⟩:=IP hv;exact .slice _ _ _ _ ⟨BE ⟨C,t,f,h1⟩,rfl⟩
def fh {b o n:Nat}:(⟨b,o,bb⟩:j0).add n=⟨b,o+n,bb⟩:=by
 unfold Addr.add;split
 .rename_i h;have h0:n=0:=h;subst h0;rfl
 .rfl
def add_zero (a:j0):a.add 0=a:=by unfold Addr.add;rfl
end Go.EB
namespace Go.Sq
open Go.RowKit Go.EB Go.ChangeShapes Go.Deep
def lI {W:bl}{a:j0}{l:List Int}(h:∀i,i<l.L->W.S (a.add i)=I (bq br (l.LH i 0))):RI (GZ W) W.L.size (I a) l:=λzU=>by
 have h0:=h 0 (List.length_pos_iff.2 zU);rw[add_zero] at h0;obtain⟨hs,C,t,f,h1,_⟩:=IP h0;obtain⟨b,o,s⟩:=a;dsimp only at hs h1;subst hs;refine⟨b,o,rfl,(AJ.1 h1).1,λi x hx=>?_⟩;have hi:=(Be.1 hx).1;have:=h i hi;rw[fh,CB,hx] at this;exact bF this (dC _ _)
def Jq {α:Type}{P:Nat->α->Prop}:∀n,(∀i,i<n->∃x,P i x)->∃l:List α,l.L=n/\∀i x,l[i]?=I x->P i x
 |0,_=>⟨[],rfl,λi x h=>by simp at h⟩
 |n+1,h=>by
  obtain⟨l,h1,h2⟩:=Jq n λi hi=>h i (by omega);obtain⟨x,hx⟩:=h n (by omega);refine⟨l++[x],by simp[h1],λi y hy=>?_⟩;by_cases hi:i<n
  .rw[BF (by omega)] at hy;exact h2 i y hy
  .have:=(Be.1 hy).1;rw[B4,List.length_singleton,h1] at this;obtain rfl:i=n:=by omega
   rw[BM (by omega),h1,Nat.sub_self] at hy;cases hy;exact hx
variable {P:sw} {H:Type} {enc:dn×bk->H} {W:bl} {held:Bool}
def Ki {t e:dn}{fuel:Nat}{cs:List bk}{x:lx H×List fW}(ht:P.LH t=I (.slice e))(he:P.LH e=I (.int br))(hc:P.LT e=1)
  (h:fq enc P W 0 (λ_=>bc) held fuel t cs=I x):∃A len cap l,cs=[J A len cap]/\l.L=len/\len<=maxLen/\G9 W (J A len cap)/\RI (GZ W) W.L.size A l:=by
 obtain⟨rfl,_⟩|⟨a,len,cap,zs,rfl,_,h1,h2,h3,_,h4,_⟩:=open_ints ht he hc h
 .exact⟨bb,0,0,[],rfl,rfl,Bg _,bz (AK _) (λ_ e=>by cases e),.nil⟩
 .simp only[if_true] at h3;refine⟨I a,len,cap,zs.LT len,rfl,by simp;omega,by omega,bz h1 λa' e hp=>?_,lI λi hi=>?_⟩
  .cases e
   have:=h4 0 (by omega);rw[add_zero] at this;exact⟨_,this⟩
  .have hi:i<len:=by simp at hi;omega
   rw[h4 i (by omega),CB,CB,Cl,AP hi]
def N7 {t e q:dn}{fuel:Nat}{cs:List bk}{x:lx H×List fW}(ht:P.LH t=I (.slice e))(he:P.LH e=I (.slice q))(hq:P.LH q=I (.int br))(ce:P.LT e=1)(cq:P.LT q=1)
  (h:fq enc P W 0 (λ_=>bc) held fuel t cs=I x):∃A len cap ls,cs=[J A len cap]/\ls.L=len/\len<=maxLen/\(∀y∈ls,y.L<=maxLen)/\G9 W (J A len cap)/\E7 (GZ W) W.L.size A ls:=by
 obtain⟨rfl,_⟩|⟨a,len,cap,A,L,C,Z,rfl,_,h1,h2,_,h3⟩:=open_int_rows ht he hq ce cq h
 .exact⟨bb,0,0,[],rfl,rfl,Bg _,by simp,bz (AK _) (λ_ e=>by cases e),λh=>AS rfl h⟩
 .have a6 : ∀ r, r < cap -> G9 W (.slice (A r) (L r) (C r)) := fun r hr => by
   obtain⟨_,g1,g2,_,_,_,g5⟩:=h3 r hr;refine bz g1 λa' e hp=>?_;have:=(g5 a' e).2 0 hp;rw[add_zero] at this;exact⟨_,this⟩
  refine⟨I a,len,cap,(df len).map λr=>(Z r).LT (L r),rfl,by simp,by omega,λy hy=>?_,bz h1 λa' e hp=>?_,λzU=>?_⟩
  .obtain⟨r,hr,rfl⟩:=Bu.1 hy;have hr:=BQ.1 hr;obtain⟨_,g1,g2,_⟩:=h3 r (by omega);simp;omega
  .cases e
   have:=(h3 0 (by omega)).1;rw[add_zero] at this;exact⟨_,this⟩
  .have zk : 0 < len := by
    obtain e|e:=Bw len
    .subst e;exact AS rfl zU
    .exact e
   obtain⟨c0,_⟩:=h3 0 (by omega);rw[add_zero] at c0;obtain⟨hs,C',t',f',c1,_⟩:=IP c0;obtain⟨b,o,s⟩:=a;dsimp only at hs c1;subst hs;refine⟨b,o,rfl,(AJ.1 c1).1,λi l hl=>?_⟩;have hi:i<len:=by
    have:=(Be.1 hl).1;simpa using this
   rw[Bv,CU hi] at hl;cases hl;obtain⟨g0,g1,g2,g3,_,g4,g5⟩:=h3 i (by omega);rw[fh] at g0;have el:((Z i).LT (L i)).L=L i:=by simp;omega
   refine⟨A i,C i,by rw[el];exact bF g0 (a6 i (by omega)),?_⟩;cases hA:A i with
   |none =>
    have:L i=0:=by have:=g4 hA;omega
    dsimp only;rw[this,List.take_zero];exact .nil
   |some a' =>
    refine lI λj hj=>?_;dsimp only at hj ⊢;rw[el] at hj;rw[(g5 a' hA).2 j (by omega),CB,CB,Cl,AP hj]
open Go.Proofs
def O5:Tryz.prog.LT 25=2/\Tryz.prog.LT 22=1/\Tryz.prog.LT 23=1/\Tryz.prog.LT 3=1/\Tryz.prog.LT 57=4/\Tryz.prog.LT 26=1:=⟨by kernel_rfl,by kernel_rfl,by kernel_rfl,by kernel_rfl,by kernel_rfl,by kernel_rfl⟩
variable {H:Type} {enc:dn×bk->H} {W:bl} {held:Bool}
def M4 {a:j0}{cs:List bk}(h:W.cells? 0 a 4=I cs):∃c0 c1 c2 c3,cs=[c0,c1,c2,c3]/\W.S a=I c0/\W.S (a.add 1)=I c1/\W.S (a.add 2)=I c2/\W.S (a.add 3)=I c3:=by
 unfold sy at h;rw[AP (Bg _)] at h;simp only[df,bs,q7,q8,k9,oq,j1,l9] at h;obtain⟨c0,h0,_,⟨c1,h1,_,⟨c2,h2,_,⟨c3,h3,_,rfl,rfl⟩,rfl⟩,rfl⟩,rfl⟩:=h;rw[add_zero] at h0;exact⟨c0,c1,c2,c3,rfl,h0,h1,h2,h3⟩
def oz {fuel b o:Nat}{cs:List bk}{x:lx H×List fW}(hc:W.cells? 0 ⟨b,o,bb⟩ 4=I cs)(h:fq enc Y W 0 (λ_=>bc) held fuel 57 cs=I x) :
  ∃h:EZ,MJ (GZ W) W.L.size b o h/\h.off.L<=maxLen:=by
 obtain⟨c0,c1,c2,c3,rfl,h0,h1,h2,h3⟩:=M4 hc;obtain⟨a7,a6,a8,e3,aA,_⟩:=O5;obtain⟨xs,n,_,_,_,_,hf⟩:=mm Tryz.underlying57 h;have f0:fq enc Y W 0 (λ_=>bc) held n 3 (([c0,c1,c2,c3].drop 0).LT (Tryz.prog.LT 3))=xs[0]?:=hf 0 _ rfl;have f1:fq enc Y W 0 (λ_=>bc) held n 3 (([c0,c1,c2,c3].drop 1).LT (Tryz.prog.LT 3))=xs[1]?:=hf 1 _ rfl
 have f2:fq enc Y W 0 (λ_=>bc) held n 3 (([c0,c1,c2,c3].drop 2).LT (Tryz.prog.LT 3))=xs[2]?:=hf 2 _ rfl;have f3:fq enc Y W 0 (λ_=>bc) held n 22 (([c0,c1,c2,c3].drop 3).LT (Tryz.prog.LT 22))=xs[3]?:=hf 3 _ rfl;have el:xs.L=4:=‹xs.L=_›;obtain⟨x0,x1,x2,x3,rfl⟩:∃x0 x1 x2 x3,xs=[x0,x1,x2,x3]:=by
  match xs,el with
  |[x0,x1,x2,x3],_=>exact⟨_,_,_,_,rfl⟩
 rw[e3] at f0 f1 f2;rw[a6] at f3;obtain⟨k0,q0,_⟩:=gg dr f0;obtain⟨k1,q1,_⟩:=gg dr f1;obtain⟨k2,q2,_⟩:=gg dr f2;obtain⟨A,len,cap,l,q3,hl,hm,hk,hr⟩:=Ki fu dr e3 f3;cases q0;cases q1;cases q2;cases q3;rw[fh] at h1 h2 h3;subst hl;exact⟨⟨k0,k1,k2,l⟩,⟨bF h0 (dC _ _),bF h1 (dC _ _),bF h2 (dC _ _),A,cap,bF h3 hk,hr⟩,hm⟩
def LL {fuel:Nat}{cs:List bk}{x:lx H×List fW}(h:fq enc Y W 0 (λ_=>bc) held fuel 23 cs=I x) :
  ∃(A:Option j0) (len cap:Nat) (hs:List EZ),cs=[J A len cap]/\hs.L=len/\len<=maxLen/\(∀y∈hs,y.off.L<=maxLen)/\G9 W (J A len cap)/\Fe (GZ W) W.L.size A hs:=by
 obtain⟨a7,a8,aA,e3,a6,_⟩:=O5;obtain⟨rfl,_⟩|⟨a,len,cap,m,n,D,Pl,rfl,_,h1,h2,h3,_,h4⟩:=open_slice Tryz.underlying23 h
 .exact⟨bb,0,0,[],rfl,rfl,Bg _,by simp,bz (AK _) (λ_ e=>by cases e),λh=>AS rfl h⟩
 .simp only[if_true] at h3;subst h3;rw[a6] at h4;have hk:G9 W (.slice (I a) len m):=bz h1 λa' e hp=>by
   cases e
   obtain⟨cs',g1,_⟩:=h4 0 hp;obtain⟨c0,c1,c2,c3,_,g2,_⟩:=M4 g1;rw[Db,add_zero] at g2;exact⟨_,g2⟩
  obtain e|e:=Bw len
  .subst e;exact⟨I a,0,m,[],rfl,rfl,Bg _,by simp,hk,λh=>AS rfl h⟩
  .obtain⟨cs',g1,_⟩:=h4 0 (by omega);obtain⟨c0,c1,c2,c3,_,g2,_⟩:=M4 g1;rw[Db,add_zero] at g2;obtain⟨hs,C',t',f',c1,_⟩:=IP g2;obtain⟨b,o,s⟩:=a;dsimp only at hs c1;subst hs;obtain⟨l,hl,hat⟩:=Jq (P:=λi h=>MJ (GZ W) W.L.size b (o+i*4) h/\h.off.L<=maxLen) len λi hi=>by
    obtain⟨cs',g1,g2⟩:=h4 i (by omega);rw[fh] at g1;exact oz g1 g2
   refine⟨_,len,m,l,rfl,hl,by omega,λy hy=>?_,hk,λ_=>⟨b,o,rfl,(AJ.1 c1).1,λi h hi=>(hat i h hi).1⟩⟩;obtain⟨i,hi,rfl⟩:=Cr.1 hy;exact(hat i _ (AL hi)).2
def N9 {base:Nat}{r:Reach}{v:bk}{d:lx H}{p:List fW}(hv:hZ Y W r base 25 v)(h:ek enc Y W 0 (λ_=>bc) held 25 v d p) :
  ∃nA hA nc hc c,v=En nA hA c nc hc/\G9 W v/\RI (GZ W) W.L.size nA c.D9/\Fe (GZ W) W.L.size hA c.D8/\c.D9.L<=maxLen/\c.D8.L<=maxLen/\∀y∈c.D8,y.off.L<=maxLen:=by
 obtain⟨a7,a8,aA,e3,aG,_⟩:=O5;unfold hZ at hv;rw[mA] at hv;obtain⟨cs,rfl,zv,_⟩:=hv;obtain⟨fuel,h⟩:=h;obtain⟨y0,y1,n,_,hl,h0,h1⟩:=trod_struct2 mA h;simp only[a8,aA,List.drop_zero] at h0 h1;have zW:∃a b,cs=#[a,b]:=by
  rw[a7] at zv;obtain⟨l⟩:=cs
  match l,zv with
  |[a,b],_=>exact⟨a,b,rfl⟩
 obtain⟨a,b,rfl⟩:=zW;obtain⟨A,len,cap,l,q,Gg,aB,aC,zi⟩:=Ki fu dr e3 h0;obtain⟨A2,aF,a6,l2,q2,zC,aD,hx,zn,zy⟩:=LL h1;simp[s9] at q q2;subst q q2 Gg zC
 exact⟨A,A2,cap,a6,⟨l,l2⟩,rfl,λS=>.agg rfl λi v V h1 h2=>by
  rw[h1] at h2;cases h2
  match i,h1 with
  |0,h1=>cases h1;exact aC S
  |1,h1=>cases h1;exact zn S,zi,zy,aB,aD,hx⟩
open Go.Co Go.Conc Go.ConcN
def EG {a:Act}{v:bk}{d:Nat}(h:d<a.tmps.size):(a.put (I d) v).tmps.LH d undef=v:=by
 show(a.tmps.L d v).LH d undef=v;simp[Array.getD,h]
def nN {a:Act}{v:bk}{d:Nat}:(a.put (I d) v).tmps.size=a.tmps.size:=Array.size_setIfInBounds
noncomputable def Au:LawIn 3 I8 0 [1] [.code kD] where
 fn:=qf
 o:=I8.LH 0 default
 d:=46
 t:=12
 n:=277
 N:=tG
 hf:=lA
 ho:=by kernel_rfl
 Qp:=by kernel_rfl
 hop:=⟨#[],by kernel_rfl⟩
 plain:=by kernel_rfl
 hres:=by kernel_rfl
 looked:=by decide
 hn:=tr
 want a h:=bt (by kernel_rfl)
 NP a h:=h.2
 pure a h:=by
  obtain⟨h1,h2⟩:=h;have g1:(I8.LH 1 default).guard=none:=by kernel_rfl
  have o1:(I8.LH 1 default).op=.assign (.tmp 46):=by kernel_rfl
  have d1:(I8.LH 1 default).L=I 12:=by kernel_rfl
  have s1:(a.put (I 46) (.bool bc)).tmps.size=277:=by rw[nN];exact h1
  refine⟨(a.put (I 46) (.bool bc)).put (I 12) (.bool bc),.cons (o:=I8.LH 1 default) (v:=.bool bc) (by kernel_rfl) (bt g1) (by kernel_rfl) (λw=>?_) ?_,h2,EG (by rw[s1];decide)⟩
  .unfold execOp;rw[o1];have e1:(a.put (I 46) (.bool bc)).eval (.tmp 46)=.bool true:=EG (by rw[h1];decide);simp[e1]
  .rw[d1];exact .nil _
noncomputable def Aw:LawIn 3 Jt 0 [1] [] where
 fn:=qf
 o:=Jt.LH 0 default
 d:=276
 t:=12
 n:=277
 N:=tG
 hf:=lA
 ho:=by kernel_rfl
 Qp:=by kernel_rfl
 hop:=⟨#[],by kernel_rfl⟩
 plain:=by kernel_rfl
 hres:=by kernel_rfl
 looked:=by decide
 hn:=tr
 want a h:=bt (by kernel_rfl)
 NP a h:=h.2
 pure a h:=by
  obtain⟨h1,h2⟩:=h;have g1:(Jt.LH 1 default).guard=none:=by kernel_rfl
  have o1:(Jt.LH 1 default).op=.assign (.tmp 276):=by kernel_rfl
  have d1:(Jt.LH 1 default).L=I 12:=by kernel_rfl
  have s1:(a.put (I 276) (.bool bc)).tmps.size=277:=by rw[nN];exact h1
  refine⟨(a.put (I 276) (.bool bc)).put (I 12) (.bool bc),.cons (o:=Jt.LH 1 default) (v:=.bool bc) (by kernel_rfl) (bt g1) (by kernel_rfl) (λw=>?_) ?_,h2,EG (by rw[s1];decide)⟩
  .unfold execOp;rw[o1];have e1:(a.put (I 276) (.bool bc)).eval (.tmp 276)=.bool true:=EG (by rw[h1];decide);simp[e1]
  .rw[d1];exact .nil _
def lY:codeOk D7 IH cw bc dV=true:=by kernel_rfl
def cg {v0 v1 v2 v3 v4 v5:bk}{X:Array bk}:∀i,i<6->((#[v0,v1,v2,v3,v4,v5]:Array bk)++X)[i]?.LH undef=(#[v0,v1,v2,v3,v4,v5]:Array bk)[i]?.LH undef:=λi hi=>by
 rw[Dh (by simpa using hi)]
def Oj {nA hA gA rA A:Option j0}{nc hc gc rc cap:Nat}{c:Ek}{ls:List (List Int)}{rs:List (Int×Int)}{x1 x2 price:Int}{l:List Int}{W:bl}(k0:G9 W (En nA hA c nc hc))(k1:G9 W (J gA ls.L gc))(k2:G9 W (J rA rs.L rc))(k3:G9 W (.agg #[bq br x1,bq br x2]))(k5:G9 W (J A l.L cap))
  (hn:RI (GZ W) W.L.size nA c.D9) (hh:Fe (GZ W) W.L.size hA c.D8) (hg:E7 (GZ W) W.L.size gA ls) (hq:FA (GZ W) W.L.size rA rs) (Im:rs.L<=rc) (hr:RI (GZ W) W.L.size A l) (Gg:c.D9.L<=maxLen) (zC:c.D8.L<=maxLen) (G4:∀h∈c.D8,h.off.L<=maxLen) (zq:ls.L<=maxLen) (Io:∀x∈ls,x.L<=maxLen) (a7:rs.L<=maxLen) :
  ∃M last o w' t',runNT Y (M+1) (solo (bw (eb Y 3 #[En nA hA c nc hc,J gA ls.L gc,J rA rs.L rc,.agg #[bq br x1,bq br x2],bq br price,J A l.L cap] .L) []) W) #[]=(.ended o w',t')/\runN Y M (solo (bw (eb Y 3 #[En nA hA c nc hc,J gA ls.L gc,J rA rs.L rc,.agg #[bq br x1,bq br x2],bq br price,J A l.L cap] .L) []) W)=.next last/\step Y last=.ended o w' /\
   kn Y (λv w'=>v=.bool bc/\(w'.os=W.os/\w'.output=W.output)/\W.L.size<=w'.L.size/\∀B,B<W.L.size->w'.L[B]?=W.L[B]?) last o w' t':=by
 have a6:∀S,Ei S (E0 λb=>Lp W b=bc) #[En nA hA c nc hc,J gA ls.L gc,J rA rs.L rc,.agg #[bq br x1,bq br x2],bq br price,J A l.L cap] #[En nA hA c nc hc,J gA ls.L gc,J rA rs.L rc,.agg #[bq br x1,bq br x2],bq br price,J A l.L cap]:=λS=>⟨rfl,λi v V h1 h2=>by
  rw[h1] at h2;cases h2
  match i,h1 with
  |0,h1=>cases h1;exact k0 S
  |1,h1=>cases h1;exact k1 S
  |2,h1=>cases h1;exact k2 S
  |3,h1=>cases h1;exact k3 S
  |4,h1=>cases h1;exact .int _ _
  |5,h1=>cases h1;exact k5 S⟩
 have em:maxLen=9223372036854775807:=by unfold maxLen;omega
 have hz:∀τ d,(on (GZ W) τ d).L.size=W.L.size:=λτ d=>ot;have eT:(#[En nA hA c nc hc,J gA ls.L gc,J rA rs.L rc,.agg #[bq br x1,bq br x2],bq br price,J A l.L cap]:Array bk)++ed (277-6) undef=T 277 λi=>((#[En nA hA c nc hc,J gA ls.L gc,J rA rs.L rc,.agg #[bq br x1,bq br x2],bq br price,J A l.L cap]:Array bk)++ed (277-6) undef)[i]?.LH undef:=zb (by simp)
 cases hs:GI c&&(J2 ls&&decide (rs.L<=20)) with
 |false =>
  refine i8 (K:=Lp W) (k:=NA W) Au (C:=dV) (by kernel_rfl) (by decide) (by decide) (by decide) lY (kj W) a6 λτ d=>?_;show aY D7 _ _ _ ⟨_++ed (277-6) undef,[]⟩ _;rw[eT];exact yb (nA:=nA) (hA:=hA) (gA:=gA) (rA:=rA) (nc:=nc) (hc:=hc) (gc:=gc) (rc:=rc) (c:=c) (ls:=ls) (rs:=rs) (x1:=x1) (x2:=x2) (cg 0 (by omega)) (cg 1 (by omega)) (cg 2 (by omega)) (cg 3 (by omega)) (by rw[hz];exact hh) (by rw[hz];exact hg) (AU Gg (BJ em)) (AU zC (BJ em)) (λh hh=>AU (G4 h hh) (BJ em)) (AU zq (BJ em)) (λx hx=>AU (Io x hx) (BJ em)) (AU a7 (BJ em)) hs
 |true =>
  refine i8 (K:=Lp W) (k:=NA W) Aw (C:=dV) (by kernel_rfl) (by decide) (by decide) (by decide) lY (kj W) a6 λτ d=>?_;show aY D7 _ _ _ ⟨_++ed (277-6) undef,[]⟩ _;rw[eT];exact yd (nA:=nA) (hA:=hA) (gA:=gA) (rA:=rA) (A:=A) (nc:=nc) (hc:=hc) (gc:=gc) (rc:=rc) (cap:=cap) (c:=c) (ls:=ls) (rs:=rs) (x1:=x1) (x2:=x2) (price:=price) (l:=l) (cg 0 (by omega)) (cg 1 (by omega)) (cg 2 (by omega)) (cg 3 (by omega)) (cg 4 (by omega)) (cg 5 (by omega)) (by rw[hz];exact hn) (by rw[hz];exact hh) (by rw[hz];exact hg) (by rw[hz];exact hq) Im (by rw[hz];exact hr) hs
variable {H:Type} {enc:dn×bk->H} {W:bl} {held:Bool}
def zg:Tryz.prog.LT 29=2:=by kernel_rfl
def Nb {a:j0}{cs:List bk}(h:W.cells? 0 a 2=I cs):∃c0 c1,cs=[c0,c1]/\W.S a=I c0/\W.S (a.add 1)=I c1:=by
 unfold sy at h;rw[AP (Bg _)] at h;simp only[df,bs,q7,q8,k9,oq,j1,l9] at h;obtain⟨c0,h0,_,⟨c1,h1,_,rfl,rfl⟩,rfl⟩:=h;rw[add_zero] at h0;exact⟨c0,c1,rfl,h0,h1⟩
def P5 {fuel:Nat}{c0 c1:bk}{x:lx H×List fW}(h:fq enc Y W 0 (λ_=>bc) held fuel 29 [c0,c1]=I x):∃z0 z1:Int,c0=bq br z0/\c1=bq br z1:=by
 obtain⟨a6,a7,a8,e3,aA,_⟩:=O5;obtain⟨xs,n,_,_,_,_,hf⟩:=mm ng h;have f0:fq enc Y W 0 (λ_=>bc) held n 3 (([c0,c1].drop 0).LT (Tryz.prog.LT 3))=xs[0]?:=hf 0 _ rfl;have f1:fq enc Y W 0 (λ_=>bc) held n 3 (([c0,c1].drop 1).LT (Tryz.prog.LT 3))=xs[1]?:=hf 1 _ rfl;have el:xs.L=2:=‹xs.L=_›;obtain⟨x0,x1,rfl⟩:∃x0 x1,xs=[x0,x1]:=by
  match xs,el with
  |[x0,x1],_=>exact⟨_,_,rfl⟩
 rw[e3] at f0 f1;obtain⟨k0,q0,_⟩:=gg dr f0;obtain⟨k1,q1,_⟩:=gg dr f1;cases q0;cases q1;exact⟨k0,k1,rfl,rfl⟩
def Nc {base:Nat}{r:Reach}{v:bk}{d:lx H}{p:List fW}(hv:hZ Y W r base 29 v)(h:ek enc Y W 0 (λ_=>bc) held 29 v d p) :
  ∃z0 z1:Int,v=.agg #[bq br z0,bq br z1]/\G9 W v:=by
 unfold hZ at hv;rw[ng] at hv;obtain⟨cs,rfl,zv,_⟩:=hv;obtain⟨fuel,h⟩:=h;have zW:∃a b,cs=#[a,b]:=by
  rw[zg] at zv;obtain⟨l⟩:=cs
  match l,zv with
  |[a,b],_=>exact⟨a,b,rfl⟩
 obtain⟨c0,c1,rfl⟩:=zW;obtain⟨z0,z1,rfl,rfl⟩:=P5 h
 exact⟨z0,z1,rfl,λS=>.agg rfl λi v V h1 h2=>by
  rw[h1] at h2;cases h2
  match i,h1 with
  |0,h1=>cases h1;exact .int _ _
  |1,h1=>cases h1;exact .int _ _⟩
def Nd {fuel:Nat}{cs:List bk}{x:lx H×List fW}(h:fq enc Y W 0 (λ_=>bc) held fuel 27 cs=I x) :
  ∃(A:Option j0) (len cap:Nat) (rs:List (Int×Int)),cs=[J A len cap]/\rs.L=len/\len<=cap/\len<=maxLen/\G9 W (J A len cap)/\FA (GZ W) W.L.size A rs:=by
 obtain⟨rfl,_⟩|⟨a,len,cap,m,n,D,Pl,rfl,_,h1,h2,h3,_,h4⟩:=open_slice nh h
 .exact⟨bb,0,0,[],rfl,rfl,Bg _,Bg _,bz (AK _) (λ_ e=>by cases e),λh=>AS rfl h⟩
 .simp only[if_true] at h3;subst h3;rw[zg] at h4;have hk:G9 W (.slice (I a) len m):=bz h1 λa' e hp=>by
   cases e
   obtain⟨cs',g1,_⟩:=h4 0 hp;obtain⟨c0,c1,_,g2,_⟩:=Nb g1;rw[Db,add_zero] at g2;exact⟨_,g2⟩
  obtain e|e:=Bw len
  .subst e;exact⟨I a,0,m,[],rfl,rfl,Bg _,Bg _,hk,λh=>AS rfl h⟩
  .obtain⟨cs',g1,_⟩:=h4 0 (by omega);obtain⟨c0,c1,_,g2,_⟩:=Nb g1;rw[Db,add_zero] at g2;obtain⟨hs,C',t',f',c1,_⟩:=IP g2;obtain⟨b,o,s⟩:=a;dsimp only at hs c1;subst hs;obtain⟨l,hl,hat⟩:=Jq (P:=λi (y:Int×Int)=>(GZ W).S ⟨b,o+i*2,bb⟩=I (bq br y.1)/\(GZ W).S ⟨b,o+i*2+1,bb⟩=I (bq br y.2)) len λi hi=>by
    obtain⟨cs',g1,g2⟩:=h4 i (by omega);rw[fh] at g1;obtain⟨d0,d1,rfl,k0,k1⟩:=Nb g1;obtain⟨z0,z1,rfl,rfl⟩:=P5 g2;rw[fh] at k1;exact⟨(z0,z1),bF k0 (dC _ _),bF k1 (dC _ _)⟩
   exact⟨_,len,m,l,rfl,hl,h1,by omega,hk,λ_=>⟨b,o,rfl,(AJ.1 c1).1,hat⟩⟩
end Go.Sq
namespace Go.Proofs.YtbnfgnhhfmmejaaGreat
open Go.ChangeShapes Go.WideShapes Go.ChangeAt Go.RowKit Go.Conc Go.EB Go.Sq
def Tryz.LH:ownKnob Tryz.prog.godebug=none:=by kernel_rfl
def Tryz.laidOut:laidOutB Y=true:=by kernel_rfl
def dF {H:Type}{enc:dn×bk->H}{P:sw}{w:bl}{base:Nat}{spare:Nat->Bool}{held:Bool}{t:dn}{ts:List dn}{v:bk}{vs:List bk}{d:lx H}{ds:List (lx H)}{p p':List fW}(h:ek enc P w base spare held t v d p)(hs:jx enc P w base spare held ts vs ds p'):jx enc P w base spare held (t::ts) (v::vs) (d::ds) (p++p'):=⟨p,p',h,hs,rfl⟩
def MD {H:Type}{enc:dn×bk->H}{P:sw}{w:bl}{base:Nat}{spare:Nat->Bool}{held:Bool}{t0 t1 t2 t3 t4 t5:dn}{args:Array bk}{ds:List (lx H)}{ps:List fW}(h:jx enc P w base spare held [t0,t1,t2,t3,t4,t5] args.LK ds ps) :
  ∃v0 v1 v2 v3 v4 v5 d0 d1 d2 d3 d4 d5 p0 p1 p2 p3 p4 p5,args=#[v0,v1,v2,v3,v4,v5]/\ds=[d0,d1,d2,d3,d4,d5]/\ps=p0++(p1++(p2++(p3++(p4++(p5++[])))))/\ek enc P w base spare held t0 v0 d0 p0/\ek enc P w base spare held t1 v1 d1 p1/\ek enc P w base spare held t2 v2 d2 p2 /\
   ek enc P w base spare held t3 v3 d3 p3/\ek enc P w base spare held t4 v4 d4 p4/\ek enc P w base spare held t5 v5 d5 p5:=by
 obtain⟨v0,vs,d0,a6,p0,q,e,rfl,rfl,h0,h⟩:=gB h;obtain⟨v1,vs,d1,a6,p1,q,rfl,rfl,rfl,h1,h⟩:=gB h;obtain⟨v2,vs,d2,a6,p2,q,rfl,rfl,rfl,h2,h⟩:=gB h;obtain⟨v3,vs,d3,a6,p3,q,rfl,rfl,rfl,h3,h⟩:=gB h;obtain⟨v4,vs,d4,a6,p4,q,rfl,rfl,rfl,h4,h⟩:=gB h;obtain⟨v5,vs,d5,a6,p5,q,rfl,rfl,rfl,h5,h⟩:=gB h;obtain⟨rfl,rfl,rfl⟩:=trodAll_nil h;obtain⟨l⟩:=args
 exact⟨v0,v1,v2,v3,v4,v5,d0,d1,d2,d3,d4,d5,p0,p1,p2,p3,p4,p5,by cases e;rfl,rfl,rfl,h0,h1,h2,h3,h4,h5⟩
def jz (os:Os)(started:os.Started)(H:Type)(enc:dn×bk->H)(F:Stop.Interp) :
  ReturnsInLeavingWide { calm:=bc } np os 3 .any (Rows.wolfRaidsSpec.pre6 enc Y qf [] cw) ((OpenSpec.ofChange Rows.wolfRaidsSpec).postWith enc Y qf F (outsideKept [.timePasses]) cw bc cw):=by
 refine returnsInLeavingWide_of_change_time (C:=np) Tryz.LH started lA
  (ChangeSpec.witness6c (enc:=enc) (C:=np) ⟨#[],#[.agg #[.slice bb 0 0,.slice bb 0 0],.slice bb 0 0,.slice bb 0 0,.agg #[bq br 0,bq br 0],bq br 0,.slice bb 0 0],[]⟩ 8 (by kernel_rfl) (by kernel_rfl) (by kernel_rfl) (by kernel_rfl)) ?_
 intro W base args ds gs before a7 hW _ _ _;have hval:∀(j:Nat) t v,Tryz.f3.params[j]?=I t->args[j]?=I v->hZ Y W .any base t v:=a7;have a8:=hW;obtain⟨p,q,hA0,hV,rfl,_,_⟩:=hW;have hA:jx enc Y W 0 (λ_=>bc) bc Tryz.f3.params.LK args.LK ds p:=hA0;rw[Tryz.params3] at hA hval;obtain⟨v0,v1,v2,v3,v4,v5,d0,d1,d2,d3,d4,d5,p0,p1,p2,p3,p4,p5,rfl,rfl,rfl,h0,h1,h2,h3,h4,h5⟩:=MD hA
 obtain⟨rfl,rfl⟩:=trodVars_none hV;simp only[CM] at a8;have zY:∀x∈p0++(p1++(p2++(p3++(p4++p5)))),x.LE<W.L.size:=λx hx=>by simpa using a8.lt x hx
 clear hA0 a7;obtain⟨nA,hA1,nc,hc,c,rfl,k0,hn,hh,Gg,zC,G4⟩:=N9 (hval 0 _ v0 rfl rfl) h0;obtain⟨x1,x2,rfl,k3⟩:=Nc (hval 3 _ v3 rfl rfl) h3;obtain⟨a1,len1,aA,rfl⟩:=okWide_slice nx (hval 1 _ v1 rfl rfl);obtain⟨a3,len3,aB,rfl⟩:=okWide_slice nh (hval 2 _ v2 rfl rfl);obtain⟨a2,aG,aC,rfl⟩:=okWide_slice fu (hval 5 _ v5 rfl rfl);obtain⟨price,rfl,_⟩:=okWide_int dr (hval 4 _ v4 rfl rfl)
 obtain⟨aH,aD,aI,e3,aJ,e36⟩:=O5;obtain⟨gA,gl,gc,ls,zu,rfl,zq,Io,k1,hg⟩:=N7 nx fu dr aD e3 h1.choose_spec;obtain⟨rA,rl,rc,rs,hc3,rfl,Im,aF,k2,hq⟩:=Nd h2.choose_spec;obtain⟨A,ll,cap,l,zr,rfl,_,k5,hr⟩:=Ki fu dr e3 h5.choose_spec;simp[s9] at zu zr hc3;obtain⟨rfl,rfl,rfl⟩:=zu;obtain⟨rfl,rfl,rfl⟩:=zr
 obtain⟨rfl,rfl,rfl⟩:=hc3;obtain⟨M,last,o,w',t',r1,r2,r3,r4⟩:=Oj (price:=price) k0 k1 k2 k3 k5 hn hh hg hq Im hr Gg zC G4 zq Io aF;refine⟨M,last,o,w',t',r1,r2,r3,r4.LT λv hF=>?_⟩;obtain⟨rfl,⟨e1,e2⟩,e3,e4⟩:=hF;refine⟨?_,by rw[e1];exact Go.ConcM.OsLater.refl _⟩;have a6:Below W.L.size W { w' with os:=W.os,tape:=W.tape }:=⟨rfl,rfl,e2,e3,λk hk=>e4 k hk⟩;have zR:=a6.L (λx=>x∈p0++(p1++(p2++(p3++(p4++p5))))/\(x∈([]:List fW)\/x∈p0++(p1++(p2++(p3++(p4++(p5++[])))))\/x∈([]:List fW)))
 have g0:=ik Tryz.laidOut (by kernel_rfl) (Ca (by kernel_rfl)) h0 a6 λx hx=>zY x (by simp[hx]);have g1:=ik Tryz.laidOut (by kernel_rfl) (Ca (by kernel_rfl)) h1 a6 λx hx=>zY x (by simp[hx]);have g2:=ik Tryz.laidOut (by kernel_rfl) (Ca (by kernel_rfl)) h2 a6 λx hx=>zY x (by simp[hx]);have g3:=ik Tryz.laidOut (by kernel_rfl) (Ca (by kernel_rfl)) h3 a6 λx hx=>zY x (by simp[hx])
 have g4:=ik Tryz.laidOut (by kernel_rfl) (Ca (by kernel_rfl)) h4 a6 λx hx=>zY x (by simp[hx]);have g5:=ik Tryz.laidOut (by kernel_rfl) (Ca (by kernel_rfl)) h5 a6 λx hx=>zY x (by simp[hx]);refine⟨_,_,_,[],p0++(p1++(p2++(p3++(p4++(p5++[]))))),[],a8,?_,?_,rfl,zR,λh=>by cases h⟩
 .exact trodAll_mk1 (shut_bool (by first|exact Tryz.underlying1|kernel_rfl) bc)
 .have q0:ek enc Y { w' with os:=W.os } 0 (λb=>decide (b<W.L.size)) bc 25 (En nA hA1 c nc hc) d0 p0:=g0.of_heap (by rfl);have q1:ek enc Y { w' with os:=W.os } 0 (λb=>decide (b<W.L.size)) bc 26 (.slice a1 ls.L aA) d1 p1:=g1.of_heap (by rfl);have q2:ek enc Y { w' with os:=W.os } 0 (λb=>decide (b<W.L.size)) bc 27 (.slice a3 rs.L aB) d2 p2:=g2.of_heap (by rfl)
  have q3:ek enc Y { w' with os:=W.os } 0 (λb=>decide (b<W.L.size)) bc 29 (.agg #[bq br x1,bq br x2]) d3 p3:=g3.of_heap (by rfl);have q4:ek enc Y { w' with os:=W.os } 0 (λb=>decide (b<W.L.size)) bc 3 (bq br price) d4 p4:=g4.of_heap (by rfl);have q5:ek enc Y { w' with os:=W.os } 0 (λb=>decide (b<W.L.size)) bc 22 (.slice a2 l.L aC) d5 p5:=g5.of_heap (by rfl)
  exact dF q0 (dF q1 (dF q2 (dF q3 (dF q4 (dF q5 trodAll_mk0)))))
theorem wolfRaids_holds:Rows.WolfRaidsSaid :=
 OpenClaim.holds_of_wide_leaving_time 3 qf rfl rfl rfl rfl rfl rfl rfl ⟨rfl,rfl,rfl,rfl,rfl⟩ rfl rfl rfl rfl rfl ye lA vw
  (Ca (by kernel_rfl)) (by unfold Func.isWrapper;first|(rw[AP (by decide +kernel)];kernel_rfl)|(rw[AN (by decide +kernel)];exact⟨rfl,rfl⟩))
  (λos started H enc _ F=>jz os started H enc F)
end Go.Proofs.YtbnfgnhhfmmejaaGreat
