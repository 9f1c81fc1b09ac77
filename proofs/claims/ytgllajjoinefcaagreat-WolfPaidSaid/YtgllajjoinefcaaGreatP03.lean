/- Parts of the proof. -/
import Derived.Test.YtgllajjoinefcaaGreatP02
set_option linter.all false
set_option maxHeartbeats 3200000
open Go renaming Goroutine->Z,World->Y,deafBehind->V,FuncId->bh,Event->bD,Program->b6,Frame->b7,Trace->b8,stepG->eb,Machine->eo
open Go.MemOp renaming ofEvents->J
open Go.MemAct renaming ofEvent->U,touch?->bl,low->b5,low_mono->dS
open Go.ConcN renaming upd_same->I,upd_ne->F,Mode->br,bk_cell->cf,get_map_set_same->ck,deafBehind_idle->ea,CTag->ez,WgLive->eA
open Go.Conc renaming mem_ofEvents->X,aside_setCell->bs,semEvents->bA,getElem?_append_cases->df,ofEvents_eq->di,woken->ed,crowd->ek,touch_of->er,Deaf_own->ew
open Option renaming some->C,none->bW
open Bool renaming false->bb,true->bo
open Go.ConcN.Mode renaming retag->bc,last->cU
open Prod.Lex renaming left->bn,right->bq
open List renaming range->bw
open Nat renaming le_of_not_lt->b9,lt_wfRel->cF,strongRecOn->dy
open Option.some renaming injEq->cd,inj->cK
open Go.ConcR renaming loc_of_ofEvent->cq,mk->dt
open Array renaming mem_append->cu,getElem?_push_lt->cE
open Ne renaming symm->cA
open Prod renaming Lex->dn,lex->dr
open Array renaming setIfInBounds->Array.L
open Eq renaming symm->Eq.LT
open Go.Addr renaming block->Go.Addr.Lo
open Go.Conc.Aside renaming block->Go.Conc.Aside.Lo
open Go.Conc.Goes renaming running->Go.Conc.Goes.L
open Go.ConcN.Mode renaming reopen->Go.ConcN.Mode.L
open Go.ConcN.RelBy renaming book->Go.ConcN.RelBy.LT
open Go.ConcN.WD renaming deaf->Go.ConcN.WD.Lo
open Go.Frame renaming place->Go.Frame.L
open Go.GoStatus renaming running->Go.GoStatus.L
open Go.Goroutine renaming frame->Go.Goroutine.L
open Go.Loc renaming low->Go.Loc.Li
open Go.MemAct renaming low->Go.MemAct.Li,touch?->Go.MemAct.L
open Go.Program renaming funcs->Go.Program.L
open Go.Trace renaming deaf->Go.Trace.Lo
open Go.Value renaming pointer->Go.Value.S
open List renaming toArray->List.Li
open Ne renaming symm->Ne.LT
open Option renaming isNone->Option.L
open Or renaming resolve_left->Or.L
namespace Go.Co
open Go.Em Go.Conc Go.ConcN
structure Lone where
 g:Z
 w:Y
 H:Hid
 β:Ef
 T:List b7
structure Ib where
 at_:Nat->Prop
 w:Y
 bd:Nat
def inBlock (B:Nat):Loc->Prop
 |.cell a=>a.Lo=B
 |.obj r=>r=B
 |_=>False
def OW (x:Lone)(l:Loc):Prop:=∃b B,x.β b B/\x.H b=bb/\¬Ro x.w b/\inBlock B l
def OX (x:Lone)(l:Loc):Prop:=∃b B,x.β b B/\x.H b=bb/\inBlock B l
def MU (zO:Nat->Prop)(Wg:Nat)(l:Loc):Prop:=∃a:Addr,l=.cell a/\(zO a.Lo\/a.Lo=Wg)
section
variable (P:Er) (SB BB:bh->Bool) (zZ:Bool) (Gn:Nat)
abbrev Fe (x:Lone)(g:Z):Prop:=FV P SB x.H zZ BB x.T x.β x.g g
abbrev Gw (x:Lone)(W:Y):Prop:=EA (SP SB x.H) (CK P.a SB zZ) Gn x.β x.w W
abbrev Hw (x:Lone)(W:Y)(DZ:Ef)(w' W':Y)(ES:List bD):Prop:=Fin (SP SB x.H) (CK P.a SB zZ) Gn x.β DZ (on x.w W.tape W.drawn) W w' W' ES
structure Cw (Wg:Nat)(zO zN:Nat->Prop)(Kp:Ib)(L:Nat->Option Lone)(own:Option Nat)(W:Y):Prop where
 like:∀i x,L i=C x->Gw P SB zZ Gn x W
 EX:∀i x,L i=C x->x.H.EX=bb
 MV:∀i x,L i=C x->∀b,x.β b Wg->x.H b=bo
 dead:∀i x,L i=C x->∀b B,x.β b B->¬zO B
 Jc:∀i x,L i=C x->own≠C i->∀b B,x.β b B->zN B->x.H b=bo
 sep:∀i j x y,i≠j->L i=C x->L j=C y->Sep (SP SB x.H) x.β x.w (SP SB y.H) y.β y.w
 Li:Wg<W.heap.size/\(∀B,zO B->B<W.heap.size)/\∀B,zN B->B<W.heap.size
 Jd:∀B,zN B->B≠Wg/\¬zO B
 keep:∀B,Kp.at_ B->B<W.heap.size/\B≠Wg/\W.heap[B]?=Kp.w.heap[B]?
 FA:∀i x,L i=C x->∀b B,x.β b B->Kp.at_ B->x.H b=bo\/Ro x.w b
 LH:∀B,zN B->¬Kp.at_ B
 NW:W.os=Kp.w.os/\W.output=Kp.w.output
def put (L:Nat->Option Lone)(i:Nat)(x:Option Lone):Nat->Option Lone:=λj=>if j=i then x else L j
end
def El (L:Nat->Option Lone)(i:Nat)(x:Option Lone):put L i x i=x:=by simp[put]
def Et (L:Nat->Option Lone){i j:Nat}(x:Option Lone)(h:j≠i):put L i x j=L j:=by simp[put,h]
section
variable {P:Er} {SB BB:bh->Bool} {zZ:Bool} {Gn:Nat} {Wg:Nat} {zO zN:Nat->Prop} {Kp:Ib} {L:Nat->Option Lone} {own:Option Nat} {W W':Y} {i:Nat} {x:Lone} {DZ:Ef} {w':Y} {ES:List bD}
def Cw.same (c:Cw P SB zZ Gn Wg zO zN Kp L own W)(hi:L i=C x)(f:Hw P SB zZ Gn x W DZ w' W' ES){B:Nat}(hB:B<W.heap.size)(h:∀b,x.β b B->x.H b=bo):W'.heap[B]?=W.heap[B]?:=by
 by_cases hx:∃b,x.β b B
 .obtain⟨b,hb⟩:=hx;exact f.hk b B hb (h b hb)
 .exact f.KEPT B hB λb hb=>hx ⟨b,hb⟩
def Cw.step (c:Cw P SB zZ Gn Wg zO zN Kp L own W)(hi:L i=C x)(f:Hw P SB zZ Gn x W DZ w' W' ES)(g':Z) :
  Cw P SB zZ Gn Wg zO zN Kp (put L i (C ⟨g',w',x.H,DZ,x.T⟩)) own W':=by
 have hx:=c.like i x hi;have a6:EA (SP SB x.H) (CK P.a SB zZ) Gn x.β (on x.w W.tape W.drawn) W:=hx.same rfl rfl hx.env;have old:∀b B,DZ b B->B<W.heap.size->x.β b B:=λb B hb hB=>(f.new b B hb).elim id λh=>AH h.2 (Nat.not_le.2 hB);refine⟨λj y hj=>?_,λj y hj=>?_,λj y hj=>?_,λj y hj=>?_,λj y hj=>?_,λj k y z hjk hj hk=>?_,⟨AI c.Li.1 f.SIZE,λB hB=>AI (c.Li.2.1 B hB) f.SIZE,λB hB=>AI (c.Li.2.2 B hB) f.SIZE⟩,c.Jd,λB hB=>?_,λj y hj=>?_,c.LH,f.OS.trans c.NW.1,f.OUT.trans c.NW.2⟩
 .by_cases e:j=i
  .subst e;rw[El] at hj;cases hj;exact f.rel
  .rw[Et L _ e] at hj;exact(c.like j y hj).others (c.EX j y hj) a6 f (c.sep i j x y (cA e) hi hj)
 .by_cases e:j=i
  .subst e;rw[El] at hj;cases hj;exact c.EX j x hi
  .rw[Et L _ e] at hj;exact c.EX j y hj
 .by_cases e:j=i
  .subst e;rw[El] at hj;cases hj;exact λb hb=>c.MV j x hi b (old b Wg hb c.Li.1)
  .rw[Et L _ e] at hj;exact c.MV j y hj
 .by_cases e:j=i
  .subst e;rw[El] at hj;cases hj;exact λb B hb hd=>c.dead j x hi b B (old b B hb (c.Li.2.1 B hd)) hd
  .rw[Et L _ e] at hj;exact c.dead j y hj
 .by_cases e:j=i
  .subst e;rw[El] at hj;cases hj;exact λho b B hb ht=>c.Jc j x hi ho b B (old b B hb (c.Li.2.2 B ht)) ht
  .rw[Et L _ e] at hj;exact c.Jc j y hj
 .by_cases e:j=i
  .subst e;rw[El] at hj;cases hj;rw[Et L _ (cA hjk)] at hk;exact Sep.kept (c.like k z hk) f (c.sep j k x z hjk hi hk)
  .rw[Et L _ e] at hj;by_cases e':k=i
   .subst e';rw[El] at hk;cases hk;exact(Sep.kept (c.like j y hj) f (c.sep k j x y (cA hjk) hi hj)).LT
   .rw[Et L _ e'] at hk;exact c.sep j k y z hjk hj hk
 .obtain⟨k1,k2,k3⟩:=c.keep B hB;refine⟨AI k1 f.SIZE,k2,?_⟩;rw[<-k3];by_cases hx:∃b,x.β b B
  .obtain⟨b,hb⟩:=hx;obtain h|⟨cs,ty,z,q1,q2⟩:=c.FA i x hi b B hb hB
   .exact f.hk b B hb h
   .exact(f.ro b B cs ty z hb q1 q2).2
  .exact f.KEPT B k1 λb hb=>hx ⟨b,hb⟩
 .by_cases e:j=i
  .subst e;rw[El] at hj;cases hj;intro b B hb hB;have h0:=old b B hb (c.keep B hB).1;exact(c.FA j x hi b B h0 hB).imp id λh=>h.kept f h0
  .rw[Et L _ e] at hj;exact c.FA j y hj
def Cw.group (c:Cw P SB zZ Gn Wg zO zN Kp L own W)(h:Aside Wg W W')(hw:∃c t f,W'.heap[Wg]?=C (.cells c t f)):Cw P SB zZ Gn Wg zO zN Kp L own W':=by
 refine⟨λj y hj=>?_,c.EX,c.MV,c.dead,c.Jc,c.sep,by rw[h.size];exact c.Li,c.Jd,λB hB=>⟨by rw[h.size];exact(c.keep B hB).1,(c.keep B hB).2.1,(h.Lo B (c.keep B hB).2.1).trans (c.keep B hB).2.2⟩,c.FA,c.LH,h.os.trans c.NW.1,h.output.trans c.NW.2⟩;have k:=c.like j y hj;refine⟨k.Fl,by rw[h.size];exact k.room,λb B hb hh=>?_,λb B hb hh=>?_,k.old,by rw[h.os];exact k.env⟩
 .have zU : B ≠ Wg := fun e => by
   have:=c.MV j y hj b (e▸hb);have a7:y.H b=false:=hh;rw[a7] at this;cases this
  rw[h.Lo B zU];exact k.FD b B hb hh
 .obtain⟨h1,h2,h3⟩:=k.FU b B hb hh;refine⟨h1,λht=>?_,λht=>?_⟩
  .by_cases e:B=Wg
   .rw[e];exact hw
   .rw[h.Lo B e];exact h2 ht
  .have:=c.EX j y hj;have a6:y.H.EX=true:=ht;rw[this] at a6;cases a6
def Cw.drop (c:Cw P SB zZ Gn Wg zO zN Kp L own W)(i:Nat):Cw P SB zZ Gn Wg zO zN Kp (put L i bW) own W:=by
 have get:∀ {j y},put L i bW j=C y->L j=C y:=λ{j y} h=>by
  by_cases e:j=i
  .subst e;rw[El] at h;cases h
  .rwa [Et L _ e] at h
 exact⟨λj y hj=>c.like j y (get hj),λj y hj=>c.EX j y (get hj),λj y hj=>c.MV j y (get hj),λj y hj=>c.dead j y (get hj),λj y hj=>c.Jc j y (get hj),λj k y z zU hj hk=>c.sep j k y z zU (get hj) (get hk),c.Li,c.Jd,c.keep,λj y hj=>c.FA j y (get hj),c.LH,c.NW⟩
def Cw.at (c:Cw P SB zZ Gn Wg zO zN Kp L own W)(d:Nat):Cw P SB zZ Gn Wg zO zN Kp L own (W.at d) :=
 ⟨λj y hj=>(c.like j y hj).same rfl rfl (c.like j y hj).env,c.EX,c.MV,c.dead,c.Jc,c.sep,c.Li,c.Jd,c.keep,c.FA,c.LH,c.NW⟩
def NH (zN:Nat->Prop)(L:Nat->Option Lone)(tp:Bool)(j:Nat)(l:Loc):Prop:=(∃x,L j=C x/\OW x l)\/(j=0/\tp=bo/\∃B,zN B/\inBlock B l)
def Ls (zN:Nat->Prop)(L:Nat->Option Lone)(tp:Bool)(j:Nat)(l:Loc):Prop:=(∃x,L j=C x/\OX x l)\/(j=0/\tp=bo/\∃B,zN B/\inBlock B l)
def Hx {B:Nat}{l:Loc}(h:inBlock B l):l.isMemory=true:=by cases l<;>first|rfl|exact h.elim
def I0 {B B':Nat}{l:Loc}(h:inBlock B l)(h':inBlock B' l):B=B':=by
 cases l<;>first|exact h.LT.trans h'|exact h.elim
def gi {zN:Nat->Prop}{L:Nat->Option Lone}{tp:Bool}{j:Nat}{l:Loc}(h:NH zN L tp j l):Ls zN L tp j l:=by
 obtain⟨x,h1,b,B,h2,h3,_,h4⟩|h:=h
 .exact .inl ⟨x,h1,b,B,h2,h3,h4⟩
 .exact .inr h
def Cw.apart {tp:Bool}(c:Cw P SB zZ Gn Wg zO zN Kp L own W)(ht:tp=bo->own=bW){j k:Nat}(hjk:j≠k)(l:Loc):NH zN L tp j l->¬Ls zN L tp k l:=by
 rintro(⟨x,hx,b,B,h1,h2,h3,h4⟩|⟨rfl,h0,B,h1,h4⟩) (⟨y,hy,b',B',k1,k2,k4⟩|⟨rfl,k0,B',k1,k4⟩)
 .obtain rfl:=I0 h4 k4;obtain h|h|⟨h,_⟩:=c.sep j k x y hjk hx hy b b' B h1 k1
  .have h':x.H b=true:=h;rw[h2] at h';cases h'
  .have h':y.H b'=true:=h;rw[k2] at h';cases h'
  .exact h3 h
 .obtain rfl:=I0 h4 k4;have:=c.Jc j x hx (by rw[ht k0];simp) b B h1 k1;rw[h2] at this;cases this
 .obtain rfl:=I0 h4 k4;have:=c.Jc k y hy (by rw[ht h0];simp) b' B k1 h1;rw[k2] at this;cases this
 .exact hjk rfl
def Cw.K5 {tp:Bool}(c:Cw P SB zZ Gn Wg zO zN Kp L own W){j:Nat}{l:Loc}(h:Ls zN L tp j l):¬MU zO Wg l:=by
 rintro⟨a,rfl,hs⟩;obtain⟨x,hx,b,B,h1,h2,h4⟩|⟨_,_,B,h1,h4⟩:=h
 .have e:a.Lo=B:=h4;obtain hs|hs:=hs
  .exact c.dead j x hx b B h1 (e▸hs)
  .have:=c.MV j x hx b (by rw[<-hs,e];exact h1);rw[h2] at this;cases this
 .have e:a.Lo=B:=h4;obtain⟨t1,t2⟩:=c.Jd B h1;obtain hs|hs:=hs
  .exact t2 (e▸hs)
  .exact t1 (e.LT.trans hs)
def Cw.QK {tp:Bool}{k:Nat}{x':Lone}(c:Cw P SB zZ Gn Wg zO zN Kp L own W)(hk:L k=C x')(he:∀E∈ES,P8 x'.β x'.w E){fn:bh}{pos:String} :
  ∀op∈J k fn pos ES.Li,OkOp (MU zO Wg) (NH zN L tp) (Ls zN L tp) k op:=by
 intro op hop;obtain⟨e,a7,rfl⟩:=X hop;refine⟨rfl,λt ht=>?_⟩;have hE:=he e (by simpa using a7);have a6:∀b B,x'.β b B->(∃n,(x'.w.heap[b]?).map Fo=C n/\n≠1)->x'.H b=false:=by
  intro b B hb ⟨n,hn,h1⟩;cases hh:x'.H b with
  |false=>rfl
  |true =>
   rw[((c.like k x' hk).FU b B hb hh).1] at hn;simp[Fo] at hn;exact AH hn.LT h1
 cases hE with
 |@cell a A wr sy hb ho hn hw =>
  have hh:=a6 _ _ hb (let ⟨n,h1,_⟩:=hn;⟨_,h1,by omega⟩);have hr:Ls zN L tp k (.cell A):=.inl ⟨x',hk,a.Lo,A.Lo,hb,hh,rfl⟩;have hl:t.loc=.cell A/\t.write=wr:=by
   simp[U,bl] at ht;subst ht;exact⟨rfl,rfl⟩
  rw[hl.1];refine .inr (.inr ⟨c.K5 hr,λhwr=>.inl ⟨x',hk,a.Lo,A.Lo,hb,hh,?_,rfl⟩,λ_=>hr⟩);rintro⟨cs,ty,f,hc,hf⟩;obtain⟨n,h1,h2⟩:=hn;rw[hc] at h1;simp[Fo] at h1;have h0:=hw (by rw[<-hl.2];exact hwr);rw[aY,hc] at h0;obtain⟨p,q⟩:=hf a.off (by omega);simp[QC,p,q] at h0
 |@obj r R wr sy hb hn =>
  have hh:=a6 _ _ hb ⟨2,hn,by decide⟩;have hr:Ls zN L tp k (.obj R):=.inl ⟨x',hk,r,R,hb,hh,rfl⟩;have hl:t.loc=.obj R:=by
   cases wr<;>cases sy<;>simp[U,bl] at ht<;>subst ht<;>rfl
  rw[hl];refine .inr (.inr ⟨c.K5 hr,λ_=>.inl ⟨x',hk,r,R,hb,hh,?_,rfl⟩,λ_=>hr⟩);rintro⟨cs,ty,f,hc,_⟩;rw[hc] at hn;simp[Fo] at hn
 |mark hm=>cases hm<;>simp[U,bl] at ht
 |out=>simp[U,bl] at ht;subst ht;exact .inl rfl
def Cw.NX {tp:Bool}{N:Nat}{t:b8}(c:Cw P SB zZ Gn Wg zO zN Kp L own W)(hi:L i=C x)(f:Hw P SB zZ Gn x W DZ w' W' ES)(g':Z)(ht:tp=bo->own=bW)(hN:i<N)
  (h:TI (MU zO Wg) (NH zN L tp) (Ls zN L tp) N t) (a7:∀op∈t,op.act.Li W.heap.size) {fn:bh} {pos:String} :
  TI (MU zO Wg) (NH zN (put L i (C ⟨g',w',x.H,DZ,x.T⟩)) tp) (Ls zN (put L i (C ⟨g',w',x.H,DZ,x.T⟩)) tp) N (t++J i fn pos ES.Li):=by
 have c':=c.step hi f g';have fresh:∀B l,W.heap.size<=B->inBlock B l->ib t l:=by
  intro B l hB hl j a ha e;obtain⟨op,hop,a8⟩:=er ha;have a6:=a7 op (Bi hop);rw[<-e] at hl;have key:∀(act:MemAct) (a:Touch),act.L=C a->act.Li W.heap.size->inBlock B a.loc->False:=by
   intro act a ha a6 hl;cases act with
   |access ev =>
    simp only[bl,cd] at ha;subst ha;obtain⟨loc,wr,sy⟩:=ev;cases loc<;>first|exact hl.elim|(simp only[inBlock] at hl;simp only[b5,Loc.low] at a6;omega)
   |mark m =>
    cases m<;>simp[bl] at ha
    all_goals
     subst ha;simp only[inBlock] at hl;simp only[b5] at a6;omega
   |_=>simp[bl] at ha
  exact key op.act a a8 a6 hl
 refine h.app hN (c'.QK (El L i _) (λE hE=>f.evs (c.EX i x hi) E hE)) (λj hj l=>?_) (λl hl=>?_) (λl hl=>?_) (λj l hs=>?_) (λl hl=>?_) (λj hj _ l=>?_)
 .unfold NH Ls;rw[Et L _ hj];exact⟨id,id⟩
 .obtain⟨y,hy,b,B,h1,h2,h3,h4⟩|⟨h1,h2,h3⟩:=hl
  .rw[El] at hy;cases hy;obtain h0|⟨_,h0⟩:=f.new b B h1
   .exact .inl (.inl ⟨x,hi,b,B,h0,h2,λhr=>h3 (hr.kept f h0),h4⟩)
   .exact .inr (fresh B l h0 h4)
  .exact .inl (.inr ⟨h1,h2,h3⟩)
 .obtain⟨y,hy,b,B,h1,h2,h4⟩|⟨h1,h2,h3⟩:=hl
  .rw[El] at hy;cases hy;obtain h0|⟨_,h0⟩:=f.new b B h1
   .exact .inl (.inl ⟨x,hi,b,B,h0,h2,h4⟩)
   .exact .inr (fresh B l h0 h4)
  .exact .inl (.inr ⟨h1,h2,h3⟩)
 .exact⟨λhw=>c'.K5 (gi hw) hs,λhr=>c'.K5 hr hs⟩
 .obtain⟨a,rfl,_⟩|⟨j,hl⟩:=hl
  .rfl
  .have hr:Ls zN (put L i (C ⟨g',w',x.H,DZ,x.T⟩)) tp j l:=hl.elim gi id;rcases hr with⟨y,_,b,B,_,_,h4⟩|⟨_,_,B,_,h4⟩<;>exact Hx h4
 .exact⟨λhw=>⟨c'.apart ht (cA hj) l hw,λhw'=>c'.apart ht (cA hj) l hw (gi hw')⟩,λhr hw'=>c'.apart ht hj l hw' hr⟩
def eE (f:Hw P SB zZ Gn x W DZ w' W' ES)(ht:x.H.EX=bb){k:Nat}{fn:bh}{pos:String}:∀op∈J k fn pos ES.Li,op.act.Li W'.heap.size:=by
 intro op hop;obtain⟨e,a6,rfl⟩:=X hop;have hE:=f.evs ht e (by simpa using a6);cases hE with
 |@cell a A wr sy hb _ _ _ =>
  have:=(f.rel.lt hb).2;show b5 _ (U ⟨.cell A,wr,sy⟩);simpa [U,b5,Loc.low] using this
 |@obj r R wr sy hb _ =>
  have:=(f.rel.lt hb).2;show b5 _ (U ⟨.obj R,wr,sy⟩);cases wr<;>cases sy<;>simpa [U,b5,Loc.low] using this
 |mark hm=>cases hm<;>simp[U,b5]
 |out=>simp[U,b5,Loc.low]
def cN (f:Hw P SB zZ Gn x W DZ w' W' ES)(ht:x.H.EX=bb):∀e∈ES.Li,e.loc≠.mark .disable/\e.loc≠.mark .enable/\∀a,e.loc≠.mark (.release a):=by
 intro e a6;have hE:=f.evs ht e (by simpa using a6);cases hE with
 |mark hm=>cases hm<;>simp
 |_=>simp
end
open Go.ConcR (KK WgAt stA smA rd wr mk DC0 Bk g_of_ofEvents bk_of_mute ofEvent_loc_mark ofEvent_cell ofEvent_mk)
inductive Wm where
 |born (Q:Z->Y->Prop) (y:Z×Y)
 |tree (Q:Z->Y->Prop) (y:Z×Y)
 |st (s m:Nat)
inductive LI (p:b6):Wm->Wm->Prop
 |tree {Q:Z->Y->Prop} {x y:Z×Y}:¬Q y.1 y.2->After p x y->LI p (.tree Q x) (.tree Q y)
 |off {s m:Nat} {Q:Z->Y->Prop} {y:Z×Y}:LI p (.st s m) (.tree Q y)
 |un {Q:Z->Y->Prop} {y:Z×Y}:LI p (.tree Q y) (.born Q y)
 |Rs {s m:Nat} {Q:Z->Y->Prop} {y:Z×Y}:LI p (.st s m) (.born Q y)
 |stage {s m s' m':Nat}:s<s'->LI p (.st s m) (.st s' m')
 |fuel {s m m':Nat}:m<m'->LI p (.st s m) (.st s m')
def Dk (p:b6):∀s m,Acc (LI p) (.st s m):=by
 intro s
 induction s using dy with
 |_ s ihs =>
  intro m
  induction m using dy with
  |_ m ihm =>
   refine .intro _ λy h=>?_;cases h with
   |stage h=>exact ihs _ h _
   |fuel h=>exact ihm _ h
def Dj {p:b6}{BB:bh->Bool}{Q:Z->Y->Prop}{d:Nat}{g:Z}{w:Y}(h:EL p BB Q d g w):Acc (LI p) (.tree Q (g,w)):=by
 induction h with
 |fin h =>
  refine .intro _ λz hz=>?_;cases hz with
  |tree hn _=>exact AH h hn
  |off=>exact Dk p _ _
 |next ng nw h1 h2 _ ih =>
  refine .intro _ λz hz=>?_;cases hz with
  |@tree _ x _ _ ha =>
   obtain⟨g',w'⟩:=x;obtain⟨τ,d,es,e,_⟩:=ha;obtain⟨⟨es',e'⟩,_⟩:=h2 τ d;rw[e] at e';cases e';exact ih τ d
  |off=>exact Dk p _ _
 |spec h1 h2 h3 h4 h5 h6 _ ih =>
  refine .intro _ λz hz=>?_;cases hz with
  |@tree _ x _ _ ha =>
   obtain⟨g',w'⟩:=x;obtain⟨τ,n,es,e,_⟩:=ha;dsimp only at e;rw[(h6.same Dc).step h3 h4 h5] at e;cases e;exact ih τ n
  |off=>exact Dk p _ _
def DE {p:b6}{BB:bh->Bool}{Q:Z->Y->Prop}{d:Nat}{g:Z}{w:Y}(h:EL p BB Q d g w):Acc (LI p) (.born Q (g,w)):=by
 refine .intro _ λz hz=>?_;cases hz with
 |un=>exact Dj h
 |Rs=>exact Dk p _ _
section
variable (P:Er) (SB BB:bh->Bool) (zZ:Bool) (Gn:Nat) (ty Wg:Nat) (Ψ2:Y->Prop)
def cO (Q:Z->Y->Prop)(H:Hid)(T:List b7)(wl:Ef)(o:Bool):Prop :=
 ∀(x:Lone) (g:Z) (W:Y),x.H=H->x.T=T->wl.le x.β->Q x.g x.w->Fe P SB BB zZ x g->Gw P SB zZ Gn x W->eA ty Wg W ->
  (∃m,GW P.b ty Wg bb (R0 P.b ty Wg) m g W)/\(o=bo->Ψ2 W)
def mC (x:Lone)(child:Z):Prop:=child.status=.L/\∃G1,(∀W,eb P.b bb child W=.go G1 W #[])/\Fe P SB BB zZ x G1
inductive GC:Nat->Nat->Wm->Option Lone->Bool->Z->Y->Prop
 | born {x : Lone} {wl : Ef} {Q : Z -> Y -> Prop} {o : Bool} {g : Z} {W : Y} : wl.le x.β -> cO P SB BB zZ Gn ty Wg Ψ2 Q x.H x.T wl o -> (∀ g w, Q g w -> BB g.L.fn = bb) -> EL P.a BB Q 0 x.g x.w -> mC P SB BB zZ x g ->
   GC 7 0 (.born Q (x.g,x.w)) (C x) o g W
 | tree {x : Lone} {wl : Ef} {Q : Z -> Y -> Prop} {o : Bool} {d : Nat} {g : Z} {W : Y} : wl.le x.β -> cO P SB BB zZ Gn ty Wg Ψ2 Q x.H x.T wl o -> (∀ g w, Q g w -> BB g.L.fn = bb) -> EL P.a BB Q d x.g x.w -> Fe P SB BB zZ x g ->
   GC 7 d (.tree Q (x.g,x.w)) (C x) o g W
 |r0 {m:Nat} {g:Z} {W:Y}:GW P.b ty Wg bb (R0 P.b ty Wg) m g W->GC 7 0 (.st 7 m) bW bb g W
 |k1 {m:Nat} {g:Z} {W:Y}:GW P.b ty Wg bb (K1 P.b ty Wg) m g W->GC 6 0 (.st 6 m) bW bb g W
 |d1 {m:Nat} {g:Z} {W:Y}:GW P.b ty Wg bb (D1 P.b ty Wg) m g W->GC 5 1 (.st 5 m) bW bb g W
 |d2 {m:Nat} {g:Z} {W:Y}:GW P.b ty Wg bb (D2 P.b ty Wg) m g W->GC 4 1 (.st 4 m) bW bb g W
 |d3 {m:Nat} {g:Z} {W:Y}:GW P.b ty Wg bb (D3 P.b ty Wg) m g W->GC 3 1 (.st 3 m) bW bb g W
 |d4 {m:Nat} {g:Z} {W:Y}:GW P.b ty Wg bb (AtD4 P.b ty Wg) m g W->GC 2 1 (.st 2 m) bW bb g W
 |quit {q d:Nat} {g:Z} {W:Y}:QuitsD P.b q d g->GC 1 d (.st 1 q) bW bb g W
end
section
variable {P:Er} {SB BB:bh->Bool} {zZ:Bool} {Gn:Nat} {ty Wg:Nat} {Ψ2:Y->Prop} {s d:Nat} {m:Wm} {x:Option Lone} {o:Bool} {g:Z} {W W':Y}
def GC.rely (h:GC P SB BB zZ Gn ty Wg Ψ2 s d m x o g W)(r:RL ty Wg W W'):GC P SB BB zZ Gn ty Wg Ψ2 s d m x o g W':=by
 cases h with
 |born a b z c e=>exact .born a b z c e
 |tree a b z c e=>exact .tree a b z c e
 |r0 h=>exact .r0 (Goes.rely RL.trans h r)
 |k1 h=>exact .k1 (Goes.rely RL.trans h r)
 |d1 h=>exact .d1 (Goes.rely RL.trans h r)
 |d2 h=>exact .d2 (Goes.rely RL.trans h r)
 |d3 h=>exact .d3 (Goes.rely RL.trans h r)
 |d4 h=>exact .d4 (Goes.rely RL.trans h r)
 |quit h=>exact .quit h
def GC.status (h:GC P SB BB zZ Gn ty Wg Ψ2 s d m x o g W):g.status=.L\/(g.status=.finished/\s=1):=by
 cases h with
 |born _ _ _ _ e=>exact .inl e.1
 |tree _ _ _ _ e=>exact .inl e.status.2
 |r0 h=>exact .inl (Goes.running (λ_ _ x=>x.1) W (RL.refl W) h)
 |k1 h=>exact .inl (Goes.running (λ_ _ x=>x.1) W (RL.refl W) h)
 |d1 h=>exact .inl (Goes.running (λ_ _ x=>x.1) W (RL.refl W) h)
 |d2 h=>exact .inl (Goes.running (λ_ _ x=>x.1) W (RL.refl W) h)
 |d3 h=>exact .inl (Goes.running (λ_ _ x=>x.1) W (RL.refl W) h)
 |d4 h=>exact .inl (Goes.running (λ_ _ x=>x.1) W (RL.refl W) h)
 |quit h=>exact h.status.imp id λe=>⟨e,rfl⟩
def GC.acc (h:GC P SB BB zZ Gn ty Wg Ψ2 s d m x o g W):Acc (LI P.a) m:=by
 cases h with
 |born _ _ _ h _=>exact DE h
 |tree _ _ _ h _=>exact Dj h
 |_=>exact Dk _ _ _
def GC.Py (h:GC P SB BB zZ Gn ty Wg Ψ2 s d m x o g W):s<=6\/s=7:=by
 cases h<;>omega
def GC.woken (h:GC P SB BB zZ Gn ty Wg Ψ2 s d m x o g W)(a a':Z)(w':Y):woken P.b a a' w' g=g:=by
 unfold ed;split
 .exact again_running _ (h.status.imp id (·.1))
 .rfl
end
inductive TS where
 |start|at_ (k:Nat)|done
def TS.LE:TS->Option Nat
 |.at_ k=>C k
 |_=>bW
def TS.tp:TS->Bool
 |.start=>bo
 |_=>bb
def Dp {ts:TS}(h:ts.tp=bo):ts.LE=none:=by cases ts<;>first|rfl|cases h
def PdOf (j0 j:Nat)(D:Nat->WD)(rr:Nat->Nat)(k i:Nat):Prop:=∃a,k=a+1/\j0<=a/\a<j/\((D a).stage=7\/i<=rr a)
section
variable (P:Er) (SB BB:bh->Bool) (zZ:Bool) (Gn:Nat) (ty Wg:Nat) (zO zN:Nat->Prop) (Kp:Ib) (Ψ0 Ψ2:Y->Prop)
structure WI (j0 j:Nat)(gs:Array Z)(W:Y)(t:b8)(D:Nat->WD)(M:Nat->Wm)(O:Nat->Bool)(L:Nat->Option Lone)(ts:TS)(rr:Nat->Nat)(st sm:Int):Prop where
 size:gs.size=j+1
 wk:∀i,i<j->∃g,gs[i+1]?=C g/\GC P SB BB zZ Gn ty Wg Ψ2 (D i).stage (D i).Lo (M i) (L (i+1)) (O i) g W
 cw:Cw P SB zZ Gn Wg zO zN Kp L ts.LE W
 tr:Tr (MU zO Wg) (NH zN L ts.tp) (Ls zN L ts.tp) (j+1) (PdOf j0 j D rr) (stA Wg) t
 Li:∀op∈t,op.act.Li W.heap.size
 deafW:∀i,i<j->Deaf t (i+1)=(D i).Lo
 rel:∀i,j0<=i->i<j->(D i).stage<=6->RelBy (stA Wg) t (i+1) (rr i)
 wg:WgAt ty Wg W st sm
 KE:∀i,i<j->O i=bo->ts=.at_ (i+1)
 Lj:∀k,ts=.at_ k->∃i,i<j/\k=i+1/\O i=bo
 Hb:(ts=.start->Ψ0 W)/\(ts=.done->Ψ2 W)
 out:∀i,j<i->L i=bW
 old:∀i,i<j0->(D i).stage=1
 jj:j0<=j
def ao (zN:Nat->Prop)(Ψ:Y->Prop):Prop:=∀W W':Y,(∀B,zN B->W'.heap[B]?=W.heap[B]?)->Ψ W->Ψ W'
end
section
variable {P:Er} {SB BB:bh->Bool} {zZ:Bool} {Gn:Nat} {ty Wg:Nat} {zO zN:Nat->Prop} {Kp:Ib} {Ψ0 Ψ2:Y->Prop}
 {j0 j:Nat} {gs:Array Z} {W W':Y} {t:b8} {D:Nat->WD} {M:Nat->Wm} {O:Nat->Bool} {L:Nat->Option Lone} {ts ts':TS} {rr:Nat->Nat} {st sm Jj JO:Int}
def WI.live (h:WI P SB BB zZ Gn ty Wg zO zN Kp Ψ0 Ψ2 j0 j gs W t D M O L ts rr st sm):eA ty Wg W:=⟨_,_,h.wg⟩
def WI.next (h:WI P SB BB zZ Gn ty Wg zO zN Kp Ψ0 Ψ2 j0 j gs W t D M O L ts rr st sm){i:Nat}(hi:i<j){g g':Z}{fn:bh}{pos:String}{es:Array bD}{s' dd':Nat}{m':Wm}{x':Option Lone}{o':Bool}{r':Nat}
  (hk:GC P SB BB zZ Gn ty Wg Ψ2 s' dd' m' x' o' g' W') (aC:WgAt ty Wg W' Jj JO) (zP:Cw P SB zZ Gn Wg zO zN Kp (put L (i+1) x') ts'.LE W')
  (aG:TI (MU zO Wg) (NH zN (put L (i+1) x') ts'.tp) (Ls zN (put L (i+1) x') ts'.tp) (j+1) (t++J (i+1) fn pos es))
  (aH:∀e∈es,∀a,e.loc≠.mark (.release a))
  (zG:s'<=(D i).stage) (hold:i<j0->s'=1)
  (a6:s'=7\/(∀i',i'<t.size->(D i).stage=7->i'<=r')/\((D i).stage<=6->r'=rr i)/\∀i',t.size<=i'->(t++J (i+1) fn pos es).g? i'=C (i+1)->i'<=r'/\j0<=i\/((∀x,touchAt (t++J (i+1) fn pos es) i'=C x->x.loc.isMemory=bo->MU zO Wg x.loc/\x.kind=.atomic)/\¬(t++J (i+1) fn pos es).counts i'))
  (h7:s'=7->j0<=i/\(D i).stage=7)
  (aF:∀op∈J (i+1) fn pos es,op.act.Li W'.heap.size) (zx:W.heap.size<=W'.heap.size)
  (aA:V (D i).Lo es=dd')
  (hrel:j0<=i->s'<=6->RelBy (stA Wg) (t++J (i+1) fn pos es) (i+1) r')
  (o1:o'=bo->ts'=.at_ (i+1)) (o2:ts'=ts/\o'=O i\/(ts=.at_ (i+1)/\ts'=.done/\o'=bb)) (aB:(ts'=.start->Ψ0 W')/\(ts'=.done->Ψ2 W')) :
  WI P SB BB zZ Gn ty Wg zO zN Kp Ψ0 Ψ2 j0 j ((gs.map (woken P.b g g' W')).L (i+1) g') W' (t++J (i+1) fn pos es) (upd D i ⟨s',0,dd'⟩) (upd M i m') (upd O i o') (put L (i+1) x') ts' (upd rr i r') Jj JO:=by
 have a7:∀op∈J (i+1) fn pos es,op.g=i+1:=g_of_ofEvents;have pd0:∀k a,a<t.size->PdOf j0 j D rr k a->PdOf j0 j (upd D i ⟨s',0,dd'⟩) (upd rr i r') k a:=by
  rintro k a ha ⟨b,rfl,hb0,aD,hb⟩;refine⟨b,rfl,hb0,aD,?_⟩;by_cases e:b=i
  .subst e;rw[I,I];obtain h1|⟨h1,h2,_⟩:=a6
   .exact .inl h1
   .obtain hb'|hb':=hb
    .exact .inr (h1 a ha hb')
    .by_cases h6:(D b).stage<=6
     .rw[h2 h6];exact .inr hb'
     .have : (D b).stage = 7 := by
       obtain⟨_,_,hs⟩:=h.wk b aD;exact hs.Py.L h6
      exact .inr (h1 a ha this)
  .rw[F D _ e,F rr _ e];exact hb
 refine⟨by simp[h.size],λa ha=>?_,zP,?_,λop hop=>?_,λa ha=>?_,λa h0 ha hs=>?_,aC,λa ha ho=>?_,λk a8=>?_,aB,λa ha=>?_,λa ha=>?_,h.jj⟩
 .by_cases e:a=i
  .subst e;exact⟨g',ck _ _ _ (by rw[h.size];omega),by rw[I,I,I,El];exact hk⟩
  .obtain⟨y,hy,hs⟩:=h.wk a ha;refine⟨y,by rw[get_map_set _ _ _ _ (by omega),hy,BT,hs.woken],?_⟩;rw[F D _ e,F M _ e,F O _ e,Et L _ (by omega)];exact hs.rely λ_=>⟨_,_,aC⟩
 .refine(h.tr.Px pd0).app aG a7 (λop hop e=>?_) (λa ha aI _=>?_)
  .obtain⟨x,hx,rfl⟩:=X hop;exact aH x hx _ (cq e)
  .obtain h1|⟨_,_,h3⟩:=a6
   .exact .inl ⟨i,rfl,(h7 h1).1,hi,.inl (by rw[I];exact h1)⟩
   .obtain⟨hx,h0⟩|hx:=h3 a ha aI
    .exact .inl ⟨i,rfl,h0,hi,.inr (by rw[I];exact hx)⟩
    .exact .inr hx
 .obtain hop|hop:=cu.1 hop
  .exact dS zx (h.Li op hop)
  .exact aF op hop
 .by_cases e:a=i
  .subst e;rw[ew,h.deafW a ha,I];exact aA
  .rw[Deaf_other t (by omega) _ a7,h.deafW a ha,F D _ e]
 .by_cases e:a=i
  .subst e;rw[I] at hs ⊢;exact hrel h0 hs
  .rw[F D _ e] at hs;rw[F rr _ e];exact(h.rel a h0 ha hs).appOther a7 (by omega)
 .by_cases e:a=i
  .subst e;rw[I] at ho;exact o1 ho
  .rw[F O _ e] at ho;have:=h.KE a ha ho;obtain⟨rfl,_⟩|⟨h1,_,_⟩:=o2
   .exact this
   .rw[h1] at this;have:=TS.at_.inj this;omega
 .obtain⟨rfl,h2⟩|⟨_,h1,_⟩:=o2
  .obtain⟨a,ha,e1,e2⟩:=h.Lj k a8;refine⟨a,ha,e1,?_⟩;by_cases e:a=i
   .subst e;rw[I,h2];exact e2
   .rw[F O _ e];exact e2
  .rw[h1] at a8;cases a8
 .rw[Et L _ (by omega)];exact h.out a ha
 .by_cases e:a=i
  .subst e;rw[I];exact hold ha
  .rw[F D _ e];exact h.old a ha
def WI.JP (h:WI P SB BB zZ Gn ty Wg zO zN Kp Ψ0 Ψ2 j0 j gs W t D M O L ts rr st sm){k:Nat}(hk:k<j+1){u:b8}(hu:∀op∈u,op.g=k/\∀x,op.act.L=C x->MU zO Wg x.loc/\x.kind≠.plain/\(x.kind=.said->k=0)) :
  TI (MU zO Wg) (NH zN L ts.tp) (Ls zN L ts.tp) (j+1) (t++u):=by
 have a6:ts.tp=bo->ts.LE=none:=Dp;refine h.tr.ti.app hk (λop hop=>⟨(hu op hop).1,λx hx=>.inr (.inl ((hu op hop).2 x hx))⟩) (λ_ _ _=>⟨id,id⟩) (λ_=>.inl) (λ_=>.inl) (λa l hs=>⟨λhw=>h.cw.K5 (gi hw) hs,λhr=>h.cw.K5 hr hs⟩) (λl hl=>?_)
  (λa ha _ l=>⟨λhw=>⟨h.cw.apart a6 (cA ha) l hw,λhw'=>h.cw.apart a6 (cA ha) l hw (gi hw')⟩,λhr hw'=>h.cw.apart a6 ha l hw' hr⟩)
 obtain⟨a,rfl,_⟩|⟨a,hl⟩:=hl
 .rfl
 .have hr:Ls zN L ts.tp a l:=hl.elim gi id;rcases hr with⟨y,_,b,B,_,_,h4⟩|⟨_,_,B,_,h4⟩<;>exact Hx h4
def Hk {L:Nat->Option Lone}{k:Nat}(h:L k=bW):put L k bW=L:=by
 funext a;unfold put;split
 .rename_i e;rw[e,h]
 .rfl
def LJ {Wg:Nat}{e:bD}(h:Bk Wg e){x:Touch}(hx:(U e).L=C x):(∃a:Addr,x.loc=.cell a/\a.Lo=Wg)/\x.kind=.atomic:=by
 obtain h1|h1|⟨a,wr,rfl,ha⟩:=h
 .rw[ofEvent_loc_mark h1] at hx;cases hx
 .rw[ofEvent_loc_mark h1] at hx;cases hx
 .cases wr<;>simp[U,bl] at hx<;>subst hx<;>exact⟨⟨a,rfl,ha⟩,rfl⟩
def NY {Wg B:Nat}{e:bD}(h:Bk Wg e)(hB:Wg<B):(U e).Li B:=by
 obtain h1|h1|⟨a,wr,rfl,ha⟩:=h
 .rw[ofEvent_loc_mark h1];trivial
 .rw[ofEvent_loc_mark h1];trivial
 .have:a.Lo<B:=by omega
  cases wr<;>simpa [U,b5,Loc.low] using this
def mD {Wg:Nat}{e:bD}(h:Bk Wg e)(a:Addr):e.loc≠.mark (.release a):=by
 obtain h1|h1|⟨a',wr,rfl,ha⟩:=h
 .rw[h1];simp
 .rw[h1];simp
 .simp
def WI.LT (h:WI P SB BB zZ Gn ty Wg zO zN Kp Ψ0 Ψ2 j0 j gs W t D M O L ts rr st sm)(tz:ao zN Ψ0)(aH:ao zN Ψ2){i:Nat}(hi:i<j){g g':Z}{fn:bh}{pos:String}{es:Array bD}{s' dd':Nat}{m':Wm}
  (hk:GC P SB BB zZ Gn ty Wg Ψ2 s' dd' m' bW bb g' W') (h6:(D i).stage<=6) (hL:L (i+1)=bW) (hO:O i=bb) (zG:s'<=(D i).stage) (hold:i<j0->s'=1)
  (aA:Aside Wg W W') (aF:WgAt ty Wg W' Jj JO) (aB:∀e∈es,Bk Wg e) (hd:∀a e,es[a]?=C e->(U e).L=bW\/0<V (D i).Lo (es.extract 0 a)) (aD:V (D i).Lo es=dd') :
  WI P SB BB zZ Gn ty Wg zO zN Kp Ψ0 Ψ2 j0 j ((gs.map (woken P.b g g' W')).L (i+1) g') W' (t++J (i+1) fn pos es) (upd D i ⟨s',0,dd'⟩) (upd M i m') (upd O i bb) L ts (upd rr i (rr i)) Jj JO:=by
 have hrel:j0<=i->RelBy (stA Wg) (t++J (i+1) fn pos es) (i+1) (rr i):=λh0=>(h.rel i h0 hi h6).LT (h.deafW i hi) fn pos aB hd;have a6:∀op∈J (i+1) fn pos es,op.g=i+1/\∀x,op.act.L=C x->MU zO Wg x.loc/\x.kind=.atomic:=by
  intro op hop;obtain⟨e,he,rfl⟩:=X hop;refine⟨rfl,λx hx=>?_⟩;obtain⟨⟨a,h1,h2⟩,h3⟩:=LJ (aB e he) hx;exact⟨⟨a,h1,.inr h2⟩,h3⟩
 have hbl:∀B,zN B->W'.heap[B]?=W.heap[B]?:=λB hB=>aA.Lo B (h.cw.Jd B hB).1;have:=h.next hi (g:=g) (fn:=fn) (pos:=pos) (r':=rr i) (ts':=ts) hk aF (by rw[Hk hL];exact h.cw.group aA ⟨_,_,_,aF⟩)
  (by rw[Hk hL];exact h.JP (by omega) (λop hop=>⟨(a6 op hop).1,λx hx=>⟨((a6 op hop).2 x hx).1,by rw[((a6 op hop).2 x hx).2];simp,λe=>by rw[((a6 op hop).2 x hx).2] at e;cases e⟩⟩))
  (λe he a=>mD (aB e he) a) zG hold
  (.inr ⟨λ_ _ h7=>by omega,λ_=>rfl,λa ha aI=>.inr ⟨λx hx _=>?_,λhc=>?_⟩⟩) (λh7=>by omega)
  (λop hop=>by obtain⟨e,he,rfl⟩:=X hop;exact NY (aB e he) (by rw[aA.size];exact h.cw.Li.1)) (by rw[aA.size];exact AD _) aD (λh0 _=>hrel h0) (by simp) (.inl ⟨rfl,hO.LT⟩)
  ⟨λe=>tz W W' hbl (h.Hb.1 e),λe=>aH W W' hbl (h.Hb.2 e)⟩
 .rwa [Hk hL] at this
 .obtain⟨op,hop,a7⟩:=er hx;obtain⟨zY,_⟩|⟨_,a8⟩:=df hop
  .omega
  .exact(a6 op a8).2 x a7
 ·
  obtain⟨x,hx,_,aC⟩:=hc;have aJ:touchAt (t++J (i+1) fn pos es) a=C x:=hx;obtain⟨op,hop,a7⟩:=er aJ;obtain⟨zY,_⟩|⟨_,a8⟩:=df hop
  .omega
  .have hat:=((a6 op a8).2 x a7).2;obtain aC|⟨gg,aG,aK⟩:=aC
   .exact aC hat
   .have eg:gg=i+1:=by rw[aI] at aG;exact(cK aG).LT
    subst eg;have hj:(J (i+1) fn pos es)[a-t.size]?=C op:=by
     rw[CL] at hop;simpa [Nat.not_lt.2 ha] using hop
    rw[di,BF] at hj;obtain⟨e,he,rfl⟩:=Bl.1 hj;have aL:a-t.size<=es.size:=by
     obtain h'|h':=BP (a-t.size) es.size
     .omega
     .rw[Cf h'] at he;cases he
    obtain h0|h0:=hd _ e he
    .simp only at a7;rw[h0] at a7;cases a7
    .have:=deaf_inside t (i+1) fn pos es (a-t.size) aL;rw[show t.size+(a-t.size)=a by omega,aK,h.deafW i hi] at this;omega
end
open Go.ConcR (KK WgAt stA smA rd wr mk DC0 Bk g_of_ofEvents bk_of_mute ofEvent_loc_mark ofEvent_cell ofEvent_mk)
def LI.Pz {p:b6}{a:Wm}{s m:Nat}(h:LI p a (.st s m)):∃s' m',a=.st s' m':=by
 cases h<;>exact⟨_,_,rfl⟩
section
variable (P:Er) (SB BB:bh->Bool) (zZ:Bool) (Gn:Nat) (ty Wg:Nat) (zO zN:Nat->Prop) (Kp:Ib) (Ψ0 Ψ2:Y->Prop)
def J4 (j0 j:Nat)(gs:Array Z)(W:Y)(t:b8)(D:Nat->WD)(M:Nat->Wm)(L:Nat->Option Lone)(rr:Nat->Nat)(tag:ez)(tp:Bool)(i:Nat)(g:Z):Prop :=
 ∃(g':Z) (W':Y) (es:Array bD) (D':Nat->WD) (M':Nat->Wm) (O':Nat->Bool) (L':Nat->Option Lone) (ts':TS) (a6:Nat->Nat) (Jj JO:Int),
  eb P.b bb g W=.go g' W' es /\
  WI P SB BB zZ Gn ty Wg zO zN Kp Ψ0 Ψ2 j0 j ((gs.map (woken P.b g g' W')).L (i+1) g') W' (t++J (i+1) g.L.fn g.L.L es) D' M' O' L' ts' a6 Jj JO /\
  (∀tag',(tag'=tag\/(tag=.blk/\tag'=.w3))->(mayWake P.b g=bo->g'.status=.L->tag'≠.blk)->br j D' tag' Jj JO) /\
  LI P.a (M' i) (M i)/\(∀k,k≠i->M' k=M k)/\L' 0=L 0/\Vc j D'<=Vc j D/\(∀k,k<j->(D k).stage<=6->(D' k).stage<=6/\a6 k=rr k)/\ts'.tp=tp
end
section
variable {P:Er} {SB BB:bh->Bool} {zZ:Bool} {Gn:Nat} {ty Wg:Nat} {zO zN:Nat->Prop} {Kp:Ib} {Ψ0 Ψ2:Y->Prop}
 {j0 j:Nat} {gs:Array Z} {W W':Y} {t:b8} {D:Nat->WD} {M:Nat->Wm} {O:Nat->Bool} {L:Nat->Option Lone} {ts ts':TS} {rr:Nat->Nat} {st sm Jj JO:Int} {tag:ez} {i:Nat} {g:Z}
def du (hi:i<j){x:WD}(hx:cnt x<=cnt (D i)):Vc j (upd D i x)<=Vc j D:=by
 have:=Vc_upd D x hi;omega
def bt (h:WI P SB BB zZ Gn ty Wg zO zN Kp Ψ0 Ψ2 j0 j gs W t D M O L ts rr st sm)(tz:ao zN Ψ0)(a8:ao zN Ψ2)(hi:i<j)(hL:L (i+1)=bW)(hO:O i=bb){s:Nat}(hs:(D i).stage=s)(h6:s<=6)
  {g':Z} {es:Array bD} {s' dd':Nat} {m':Wm} (zK:eb P.b bb g W=.go g' W' es) (hk:GC P SB BB zZ Gn ty Wg Ψ2 s' dd' m' bW bb g' W') (zG:s'<=s) (hold:i<j0->s'=1)
  (aA:Aside Wg W W') (aB:WgAt ty Wg W' Jj JO) (aC:∀e∈es,Bk Wg e) (hd:∀a e,es[a]?=C e->(U e).L=bW\/0<V (D i).Lo (es.extract 0 a)) (a6:V (D i).Lo es=dd')
  (a7:∀tag',(tag'=tag\/(tag=.blk/\tag'=.w3))->(mayWake P.b g=bo->g'.status=.L->tag'≠.blk)->br j (upd D i ⟨s',0,dd'⟩) tag' Jj JO)
  (zY:LI P.a m' (M i)):J4 P SB BB zZ Gn ty Wg zO zN Kp Ψ0 Ψ2 j0 j gs W t D M L rr tag ts.tp i g:=by
 refine⟨g',W',es,_,_,_,_,_,_,Jj,JO,zK,h.LT tz a8 hi hk (by omega) hL hO (by omega) hold aA aB aC hd a6,a7,by rw[I];exact zY,λk hk=>F M _ hk,rfl,du hi ?_,λk hk h6'=>?_,rfl⟩
 .simp only[cnt];split<;>split<;>omega
 .by_cases e:k=i
  .subst e;rw[I,I];exact⟨by show s'<=6;omega,rfl⟩
  .rw[F D _ e,F rr _ e];exact⟨h6',rfl⟩
def eO {es:Array bD}{k:Nat}{fn:bh}{pos:String}(h:∀e∈es,(U e).L=bW):∀op∈J k fn pos es,op.g=k/\∀x,op.act.L=C x->False:=by
 intro op hop;obtain⟨e,he,rfl⟩:=X hop;exact⟨rfl,λx hx=>by rw[h e he] at hx;cases hx⟩
def LK (h:WI P SB BB zZ Gn ty Wg zO zN Kp Ψ0 Ψ2 j0 j gs W t D M O L ts rr st sm)(hi:i<j)(hL:L (i+1)=bW)(hO:O i=bb)(hs:(D i).stage=7)(hd:(D i).Lo=0){m:Nat}(hM:M i=.st 7 m)(a7:br j D tag st sm)
  (hk:GW P.b ty Wg bb (R0 P.b ty Wg) m g W):J4 P SB BB zZ Gn ty Wg zO zN Kp Ψ0 Ψ2 j0 j gs W t D M L rr tag ts.tp i g:=by
 have aA:j0<=i:=b9 λzY=>by have:=h.old i zY;omega
 have aB:Deaf t (i+1)=0:=by rw[h.deafW i hi,hd]
 obtain a8|⟨m',rfl,hstep⟩:=Goes.cases hk
 .obtain⟨_,g',zK,m₂,aC⟩:=a8 W (RL.refl W);have a6:∀e∈(#[mk (.releaseMerge (stA Wg))]:Array bD),(U e).L=none:=by intro e he;simp at he;subst he;rfl
  have hw:=h.next hi (g:=g) (fn:=g.L.fn) (pos:=g.L.L) (r':=t.size) (ts':=ts) (.k1 aC) h.wg (by rw[Hk hL];exact h.cw)
   (by rw[Hk hL];exact h.JP (by omega) (λop hop=>⟨(eO a6 op hop).1,λx hx=>((eO a6 op hop).2 x hx).elim⟩))
   (by intro e he a;simp at he;subst he;simp[mk]) (by omega) (λe=>by omega)
   (.inr ⟨λa ha _=>by omega,λh6=>by omega,λa ha aD=>.inl ⟨by
    obtain⟨z,hz,_⟩:=Bl.1 aD;have:=lt_size_of_getElem? hz;rw[di] at this;simp at this
    omega,aA⟩⟩) (λe=>by omega)
   (λop hop=>by
    obtain⟨e,he,rfl⟩:=X hop;simp at he;subst he
    exact h.cw.Li.1) (AD _) (by rw[hd];rfl) (λ_ _=>RelBy.new aB _ _) (by simp) (.inl ⟨rfl,hO.LT⟩) h.Hb
  refine⟨g',W,_,_,_,_,_,_,_,st,sm,zK,hw,λtag' ht _=>(a7.counted hi (by omega) (.inl rfl) _ _).retag ht,by rw[I,hM];exact .stage (by omega),λk hk=>F M _ hk,Et L _ (by omega),du hi (by simp[cnt,hs]),λk hk h6=>?_,rfl⟩;have e:k≠i:=λe=>by subst e;omega
  rw[F D _ e,F rr _ e];exact⟨h6,rfl⟩
 .obtain⟨g',w',es,zK,⟨rfl,rfl⟩,aF⟩:=hstep W (RL.refl W);have a6:∀e∈(#[]:Array bD),(U e).L=none:=by simp
  have hw:=h.next hi (g:=g) (fn:=g.L.fn) (pos:=g.L.L) (r':=rr i) (ts':=ts) (.r0 aF) h.wg (by rw[Hk hL];exact h.cw)
   (by rw[Hk hL];exact h.JP (by omega) (λop hop=>⟨(eO a6 op hop).1,λx hx=>((eO a6 op hop).2 x hx).elim⟩))
   (by simp) (by omega) (λe=>by omega) (.inl rfl) (λ_=>⟨aA,hs⟩) (λop hop=>by obtain⟨e,he,rfl⟩:=X hop;simp at he) (AD _) (by rw[hd];rfl) (λ_ e=>by omega) (by simp) (.inl ⟨rfl,hO.LT⟩) h.Hb
  refine⟨g',w',_,_,_,_,_,_,_,st,sm,zK,hw,λtag' ht _=>bc (by have:=a7.same (i:=i) 0 0;rwa [hs] at this) ht,by rw[I,hM];exact .fuel (by omega),λk hk=>F M _ hk,Et L _ (by omega),du hi (by simp[cnt,hs]),λk hk h6=>?_,rfl⟩;have e:k≠i:=λe=>by subst e;omega
  rw[F D _ e,F rr _ e];exact⟨h6,rfl⟩
def Cw.free (c:Cw P SB zZ Gn Wg zO zN Kp L (C (i+1)) W):Cw P SB zZ Gn Wg zO zN Kp (put L (i+1) bW) bW W:=by
 have d:=c.drop (i+1);refine⟨d.like,d.EX,d.MV,d.dead,λa x ha _=>?_,d.sep,d.Li,d.Jd,d.keep,d.FA,d.LH,d.NW⟩;have e:a≠i+1:=λe=>by subst e;rw[El] at ha;cases ha
 exact d.Jc a x ha (λe'=>e (cK e').LT)
def WI.turn (h:WI P SB BB zZ Gn ty Wg zO zN Kp Ψ0 Ψ2 j0 j gs W t D M O L ts rr st sm)(hi:i<j)(hg:gs[i+1]?=C g)(hs:(D i).stage=7)(hd:(D i).Lo=0){m:Nat}(hk:GW P.b ty Wg bb (R0 P.b ty Wg) m g W)(a7:O i=bo->Ψ2 W) :
  ∃ts',WI P SB BB zZ Gn ty Wg zO zN Kp Ψ0 Ψ2 j0 j gs W t D (upd M i (.st 7 m)) (upd O i bb) (put L (i+1) bW) ts' rr st sm/\ts'.tp=ts.tp:=by
 have a6:∀ {a y},put L (i+1) bW a=C y->L a=C y:=λ{a y} e=>by
  by_cases e':a=i+1
  .subst e';rw[El] at e;cases e
  .rwa [Et L _ e'] at e
 have wk:∀a,a<j->∃g,gs[a+1]?=C g/\GC P SB BB zZ Gn ty Wg Ψ2 (D a).stage (D a).Lo (upd M i (.st 7 m) a) (put L (i+1) bW (a+1)) (upd O i bb a) g W:=λa ha=>by
  by_cases e:a=i
  .subst e;refine⟨g,hg,?_⟩;rw[I,I,El,hs,hd];exact .r0 hk
  .obtain⟨y,hy,hs⟩:=h.wk a ha;refine⟨y,hy,?_⟩;rw[F M _ e,F O _ e,Et L _ (by omega)];exact hs
 have out:∀a,j<a->put L (i+1) bW a=none:=λa ha=>by rw[Et L _ (by omega)];exact h.out a ha
 by_cases ho:O i=bo
 .have e:=h.KE i hi ho;subst e;refine⟨.done,⟨h.size,wk,Cw.free h.cw,h.tr.My (λk l=>?_) (λk l=>?_),h.Li,h.deafW,h.rel,h.wg,λa ha e=>?_,λk e=>(by cases e),⟨λe=>(by cases e),λ_=>a7 ho⟩,out,h.old,h.jj⟩,rfl⟩
  .rintro(⟨x,hx,hw⟩|⟨_,h2,_⟩)
   .exact .inl ⟨x,a6 hx,hw⟩
   .cases h2
  .rintro(⟨x,hx,hw⟩|⟨_,h2,_⟩)
   .exact .inl ⟨x,a6 hx,hw⟩
   .cases h2
  .by_cases e':a=i
   .subst e';rw[I] at e;cases e
   .rw[F O _ e'] at e;have:=TS.at_.inj (h.KE a ha e);omega
 .have a8:O i=false:=by simpa using ho
  refine⟨ts,⟨h.size,wk,h.cw.drop (i+1),h.tr.My (λk l=>?_) (λk l=>?_),h.Li,h.deafW,h.rel,h.wg,λa ha e=>?_,λk e=>?_,h.Hb,out,h.old,h.jj⟩,rfl⟩
  .rintro(⟨x,hx,hw⟩|h2)
   .exact .inl ⟨x,a6 hx,hw⟩
   .exact .inr h2
  .rintro(⟨x,hx,hw⟩|h2)
   .exact .inl ⟨x,a6 hx,hw⟩
   .exact .inr h2
  .by_cases e':a=i
   .subst e';rw[I] at e;cases e
   .rw[F O _ e'] at e;exact h.KE a ha e
  .obtain⟨a,ha,e1,e2⟩:=h.Lj k e;refine⟨a,ha,e1,?_⟩;rw[F O _ (λe'=>by subst e';rw[a8] at e2;cases e2)];exact e2
def pU (h:WI P SB BB zZ Gn ty Wg zO zN Kp Ψ0 Ψ2 j0 j gs W t D M O L ts rr st sm)(hi:i<j)(hs:(D i).stage=7)(hd:(D i).Lo=0){x:Lone}(hL:L (i+1)=C x)
  {wl:Ef} {Q:Z->Y->Prop} (hM:M i=.born Q (x.g,x.w)) (a6:br j D tag st sm) (a8:wl.le x.β) (hQ:cO P SB BB zZ Gn ty Wg Ψ2 Q x.H x.T wl (O i)) (aA:∀g w,Q g w->BB g.L.fn=bb) (hr:EL P.a BB Q 0 x.g x.w) (hb:mC P SB BB zZ x g) :
  J4 P SB BB zZ Gn ty Wg zO zN Kp Ψ0 Ψ2 j0 j gs W t D M L rr tag ts.tp i g:=by
 have aB:j0<=i:=b9 λzY=>by have:=h.old i zY;omega
 obtain⟨_,g',zK,aC⟩:=hb;have a7:∀e∈(#[]:Array bD),(U e).L=none:=by simp
 have hp:put L (i+1) (C x)=L:=by
  funext a;unfold put;split
  .rename_i e;rw[e,hL]
  .rfl
 have hw:=h.next hi (g:=g) (fn:=g.L.fn) (pos:=g.L.L) (r':=rr i) (ts':=ts) (o':=O i) (.tree a8 hQ aA hr aC) h.wg (by rw[hp];exact h.cw)
  (by rw[hp];exact h.JP (by omega) (λop hop=>⟨(eO a7 op hop).1,λx hx=>((eO a7 op hop).2 x hx).elim⟩))
  (by simp) (by omega) (λe=>by omega) (.inl rfl) (λ_=>⟨aB,hs⟩) (λop hop=>by obtain⟨e,he,rfl⟩:=X hop;simp at he) (AD _) (by rw[hd];rfl) (λ_ e=>by omega) (λho=>h.KE i hi ho) (.inl ⟨rfl,rfl⟩) h.Hb
 refine⟨g',W,_,_,_,_,_,_,_,st,sm,zK W,hw,λtag' ht _=>bc (by have:=a6.same (i:=i) 0 0;rwa [hs] at this) ht,by rw[I,hM];exact .un,λk hk=>F M _ hk,Et L _ (by omega),du hi (by simp[cnt,hs]),λk hk h6=>?_,rfl⟩;have e:k≠i:=λe=>by subst e;omega
 rw[F D _ e,F rr _ e];exact⟨h6,rfl⟩
def pV (lib:∀H,Lib P SB H zZ BB Gn)(h:WI P SB BB zZ Gn ty Wg zO zN Kp Ψ0 Ψ2 j0 j gs W t D M O L ts rr st sm)(tz:ao zN Ψ0)(aD:ao zN Ψ2)(hi:i<j)(hs:(D i).stage=7){d:Nat}(hd:(D i).Lo=d){x:Lone}(hL:L (i+1)=C x)
  {wl:Ef} {Q:Z->Y->Prop} (hM:M i=.tree Q (x.g,x.w)) (a8:br j D tag st sm) (aF:wl.le x.β) (hQ:cO P SB BB zZ Gn ty Wg Ψ2 Q x.H x.T wl (O i)) (aA:∀g w,Q g w->BB g.L.fn=bb)
  {ng:Tape->Nat->Z} {nw:Tape->Nat->Y} (h1:E7 P.a BB x.g x.w) (h2:∀τ d,(∃es,eb P.a bo x.g (on x.w τ d)=.go (ng τ d) (nw τ d) es)/\(ng τ d).callers≠[]) (h3:∀τ n,EL P.a BB Q d (ng τ n) (nw τ n)) (hg:Fe P SB BB zZ x g) :
  J4 P SB BB zZ Gn ty Wg zO zN Kp Ψ0 Ψ2 j0 j gs W t D M L rr tag ts.tp i g:=by
 have aG:j0<=i:=b9 λzY=>by have:=h.old i zY;omega
 have hq:¬Q x.g x.w:=λhq=>by have:=h1.1;rw[aA _ _ hq] at this;cases this
 obtain⟨g',w',es,DZ,g2,W',ES,e1,e2,e3,e4,e5⟩:=J2 (lib x.H) (main2:=bb) h1 h2 hg (h.cw.like _ x hL);have aH:EL P.a BB Q d g' w':=by obtain⟨rfl,rfl⟩:=e2;exact h3 _ _
 have f:Hw P SB zZ Gn x W DZ w' W' ES.toList:=e5;have aB:=h.cw.EX _ x hL;have aC:W'.heap[Wg]?=W.heap[Wg]?:=h.cw.same hL f h.cw.Li.1 (h.cw.MV _ x hL);have aI:WgAt ty Wg W' st sm:=by unfold WgAt;rw[aC];exact h.wg
 have hes:ES=ES.toList.Li:=by simp
 have a7:ts.LE≠C (i+1)->∀B,zN B->W'.heap[B]?=W.heap[B]?:=λho B hB=>h.cw.same hL f (h.cw.Li.2.2 B hB) λb hb=>h.cw.Jc _ x hL ho b B hb hB;have a6:=cN f aB;rw[<-hes] at a6;have hw:=h.next hi (g:=g) (g':=g2) (fn:=g.L.fn) (pos:=g.L.L) (es:=ES) (r':=rr i) (ts':=ts) (x':=C ⟨g',w',x.H,DZ,x.T⟩) (o':=O i) (.tree (x:=⟨g',w',x.H,DZ,x.T⟩) (Ef.le_trans aF e5.le) hQ aA aH e4) aI (h.cw.step hL f g')
  (by rw[hes];exact h.cw.NX hL f g' Dp (by omega) h.tr.ti h.Li) (λe he a=>(a6 e he).2.2 a) (by omega) (λe=>by omega) (.inl rfl) (λ_=>⟨aG,hs⟩)
  (by rw[hes];exact eE f aB) f.SIZE (by rw[hd];exact ea (λe he=>⟨(a6 e he).1,(a6 e he).2.1⟩) d) (λ_ e=>by omega) (λho=>h.KE i hi ho) (.inl ⟨rfl,rfl⟩)
  ⟨λe=>tz W W' (a7 (by rw[e];simp[TS.LE])) (h.Hb.1 e),λe=>aD W W' (a7 (by rw[e];simp[TS.LE])) (h.Hb.2 e)⟩
 refine⟨g2,W',ES,_,_,_,_,_,_,st,sm,e3,hw,λtag' ht _=>bc (by have:=a8.same (i:=i) 0 d;rwa [hs] at this) ht,?_,λk hk=>F M _ hk,Et L _ (by omega),du hi (by simp[cnt,hs]),λk hk h6=>?_,rfl⟩
 .rw[I,hM];exact .tree hq ⟨W.tape,W.drawn,es,e1,e4.callers.ne⟩
 .have e:k≠i:=λe=>by subst e;omega
  rw[F D _ e,F rr _ e];exact⟨h6,rfl⟩
def _root_.Go.Em.GM.mem {β:Ef}{es ES:Array bD}(h:GM β es ES):∀e∈ES,(U e).L=bW/\(∀a,e.loc≠.mark (.release a)):=by
 intro e he;cases h with
 |Hv m hm=>simp only[B2,AM,AK,or_false] at he;subst he;rcases hm with rfl|rfl<;>exact⟨rfl,by simp⟩
 |G3 o s mk hm hb=>simp only[B2,AM,AK,or_false] at he;subst he;rcases hm with rfl|rfl<;>exact⟨rfl,by simp⟩
 |none=>simp at he
def _root_.Go.Em.GM.Li {β:Ef}{es ES:Array bD}(h:GM β es ES){B:Nat}(hl:∀e∈ES,∀ad,e.loc=.mark (.acquire ad)\/e.loc=.mark (.releaseMerge ad)->ad.Lo<B):∀e∈ES,(U e).Li B:=by
 intro e he;cases h with
 |Hv m hm=>simp only[B2,AM,AK,or_false] at he;subst he;rcases hm with rfl|rfl<;>trivial
 |G3 o s mk hm hb =>
  have:=hl e he;simp only[B2,AM,AK,or_false] at he;subst he;obtain rfl|rfl:=hm
  .exact this _ (.inl rfl)
  .exact this _ (.inr rfl)
 |none=>simp at he
def pW (lib:∀H,Lib P SB H zZ BB Gn)(aB:∀(f:bh) (fn:Func),P.a.L[f]?=C fn->fn.body.L=bo->P.fs[f]?=C fn)(h:WI P SB BB zZ Gn ty Wg zO zN Kp Ψ0 Ψ2 j0 j gs W t D M O L ts rr st sm)(hi:i<j)(hs:(D i).stage=7){d:Nat}(hd:(D i).Lo=d){x:Lone}(hL:L (i+1)=C x)
  {wl:Ef} {Q:Z->Y->Prop} (hM:M i=.tree Q (x.g,x.w)) (a8:br j D tag st sm) (aC:wl.le x.β) (hQ:cO P SB BB zZ Gn ty Wg Ψ2 Q x.H x.T wl (O i)) (aA:∀g w,Q g w->BB g.L.fn=bb)
  {b:b7} {a:Act} {ops:Array Oper} {i0:Nat} {rest:List Nat} {k:List Item} {cs:List b7} {o:Oper} {es:Array bD} {v:Value} (a6:x.g=ER (b.at a (.inRegion ops (i0::rest)::k)) cs)
  (h1:BB b.fn=bo) (h2:cs≠[]) (h3:ops[i0]?=C o) (h4:Region.wanted o (yielded ops a.tmps)=bo) (h5:b.kind≠.early) (h6:Fp P.a a x.w o es v) (h7:∀τ n,EL P.a BB Q (V d es) (ER (b.at (a.put o.dst v) (.inRegion ops rest::k)) cs) (on x.w τ n)) (hg:Fe P SB BB zZ x g) :
  J4 P SB BB zZ Gn ty Wg zO zN Kp Ψ0 Ψ2 j0 j gs W t D M L rr tag ts.tp i g:=by
 have aD:j0<=i:=b9 λzY=>by have:=h.old i zY;omega
 have hq:¬Q x.g x.w:=λhq=>by have:=aA _ _ hq;rw[a6] at this;exact AH h1 (by rw[show b.fn=(ER (b.at a (.inRegion ops (i0::rest)::k)) cs).L.fn from rfl,this];decide)
 have hw0:=h.cw.like _ x hL;have zL:FV P SB x.H zZ BB x.T x.β (ER (b.at a (.inRegion ops (i0::rest)::k)) cs) g:=a6▸hg;obtain⟨g2,ES,e3,e4,e5,e6⟩:=LB aB (main2:=bb) h1 zL hw0 h3 h4 h5 h6;have aF:EA (SP SB x.H) (CK P.a SB zZ) Gn x.β (on x.w W.tape W.drawn) W:=hw0.same rfl rfl hw0.env;have f0:Hw P SB zZ Gn x W x.β (on x.w W.tape W.drawn) W []:=Fin.refl aF;have zP:=h.cw.step hL f0 (ER (b.at (a.put o.dst v) (.inRegion ops rest::k)) cs)
 have a7:=e5.mem;have hw:=h.next hi (g:=g) (g':=g2) (fn:=g.L.fn) (pos:=g.L.L) (es:=ES) (r':=rr i) (ts':=ts) (x':=C ⟨ER (b.at (a.put o.dst v) (.inRegion ops rest::k)) cs,on x.w W.tape W.drawn,x.H,x.β,x.T⟩) (o':=O i)
  (.tree (x:=⟨ER (b.at (a.put o.dst v) (.inRegion ops rest::k)) cs,on x.w W.tape W.drawn,x.H,x.β,x.T⟩) aC hQ aA (h7 _ _) e4) h.wg zP
  ((h.JP (k:=i+1) (by omega) (u:=J (i+1) g.L.fn g.L.L ES) (λop hop=>by
   obtain⟨e,he,rfl⟩:=X hop
   exact⟨rfl,λy hy=>by rw[(a7 e he).1] at hy;cases hy⟩)).LT (λj l hl=>?_) (λj l hl=>?_))
  (λe he a=>(a7 e he).2 a) (by omega) (λe=>by omega) (.inl rfl) (λ_=>⟨aD,hs⟩)
  (λop hop=>by obtain⟨e,he,rfl⟩:=X hop;exact e5.Li e6 e he) (AD _) (by rw[hd];exact e5.Lo d) (λ_ e=>by omega) (λho=>h.KE i hi ho) (.inl ⟨rfl,rfl⟩) h.Hb
 .refine⟨g2,W,ES,_,_,_,_,_,_,st,sm,e3,hw,λtag' ht _=>bc (by have:=a8.same (i:=i) 0 (V d es);rwa [hs] at this) ht,?_,λk hk=>F M _ hk,Et L _ (by omega),du hi (by simp[cnt,hs]),λk hk h6=>?_,rfl⟩
  .rw[I,hM];refine .tree hq ⟨W.tape,W.drawn,es,?_,h2⟩;show eb P.a bo x.g (on x.w W.tape W.drawn)=_;rw[a6];exact(h6.same Dc).step h3 h4 h5
  .have e:k≠i:=λe=>by subst e;omega
   rw[F D _ e,F rr _ e];exact⟨h6,rfl⟩
 .obtain⟨y,hy,hr⟩|hl:=hl
  .by_cases e:j=i+1
   .subst e;rw[El] at hy;cases hy;exact .inl ⟨x,hL,hr⟩
   .rw[Et L _ e] at hy;exact .inl ⟨y,hy,hr⟩
  .exact .inr hl
 .obtain⟨y,hy,hr⟩|hl:=hl
  .by_cases e:j=i+1
   .subst e;rw[El] at hy;cases hy;exact .inl ⟨x,hL,hr⟩
   .rw[Et L _ e] at hy;exact .inl ⟨y,hy,hr⟩
  .exact .inr hl
end
open Go.ConcR (KK WgAt stA smA rd wr mk DC0 Bk g_of_ofEvents bk_of_mute ofEvent_loc_mark ofEvent_cell ofEvent_mk)
section
variable {P:Er} {SB BB:bh->Bool} {zZ:Bool} {Gn:Nat} {ty Wg:Nat} {zO zN:Nat->Prop} {Kp:Ib} {Ψ0 Ψ2:Y->Prop}
 {j0 j:Nat} {gs:Array Z} {W W':Y} {t:b8} {D:Nat->WD} {M:Nat->Wm} {O:Nat->Bool} {L:Nat->Option Lone} {ts ts':TS} {rr:Nat->Nat} {st sm Jj JO:Int} {tag:ez} {i:Nat} {g:Z}
def pX (h:WI P SB BB zZ Gn ty Wg zO zN Kp Ψ0 Ψ2 j0 j gs W t D M O L ts rr st sm)(tz:ao zN Ψ0)(a8:ao zN Ψ2)(hi:i<j)(hL:L (i+1)=bW)(hO:O i=bb)(hs:(D i).stage=1){q d:Nat}(hd:(D i).Lo=d)(hM:M i=.st 1 q)(zA:g.status=.L)(a7:br j D tag st sm)
  (hk:QuitsD P.b q d g):J4 P SB BB zZ Gn ty Wg zO zN Kp Ψ0 Ψ2 j0 j gs W t D M L rr tag ts.tp i g:=by
 cases q with
 |zero=>rw[hk.1] at zA;cases zA
 |succ q =>
  obtain⟨hf,_⟩|⟨_,g',es,a6,hstep,hq⟩:=hk
  .rw[hf] at zA;cases zA
  .have aA:∀e∈es,Bk Wg e:=λe he=>bk_of_mute (a6 e he)
   have hno:∀a e,es[a]?=C e->(U e).L=bW\/0<V (D i).Lo (es.extract 0 a):=λa e he=>.inl (by
    rcases bk_of_mute (Wg:=Wg) (a6 e (Bi he)) with h1|h1|⟨b,wr,rfl,_⟩
    .rw[ofEvent_loc_mark h1];rfl
    .rw[ofEvent_loc_mark h1];rfl
    .have:=a6 _ (Bi he);simp[Event.mute] at this)
   exact bt h tz a8 hi hL hO hs (by omega) (hstep W) (.quit hq) (by omega) (λ_=>rfl) (.refl Wg W) h.wg aA hno (by rw[hd])
    (λ_ ht _=>bc (by have:=a7.same (i:=i) 0 (V d es);rwa [hs] at this) ht) (by rw[hM];exact .fuel (by omega))
def moved (lib:∀H,Lib P SB H zZ BB Gn)(aN:∀(f:bh) (fn:Func),P.a.L[f]?=C fn->fn.body.L=bo->P.fs[f]?=C fn)(h:WI P SB BB zZ Gn ty Wg zO zN Kp Ψ0 Ψ2 j0 j gs W t D M O L ts rr st sm)(tz:ao zN Ψ0)(aB:ao zN Ψ2)(hi:i<j)(hg:gs[i+1]?=C g)(zA:g.status=.L)(a6:br j D tag st sm)(hb:j+pend tag<2147483648) :
  J4 P SB BB zZ Gn ty Wg zO zN Kp Ψ0 Ψ2 j0 j gs W t D M L rr tag ts.tp i g:=by
 obtain⟨g₁,aH,hs⟩:=h.wk i hi;obtain rfl:g=g₁:=by rw[hg] at aH;exact cK aH
 generalize zG:(D i).stage=s at hs;generalize a7:(D i).Lo=dd at hs;generalize hM:M i=mm at hs;generalize hL:L (i+1)=lx at hs;generalize hO:O i=oo at hs;have hVj:=Vc_le j D;have idle:∀ {g':Z} {m' m0:Nat},M i=.st s m0->lx=bW->oo=bb->eb P.b bb g W=.go g' W #[]->GC P SB BB zZ Gn ty Wg Ψ2 s dd (.st s m') bW bb g' W->m'<m0->s<=6->s≠1->J4 P SB BB zZ Gn ty Wg zO zN Kp Ψ0 Ψ2 j0 j gs W t D M L rr tag ts.tp i g:=by
  intro g' m' m0 hM0 hl ho zK hs' hm h6 h1;exact bt h tz aB hi (by rw[hL,hl]) (by rw[hO,ho]) zG h6 zK hs' (by omega) (λzY=>by have:=h.old i zY;omega) (.refl Wg W) h.wg (by simp) (by simp) (by rw[a7];rfl)
   (λ_ ht _=>bc (by have:=a6.same (i:=i) 0 dd;rwa [zG] at this) ht) (by rw[hM0];exact .fuel hm)
 cases hs with
 |born aG hQ aI hr hbn=>exact pU h hi zG a7 hL hM a6 aG (by rw[hO];exact hQ) aI hr hbn
 |tree aG hQ aI hr zQ =>
  rename_i x wl Q;generalize aJ:x.g=gx at hr;generalize aK:x.w=wx at hr;cases hr with
  |fin hq =>
   subst aJ aK;obtain⟨⟨m,hm⟩,aO⟩:=hQ x g W rfl rfl aG hq zQ (h.cw.like _ x hL) h.live;obtain⟨ts',h',aP⟩:=h.turn hi hg zG a7 hm (by rw[hO];exact aO);obtain⟨g',W',es,D',M',O',L',aQ,aR,Jj,JO,k1,k2,k3,k4,k5,k6,k7,k8,k9⟩:=LK h' hi (El L _ _) (I O _ _) zG a7 (I M _ _) a6 hm;refine⟨g',W',es,D',M',O',L',aQ,aR,Jj,JO,k1,k2,k3,?_,λk hk=>(k5 k hk).trans (F M _ hk),k6.trans (Et L _ (by omega)),k7,k8,k9.trans aP⟩
   rw[I] at k4;obtain⟨s',m',e⟩:=k4.Pz;rw[e,hM];exact .off
  |next ng nw f1 f2 f3 =>
   subst aJ aK;exact pV lib h tz aB hi zG a7 hL hM a6 aG (by rw[hO];exact hQ) aI f1 f2 f3 zQ
  |spec f1 f2 f3 f4 f5 f6 f7 =>
   subst aK;exact pW lib aN h hi zG a7 hL hM a6 aG (by rw[hO];exact hQ) aI aJ f1 f2 f3 f4 f5 f6 f7 zQ
 |r0 hk=>exact LK h hi hL hO zG a7 hM a6 hk
 |k1 hk =>
  obtain aA|⟨m',rfl,hstep⟩:=Goes.cases hk
  .obtain⟨_,g',zK,m₂,aF⟩:=aA W (RL.refl W);exact bt h tz aB hi hL hO zG (by omega) zK (.d1 aF) (by omega) (λzY=>by have:=h.old i zY;omega) (.refl Wg W) h.wg (by intro e he;simp at he;subst he;exact .inl rfl) (by intro a e he;exact .inl (by have:=Bi he;simp at this;subst this;rfl)) (by rw[a7];rfl)
    (λ_ ht _=>(a6.counted hi (by omega) (.inr rfl) _ _).retag ht) (by rw[hM];exact .stage (by omega))
  .obtain⟨g',w',es,zK,⟨rfl,rfl⟩,aD⟩:=hstep W (RL.refl W);exact idle hM rfl rfl zK (.k1 aD) (by omega) (by omega) (by omega)
 |d1 hk =>
  obtain aA|⟨m',rfl,hstep⟩:=Goes.cases hk
  .obtain⟨_,hall⟩:=aA W (RL.refl W);have zv:cnt (D i)=1:=by simp[cnt,zG]
   have hV1:1<=Vc j D:=by have:=le_sumTo (f:=λx=>cnt (D x)) hi;simp only[Vc];omega
   have bk2:∀e∈#[rd (stA Wg),wr (stA Wg)],Bk Wg e:=by intro e he;simp at he;rcases he with rfl|rfl<;>exact cf _ _ rfl
   have aL:∀jx e,(#[rd (stA Wg),wr (stA Wg)]:Array bD)[jx]?=C e->(U e).L=bW\/0<V (D i).Lo ((#[rd (stA Wg),wr (stA Wg)]:Array bD).extract 0 jx):=by
    intro jx e he;rw[a7]
    match jx,he with
    |0,_=>exact .inr (by simp[V])
    |1,_=>exact .inr (by simp[V,rd])
    |jx+2,he=>simp at he
   have opq:OpenSt j D->OpenSt j (upd D i ⟨1,0,1⟩):=λh a ha=>by
    by_cases e:a=i
    .subst e;rw[I];simp
    .rw[F D _ e];exact h a ha
   have aT:cnt (⟨1,0,1⟩:WD)=0:=rfl;have hold:∀ {s':Nat},i<j0->s'=1:=λzY=>by have:=h.old i zY;omega
   have a8:=h.wg;cases a6 with
   |opn h1 h2 h3 =>
    obtain⟨v,hv⟩:∃v,Vc j D+pend tag=v+1:=⟨Vc j D+pend tag-1,by omega⟩;rw[hv] at a8;have aM:WgAt ty Wg W (((v:Nat)+1)*KK+((0:Nat):Int)) 0:=by simpa using a8
    obtain⟨g',zK,_,hq⟩:=hall v 0 (by omega) (by omega) aM;obtain⟨q,hq⟩:=hq (by omega);have hv':Vc j (upd D i ⟨1,0,1⟩)+pend tag=v:=by have:=Vc_upd D (⟨1,0,1⟩:WD) hi;omega
    refine bt h tz aB hi hL hO zG (by omega) zK (.quit hq) (by omega) hold (bs W (stA Wg) _) (a8.setSt _) bk2 aL (by rw[a7];rfl) (λ_ ht _=>bc ?_ ht) (by rw[hM];exact .stage (by omega));have e:((v:Nat):Int)*KK+((0:Nat):Int)=((Vc j (upd D i ⟨1,0,1⟩)+pend tag:Nat):Int)*KK:=by rw[hv'];simp
    rw[e];exact .opn h1 (opq h2) (λvs ev=>by have:=h3 vs ev;omega)
   |reg h1 h2 h3 =>
    obtain⟨v,hv⟩:∃v,Vc j D=v+1:=⟨Vc j D-1,by omega⟩;rw[hv] at a8;have aM:WgAt ty Wg W (((v:Nat)+1)*KK+((1:Nat):Int)) 0:=by simpa using a8
    obtain⟨g',zK,hl,hq⟩:=hall v 1 (by omega) (by omega) aM;by_cases hv0:v=0
    .subst hv0;obtain⟨m₂,aF⟩:=hl ⟨rfl,rfl⟩;refine bt h tz aB hi hL hO zG (by omega) zK (.d2 aF) (by omega) hold (bs W (stA Wg) _) (a8.setSt _) bk2 aL (by rw[a7];rfl) (λ_ ht _=>bc ?_ ht) (by rw[hM];exact .stage (by omega));have aC:∀a,a<j->a≠i->(D a).stage=1:=λa ha e=>by
      have c0:=others_uncounted hi hv zv a ha e;have:=h2 a ha;simp only[cnt] at c0;split at c0<;>omega
     have:=cU (j:=j) (D:=upd D i ⟨4,0,1⟩) (tag:=tag) i h1 hi (by rw[I];simp) (λa ha e=>by rw[F D _ e];exact aC a ha e);rw[I] at this;simpa using this
    .obtain⟨q,hq⟩:=hq (by omega);have hv':Vc j (upd D i ⟨1,0,1⟩)=v:=by have:=Vc_upd D (⟨1,0,1⟩:WD) hi;omega
     refine bt h tz aB hi hL hO zG (by omega) zK (.quit hq) (by omega) hold (bs W (stA Wg) _) (a8.setSt _) bk2 aL (by rw[a7];rfl) (λ_ ht _=>bc ?_ ht) (by rw[hM];exact .stage (by omega));have e:((v:Nat):Int)*KK+((1:Nat):Int)=((Vc j (upd D i ⟨1,0,1⟩):Nat):Int)*KK+1:=by rw[hv'];simp
     rw[e];exact .reg h1 (opq h2) (by omega)
   |last Lx _ h2 h3 h4 =>
    by_cases e:i=Lx
    .subst e;omega
    .have:=h4 i hi e;omega
   |sema h2=>have:=h2 i hi;omega
   |fin _ h2=>have:=h2 i hi;omega
  .obtain⟨g',w',es,zK,⟨rfl,rfl⟩,aD⟩:=hstep W (RL.refl W);exact idle hM rfl rfl zK (.d1 aD) (by omega) (by omega) (by omega)
 |d2 hk =>
  obtain aA|⟨m',rfl,hstep⟩:=Goes.cases hk
  .obtain⟨_,hx⟩:=aA W (RL.refl W);obtain⟨hW3,aC,rfl,rfl⟩:=a6.isLast hi (by omega);have a8:=h.wg;simp only[zG] at a8;obtain⟨g',zK,m₂,aF⟩:=hx (by simpa using a8);refine bt h tz aB hi hL hO zG (by omega) zK (.d3 aF) (by omega) (λzY=>by have:=h.old i zY;omega) (.refl Wg W) a8 (by intro e he;simp at he;subst he;exact cf _ _ rfl) (by intro jx e he;rw[a7];match jx,he with|0,_=>exact .inr (by simp[V])|jx+1,he=>simp at he) (by rw[a7];rfl) (λ_ ht _=>bc ?_ ht) (by rw[hM];exact .stage (by omega))
   have:=cU (j:=j) (D:=upd D i ⟨3,0,1⟩) (tag:=tag) i hW3 hi (by rw[I];simp) (λa ha e=>by rw[F D _ e];exact aC a ha e);rw[I] at this;simpa using this
  .obtain⟨g',w',es,zK,⟨rfl,rfl⟩,aD⟩:=hstep W (RL.refl W);exact idle hM rfl rfl zK (.d2 aD) (by omega) (by omega) (by omega)
 |d3 hk =>
  obtain aA|⟨m',rfl,hstep⟩:=Goes.cases hk
  .obtain⟨_,hx⟩:=aA W (RL.refl W);obtain⟨hW3,aC,rfl,rfl⟩:=a6.isLast hi (by omega);have a8:=h.wg;simp only[zG] at a8;obtain⟨g',zK,m₂,aF⟩:=hx (by simpa using a8);refine bt h tz aB hi hL hO zG (by omega) zK (.d4 aF) (by omega) (λzY=>by have:=h.old i zY;omega) (bs W (stA Wg) _) (a8.setSt 0) (by intro e he;simp at he;subst he;exact cf _ _ rfl) (by intro jx e he;rw[a7];match jx,he with|0,_=>exact .inr (by simp[V])|jx+1,he=>simp at he) (by rw[a7];rfl) (λ_ ht _=>bc ?_ ht) (by rw[hM];exact .stage (by omega))
   have:=cU (j:=j) (D:=upd D i ⟨2,0,1⟩) (tag:=tag) i hW3 hi (by rw[I];simp) (λa ha e=>by rw[F D _ e];exact aC a ha e);rw[I] at this;simpa using this
  .obtain⟨g',w',es,zK,⟨rfl,rfl⟩,aD⟩:=hstep W (RL.refl W);exact idle hM rfl rfl zK (.d3 aD) (by omega) (by omega) (by omega)
 |d4 hk =>
  obtain aA|⟨m',rfl,hstep⟩:=Goes.cases hk
  .obtain⟨_,hmw,hx⟩:=aA W (RL.refl W);obtain⟨hW3,aC,rfl,rfl⟩:=a6.isLast hi (by omega);have a8:=h.wg;simp only[zG] at a8;obtain⟨g',zK,q,hq⟩:=hx (by simpa using a8);have hrun':g'.status=.L:=by
    cases q with
    |zero=>exact AH hq.2 (by decide)
    |succ q=>exact hq.elim (λx=>AH x.2 (by decide)) (λx=>x.1)
   refine bt h tz aB hi hL hO zG (by omega) zK (es:=bA (smA Wg)) (dd':=1) (.quit hq) (by omega) (λzY=>by have:=h.old i zY;omega) (bs W (smA Wg) _) (a8.setSm 1) ?_ ?_ (by rw[a7];simp[V,bA]) ?_ (by rw[hM];exact .stage (by omega))
   .intro e he;simp[bA] at he;obtain rfl|rfl|rfl|rfl:=he
    .exact .inl rfl
    .exact cf _ _ rfl
    .exact cf _ _ rfl
    .exact .inr (.inl rfl)
   .intro jx e he;rw[a7]
    match jx,he with
    |0,he=>simp[bA] at he;subst he;exact .inl rfl
    |1,_=>exact .inr (by simp[V,bA])
    |2,_=>exact .inr (by simp[V,bA])
    |3,he=>simp[bA] at he;subst he;exact .inl rfl
    |jx+4,he=>simp[bA] at he
   .intro tag' ht hw;have aS:=hw hmw hrun';have e3:tag'=.w3:=by
     obtain rfl|⟨_,rfl⟩:=ht
     .cases tag'<;>first|rfl|exact hW3.elim|exact AH rfl aS
     .rfl
    subst e3;simp only[if_true];exact .sema λa ha=>by
     by_cases e:a=i
     .subst e;rw[I]
     .rw[F D _ e];exact aC a ha e
  .obtain⟨g',w',es,zK,⟨rfl,rfl⟩,aD⟩:=hstep W (RL.refl W);exact idle hM rfl rfl zK (.d4 aD) (by omega) (by omega) (by omega)
 |quit hk=>exact pX h tz aB hi hL hO zG a7 hM zA a6 hk
end
open Go.ConcR (KK WgAt stA smA rd wr mk DC0 Bk g_of_ofEvents bk_of_mute ofEvent_loc_mark ofEvent_cell ofEvent_mk)
section
variable (P:Er) (SB BB:bh->Bool) (zZ:Bool) (Gn:Nat) (ty Wg:Nat) (zN:Nat->Prop) (Ψ0 Ψ2:Y->Prop)
structure Split (x:Lone)(G' child:Z)(W:Y)(tp Mz o:Bool)(x' xk:Lone)(OM:Ef):Prop where
 gl:Fe P SB BB zZ x' G'
 wl:Gw P SB zZ Gn x' W
 tw:x'.H.EX=bb
 gk:mC P SB BB zZ xk child
 wk:Gw P SB zZ Gn xk W
 twk:xk.H.EX=bb
 bk:OM.le xk.β
 sub:∀b B,x'.β b B->∃b0,x.β b0 B/\(x'.H b=bb->x.H b0=bb/\(Ro x.w b0->Ro x'.w b))
 NZ:∀b B,xk.β b B->(∃b0,x.β b0 B/\(xk.H b=bb->x.H b0=bb/\(Ro x.w b0->Ro xk.w b)))\/(o=bo/\zN B)
 LT:∀b,x'.β b Wg->x'.H b=bo
 Rt:∀b,xk.β b Wg->xk.H b=bo
 Jc:∀b B,x'.β b B->zN B->x'.H b=bo
 Ru:o=bb->∀b B,xk.β b B->zN B->xk.H b=bo
 sep:Sep (SP SB x'.H) x'.β x'.w (SP SB xk.H) xk.β xk.w
 Rv:(o=bo->tp=bo/\Mz=bb)/\(o=bb->Mz=tp)
end
section
variable {P:Er} {SB BB:bh->Bool} {zZ:Bool} {Gn:Nat} {ty Wg:Nat} {zO zN:Nat->Prop} {Kp:Ib} {Ψ0 Ψ2:Y->Prop}
 {j0 j:Nat} {gs:Array Z} {W W':Y} {t:b8} {D:Nat->WD} {M:Nat->Wm} {O:Nat->Bool} {L:Nat->Option Lone} {ts ts':TS} {rr:Nat->Nat} {st sm Jj JO:Int} {a a':Z}
def WI.main (h:WI P SB BB zZ Gn ty Wg zO zN Kp Ψ0 Ψ2 j0 j gs W t D M O L ts rr st sm){fn:bh}{pos:String}{es:Array bD}{x':Option Lone}
  (a8:WgAt ty Wg W' Jj JO) (zP:Cw P SB zZ Gn Wg zO zN Kp (put L 0 x') ts.LE W')
  (aB:TI (MU zO Wg) (NH zN (put L 0 x') ts.tp) (Ls zN (put L 0 x') ts.tp) (j+1) (t++J 0 fn pos es))
  (aC:∀e∈es,∀a,e.loc≠.mark (.release a))
  (aA:∀op∈J 0 fn pos es,op.act.Li W'.heap.size) (zx:W.heap.size<=W'.heap.size)
  (a7:(ts=.start->Ψ0 W')/\(ts=.done->Ψ2 W')) :
  WI P SB BB zZ Gn ty Wg zO zN Kp Ψ0 Ψ2 j0 j ((gs.map (woken P.b a a' W')).L 0 a') W' (t++J 0 fn pos es) D M O (put L 0 x') ts rr Jj JO:=by
 have a6:∀op∈J 0 fn pos es,op.g=0:=g_of_ofEvents;refine⟨by simp[h.size],λb hb=>?_,zP,h.tr.app aB a6 (λop hop e=>?_) (λb hb hgb zU=>AH rfl zU),λop hop=>?_,λb hb=>by rw[Deaf_other t (by omega) _ a6,h.deafW b hb],λb h0 hb hs=>(h.rel b h0 hb hs).appOther a6 (by omega),a8,h.KE,h.Lj,a7,λb hb=>?_,h.old,h.jj⟩
 .obtain⟨y,hy,hs⟩:=h.wk b hb;refine⟨y,by rw[get_map_set _ _ _ _ (by omega),hy,BT,hs.woken],?_⟩;rw[Et L _ (by omega)];exact hs.rely λ_=>⟨_,_,a8⟩
 .obtain⟨x,hx,rfl⟩:=X hop;exact aC x hx _ (cq e)
 .obtain hop|hop:=cu.1 hop
  .exact dS zx (h.Li op hop)
  .exact aA op hop
 .rw[Et L _ (by omega)];exact h.out b hb
def gH (Wg:Nat)(e:bD):Prop:=Bk Wg e\/∃b:Addr,b.Lo=Wg/\(e=mk (.read b)\/e=mk (.write b)\/e=mk (.acquire b))
def Nn {e:bD}(h:gH Wg e){x:Touch}(hx:(U e).L=C x):(∃a:Addr,x.loc=.cell a/\a.Lo=Wg)/\x.kind≠.plain:=by
 obtain h|⟨b,hb,rfl|rfl|rfl⟩:=h
 .obtain⟨h1,h2⟩:=LJ h hx;exact⟨h1,by rw[h2];simp⟩
 .simp[mk,U,bl] at hx;subst hx;exact⟨⟨b,rfl,hb⟩,by simp⟩
 .simp[mk,U,bl] at hx;subst hx;exact⟨⟨b,rfl,hb⟩,by simp⟩
 .simp[mk,U,bl] at hx
def WI.book0 (h:WI P SB BB zZ Gn ty Wg zO zN Kp Ψ0 Ψ2 j0 j gs W t D M O L ts rr st sm)(tz:ao zN Ψ0)(aA:ao zN Ψ2){fn:bh}{pos:String}{es:Array bD}
  (a6:Aside Wg W W') (a8:WgAt ty Wg W' Jj JO) (a7:∀e∈es,gH Wg e) :
  WI P SB BB zZ Gn ty Wg zO zN Kp Ψ0 Ψ2 j0 j ((gs.map (woken P.b a a' W')).L 0 a') W' (t++J 0 fn pos es) D M O L ts rr Jj JO:=by
 have hbl:∀B,zN B->W'.heap[B]?=W.heap[B]?:=λB hB=>a6.Lo B (h.cw.Jd B hB).1;have hp:put L 0 (L 0)=L:=by
  funext b;unfold put;split
  .rename_i e;rw[e]
  .rfl
 have:=h.main (a:=a) (a':=a') (fn:=fn) (pos:=pos) (es:=es) (x':=L 0) a8 (by rw[hp];exact h.cw.group a6 ⟨_,_,_,a8⟩)
  (by
   rw[hp];refine h.JP (k:=0) (by omega) λop hop=>?_;obtain⟨e,he,rfl⟩:=X hop;refine⟨rfl,λx hx=>?_⟩;obtain⟨⟨b,h1,h2⟩,h3⟩:=Nn (a7 e he) hx
   exact⟨⟨b,h1,.inr h2⟩,h3,λ_=>rfl⟩)
  (λe he b=>by
   obtain h1|⟨b',_,rfl|rfl|rfl⟩:=a7 e he
   .exact mD h1 b
   .simp[dt]
   .simp[dt]
   .simp[dt])
  (λop hop=>by
   obtain⟨e,he,rfl⟩:=X hop;rw[a6.size];obtain h1|⟨b',h2,rfl|rfl|rfl⟩:=a7 e he
   .exact NY h1 h.cw.Li.1
   .show b'.Lo<_;rw[h2];exact h.cw.Li.1
   .show b'.Lo<_;rw[h2];exact h.cw.Li.1
   .show b'.Lo<_;rw[h2];exact h.cw.Li.1)
  (by rw[a6.size];exact AD _) ⟨λe=>tz W W' hbl (h.Hb.1 e),λe=>aA W W' hbl (h.Hb.2 e)⟩
 rwa [hp] at this
def WI.QL (h:WI P SB BB zZ Gn ty Wg zO zN Kp Ψ0 Ψ2 j0 j gs W t D M O L ts rr st sm)(tz:ao zN Ψ0)(aB:ao zN Ψ2){x:Lone}(hL:L 0=C x){DZ:Ef}{w':Y}{ES:Array bD}(f:Hw P SB zZ Gn x W DZ w' W' ES.toList)(g':Z){fn:bh}{pos:String} :
  WI P SB BB zZ Gn ty Wg zO zN Kp Ψ0 Ψ2 j0 j ((gs.map (woken P.b a a' W')).L 0 a') W' (t++J 0 fn pos ES) D M O (put L 0 (C ⟨g',w',x.H,DZ,x.T⟩)) ts rr st sm:=by
 have a7:=h.cw.EX _ x hL;have aA:W'.heap[Wg]?=W.heap[Wg]?:=h.cw.same hL f h.cw.Li.1 (h.cw.MV _ x hL);have aC:WgAt ty Wg W' st sm:=by unfold WgAt;rw[aA];exact h.wg
 have hes:ES=ES.toList.Li:=by simp
 have zm:ts.LE≠C 0:=λe=>by
  cases ts with
  |at_ k =>
   obtain⟨i,_,e1,_⟩:=h.Lj k rfl;simp only[TS.LE,cd] at e;omega
  |_=>cases e
 have a6:∀B,zN B->W'.heap[B]?=W.heap[B]?:=λB hB=>h.cw.same hL f (h.cw.Li.2.2 B hB) λb hb=>h.cw.Jc _ x hL zm b B hb hB;have a8:=cN f a7;rw[<-hes] at a8;exact h.main (a:=a) (a':=a') aC (h.cw.step hL f g') (by rw[hes];exact h.cw.NX hL f g' Dp (by omega) h.tr.ti h.Li) (λe he a=>(a8 e he).2.2 a) (by rw[hes];exact eE f a7) f.SIZE
  ⟨λe=>tz W W' a6 (h.Hb.1 e),λe=>aB W W' a6 (h.Hb.2 e)⟩
def TS.next (ts:TS)(o:Bool)(j:Nat):TS:=if o then .at_ (j+1) else ts
def WI.spawn (h:WI P SB BB zZ Gn ty Wg zO zN Kp Ψ0 Ψ2 j0 j gs W t D M O L ts rr st sm){x x' xk:Lone}(hL:L 0=C x){child:Z}{Mz o:Bool}{OM:Ef}(s:Split P SB BB zZ Gn Wg zN x a' child W ts.tp Mz o x' xk OM)
  {Q:Z->Y->Prop} (hQ:cO P SB BB zZ Gn ty Wg Ψ2 Q xk.H xk.T OM o) (aD:(∀g w,Q g w->BB g.L.fn=bb)) (hr:EL P.a BB Q 0 xk.g xk.w) (Lu:Deaf t 0=0) {p q:MemOp} (hp:p.g=0/\p.act=.go (j+1)) (hq:q.g=j+1/\q.act=.start) :
  WI P SB BB zZ Gn ty Wg zO zN Kp Ψ0 Ψ2 j0 (j+1) ((gs.L 0 a').push child) W (t++#[p,q]) (upd D j ⟨7,0,0⟩) (upd M j (.born Q (xk.g,xk.w))) (upd O j o) (put (put L 0 (C x')) (j+1) (C xk)) (ts.next o j) rr st sm/\(ts.next o j).tp=Mz:=by
 have a8:(o=bo->ts=.start):=λho=>by
  have:=(s.Rv.1 ho).1;cases ts<;>first|rfl|cases this
 have aF:(ts.next o j).tp=Mz:=by
  cases o with
  |true=>exact((s.Rv.1 rfl).2).LT
  |false=>exact(s.Rv.2 rfl).LT
 refine⟨?_,aF⟩;have zK:∀op∈#[p,q],op=p\/op=q:=by intro op hop;simpa using hop
 have aA:∀op∈#[p,q],op.act≠.mark .disable/\op.act≠.mark .enable:=by
  intro op hop;obtain rfl|rfl:=zK op hop
  .rw[hp.2];exact⟨by simp,by simp⟩
  .rw[hq.2];exact⟨by simp,by simp⟩
 have a6:∀ {b y},put (put L 0 (C x')) (j+1) (C xk) b=C y->(b=j+1/\y=xk)\/(b=0/\y=x')\/(b≠0/\b≠j+1/\L b=C y):=by
  intro b y e;by_cases h1:b=j+1
  .subst h1;rw[El] at e;cases e;exact .inl ⟨rfl,rfl⟩
  .rw[Et _ _ h1] at e;by_cases h2:b=0
   .subst h2;rw[El] at e;cases e;exact .inr (.inl ⟨rfl,rfl⟩)
   .rw[Et _ _ h2] at e;exact .inr (.inr ⟨h2,h1,e⟩)
 have a7:∀b y,b≠0->L b=C y->Sep (SP SB x'.H) x'.β x'.w (SP SB y.H) y.β y.w/\Sep (SP SB xk.H) xk.β xk.w (SP SB y.H) y.β y.w:=by
  intro b y hb hy;have sp:=h.cw.sep 0 b x y (cA hb) hL hy;refine⟨λc c' B h1 h2=>?_,λc c' B h1 h2=>?_⟩
  .obtain⟨b0,k1,k2⟩:=s.sub c B h1;cases hh:x'.H c with
   |true=>exact .inl rfl
   |false =>
    obtain⟨k3,k4⟩:=k2 hh;obtain e|e|⟨e1,e2⟩:=sp b0 c' B k1 h2
    .have e':x.H b0=true:=e;rw[k3] at e';cases e'
    .exact .inr (.inl e)
    .exact .inr (.inr ⟨k4 e1,e2⟩)
  .cases hh:xk.H c with
   |true=>exact .inl rfl
   |false =>
    obtain⟨b0,k1,k2⟩|⟨ho,hB⟩:=s.NZ c B h1
    .obtain⟨k3,k4⟩:=k2 hh;obtain e|e|⟨e1,e2⟩:=sp b0 c' B k1 h2
     .have e':x.H b0=true:=e;rw[k3] at e';cases e'
     .exact .inr (.inl e)
     .exact .inr (.inr ⟨k4 e1,e2⟩)
    .exact .inr (.inl (h.cw.Jc b y hy (by rw[a8 ho];simp[TS.LE]) c' B h2 hB))
 have aC:∀b B,x'.β b B->∃b0,x.β b0 B:=λb B hb=>let ⟨b0,k1,_⟩:=s.sub b B hb;⟨b0,k1⟩;have cw':Cw P SB zZ Gn Wg zO zN Kp (put (put L 0 (C x')) (j+1) (C xk)) (ts.next o j).LE W:=by
  refine⟨λb y hy=>?_,λb y hy=>?_,λb y hy=>?_,λb y hy c B hc=>?_,λb y hy ho c B hc hB=>?_,λb c y z zU hy hz=>?_,h.cw.Li,h.cw.Jd,h.cw.keep,λb y hy c B hc hB=>?_,h.cw.LH,h.cw.NW⟩
  .obtain⟨_,rfl⟩|⟨_,rfl⟩|⟨_,_,e⟩:=a6 hy
   .exact s.wk
   .exact s.wl
   .exact h.cw.like b y e
  .obtain⟨_,rfl⟩|⟨_,rfl⟩|⟨_,_,e⟩:=a6 hy
   .exact s.twk
   .exact s.tw
   .exact h.cw.EX b y e
  .obtain⟨_,rfl⟩|⟨_,rfl⟩|⟨_,_,e⟩:=a6 hy
   .exact s.Rt
   .exact s.LT
   .exact h.cw.MV b y e
  .obtain⟨_,rfl⟩|⟨_,rfl⟩|⟨_,_,e⟩:=a6 hy
   .obtain⟨b0,k1,_⟩|⟨_,hB⟩:=s.NZ c B hc
    .exact h.cw.dead 0 x hL b0 B k1
    .exact(h.cw.Jd B hB).2
   .obtain⟨b0,k1⟩:=aC c B hc;exact h.cw.dead 0 x hL b0 B k1
   .exact h.cw.dead b y e c B hc
  .obtain⟨rfl,rfl⟩|⟨rfl,rfl⟩|⟨h0,h1,e⟩:=a6 hy
   .have : o = false := by
     cases o with
     |false=>rfl
     |true=>exact AH rfl ho
    exact s.Ru this c B hc hB
   .exact s.Jc c B hc hB
   .refine h.cw.Jc b y e (λe'=>ho ?_) c B hc hB;cases o with
    |false=>exact e'
    |true=>rw[a8 rfl] at e';cases e'
  .rcases a6 hy with⟨rfl,rfl⟩|⟨rfl,rfl⟩|⟨h0,h1,e⟩<;>obtain⟨rfl,rfl⟩|⟨rfl,rfl⟩|⟨k0,k1,e'⟩:=a6 hz
   .exact AH rfl zU
   .exact s.sep.LT
   .exact(a7 c z k0 e').2
   .exact s.sep
   .exact AH rfl zU
   .exact(a7 c z k0 e').1
   .exact(a7 b y h0 e).2.LT
   .exact(a7 b y h0 e).1.LT
   .exact h.cw.sep b c y z zU e e'
  .obtain⟨_,rfl⟩|⟨_,rfl⟩|⟨_,_,e⟩:=a6 hy
   .cases hh:y.H c with
    |true=>exact .inl rfl
    |false =>
     obtain⟨b0,k1,k2⟩|⟨ho,hT⟩:=s.NZ c B hc
     .obtain⟨k3,k4⟩:=k2 hh;obtain e|e:=h.cw.FA 0 x hL b0 B k1 hB
      .rw[k3] at e;cases e
      .exact .inr (k4 e)
     .exact AH hB (h.cw.LH B hT)
   .cases hh:y.H c with
    |true=>exact .inl rfl
    |false =>
     obtain⟨b0,k1,k2⟩:=s.sub c B hc;obtain⟨k3,k4⟩:=k2 hh;obtain e|e:=h.cw.FA 0 x hL b0 B k1 hB
     .rw[k3] at e;cases e
     .exact .inr (k4 e)
   .exact h.cw.FA b y e c B hc hB
 have wrx:∀l,OW x' l->OW x l:=by
  rintro l ⟨b,B,h1,h2,h3,h4⟩;obtain⟨b0,k1,k2⟩:=s.sub b B h1;obtain⟨k3,k4⟩:=k2 h2;exact⟨b0,B,k1,k3,λhr=>h3 (k4 hr),h4⟩
 have aG:∀l,OX x' l->OX x l:=by
  rintro l ⟨b,B,h1,h2,h4⟩;obtain⟨b0,k1,k2⟩:=s.sub b B h1;exact⟨b0,B,k1,(k2 h2).1,h4⟩
 have tpx:(ts.next o j).tp=bo->ts.tp=true:=λe=>by
  cases o with
  |true=>cases e
  |false=>exact e
 refine⟨by simp[h.size],λb hb=>?_,cw',?_,λop hop=>?_,λb hb=>?_,λb h0 hb hs=>?_,h.wg,λb hb ho=>?_,λk hk=>?_,⟨λe=>?_,λe=>?_⟩,λb hb=>?_,λb hb=>?_,CI h.jj⟩
 .obtain zY|aB:=BP b j
  .obtain⟨y,hy,hs⟩:=h.wk b zY;refine⟨y,?_,?_⟩
   .rw[cE (by simp[h.size];omega),<-AL,AV (by omega)];exact hy
   .rw[F D _ (by omega),F M _ (by omega),F O _ (by omega),Et _ _ (by omega),Et _ _ (by omega)];exact hs
  .obtain rfl:b=j:=by omega
   refine⟨child,?_,?_⟩
   .rw[show b+1=(gs.L 0 a').size by simp[h.size],Array.getElem?_push_size]
   .rw[I,I,I,El];exact .born s.bk hQ aD hr s.gk
 .have t1:=h.tr.fork (Wr':=NH zN (put (put L 0 (C x')) (j+1) (C xk)) (ts.next o j).tp) (Rd':=Ls zN (put (put L 0 (C x')) (j+1) (C xk)) (ts.next o j).tp) (by omega) hp hq Lu (λb hb l=>?_) (λl=>?_)
  .refine t1.Px λk i _ aH=>?_;obtain⟨c,e1,e2,e3,e4⟩:=aH;exact⟨c,e1,e2,by omega,by rw[F D _ (by omega)];exact e4⟩
  .constructor
   .rintro(⟨y,hy,hw⟩|⟨h1,h2,h3⟩)
    .obtain⟨e,_⟩|⟨rfl,rfl⟩|⟨_,_,e⟩:=a6 hy
     .omega
     .exact .inl ⟨x,hL,wrx l hw⟩
     .exact .inl ⟨y,e,hw⟩
    .exact .inr ⟨h1,tpx h2,h3⟩
   .rintro(⟨y,hy,hw⟩|⟨h1,h2,h3⟩)
    .obtain⟨e,_⟩|⟨rfl,rfl⟩|⟨_,_,e⟩:=a6 hy
     .omega
     .exact .inl ⟨x,hL,aG l hw⟩
     .exact .inl ⟨y,e,hw⟩
    .exact .inr ⟨h1,tpx h2,h3⟩
  .constructor
   .rintro(⟨y,hy,b,B,h1,h2,h3,h4⟩|⟨h1,_⟩)
    .rw[El] at hy;cases hy;obtain⟨b0,k1,k2⟩|⟨ho,hB⟩:=s.NZ b B h1
     .obtain⟨k3,k4⟩:=k2 h2;exact .inl ⟨x,hL,b0,B,k1,k3,λhr=>h3 (k4 hr),h4⟩
     .exact .inr ⟨rfl,by rw[a8 ho];rfl,B,hB,h4⟩
    .omega
   .rintro(⟨y,hy,b,B,h1,h2,h4⟩|⟨h1,_⟩)
    .rw[El] at hy;cases hy;obtain⟨b0,k1,k2⟩|⟨ho,hB⟩:=s.NZ b B h1
     .exact .inl ⟨x,hL,b0,B,k1,(k2 h2).1,h4⟩
     .exact .inr ⟨rfl,by rw[a8 ho];rfl,B,hB,h4⟩
    .omega
 .obtain hop|hop:=cu.1 hop
  .exact h.Li op hop
  .obtain rfl|rfl:=zK op hop
   .rw[hp.2];trivial
   .rw[hq.2];trivial
 .rw[Deaf_still t _ _ aA];obtain zY|aB:=BP b j
  .rw[h.deafW b zY,F D _ (by omega)]
  .obtain rfl:b=j:=by omega
   rw[I];exact Deaf_absent λc op hc e=>by have:=h.tr.ti.gs c op hc;omega
 .obtain zY|aB:=BP b j
  .rw[F D _ (by omega)] at hs;refine(h.rel b h0 zY hs).appNot λop hop=>?_;obtain rfl|rfl:=zK op hop
   .rw[hp.1];omega
   .rw[hq.1];omega
  .obtain rfl:b=j:=by omega
   rw[I] at hs;simp at hs
 .obtain zY|aB:=BP b j
  .rw[F O _ (by omega)] at ho;have e:=h.KE b zY ho;cases o with
   |false=>exact e
   |true=>rw[a8 rfl] at e;cases e
  .obtain rfl:b=j:=by omega
   rw[I] at ho;subst ho;rfl
 .cases o with
  |true =>
   cases hk
   exact⟨j,by omega,rfl,by rw[I]⟩
  |false =>
   obtain⟨b,hb,e1,e2⟩:=h.Lj k hk;exact⟨b,by omega,e1,by rw[F O _ (by omega)];exact e2⟩
 .cases o with
  |true=>cases e
  |false=>exact h.Hb.1 e
 .cases o with
  |true=>cases e
  |false=>exact h.Hb.2 e
 .rw[Et _ _ (by omega),Et _ _ (by omega)];exact h.out b (by omega)
 .have:=h.jj;rw[F D _ (by omega)];exact h.old b hb
end
open Go.ConcR (KK WgAt stA smA rd wr mk DC0 Bk g_of_ofEvents bk_of_mute ofEvent_loc_mark ofEvent_cell ofEvent_mk)
section
variable (P:Er) (SB BB:bh->Bool) (zZ:Bool) (Gn:Nat) (ty Wg:Nat) (zN:Nat->Prop) (Ψ0 Ψ2:Y->Prop) (fA fW:bh) (wl:Nat) (Pr:Ef) (T:List b7) (Fn:Bool->Hid->Z->Y->Prop)
def JA (wl:Nat):Value:=.S (C ⟨wl,0,bW⟩)
def bZ (f:bh)(args:Array Value)(fr:b7)(cs:List b7):Goroutine:=ER (Frame.enter P.a f args .normal) (fr::cs)
def back (fr:b7)(cs:List b7):Goroutine:=ER (fr.finish (.tuple #[])) cs
def ff (fr:b7):Prop:=fr.mode=.run/\fr.roundOf=bW/\∃ops i rest k,fr.todo=.inRegion ops (i::rest)::k
def ic (tp:Bool)(H:Hid)(g:Z)(w:Y):Prop:=∃fr cs,g=bZ P fW #[JA wl] fr cs/\ff fr/\Fn tp H (back fr cs) w
def AtGo (S:Bool->Hid->Z->Y->Prop)(tp:Bool)(H:Hid)(g:Z)(w:Y):Prop :=
 ∀(x:Lone) (G:Z) (W:Y),x.g=g->Ek w x.w->x.H=H->x.T=T->Pr.le x.β->Fe P SB BB zZ x G->Gw P SB zZ Gn x W->(tp=bo->Ψ0 W)->(∀b B,x.β b B->zN B->x.H b=bo)->(∀b,x.β b Wg->x.H b=bo)->x.H.EX=bb ->
  ∃(G' child:Z) (x' xk:Lone) (Mz o:Bool) (OM:Ef) (Q:Z->Y->Prop),eb P.b bo G W=.spawn G' child W #[]/\Split P SB BB zZ Gn Wg zN x G' child W tp Mz o x' xk OM/\x'.T=T/\Pr.le x'.β /\
   S Mz x'.H x'.g x'.w/\cO P SB BB zZ Gn ty Wg Ψ2 Q xk.H xk.T OM o/\(∀g w,Q g w->BB g.L.fn=bb)/\EL P.a BB Q 0 xk.g xk.w
def Kg:Nat->Bool->Hid->Z->Y->Prop
 |0,tp,H=>ic P fW wl Fn tp H
 | k + 1, tp, H => fun g w => ic P fW wl Fn tp H g w ∨ ∃ fr cs, g = bZ P fA #[JA wl, .int .i64 1] fr cs ∧ ff fr ∧
   D9 P.a (E7 P.a BB) (AtGo P SB BB zZ Gn ty Wg zN Ψ0 Ψ2 Pr T (λtp H=>D9 P.a (E7 P.a BB) (Kg k tp H)) tp H) (back fr cs) w
abbrev QM (k:Nat):Bool->Hid->Z->Y->Prop:=AtGo P SB BB zZ Gn ty Wg zN Ψ0 Ψ2 Pr T (λtp H=>D9 P.a (E7 P.a BB) (Kg P SB BB zZ Gn ty Wg zN Ψ0 Ψ2 fA fW wl Pr T Fn k tp H))
abbrev PC (k:Nat)(tp:Bool)(H:Hid):Z->Y->Prop:=D9 P.a (E7 P.a BB) (Kg P SB BB zZ Gn ty Wg zN Ψ0 Ψ2 fA fW wl Pr T Fn k tp H)
structure Rest (k:Nat)(x:Lone)(tp:Bool)(gR:Z):Prop where
 run:D9 P.a (E7 P.a BB) (QM P SB BB zZ Gn ty Wg zN Ψ0 Ψ2 fA fW wl Pr T Fn k tp x.H) x.g x.w
 wl:Pr.le x.β
 t:x.T=T
 gl:Fe P SB BB zZ x gR
structure JQ (x:Lone)(tp:Bool)(gR:Z):Prop where
 fin:Fn tp x.H x.g x.w
 wl:Pr.le x.β
 t:x.T=T
 gl:Fe P SB BB zZ x gR
def ie (G4:Z->Y->Prop)(gR:Z):Prop:=∀g w,G4 g w->g.status=.L/\∃m,GW P.b ty Wg bo (W1 P.b ty Wg G4 (λg _=>g=gR)) m g w
abbrev Pre:=Nat×Nat×Wm
inductive Gc:ez->Nat->Pre->(Nat->Nat)->Nat->Lone->Bool->Z->Y->Prop
 | free {k : Nat} {x : Lone} {tp : Bool} {G : Z} {W : Y} : PC P SB BB zZ Gn ty Wg zN Ψ0 Ψ2 fA fW wl Pr T Fn k tp x.H x.g x.w -> Pr.le x.β -> x.T = T -> Fe P SB BB zZ x G ->
   Gc (.sp 0 5) 0 (k,9,.tree (Kg P SB BB zZ Gn ty Wg zN Ψ0 Ψ2 fA fW wl Pr T Fn k tp x.H) (x.g,x.w)) (λ_=>0) 0 x tp G W
 |Qc {k m:Nat} {x:Lone} {tp:Bool} {gR G:Z} {W:Y}:GW P.b ty Wg bo (Rn P.b ty Wg (λg _=>g=gR)) m G W->Rest P SB BB zZ Gn ty Wg zN Ψ0 Ψ2 fA fW wl Pr T Fn k x tp gR->Gc (.sp 0 5) 0 (k+1,8,.st 0 m) (λ_=>0) 0 x tp G W
 |Qd {k m:Nat} {x:Lone} {tp:Bool} {gR G:Z} {W:Y}:GW P.b ty Wg bo (AA1 P.b ty Wg (λg _=>g=gR)) m G W->Rest P SB BB zZ Gn ty Wg zN Ψ0 Ψ2 fA fW wl Pr T Fn k x tp gR->Gc (.sp 0 4) 1 (k+1,7,.st 0 m) (λ_=>0) 0 x tp G W
 |arr {k m:Nat} {x:Lone} {tp:Bool} {gR G:Z} {W:Y}:GW P.b ty Wg bo (ARr P.b ty Wg (λg _=>g=gR)) m G W->Rest P SB BB zZ Gn ty Wg zN Ψ0 Ψ2 fA fW wl Pr T Fn k x tp gR->Gc (.sp 0 3) 1 (k+1,6,.st 0 m) (λ_=>0) 0 x tp G W
 |PD {k m:Nat} {x:Lone} {tp:Bool} {gR G:Z} {W:Y}:GW P.b ty Wg bo (Rm P.b ty Wg (λg _=>g=gR)) m G W->Rest P SB BB zZ Gn ty Wg zN Ψ0 Ψ2 fA fW wl Pr T Fn k x tp gR->Gc (.sp 0 3) 1 (k+1,5,.st 0 m) (λ_=>0) 0 x tp G W
 |KF {k m:Nat} {x:Lone} {tp:Bool} {gR G:Z} {W:Y}:GW P.b ty Wg bo (λg _=>g=gR) m G W->Rest P SB BB zZ Gn ty Wg zN Ψ0 Ψ2 fA fW wl Pr T Fn k x tp gR->Gc (.sp 0 2) 0 (k+1,4,.st 0 m) (λ_=>0) 0 x tp G W
 |mid {k:Nat} {x:Lone} {tp:Bool} {G:Z} {W:Y}:Rest P SB BB zZ Gn ty Wg zN Ψ0 Ψ2 fA fW wl Pr T Fn k x tp G->Gc (.sp 0 2) 0 (k+1,3,.tree (QM P SB BB zZ Gn ty Wg zN Ψ0 Ψ2 fA fW wl Pr T Fn k tp x.H) (x.g,x.w)) (λ_=>0) 0 x tp G W
 |Qe {k m:Nat} {x:Lone} {tp:Bool} {gR G:Z} {G4:Z->Y->Prop} {W:Y}:GW P.b ty Wg bo (Rq P.b ty Wg G4) m G W->JQ P SB BB zZ Pr T Fn x tp gR->ie P ty Wg G4 gR->Gc .kd 0 (k,2,.st 0 0) (λv=>16*v+14) m x tp G W
 |anch {k m:Nat} {x:Lone} {tp:Bool} {gR G:Z} {G4:Z->Y->Prop} {W:Y}:GW P.b ty Wg bo G4 m G W->JQ P SB BB zZ Pr T Fn x tp gR->ie P ty Wg G4 gR->Gc .anch 1 (k,2,.st 0 0) (λv=>16*v+12) m x tp G W
 |w1 {k m:Nat} {x:Lone} {tp:Bool} {gR G:Z} {G4:Z->Y->Prop} {W:Y}:GW P.b ty Wg bo (W1 P.b ty Wg G4 (λg _=>g=gR)) m G W->JQ P SB BB zZ Pr T Fn x tp gR->ie P ty Wg G4 gR->Gc .w1 1 (k,2,.st 0 0) (λv=>16*v+10) m x tp G W
 |w2 {k vs m:Nat} {x:Lone} {tp:Bool} {gR G:Z} {G4:Z->Y->Prop} {W:Y}:GW P.b ty Wg bo (W2 P.b ty Wg G4 (λg _=>g=gR) vs) m G W->JQ P SB BB zZ Pr T Fn x tp gR->ie P ty Wg G4 gR->Gc (.w2 vs) 1 (k,2,.st 0 0) (λ_=>16*vs+8) m x tp G W
 |Qf {k m:Nat} {x:Lone} {tp:Bool} {gR G:Z} {W:Y}:GW P.b ty Wg bo (WRw P.b ty Wg (λg _=>g=gR)) m G W->JQ P SB BB zZ Pr T Fn x tp gR->Gc .w3 1 (k,2,.st 0 0) (λ_=>7) m x tp G W
 |w3 {k m:Nat} {x:Lone} {tp:Bool} {gR G:Z} {W:Y}:GW P.b ty Wg bo (W3 P.b ty Wg (λg _=>g=gR)) m G W->JQ P SB BB zZ Pr T Fn x tp gR->Gc .w3 1 (k,2,.st 0 0) (λ_=>6) (m+1) x tp G W
 |blk {k:Nat} {x:Lone} {tp:Bool} {gR G:Z} {W:Y}:(∀w₁,RL ty Wg W w₁->W3 P.b ty Wg (λg _=>g=gR) G w₁)->JQ P SB BB zZ Pr T Fn x tp gR->Gc .blk 1 (k,2,.st 0 0) (λ_=>6) 0 x tp { G with status:=.blocked } W
 |w4 {k m:Nat} {x:Lone} {tp:Bool} {gR G:Z} {W:Y}:GW P.b ty Wg bo (W4 P.b ty Wg (λg _=>g=gR)) m G W->JQ P SB BB zZ Pr T Fn x tp gR->Gc .w4 1 (k,2,.st 0 0) (λ_=>5) m x tp G W
 |Pb {k m:Nat} {x:Lone} {tp:Bool} {gR G:Z} {W:Y}:GW P.b ty Wg bo (Rp P.b ty Wg (λg _=>g=gR)) m G W->JQ P SB BB zZ Pr T Fn x tp gR->Gc .ke 1 (k,2,.st 0 0) (λ_=>4) m x tp G W
 |Np {k m:Nat} {x:Lone} {tp:Bool} {gR G:Z} {W:Y}:GW P.b ty Wg bo (QI P.b ty Wg (λg _=>g=gR)) m G W->JQ P SB BB zZ Pr T Fn x tp gR->Gc .acq 0 (k,2,.st 0 0) (λ_=>3) m x tp G W
 |fin {k m:Nat} {x:Lone} {tp:Bool} {gR G:Z} {W:Y}:GW P.b ty Wg bo (λg _=>g=gR) m G W->JQ P SB BB zZ Pr T Fn x tp gR->Gc .ret 0 (k,2,.st 0 0) (λ_=>2) m x tp G W
end
section
variable {P:Er} {SB BB:bh->Bool} {zZ:Bool} {Gn:Nat} {ty Wg:Nat} {zN:Nat->Prop} {Ψ0 Ψ2:Y->Prop} {fA fW:bh} {wl:Nat} {Pr:Ef} {T:List b7} {Fn:Bool->Hid->Z->Y->Prop}
 {tag:ez} {d0:Nat} {pre:Pre} {rk:Nat->Nat} {fu:Nat} {x:Lone} {tp:Bool} {G:Z} {W W':Y}
def Gc.rely (h:Gc P SB BB zZ Gn ty Wg zN Ψ0 Ψ2 fA fW wl Pr T Fn tag d0 pre rk fu x tp G W)(r:RL ty Wg W W'):Gc P SB BB zZ Gn ty Wg zN Ψ0 Ψ2 fA fW wl Pr T Fn tag d0 pre rk fu x tp G W':=by
 cases h with
 |free a b c d=>exact .free a b c d
 |Qc a b=>exact .Qc (Goes.rely RL.trans a r) b
 |Qd a b=>exact .Qd (Goes.rely RL.trans a r) b
 |arr a b=>exact .arr (Goes.rely RL.trans a r) b
 |PD a b=>exact .PD (Goes.rely RL.trans a r) b
 |KF a b=>exact .KF (Goes.rely RL.trans a r) b
 |mid a=>exact .mid a
 |Qe a b c=>exact .Qe (Goes.rely RL.trans a r) b c
 |anch a b c=>exact .anch (Goes.rely RL.trans a r) b c
 |w1 a b c=>exact .w1 (Goes.rely RL.trans a r) b c
 |w2 a b c=>exact .w2 (Goes.rely RL.trans a r) b c
 |Qf a b=>exact .Qf (Goes.rely RL.trans a r) b
 |w3 a b=>exact .w3 (Goes.rely RL.trans a r) b
 |blk a b=>exact .blk (λw₂ h₂=>a w₂ (RL.trans _ _ _ r h₂)) b
 |w4 a b=>exact .w4 (Goes.rely RL.trans a r) b
 |Pb a b=>exact .Pb (Goes.rely RL.trans a r) b
 |Np a b=>exact .Np (Goes.rely RL.trans a r) b
 |fin a b=>exact .fin (Goes.rely RL.trans a r) b
def Pe {gR:Z}(h:gR.status=.L):∀(g:Z) (_:Y),g=gR->g.status=.L:=λg _ e=>e▸h
def Gc.status (h:Gc P SB BB zZ Gn ty Wg zN Ψ0 Ψ2 fA fW wl Pr T Fn tag d0 pre rk fu x tp G W):(G.status=.L/\tag≠.blk)\/(G.status=.blocked/\tag=.blk):=by
 cases h with
 |free _ _ _ d=>exact .inl ⟨d.status.2,by simp⟩
 |Qc a _=>exact .inl ⟨Goes.running (λ_ _ x=>x.1) W (RL.refl W) a,by simp⟩
 |Qd a _=>exact .inl ⟨Goes.running (λ_ _ x=>x.1) W (RL.refl W) a,by simp⟩
 |arr a _=>exact .inl ⟨Goes.running (λ_ _ x=>x.1) W (RL.refl W) a,by simp⟩
 |PD a _=>exact .inl ⟨Goes.running (λ_ _ x=>x.1) W (RL.refl W) a,by simp⟩
 |KF a b=>exact .inl ⟨Goes.running (Pe b.gl.status.2) W (RL.refl W) a,by simp⟩
 |mid a=>exact .inl ⟨a.gl.status.2,by simp⟩
 |Qe a _ _=>exact .inl ⟨Goes.running (λ_ _ x=>x.1) W (RL.refl W) a,by simp⟩
 |anch a _ c=>exact .inl ⟨Goes.running (λg w x=>(c g w x).1) W (RL.refl W) a,by simp⟩
 |w1 a _ _=>exact .inl ⟨Goes.running (λ_ _ x=>x.1) W (RL.refl W) a,by simp⟩
 |w2 a _ _=>exact .inl ⟨Goes.running (λ_ _ x=>x.1) W (RL.refl W) a,by simp⟩
 |Qf a _=>exact .inl ⟨Goes.running (λ_ _ x=>x.1) W (RL.refl W) a,by simp⟩
 |w3 a _=>exact .inl ⟨Goes.running (λ_ _ x=>x.1) W (RL.refl W) a,by simp⟩
 |blk _ _=>exact .inr ⟨rfl,rfl⟩
 |w4 a _=>exact .inl ⟨Goes.running (λ_ _ x=>x.1) W (RL.refl W) a,by simp⟩
 |Pb a _=>exact .inl ⟨Goes.running (λ_ _ x=>x.1) W (RL.refl W) a,by simp⟩
 |Np a _=>exact .inl ⟨Goes.running (λ_ _ x=>x.1) W (RL.refl W) a,by simp⟩
 |fin a b=>exact .inl ⟨Goes.running (Pe b.gl.status.2) W (RL.refl W) a,by simp⟩
def Gc.wokenBy (h:Gc P SB BB zZ Gn ty Wg zN Ψ0 Ψ2 fA fW wl Pr T Fn tag d0 pre rk fu x tp G W)(r:RL ty Wg W W')(g g':Z) :
  ∃tag' MA MB,Gc P SB BB zZ Gn ty Wg zN Ψ0 Ψ2 fA fW wl Pr T Fn tag' d0 pre MA MB x tp (woken P.b g g' W' G) W'/\(tag'=tag\/(tag=.blk/\tag'=.w3))/\(mayWake P.b g=bo->g'.status=.L->tag'≠.blk):=by
 have h':=h.rely r;unfold ed;split
 .obtain⟨hs,zU⟩|⟨_,rfl⟩:=h'.status
  .exact⟨tag,rk,fu,by rw[again_running _ (.inl hs)];exact h',.inl rfl,λ_ _=>zU⟩
  .cases h' with
   |blk hb hf =>
    have h3:=hb W' (RL.refl W');exact⟨.w3,λ_=>6,0+1,by rw[Go.ConcR.again_blocked h3.1 h3.2.1];exact .w3 (Goes.stop hb) hf,.inr ⟨rfl,rfl⟩,λ_ _=>by simp⟩
 .rename_i hc;exact⟨tag,rk,fu,h',.inl rfl,λh1 h2=>AH (by simp[h1,h2]) hc⟩
end
open Go.ConcR (KK WgAt stA smA rd wr mk DC0 Bk g_of_ofEvents bk_of_mute ofEvent_loc_mark ofEvent_cell ofEvent_mk)
def Kh (p:b6)(a b:Wm):Prop:=LI p a b/\Acc (LI p) b
def Kh.wf (p:b6):WellFounded (Kh p):=⟨λy=>.intro _ λx h=>by
 have key:∀y,Acc (LI p) y->Acc (Kh p) y:=by
  intro y hy
  induction hy with
  |intro y _ ih=>exact .intro _ λz hz=>ih z hz.1
 exact key x (h.2.inv h.1)⟩
abbrev Mu:=Pre×(List Wm×(Nat×Nat))
def N0 (p:b6):Pre->Pre->Prop:=dn (·<·) (dn (·<·) (Kh p))
def QN:Nat×Nat->Nat×Nat->Prop:=dn (·<·) (·<·)
def Pf (p:b6):Mu->Mu->Prop:=dn (N0 p) (dn (One (Kh p)) QN)
def Pf.wf (p:b6):WellFounded (Pf p):=by
 have h1:WellFounded (N0 p):=(dr cF (dr cF ⟨_,Kh.wf p⟩)).wf;have h2:WellFounded QN:=(dr cF cF).wf;have h3:WellFounded (One (Kh p)):=⟨λl=>One.acc λx _=>(Kh.wf p).apply x⟩;exact(dr ⟨_,h1⟩ (dr ⟨_,h3⟩ ⟨_,h2⟩)).wf
def Dv {p:b6}{k q:Nat}{q':Nat}{w1 w:Wm}{r1 r:List Wm×(Nat×Nat)}{a6:Mu}(hq:q<q')(h:Pf p a6 ((k,q,w1),r1)):Pf p a6 ((k,q',w),r):=by
 refine bn _ _ ?_;cases h with
 |left _ _ h =>
  cases h with
  |left _ _ h=>exact bn _ _ h
  |right _ h =>
   refine bq _ ?_;cases h with
   |left _ _ h=>exact bn _ _ (Nat.lt_trans h hq)
   |right _ _=>exact bn _ _ hq
 |right _ _=>exact bq _ (bn _ _ hq)
def jM {P:b6}{μ:Type}{r:μ->μ->Prop}(wf:WellFounded r)(Inv:μ->eo->b8->Prop)(Fin:eo->b8->Prop)
  (step:∀x m t,Inv x m t->Fin m t\/∃m' ops x',stepT P m=(.next m',ops)/\r x' x/\Inv x' m' (t++ops)):∀x m t,Inv x m t->∃N m' t',runNT P N m t=(.next m',t')/\Fin m' t':=by
 intro x
 induction x using wf.induction with
 |_ x ih =>
  intro m t h;obtain hf|⟨m',ops,x',h1,h2,h3⟩:=step x m t h
  .exact⟨0,m,t,rfl,hf⟩
  .obtain⟨N,m2,t2,k1,k2⟩:=ih x' h2 m' _ h3;exact⟨N+1,m2,t2,by simp only[runNT,h1];exact k1,k2⟩
section
variable (P:Er) (SB BB:bh->Bool) (zZ:Bool) (Gn:Nat) (ty Wg:Nat) (zO zN:Nat->Prop) (Kp:Ib) (Ψ0 Ψ2:Y->Prop) (fA fW:bh) (wl:Nat) (Pr:Ef) (T:List b7) (Fn:Bool->Hid->Z->Y->Prop)
def Acq (j0 j:Nat)(rr:Nat->Nat)(t:b8):Prop:=∃q,t.act? q=C (.mark (.acquire (stA Wg)))/\t.g? q=C 0/\t.heard q/\∀i,j0<=i->i<j->rr i<q
structure MI (j0:Nat)(pre:Pre)(j:Nat)(gs:Array Z)(W:Y)(t:b8)(D:Nat->WD)(M:Nat->Wm)(O:Nat->Bool)(L:Nat->Option Lone)(ts:TS)(rr:Nat->Nat)(st sm:Int)(tag:ez)(d0:Nat)(rk:Nat->Nat)(fu:Nat)(x:Lone)(a:Z):Prop where
 wi:WI P SB BB zZ Gn ty Wg zO zN Kp Ψ0 Ψ2 j0 j gs W t D M O L ts rr st sm
 Qg:Gc P SB BB zZ Gn ty Wg zN Ψ0 Ψ2 fA fW wl Pr T Fn tag d0 pre rk fu x ts.tp a W
 L0:L 0=C x
 a0:gs[0]?=C a
 Lo:Deaf t 0=d0
 mode:br j D tag st sm
 acq:tag=.ret->Acq Wg j0 j rr t
 bd:j+pre.1<Kp.bd/\Kp.bd<=2147483647
def Nq (j0:Nat)(μ:Mu)(m:eo)(t:b8):Prop :=
 ∃j gs W sl D M O L ts rr st sm tag d0 rk fu x a,m=ek gs W sl/\MI P SB BB zZ Gn ty Wg zO zN Kp Ψ0 Ψ2 fA fW wl Pr T Fn j0 μ.1 j gs W t D M O L ts rr st sm tag d0 rk fu x a/\μ.2=((bw j).map M,(rk (Vc j D),fu))
def LL (j0:Nat)(m:eo)(t:b8):Prop :=
 ∃j gs W sl D M O L ts rr st sm x a,m=ek gs W sl/\WI P SB BB zZ Gn ty Wg zO zN Kp Ψ0 Ψ2 j0 j gs W t D M O L ts rr st sm/\JQ P SB BB zZ Pr T Fn x ts.tp a/\L 0=C x/\gs[0]?=C a/\Deaf t 0=0/\AllQuit j D/\Acq Wg j0 j rr t/\j<Kp.bd
def MW:Prop:=∀(x:Lone) (G:Z) (W:Y) (fr:b7) (cs:List b7),x.g=bZ P fA #[JA wl,.int .i64 1] fr cs->ff fr->x.T=T->x.β wl Wg->Fe P SB BB zZ x G->Gw P SB zZ Gn x W->eA ty Wg W ->
 ∃gR m,GW P.b ty Wg bo (Rn P.b ty Wg (λg _=>g=gR)) m G W/\Fe P SB BB zZ { x with g:=back fr cs } gR
def jN:Prop:=∀(x:Lone) (G:Z) (W:Y) (fr:b7) (cs:List b7),x.g=bZ P fW #[JA wl] fr cs->ff fr->x.T=T->x.β wl Wg->Fe P SB BB zZ x G->Gw P SB zZ Gn x W->eA ty Wg W ->
 ∃gR m G4,GW P.b ty Wg bo (Rq P.b ty Wg G4) m G W/\ie P ty Wg G4 gR/\Fe P SB BB zZ { x with g:=back fr cs } gR
end
section
variable {P:Er} {SB BB:bh->Bool} {zZ:Bool} {Gn:Nat} {ty Wg:Nat} {zO zN:Nat->Prop} {Kp:Ib} {Ψ0 Ψ2:Y->Prop} {fA fW:bh} {wl:Nat} {Pr:Ef} {T:List b7} {Fn:Bool->Hid->Z->Y->Prop}
 {j0 j:Nat} {gs:Array Z} {W W':Y} {t:b8} {D:Nat->WD} {M:Nat->Wm} {O:Nat->Bool} {L:Nat->Option Lone} {ts ts':TS} {rr:Nat->Nat} {st sm Jj JO:Int} {a a':Z}
 {tag tag':ez} {d0:Nat} {pre pre':Pre} {rk MA:Nat->Nat} {fu MB:Nat} {x:Lone} {sl:Option (Nat×Nat)}
def Stepped (P:Er)(SB BB:bh->Bool)(zZ:Bool)(Gn:Nat)(ty Wg:Nat)(zO zN:Nat->Prop)(Kp:Ib)(Ψ0 Ψ2:Y->Prop)(fA fW:bh)(wl:Nat)(Pr:Ef)(T:List b7)(Fn:Bool->Hid->Z->Y->Prop)(j0:Nat)(μ:Mu)(gs:Array Z)(W:Y)(sl:Option (Nat×Nat))(t:b8):Prop :=
 ∃m' ops a6,runT P.b (ek gs W sl) 0=(.next m',ops)/\Pf P.a a6 μ/\Nq P SB BB zZ Gn ty Wg zO zN Kp Ψ0 Ψ2 fA fW wl Pr T Fn j0 a6 m' (t++ops)
def Acq.app {u:b8}(h:Acq Wg j0 j rr t):Acq Wg j0 j rr (t++u):=by
 obtain⟨q,h1,h2,h3,h4⟩:=h;have hq:=lt_of_act? h1;exact⟨q,by rw[act?_old hq];exact h1,by rw[g?_old hq];exact h2,(heard_old hq).2 h3,h4⟩
def MI.LT (h:MI P SB BB zZ Gn ty Wg zO zN Kp Ψ0 Ψ2 fA fW wl Pr T Fn j0 pre j gs W t D M O L ts rr st sm tag d0 rk fu x a)(tz:ao zN Ψ0)(a8:ao zN Ψ2){es:Array bD}(zK:eb P.b bo a W=.go a' W' es)(aA:Aside Wg W W')(aB:WgAt ty Wg W' Jj JO)(aC:∀e∈es,gH Wg e)
  (hs:Gc P SB BB zZ Gn ty Wg zN Ψ0 Ψ2 fA fW wl Pr T Fn tag' (V d0 es) pre' MA MB x ts.tp a' W') (a6:br j D tag' Jj JO) (a7:tag'=.ret->Acq Wg j0 j rr (t++J 0 a.L.fn a.L.L es)) (hb:pre'.1<=pre.1)
  (zY:N0 P.a pre' pre\/(pre'=pre/\QN (MA (Vc j D),MB) (rk (Vc j D),fu))):Stepped P SB BB zZ Gn ty Wg zO zN Kp Ψ0 Ψ2 fA fW wl Pr T Fn j0 (pre,(bw j).map M,(rk (Vc j D),fu)) gs W sl t:=by
 have JN:=h.bd;refine⟨_,_,(pre',(bw j).map M,(MA (Vc j D),MB)),runT_crowd_go (P:=P.b) (sl:=sl) (i:=0) h.a0 (by simpa using zK),?_,j,_,W',sl,D,M,O,L,ts,rr,Jj,JO,tag',V d0 es,MA,MB,x,a',rfl,⟨h.wi.book0 tz a8 aA aB aC,hs,h.L0,ck _ _ _ (by rw[h.wi.size];omega),by rw[ew,h.Lo],a6,a7,(by show j+pre'.1<Kp.bd/\_;omega)⟩,rfl⟩;obtain h1|⟨rfl,h1⟩:=zY
 .exact bn _ _ h1
 .exact bq _ (bq _ h1)
def GG {Wg:Nat}:∀e∈(#[]:Array bD),gH Wg e:=by simp
def Pg {Wg:Nat}:∀e∈#[mk .disable],gH Wg e:=by intro e he;simp at he;subst he;exact .inl (.inl rfl)
def QO {Wg:Nat}:∀e∈#[mk .enable],gH Wg e:=by intro e he;simp at he;subst he;exact .inl (.inr (.inl rfl))
def Nr {Wg:Nat}:∀e∈#[rd (stA Wg)],gH Wg e:=by intro e he;simp at he;subst he;exact .inl (cf _ _ rfl)
def PE {Wg:Nat}:∀e∈#[rd (stA Wg),wr (stA Wg)],gH Wg e:=by intro e he;simp at he;rcases he with rfl|rfl<;>exact .inl (cf _ _ rfl)
def QP {Wg:Nat}:∀e∈bA (smA Wg),gH Wg e:=by
 intro e he;simp[bA] at he;obtain rfl|rfl|rfl|rfl:=he
 .exact .inl (.inl rfl)
 .exact .inl (cf _ _ rfl)
 .exact .inl (cf _ _ rfl)
 .exact .inl (.inr (.inl rfl))
def mE {Wg:Nat}:(∀e∈#[mk (.read (smA Wg))],gH Wg e)/\(∀e∈#[mk (.write (smA Wg))],gH Wg e)/\∀e∈#[mk (.acquire (stA Wg))],gH Wg e:=by
 refine⟨λe he=>?_,λe he=>?_,λe he=>?_⟩<;>simp at he<;>subst he
 .exact .inr ⟨_,rfl,.inl rfl⟩
 .exact .inr ⟨_,rfl,.inr (.inl rfl)⟩
 .exact .inr ⟨_,rfl,.inr (.inr rfl)⟩
def LM {p:b6}{k q q':Nat}{w w':Wm}(h:q<q'):N0 p (k,q,w) (k,q',w'):=bq _ (bn _ _ h)
def fO {p:b6}{k q m m':Nat}(h:m<m'):N0 p (k,q,.st 0 m) (k,q,.st 0 m'):=bq _ (bq _ ⟨.fuel h,Dk p _ _⟩)
def GP {r r' f f':Nat}(h:r<r'):QN (r,f) (r',f'):=bn _ _ h
def cr {r f f':Nat}(h:f<f'):QN (r,f) (r,f'):=bq _ h
def MX (tz:ao zN Ψ0)(aA:ao zN Ψ2)(h:MI P SB BB zZ Gn ty Wg zO zN Kp Ψ0 Ψ2 fA fW wl Pr T Fn j0 pre j gs W t D M O L ts rr st sm tag d0 rk fu x a)(zA:a.status=.L)(hp:pre.2.1≠9/\pre.2.1≠3/\pre.2.1≠4) :
  LL P SB BB zZ Gn ty Wg zO zN Kp Ψ0 Ψ2 Pr T Fn j0 (ek gs W sl) t\/Stepped P SB BB zZ Gn ty Wg zO zN Kp Ψ0 Ψ2 fA fW wl Pr T Fn j0 (pre,(bw j).map M,(rk (Vc j D),fu)) gs W sl t:=by
 have a6:=h.mode;have a8:=h.wi.wg;have JN:=h.bd;have hV:=Vc_le j D;have aG:=h.Qg;have nr:tag≠.ret->∀u:b8,tag=.ret->Acq Wg j0 j rr (t++u):=λh _ e=>AH e h;cases aG with
 |free _ _ _ _=>exact AH rfl hp.1
 |mid _=>exact AH rfl hp.2.1
 |KF _ _=>exact AH rfl hp.2.2
 |Qc hk hr =>
  obtain a7|⟨m',rfl,hstep⟩:=Goes.cases hk
  .obtain⟨_,a',zK,m₂,aB⟩:=a7 W (RL.refl W);exact .inr (h.LT tz aA zK (.refl Wg W) a8 Pg (.Qd aB hr) (a6.L trivial trivial rfl (by simp)) (by simp) (AD _) (.inl (LM (by omega))))
  .obtain⟨a',w',es,zK,⟨rfl,rfl⟩,aC⟩:=hstep W (RL.refl W);exact .inr (h.LT tz aA zK (.refl Wg w') a8 GG (.Qc aC hr) a6 (by simp) (AD _) (.inl (fO (by omega))))
 |Qd hk hr =>
  obtain a7|⟨m',rfl,hstep⟩:=Goes.cases hk
  .obtain⟨_,hall⟩:=a7 W (RL.refl W);obtain⟨ho,rfl,rfl,_⟩:=a6.open_inv trivial;obtain⟨a',zK,h0,h1⟩:=hall (Vc j D) (by omega) (by simpa [pend] using a8);have hm:br j D (.sp 0 3) ((((Vc j D:Nat):Int)+1)*KK) 0:=by
    have e:(((Vc j D:Nat):Int)+1)*KK=((Vc j D+pend (.sp 0 3):Nat):Int)*KK:=by simp[pend]
    rw[e];exact .opn trivial ho (by simp)
   by_cases hv:Vc j D=0
   .obtain⟨m₂,aB⟩:=h0 hv;exact .inr (h.LT tz aA zK (bs W (stA Wg) _) (a8.setSt _) PE (.arr aB hr) hm (by simp) (AD _) (.inl (LM (by omega))))
   .obtain⟨m₂,aB⟩:=h1 hv;exact .inr (h.LT tz aA zK (bs W (stA Wg) _) (a8.setSt _) PE (.PD aB hr) hm (by simp) (AD _) (.inl (LM (by omega))))
  .obtain⟨a',w',es,zK,⟨rfl,rfl⟩,aC⟩:=hstep W (RL.refl W);exact .inr (h.LT tz aA zK (.refl Wg w') a8 GG (.Qd aC hr) a6 (by simp) (AD _) (.inl (fO (by omega))))
 |arr hk hr =>
  obtain a7|⟨m',rfl,hstep⟩:=Goes.cases hk
  .obtain⟨_,a',zK,m₂,aB⟩:=a7 W (RL.refl W);exact .inr (h.LT tz aA zK (.refl Wg W) a8 mE.1 (.PD aB hr) (a6.L trivial trivial rfl (by simp)) (by simp) (AD _) (.inl (LM (by omega))))
  .obtain⟨a',w',es,zK,⟨rfl,rfl⟩,aC⟩:=hstep W (RL.refl W);exact .inr (h.LT tz aA zK (.refl Wg w') a8 GG (.arr aC hr) a6 (by simp) (AD _) (.inl (fO (by omega))))
 |PD hk hr =>
  obtain a7|⟨m',rfl,hstep⟩:=Goes.cases hk
  .obtain⟨_,a',zK,m₂,aB⟩:=a7 W (RL.refl W);exact .inr (h.LT tz aA zK (.refl Wg W) a8 QO (.KF aB hr) (a6.L trivial trivial rfl (by simp)) (by simp) (AD _) (.inl (LM (by omega))))
  .obtain⟨a',w',es,zK,⟨rfl,rfl⟩,aC⟩:=hstep W (RL.refl W);exact .inr (h.LT tz aA zK (.refl Wg w') a8 GG (.PD aC hr) a6 (by simp) (AD _) (.inl (fO (by omega))))
 |Qe hk hf hA =>
  obtain a7|⟨m',rfl,hstep⟩:=Goes.cases hk
  .obtain⟨_,a',zK,m₂,aB⟩:=a7 W (RL.refl W);exact .inr (h.LT tz aA zK (.refl Wg W) a8 Pg (.anch aB hf hA) (a6.L trivial trivial rfl (by simp)) (by simp) (AD _) (.inr ⟨rfl,GP (by omega)⟩))
  .obtain⟨a',w',es,zK,⟨rfl,rfl⟩,aC⟩:=hstep W (RL.refl W);exact .inr (h.LT tz aA zK (.refl Wg w') a8 GG (.Qe aC hf hA) a6 (by simp) (AD _) (.inr ⟨rfl,cr (by omega)⟩))
 |anch hk hf hA =>
  obtain a7|⟨m',rfl,hstep⟩:=Goes.cases hk
  .obtain⟨_,m₂,zo⟩:=hA a W (a7 W (RL.refl W));obtain a7|⟨m',rfl,hstep⟩:=Goes.cases zo
   .obtain⟨_,hall⟩:=a7 W (RL.refl W);obtain⟨ho,rfl,rfl,_⟩:=a6.open_inv trivial;obtain⟨a',zK,h0,h1⟩:=hall (Vc j D) (by omega) (by simpa [pend] using a8);by_cases hv:Vc j D=0
    .obtain⟨m₂,aB⟩:=h0 hv;refine .inr (h.LT tz aA zK (.refl Wg W) a8 Nr (tag':=.ke) (.Pb aB hf) ?_ (by simp) (AD _) (.inr ⟨rfl,GP (by omega)⟩));have e:((Vc j D+pend .anch:Nat):Int)*KK=0:=by rw[hv];simp[pend]
     rw[e];exact .fin trivial (allQuit_of ho hv)
    .obtain⟨m₂,aB⟩:=h1 hv;exact .inr (h.LT tz aA zK (.refl Wg W) a8 Nr (tag':=.w2 (Vc j D)) (.w2 aB hf hA) (a6.L trivial trivial rfl (λvs e=>by cases e;omega)) (by simp) (AD _) (.inr ⟨rfl,GP (by omega)⟩))
   .obtain⟨a',w',es,zK,⟨rfl,rfl⟩,aC⟩:=hstep W (RL.refl W);exact .inr (h.LT tz aA zK (.refl Wg w') a8 GG (.w1 aC hf hA) (a6.L trivial trivial rfl (by simp)) (by simp) (AD _) (.inr ⟨rfl,GP (by omega)⟩))
  .obtain⟨a',w',es,zK,⟨rfl,rfl⟩,aC⟩:=hstep W (RL.refl W);exact .inr (h.LT tz aA zK (.refl Wg w') a8 GG (.anch aC hf hA) a6 (by simp) (AD _) (.inr ⟨rfl,cr (by omega)⟩))
 |w1 hk hf hA =>
  obtain a7|⟨m',rfl,hstep⟩:=Goes.cases hk
  .obtain⟨_,hall⟩:=a7 W (RL.refl W);obtain⟨ho,rfl,rfl,_⟩:=a6.open_inv trivial;obtain⟨a',zK,h0,h1⟩:=hall (Vc j D) (by omega) (by simpa [pend] using a8);by_cases hv:Vc j D=0
   .obtain⟨m₂,aB⟩:=h0 hv;refine .inr (h.LT tz aA zK (.refl Wg W) a8 Nr (tag':=.ke) (.Pb aB hf) ?_ (by simp) (AD _) (.inr ⟨rfl,GP (by omega)⟩));have e:((Vc j D+pend .w1:Nat):Int)*KK=0:=by rw[hv];simp[pend]
    rw[e];exact .fin trivial (allQuit_of ho hv)
   .obtain⟨m₂,aB⟩:=h1 hv;exact .inr (h.LT tz aA zK (.refl Wg W) a8 Nr (tag':=.w2 (Vc j D)) (.w2 aB hf hA) (a6.L trivial trivial rfl (λvs e=>by cases e;omega)) (by simp) (AD _) (.inr ⟨rfl,GP (by omega)⟩))
  .obtain⟨a',w',es,zK,⟨rfl,rfl⟩,aC⟩:=hstep W (RL.refl W);exact .inr (h.LT tz aA zK (.refl Wg w') a8 GG (.w1 aC hf hA) a6 (by simp) (AD _) (.inr ⟨rfl,cr (by omega)⟩))
 |w2 hk hf hA =>
  rename_i k vs gR G4;obtain a7|⟨m',rfl,hstep⟩:=Goes.cases hk
  .obtain⟨_,hall⟩:=a7 W (RL.refl W);obtain⟨ho,rfl,rfl,hw2⟩:=a6.open_inv trivial;obtain⟨zX,h1⟩:=hw2 vs rfl;obtain⟨aH,aD⟩:=hall (Vc j D) (by omega) (by simpa [pend] using a8);by_cases e:Vc j D=vs
   .obtain⟨a',zK,m₂,aB⟩:=aH e;exact .inr (h.LT tz aA zK (bs W (stA Wg) _) (a8.setSt _) PE (.Qf aB hf) (.reg trivial ho (by omega)) (by simp) (AD _) (.inr ⟨rfl,GP (by omega)⟩))
   .obtain⟨a',zK,m₂,aB⟩:=aD e;exact .inr (h.LT tz aA zK (.refl Wg W) a8 Nr (.anch aB hf hA) (a6.L trivial trivial rfl (by simp)) (by simp) (AD _) (.inr ⟨rfl,GP (by omega)⟩))
  .obtain⟨a',w',es,zK,⟨rfl,rfl⟩,aC⟩:=hstep W (RL.refl W);exact .inr (h.LT tz aA zK (.refl Wg w') a8 GG (.w2 aC hf hA) a6 (by simp) (AD _) (.inr ⟨rfl,cr (by omega)⟩))
 |Qf hk hf =>
  obtain a7|⟨m',rfl,hstep⟩:=Goes.cases hk
  .obtain⟨_,a',zK,m₂,aB⟩:=a7 W (RL.refl W);exact .inr (h.LT tz aA zK (.refl Wg W) a8 mE.2.1 (.w3 aB hf) a6 (by simp) (AD _) (.inr ⟨rfl,GP (by omega)⟩))
  .obtain⟨a',w',es,zK,⟨rfl,rfl⟩,aC⟩:=hstep W (RL.refl W);exact .inr (h.LT tz aA zK (.refl Wg w') a8 GG (.Qf aC hf) a6 (by simp) (AD _) (.inr ⟨rfl,cr (by omega)⟩))
 |w3 hk hf =>
  obtain a7|⟨m',rfl,hstep⟩:=Goes.cases hk
  .obtain⟨_,aI,hblk,aF⟩:=a7 W (RL.refl W);cases a6 with
   |opn h1 _ _=>exact h1.elim
   |reg h1 h2 h3=>exact .inr (h.LT tz aA (hblk ⟨_,a8⟩) (.refl Wg W) a8 GG (.blk a7 hf) (.reg trivial h2 h3) (by simp) (AD _) (.inr ⟨rfl,cr (by omega)⟩))
   |last Lx h1 h2 h3 h4=>exact .inr (h.LT tz aA (hblk ⟨_,a8⟩) (.refl Wg W) a8 GG (.blk a7 hf) (.last Lx trivial h2 h3 h4) (by simp) (AD _) (.inr ⟨rfl,cr (by omega)⟩))
   |sema h2 =>
    obtain⟨a',zK,m₂,aB⟩:=aF a8
    refine .inr (h.LT tz aA zK (bs W (smA Wg) _) (a8.setSm 0) QP (tag':=.w4) (by
     have:V 1 (bA (smA Wg))=1:=by simp[V,bA]
     rw[this];exact .w4 aB hf) (.fin trivial h2) (by simp) (AD _) (.inr ⟨rfl,GP (by omega)⟩))
   |fin h1 _=>exact h1.elim
  .obtain⟨a',w',es,zK,⟨rfl,rfl⟩,aC⟩:=hstep W (RL.refl W);exact .inr (h.LT tz aA zK (.refl Wg w') a8 GG (.w3 aC hf) a6 (by simp) (AD _) (.inr ⟨rfl,cr (by omega)⟩))
 |blk _ _=>simp at zA
 |w4 hk hf =>
  obtain a7|⟨m',rfl,hstep⟩:=Goes.cases hk
  .obtain⟨_,hx⟩:=a7 W (RL.refl W);obtain⟨hq,rfl,rfl⟩:=a6.fin_inv trivial;obtain⟨a',zK,m₂,aB⟩:=hx a8;exact .inr (h.LT tz aA zK (.refl Wg W) a8 Nr (.Pb aB hf) (.fin trivial hq) (by simp) (AD _) (.inr ⟨rfl,GP (by omega)⟩))
  .obtain⟨a',w',es,zK,⟨rfl,rfl⟩,aC⟩:=hstep W (RL.refl W);exact .inr (h.LT tz aA zK (.refl Wg w') a8 GG (.w4 aC hf) a6 (by simp) (AD _) (.inr ⟨rfl,cr (by omega)⟩))
 |Pb hk hf =>
  obtain a7|⟨m',rfl,hstep⟩:=Goes.cases hk
  .obtain⟨_,a',zK,m₂,aB⟩:=a7 W (RL.refl W);obtain⟨hq,rfl,rfl⟩:=a6.fin_inv trivial;exact .inr (h.LT tz aA zK (.refl Wg W) a8 QO (.Np aB hf) (.fin trivial hq) (by simp) (AD _) (.inr ⟨rfl,GP (by omega)⟩))
  .obtain⟨a',w',es,zK,⟨rfl,rfl⟩,aC⟩:=hstep W (RL.refl W);exact .inr (h.LT tz aA zK (.refl Wg w') a8 GG (.Pb aC hf) a6 (by simp) (AD _) (.inr ⟨rfl,cr (by omega)⟩))
 |Np hk hf =>
  obtain a7|⟨m',rfl,hstep⟩:=Goes.cases hk
  .obtain⟨_,a',zK,m₂,aB⟩:=a7 W (RL.refl W);obtain⟨hq,rfl,rfl⟩:=a6.fin_inv trivial;refine .inr (h.LT tz aA zK (.refl Wg W) a8 mE.2.2 (.fin aB hf) (.fin trivial hq) (λ_=>?_) (AD _) (.inr ⟨rfl,GP (by omega)⟩));have e1:J 0 a.L.fn a.L.L #[mk (.acquire (stA Wg))]=#[{ g:=0,fn:=a.L.fn,pos:=a.L.L,act:=.mark (.acquire (stA Wg)) }]:=by rw[di];simp[ofEvent_mk]
   have hy:(t++#[({ g:=0,fn:=a.L.fn,pos:=a.L.L,act:=.mark (.acquire (stA Wg)) }:MemOp)])[t.size]?=C { g:=0,fn:=a.L.fn,pos:=a.L.L,act:=.mark (.acquire (stA Wg)) }:=by simp
   refine⟨t.size,by rw[e1,act?_of hy],by rw[e1];simp[Trace.g?],by rw[e1];exact⟨0,by simp[Trace.g?],by rw[deaf_old (AD _)];exact h.Lo⟩,λi h0 hi=>?_⟩;exact lt_of_act? (h.wi.rel i h0 hi (by rw[hq i hi];omega)).act
  .obtain⟨a',w',es,zK,⟨rfl,rfl⟩,aC⟩:=hstep W (RL.refl W);exact .inr (h.LT tz aA zK (.refl Wg w') a8 GG (.Np aC hf) a6 (by simp) (AD _) (.inr ⟨rfl,cr (by omega)⟩))
 |fin hk hf =>
  obtain⟨hq,rfl,rfl⟩:=a6.fin_inv trivial;obtain a7|⟨m',rfl,hstep⟩:=Goes.cases hk
  .have e:=a7 W (RL.refl W);subst e;exact .inl ⟨j,gs,W,sl,D,M,O,L,ts,rr,0,0,x,a,rfl,h.wi,hf,h.L0,h.a0,h.Lo,hq,h.acq rfl,by have:=h.bd;omega⟩
  .obtain⟨a',w',es,zK,⟨rfl,rfl⟩,aC⟩:=hstep W (RL.refl W);exact .inr (h.LT tz aA zK (.refl Wg w') a8 GG (.fin aC hf) a6 (λ_=>(h.acq rfl).app) (AD _) (.inr ⟨rfl,cr (by omega)⟩))
end
open Go.ConcR (KK WgAt stA smA rd wr mk DC0 Bk g_of_ofEvents bk_of_mute ofEvent_loc_mark ofEvent_cell ofEvent_mk)
section
variable {P:Er} {SB BB:bh->Bool} {zZ:Bool} {Gn:Nat} {ty Wg:Nat} {zO zN:Nat->Prop} {Kp:Ib} {Ψ0 Ψ2:Y->Prop} {fA fW:bh} {wl:Nat} {Pr:Ef} {T:List b7} {Fn:Bool->Hid->Z->Y->Prop}
 {j0 j:Nat} {gs:Array Z} {W W':Y} {t:b8} {D:Nat->WD} {M:Nat->Wm} {O:Nat->Bool} {L:Nat->Option Lone} {ts ts':TS} {rr:Nat->Nat} {st sm Jj JO:Int} {a a':Z}
 {tag tag':ez} {d0:Nat} {pre pre':Pre} {rk MA:Nat->Nat} {fu MB:Nat} {x:Lone} {sl:Option (Nat×Nat)}
def WI.QQ (h:WI P SB BB zZ Gn ty Wg zO zN Kp Ψ0 Ψ2 j0 j gs W t D M O L ts rr st sm):ts.LE≠C 0:=λe=>by
 cases ts with
 |at_ k =>
  obtain⟨i,_,e1,_⟩:=h.Lj k rfl;simp only[TS.LE,cd] at e;omega
 |_=>cases e
def WI.reg (h:WI P SB BB zZ Gn ty Wg zO zN Kp Ψ0 Ψ2 j0 j gs W t D M O L ts rr st sm)(hL:L 0=C x)(g':Z):WI P SB BB zZ Gn ty Wg zO zN Kp Ψ0 Ψ2 j0 j gs W t D M O (put L 0 (C { x with g:=g' })) ts rr st sm:=by
 have get:∀ {b y},put L 0 (C { x with g:=g' }) b=C y->∃z,L b=C z/\y.w=z.w/\y.H=z.H/\y.β=z.β:=λ{b y} e=>by
  by_cases e':b=0
  .subst e';rw[El] at e;cases e;exact⟨x,hL,rfl,rfl,rfl⟩
  .rw[Et L _ e'] at e;exact⟨y,e,rfl,rfl,rfl⟩
 have c:=h.cw;refine⟨h.size,λi hi=>?_,⟨λb y hy=>?_,λb y hy=>?_,λb y hy=>?_,λb y hy=>?_,λb y hy=>?_,λb k y z zU hy hz=>?_,c.Li,c.Jd,c.keep,λb y hy=>?_,c.LH,c.NW⟩,h.tr.My (λk l=>?_) (λk l=>?_),h.Li,h.deafW,h.rel,h.wg,h.KE,h.Lj,h.Hb,λi hi=>?_,h.old,h.jj⟩
 .rw[Et L _ (by omega)];exact h.wk i hi
 .obtain⟨z,h1,h2,h3,h4⟩:=get hy;have:=c.like b z h1;unfold Gw at this ⊢;rw[h2,h3,h4];exact this
 .obtain⟨z,h1,h2,h3,h4⟩:=get hy;rw[h3];exact c.EX b z h1
 .obtain⟨z,h1,h2,h3,h4⟩:=get hy;rw[h3,h4];exact c.MV b z h1
 .obtain⟨z,h1,h2,h3,h4⟩:=get hy;rw[h4];exact c.dead b z h1
 .obtain⟨z,h1,h2,h3,h4⟩:=get hy;rw[h3,h4];exact c.Jc b z h1
 .obtain⟨y',h1,h2,h3,h4⟩:=get hy;obtain⟨z',k1,k2,k3,k4⟩:=get hz;rw[h2,h3,h4,k2,k3,k4];exact c.sep b k y' z' zU h1 k1
 .obtain⟨z,h1,h2,h3,h4⟩:=get hy;rw[h2,h3,h4];exact c.FA b z h1
 .rintro(⟨y,hy,hw⟩|hw)
  .obtain⟨z,h1,h2,h3,h4⟩:=get hy;refine .inl ⟨z,h1,?_⟩;unfold OW at hw ⊢;rw[h2,h3,h4] at hw;exact hw
  .exact .inr hw
 .rintro(⟨y,hy,hw⟩|hw)
  .obtain⟨z,h1,h2,h3,h4⟩:=get hy;refine .inl ⟨z,h1,?_⟩;unfold OX at hw ⊢;rw[h3,h4] at hw;exact hw
  .exact .inr hw
 .rw[Et L _ (by omega)];exact h.out i hi
def mF (lib:∀H,Lib P SB H zZ BB Gn)(tz:ao zN Ψ0)(a7:ao zN Ψ2){k q:Nat}{Q:Z->Y->Prop}
  (h:MI P SB BB zZ Gn ty Wg zO zN Kp Ψ0 Ψ2 fA fW wl Pr T Fn j0 (k,q,.tree Q (x.g,x.w)) j gs W t D M O L ts rr st sm tag 0 rk fu x a) (zU:tag≠.ret) (hr:D9 P.a (E7 P.a BB) Q x.g x.w) (hq:¬Q x.g x.w) (hg:Fe P SB BB zZ x a) (a8:Pr.le x.β) (hT:x.T=T)
  (mkS:∀(x':Lone) (G:Z) (W:Y),x'.H=x.H->x'.T=T->Pr.le x'.β->D9 P.a (E7 P.a BB) Q x'.g x'.w->Fe P SB BB zZ x' G->Gc P SB BB zZ Gn ty Wg zN Ψ0 Ψ2 fA fW wl Pr T Fn tag 0 (k,q,.tree Q (x'.g,x'.w)) rk fu x' ts.tp G W) :
  Stepped P SB BB zZ Gn ty Wg zO zN Kp Ψ0 Ψ2 fA fW wl Pr T Fn j0 ((k,q,.tree Q (x.g,x.w)),(bw j).map M,(rk (Vc j D),fu)) gs W sl t:=by
 obtain⟨g',w',es,DZ,g2,W',ES,e1,e2,e3,e4,e5⟩:=Em.follow (lib x.H) (main2:=bo) hr hq hg (h.wi.cw.like _ x h.L0);have f:Hw P SB zZ Gn x W DZ w' W' ES.toList:=e5;have aA:=h.wi.cw.EX _ x h.L0;have a6:=cN f aA;rw[show ES.toList.Li=ES by simp] at a6;have aB:V 0 ES=0:=ea (λe he=>⟨(a6 e he).1,(a6 e he).2.1⟩) 0
 refine⟨_,_,((k,q,.tree Q (g',w')),(bw j).map M,(rk (Vc j D),fu)),runT_crowd_go (P:=P.b) (sl:=sl) (i:=0) h.a0 (by simpa using e3),bn _ _ (bq _ (bq _ ⟨.tree hq ⟨W.tape,W.drawn,es,e1,e4.callers.ne⟩,Dj (EL.of hr)⟩)),
  j,_,W',sl,D,M,O,_,ts,rr,st,sm,tag,0,rk,fu,⟨g',w',x.H,DZ,x.T⟩,g2,rfl,⟨h.wi.QL tz a7 h.L0 f g',mkS ⟨g',w',x.H,DZ,x.T⟩ g2 W' rfl hT (Ef.le_trans a8 e5.le) e2 e4,El L _ _,ck _ _ _ (by rw[h.wi.size];omega),by rw[ew,h.Lo];exact aB,h.mode,λe=>AH e zU,h.bd⟩,rfl⟩
def MZ (lib:∀H,Lib P SB H zZ BB Gn)(tz:ao zN Ψ0)(a7:ao zN Ψ2){k:Nat}
  (h:MI P SB BB zZ Gn ty Wg zO zN Kp Ψ0 Ψ2 fA fW wl Pr T Fn j0 (k+1,3,.tree (QM P SB BB zZ Gn ty Wg zN Ψ0 Ψ2 fA fW wl Pr T Fn k ts.tp x.H) (x.g,x.w)) j gs W t D M O L ts rr st sm (.sp 0 2) 0 rk fu x a) (hr:Rest P SB BB zZ Gn ty Wg zN Ψ0 Ψ2 fA fW wl Pr T Fn k x ts.tp a) (zT:rk=λ_=>0) (a8:fu=0) :
  Stepped P SB BB zZ Gn ty Wg zO zN Kp Ψ0 Ψ2 fA fW wl Pr T Fn j0 ((k+1,3,.tree (QM P SB BB zZ Gn ty Wg zN Ψ0 Ψ2 fA fW wl Pr T Fn k ts.tp x.H) (x.g,x.w)),(bw j).map M,(rk (Vc j D),fu)) gs W sl t:=by
 subst zT a8;by_cases hq:QM P SB BB zZ Gn ty Wg zN Ψ0 Ψ2 fA fW wl Pr T Fn k ts.tp x.H x.g x.w
 .obtain⟨G',child,x',xk,Mz,o,OM,Q,zK,hsp,hT',a6,hS,hQ,zT⟩:=hq x a W rfl ⟨rfl,rfl,rfl⟩ rfl hr.t hr.wl hr.gl (h.wi.cw.like 0 x h.L0) (λe=>h.wi.Hb.1 (by cases ts<;>first|rfl|cases e)) (h.wi.cw.Jc 0 x h.L0 h.wi.QQ) (h.wi.cw.MV 0 x h.L0) (h.wi.cw.EX 0 x h.L0);have zA:=runT_crowd_spawn (P:=P.b) (sl:=sl) (i:=0) h.a0 (by simpa using zK);rw[h.wi.size] at zA;have e0:∀(p q:MemOp),((J 0 a.L.fn a.L.L #[]).push p).push q=#[p,q]:=λp q=>by rw[di];simp
  rw[e0] at zA;obtain⟨hw,aA⟩:=h.wi.spawn h.L0 hsp hQ zT.1 zT.2 h.Lo (p:={ g:=0,fn:=a.L.fn,pos:=a.L.L,act:=.go (j+1) }) (q:={ g:=j+1,fn:=child.L.fn,pos:=a.L.L,act:=.start }) ⟨rfl,rfl⟩ ⟨rfl,rfl⟩;obtain⟨ho,zG,hsm,_⟩:=h.mode.open_inv trivial;have eV:Vc (j+1) (upd D j ⟨7,0,0⟩)=Vc j D+1:=by
   simp only[Vc,sumTo,I];rw[sumTo_upd_out D _ cnt (AD _)];rfl
  have hm:br (j+1) (upd D j ⟨7,0,0⟩) (.sp 0 5) st sm:=by
   have e:st=((Vc (j+1) (upd D j ⟨7,0,0⟩)+pend (.sp 0 5):Nat):Int)*KK:=by rw[zG,eV];simp[pend]
   rw[e,hsm];refine .opn trivial (λi hi=>?_) (by simp);by_cases e:i=j
   .subst e;rw[I];simp
   .rw[F D _ e];exact ho i (by omega)
  have JN:=h.bd
  refine⟨_,_,((k,9,.tree (Kg P SB BB zZ Gn ty Wg zN Ψ0 Ψ2 fA fW wl Pr T Fn k Mz x'.H) (x'.g,x'.w)),(bw (j+1)).map (upd M j (.born Q (xk.g,xk.w))),(0,0)),zA,bn _ _ (bn _ _ (Nat.lt_succ_self k)),
   j+1,_,W,sl,_,_,_,_,_,rr,st,sm,.sp 0 5,0,λ_=>0,0,x',G',rfl,⟨hw,by rw[aA];exact .free hS a6 hT' hsp.gl,by rw[Et _ _ (by omega)];exact El L _ _,?_,?_,hm,λe=>by simp at e,by simp only at JN ⊢;omega⟩,rfl⟩
  .rw[cE (by simp[h.wi.size]),<-AL];simp[h.wi.size]
  .rw[Deaf_still t 0 _ (λop hop=>?_),h.Lo];simp only[B2,AM,AK,or_false] at hop;rcases hop with rfl|rfl<;>exact⟨by simp,by simp⟩
 .exact mF lib tz a7 h (by simp) hr.run hq hr.gl hr.wl hr.t fun x' G W e1 e2 e3 e4 e5 => by
   have hR:Rest P SB BB zZ Gn ty Wg zN Ψ0 Ψ2 fA fW wl Pr T Fn k x' ts.tp G:=⟨by rw[e1];exact e4,e3,e2,e5⟩;have:=Gc.mid (W:=W) hR;rw[e1] at this;exact this
def step0 (aG:Pr wl Wg)(lib:∀H,Lib P SB H zZ BB Gn)(tz:ao zN Ψ0)(a8:ao zN Ψ2)(hA:MW P SB BB zZ Gn ty Wg fA wl T)(hW:jN P SB BB zZ Gn ty Wg fW wl T)
  (h:MI P SB BB zZ Gn ty Wg zO zN Kp Ψ0 Ψ2 fA fW wl Pr T Fn j0 pre j gs W t D M O L ts rr st sm tag d0 rk fu x a) (zA:a.status=.L) :
  LL P SB BB zZ Gn ty Wg zO zN Kp Ψ0 Ψ2 Pr T Fn j0 (ek gs W sl) t\/Stepped P SB BB zZ Gn ty Wg zO zN Kp Ψ0 Ψ2 fA fW wl Pr T Fn j0 (pre,(bw j).map M,(rk (Vc j D),fu)) gs W sl t:=by
 by_cases h3:pre.2.1≠9/\pre.2.1≠3/\pre.2.1≠4
 .exact MX tz a8 h zA h3
 have aA:=h.Qg;have go : ∀ {tag' : ez} {d1 : Nat} {k q q' : Nat} {w1 w : Wm} {MA : Nat -> Nat} {MB : Nat} {g' : Z}, q < q' -> q ≠ 9 ∧ q ≠ 3 ∧ q ≠ 4 -> pre = (k, q', w) -> br j D tag' st sm -> tag' ≠ .ret -> Deaf t 0 = d1 ->
   Gc P SB BB zZ Gn ty Wg zN Ψ0 Ψ2 fA fW wl Pr T Fn tag' d1 (k,q,w1) MA MB { x with g:=g' } ts.tp a W->LL P SB BB zZ Gn ty Wg zO zN Kp Ψ0 Ψ2 Pr T Fn j0 (ek gs W sl) t\/Stepped P SB BB zZ Gn ty Wg zO zN Kp Ψ0 Ψ2 fA fW wl Pr T Fn j0 (pre,(bw j).map M,(rk (Vc j D),fu)) gs W sl t:=by
  intro tag' d1 k q q' w1 w MA MB g' hq hq' a6 hm zU hd hs;have JN:=h.bd;subst a6;have h':MI P SB BB zZ Gn ty Wg zO zN Kp Ψ0 Ψ2 fA fW wl Pr T Fn j0 (k,q,w1) j gs W t D M O (put L 0 (C { x with g:=g' })) ts rr st sm tag' d1 MA MB { x with g:=g' } a :=
   ⟨h.wi.reg h.L0 g',hs,El L _ _,h.a0,hd,hm,λe=>AH e zU,JN⟩
  rcases MX (sl:=sl) tz a8 h' zA hq' with hf|⟨m',ops,aB,k1,k2,k3⟩
  .exact .inl hf
  .exact .inr ⟨m',ops,aB,k1,Dv hq k2,k3⟩
 have wait:∀ {k:Nat} {w:Wm},pre=(k,9,w)->tag=.sp 0 5->d0=0->ic P fW wl Fn ts.tp x.H x.g x.w->Pr.le x.β->x.T=T->Fe P SB BB zZ x a->LL P SB BB zZ Gn ty Wg zO zN Kp Ψ0 Ψ2 Pr T Fn j0 (ek gs W sl) t\/Stepped P SB BB zZ Gn ty Wg zO zN Kp Ψ0 Ψ2 fA fW wl Pr T Fn j0 (pre,(bw j).map M,(rk (Vc j D),fu)) gs W sl t:=by
  rintro k w a6 ht hd ⟨fr,cs,e,aC,hfn⟩ a7 hT hg;obtain⟨gR,m,G4,k1,k2,k3⟩:=hW x a W fr cs e aC hT (a7 _ _ aG) hg (h.wi.cw.like 0 x h.L0) h.wi.live;refine go (q:=2) (g':=back fr cs) (by omega) (by omega) a6 (by have:=h.mode;rw[ht] at this;exact this.L (tag':=.kd) trivial trivial rfl (by simp)) (by simp) (h.Lo.trans hd) (.Qe k1 ?_ k2);exact⟨hfn,a7,hT,k3⟩
 generalize a6:pre=pre0 at aA;cases aA with
 |@free k _ _ _ _ hr a7 hT hg =>
  by_cases hq:Kg P SB BB zZ Gn ty Wg zN Ψ0 Ψ2 fA fW wl Pr T Fn k ts.tp x.H x.g x.w
  .cases k with
   |zero=>rw[<-a6];exact wait a6 rfl rfl hq a7 hT hg
   |succ k =>
    rw[<-a6];obtain hq|⟨fr,cs,e,aC,aD⟩:=hq
    .exact wait a6 rfl rfl hq a7 hT hg
    .obtain⟨gR,m,k1,k2⟩:=hA x a W fr cs e aC hT (a7 _ _ aG) hg (h.wi.cw.like 0 x h.L0) h.wi.live;exact go (q:=8) (g':=back fr cs) (by omega) (by omega) a6 h.mode (by simp) h.Lo (.Qc k1 ⟨aD,a7,hT,k2⟩)
  .rw[a6] at h
   exact .inr (mF lib tz a8 h (by simp) hr hq hg a7 hT λx' G W e1 e2 e3 e4 e5=>by
    have:=Gc.free (P:=P) (SB:=SB) (BB:=BB) (zZ:=zZ) (Gn:=Gn) (ty:=ty) (Wg:=Wg) (zN:=zN) (Ψ0:=Ψ0) (Ψ2:=Ψ2) (fA:=fA) (fW:=fW) (wl:=wl) (Pr:=Pr) (T:=T) (Fn:=Fn) (k:=k) (x:=x') (tp:=ts.tp) (W:=W) (by rw[e1];exact e4) e3 e2 e5;rw[e1] at this
    exact this)
 |mid hr=>rw[a6] at h;exact .inr (MZ lib tz a8 h hr rfl rfl)
 |KF hk hr =>
  obtain aF|⟨m',rfl,hstep⟩:=Goes.cases hk
  .have e:=aF W (RL.refl W);subst e;have JN:=h.bd;rw[a6] at h JN;have h':=MI.mk (Fn:=Fn) (fA:=fA) (fW:=fW) (wl:=wl) (Pr:=Pr) (T:=T) h.wi (.mid hr) h.L0 h.a0 h.Lo h.mode (λe=>by simp at e) JN;obtain⟨m',ops,aB,k1,k2,k3⟩:=MZ (sl:=sl) lib tz a8 h' hr rfl rfl;exact .inr ⟨m',ops,aB,k1,Dv (by omega) k2,k3⟩
  .obtain⟨a',w',es,zK,⟨rfl,rfl⟩,aH⟩:=hstep W (RL.refl W);rw[a6] at h;exact .inr (h.LT tz a8 zK (.refl Wg w') h.wi.wg GG (.KF aH hr) h.mode (by simp) (AD _) (.inl (fO (by omega))))
 |_ =>
  subst a6;exact AH ⟨by simp,by simp,by simp⟩ h3
end
end Go.Co
