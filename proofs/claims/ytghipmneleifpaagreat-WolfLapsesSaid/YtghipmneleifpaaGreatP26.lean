/- Parts of the proof. -/
import Derived.Test.YtghipmneleifpaaGreatP25
import Derived.Test.YtghipmneleifpaaGreatP12
import Derived.Test.YtghipmneleifpaaGreatP13
import Derived.Test.YtghipmneleifpaaGreatP14
import Derived.Test.YtghipmneleifpaaGreatP15
import Derived.Test.YtghipmneleifpaaGreatP00
import Derived.Test.YtghipmneleifpaaGreatP11
import Derived.Test.YtghipmneleifpaaGreatP10
import Derived.Conc.WgGenDone
import Derived.Conc.WgGenWait
set_option linter.all false
set_option maxHeartbeats 8000000
set_option maxRecDepth 100000
open Option renaming some->a6,none->bb
open Go.Value renaming pointer->a7,slice->bk,int->bW
open Go.Proofs.Tryz renaming prog->a8,func81->b8,func83->b9,func84->cf,func143->df,func145->dn,func144->dr,func146->dy,func85->eb,func86->ed,func19->eo,func44->er,func45->ez,func21->eA
open List.range renaming loop->bc
open Bool renaming true->bl,false->bD
open Go renaming World->bq,Value->bs,FuncId->b5,TypeId->b7,Goroutine->cU,callFunc->dS,Calls->ea,Frame->ek
open List renaming range->br,mem_append_right->cr,mem_append_left->cu,any_eq_true->cE
open Go.Obj renaming cells->bw
open Go.Frame renaming finish_at->bA,enter->cw
open Go.IntKind renaming i64->b6
open Go.Conc renaming G->cq
namespace Go.Sq
open Go.Proofs
open Go.RowKit Go.Ct Go.Co Go.Conc
abbrev Ja:=List (Nat×List bs×b7)
def hasB (o:Ja)(b:Nat):Bool:=o.any λp=>p.1==b
def Gc {o:Ja}{b:Nat}(h:hasB o b=bl):∃p∈o,p.1=b:=by
 obtain⟨p,h1,h2⟩:=cE.1 h;exact⟨p,h1,by simpa using h2⟩
def j5 {o:Ja}{p:Nat×List bs×b7}(h:p∈o):hasB o p.1=true:=cE.2 ⟨p,h,by simp⟩
def bg {o e:Ja}{b:Nat}:hasB (o++e) b=(hasB o b||hasB e b):=List.any_append ..
def scl:List FuncId:=ZR++[81,83,84,119,120,144,145,146]
def L5 (f:b5):Bool:=scl.contains f
def R8 (f:b5):Bool:=L5 f&&!(f==81||f==83||f==84||f==144||f==146)
def oI:Pe R8:=by
 refine⟨λf hf=>?_,by decide,by decide⟩;have:ZR.all R8=true:=by decide
 exact mo this f hf
def oJ:∀f,Ov f=bl->R8 f=true:=λf hf=>by
 have:sll.all R8=true:=by decide
 exact kI this f hf
def GF (W:bq)(o:Ja):Prop:=∀p∈o,∃f,W.heap[p.1]?=a6 (.cells p.2.1.toArray p.2.2 f)
structure D9 (w:bq)(co ex:Ja)(tb cb sb cap:Nat)(nA hA:Option Addr)(nc F:Nat)(fc:List bs)(oK oE:Obj):Prop where
 obj:∀p∈co++ex,w.heap[p.1]?=a6 (.cells p.2.1.toArray p.2.2 (0,0))
 Ig:w.heap[tb]?=a6 oK
 Vr:FH oK/\FH oE
 nt:hasB (co++ex) tb=bD
 vco:∀p∈co,∀v∈p.2.1,∀(SB:b5->Bool) (H:Hid),Di SB H (λb=>hasB co b=bl) v
 vex:∀p∈ex,∀v∈p.2.1,∀(SB:b5->Bool) (H:Hid),SB 49=bl->Di SB H (λb=>hasB (co++ex) b=bl) v
 vfc:∀v∈fc,∀(SB:b5->Bool) (H:Hid),Di SB H (λb=>hasB (co++ex) b=bl\/b=tb) v
 sF:JC F=bl/\L5 F=bl
 cF:∀(x:Array bs) (w:bq),(dS F x).run B1 w=.ok (.enter F x) w
 WN:hasB co cb=bl
 Z7:hasB co sb=bl
 Ek:∀W:bq,GF W co->Eo W (λb=>hasB co b=bl) cb Cl (Cy 3) nA hA nc 3 sb cap
abbrev Qh (co ex:Ja):Nat->Bool:=hasB (co++ex)
abbrev K6 (tb:Nat):Nat->Bool:=λb=>b==tb
def YF (kx tl:Nat->Bool)(w:bq)(cb:Nat)(p1:bs)(w':bq):Prop:=∀b,NL kx tl w b->w'.heap[b]?=(E3 kx tl w cb p1).heap[b]?
section
variable {w:bq} {co ex:Ja} {tb cb sb cap:Nat} {nA hA:Option Addr} {nc F:Nat} {fc:List bs} {oK oE:Obj}
def D9.lt (S:D9 w co ex tb cb sb cap nA hA nc F fc oK oE){b:Nat}(h:Qh co ex b=bl\/K6 tb b=bl):b<w.heap.size:=by
 rcases h with h|h
 .obtain⟨p,h1,rfl⟩:=Gc h;exact(yK.1 (S.obj p h1)).1
 .have:b=tb:=by simpa using h
  subst this;exact(yK.1 S.Ig).1
def D9.at_ (S:D9 w co ex tb cb sb cap nA hA nc F fc oK oE){p1:bs}{w':bq}(h:YF (Qh co ex) (K6 tb) w cb p1 w') :
  (∀p∈co++ex,w'.heap[p.1]?=a6 (.cells p.2.1.toArray p.2.2 (0,p.2.1.toArray.size)))/\w'.heap[tb]?=a6 (.coro bb)/\w'.heap[w.heap.size]?=a6 (.coro bb) /\
   w'.heap[w.heap.size+1]?=a6 (bw #[.pointer (a6 ⟨cb,0,bb⟩)] 73 (0,1))/\w'.heap[w.heap.size+2]?=a6 (bw #[p1] 96 (0,1)):=by
 refine⟨λp hp=>?_,?_,?_,?_,?_⟩
 .have hk:Qh co ex p.1=true:=j5 hp;have hl:=S.lt (.inl hk);have ht:K6 tb p.1=false:=by
   cases hc:K6 tb p.1 with
   |false=>rfl
   |true =>
    have:p.1=tb:=by simpa using hc
    have h2:=S.nt;rw[<-this] at h2;rw[show hasB (co++ex) p.1=bl from hk] at h2;cases h2
  rw[h _ (.inl hk),bp,if_neg (by omega),if_neg (by omega),if_neg (by omega),fQ (S.obj p hp) hk ht]
 .have hl:=S.lt (b:=tb) (.inr (by simp));rw[h _ (.inr (.inl (by simp))),bp,if_neg (by omega),if_neg (by omega),if_neg (by omega),kG hl (by simp)]
 .rw[h _ (.inr (.inr (.inl rfl))),bp,if_neg (by omega),if_neg (by omega),if_pos rfl]
 .rw[h _ (.inr (.inr (.inr (.inl rfl)))),bp,if_neg (by omega),if_pos rfl]
 .rw[h _ (.inr (.inr (.inr (.inr rfl)))),bp,if_pos rfl]
def cell_of {W:bq}{b:Nat}{l:Array bs}{t:b7}{f:Nat×Nat}(h:W.heap[b]?=a6 (.cells l t f))(i:Nat):W.cell? ⟨b,i,bb⟩=l[i]?:=by
 unfold World.cell?;simp only[h]
 rfl
def D9.sees (S:D9 w co ex tb cb sb cap nA hA nc F fc oK oE){p1:bs}{w':bq}(h:YF (Qh co ex) (K6 tb) w cb p1 w'):GF w' (co++ex):=λp hp=>⟨_,(S.at_ h).1 p hp⟩
def GF.left {W:bq}{o e:Ja}(h:GF W (o++e)):GF W o:=λp hp=>h p (cu _ hp)
def yh:∀i:Nat,i<8->IntKind.i64.wrap ((i:Int)+1)=((i+1:Nat):Int):=by decide
def yi (i:Nat)(hi:i<8):(Cy 3)[i]?=a6 (EH i):=by
 have:∀i,i<8->(Cy 3)[i]?=a6 (EH i):=by decide
 exact this i hi
def kL (x:Nat)(j:Nat)(hj:j<5):(#[.int .u8 (x:Int),.int .u8 0,.int .u8 0,.int .u8 0,.int .u8 0]:Array bs)[j]?=a6 (.int .u8 (DV x j:Nat)):=by
 match j,hj with
 |0,_=>rfl
 |1,_=>rfl
 |2,_=>rfl
 |3,_=>rfl
 |4,_=>rfl
def D9.Ky (S:D9 w co ex tb cb sb cap nA hA nc F fc oK oE){p1:bs}{w':bq}(h:YF (Qh co ex) (K6 tb) w cb p1 w')(i:Nat)(hi:i<8)(τ:Tape)(d:Nat) :
  ea B1 35 #[.pointer (a6 ⟨cb,0,bb⟩),.pointer (a6 ⟨w'.heap.size,0,bb⟩),bW b6 0] (on (w'.alloc (first (EH i))) τ d) (λe w2=>∃v,e=.returned v/\((∃y1 y2,v=.agg #[bW b6 (R7 i),bW b6 y1,bW b6 y2])/\Ext (w'.alloc (first (EH i))) w2)):=by
 have hold:∀b,b<w'.heap.size->(on (w'.alloc (first (EH i))) τ d).heap[b]?=w'.heap[b]?:=λb hb=>heap_alloc_old w' _ hb;have hs:GF (on (w'.alloc (first (EH i))) τ d) co:=λp hp=>by
  obtain⟨f,hf⟩:=(S.sees h).left p hp;exact⟨f,(hold _ (yK.1 hf).1).trans hf⟩
 have hr:E8 (on (w'.alloc (first (EH i))) τ d) (on (w'.alloc (first (EH i))) τ d).heap.size w'.heap.size (DV (EH i)):=by
  refine⟨by show _<(w'.alloc _).heap.size;rw[aI];omega,λj hj=>?_⟩;exact(cell_of (W:=w'.alloc (first (EH i))) (l:=#[.int .u8 (EH i:Int),.int .u8 0,.int .u8 0,.int .u8 0,.int .u8 0]) (t:=76) (f:=(0,0)) (gn w' (EH i)) j).trans (kL _ j hj)
 refine(kw cb w'.heap.size 0 Cl (DV (EH i)) _ (S.Ek _ hs).O4 hr (Cc.Ok.of iL) (by decide) (gt i hi)).mono ?_;rintro e w2 ⟨rfl,hg⟩;exact⟨_,rfl,⟨_,_,rfl⟩,hg.size,λb hb=>hg.below.block b hb,hg.below.os⟩
def kM {o:Obj}(h:FH o){S:DT}{Ck:Code->Prop}{β:Cm}:C5 S Ck β o o:=by
 obtain⟨l,t,f,rfl,hl⟩:=h;refine .cells ⟨rfl,λi v V h1 h2=>?_⟩ λi h1 h2=>⟨h1,h2⟩;rw[h1] at h2;cases h2;cases hl v (zS (by simpa using h1)) with
 |bool b=>exact .bool b
 |int k n=>exact .int k n
def R9 (co ex:Ja)(tb n r:Nat)(b:Nat):Prop:=hasB (co++ex) b=bl\/b=tb\/b=n\/b=n+1\/b=n+2\/b=r
def mE (S:D9 w co ex tb cb sb cap nA hA nc F fc oK oE){p1:bs}{w' W:bq}(h:YF (Qh co ex) (K6 tb) w cb p1 w')(GN:∀(H:Hid),Di JC H (λb=>hasB (co++ex) b=bl\/b=tb) p1){x:Nat}{r:Nat}(hr:w'.heap[r]?=a6 (bw #[.int .u8 (x:Int),.int .u8 0,.int .u8 0,.int .u8 0,.int .u8 0] 76 (0,5)))
  (hW:∀b,b≠tb->W.heap[b]?=w'.heap[b]?) {H:Hid} (hH:∀b,H b=bD->b≠w.heap.size/\(b=tb->W.heap[tb]?=a6 oK)) :
  ∀b,R9 co ex tb w.heap.size r b->H b=bD->∃o,W.heap[b]?=a6 o/\C5 (SP JC H) (CK B1 JC bD) (CX (R9 co ex tb w.heap.size r)) o o:=by
 obtain⟨a1,a2,a3,a4,a5⟩:=S.at_ h;have nt:∀b,hasB (co++ex) b=bl->b≠tb:=λb hb e=>by
  have:=S.nt;rw[<-e,hb] at this;cases this
 intro b hb hHb;obtain⟨h1,h2⟩:=hH b hHb;by_cases hbt:b=tb
 .subst hbt;exact⟨oK,h2 rfl,kM S.Vr.1⟩
 rcases hb with hb|hb|hb|hb|hb|hb
 .obtain⟨p,hp,rfl⟩:=Gc hb;refine⟨_,(hW _ hbt).trans (a1 p hp),.cells (Dn λv hv=>?_) λi z1 z2=>⟨z1,z2⟩⟩;rcases zJ.1 hp with hp|hp
  .exact(S.vco p hp v hv JC H).mono λc hc=>.inl (by rw[bg];simp[hc])
  .exact(S.vex p hp v hv JC H (by decide)).mono λc hc=>.inl hc
 .exact absurd hb hbt
 .exact absurd hb h1
 .subst hb;refine⟨_,(hW _ hbt).trans a4,.cells (Dn (l:=[.pointer (a6 ⟨cb,0,bb⟩)]) λv hv=>?_) λi z1 z2=>⟨z1,z2⟩⟩;simp only[yT,yQ,or_false] at hv;subst hv;exact Di.ptr (.inl (by rw[bg];simp[S.WN])) _ _
 .subst hb;refine⟨_,(hW _ hbt).trans a5,.cells (Dn (l:=[p1]) λv hv=>?_) λi z1 z2=>⟨z1,z2⟩⟩;simp only[yT,yQ,or_false] at hv;subst hv;exact(GN H).mono λc hc=>hc.elim .inl λh=>.inr (.inl h)
 .subst hb;refine⟨_,(hW _ hbt).trans hr,.cells (Dn (l:=[.int .u8 (x:Int),.int .u8 0,.int .u8 0,.int .u8 0,.int .u8 0]) λv hv=>?_) λi z1 z2=>⟨z1,z2⟩⟩;simp only[yT,yQ,or_false] at hv;rcases hv with rfl|rfl|rfl|rfl|rfl<;>exact B6.int _ _
def ut (S:D9 w co ex tb cb sb cap nA hA nc F fc oK oE)(H:Hid):Di JC H (λb=>hasB (co++ex) b=bl\/b=tb) (.func (.func F) #[] fc.toArray):=Di.func S.sF.1 λv hv=>S.vfc v hv JC H
def rv (S:D9 w co ex tb cb sb cap nA hA nc F fc oK oE){w':bq}(h:YF (Qh co ex) (K6 tb) w cb (.func (.func F) #[] fc.toArray) w'){i:Nat}(hi:i<8)(hnone:Cv Cl (Cy 3) 2 (DV (EH i)) 1=[]){r:Nat}(Mk:¬NL (Qh co ex) (K6 tb) w r)
  (hr:w'.heap[r]?=a6 (bw #[.int .u8 (EH i:Int),.int .u8 0,.int .u8 0,.int .u8 0,.int .u8 0] 76 (0,5))) :
  C1 a8 R8 (ID a8 w.heap.size λ_=>True) 0 (cq (cw a8 82 (bO (w.heap.size+1) (w.heap.size+2) w.heap.size r) .deferred) [bad]) w':=by
 obtain⟨a1,a2,a3,a4,a5⟩:=S.at_ h;have l2:w.heap.size+2<w'.heap.size:=(yK.1 a5).1;have ltb:tb<w.heap.size:=S.lt (.inr (by simp));have hid:∀b,(⟨λb=>b==w.heap.size||b==tb,bl,bD⟩:Hid) b=bl->b=w.heap.size\/b=tb:=λb hb=>by simpa using hb
 refine mv (H:=⟨λb=>b==w.heap.size||b==tb,bl,bD⟩) (T0:=λ_=>False) oI (hn:=rfl) (K0:=R9 co ex tb w.heap.size r) ⟨.inr (.inr (.inr (.inl rfl))),.inr (.inr (.inr (.inr (.inl rfl)))),.inr (.inr (.inl rfl)),.inr (.inr (.inr (.inr (.inr rfl))))⟩
  (λb _ hb=>⟨rfl,by rcases hid b hb with rfl|rfl;exact a3;exact a2⟩) (λb hb=>by rcases hid b hb with rfl|rfl<;>omega)
  (mE S h (ut S) hr (λ_ _=>rfl) λb hb=>?_) (λτ d=>?_) (λ_ _ _ _=>trivial)
 .have hb':(b==w.heap.size||b==tb)=false:=hb;simp only[Au,beq_eq_false_iff_ne] at hb';exact⟨hb'.1,λe=>absurd e hb'.2⟩
 .have := oh (T0 := fun _ => False) (K := fun b => hasB co b = bl) (cb := cb) (c := Cl) (sets := Cy 3) (b2 := w.heap.size + 1) (b3 := w.heap.size + 2) (b4 := w.heap.size) (rb := r) (F := F) (k := 2) (fc := fc.toArray) (r := DV (EH i)) (w := on w' τ d)
   (Cc.Ok.of iL) js (by decide) (S.Ek (on w' τ d) (S.sees h).left) (λ_ hb=>hb.elim) (λ_ _ hb=>hb) (gt i hi) (λj hj=>by unfold DV;rw[if_neg (by omega)]) rfl
   (cell_of (W:=on w' τ d) a4 0) (λj hj=>(cell_of (W:=on w' τ d) hr j).trans (kL _ j hj)) (cell_of (W:=on w' τ d) a5 0) ⟨l2,λhb=>hb⟩
   (λpre _=>pre=[]) (λ_ _ _ hp _=>hp) rfl S.cF (λpre ρ W EC _ _=>by
    rw[hnone] at EC;have:=EC.length_le
    simp at this)
  refine Go.wp_mono this ?_;rintro e a' w2 ⟨he,h1,_,D,h2,h3,h4⟩;exact⟨he,h1,trivial,D,h2,h3,h4⟩
def rx (S:D9 w co ex tb cb sb cap nA hA nc F fc oK oE){w':bq}(h:YF (Qh co ex) (K6 tb) w cb (.func (.func F) #[] fc.toArray) w'){i:Nat}(hi:i<8){L6:CR}(Ik:Cv Cl (Cy 3) 2 (DV (EH i)) 1=[L6]){r:Nat}(Mk:¬NL (Qh co ex) (K6 tb) w r)
  (hr:w'.heap[r]?=a6 (bw #[.int .u8 (EH i:Int),.int .u8 0,.int .u8 0,.int .u8 0,.int .u8 0] 76 (0,5)))
  (ZL:∀W:bq,W.heap[tb]?=a6 oK->GF W ex->ea B1 F (#[Dr L6]++fc.toArray) W λe W'=>e=.returned (.tuple #[])/\KT (λb=>b=tb) W W'/\W'.heap[tb]?=a6 oE) :
  C1 a8 R8 (ID a8 w.heap.size λw2=>∀b,K6 tb b=bl->w2.heap[b]?=a6 oE) 0 (cq (cw a8 82 (bO (w.heap.size+1) (w.heap.size+2) w.heap.size r) .deferred) [bad]) (FO (K6 tb) (λ_=>oK) w'):=by
 obtain⟨a1,a2,a3,a4,a5⟩:=S.at_ h;have l2:w.heap.size+2<w'.heap.size:=(yK.1 a5).1;have ltb:tb<w.heap.size:=S.lt (.inr (by simp));obtain⟨W0,hW0⟩:∃W0,W0=FO (K6 tb) (λ_=>oK) w':=⟨_,rfl⟩;have g0:∀b,b<w'.heap.size->W0.heap[b]?=if K6 tb b then a6 oK else w'.heap[b]?:=λb hb=>by rw[hW0];exact bR _ _ _ _ hb
 have gne:∀b,b≠tb->W0.heap[b]?=w'.heap[b]?:=λb hb=>by
  by_cases hl:b<w'.heap.size
  .rw[g0 b hl,if_neg (by simpa using hb)]
  .rw[Ao (show W0.heap.size<=b by rw[hW0,bQ];omega),Ao (by omega)]
 have gtb:W0.heap[tb]?=a6 oK:=by rw[g0 tb (by omega),if_pos (by simp)]
 have gsz:W0.heap.size=w'.heap.size:=by rw[hW0,bQ]
 rw[<-hW0];have nt:∀b,hasB (co++ex) b=bl->b≠tb:=λb hb e=>by
  have:=S.nt;rw[<-e,hb] at this;cases this
 have rne:r≠tb:=λe=>Mk (.inr (.inl (by simp[e])));have WZ:GF W0 (co++ex):=λp hp=>⟨_,(gne _ (nt _ (j5 hp))).trans (a1 p hp)⟩;have acg:∀b,R9 co ex tb w.heap.size r b->(⟨λb=>b==w.heap.size,bl,bD⟩:Hid) b=bl->(⟨λb=>b==w.heap.size,bl,bD⟩:Hid).C8=bl/\W0.heap[b]?=a6 (.coro bb):=λb _ hb=>by
  have e:b=w.heap.size:=by simpa using hb
  refine⟨rfl,?_⟩;rw[e,gne _ (by omega)];exact a3
 have IB:∀b,(⟨λb=>b==w.heap.size,bl,bD⟩:Hid) b=bl->b<W0.heap.size:=λb hb=>by
  have e:b=w.heap.size:=by simpa using hb
  omega
 refine mv (H:=⟨λb=>b==w.heap.size,bl,bD⟩) (T0:=λb=>b=tb) oI (hn:=rfl) (K0:=R9 co ex tb w.heap.size r) ⟨.inr (.inr (.inr (.inl rfl))),.inr (.inr (.inr (.inr (.inl rfl)))),.inr (.inr (.inl rfl)),.inr (.inr (.inr (.inr (.inr rfl))))⟩
  acg IB
  (mE S h (ut S) hr gne λb hb=>⟨by simpa using hb,λ_=>gtb⟩) (λτ d=>?_) (λW W' hW hk b hb=>?_)
 .have := oh (T0 := fun b => b = tb) (K := fun b => hasB co b = bl) (cb := cb) (c := Cl) (sets := Cy 3) (b2 := w.heap.size + 1) (b3 := w.heap.size + 2) (b4 := w.heap.size) (rb := r) (F := F) (k := 2) (fc := fc.toArray) (r := DV (EH i)) (w := on W0 τ d)
   (Cc.Ok.of iL) js (by decide) (S.Ek (on W0 τ d) WZ.left) (λb hb=>by show b<W0.heap.size;omega) (λb hb=>nt b (by rw[bg];simp[hb])) (gt i hi) (λj hj=>by unfold DV;rw[if_neg (by omega)]) rfl
   (cell_of (W:=on W0 τ d) ((gne _ (by omega)).trans a4) 0) (λj hj=>(cell_of (W:=on W0 τ d) ((gne _ rne).trans hr) j).trans (kL _ j hj)) (cell_of (W:=on W0 τ d) ((gne _ (by omega)).trans a5) 0) ⟨by show _<W0.heap.size;omega,by omega⟩
   (λpre W=>W.heap[tb]?=a6 (if pre=[] then oK else oE)) (λpre W W' hp hk=>(hk tb rfl).trans hp) gtb S.cF (λpre ρ W EC Ex hI=>by
    rw[Ik] at EC;have hl:=EC.length_le;have hp:pre=[]:=by cases pre with
     |nil=>rfl
     |cons a l=>simp at hl
    subst hp;have Ew:ρ=L6:=by
     obtain⟨t,ht⟩:=EC;simp at ht;exact ht.1
    subst Ew;have hex:GF W ex:=λp hp=>by
     obtain⟨f,hf⟩:=WZ p (cr _ hp);have hl2:=(yK.1 hf).1
     exact⟨f,(Ex.block p.1 hl2 (by
      rintro(e|e)
      .exact nt _ (j5 (cr co hp)) e
      .have e':W0.heap.size<=p.1:=e
       omega)).trans hf⟩
    refine(ZL W hI hex).mono ?_;rintro e W' ⟨h1,h2,h3⟩
    exact⟨h1,h2,h3⟩)
  refine Go.wp_mono this ?_;rintro e a' w2 ⟨he,h1,hI,D,h2,h3,h4⟩;rw[Ik] at hI
  exact⟨he,h1,λb hb=>by
   have e:b=tb:=by simpa using hb
   rw[e];exact hI,D,h2,h3,h4⟩
 .have e:b=tb:=by simpa using hb
  rw[e,hk tb rfl];exact hW tb (by simp)
end
def vj {p:Nat->Bool}(h:scl.all p=bl):∀f,L5 f=bl->p f=true:=λf hf=>(zE.1 h) f (by simpa [L5] using hf)
def Vs (f:b5):Bool:=f==85||f==86||f==143||f==145
def ach (f:b5):Bool:=f==81||f==83||f==84||f==144||f==146
def xf:scl.all (λf=>I1 a8 L5 bl f||Vs f||ach f)=true:=by kernel_rfl
def uu {f:b5}(h:Vs f=bl):MG PP f:=by
 unfold Vs at h;simp only[zk,beq_iff_eq] at h;rcases h with((rfl|rfl)|rfl)|rfl
 .exact⟨Tryz.f85,_,eb,eb,by kernel_rfl,by kernel_rfl,by kernel_rfl,by kernel_rfl,.add b6,by kernel_rfl⟩
 .exact⟨Tryz.f86,_,ed,ed,by kernel_rfl,by kernel_rfl,by kernel_rfl,by kernel_rfl,.load b6,by kernel_rfl⟩
 .exact⟨Tryz.f143,_,df,df,by kernel_rfl,by kernel_rfl,by kernel_rfl,by kernel_rfl,.GU .i32 (by decide),by kernel_rfl⟩
 .exact⟨Tryz.f145,_,dn,dn,by kernel_rfl,by kernel_rfl,by kernel_rfl,by kernel_rfl,.add .i32,by kernel_rfl⟩
def yj {P:CL}(f:b5)(hf:aO L5 f=bl):G8 P f:=by
 unfold aO at hf;have h:L5 83=true:=by decide
 rw[h,Bool.not_true,Ak,Ak] at hf;cases hf
def Xa (H:Hid):Lib PP L5 H bl R8 0:=by
 refine iI (λf hf=>?_) (λf hf hb=>?_) (λf hf=>?_) yj ⟨zP Tryz.globals_size,Tryz.LR⟩
 .simp only[R8,yY,zY] at hf;have:=vj xf f hf.1;have Fv:ach f=false:=hf.2;simp only[Fv,AV,zk] at this;rcases this with h|h
  .exact .inl ⟨h,rfl⟩
  .exact .inr (uu h)
 .simp only[R8,hf,Ap,As,zk,beq_iff_eq] at hb;rcases hb with(((rfl|rfl)|rfl)|rfl)|rfl
  .exact⟨_,_,b8,b8,rfl,by decide,by decide,rfl,rfl⟩
  .exact⟨_,_,b9,b9,rfl,by decide,by decide,rfl,rfl⟩
  .exact⟨_,_,cf,cf,rfl,by decide,by decide,rfl,rfl⟩
  .exact⟨_,_,dr,dr,rfl,by decide,by decide,rfl,rfl⟩
  .exact⟨_,_,dy,dy,rfl,by decide,by decide,rfl,rfl⟩
 .simp only[R8,yY] at hf;exact hf.1
section
variable {w:bq} {co ex:Ja} {tb cb sb cap:Nat} {nA hA:Option Addr} {nc F:Nat} {fc:List bs} {oK oE:Obj}
def yk:codeOk a8 L5 bl bl (.region 9 o9 bD)=true:=by kernel_rfl
def xh:codeOk a8 L5 bl bl (.region 10 J1 bD)=true:=by kernel_rfl
def yl:codeOk a8 L5 bl bl eL=true:=by kernel_rfl
def ym:o8.all (cv a8 L5 bl bl)=true:=by kernel_rfl
def Pt (S:D9 w co ex tb cb sb cap nA hA nc F fc oK oE){L6:CR}(Ik:Cv Cl (Cy 3) 2 (DV (EH 1)) 1=[L6])
  (ZL:∀W:bq,W.heap[tb]?=a6 oK->GF W ex->ea B1 F (#[Dr L6]++fc.toArray) W λe W'=>e=.returned (.tuple #[])/\KT (λb=>b=tb) W W'/\W'.heap[tb]?=a6 oE) :
  Hj L5 Ov R8 w (Qh co ex) (K6 tb) (λb=>hasB co b=bl) (YF (Qh co ex) (K6 tb) w cb (.func (.func F) #[] fc.toArray)) cb sb 8 cap (.func F) #[] fc.toArray (λi=>(EH i:Int)) R7 (λi=>decide (i<=1)) (λ_=>oK) (λ_=>oE) where
 hB:=by decide
 NK:=by decide
 Z4:=by decide
 Z5:=by decide
 L0:=wZ oJ
 b0:=oJ
 Z6:=by decide
 todo:=λH K=>.cons (.inRegion ym) (.cons (.inBlock 1) (.cons (.code yk) (.cons (.inLoop yl) (.cons (.inBlock 0) (.cons (.code xh) .nil)))))
 only:=λw1 w2 h _ Dx b hb=>(h b hb).trans (Dx b hb)
 ok:=λb hb=>rfl
 Qb:=λw' h=>cell_of (S.at_ h).2.2.2.1 0
 hold:=λw' h=>⟨(S.Ek w' (S.sees h).left).c2,_,(S.Ek w' (S.sees h).left).c0⟩
 Kw:=λw' i h hi=>(S.Ek w' (S.sees h).left).sets i _ (yi i hi)
 Ek:=λw' b h hb=>by
  obtain⟨p,hp,rfl⟩:=Gc hb;refine⟨by show hasB (co++ex) p.1=bl;rw[bg];simp[hb],_,(S.at_ h).1 p (cu _ hp),.cells (Dn λv hv=>S.vco p hp v hv Ov Bn) λi z1 z2=>⟨z1,z2⟩⟩
 cK:=S.WN
 ks:=⟨by show hasB (co++ex) cb=bl;rw[bg];simp[S.WN],by show hasB (co++ex) sb=bl;rw[bg];simp[S.Z7]⟩
 Z9:=λb hb=>by
  have ht:K6 tb b=false:=by
   cases hc:K6 tb b with
   |false=>rfl
   |true =>
    have e:b=tb:=by simpa using hc
    have h2:=S.nt;rw[<-e] at h2;rw[show hasB (co++ex) b=bl from hb] at h2;cases h2
  obtain⟨p,hp,rfl⟩:=Gc hb;refine⟨ht,p.2.1,p.2.2,(0,0),S.obj p hp,λi h1 h2=>absurd h2 (zU _),λv hv H=>?_⟩;rcases zJ.1 hp with hp|hp
  .exact(S.vco p hp v hv L5 H).mono λc hc=>.inl (by show hasB (co++ex) c=bl;rw[bg];simp[hc])
  .exact(S.vex p hp v hv L5 H (by decide)).mono λc hc=>.inl hc
 tls:=λb hb=>by
  have e:b=tb:=by simpa using hb
  subst e;exact⟨S.Ig,S.Vr⟩
 GN:=λH=>Di.func S.sF.2 λv hv=>(S.vfc v hv L5 H).mono λc hc=>hc.elim .inl λh=>.inr (by simp[h])
 wrap:=yh
 Ky:=λw' i h hi τ d=>S.Ky h i hi τ d
 tp0:=rfl
 tpk:=λi hi hk=>by
  have h1:i≠1:=λe=>hk ((GX i hi).2 (.inl e));show decide (i+1<=1)=decide (i<=1);by_cases h0:i=0
  .subst h0;rfl
  .rw[decide_eq_false (by omega),decide_eq_false (by omega)]
 which:=λi hi hk=>by
  rcases(GX i hi).1 hk with rfl|rfl
  .exact .inr ⟨rfl,rfl⟩
  .exact .inl rfl
 plain:=λi r w' hi hk ht h Mk hr=>by
  rcases(GX i hi).1 hk with rfl|rfl
  .cases ht
  .exact rv S h hi pN Mk hr
 owner:=λi r w' hi hk ht ht1 h Mk hr=>by
  rcases(GX i hi).1 hk with rfl|rfl
  .exact rx S h hi Ik Mk hr ZL
  .cases ht
end
abbrev Lw:Go.Conc.Lib.WgLink:={ add:=81,done:=83,wait:=84,relMerge:=101,disable:=102,enable:=103,inBubble:=104,associate:=105,fatal:=106,uOr:=107,uAdd:=108,raceRead:=109,uLoad:=110,uStore:=111,disassociate:=112,semrelease:=113,acquire:=114,isAssociated:=115,uCas:=116,raceWrite:=117,semacquire:=118,orU64:=138,addU64:=139,loadU64:=140,storeU64:=141,casU64:=142,tWgP:=166,tUP:=168,tAssoc:=169,tWg:=145,tAU:=143,tU64:=65,tUint:=154,tU32:=103,tPU32:=173,tPAU:=199,tPU64:=201,tNoCopy:=102,tANoCopy:=90,tAlign64:=91 }
def Xb:Go.Conc.Lib.WgLib a8 Lw :=
 ⟨b8,b9,cf,Tryz.func101,Tryz.func102,Tryz.func103,Tryz.func104,Tryz.func105,Tryz.func106,Tryz.func107,Tryz.func108,Tryz.func109,Tryz.func110,Tryz.func111,Tryz.func112,Tryz.func113,Tryz.func114,Tryz.func115,Tryz.func116,Tryz.func117,Tryz.func118,Tryz.func138,Tryz.func139,Tryz.func140,Tryz.func141,Tryz.func142,Tryz.underlying166,Tryz.runUnderlying166,Tryz.sizeOf166,Tryz.isAgg166,Tryz.zeroValue166,Tryz.underlying168,Tryz.runUnderlying168,Tryz.sizeOf168,Tryz.isAgg168,Tryz.zeroValue168,Tryz.underlying169,Tryz.runUnderlying169,Tryz.sizeOf169,Tryz.isAgg169,Tryz.zeroValue169,Tryz.underlying145,Tryz.runUnderlying145,Tryz.sizeOf145,Tryz.isAgg145,Tryz.zeroValue145,Tryz.underlying143,Tryz.runUnderlying143,Tryz.sizeOf143,Tryz.isAgg143,Tryz.zeroValue143,Tryz.underlying65,Tryz.runUnderlying65,Tryz.sizeOf65,Tryz.isAgg65,Tryz.zeroValue65,Tryz.underlying154,Tryz.runUnderlying154,Tryz.sizeOf154,Tryz.isAgg154,Tryz.zeroValue154,Tryz.underlying103,Tryz.runUnderlying103,Tryz.sizeOf103,Tryz.isAgg103,Tryz.zeroValue103,Tryz.underlying173,Tryz.runUnderlying173,Tryz.sizeOf173,Tryz.isAgg173,Tryz.zeroValue173,Tryz.underlying199,Tryz.runUnderlying199,Tryz.sizeOf199,Tryz.isAgg199,Tryz.zeroValue199,Tryz.underlying201,Tryz.runUnderlying201,Tryz.sizeOf201,Tryz.isAgg201,Tryz.zeroValue201,Tryz.underlying0,Tryz.runUnderlying0,Tryz.sizeOf0,Tryz.isAgg0,Tryz.zeroValue0,Tryz.underlying3,Tryz.runUnderlying3,Tryz.sizeOf3,Tryz.isAgg3,Tryz.zeroValue3,Tryz.underlying4,Tryz.runUnderlying4,Tryz.sizeOf4,Tryz.isAgg4,Tryz.zeroValue4,Tryz.underlying9,Tryz.runUnderlying9,Tryz.sizeOf9,Tryz.isAgg9,Tryz.zeroValue9,Tryz.underlying20,Tryz.runUnderlying20,Tryz.sizeOf20,Tryz.isAgg20,Tryz.zeroValue20,Tryz.underlying21,Tryz.runUnderlying21,Tryz.sizeOf21,Tryz.isAgg21,Tryz.zeroValue21,(by kernel_rfl),(by kernel_rfl)⟩
def Pu:Go.Co.Barred PP L5 bl Lw.add (Go.Conc.Lib.addFn Lw):=⟨_,b8,b8,rfl,by kernel_rfl⟩
def M9:Go.Co.Barred PP L5 bl Lw.wait (Go.Conc.Lib.waitFn Lw):=⟨_,cf,cf,rfl,by kernel_rfl⟩
def Na:Go.Co.Barred PP L5 bl Lw.done (Go.Conc.Lib.doneFn Lw):=⟨_,b9,b9,rfl,by kernel_rfl⟩
def Gd (bo:Nat):List Value:=[bW b6 12,bW b6 3,bW b6 2,.slice bb 0 0,bW b6 6,bW b6 2,bW b6 2,.slice (a6 ⟨bo,0,bb⟩) 1 1,bW b6 6,bW b6 1,bW b6 1,.slice bb 0 0]
def Nb (bn bh sb cap:Nat):List Value:=[.slice (a6 ⟨bn,0,bb⟩) 3 3,.slice (a6 ⟨bh,0,bb⟩) 3 3,.slice (a6 ⟨sb,0,bb⟩) 8 cap]
def FB:List Value:=[bW b6 3,bW b6 2,bW b6 4]
def CN (bn bo bh cb sb cap:Nat)(cur:List bs)(t:b7):Ja:=[(bn,FB,3),(bo,[bW b6 0],3),(bh,Gd bo,28),(cb,Nb bn bh sb cap,139),(sb,cur,t)]
section
variable {bn bo bh cb sb cap:Nat} {cur:List bs} {t:b7}
def C7 (b:Nat):hasB (CN bn bo bh cb sb cap cur t) b=bl↔b=bn\/b=bo\/b=bh\/b=cb\/b=sb:=by
 simp only[hasB,CN,List.any_cons,List.any_nil,AV,zk,beq_iff_eq];constructor
 .rintro(h|h|h|h|h)<;>simp[h]
 .rintro(h|h|h|h|h)<;>simp[h]
def oL {W:bq}(h:GF W (CN bn bo bh cb sb cap cur t))(ahl:∀(i x:Nat),(Cy 3)[i]?=a6 x->cur[i]?=a6 (bW .u8 (x:Int))) :
  Eo W (λb=>hasB (CN bn bo bh cb sb cap cur t) b=bl) cb Cl (Cy 3) (a6 ⟨bn,0,bb⟩) (a6 ⟨bh,0,bb⟩) 3 3 sb cap:=by
 obtain⟨f1,h1⟩:=h (bn,FB,3) (by simp[CN]);obtain⟨f2,h2⟩:=h (bo,[bW b6 0],3) (by simp[CN]);obtain⟨f3,h3⟩:=h (bh,Gd bo,28) (by simp[CN]);obtain⟨f4,h4⟩:=h (cb,Nb bn bh sb cap,139) (by simp[CN]);obtain⟨f5,h5⟩:=h (sb,cur,t) (by simp[CN]);have hb:∀i:Nat,W.cell? ⟨bh,i,bb⟩=(Gd bo)[i]?:=λi=>(cell_of h3 i).trans (by simp);have hn:Hb W (λb=>hasB (CN bn bo bh cb sb cap cur t) b=bl) (a6 ⟨bn,0,bb⟩) [3,2,4]:=λ_=>by
  refine⟨bn,0,rfl,(C7 _).2 (by simp),λi x hx=>?_⟩;rw[cell_of h1]
  match i,hx with
  |0,hx=>simp at hx;subst hx;rfl
  |1,hx=>simp at hx;subst hx;rfl
  |2,hx=>simp at hx;subst hx;rfl
  |k+3,hx=>simp at hx
 have ho:Hb W (λb=>hasB (CN bn bo bh cb sb cap cur t) b=bl) (a6 ⟨bo,0,bb⟩) [0]:=λ_=>by
  refine⟨bo,0,rfl,(C7 _).2 (by simp),λi x hx=>?_⟩;rw[cell_of h2]
  match i,hx with
  |0,hx=>simp at hx;subst hx;rfl
  |k+1,hx=>simp at hx
 have hnil:Hb W (λb=>hasB (CN bn bo bh cb sb cap cur t) b=bl) bb []:=λh=>absurd rfl h;refine⟨λb Iz=>?_,(C7 _).2 (by simp),cell_of h4 0,cell_of h4 1,cell_of h4 2,(C7 _).2 (by simp),λi x hx=>(cell_of h5 i).trans (by simpa using ahl i x hx),hn,λ_=>⟨bh,0,rfl,(C7 _).2 (by simp),λi x hx=>?_⟩⟩
 .rcases(C7 _).1 Iz with rfl|rfl|rfl|rfl|rfl
  .exact(yK.1 h1).1
  .exact(yK.1 h2).1
  .exact(yK.1 h3).1
  .exact(yK.1 h4).1
  .exact(yK.1 h5).1
 .match i,hx with
  |0,hx=>simp[Cl,CY] at hx;subst hx;exact⟨hb _,hb _,hb _,bb,0,hb _,hnil⟩
  |1,hx=>simp[Cl,CY] at hx;subst hx;exact⟨hb _,hb _,hb _,_,1,hb _,ho⟩
  |2,hx=>simp[Cl,CY] at hx;subst hx;exact⟨hb _,hb _,hb _,bb,0,hb _,hnil⟩
  |k+3,hx=>simp[Cl,CY] at hx
def gu (QP:∀u∈cur,im u):∀p∈CN bn bo bh cb sb cap cur t,∀v∈p.2.1,∀(SB:b5->Bool) (H:Hid),Di SB H (λb=>hasB (CN bn bo bh cb sb cap cur t) b=bl) v:=by
 intro p hp v hv SB H;have ahm:Di SB H (λb=>hasB (CN bn bo bh cb sb cap cur t) b=bl) (.slice bb 0 0):=B6.Fc 0 0;simp only[CN,yT,yQ,or_false] at hp;rcases hp with rfl|rfl|rfl|rfl|rfl
 .simp only[FB,yT,yQ,or_false] at hv;rcases hv with rfl|rfl|rfl<;>exact B6.int _ _
 .simp only[yT,yQ,or_false] at hv;subst hv;exact B6.int _ _
 .simp only[Gd,yT,yQ,or_false] at hv;rcases hv with rfl|rfl|rfl|rfl|rfl|rfl|rfl|rfl|rfl|rfl|rfl|rfl<;>first|exact B6.int _ _|exact ahm|exact Di.slice ((C7 _).2 (by simp)) _ _ _ _
 .simp only[Nb,yT,yQ,or_false] at hv;rcases hv with rfl|rfl|rfl<;>exact Di.slice ((C7 _).2 (by simp)) _ _ _ _
 .obtain⟨x,rfl⟩:=QP v hv;exact B6.int _ _
end
section
variable {bn bo bh cb sb cap:Nat} {cur:List bs} {t:b7} {w:bq}
structure Et (w:bq)(bn bo bh cb sb cap:Nat)(cur:List bs)(t:b7):Prop where
 obj:∀p∈CN bn bo bh cb sb cap cur t,w.heap[p.1]?=a6 (.cells p.2.1.toArray p.2.2 (0,0))
 sets:∀(i x:Nat),(Cy 3)[i]?=a6 x->cur[i]?=a6 (bW .u8 (x:Int))
 flat:∀u∈cur,im u
def Et.keep {w':bq}(h:Et w bn bo bh cb sb cap cur t)(hk:∀b,hasB (CN bn bo bh cb sb cap cur t) b=bl->w'.heap[b]?=w.heap[b]?):Et w' bn bo bh cb sb cap cur t :=
 ⟨λp hp=>(hk _ (j5 hp)).trans (h.obj p hp),h.sets,h.flat⟩
def Et.lt (h:Et w bn bo bh cb sb cap cur t){b:Nat}(hb:hasB (CN bn bo bh cb sb cap cur t) b=bl):b<w.heap.size:=by
 obtain⟨p,hp,rfl⟩:=Gc hb;exact(yK.1 (h.obj p hp)).1
abbrev IH (n:Int):Obj:=bw #[bW b6 n] 93 (0,0)
def YG (n:Int):FH (IH n):=⟨[bW b6 n],93,(0,0),rfl,λv hv=>by
 simp only[yT,yQ,or_false] at hv
 subst hv;exact .int _ _⟩
def Qi (h:Et w bn bo bh cb sb cap cur t){nb:Nat}(hn:w.heap[nb]?=a6 (IH 0))(NP:hasB (CN bn bo bh cb sb cap cur t) nb=bD) :
  D9 w (CN bn bo bh cb sb cap cur t) [] nb cb sb cap (a6 ⟨bn,0,bb⟩) (a6 ⟨bh,0,bb⟩) 3 46 [.pointer (a6 ⟨nb,0,bb⟩)] (IH 0) (IH 1) where
 obj:=λp hp=>h.obj p (by simpa using hp)
 Ig:=hn
 Vr:=⟨YG 0,YG 1⟩
 nt:=by rw[Ay];exact NP
 vco:=gu h.flat
 vex:=λp hp=>by cases hp
 vfc:=λv hv SB H=>by
  simp only[yT,yQ,or_false] at hv;subst hv;exact Di.ptr (.inr rfl) _ _
 sF:=⟨by decide,by decide⟩
 cF:=λx w=>by
  have h1:¬Tryz.f46.name = "runtime.NumGoroutine":=by decide
  simp[dS,Sq.fn Tryz.func46 rfl,h1,Tryz.f46]
 WN:=(C7 _).2 (by simp)
 Z7:=(C7 _).2 (by simp)
 Ek:=λW hW=>oL hW h.sets
def Sa (nb:Nat){ex:Ja}(ρ:CR)(W:bq)(h:W.heap[nb]?=a6 (IH 0))(_:GF W ex) :
  ea B1 46 (#[Dr ρ]++[a7 (a6 ⟨nb,0,bb⟩)].toArray) W λe W'=>e=.returned (.tuple #[])/\KT (λb=>b=nb) W W'/\W'.heap[nb]?=a6 (IH 1) :=
 sE nb 0 1 ρ W h (by decide)
abbrev E4 (b:Bool)(r:CR):Obj:=.cells (Hf 0 r b) 109 (0,0)
def Sb (b:Bool)(r:CR):FH (E4 b r):=⟨(Hf 0 r b).toList,109,(0,0),by simp[Hf],λv hv=>by
 simp only[Hf,yT,yQ,or_false] at hv
 rcases hv with rfl|rfl|rfl|rfl|rfl|rfl|rfl|rfl<;>first|exact .int _ _|exact .bool _⟩
def Eh (xb qb cb:Nat):Ja:=[(xb,[.func (.func 49) #[] #[.pointer (a6 ⟨qb,0,bb⟩)]],101),(qb,[.pointer (a6 ⟨cb,0,bb⟩)],73)]
def Sc (h:Et w bn bo bh cb sb cap cur t){kb xb qb:Nat}{ρ:CR}(hk:w.heap[kb]?=a6 (E4 bD λ_=>0))(hx:∀p∈Eh xb qb cb,w.heap[p.1]?=a6 (.cells p.2.1.toArray p.2.2 (0,0)))
  (NP:hasB (CN bn bo bh cb sb cap cur t++Eh xb qb cb) kb=bD) :
  D9 w (CN bn bo bh cb sb cap cur t) (Eh xb qb cb) kb cb sb cap (a6 ⟨bn,0,bb⟩) (a6 ⟨bh,0,bb⟩) 3 54 [.pointer (a6 ⟨kb,0,bb⟩),.pointer (a6 ⟨xb,0,bb⟩)] (E4 bD λ_=>0) (E4 bl ρ) where
 obj:=λp hp=>(zJ.1 hp).elim (h.obj p) (hx p)
 Ig:=hk
 Vr:=⟨Sb _ _,Sb _ _⟩
 nt:=NP
 vco:=gu h.flat
 vex:=λp hp v hv SB H h54=>by
  have hq:∀b,(b=xb\/b=qb)->hasB (CN bn bo bh cb sb cap cur t++Eh xb qb cb) b=true:=λb hb=>by
   rw[bg];rcases hb with rfl|rfl<;>simp[hasB,Eh]
  simp only[Eh,yT,yQ,or_false] at hp;rcases hp with rfl|rfl
  .simp only[yT,yQ,or_false] at hv;subst hv;refine Di.func (l:=[.pointer (a6 ⟨qb,0,bb⟩)]) h54 λv hv=>?_;simp only[yT,yQ,or_false] at hv;subst hv;exact Di.ptr (hq _ (.inr rfl)) _ _
  .simp only[yT,yQ,or_false] at hv;subst hv;exact Di.ptr (by rw[bg,(C7 cb).2 (by simp),Bool.true_or]) _ _
 vfc:=λv hv SB H=>by
  simp only[yT,yQ,or_false] at hv;rcases hv with rfl|rfl
  .exact Di.ptr (.inr rfl) _ _
  .exact Di.ptr (.inl (by rw[bg];simp[hasB,Eh])) _ _
 sF:=⟨by decide,by decide⟩
 cF:=λx w=>by
  have h1:¬Tryz.f54.name = "runtime.NumGoroutine":=by decide
  simp[dS,Sq.fn Tryz.func54 rfl,h1,Tryz.f54]
 WN:=(C7 _).2 (by simp)
 Z7:=(C7 _).2 (by simp)
 Ek:=λW hW=>oL hW h.sets
def Vt (kb xb qb cb:Nat)(ρ:CR)(W:bq)(h:W.heap[kb]?=a6 (E4 bD λ_=>0))(hs:GF W (Eh xb qb cb)) :
  ea B1 54 (#[Dr ρ]++[a7 (a6 ⟨kb,0,bb⟩),.pointer (a6 ⟨xb,0,bb⟩)].toArray) W λe W'=>e=.returned (.tuple #[])/\KT (λb=>b=kb) W W'/\W'.heap[kb]?=a6 (E4 bl ρ):=by
 obtain⟨f,hf⟩:=hs (xb,[.func (.func 49) #[] #[.pointer (a6 ⟨qb,0,bb⟩)]],101) (by simp[Eh]);exact uC kb xb ρ _ W (cell_of hf 0) (yK.1 hf).1 h
end
attribute [local go_sem] Oper.semAt_some
noncomputable def cB:Code:=Tryz.f19.body.getD .skip
noncomputable def c5:Array Oper:=EP (aD (af (af (af (af cB)))))
noncomputable def x5:Code:=af (af (af (af (af cB))))
def uv {bn bo bh:Nat}{w:bq}{SB:b5->Bool}(hn:w.heap[bn]?=a6 (.cells FB.toArray 3 (0,0)))(ho:w.heap[bo]?=a6 (bw #[bW b6 0] 3 (0,0)))(hh:w.heap[bh]?=a6 (.cells (Gd bo).toArray 28 (0,0))) :
  ∀b,(b=bn\/b=bo\/b=bh)->∃o,w.heap[b]?=a6 o/\C5 (SP SB Bn) (CK B1 SB bD) (CX λb=>b=bn\/b=bo\/b=bh) o o:=by
 rintro b (rfl|rfl|rfl)
 .refine⟨_,hn,.cells (Dn λv hv=>?_) λi h1 h2=>⟨h1,h2⟩⟩;simp only[FB,yT,yQ,or_false] at hv;rcases hv with rfl|rfl|rfl<;>exact B6.int _ _
 .refine⟨_,ho,.cells (Dn (l:=[bW b6 0]) λv hv=>?_) λi h1 h2=>⟨h1,h2⟩⟩;simp only[yT,yQ,or_false] at hv;subst hv;exact B6.int _ _
 .refine⟨_,hh,.cells (Dn λv hv=>?_) λi h1 h2=>⟨h1,h2⟩⟩;simp only[Gd,yT,yQ,or_false] at hv;rcases hv with rfl|rfl|rfl|rfl|rfl|rfl|rfl|rfl|rfl|rfl|rfl|rfl<;>first|exact B6.int _ _|exact B6.Fc _ _|exact Di.slice (.inr (.inl rfl)) _ _ _ _
def mF (bn bo bh:Nat)(w1:bq)(v:bs)(w':bq):Prop:=∃(cb sb cap:Nat) (cur:List bs) (t:b7),v=.tuple #[.pointer (a6 ⟨cb,0,bb⟩),bW b6 0]/\w1.heap.size<=cb/\cb<sb/\Et w' bn bo bh cb sb cap cur t/\w1.heap.size<=w'.heap.size/\∀b,b<w1.heap.size->w'.heap[b]?=w1.heap[b]?
def ry (bn bo bh:Nat){SB:b5->Bool}:Ca (SP SB Bn) (CX λb=>b=bn\/b=bo\/b=bh) #[.agg #[.slice (a6 ⟨bn,0,bb⟩) 3 3,.slice (a6 ⟨bh,0,bb⟩) 3 3]] #[.agg #[.slice (a6 ⟨bn,0,bb⟩) 3 3,.slice (a6 ⟨bh,0,bb⟩) 3 3]] :=
 Dn (l:=[.agg #[.slice (a6 ⟨bn,0,bb⟩) 3 3,.slice (a6 ⟨bh,0,bb⟩) 3 3]]) λv hv=>by
  simp only[yT,yQ,or_false] at hv;subst hv;refine Di.agg (l:=[.slice (a6 ⟨bn,0,bb⟩) 3 3,.slice (a6 ⟨bh,0,bb⟩) 3 3]) λv hv=>?_;simp only[yT,yQ,or_false] at hv;rcases hv with rfl|rfl
  .exact Di.slice (.inl rfl) _ _ _ _
  .exact Di.slice (.inr (.inr rfl)) _ _ _ _
def oM {bn bo bh:Nat}{w:bq}(hn:w.heap[bn]?=a6 (.cells FB.toArray 3 (0,0)))(ho:w.heap[bo]?=a6 (bw #[bW b6 0] 3 (0,0)))(hh:w.heap[bh]?=a6 (.cells (Gd bo).toArray 28 (0,0)))(τ:Tape)(d:Nat) :
  ea B1 44 #[.agg #[.slice (a6 ⟨bn,0,bb⟩) 3 3,.slice (a6 ⟨bh,0,bb⟩) 3 3]] (on w τ d) (λe w'=>∃v,e=.returned v/\mF bn bo bh w v w'):=by
 have ln:=(yK.1 hn).1;have lo:=(yK.1 ho).1;have lh:=(yK.1 hh).1;have hb:∀i:Nat,(on w τ d).cell? ⟨bh,i,bb⟩=(Gd bo)[i]?:=λi=>(cell_of (W:=on w τ d) hh i).trans (by simp);have Em:RI (on w τ d) w.heap.size (a6 ⟨bn,0,bb⟩) Cl.B3:=λ_=>by
  refine⟨bn,0,rfl,ln,λi x hx=>?_⟩;rw[cell_of (W:=on w τ d) hn]
  match i,hx with
  |0,hx=>simp[Cl,CY] at hx;subst hx;rfl
  |1,hx=>simp[Cl,CY] at hx;subst hx;rfl
  |2,hx=>simp[Cl,CY] at hx;subst hx;rfl
  |k+3,hx=>simp[Cl,CY] at hx
 have hro:RI (on w τ d) w.heap.size (a6 ⟨bo,0,bb⟩) [0]:=λ_=>by
  refine⟨bo,0,rfl,lo,λi x hx=>?_⟩;rw[cell_of (W:=on w τ d) ho]
  match i,hx with
  |0,hx=>simp at hx;subst hx;rfl
  |k+1,hx=>simp at hx
 have YH:Db (on w τ d) w.heap.size (a6 ⟨bh,0,bb⟩) Cl.B2:=λ_=>⟨bh,0,rfl,lh,λi x hx=>by
  match i,hx with
  |0,hx=>simp[Cl,CY] at hx;subst hx;exact⟨hb _,hb _,hb _,bb,0,hb _,.nil⟩
  |1,hx=>simp[Cl,CY] at hx;subst hx;exact⟨hb _,hb _,hb _,_,1,hb _,hro⟩
  |2,hx=>simp[Cl,CY] at hx;subst hx;exact⟨hb _,hb _,hb _,bb,0,hb _,.nil⟩
  |k+3,hx=>simp[Cl,CY] at hx⟩
 refine(kK (a6 ⟨bn,0,bb⟩) (a6 ⟨bh,0,bb⟩) 3 3 Cl (on w τ d) w.heap.size (yL _) Em YH (by decide) (by decide) (by decide)).mono ?_;rintro e w' ⟨hg,J5⟩;rw[if_pos iL] at J5;obtain⟨cb,g,cap,rfl,hcb,Yz,hK,hF1,hF2⟩:=J5;obtain⟨cur,t,q1,q2⟩:=hF1 _ _ _ rfl;have Pw:∀b,b<w.heap.size->w'.heap[b]?=w.heap[b]?:=λb hb=>hg.below.block b hb;refine⟨_,rfl,cb,g,cap,cur.toList,t,rfl,hcb,Yz,⟨λp hp=>?_,λi x hx=>?_,q2⟩,hg.size,Pw⟩
 .simp only[CN,yT,yQ,or_false] at hp;rcases hp with rfl|rfl|rfl|rfl|rfl
  .exact(Pw bn ln).trans hn
  .exact(Pw bo lo).trans ho
  .exact(Pw bh lh).trans hh
  .exact hF2
  .simpa using q1
 .have h1:=hK.sets i x hx;rw[cell_of q1] at h1;simpa using h1
def rz {BB:b5->Bool}(hB:BB 19=bl)(NQ:Gq BB){Q:cU->bq->Prop}(hQ:∀g w W,Cs w W->Q g w->Q g W){cs:List ek}(hcs:cs≠[]){bn bo bh:Nat}{w:bq}
  (hn:w.heap[bn]?=a6 (.cells FB.toArray 3 (0,0))) (ho:w.heap[bo]?=a6 (bw #[bW b6 0] 3 (0,0))) (hh:w.heap[bh]?=a6 (.cells (Gd bo).toArray 28 (0,0)))
  (h:∀(cb sb cap nb:Nat) (cur:List bs) (t:b7) (w':bq) (T:Array bs),Et w' bn bo bh cb sb cap cur t->w'.heap[nb]?=a6 (IH 0)->hasB (CN bn bo bh cb sb cap cur t) nb=bD->T.size=19->T.getD 6 undef=.pointer (a6 ⟨nb,0,bb⟩)->w.heap.size<=w'.heap.size->(∀b,b<w.heap.size->w'.heap[b]?=w.heap[b]?) ->
   C1 a8 BB Q 0 (ca PP 45 (GD cb (.func 46) #[] [a7 (a6 ⟨nb,0,bb⟩)].toArray) ((base 19).at ⟨T,[]⟩ [.inRegion c5 [2],.code x5]) cs) w') :
  C1 a8 BB Q 0 (cq (cw a8 19 #[Cj (a6 ⟨bn,0,bb⟩) (a6 ⟨bh,0,bb⟩) Cl 3 3] .normal) cs) w:=by
 rw[enter_at _ eo rfl];simp only[Tryz.ntmps19,yX,yV,zb,Nat.reduceAdd,Nat.reduceSub,zM,zN,zX,zR,Ab,zV];unfold Cj;change C1 a8 BB Q 0 (G _ cs) w;have ln:Cl.B3.length=3:=rfl;have lh:Cl.B2.length=3:=rfl;rw[ln,lh];refine au hQ hB hcs ?_;refine aB hQ hB hcs ?_;simp only[yX,yV,zb,Nat.reduceAdd,yZ,br,bc];refine ag hQ hB hcs rfl rfl λK hK q1 q2 q3=>?_
 go_simp;refine hK _ (w.alloc _) ?_ _ ⟨rfl,rfl,rfl⟩
 try walk_nrm
 try simp only[ab]
 obtain⟨w1,F0⟩:∃w1,w1=w.alloc (bw #[.slice (a6 ⟨bn,0,bb⟩) 3 3,.slice (a6 ⟨bh,0,bb⟩) 3 3] 25):=⟨_,rfl⟩;rw[<-F0];have hz1:w1.heap.size=w.heap.size+1:=by rw[F0,aI]
 have P8:w1.heap[w.heap.size]?=a6 (bw #[.slice (a6 ⟨bn,0,bb⟩) 3 3,.slice (a6 ⟨bh,0,bb⟩) 3 3] 25 (0,0)):=by rw[F0,aE,if_pos rfl]
 have Jb:∀b,b<w.heap.size->w1.heap[b]?=w.heap[b]?:=λb hb=>by rw[F0,aE,if_neg (by omega)]
 have hc0:w1.cell? ⟨w.heap.size,0,bb⟩=a6 (.slice (a6 ⟨bn,0,bb⟩) 3 3):=cell_of P8 0;have hc1:w1.cell? ⟨w.heap.size,1,bb⟩=a6 (.slice (a6 ⟨bh,0,bb⟩) 3 3):=cell_of P8 1;have YI:bn<w.heap.size/\bo<w.heap.size/\bh<w.heap.size:=⟨(yK.1 hn).1,(yK.1 ho).1,(yK.1 hh).1⟩;have G6:=(Jb bn YI.1).trans hn;have ho1:=(Jb bo YI.2.1).trans ho;have Vu:=(Jb bh YI.2.2).trans hh;clear F0;refine ag hQ hB hcs rfl rfl λK hK q1 q2 q3=>?_
 go_simp;refine hK _ w1 ?_ _ ⟨rfl,rfl,rfl⟩
 try walk_nrm
 try simp only[ab]
 refine ag hQ hB hcs rfl rfl λK hK q1 q2 q3=>?_;go_simp;refine hK _ w1 ?_ _ ⟨rfl,rfl,rfl⟩
 try walk_nrm
 try simp only[ab]
 refine aA hQ hB hcs ?_;refine au hQ hB hcs ?_;refine aB hQ hB hcs ?_;simp only[yX,yV,zb,Nat.reduceAdd,yZ,br,bc];refine ag hQ hB hcs rfl rfl λK hK q1 q2 q3=>?_;go_simp;refine hK _ w1 ?_ _ ⟨rfl,rfl,rfl⟩
 try walk_nrm
 try simp only[ab]
 refine ay hQ hB (by kernel_rfl) λτ d=>?_;refine aF rfl rfl (by decide) rfl er (by kernel_rfl) (by kernel_rfl) ⟨Cp _ _,w1,Bm,?_⟩
 try walk_nrm
 refine(ee (H:=Bn) NQ).fn (f:=44) (by decide) (by decide) (K0:=λb=>b=bn\/b=bo\/b=bh) hcs (λ_ _=>zf _) (zf _) (ry bn bo bh) (λb _ hb=>by cases hb) (λb hb=>by cases hb)
  (λb hb _=>uv G6 ho1 Vu b hb) hQ (R:=mF bn bo bh w1) (oM G6 ho1 Vu) ?_
 rintro v w2 ⟨cb,sb,cap,cur,t,rfl,hcb,NR,hcw,hz2,Sd⟩;change C1 a8 BB Q 0 _ w2;rw[bA];simp only[zA,zz,zr,zK]
 try walk_nrm
 refine ag hQ hB hcs rfl rfl λK hK q1 q2 q3=>?_;go_simp;refine hK _ w2 ?_ _ ⟨rfl,rfl,rfl⟩
 try walk_nrm
 try simp only[ab]
 refine ag hQ hB hcs rfl rfl λK hK q1 q2 q3=>?_;go_simp;refine hK _ w2 ?_ _ ⟨rfl,rfl,rfl⟩
 try walk_nrm
 try simp only[ab]
 refine ag hQ hB hcs rfl rfl λK hK q1 q2 q3=>?_;go_simp;refine hK _ w2 ?_ _ ⟨rfl,rfl,rfl⟩
 try walk_nrm
 try simp only[ab]
 refine ag hQ hB hcs rfl rfl λK hK q1 q2 q3=>?_;go_simp;refine hK _ w2 ?_ _ ⟨rfl,rfl,rfl⟩
 try walk_nrm
 try simp only[ab]
 refine ag hQ hB hcs rfl rfl λK hK q1 q2 q3=>?_;go_simp;refine hK _ w2 ?_ _ ⟨rfl,rfl,rfl⟩
 try walk_nrm
 try simp only[ab]
 refine aA hQ hB hcs ?_
 iterate 2 refine au hQ hB hcs ?_
 refine aB hQ hB hcs ?_;simp only[yX,yV,zb,Nat.reduceAdd,yZ,br,bc];refine ag hQ hB hcs rfl rfl λK hK q1 q2 q3=>?_;go_simp;refine hK _ w2 ?_ _ ⟨rfl,rfl,rfl⟩
 try walk_nrm
 try simp only[ab]
 refine ag hQ hB hcs rfl rfl λK hK q1 q2 q3=>?_;go_simp;refine hK _ w2 ?_ _ ⟨rfl,rfl,rfl⟩
 try walk_nrm
 try simp only[ab]
 refine aA hQ hB hcs ?_;refine jN hQ hB hcs ?_;refine gi hQ hB hcs ?_;refine au hQ hB hcs ?_;refine aB hQ hB hcs ?_;simp only[yX,yV,zb,Nat.reduceAdd,yZ,br,bc];refine ag hQ hB hcs rfl rfl λK hK q1 q2 q3=>?_;go_simp;refine hK _ (w2.alloc _) ?_ _ ⟨rfl,rfl,rfl⟩;clear hK K q1 q2 q3
 try walk_nrm
 try simp only[ab]
 obtain⟨w3,hw3⟩:∃w3,w3=w2.alloc (IH 0):=⟨_,rfl⟩;change C1 a8 BB Q 0 _ (w2.alloc (IH 0));rw[<-hw3];have hz3:w3.heap.size=w2.heap.size+1:=by rw[hw3,aI]
 have Xc:∀b,b<w2.heap.size->w3.heap[b]?=w2.heap[b]?:=λb hb=>by rw[hw3,aE,if_neg (by omega)]
 have Ms:w3.heap[w2.heap.size]?=a6 (IH 0):=by rw[hw3,aE,if_pos rfl]
 clear hw3;refine aA hQ hB hcs ?_;refine au hQ hB hcs ?_;refine aB hQ hB hcs ?_;simp only[yX,yV,zb,Nat.reduceAdd,yZ,br,bc];refine ag hQ hB hcs rfl rfl λK hK q1 q2 q3=>?_;go_simp;refine hK _ w3 ?_ _ ⟨rfl,rfl,rfl⟩;refine ag hQ hB hcs rfl rfl λK hK q1 q2 q3=>?_;go_simp;refine hK _ w3 ?_ _ ⟨rfl,rfl,rfl⟩
 try walk_nrm
 try simp only[ab]
 refine ay hQ hB (by kernel_rfl) λτ d=>?_;refine aF rfl rfl (by decide) rfl ez (by kernel_rfl) (by kernel_rfl) ⟨Cp _ _,w3,Bm,?_⟩
 try walk_nrm
 refine h cb sb cap w2.heap.size cur t w3 _ (hcw.keep λb hb=>Xc b (hcw.lt hb)) Ms (by
  cases hq:hasB (CN bn bo bh cb sb cap cur t) w2.heap.size with
  |false=>rfl
  |true=>exact absurd (hcw.lt hq) (Nat.lt_irrefl _)) rfl rfl (by omega) λb hb=>(Xc b (by omega)).trans ((Sd b (by omega)).trans (Jb b hb))
def acj {T:Array bs}(h:T.size=19):∃y0 y1 y2 y3 y4 y5 y6 y7 y8 y9 Hl Hm Hn Ho Hp Hq Hr Hs Ht:bs,T=#[y0,y1,y2,y3,y4,y5,y6,y7,y8,y9,Hl,Hm,Hn,Ho,Hp,Hq,Hr,Hs,Ht]:=by
 obtain⟨l⟩:=T;have h:l.length=19:=h
 match l,h with
 |[y0,y1,y2,y3,y4,y5,y6,y7,y8,y9,Hl,Hm,Hn,Ho,Hp,Hq,Hr,Hs,Ht],_=>exact⟨y0,y1,y2,y3,y4,y5,y6,y7,y8,y9,Hl,Hm,Hn,Ho,Hp,Hq,Hr,Hs,Ht,rfl⟩
def pP {BB:b5->Bool}(hB:BB 19=bl)(NQ:Gq BB){Q:cU->bq->Prop}(hQ:∀g w W,Cs w W->Q g w->Q g W){b0:ek}{a0:Act}{ops:Array Oper}{i:Nat}{rest:List Nat}{k:List Item}{cs:List ek}(hcs:cs≠[]){nb:Nat}{n:Int}{w:bq}
  (hn:w.heap[nb]?=a6 (IH n)) {T:Array bs} (hT:T.size=19) (h6:T.getD 6 undef=.pointer (a6 ⟨nb,0,bb⟩))
  (h:C1 a8 BB Q 0 (cq (b0.at (a0.put ((ops[i]?).bind (·.dst)) (.tuple #[bW b6 n,bW b6 0])) (.inRegion ops rest::k)) cs) w) :
  C1 a8 BB Q 0 (back ((base 19).at ⟨T,[]⟩ [.inRegion c5 [2],.code x5]) (b0.at a0 (.inRegion ops (i::rest)::k)::cs)) w:=by
 obtain⟨y0,y1,y2,y3,y4,y5,y6,y7,y8,y9,Hl,Hm,Hn,Ho,Hp,Hq,Hr,Hs,Ht,rfl⟩:=acj hT;have h6:y6=.pointer (a6 ⟨nb,0,bb⟩):=h6;subst h6;unfold back;rw[bA];change C1 a8 BB Q 0 (G _ _) w;have e17:(c5[2]?.bind (·.dst))=a6 17:=rfl;rw[e17]
 try walk_nrm
 refine aA hQ hB (Cp _ _) ?_;have ex5:x5=af (af (af (af (af cB)))):=rfl;simp only[cB,Tryz.f19,zc,af] at ex5;rw[ex5];refine au hQ hB (Cp _ _) ?_;refine aB hQ hB (Cp _ _) ?_;simp only[yX,yV,zb,Nat.reduceAdd,yZ,br,bc];refine ay hQ hB (by kernel_rfl) λτ d=>?_;refine aF rfl rfl (by decide) rfl Tryz.func48 (by kernel_rfl) (by kernel_rfl) ⟨Cp _ _,w,Bm,?_⟩
 try walk_nrm
 refine(ee (H:=Bn) NQ).fn (f:=48) (by decide) (by decide) (K0:=λb=>b=nb) (Cp _ _) (λ_ _=>zf _) (zf _) (Dn (l:=[.pointer (a6 ⟨nb,0,bb⟩)]) λv hv=>?_) (λb _ hb=>by cases hb) (λb hb=>by cases hb)
  (λb hb _=>⟨_,(by rw[hb];exact hn),kM (YG n)⟩) hQ (R:=λv w'=>v=bW b6 n/\Cs w w') (λτ d=>(sD nb n (on w τ d) hn).mono ?_) ?_
 .simp only[yT,yQ,or_false] at hv;subst hv;exact Di.ptr (K:=λb=>b=nb) rfl _ _
 .rintro e w9 ⟨rfl,rfl⟩;exact⟨_,rfl,rfl,Bm⟩
 rintro v w2 ⟨rfl,hs2⟩;refine C1.same hQ (W:=w2) ?_ hs2;change C1 a8 BB Q 0 _ w;rw[bA];simp only[zA,zz,zr,zK]
 try walk_nrm
 refine ag hQ hB (Cp _ _) rfl rfl λK hK q1 q2 q3=>?_;go_simp;refine hK _ w ?_ _ ⟨rfl,rfl,rfl⟩
 try walk_nrm
 try simp only[ab]
 refine ag hQ hB (Cp _ _) rfl rfl λK hK q1 q2 q3=>?_;go_simp;refine hK _ w ?_ _ ⟨rfl,rfl,rfl⟩
 try walk_nrm
 try simp only[ab]
 refine aA hQ hB (Cp _ _) ?_;refine ay hQ hB (by kernel_rfl) λτ d=>?_;rw[stepG_ret'];simp only[goes_go];refine⟨(Cp _ _),w,Bm,?_⟩;refine dN hQ hB (by kernel_rfl) λτ d=>?_;refine goes_leave2 rfl rfl eo rfl ⟨hcs,w,Bm,?_⟩;exact h
attribute [local go_sem] Oper.semAt_some
noncomputable def dB:Code:=Tryz.f21.body.getD .skip
noncomputable def d6:Array Oper:=EP (aD (af (af (af (af (af dB))))))
noncomputable def z6:Code:=af (af (af (af (af (af dB)))))
def rB {W:bq}{b i:Nat}{a:Array bs}{u:bs}{t:b7}{f:Nat×Nat}(h:W.heap[b]?=a6 (.cells a t f)):(W.setCell ⟨b,i,bb⟩ u).heap[b]?=a6 (.cells (a.setIfInBounds i u) t f):=by
 unfold World.setCell;simp only[zH,if_true,h]
 rfl
def CJ {W:bq}{b i c:Nat}{u:bs}(h:c≠b):(W.setCell ⟨b,i,bb⟩ u).heap[c]?=W.heap[c]?:=by
 unfold World.setCell;simp only[zH];rw[if_neg (λe=>h e.symm)]
def rC {W:bq}{b i:Nat}{u:bs}:(W.setCell ⟨b,i,bb⟩ u).heap.size=W.heap.size:=by
 unfold World.setCell;simp
def rD {W:bq}{b:Nat}{l:Array bs}{t:b7}(h:W.heap[b]?=a6 (.cells l t (0,0)))(i:Nat):W.frozen? ⟨b,i,bb⟩=false:=by
 unfold World.frozen?;simp[h]
def tC {BB:b5->Bool}(hB:BB 21=bl)(NQ:Gq BB){Q:cU->bq->Prop}(hQ:∀g w W,Cs w W->Q g w->Q g W){cs:List ek}(hcs:cs≠[]){bn bo bh:Nat}{w:bq}
  (hn:w.heap[bn]?=a6 (.cells FB.toArray 3 (0,0))) (ho:w.heap[bo]?=a6 (bw #[bW b6 0] 3 (0,0))) (hh:w.heap[bh]?=a6 (.cells (Gd bo).toArray 28 (0,0)))
  (h:∀(cb sb cap qb xb kb:Nat) (cur:List bs) (t:b7) (w':bq) (T:Array bs),Et w' bn bo bh cb sb cap cur t->w'.heap[kb]?=a6 (E4 bD λ_=>0)->(∀p∈Eh xb qb cb,w'.heap[p.1]?=a6 (.cells p.2.1.toArray p.2.2 (0,0)))->hasB (CN bn bo bh cb sb cap cur t++Eh xb qb cb) kb=bD ->
   T.size=27->T.getD 4 undef=.pointer (a6 ⟨qb,0,bb⟩)->T.getD 7 undef=.pointer (a6 ⟨kb,0,bb⟩)->w.heap.size<=w'.heap.size->(∀b,b<w.heap.size->w'.heap[b]?=w.heap[b]?) ->
   C1 a8 BB Q 0 (ca PP 45 (GD cb (.func 54) #[] [a7 (a6 ⟨kb,0,bb⟩),.pointer (a6 ⟨xb,0,bb⟩)].toArray) ((base 21).at ⟨T,[]⟩ [.inRegion d6 [2],.code z6]) cs) w') :
  C1 a8 BB Q 0 (cq (cw a8 21 #[Cj (a6 ⟨bn,0,bb⟩) (a6 ⟨bh,0,bb⟩) Cl 3 3] .normal) cs) w:=by
 rw[enter_at _ eA rfl];simp only[Tryz.ntmps21,yX,yV,zb,Nat.reduceAdd,Nat.reduceSub,zM,zN,zX,zR,Ab,zV];unfold Cj;change C1 a8 BB Q 0 (G _ cs) w;have ln:Cl.B3.length=3:=rfl;have lh:Cl.B2.length=3:=rfl;rw[ln,lh];refine au hQ hB hcs ?_;refine aB hQ hB hcs ?_;simp only[yX,yV,zb,Nat.reduceAdd,yZ,br,bc];refine ag hQ hB hcs rfl rfl λK hK q1 q2 q3=>?_
 go_simp;refine hK _ (w.alloc _) ?_ _ ⟨rfl,rfl,rfl⟩;clear hK K q1 q2 q3
 try walk_nrm
 try simp only[ab]
 obtain⟨w1,F0⟩:∃w1,w1=w.alloc (bw #[.slice (a6 ⟨bn,0,bb⟩) 3 3,.slice (a6 ⟨bh,0,bb⟩) 3 3] 25):=⟨_,rfl⟩;rw[<-F0];have hz1:w1.heap.size=w.heap.size+1:=by rw[F0,aI]
 have P8:w1.heap[w.heap.size]?=a6 (bw #[.slice (a6 ⟨bn,0,bb⟩) 3 3,.slice (a6 ⟨bh,0,bb⟩) 3 3] 25 (0,0)):=by rw[F0,aE,if_pos rfl]
 have Jb:∀b,b<w.heap.size->w1.heap[b]?=w.heap[b]?:=λb hb=>by rw[F0,aE,if_neg (by omega)]
 have hc0:w1.cell? ⟨w.heap.size,0,bb⟩=a6 (.slice (a6 ⟨bn,0,bb⟩) 3 3):=cell_of P8 0;have hc1:w1.cell? ⟨w.heap.size,1,bb⟩=a6 (.slice (a6 ⟨bh,0,bb⟩) 3 3):=cell_of P8 1;have YI:bn<w.heap.size/\bo<w.heap.size/\bh<w.heap.size:=⟨(yK.1 hn).1,(yK.1 ho).1,(yK.1 hh).1⟩;have G6:=(Jb bn YI.1).trans hn;have ho1:=(Jb bo YI.2.1).trans ho;have Vu:=(Jb bh YI.2.2).trans hh;clear F0;refine ag hQ hB hcs rfl rfl λK hK q1 q2 q3=>?_
 go_simp;refine hK _ w1 ?_ _ ⟨rfl,rfl,rfl⟩;clear hK K q1 q2 q3
 try walk_nrm
 try simp only[ab]
 refine ag hQ hB hcs rfl rfl λK hK q1 q2 q3=>?_;go_simp;refine hK _ w1 ?_ _ ⟨rfl,rfl,rfl⟩;clear hK K q1 q2 q3
 try walk_nrm
 try simp only[ab]
 refine aA hQ hB hcs ?_;refine au hQ hB hcs ?_;refine aB hQ hB hcs ?_;simp only[yX,yV,zb,Nat.reduceAdd,yZ,br,bc];refine ag hQ hB hcs rfl rfl λK hK q1 q2 q3=>?_;go_simp;refine hK _ w1 ?_ _ ⟨rfl,rfl,rfl⟩;clear hK K q1 q2 q3
 try walk_nrm
 try simp only[ab]
 refine ay hQ hB (by kernel_rfl) λτ d=>?_;refine aF rfl rfl (by decide) rfl er (by kernel_rfl) (by kernel_rfl) ⟨Cp _ _,w1,Bm,?_⟩
 try walk_nrm
 refine(ee (H:=Bn) NQ).fn (f:=44) (by decide) (by decide) (K0:=λb=>b=bn\/b=bo\/b=bh) hcs (λ_ _=>zf _) (zf _) (ry bn bo bh) (λb _ hb=>by cases hb) (λb hb=>by cases hb)
  (λb hb _=>uv G6 ho1 Vu b hb) hQ (R:=mF bn bo bh w1) (oM G6 ho1 Vu) ?_
 rintro v w2 ⟨cb,sb,cap,cur,t,rfl,hcb,NR,hcw,hz2,Sd⟩;change C1 a8 BB Q 0 _ w2;rw[bA];simp only[zA,zz,zr,zK]
 try walk_nrm
 refine ag hQ hB hcs rfl rfl λK hK q1 q2 q3=>?_;go_simp;refine hK _ w2 ?_ _ ⟨rfl,rfl,rfl⟩;clear hK K q1 q2 q3
 try walk_nrm
 try simp only[ab]
 refine ag hQ hB hcs rfl rfl λK hK q1 q2 q3=>?_;go_simp;refine hK _ w2 ?_ _ ⟨rfl,rfl,rfl⟩;clear hK K q1 q2 q3
 try walk_nrm
 try simp only[ab]
 refine ag hQ hB hcs rfl rfl λK hK q1 q2 q3=>?_;go_simp;refine hK _ w2 ?_ _ ⟨rfl,rfl,rfl⟩;clear hK K q1 q2 q3
 try walk_nrm
 try simp only[ab]
 refine ag hQ hB hcs rfl rfl λK hK q1 q2 q3=>?_;go_simp;refine hK _ (w2.alloc _) ?_ _ ⟨rfl,rfl,rfl⟩;clear hK K q1 q2 q3
 try walk_nrm
 try simp only[ab]
 obtain⟨w3,hw3⟩:∃w3,w3=w2.alloc (bw #[.pointer bb] 73):=⟨_,rfl⟩;change C1 a8 BB Q 0 _ (w2.alloc (bw #[.pointer bb] 73));rw[<-hw3];have acm:=yJ (show w3.heap.size=w2.heap.size+1 by rw[hw3,aI]);have acn:∀b,b<w2.heap.size->w3.heap[b]?=w2.heap[b]?:=λb hb=>by rw[hw3,aE,if_neg (by omega)]
 have Sg:w3.heap[w2.heap.size]?=a6 (bw #[.pointer bb] 73):=by rw[hw3,aE,if_pos rfl]
 clear hw3;refine ag hQ hB hcs rfl rfl λK hK q1 q2 q3=>?_;have z1:=cell_of Sg 0;have z2:=rD Sg 0;go_simp;refine hK _ (w3.setCell _ _) ?_ _ ⟨rfl,rfl,rfl⟩;clear hK K q1 q2 q3
 try walk_nrm
 try simp only[ab]
 obtain⟨w4,hw4⟩:∃w4,w4=w3.setCell ⟨w2.heap.size,0,bb⟩ (.pointer (a6 ⟨cb,0,bb⟩)):=⟨_,rfl⟩;change C1 a8 BB Q 0 _ (w3.setCell ⟨w2.heap.size,0,bb⟩ (.pointer (a6 ⟨cb,0,bb⟩)));rw[<-hw4];have aco:=yJ (show w4.heap.size=w3.heap.size by rw[hw4,rC]);have acp:∀b,b≠w2.heap.size->w4.heap[b]?=w3.heap[b]?:=λb hb=>by rw[hw4,CJ hb]
 have Xd:=rB (i:=0) (u:=.pointer (a6 ⟨cb,0,bb⟩)) Sg;rw[<-hw4] at Xd;clear hw4;refine ag hQ hB hcs rfl rfl λK hK q1 q2 q3=>?_;go_simp;refine hK _ w4 ?_ _ ⟨rfl,rfl,rfl⟩;clear hK K q1 q2 q3
 try walk_nrm
 try simp only[ab]
 refine aA hQ hB hcs ?_
 iterate 2 refine au hQ hB hcs ?_
 refine aB hQ hB hcs ?_;simp only[yX,yV,zb,Nat.reduceAdd,yZ,br,bc];refine ag hQ hB hcs rfl rfl λK hK q1 q2 q3=>?_;go_simp;refine hK _ w4 ?_ _ ⟨rfl,rfl,rfl⟩;clear hK K q1 q2 q3
 try walk_nrm
 try simp only[ab]
 refine ag hQ hB hcs rfl rfl λK hK q1 q2 q3=>?_;go_simp;refine hK _ w4 ?_ _ ⟨rfl,rfl,rfl⟩;clear hK K q1 q2 q3
 try walk_nrm
 try simp only[ab]
 refine aA hQ hB hcs ?_;refine jN hQ hB hcs ?_;refine gi hQ hB hcs ?_;refine au hQ hB hcs ?_;refine aB hQ hB hcs ?_;simp only[yX,yV,zb,Nat.reduceAdd,yZ,br,bc];refine ag hQ hB hcs rfl rfl λK hK q1 q2 q3=>?_;go_simp;refine hK _ w4 ?_ _ ⟨rfl,rfl,rfl⟩;clear hK K q1 q2 q3
 try walk_nrm
 try simp only[ab]
 refine ag hQ hB hcs rfl rfl λK hK q1 q2 q3=>?_;go_simp;refine hK _ (w4.alloc _) ?_ _ ⟨rfl,rfl,rfl⟩;clear hK K q1 q2 q3
 try walk_nrm
 try simp only[ab]
 obtain⟨w5,hw5⟩:∃w5,w5=w4.alloc (bw #[.nilFunc] 101):=⟨_,rfl⟩;change C1 a8 BB Q 0 _ (w4.alloc (bw #[.nilFunc] 101));rw[<-hw5];have acr:=yJ (show w5.heap.size=w4.heap.size+1 by rw[hw5,aI]);have Xe:∀b,b<w4.heap.size->w5.heap[b]?=w4.heap[b]?:=λb hb=>by rw[hw5,aE,if_neg (by omega)]
 have Si:w5.heap[w4.heap.size]?=a6 (bw #[.nilFunc] 101):=by rw[hw5,aE,if_pos rfl]
 clear hw5;refine ag hQ hB hcs rfl rfl λK hK q1 q2 q3=>?_;have z1:=cell_of Si 0;have z2:=rD Si 0;go_simp;refine hK _ (w5.setCell _ _) ?_ _ ⟨rfl,rfl,rfl⟩;clear hK K q1 q2 q3
 try walk_nrm
 try simp only[ab]
 obtain⟨w6,hw6⟩:∃w6,w6=w5.setCell ⟨w4.heap.size,0,bb⟩ (.func (.func 49) #[] #[.pointer (a6 ⟨w2.heap.size,0,bb⟩)]):=⟨_,rfl⟩;change C1 a8 BB Q 0 _ (w5.setCell ⟨w4.heap.size,0,bb⟩ (.func (.func 49) #[] #[.pointer (a6 ⟨w2.heap.size,0,bb⟩)]));rw[<-hw6];have acu:=yJ (show w6.heap.size=w5.heap.size by rw[hw6,rC]);have Xf:∀b,b≠w4.heap.size->w6.heap[b]?=w5.heap[b]?:=λb hb=>by rw[hw6,CJ hb]
 have Xg:=rB (i:=0) (u:=.func (.func 49) #[] #[.pointer (a6 ⟨w2.heap.size,0,bb⟩)]) Si;rw[<-hw6] at Xg;clear hw6;refine aA hQ hB hcs ?_;refine au hQ hB hcs ?_;refine aB hQ hB hcs ?_;simp only[yX,yV,zb,Nat.reduceAdd,yZ,br,bc];refine ag hQ hB hcs rfl rfl λK hK q1 q2 q3=>?_;go_simp;refine hK _ (w6.alloc _) ?_ _ ⟨rfl,rfl,rfl⟩;clear hK K q1 q2 q3
 try walk_nrm
 try simp only[ab]
 obtain⟨w7,Px⟩:∃w7,w7=w6.alloc (E4 bD λ_=>0):=⟨_,rfl⟩;change C1 a8 BB Q 0 _ (w6.alloc (E4 bD λ_=>0));rw[<-Px];have acv:=yJ (show w7.heap.size=w6.heap.size+1 by rw[Px,aI]);have Sj:∀b,b<w6.heap.size->w7.heap[b]?=w6.heap[b]?:=λb hb=>by rw[Px,aE,if_neg (by omega)]
 have acw:w7.heap[w6.heap.size]?=a6 (E4 bD λ_=>0):=by rw[Px,aE,if_pos rfl]
 clear Px;refine aA hQ hB hcs ?_;refine au hQ hB hcs ?_;refine aB hQ hB hcs ?_;simp only[yX,yV,zb,Nat.reduceAdd,yZ,br,bc];have acx:=acm.out;have acy:=aco.out;have acz:=acr.out;have acA:=acu.out;have acB:=acv.out;have hq7:w7.heap[w2.heap.size]?=a6 (bw #[.pointer (a6 ⟨cb,0,bb⟩)] 73 (0,0)):=(Sj _ (by omega)).trans ((Xf _ (by omega)).trans ((Xe _ (by omega)).trans Xd))
 have hx7:w7.heap[w4.heap.size]?=a6 (bw #[.func (.func 49) #[] #[.pointer (a6 ⟨w2.heap.size,0,bb⟩)]] 101 (0,0)):=(Sj _ (by omega)).trans Xg;have acC:∀b,b<w2.heap.size->w7.heap[b]?=w2.heap[b]?:=λb hb=>(Sj _ (by omega)).trans ((Xf _ (by omega)).trans ((Xe _ (by omega)).trans ((acp _ (by omega)).trans (acn _ hb))));clear acx acy acz acA acB;refine ag hQ hB hcs rfl rfl λK hK q1 q2 q3=>?_
 have z1:=cell_of hq7 0;go_simp;refine hK _ w7 ?_ _ ⟨rfl,rfl,rfl⟩
 try walk_nrm
 try simp only[ab]
 refine ag hQ hB hcs rfl rfl λK hK q1 q2 q3=>?_;go_simp;refine hK _ w7 ?_ _ ⟨rfl,rfl,rfl⟩
 try walk_nrm
 try simp only[ab]
 refine ay hQ hB (by kernel_rfl) λτ d=>?_;refine aF rfl rfl (by decide) rfl ez (by kernel_rfl) (by kernel_rfl) ⟨Cp _ _,w7,Bm,?_⟩
 try walk_nrm
 have acx:=acm.out;have acy:=aco.out;have acz:=acr.out;have acA:=acu.out;have acB:=acv.out;refine h cb sb cap w2.heap.size w4.heap.size w6.heap.size cur t w7 _ (hcw.keep λb hb=>acC b (hcw.lt hb)) acw (λp hp=>?_) ?_ rfl rfl rfl (by omega) λb hb=>(acC b (by omega)).trans ((Sd b (by omega)).trans (Jb b hb))
 .simp only[Eh,yT,yQ,or_false] at hp;rcases hp with rfl|rfl
  .exact hx7
  .exact hq7
 .cases hq:hasB (CN bn bo bh cb sb cap cur t++Eh w4.heap.size w2.heap.size cb) w6.heap.size with
  |false=>rfl
  |true =>
   exfalso;rw[bg,zk] at hq;rcases hq with hq|hq
   .have:=hcw.lt hq;omega
   .simp[hasB,Eh] at hq;omega
def acD {T:Array bs}(h:T.size=27):∃y0 y1 y2 y3 y4 y5 y6 y7 y8 y9 Hl Hm Hn Ho Hp Hq Hr Hs Ht JH JI JJ JK JL JM NS NT:bs,T=#[y0,y1,y2,y3,y4,y5,y6,y7,y8,y9,Hl,Hm,Hn,Ho,Hp,Hq,Hr,Hs,Ht,JH,JI,JJ,JK,JL,JM,NS,NT]:=by
 obtain⟨l⟩:=T;have h:l.length=27:=h
 match l,h with
 |[y0,y1,y2,y3,y4,y5,y6,y7,y8,y9,Hl,Hm,Hn,Ho,Hp,Hq,Hr,Hs,Ht,JH,JI,JJ,JK,JL,JM,NS,NT],_=>exact⟨y0,y1,y2,y3,y4,y5,y6,y7,y8,y9,Hl,Hm,Hn,Ho,Hp,Hq,Hr,Hs,Ht,JH,JI,JJ,JK,JL,JM,NS,NT,rfl⟩
def rE {BB:b5->Bool}(hB:BB 21=bl)(NQ:Gq BB){Q:cU->bq->Prop}(hQ:∀g w W,Cs w W->Q g w->Q g W){b0:ek}{a0:Act}{ops:Array Oper}{i:Nat}{rest:List Nat}{k:List Item}{cs:List ek}(hcs:cs≠[])
  {bn bo bh cb sb cap qb kb:Nat} {cur:List bs} {t:b7} {ρ:CR} (Ew:∀i,i<5->ρ i<16) {w:bq} (hC:Et w bn bo bh cb sb cap cur t) (hk:w.heap[kb]?=a6 (E4 bl ρ)) (hq:w.heap[qb]?=a6 (bw #[.pointer (a6 ⟨cb,0,bb⟩)] 73 (0,0)))
  {T:Array bs} (hT:T.size=27) (h4:T.getD 4 undef=.pointer (a6 ⟨qb,0,bb⟩)) (h7:T.getD 7 undef=.pointer (a6 ⟨kb,0,bb⟩))
  (h:∀(A:Option Addr) (c:Nat) (xs:List bs) (w':bq) (K':Nat->Prop),Ce w' (w.heap.size+1) (bk A 3 c) (CG ρ 3) xs->w.heap.size<=w'.heap.size->(∀b,b<w.heap.size->w'.heap[b]?=w.heap[b]?)->B6 (SP GC Bn) (CX K') (bk A 3 c) (bk A 3 c) ->
   (∀b,K' b->∃o,w'.heap[b]?=a6 o/\C5 (SP GC Bn) (CK B1 GC bD) (CX K') o o)->C1 a8 BB Q 0 (cq (b0.at (a0.put ((ops[i]?).bind (·.dst)) (.tuple #[bk A 3 c,bW b6 0])) (.inRegion ops rest::k)) cs) w') :
  C1 a8 BB Q 0 (back ((base 21).at ⟨T,[]⟩ [.inRegion d6 [2],.code z6]) (b0.at a0 (.inRegion ops (i::rest)::k)::cs)) w:=by
 obtain⟨y0,y1,y2,y3,y4,y5,y6,y7,y8,y9,Hl,Hm,Hn,Ho,Hp,Hq,Hr,Hs,Ht,JH,JI,JJ,JK,JL,JM,NS,NT,rfl⟩:=acD hT;have h4:y4=.pointer (a6 ⟨qb,0,bb⟩):=h4;have h7:y7=.pointer (a6 ⟨kb,0,bb⟩):=h7;subst h4 h7;unfold back;rw[bA];change C1 a8 BB Q 0 (G _ _) w;have e19:(d6[2]?.bind (·.dst))=a6 19:=rfl;rw[e19]
 try walk_nrm
 have k2:=cell_of hk 2;have k3:=cell_of hk 3;have k4:=cell_of hk 4;have k5:=cell_of hk 5;have k6:=cell_of hk 6;have k7:=cell_of hk 7;have kq:=cell_of hq 0;simp only[Hf,zA,zz,zr] at k2 k3 k4 k5 k6 k7 kq;refine aA hQ hB (Cp _ _) ?_;have ez6:z6=af (af (af (af (af (af dB))))):=rfl;simp only[dB,Tryz.f21,zc,af] at ez6;rw[ez6];clear ez6
 iterate 2 refine au hQ hB (Cp _ _) ?_
 refine aB hQ hB (Cp _ _) ?_;simp only[yX,yV,zb,Nat.reduceAdd,yZ,br,bc];refine ag hQ hB (Cp _ _) rfl rfl λK hK q1 q2 q3=>?_;go_simp;refine hK _ w ?_ _ ⟨rfl,rfl,rfl⟩;clear hK K q1 q2 q3
 try walk_nrm
 try simp only[ab]
 refine ag hQ hB (Cp _ _) rfl rfl λK hK q1 q2 q3=>?_;go_simp;refine hK _ w ?_ _ ⟨rfl,rfl,rfl⟩;clear hK K q1 q2 q3
 try walk_nrm
 try simp only[ab]
 refine ag hQ hB (Cp _ _) rfl rfl λK hK q1 q2 q3=>?_;go_simp;refine hK _ w ?_ _ ⟨rfl,rfl,rfl⟩;clear hK K q1 q2 q3
 try walk_nrm
 try simp only[ab]
 refine aA hQ hB (Cp _ _) ?_;refine jN hQ hB (Cp _ _) ?_;refine gi hQ hB (Cp _ _) ?_;refine au hQ hB (Cp _ _) ?_;refine aB hQ hB (Cp _ _) ?_;simp only[yX,yV,zb,Nat.reduceAdd,yZ,br,bc];refine ag hQ hB (Cp _ _) rfl rfl λK hK q1 q2 q3=>?_;go_simp;refine hK _ w ?_ _ ⟨rfl,rfl,rfl⟩;clear hK K q1 q2 q3
 try walk_nrm
 try simp only[ab]
 refine ag hQ hB (Cp _ _) rfl rfl λK hK q1 q2 q3=>?_;go_simp;refine hK _ w ?_ _ ⟨rfl,rfl,rfl⟩;clear hK K q1 q2 q3
 try walk_nrm
 try simp only[ab]
 refine ag hQ hB (Cp _ _) rfl rfl λK hK q1 q2 q3=>?_;go_simp;refine hK _ w ?_ _ ⟨rfl,rfl,rfl⟩;clear hK K q1 q2 q3
 try walk_nrm
 try simp only[ab]
 refine ay hQ hB (by kernel_rfl) λτ d=>?_;refine aF rfl rfl (by decide) rfl Tryz.func56 (by kernel_rfl) (by kernel_rfl) ⟨Cp _ _,w,Bm,?_⟩
 try walk_nrm
 have hc0:w.cell? ⟨cb,0,bb⟩=a6 (.slice (a6 ⟨bn,0,bb⟩) 3 3):=cell_of (hC.obj (cb,Nb bn bh sb cap,139) (by simp[CN])) 0;have lcb:cb<w.heap.size:=hC.lt ((C7 _).2 (by simp));refine(ee (H:=Bn) NQ).fnK (f:=56) (by decide) (by decide) (K0:=λb=>hasB (CN bn bo bh cb sb cap cur t) b=bl) (Cp _ _) (λ_ _=>zf _) (zf _) (Dn (l:=[.pointer (a6 ⟨cb,0,bb⟩),Dr ρ]) λv hv=>?_) (λb _ hb=>by cases hb) (λb hb=>by cases hb)
  (λb hb _=>?_) hQ (R:=λv w'=>∃A c xs,v=bk A 3 c/\Ce w' (w.heap.size+1) (bk A 3 c) (CG ρ 3) xs/\w.heap.size<=w'.heap.size/\∀b,b<w.heap.size->w'.heap[b]?=w.heap[b]?) (λτ d=>(oH cb (a6 ⟨bn,0,bb⟩) 3 3 ρ (on w τ d) lcb hc0 (by decide) Ew).mono ?_) ?_
 .simp only[yT,yQ,or_false] at hv;rcases hv with rfl|rfl
  .exact Di.ptr (K:=λb=>hasB (CN bn bo bh cb sb cap cur t) b=bl) ((C7 cb).2 (by simp)) _ _
  .refine Di.agg (l:=[.int .u8 (ρ 0),.int .u8 (ρ 1),.int .u8 (ρ 2),.int .u8 (ρ 3),.int .u8 (ρ 4)]) λv hv=>?_;simp only[yT,yQ,or_false] at hv;rcases hv with rfl|rfl|rfl|rfl|rfl<;>exact B6.int _ _
 .obtain⟨p,hp,rfl⟩:=Gc hb;exact⟨_,hC.obj p hp,.cells (Dn λv hv=>gu hC.flat p hp v hv GC Bn) λi z1 z2=>⟨z1,z2⟩⟩
 .rintro e w9 ⟨A,c,xs,rfl,ho,hg⟩;exact⟨_,rfl,A,c,xs,rfl,ho,hg.size,λb hb=>hg.below.block b hb⟩
 rintro v w2 K' ⟨A,c,xs,rfl,ho,hz,hold⟩ hv _ Er;change C1 a8 BB Q 0 _ w2;rw[bA];simp only[zA,zz,zr,zK]
 try walk_nrm
 refine ag hQ hB (Cp _ _) rfl rfl λK hK q1 q2 q3=>?_;go_simp;refine hK _ w2 ?_ _ ⟨rfl,rfl,rfl⟩;clear hK K q1 q2 q3
 try walk_nrm
 try simp only[ab]
 refine ag hQ hB (Cp _ _) rfl rfl λK hK q1 q2 q3=>?_;go_simp;refine hK _ w2 ?_ _ ⟨rfl,rfl,rfl⟩;clear hK K q1 q2 q3
 try walk_nrm
 try simp only[ab]
 refine aA hQ hB (Cp _ _) ?_;refine ay hQ hB (by kernel_rfl) λτ d=>?_;rw[stepG_ret'];simp only[goes_go];refine⟨(Cp _ _),w2,Bm,?_⟩;refine dN hQ hB (by kernel_rfl) λτ d=>?_;refine goes_leave2 rfl rfl eA rfl ⟨hcs,w2,Bm,?_⟩;exact h A c xs w2 K' ho hz hold hv λb hb=>Er b hb rfl
end Go.Sq
