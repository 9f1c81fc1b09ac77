/- Parts of the proof. -/
import Derived.Test.YtoeoefobdjociaaGreatP14
set_option linter.all false
set_option maxHeartbeats 3200000
set_option maxRecDepth 1000000
open Go.Value renaming slice->Z,int->I,pointer->E
open Option renaming none->Y,some->J
open Go renaming World->U,Value->F,bodyPost_ret->V,Addr->L,results_none->bl,Calls->bo,leaves_cons->bq,TypeId->ck,info_parts->cq
open Go.IntKind renaming i64->X
open Go.World renaming setCell->C,alloc_heap_new->ak,cell?->bb
open Ne renaming symm->O
open Bool renaming false->M,true->bs
open Go.Obj renaming cells->R
open Go.Proofs renaming intOf->G
open Go.Proofs.Tryz renaming results32->H,ntmps48->bk,results47->bw
open Decidable renaming decide->S
open List renaming range->bh
namespace Go.Sq
open Go.Proofs
open Go.RowKit Go.Shelf
attribute [local go_sem] Oper.semAt_some
def EM:EH:=λ_=>0
def cn {c:D9}:∀i,c.has (EM i):=λ_=>Nat.pos_of_ne_zero (by simp)
def fi {c:D9}(a6:c.Ok):∀x∈En c.DV.length,c.has x:=mv _ a6.h4
def iP {c:D9}(a6:c.Ok):(En c.DV.length).length<=16:=by
 rw[dx _ a6.h4];exact AH (BN (by omega) a6.h4) (by decide)
def isSome (c:D9):Bool:=!(Eh c (En c.DV.length) c.DW.length EM 0).isEmpty
def rV {K:Nat->Prop}{cb:Nat}{c:D9}{nA hA:Option L}{nc hc sb sc:Nat}(w:U)(aA:c.Ok)(hK:FZ w K cb c (En c.DV.length) nA hA nc hc sb sc) :
  bo DU 47 #[.pointer (J ⟨cb,0,Y⟩)] w λe w'=>e=.returned (.bool (isSome c))/\Gr w w':=by
 rw[<-callsIn_wide (n:=0)];have HK:=Ay hK;have aC:=hK.lt;have aD:=Ay aC;clear hK aC;refine callsIn_of_wp_marks Sq.func47 rfl trivial ?_ rfl;simp only[Tryz.ntmps47,AP,AM,AS,Nat.reduceAdd,Nat.reduceSub,BO,BP,B1,BT,Cb,BX]
 gi_wp2_with fail
 have a7:=lY cb 0 EM (w.alloc (R #[.bool M] 4));rw[<-callsIn_wide (n:=0)] at a7;refine⟨trivial,rfl,a7.mono ?_⟩;rintro e w1 ⟨rfl,aB⟩;have HS:=Ay (ky (T0:=(·=w.heap.size)) (K:=K) (n:=0) (r:=EM) (HK.out.keep (w':=w.alloc (R #[.bool M] 4)) (by simp) λb o hb=>AW _ _ _ (aD.out b hb)) (λb hb=>by subst hb;simp) (λb hb h=>by have:=aD.out b hb;omega) cn);rw[<-aB] at HS;have HW:=Ay aB
 clear aB a7;have hres:w1.heap[w.heap.size]?=J (R #[.bool M] 4 (0,0)):=by
  rw[HW.out,Cs _ _ _ (by simp;omega),Cs _ _ _ (by simp;omega),Cs _ _ _ (by simp)];exact ak w _
 have aF:=Ay hres;have hz:w1.heap.size=w.heap.size+4:=by rw[HW.out];simp
 have HZ:=Ay hz;have zJ:Gr w w1:=by rw[HW.out];exact((((Gr.refl w).alloc _).alloc _).alloc _).alloc _
 have HG:=Ay zJ;clear hres hz zJ
 gi_wp2_with fail
 refine pz (T0:=(·=w.heap.size)) (K:=K) (cb:=cb) (c:=c) (sets:=En c.DV.length) (nA:=nA) (hA:=hA) (nc:=nc) (hc:=hc) (sb:=sb) (sc:=sc) (bc:=w.heap.size+1) (br:=w.heap.size+1+1) (bn:=w.heap.size+1+2) (k:=c.DW.length) (n:=0) (r:=EM)
  aA (fi aA) (iP aA) rfl (by omega) (λ_ _=>rfl) (by simpa using HS.out) (by rintro b rfl;have:=HZ.out;omega)
  (λpre W=>pre=[]/\W.heap[w.heap.size]?=J (R #[.bool M] 4 (0,0)))
  (λj pre W=>j=.ret/\pre≠[]/\W.heap[w.heap.size]?=J (R #[.bool bs] 4 (0,0)))
  (λpre W W' h hk=>⟨h.1,(hk _ rfl).trans h.2⟩) (λj pre W W' h hk=>⟨h.1,h.2.1,(hk _ rfl).trans h.2.2⟩) ⟨rfl,aF.out⟩
  ?_ ?_ ?_
 .intro l pre ρ W a6 aG;obtain⟨rfl,hb⟩:=aG;obtain⟨h1,h2,h3⟩:=one_cell hb;have HB:=Ay (one_set (u:=.bool bs) hb);clear a6 hb
  gi_wp2
  exact⟨KT.setCell (T:=(·=w.heap.size)) W (p:=⟨w.heap.size,0,Y⟩) rfl _,rfl,by simp,HB.out⟩
 .rintro D W hD a6 ⟨hL,hb⟩ hd;obtain⟨h1,h2,h3⟩:=one_cell hb;have HB:=Ay (one_set (u:=.bool M) hb);have aH:=Ay (a6.gr HG.out (by rintro b (rfl|rfl)<;>omega));have HL:=Ay (show isSome c=M by unfold isSome;rw[hL];rfl);have a8:D≠w.heap.size:=λe=>by subst e;rw[hb] at hd;cases hd
  have HD:=Ay (show(W.setCell ⟨w.heap.size,0,Y⟩ (.bool M)).heap[D]?=J (.deferred (J [])) from(AR _ _ _ _ a8).trans hd);have hz:=HZ.out;clear a6 hb hd hL
  gi_wp2
  refine dX HD.out (v:=.bool M) ?_ ⟨by rw[HL.out],(aH.out.setCell (AA _) _).putObj (by omega) _⟩;have:=(one_cell HB.out).1;rw[<-cC (D:=D) (o:=.deferred Y) (p:=⟨w.heap.size,0,Y⟩) (O a8)] at this;simp[results,bw,go_sem,this]
 .rintro D j q W hD a6 hq ⟨rfl,zU,hb⟩ hd;have a8:D≠w.heap.size:=λe=>by subst e;rw[hb] at hd;cases hd
  refine wpIn_ret ?_;refine dX hd (v:=.bool bs) ?_ ⟨?_,(a6.gr HG.out (by have:=HZ.out;rintro b (rfl|rfl)<;>omega)).putObj (by have:=HZ.out;omega) _⟩
  .have:=(one_cell hb).1;rw[<-cC (D:=D) (o:=.deferred Y) (p:=⟨w.heap.size,0,Y⟩) (O a8)] at this;simp[results,bw,go_sem,this]
  .refine au ?_;unfold isSome;obtain⟨t,ht⟩:=hq;cases hw:Eh c (En c.DV.length) c.DW.length EM 0 with
   |nil=>rw[hw] at ht;exact AI (List.append_eq_nil_iff.1 ht).1 zU
   |cons a l=>rfl
def Ja (l m:List Int):Bool:=S (l.length<m.length)||(S (l.length=m.length)&&S (IK l m<0))
def Jq (w:U)(kb:Nat):Option (List Int)->Prop
 |none=>w.heap[kb]?=J (R #[.int .i32 0,.int .u32 0,.slice Y 0 0,.bool M] 99 (0,0))
 |some l=>∃A c,w.heap[kb]?=J (R #[.int .i32 0,.int .u32 0,Z A l.length c,.bool bs] 99 (0,0))/\l.length<=4611686018427387904/\IH w (λb=>b≠kb/\b<w.heap.size) A l
def Jr:Option (List Int)->List Int->List Int
 |none,x=>x
 |some b,x=>if Ja x b then x else b
def Gi {W:U}{b:Nat}{v0 v1 v2 v3:F}{t:ck}(h:W.heap[b]?=J (R #[v0,v1,v2,v3] t (0,0))) :
  W.cell? ⟨b,0,Y⟩=J v0/\W.cell? ⟨b,1,Y⟩=J v1/\W.cell? ⟨b,2,Y⟩=J v2/\W.cell? ⟨b,3,Y⟩=J v3/\(∀i,W.frozen? ⟨b,i,Y⟩=M)/\b<W.heap.size:=by
 refine⟨?_,?_,?_,?_,λi=>?_,(Az.1 h).1⟩
 .unfold bb;simp only[h];rfl
 .unfold bb;simp only[h];rfl
 .unfold bb;simp only[h];rfl
 .unfold bb;simp only[h];rfl
 .unfold World.frozen?;simp[h]
def aI {W:U}{b i:Nat}{a:Array F}{u:F}{t:ck}{f:Nat×Nat}(h:W.heap[b]?=J (.cells a t f)):(W.setCell ⟨b,i,Y⟩ u).heap[b]?=J (.cells (a.setIfInBounds i u) t f):=by
 unfold C;simp only[BA,if_true,h]
 rfl
def IH.keep' {w w':U}{kb:Nat}{A:Option L}{l:List Int}(h:IH w (λb=>b≠kb/\b<w.heap.size) A l)(hz:w.heap.size<=w'.heap.size)(hk:∀b o,b≠kb->w'.cell? ⟨b,o,Y⟩=w.cell? ⟨b,o,Y⟩):IH w' (λb=>b≠kb/\b<w'.heap.size) A l:=λhn=>by
 obtain⟨b,o,e,hb,hc⟩:=h hn;exact⟨b,o,e,⟨hb.1,AC hb.2 hz⟩,λi x hx=>(hk _ _ hb.1).trans (hc i x hx)⟩
def uh (A A':Option L)(c c':Nat)(l m:List Int)(w:U)(B:Nat)(h:RI w B A l)(h':RI w B A' m)(hl:l.length<=4611686018427387904)(hm:m.length<=4611686018427387904) :
  bo DU 49 #[Z A l.length c,Z A' m.length c'] w λe w'=>e=.returned (.bool (Ja l m))/\w=w':=by
 have HC:=Ay (kQ A A' c c' l m w B h h' hl hm);go_enter Sq.func49,Tryz.ntmps49;by_cases h1:l.length<m.length
 .have HL:=Ay (show Ja l m=bs by simp[Ja,h1]);go_wp2;go_ret;exact⟨au HL.out.symm,rfl⟩
 .by_cases h2:l.length=m.length
  .have HL:=Ay (show Ja l m=S (IK l m<0) by simp[Ja,h2]);rw[h2] at HC ⊢;generalize IK l m=q at HC HL;go_wp2_with (go_at_call 50;refine HC.out.mono ?_;rintro e w' ⟨rfl,rfl⟩);go_ret;exact⟨au HL.out.symm,rfl⟩
  .have HL:=Ay (show Ja l m=M by simp[Ja,h1,h2]);generalize l.length=a at h1 h2 hl ⊢;generalize m.length=b at h1 h2 hm ⊢;go_wp2;go_ret;exact⟨au HL.out.symm,rfl⟩
def wD (kb:Nat)(xA:Option L)(xc:Nat)(x:List Int)(o:Option (List Int))(w:U)(hk:Jq w kb o)(hx:IH w (λb=>b≠kb/\b<w.heap.size) xA x)(hl:x.length<=4611686018427387904) :
  bo DU 48 #[.pointer (J ⟨kb,0,Y⟩),Z xA x.length xc,.func (.func 49) #[] #[]] w λe w'=>e=.returned (.tuple #[])/\KT (·=kb) w w'/\Jq w' kb (J (Jr o x)):=by
 have HX:=Ay hx;cases o with
 |none =>
  obtain⟨h0,h1,h2,h3,hf,zY⟩:=Gi hk;have f0:=hf 0;have f2:=hf 2;have f3:=hf 3;have HK:=Ay hk;go_enter_defers Sq.func48,bk;go_wp2_with (go_at_call 85;refine(Dw ⟨kb,0,Y⟩ _ h0 f0).mono ?_;rintro e w' ⟨rfl,rfl⟩);have HS:=Ay (aI (i:=3) (u:=.bool bs) (aI (i:=2) (u:=Z xA x.length xc) (aI (i:=0) (u:=.int .i32 1) HK.out)));refine bq (f:=86) (args:=#[.pointer (J ⟨kb,0,Y⟩)]) (by simp) (by simp[go_sem]) ?_
  obtain⟨c0,_,_,_,cf,_⟩:=Gi HS.out;refine(Dv ⟨kb,0,Y⟩ .returning _ c0 (cf 0)).mono ?_;rintro e u' w'' ⟨rfl,rfl,rfl⟩;have a6:=aI (i:=0) (u:=.int .i32 0) HS.out;refine⟨.tuple #[],bl rfl _ _ _,rfl,(((KT.setCell (T:=(·=kb)) w (p:=⟨kb,0,Y⟩) rfl _).trans (KT.setCell (T:=(·=kb)) _ (p:=⟨kb,2,Y⟩) rfl _)).trans (KT.setCell (T:=(·=kb)) _ (p:=⟨kb,3,Y⟩) rfl _)).trans (KT.setCell (T:=(·=kb)) _ (p:=⟨kb,0,Y⟩) rfl _),?_⟩
  refine⟨xA,xc,a6,hl,HX.out.keep' (by simp[C]) λb i hb=>?_⟩;rw[AL _ _ _ _ (by simp[O hb]),AL _ _ _ _ (by simp[O hb]),AL _ _ _ _ (by simp[O hb]),AL _ _ _ _ (by simp[O hb])]
 |some b =>
  obtain⟨bA,bc,hk,hbl,hb⟩:=hk;obtain⟨h0,h1,h2,h3,hf,zY⟩:=Gi hk;have f0:=hf 0;have HK:=Ay hk;have HB:=Ay hb;have kp:∀ {A:Option L} {l:List Int},IH w (λb=>b≠kb/\b<w.heap.size) A l->RI (w.setCell ⟨kb,0,Y⟩ (.int .i32 1)) w.heap.size A l:=λh=>IH.ri (K:=λb=>b≠kb/\b<w.heap.size) (h.keep λb o hb=>AL _ _ _ _ (by simp[O hb.1])) λb hb=>hb.2;have HC:=Ay (uh xA bA xc bc x b (w.setCell ⟨kb,0,Y⟩ (.int .i32 1)) w.heap.size (kp HX.out) (kp hb) hl hbl)
  obtain⟨v,hv⟩:∃v,v=Ja x b:=⟨_,rfl⟩;rw[<-hv] at HC;have HV:=Ay hv;clear hv;cases v with
  |true =>
   go_enter_defers Sq.func48,bk;go_wp2_with (first|(go_at_call 85;refine(Dw ⟨kb,0,Y⟩ _ h0 f0).mono ?_;rintro e w' ⟨rfl,rfl⟩)|(go_at_call 49;refine HC.out.mono ?_;rintro e w' ⟨rfl,rfl⟩));have HS:=Ay (aI (i:=3) (u:=.bool bs) (aI (i:=2) (u:=Z xA x.length xc) (aI (i:=0) (u:=.int .i32 1) HK.out)));refine bq (f:=86) (args:=#[.pointer (J ⟨kb,0,Y⟩)]) (by simp) (by simp[go_sem]) ?_
   obtain⟨c0,_,_,_,cf,_⟩:=Gi HS.out;refine(Dv ⟨kb,0,Y⟩ .returning _ c0 (cf 0)).mono ?_;rintro e u' w'' ⟨rfl,rfl,rfl⟩;have a6:=aI (i:=0) (u:=.int .i32 0) HS.out;refine⟨.tuple #[],bl rfl _ _ _,rfl,(((KT.setCell (T:=(·=kb)) w (p:=⟨kb,0,Y⟩) rfl _).trans (KT.setCell (T:=(·=kb)) _ (p:=⟨kb,2,Y⟩) rfl _)).trans (KT.setCell (T:=(·=kb)) _ (p:=⟨kb,3,Y⟩) rfl _)).trans (KT.setCell (T:=(·=kb)) _ (p:=⟨kb,0,Y⟩) rfl _),?_⟩
   have a7:Jr (J b) x=x:=by simp[Jr,<-HV.out]
   rw[a7];refine⟨xA,xc,a6,hl,HX.out.keep' (by simp[C]) λb i hb=>?_⟩;rw[AL _ _ _ _ (by simp[O hb]),AL _ _ _ _ (by simp[O hb]),AL _ _ _ _ (by simp[O hb]),AL _ _ _ _ (by simp[O hb])]
  |false =>
   go_enter_defers Sq.func48,bk;go_wp2_with (first|(go_at_call 85;refine(Dw ⟨kb,0,Y⟩ _ h0 f0).mono ?_;rintro e w' ⟨rfl,rfl⟩)|(go_at_call 49;refine HC.out.mono ?_;rintro e w' ⟨rfl,rfl⟩));have HS:=Ay (aI (i:=0) (u:=.int .i32 1) HK.out);refine bq (f:=86) (args:=#[.pointer (J ⟨kb,0,Y⟩)]) (by simp) (by simp[go_sem]) ?_;obtain⟨c0,_,_,_,cf,_⟩:=Gi HS.out;refine(Dv ⟨kb,0,Y⟩ .returning _ c0 (cf 0)).mono ?_
   rintro e u' w'' ⟨rfl,rfl,rfl⟩;have a6:=aI (i:=0) (u:=.int .i32 0) HS.out;refine⟨.tuple #[],bl rfl _ _ _,rfl,(KT.setCell (T:=(·=kb)) w (p:=⟨kb,0,Y⟩) rfl _).trans (KT.setCell (T:=(·=kb)) _ (p:=⟨kb,0,Y⟩) rfl _),?_⟩;have a7:Jr (J b) x=b:=by simp[Jr,<-HV.out]
   rw[a7];refine⟨bA,bc,a6,hbl,HB.out.keep' (by simp[C]) λb i hb=>?_⟩;rw[AL _ _ _ _ (by simp[O hb]),AL _ _ _ _ (by simp[O hb])]
def ar {w w':U}{base size n:Nat}{e:ck}{v:F}{xs:List F}(h:w.ownsRow base e size v n xs)(hk:∀g,v.ownBlock=J g->g<w.heap.size->w'.heap[g]?=w.heap[g]?):w'.ownsRow base e size v n xs:=by
 have zY:=h.lt;refine⟨h.1,?_⟩;obtain h0|⟨g,cap,cur,rfl,h1,h2,h3⟩:=h.2
 .exact .inl h0
 .exact .inr ⟨g,cap,cur,rfl,h1,(hk g rfl (zY g rfl).2).trans h2,h3⟩
def cj {w:U}{b1 b2 s1 s2 n1 n2:Nat}{e1 e2:ck}{v1 v2:F}{x1 x2:List F}(he:e1≠e2)(h1:w.ownsRow b1 e1 s1 v1 n1 x1)(h2:w.ownsRow b2 e2 s2 v2 n2 x2){g:Nat}(hg:v1.ownBlock=J g):J g≠v2.ownBlock:=by
 obtain⟨rfl,_⟩|⟨g1,c1,u1,rfl,_,a1,_⟩:=h1.2
 .cases hg
 .obtain⟨rfl,_⟩|⟨g2,c2,u2,rfl,_,a2,_⟩:=h2.2
  .intro h;cases h
  .intro h;obtain rfl:g1=g:=by injection hg
   obtain rfl:g1=g2:=by injection h
   rw[a1] at a2;injection a2 with a2
   injection a2 with _ h _
   exact he h
def dz {w:U}{B:Nat}{e:ck}{size n:Nat}{v:F}{xs:List F}(h:w.ownsRow B e size v n xs){b:Nat}(hb:b<B):J b≠v.ownBlock:=λhh=>by
 have:=(h.lt b hh.symm).1;omega
def Fe {w:U}{B B':Nat}{e:ck}{size n:Nat}{v:F}{xs:List F}(h:w.ownsRow B e size v n xs)(hb:B'<=B):w.ownsRow B' e size v n xs:=by
 refine⟨h.1,?_⟩;obtain h0|⟨g,cap,cur,h1,h2,h3⟩:=h.2
 .exact .inl h0
 .exact .inr ⟨g,cap,cur,h1,by omega,h3⟩
structure Ec (w:U)(base:Nat)(v:F)(ls:List (List Int))(xs:List F):Prop where
 row:w.ownsRow base 22 1 v ls.length xs
 cells:∀(i:Nat) (l:List Int),ls[i]?=J l->∃u,xs[i]?=J u/\w.ownsRow base 3 1 u l.length (l.map (I X))
def Ec.nil (w:U)(base:Nat):Ec w base (.slice Y 0 0) [] []:=⟨Bw _ _ _ _,λi l h=>by simp at h⟩
def Ec.keep {w w':U}{base:Nat}{v:F}{ls:List (List Int)}{xs:List F}(h:Ec w base v ls xs)(hk:∀b,b<w.heap.size->w'.heap[b]?=w.heap[b]?):Ec w' base v ls xs :=
 ⟨ar h.row λg _ hl=>hk g hl,λi l hi=>by
  obtain⟨u,h1,h2⟩:=h.cells i l hi
  exact⟨u,h1,ar h2 λg _ hl=>hk g hl⟩⟩
def Ec.keep' {w w':U}{base:Nat}{v:F}{ls:List (List Int)}{xs:List F}(h:Ec w base v ls xs)(hk:∀b,base<=b->b<w.heap.size->w'.heap[b]?=w.heap[b]?):Ec w' base v ls xs :=
 ⟨ar h.row λg hg hl=>hk g (h.row.lt g hg).1 hl,λi l hi=>by
  obtain⟨u,h1,h2⟩:=h.cells i l hi
  exact⟨u,h1,ar h2 λg hg hl=>hk g (h2.lt g hg).1 hl⟩⟩
def Ec.push {w1 w w':U}{base n:Nat}{v v' u:F}{ls:List (List Int)}{xs:List F}{l:List Int}(h:Ec w base v ls xs)(hu:w.ownsRow base 3 1 u l.length (l.map (I X)))
  (h1:∀b,b<w.heap.size->w1.heap[b]?=w.heap[b]?) (hs:w.heap.size<=w1.heap.size) (hg:w1.grownBy w' v.ownBlock) (hn:n=ls.length) (hr:w'.ownsRow base 22 1 v' (n+1) (xs++[u])):Ec w' base v' (ls++[l]) (xs++[u]):=by
 subst hn;have key:∀ {y:F} {m:Nat} {zs:List F},w.ownsRow base 3 1 y m zs->w'.ownsRow base 3 1 y m zs:=λhy=>ar hy λg a6 hl =>
  (hg.block g (AC hl hs) (cj (by decide) hy h.row a6)).trans (h1 g hl)
 have zl:xs.length=ls.length:=by have:=h.row.1;omega
 refine⟨by simpa using hr,λi y hi=>?_⟩;obtain zY|a8:=Br i ls.length
 .rw[Bl zY] at hi;obtain⟨z,hz,hzo⟩:=h.cells i y hi;exact⟨z,by rw[Bl (by omega)];exact hz,key hzo⟩
 .have a7 : i = ls.length := by
   have:=(AV.1 hi).1;simp at this;omega
  subst a7;rw[Bo (AA _)] at hi;simp at hi;subst hi;exact⟨u,by rw[Bo (by omega),zl];simp,key hu⟩
def Ec.J4 {w:U}{base:Nat}{v:F}{ls:List (List Int)}{xs:List F}(h:Ec w base v ls xs):∃A c,v=Z A ls.length c/\ER w w.heap.size A ls:=by
 obtain⟨rfl,h0⟩|⟨g,cap,cur,rfl,h1,h2,h3⟩:=h.row.2
 .have:ls=[]:=Bc h0;subst this;exact⟨Y,0,rfl,.nil⟩
 .refine⟨_,cap,rfl,λ_=>⟨g,0,rfl,(Az.1 h2).1,λi l hi=>?_⟩⟩;obtain⟨u,hu,ho⟩:=h.cells i l hi;obtain⟨A,c,rfl,hr⟩:=Dn ho;refine⟨A,c,?_,hr⟩;have:=h.row.cells (g:=g) rfl i _ hu;have e:(⟨g,0,Y⟩:L).add i=⟨g,0+i,Y⟩:=by unfold Addr.add;split<;>simp_all
  rwa [e] at this
def Du:(DU.info? 22).map (λi=>(i.zero,i.size,i.bytes))=J (J (.slice Y 0 0),1,24):=by
 rw[Do];kernel_rfl
def Ew (r:EH)(k:Nat):List (List Int):=(bh k).map λi=>wl (r i)
def i8 (r:EH)(k:Nat):Ew r (k+1)=Ew r k++[wl (r k)]:=by simp[Ew,CN]
def EE (r:EH)(k:Nat):(Ew r k).length=k:=by simp[Ew]
def oU (cb:Nat)(nA:Option L)(n nc:Nat)(r:EH)(w:U)(hcb:cb<w.heap.size)(zp:w.cell? ⟨cb,0,Y⟩=J (Z nA n nc))(hn:n<=5)(hr:∀i,i<5->r i<16) :
  bo DU 41 #[.pointer (J ⟨cb,0,Y⟩),Fl r] w λe w'=>∃A c xs,e=.returned (Z A n c)/\Ec w' (w.heap.size+1) (Z A n c) (Ew r n) xs/\Gr w w':=by
 obtain⟨i0,hi,zF,zE,zD⟩:=cq Du;have HR:=Ay hr;unfold Fl;go_enter Sq.func41,Tryz.ntmps41;go_wp2;go_loopw [5,13] (λv i wr=>∃k:Nat,k<=n/\i=I X k/\∃xs,Ec wr (w.heap.size+1) v (Ew r k) xs/\(∀j,j<5->wr.cell? ⟨w.heap.size,j,Y⟩=J (.int .u8 (r j)))/\Gr w wr/\w.heap.size+1<=wr.heap.size) (λ_ i _=>n-(G i).toNat)
 case atStart =>
  refine⟨0,by omega,rfl,[],Ec.nil _ _,λj hj=>?_,(Gr.refl w).alloc _,by simp⟩;rw[AE _ _ _ _ rfl]
  match j,hj with
  |0,_=>rfl
  |1,_=>rfl
  |2,_=>rfl
  |3,_=>rfl
  |4,_=>rfl
 case round =>
  obtain⟨k,hk,rfl,xs,aB,aC,zV,zx⟩:=hrel;have HG:=Ay zV;have HO:=Ay aB;have a8:=Ay aC;by_cases zY:k<n
  .have hx:=HR.out k (by omega);have aD:=a8.out k (by omega);have HS:=Ay (i8 r k);have HL:=Ay (gQ (r k) wr hx);generalize zT:r k=x at hx aD HS HL;go_wp2_with fail;refine HL.out.mono ?_;rintro e w1 ⟨u,rfl,hou,zJ⟩;obtain⟨uA,uc,rfl,_⟩:=Dn hou;have HU:=Ay hou;have a6:=Ay zJ;have hs1:=zJ.size;have a7:Ec w1 (w.heap.size+1) _ (Ew r k) xs:=HO.out.keep λb hb=>a6.out.below.block b hb;have aF:=Ay a7
   have hrow:=a7.row;have zl:=EE r k;rw[zl] at hrow;go_wp2_with (at_builtin;refine EA rfl _ _ 26 rfl (w.heap.size+1) 22 i0 (.slice Y 0 0) 1 24 Sq.underlying26 hi zF zE zD rfl (by decide) _ _ _ rfl (hrow.alloc _) ⟨w1.heap.size,0,Y⟩ 1 1 [Z uA (wl x).length uc] rfl rfl ?c1 ?c2 ?c3 ?c4 ?c5 ?_)
   case c1 =>
    intro j u hj
    match j,hj with
    |0,hj=>simp at hj;subst hj;simp[Addr.add]
   case c2 =>
    intro u' hu;simp at hu;subst hu;rfl
   case c3=>unfold maxLen;omega
   case c4=>omega
   case c5=>simp;omega
   intro v' w2 hown' hgrow hd;have aG:=Ay (((HG.out.trans a6.out).alloc (R #[Z uA (wl x).length uc] 22)).grown hgrow hd λj hj=>by have:=(hrow.lt j hj).1;omega);have hz2':w1.heap.size+1<=w2.heap.size:=by have:=hgrow.size;simpa using this
   have aH:Hid (Ec w2 (w.heap.size+1) v' (Ew r (k+1)) (xs++[Z uA (wl x).length uc])):=Ay (by
    rw[HS.out]
    refine Ec.push (aF.out) (Fe HU.out (by omega)) (λb hb=>heap_alloc_old w1 _ hb) (by simp) hgrow (EE r k).symm hown')
   have aA:Hid (∀j,j<5->w2.cell? ⟨w.heap.size,j,Y⟩=J (.int .u8 (r j))):=Ay λj hj =>
    hgrow.cell ((AW _ _ _ (by show w.heap.size<w1.heap.size;omega)).trans ((a6.out.cell (by show w.heap.size<wr.heap.size;omega)).trans (a8.out j hj))) (dz hrow (by show w.heap.size<_;omega))
   have hz3:w.heap.size+1<=w2.heap.size:=by omega
   go_wp2;go_roundw
   case rel=>exact⟨k+1,by omega,by go_num,_,aH.out,aA.out,aG.out,by omega⟩
   case measure=>simp[Proofs.intOf];omega
  .have aI:k=n:=by omega
   subst aI;obtain⟨A,c,rfl,_⟩:=HO.out.J4;have hl:=EE r k;rw[hl] at HO ⊢;go_wp2;go_ret;exact⟨_,_,_,rfl,HO.out,HG.out⟩
def Jh (l:List Int)(i k:Nat):List Int:=(bh l.length).map λj=>if j<k/\i.testBit j=bs then l[j]?.getD 0 else 0
def ay (i k:Nat):List Int:=((bh k).filter i.testBit).map λn:Nat=>(n:Int)
def Ff (c:D9)(i:Nat):D9:={ c with DW:=Jh c.DW i c.DW.length }
def Fg (c:D9):Nat->Option (List Int)
 |0=>Y
 |i+1=>if Go.Sq.isSome (Ff c i) then Fg c i else J (Jr (Fg c i) (ay i c.DW.length))
def cS (l:List Int)(i k:Nat):(Jh l i k).length=l.length:=by simp[Jh]
def cH (l:List Int)(i k j:Nat)(hj:j<l.length):(Jh l i k)[j]?=J (if j<k/\i.testBit j=bs then l[j]?.getD 0 else 0):=by simp[Jh,hj]
def oV {c:D9}(h:c.Ok)(i:Nat):(Ff c i).Ok:=by
 have hl:(Ff c i).DW.length=c.DW.length:=cS _ _ _;refine⟨by rw[hl];exact h.n1,by rw[hl];exact h.n5,λx hx=>?_,h.h1,h.h4,h.heads,h.E3,h.most,by rw[hl];exact h.off⟩;obtain⟨j,hj,rfl⟩:=List.getElem_of_mem hx;have hj':j<c.DW.length:=by rw[hl] at hj;exact hj
 have:=cH c.DW i c.DW.length j hj';have e:(Ff c i).DW[j]=if j<c.DW.length/\i.testBit j=bs then c.DW[j]?.getD 0 else 0:=by
  rw[AB (by rw[cS];exact hj')] at this;exact Option.some.inj this
 rw[e];split
 .exact h.need _ (Ge c.DW j hj')
 .omega
def mz (i k:Nat):ay i (k+1)=ay i k++if i.testBit k then[(k:Int)] else[]:=by
 unfold ay;rw[CN,CI,CQ];cases h:i.testBit k<;>simp[h]
def gz (i k:Nat):(ay i k).length<=k:=by
 unfold ay;rw[Bq];exact AH (CM _ _) (by simp)
def Jq.gr {w w':U}{kb:Nat}{o:Option (List Int)}(h:Jq w kb o)(hg:Gr w w'):Jq w' kb o:=by
 cases o with
 |none=>exact(hg.below.block kb (Az.1 h).1).trans h
 |some l =>
  obtain⟨A,c,h1,h2,h3⟩:=h;refine⟨A,c,(hg.below.block kb (Az.1 h1).1).trans h1,h2,λhn=>?_⟩;obtain⟨b,o,e,hb,hc⟩:=h3 hn;exact⟨b,o,e,⟨hb.1,AC hb.2 hg.size⟩,λi x hx=>(hg.cell (p:=⟨b,o+i,Y⟩) hb.2).trans (hc i x hx)⟩
def iQ {w:U}{ops:Array Oper}{rest:List Oper}{o:Oper}{a:Act}{Q:Exit->Act->U->Prop}(hgd:o.guard=Y)(s x:Operand)(ho:o.op=.call { callee:=.builtin .append,args:=#[s,x],argTypes:=#[22,22] })
  (base:Nat) (v:F) (n:Nat) (xs:List F) (hs:a.eval s=v) (zm:w.ownsRow base 3 1 v n xs) (ad:L) (c:Nat) (u:F) (hx:a.eval x=.slice (J ad) 1 c) (hc:w.cell? ad=J u) (h1:u.oneCell'=bs)
  (hn:n<=1048576) (hbase:base<=w.heap.size) (h:∀v' w',w'.ownsRow base 3 1 v' (n+1) (xs++[u])->w.grownBy w' v.ownBlock->w.drawn<=w'.drawn->wpList DU ops Q rest (a.put o.dst v') w'):wpList DU ops Q (o::rest) a w:=by
 obtain⟨i0,hi,zF,zE,zD⟩:=cq Ds;refine EA hgd s x 22 ho base 3 i0 (I X 0) 1 8 Sq.underlying22 hi zF zE zD rfl (by decide) v n xs hs zm ad 1 c [u] hx rfl (λj u' hj=>?_) (λu' hu=>?_) (by unfold maxLen;omega) (by omega) hbase h
 .match j,hj with
  |0,hj =>
   simp at hj;subst hj;have:ad.add 0=ad:=by unfold Addr.add;split<;>simp_all
   rw[this];exact hc
 .simp at hu;subst hu;exact h1
def wE:∀k:Fin 32,∀j:Fin 5,(bits BinOp.and X ((k.val:Int) / 2 ^ j.val) 1==1)=k.val.testBit j.val:=by decide +kernel
def mB {l:List Int}{i k m:Nat}(hm:m<l.length)(zU:m≠k):(Jh l i (k+1))[m]?.getD 0=(Jh l i k)[m]?.getD 0:=by
 rw[cH _ _ _ _ hm,cH _ _ _ _ hm];have:(m<k+1↔m<k):=by omega
 simp[this]
def mC {l:List Int}{i k:Nat}(hm:k<l.length):(Jh l i (k+1))[k]?.getD 0=if i.testBit k=bs then l[k]?.getD 0 else 0:=by
 rw[cH _ _ _ _ hm];simp
def ui {l:List Int}{i k:Nat}(hm:k<l.length):(Jh l i k)[k]?.getD 0=0:=by
 rw[cH _ _ _ _ hm];simp
def jV (n:Nat):Array Value:=madeCells (I X 0).cells (n*1)
def iy (n:Nat)(w:U)(hn:n<=1048576):(Instr.makeSlice 22 (I X (n:Int)) (I X (n:Int))).run DU w=.ok (.slice (J ⟨w.heap.size,0,Y⟩) n n) (w.alloc (.cells (jV n) 3)):=by
 obtain⟨i0,hi,zF,zE,zD⟩:=cq Ds;have:=run_makeSlice (P:=DU) w 22 3 i0 (I X 0) Sq.underlying22 hi zF X X (n:Int) (n:Int) (by omega) (by omega) (by rw[zE];simp;omega) (by rw[zD];omega) (by omega);rw[zE] at this;simpa [jV] using this
def ep (n j:Nat)(hj:j<n):(jV n)[j]?=J (I X 0):=by
 simp[jV,madeCells,Value.cells,hj,Nat.mod_one]
def eN (c:D9)(w:U)(e:Ending)(w':U):Prop :=
 Gr w w'/\if Eg c≠0 then e=.returned (.tuple #[.slice Y 0 0,I X (Eg c)]) else if isSome c then e=.returned (.tuple #[.slice Y 0 0,I X 11])
  else ∃A k,e=.returned (.tuple #[Z A ((Fg c (2 ^ c.DW.length)).getD []).length k,I X 0])/\RI w' w'.heap.size A ((Fg c (2 ^ c.DW.length)).getD [])
def oW (nA hA:Option L)(nc hc:Nat)(c:D9)(w:U)(B:Nat)(hB:B<=w.heap.size)(hn:RI w B nA c.DW)(hh:EN w B hA c.DV)
  (bJ:c.DW.length<=4611686018427387904) (zC:c.DV.length<=4611686018427387904) (b8:∀h∈c.DV,h.off.length<=4611686018427387904) :
  bo DU 15 #[Ef nA hA c nc hc] w (eN c w):=by
 unfold Ef;obtain⟨W0,zM⟩:∃W0:U,W0=w.alloc (R #[Z nA c.DW.length nc,Z hA c.DV.length hc] 25):=⟨_,rfl⟩;have zL:Gr w W0:=zM▸(Gr.refl w).alloc _;have zF:W0.heap.size=w.heap.size+1:=by rw[zM];simp
 have HW:=Ay zM;have aD:=Ay (kK nA hA nc hc c W0 B (by omega) (hn.gr hB zL) (hh.keep λb o hb=>zL.cell (AC hb hB)) bJ zC b8);have aS:=Ay zL;have hcm:W0.cell? ⟨w.heap.size,0,Y⟩=J (Z nA c.DW.length nc)/\W0.cell? ⟨w.heap.size,1,Y⟩=J (Z hA c.DV.length hc):=by
  rw[zM];constructor
  all_goals rw[AE _ _ _ _ rfl];rfl
 have b9:=Ay hcm;have HN:=Ay hn;have HH:=Ay hh;clear zM zL hn hh b8 hcm;go_enter Sq.func15,Tryz.ntmps15;unfold Ef at aD;go_wp2_with fail;rw[<-HW.out];refine aD.out.mono ?_;rintro e w1 ⟨zJ,aF⟩;have aA:=Ay zJ;by_cases hE:Eg c=0
 .rw[AF hE] at aF;obtain⟨cb,g,cap,rfl,hcb,bY,hK,_⟩:=aF;have HK:=Ay hK;have HE:=Ay hE;have aP:=Ay (D9.Ok.of hE);have aG:=Ay (rV w1 aP.out hK);clear zJ hK aD hE;obtain⟨v,hv⟩:∃v,v=isSome c:=⟨_,rfl⟩;rw[<-hv] at aG;have HV:=Ay hv;clear hv;cases v with
  |true =>
   go_wp2_with (go_at_call 47;refine aG.out.mono ?_;rintro e w2 ⟨rfl,zI⟩;have aQ:=Ay zI;clear zI);go_ret2;refine⟨aS.out.trans (aA.out.trans aQ.out),?_⟩;rw[AD (by simp[HE.out]),AF HV.out.symm]
   rfl
  |false =>
   go_wp2_with fail;refine aG.out.mono ?_;rintro e w2 ⟨rfl,zI⟩;have aQ:=Ay (aS.out.trans (aA.out.trans zI));have zp:w2.cell? ⟨w.heap.size,0,Y⟩=J (Z nA c.DW.length nc):=((aA.out.trans zI).cell (by show w.heap.size<_;omega)).trans b9.out.1;have zw:w2.cell? ⟨w.heap.size,1,Y⟩=J (Z hA c.DV.length hc):=((aA.out.trans zI).cell (by show w.heap.size<_;omega)).trans b9.out.2
   have zD:w.heap.size<w2.heap.size:=by have:=zI.size;have:=aA.out.size;omega
   have bZ:=aP.out.n5;have bH:((2:Int) ^ c.DW.length)=((2 ^ c.DW.length:Nat):Int)/\2 ^ c.DW.length<=32:=by
    have:c.DW.length=0\/c.DW.length=1\/c.DW.length=2\/c.DW.length=3\/c.DW.length=4\/c.DW.length=5:=by omega
    rcases this with e|e|e|e|e|e<;>rw[e]<;>decide
   obtain⟨Iq,bK⟩:=bH;have hw:∀N:Nat,N<=32->IntKind.i64.wrap (N:Int)=N:=λN h=>by simp[IntKind.wrap,IntKind.bits,IntKind.signed];omega
   obtain⟨N,hN⟩:∃N,N=2 ^ c.DW.length:=⟨_,rfl⟩;rw[<-hN] at Iq bK;have bB:wrap64 ((2:Int) ^ c.DW.length)=(N:Int):=by
    rw[Iq];unfold wrap64;omega
   have c0:=λw=>iy c.DW.length w (by omega);have HNN:=Ay hN;clear Iq hw hN;have bC:Jq (w2.alloc (R #[.int .i32 0,.int .u32 0,.slice Y 0 0,.bool M] 99)) w2.heap.size (Fg c 0):=ak w2 _;have bL:=Ay bC;clear bC;go_wp2;rw[bB];clear bB;have c4:=aQ.out.size;go_loopw [26] (λi wr=>∃k:Nat,k<=N/\i=I X k/\Jq wr w2.heap.size (Fg c k)/\Gr w wr/\wr.cell? ⟨w.heap.size,0,Y⟩=J (Z nA c.DW.length nc)/\wr.cell? ⟨w.heap.size,1,Y⟩=J (Z hA c.DV.length hc)/\w2.heap.size<wr.heap.size) (λi _=>N-(G i).toNat)
   case atStart =>
    exact⟨0,by omega,rfl,bL.out,aQ.out.alloc _,(AW _ _ _ zD).trans zp,(AW _ _ _ zD).trans zw,by simp⟩
   case round =>
    obtain⟨wq,rfl⟩:∃wq,wq=wr:=⟨_,rfl⟩;obtain⟨k,hk,rfl,bD,zV,zp,zw,c5⟩:=hrel;have aK:=Ay bD;have a8:=Ay zV;clear bD zV;have aH:w.heap.size<wq.heap.size:=by omega
    by_cases zY:k<N
    .go_wp2
     go_loopw [9,38] (λv i wr=>∃j:Nat,j<=c.DW.length/\i=I X j/\wr.ownsRow (wq.heap.size+2) 3 1 v (ay k j).length ((ay k j).map (I X)) /\
      (∀m,m<c.DW.length->wr.cell? ⟨wq.heap.size+1,m,Y⟩=J (I X ((Jh c.DW k j)[m]?.getD 0))/\wr.frozen? ⟨wq.heap.size+1,m,Y⟩=M) /\
      wr.cell? ⟨wq.heap.size,0,Y⟩=J (.slice (J ⟨wq.heap.size+1,0,Y⟩) c.DW.length c.DW.length)/\wr.cell? ⟨wq.heap.size,1,Y⟩=J (Z hA c.DV.length hc)/\Gr wq wr/\wq.heap.size+2<=wr.heap.size) (λ_ i _=>c.DW.length-(G i).toNat)
     case atStart =>
      refine⟨0,by omega,rfl,Bw _ _ _ _,λm hm=>⟨?_,?_⟩,?_,?_,((Gr.refl wq).alloc _).alloc _,by simp⟩
      .rw[AE _ _ _ _ (by simp),ep _ _ hm,cH _ _ _ _ hm];simp
      .rw[By _ _ _ _ (by simp)]
      .rw[AW _ _ _ (by simp),AE _ _ _ _ rfl];rfl
      .rw[AW _ _ _ (by simp),AE _ _ _ _ rfl];rfl
     case round =>
      obtain⟨j,hj,rfl,zm,zW,hx0,hx1,bE,bM⟩:=hrel;have a7:=Ay bE;have aB:=Ay zW;clear bE zW;have hlt3:w.heap.size<wr.heap.size:=by omega
      have hc0i:wr.cell? ⟨w.heap.size,0,Y⟩=J (Z nA c.DW.length nc):=(a7.out.cell (by show w.heap.size<_;omega)).trans zp;by_cases aT:j<c.DW.length
      .obtain⟨nb,no,rfl,cA,bN⟩:=(HN.out.gr hB (a8.out.trans a7.out)).at_ aT;have HS:=Ay (mz k j);have zX:=gz k j;obtain⟨aR,bF⟩:=aB.out j aT;have aI:Hid ((bits BinOp.and X ((k:Int) / 2 ^ j) 1==1)=k.testBit j):=Ay (wE ⟨k,by omega⟩ ⟨j,by omega⟩);obtain⟨x,hx⟩:∃x,x=c.DW[j]?.getD 0:=⟨_,rfl⟩;rw[<-hx] at bN;have HX:=Ay hx;clear hx;cases hb:k.testBit j with
       |true =>
        rw[hb] at HS aI;have aU:=aI.out;have HB:=Ay hb;clear hb;have bO:=zm.lt;go_wp2_with (at_builtin;refine iQ rfl _ _ rfl (wq.heap.size+2) _ _ _ rfl ((ownsRow_setCell_below zm (by show wq.heap.size+1<_;omega) _).alloc _) ⟨wr.heap.size,0,Y⟩ 1 (I X j) rfl ?c1 rfl ?c2 ?c3 ?_)
        case c2=>omega
        case c3=>(try simp);omega
        intro v' w3 hown' hgrow hd;have hG3:Gr wq w3:=((a7.out.setCell (p:=⟨wq.heap.size+1,j,Y⟩) (by show _<=wq.heap.size+1;omega) _).alloc _).grown hgrow hd λq hq=>by have:=(bO q hq).1;omega
        have aJ:∀b o,b<wq.heap.size+2->w3.cell? ⟨b,o,Y⟩=(wr.setCell ⟨wq.heap.size+1,j,Y⟩ (I X x)).cell? ⟨b,o,Y⟩/\w3.frozen? ⟨b,o,Y⟩=(wr.setCell ⟨wq.heap.size+1,j,Y⟩ (I X x)).frozen? ⟨b,o,Y⟩:=λb o hb=>by
         have zU:J b≠_:=dz zm (show b<wq.heap.size+2 from hb);have bP:=hgrow.block b (by simp[C];omega) zU;have aV:=bP.trans (ae _ _ (by simp[C];omega));exact⟨AT aV,CE aV⟩
        have aN:Hid (∀m,m<c.DW.length->w3.cell? ⟨wq.heap.size+1,m,Y⟩=J (I X ((Jh c.DW k (j+1))[m]?.getD 0))/\w3.frozen? ⟨wq.heap.size+1,m,Y⟩=M):=Ay λm hm=>by
         obtain⟨e1,e2⟩:=aJ (wq.heap.size+1) m (by omega);refine⟨e1.trans ?_,e2.trans ((BI _ _ _ _).trans (aB.out m hm).2)⟩;by_cases aC:m=j
         .subst aC;rw[AQ _ _ _ aR,mC hm,AF HB.out,HX.out]
         .rw[AL _ _ _ _ (by simp[aC]),(aB.out m hm).1,mB hm aC]
        have H0:Hid (w3.cell? ⟨wq.heap.size,0,Y⟩=J (.slice (J ⟨wq.heap.size+1,0,Y⟩) c.DW.length c.DW.length)/\w3.cell? ⟨wq.heap.size,1,Y⟩=J (Z hA c.DV.length hc)):=Ay
         ⟨(aJ _ _ (by omega)).1.trans ((AL _ _ _ _ (by simp)).trans hx0),(aJ _ _ (by omega)).1.trans ((AL _ _ _ _ (by simp)).trans hx1)⟩
        have aW:Hid (w3.ownsRow (wq.heap.size+2) 3 1 v' (ay k (j+1)).length ((ay k (j+1)).map (I X))):=Ay (by rw[HS.out];simpa using hown');have aL:=Ay hG3;have hz3:wq.heap.size+2<=w3.heap.size:=by have:=hgrow.size;simp[C] at this;omega
        clear hown' hgrow hd hG3 aJ aR bF zm hx0 hx1 aU;go_wp2;go_roundw
        case rel=>exact⟨j+1,by omega,by go_num,aW.out,aN.out,H0.out.1,H0.out.2,aL.out,hz3⟩
        case measure=>simp[Proofs.intOf];omega
       |false =>
        rw[hb] at HS aI;have aU:=aI.out;have HB:=Ay hb;clear hb;have aN:Hid (∀m,m<c.DW.length->wr.cell? ⟨wq.heap.size+1,m,Y⟩=J (I X ((Jh c.DW k (j+1))[m]?.getD 0))/\wr.frozen? ⟨wq.heap.size+1,m,Y⟩=M):=Ay λm hm=>by
         refine⟨?_,(aB.out m hm).2⟩;by_cases aC:m=j
         .subst aC;rw[aR,mC hm,ui hm,AD (by rw[HB.out];simp)]
         .rw[(aB.out m hm).1,mB hm aC]
        have aW:Hid (wr.ownsRow (wq.heap.size+2) 3 1 _ (ay k (j+1)).length ((ay k (j+1)).map (I X))):=Ay (by rw[HS.out];simpa using zm);have bQ:=Ay hx0;have bR:=Ay hx1;clear zm aR bF hx0 hx1;go_wp2;go_roundw
        case rel=>exact⟨j+1,by omega,by go_num,aW.out,aN.out,bQ.out,bR.out,a7.out,bM⟩
        case measure=>simp[Proofs.intOf];omega
      .have aX:j=c.DW.length:=by omega
       clear aT hj;have zl:(Ff c k).DW.length=c.DW.length:=cS _ _ _
       have bG:RI wr wr.heap.size (J ⟨wq.heap.size+1,0,Y⟩) (Ff c k).DW:=λ_=>⟨_,0,rfl,by omega,λm y hm=>by
        have bS:m<c.DW.length:=by rw[<-zl];exact(AV.1 hm).1
        rw[AO,(aB.out m bS).1,aX];have:(Ff c k).DW=Jh c.DW k c.DW.length:=rfl
        rw[<-this,hm];rfl⟩
       have HST : Hid (bo DU 38 #[.agg #[.slice (J ⟨wq.heap.size + 1, 0, Y⟩) c.DW.length c.DW.length, Z hA c.DV.length hc]] wr fun e w' => e = .returned (.pointer (J ⟨wr.heap.size + 1, 0, Y⟩)) ∧ Gr wr w' ∧ ∃ g cap, wr.heap.size + 2 <= g ∧
         FZ w' (Oe wr.heap.size (wr.heap.size+1) g) (wr.heap.size+1) (Ff c k) (En c.DV.length) (J ⟨wq.heap.size+1,0,Y⟩) hA c.DW.length hc g cap):=Ay (by
        have:=jU (J ⟨wq.heap.size+1,0,Y⟩) hA c.DW.length hc (Ff c k) wr wr.heap.size (AA _) bG (((HH.out.keep λb o hb=>(a8.out.trans a7.out).cell (AC hb hB))).more (by have:=(a8.out.trans a7.out).size;omega)) aP.out.h4;unfold Ef at this;rw[zl] at this
        exact this.mono λe w' ⟨h1,h2,g,cap,h3,h4,_⟩=>⟨h1,h2,g,cap,h3,h4⟩)
       have hown2:=zm;rw[aX] at hown2;have hrow:∃A c',u9=Z A (ay k c.DW.length).length c'/\IH wr (λb=>b≠w2.heap.size/\b<wr.heap.size) A (ay k c.DW.length):=by
        obtain⟨A,c',e,h⟩:=Dn hown2;refine⟨A,c',e,λzU=>?_⟩;obtain⟨b,o,e2,hb,zt⟩:=h zU;refine⟨b,o,e2,⟨?_,hb⟩,zt⟩;have:=(hown2.lt b (by rw[e,e2];rfl)).1;omega
       obtain⟨A,c',rfl,aY⟩:=hrow;have bI:=Ay aY;clear bG hown2 zm aY;go_wp2_with fail;refine HST.out.mono ?_;rintro e w3 ⟨rfl,zH,g3,cap3,hg3l,hK3⟩;have aL:=Ay zH;have aZ:=Ay (rV (c:=Ff c k) w3 (oV aP.out k) hK3);clear zH hK3 HST;obtain⟨v,hv⟩:∃v,v=isSome (Ff c k):=⟨_,rfl⟩;rw[<-hv] at aZ;have HV:=Ay hv;clear hv;cases v with
       |true =>
        go_wp2_with fail;refine aZ.out.mono ?_;rintro e w4 ⟨rfl,hg4⟩;have a6:=Ay (a7.out.trans (aL.out.trans hg4))
        have bT:Hid (Jq w4 w2.heap.size (Fg c (k+1))):=Ay (by
         have:Fg c (k+1)=Fg c k:=by show(if _ then _ else _)=_;rw[AF HV.out.symm]
         rw[this];exact aK.out.gr a6.out)
        clear hg4;go_wp2;go_roundw
        case rel=>exact⟨k+1,by omega,by go_num,bT.out,a8.out.trans a6.out,(a6.out.cell aH).trans zp,(a6.out.cell aH).trans zw,by have:=a6.out.size;omega⟩
        case measure=>simp[Proofs.intOf];omega
       |false =>
        go_wp2_with fail;refine aZ.out.mono ?_;rintro e w4 ⟨rfl,hg4⟩;have a6:=Ay (a7.out.trans (aL.out.trans hg4));have aO:=aL.out.trans hg4
        have b5:=Ay (wD w2.heap.size A c' (ay k c.DW.length) (Fg c k) w4 (aK.out.gr a6.out) (λzU=>by
         obtain⟨b,o,e2,hb,zt⟩:=bI.out zU
         exact⟨b,o,e2,⟨hb.1,AC hb.2 aO.size⟩,λi y hy=>(aO.cell (p:=⟨b,o+i,Y⟩) hb.2).trans (zt i y hy)⟩) (by have:=gz k c.DW.length;omega))
        clear hg4 aO;go_wp2_with fail;refine b5.out.mono ?_;rintro e w5 ⟨rfl,aM,b6⟩
        have bU:Hid (Jq w5 w2.heap.size (Fg c (k+1))):=Ay (by
         have:Fg c (k+1)=J (Jr (Fg c k) (ay k c.DW.length)):=by show(if _ then _ else _)=_;rw[AD (by rw[<-HV.out];simp)]
         rw[this];exact b6)
        have bV:=Ay (KT.gr (a8.out.trans a6.out) aM (by rintro b rfl;omega));have cB:=a6.out.size;have KC:w5.cell? ⟨w.heap.size,0,Y⟩=J (Z nA c.DW.length nc):=(aM.cell (p:=⟨w.heap.size,0,Y⟩) (by show w.heap.size<_;omega) (by show w.heap.size≠_;omega)).trans ((a6.out.cell aH).trans zp);have bW:w5.cell? ⟨w.heap.size,1,Y⟩=J (Z hA c.DV.length hc):=(aM.cell (p:=⟨w.heap.size,1,Y⟩) (by show w.heap.size<_;omega) (by show w.heap.size≠_;omega)).trans ((a6.out.cell aH).trans zw)
        have cC:=aM.size;clear aM b6 b5;go_wp2;go_roundw
        case rel=>exact⟨k+1,by omega,by go_num,bU.out,bV.out,KC,bW,by omega⟩
        case measure=>simp[Proofs.intOf];omega
    .have bX:k=N:=by omega
     subst bX;have b7:Hid (Fg c (2 ^ c.DW.length)=Fg c k):=Ay (by rw[<-HNN.out]);obtain⟨o,ho⟩:∃o,o=Fg c k:=⟨_,rfl⟩;rw[<-ho] at aK b7;clear ho zY;cases o with
     |none =>
      obtain⟨d0,d1,d2,d3,df,dl⟩:=Gi aK.out;go_wp2;go_ret2;refine⟨a8.out,?_⟩;rw[AD (by simp[HE.out]),AD (by rw[<-HV.out];simp),b7.out];exact⟨Y,0,rfl,.nil⟩
     |some b =>
      obtain⟨bA,bc,hkb,hbl,zT⟩:=aK.out;obtain⟨d0,d1,d2,d3,df,dl⟩:=Gi hkb;have HRK:=Ay zT;clear hkb zT;go_wp2;go_ret2;refine⟨a8.out,?_⟩;rw[AD (by simp[HE.out]),AD (by rw[<-HV.out];simp),b7.out];exact⟨bA,bc,rfl,IH.ri HRK.out λb hb=>hb.2⟩
 .rw[AD hE] at aF;subst aF;have HE:=Ay hE;obtain⟨k,hk⟩:∃k,k=Eg c:=⟨_,rfl⟩;rw[<-hk] at hE ⊢;have HK:=Ay hk;clear hk zJ aD;go_wp2;go_ret2;refine⟨aS.out.trans aA.out,?_⟩;rw[AF HE.out];show Ending.returned (.tuple #[.slice Y 0 0,I X k])=_;rw[HK.out]
def Ek (c:D9)(ls:List (List Int)):Int :=
 if Eg c≠0 then Eg c else if Ez ls.length c.DW.length c.DW.length≠0 then Ez ls.length c.DW.length c.DW.length else bF (ls.map λl=>Fi l c.DV.length)
def D4 (ls:List (List Int)):EH:=λi=>GF (ls[i]?.getD [])
def JP {w:U}{b:Nat}{r:EH}(h:∀i,i<5->w.cell? ⟨b,i,Y⟩=J (.int .u8 (r i))) :
  w.cell? ⟨b,0,Y⟩=J (.int .u8 (r 0))/\w.cell? ⟨b,1,Y⟩=J (.int .u8 (r 1))/\w.cell? ⟨b,2,Y⟩=J (.int .u8 (r 2))/\w.cell? ⟨b,3,Y⟩=J (.int .u8 (r 3))/\w.cell? ⟨b,4,Y⟩=J (.int .u8 (r 4)) :=
 ⟨h 0 (by omega),h 1 (by omega),h 2 (by omega),h 3 (by omega),h 4 (by omega)⟩
def Hp (w:U)(b:Nat)(v0 v1 v2 v3 v4:F):World:=((((w.setCell ⟨b,0,Y⟩ v0).setCell ⟨b,1,Y⟩ v1).setCell ⟨b,2,Y⟩ v2).setCell ⟨b,3,Y⟩ v3).setCell ⟨b,4,Y⟩ v4
def eE {w:U}{b:Nat}{r:EH}(h:∀i,i<5->w.cell? ⟨b,i,Y⟩=J (.int .u8 (r i)))(v0 v1 v2 v3 v4:F) :
  (Hp w b v0 v1 v2 v3 v4).cell? ⟨b,0,Y⟩=J v0/\(Hp w b v0 v1 v2 v3 v4).cell? ⟨b,1,Y⟩=J v1/\(Hp w b v0 v1 v2 v3 v4).cell? ⟨b,2,Y⟩=J v2/\(Hp w b v0 v1 v2 v3 v4).cell? ⟨b,3,Y⟩=J v3/\(Hp w b v0 v1 v2 v3 v4).cell? ⟨b,4,Y⟩=J v4:=by
 have ne:∀(W:U) (i j:Nat) (v:F),i≠j->(W.setCell ⟨b,i,Y⟩ v).cell? ⟨b,j,Y⟩=W.cell? ⟨b,j,Y⟩:=λW i j v a6=>AL _ _ _ _ (by simp[O a6]);obtain⟨h0,h1,h2,h3,h4⟩:=JP h;unfold Hp;refine⟨?_,?_,?_,?_,?_⟩
 .rw[ne _ _ _ _ (by decide),ne _ _ _ _ (by decide),ne _ _ _ _ (by decide),ne _ _ _ _ (by decide)];exact AQ _ _ _ h0
 .rw[ne _ _ _ _ (by decide),ne _ _ _ _ (by decide),ne _ _ _ _ (by decide)];exact AQ _ _ _ (by rw[ne _ _ _ _ (by decide)];exact h1)
 .rw[ne _ _ _ _ (by decide),ne _ _ _ _ (by decide)];exact AQ _ _ _ (by rw[ne _ _ _ _ (by decide),ne _ _ _ _ (by decide)];exact h2)
 .rw[ne _ _ _ _ (by decide)];exact AQ _ _ _ (by rw[ne _ _ _ _ (by decide),ne _ _ _ _ (by decide),ne _ _ _ _ (by decide)];exact h3)
 .exact AQ _ _ _ (by rw[ne _ _ _ _ (by decide),ne _ _ _ _ (by decide),ne _ _ _ _ (by decide),ne _ _ _ _ (by decide)];exact h4)
def jW (w:U)(b:Nat)(v0 v1 v2 v3 v4:F){k:Nat}(hk:k≠b):(Hp w b v0 v1 v2 v3 v4).heap[k]?=w.heap[k]?:=by
 unfold Hp;rw[AR _ _ _ _ (by exact hk),AR _ _ _ _ (by exact hk),AR _ _ _ _ (by exact hk),AR _ _ _ _ (by exact hk),AR _ _ _ _ (by exact hk)]
def fY {w0 w:U}{b:Nat}(h:Gr w0 w)(hb:w0.heap.size<=b)(v0 v1 v2 v3 v4:F):Gr w0 (Hp w b v0 v1 v2 v3 v4):=((((h.setCell (p:=⟨b,0,Y⟩) hb v0).setCell (p:=⟨b,1,Y⟩) hb v1).setCell (p:=⟨b,2,Y⟩) hb v2).setCell (p:=⟨b,3,Y⟩) hb v3).setCell (p:=⟨b,4,Y⟩) hb v4
def lg (w:U)(b:Nat)(v0 v1 v2 v3 v4:F):(Hp w b v0 v1 v2 v3 v4).heap.size=w.heap.size:=by simp[Hp,C]
def yh (nA hA:Option L)(nc hc:Nat)(c:D9)(ls:List (List Int))(B:Nat)(w:U)(e:Ending)(w':U):Prop :=
 Gr w w' ∧ if Ek c ls = 0 then ∃ cb g cap, e = .returned (.tuple #[.pointer (J ⟨cb, 0, Y⟩), Fl (D4 ls), I X 0]) ∧ w.heap.size <= cb ∧ cb < g ∧ FZ w' (Oe B cb g) cb c (En c.DV.length) nA hA nc hc g cap
   else ∃(p:F) (r:EH),e=.returned (.tuple #[p,Fl r,I X (Ek c ls)])
structure FW (nA hA:Option L)(nc hc:Nat)(c:D9)(K:Nat->Prop)(cb g cap:Nat)(w:U)(r:EH)(wr:U):Prop where
 x5:∀i,i<5->wr.cell? ⟨w.heap.size+1,i,Y⟩=J (.int .u8 ((λ_=>0:EH) i:Nat))
 f5:∀i,i<5->wr.frozen? ⟨w.heap.size+1,i,Y⟩=M
 x7:∀i,i<5->wr.cell? ⟨w.heap.size+2,i,Y⟩=J (.int .u8 (r i:Nat))
 f7:∀i,i<5->wr.frozen? ⟨w.heap.size+2,i,Y⟩=M
 c0:wr.cell? ⟨w.heap.size,0,Y⟩=J (Z nA c.DW.length nc)
 c1:wr.cell? ⟨w.heap.size,1,Y⟩=J (Z hA c.DV.length hc)
 K:FZ wr K cb c (En c.DV.length) nA hA nc hc g cap
 gr:Gr w wr
def FW.set {nA hA:Option L}{nc hc:Nat}{c:D9}{K:Nat->Prop}{cb g cap:Nat}{w wr:U}{r:EH}(h:FW nA hA nc hc c K cb g cap w r wr)(hK:¬K (w.heap.size+2)){k x:Nat}(hk:k<5) :
  FW nA hA nc hc c K cb g cap w (upd r k x) (wr.setCell ⟨w.heap.size+2,k,Y⟩ (.int .u8 (x:Int))):=by
 have ho:∀b o,b≠w.heap.size+2->(wr.setCell ⟨w.heap.size+2,k,Y⟩ (.int .u8 (x:Int))).cell? ⟨b,o,Y⟩=wr.cell? ⟨b,o,Y⟩:=λb o hb=>AL _ _ _ _ (λe=>hb (AX Addr.block e).symm);refine⟨λi hi=>(ho _ _ (by omega)).trans (h.x5 i hi),λi hi=>(BI _ _ _ _).trans (h.f5 i hi),λi hi=>?_,λi hi=>(BI _ _ _ _).trans (h.f7 i hi),(ho _ _ (by omega)).trans h.c0,(ho _ _ (by omega)).trans h.c1,h.K.keep (by simp[C]) λb o hb=>ho b o λe=>hK (e▸hb),h.gr.setCell (by show _<=w.heap.size+2;omega) _⟩
 unfold upd;by_cases e:i=k
 .subst e;rw[AF rfl];exact AQ _ _ _ (h.x7 i hi)
 .rw[AD e];exact(AL _ _ _ _ (by simp[e])).trans (h.x7 i hi)
def FW.fin {nA hA:Option L}{nc hc:Nat}{c:D9}{K:Nat->Prop}{cb g cap:Nat}{w wr:U}{r:EH}(h:FW nA hA nc hc c K cb g cap w r wr)(hK:¬K (w.heap.size+1))(v0 v1 v2 v3 v4:F) :
  FZ (Hp wr (w.heap.size+1) v0 v1 v2 v3 v4) K cb c (En c.DV.length) nA hA nc hc g cap/\Gr w (Hp wr (w.heap.size+1) v0 v1 v2 v3 v4) :=
 ⟨h.K.keep (by rw[lg];exact AA _) λb o hb=>AT (jW _ _ _ _ _ _ _ λe=>hK (e▸hb)),fY h.gr (by omega) _ _ _ _ _⟩
def _root_.Go.Sq.FZ.drew {w:U}{K:Nat->Prop}{cb:Nat}{c:D9}{sets:List Nat}{nA hA:Option L}{nc hc sb sc:Nat}(h:FZ w K cb c sets nA hA nc hc sb sc):FZ w.drew K cb c sets nA hA nc hc sb sc :=
 h.keep (AA _) λ_ _ _=>rfl
def Gj (ls:List (List Int))(k:Nat):EH:=λi=>if i<k then GF (ls[i]?.getD []) else 0
def uj (ls:List (List Int))(k:Nat):upd (Gj ls k) k (GF (ls[k]?.getD []))=Gj ls (k+1):=by
 funext i;unfold upd Gj;by_cases e:i=k
 .subst e;rw[AF rfl,AF (by omega)]
 .rw[AD e];by_cases h:i<k
  .rw[AF h,AF (by omega)]
  .rw[AD h,AD (by omega)]
def uk (ls:List (List Int)):Gj ls ls.length=D4 ls:=by
 funext i;unfold Gj D4;by_cases h:i<ls.length
 .rw[AF h]
 .rw[AD h,BD (by omega)];rfl
def fj (ls:List (List Int))(n:Int){i:Nat}(hi:i<ls.length):(ls.map λl=>Fi l n)[i]?.getD 0=Fi (ls[i]?.getD []) n:=by simp[hi]
def mD (nA hA gA:Option L)(nc hc gc:Nat)(c:D9)(ls:List (List Int))(w:U)(B:Nat)(hB:B<=w.heap.size)(hn:RI w B nA c.DW)(hh:EN w B hA c.DV)(hg:ER w B gA ls)
  (aX:c.DW.length<=4611686018427387904) (zC:c.DV.length<=4611686018427387904) (aP:∀h∈c.DV,h.off.length<=4611686018427387904) (b8:ls.length<=4611686018427387904) (zr:∀x∈ls,x.length<=4611686018427387904) :
  bo DU 32 #[Ef nA hA c nc hc,Z gA ls.length gc] w (yh nA hA nc hc c ls B w):=by
 have HG:=Ay hg;have aY:=Ay zr;unfold Ef;obtain⟨W0,zM⟩:∃W0:U,W0=((w.alloc (R #[Z nA c.DW.length nc,Z hA c.DV.length hc] 25)).alloc (R #[.int .u8 0,.int .u8 0,.int .u8 0,.int .u8 0,.int .u8 0] 72)).alloc (R #[.int .u8 0,.int .u8 0,.int .u8 0,.int .u8 0,.int .u8 0] 72):=⟨_,rfl⟩;have zL:Gr w W0:=zM▸(((Gr.refl w).alloc _).alloc _).alloc _;have zF:W0.heap.size=w.heap.size+3:=by rw[zM];simp
 have HW:=Ay zM;have aG:=Ay (kK nA hA nc hc c W0 B (by omega) (hn.gr hB zL) (hh.keep λb o hb=>zL.cell (AC hb hB)) aX zC aP);have aK:=Ay zL;have hcm:W0.cell? ⟨w.heap.size,0,Y⟩=J (Z nA c.DW.length nc)/\W0.cell? ⟨w.heap.size,1,Y⟩=J (Z hA c.DV.length hc):=by
  rw[zM];constructor
  all_goals rw[AW _ _ _ (by simp;omega),AW _ _ _ (by simp),AE _ _ _ _ rfl];rfl
 have aQ:=Ay hcm;have aR:∀i,i<5->W0.cell? ⟨w.heap.size+1,i,Y⟩=J (.int .u8 ((λ_=>0:EH) i:Nat))/\W0.cell? ⟨w.heap.size+2,i,Y⟩=J (.int .u8 ((λ_=>0:EH) i:Nat))/\W0.frozen? ⟨w.heap.size+1,i,Y⟩=M/\W0.frozen? ⟨w.heap.size+2,i,Y⟩=false:=λi hi=>by
  rw[zM,AW _ _ _ (by simp),CA _ _ _ (by simp),AE _ _ _ _ (by simp),AE _ _ _ _ (by simp),By _ _ _ _ (by simp),By _ _ _ _ (by simp)]
  match i,hi with
  |0,_=>exact⟨rfl,rfl,rfl,rfl⟩
  |1,_=>exact⟨rfl,rfl,rfl,rfl⟩
  |2,_=>exact⟨rfl,rfl,rfl,rfl⟩
  |3,_=>exact⟨rfl,rfl,rfl,rfl⟩
  |4,_=>exact⟨rfl,rfl,rfl,rfl⟩
 have aS:=Ay aR;clear zM zL hn hh hg zr aP hcm aR;go_enter Sq.func32,Tryz.ntmps32;unfold Ef at aG;go_wp2_with fail;rw[<-HW.out];refine aG.out.mono ?_;rintro e w1 ⟨zJ,aH⟩;have a6:=Ay zJ;by_cases hE:Eg c=0
 .rw[AF hE] at aH;obtain⟨cb,g,cap,rfl,hcb,aZ,hK,_⟩:=aH;have HK:=Ay hK;have HE:=Ay hE;have aT:=Ay (D9.Ok.of hE);have aN:¬Oe B cb g (w.heap.size+2)/\¬Oe B cb g (w.heap.size+1):=by unfold Oe;omega
  have aJ:=Ay aN;have b9:=aT.out.n5;have bA:=aT.out.h4;have hfw:FW nA hA nc hc c (Oe B cb g) cb g cap w (Gj ls 0) w1:=by
   have h5:∀i,i<5->w1.cell? ⟨w.heap.size+1,i,Y⟩=J (.int .u8 ((λ_=>0:EH) i:Nat))/\w1.cell? ⟨w.heap.size+2,i,Y⟩=J (.int .u8 ((λ_=>0:EH) i:Nat))/\w1.frozen? ⟨w.heap.size+1,i,Y⟩=M/\w1.frozen? ⟨w.heap.size+2,i,Y⟩=false:=λi hi=>by
    obtain⟨a,b,c,d⟩:=aS.out i hi;exact⟨(a6.out.cell (by show w.heap.size+1<_;omega)).trans a,(a6.out.cell (by show w.heap.size+2<_;omega)).trans b,(a6.out.frozen (by show w.heap.size+1<_;omega)).trans c,(a6.out.frozen (by show w.heap.size+2<_;omega)).trans d⟩
   exact⟨λi hi=>(h5 i hi).1,λi hi=>(h5 i hi).2.2.1,λi hi=>by rw[(h5 i hi).2.1];simp[Gj],λi hi=>(h5 i hi).2.2.2,(a6.out.cell (by show w.heap.size<_;omega)).trans aQ.out.1,(a6.out.cell (by show w.heap.size<_;omega)).trans aQ.out.2,hK,aK.out.trans zJ⟩
  clear zJ hK aG hE aN;have a7:=Ay hfw;have zp:=hfw.c0;have zw:=hfw.c1;clear hfw;by_cases hM:Ez ls.length c.DW.length c.DW.length=0
  .have zl:c.DW.length=ls.length:=by have:=dK.1 hM;omega
   have HM:=Ay hM;have HF:=Ay (show Ek c ls=bF (ls.map λl=>Fi l c.DV.length) by unfold Ek;rw[AD (by simp[HE.out]),AD (by simp[hM])]);have aL:bo DU 68 #[I X ls.length,I X c.DW.length,I X c.DW.length] w1 λe w'=>e=.returned (I X 0)/\w1=w':=by rw[<-hM];exact iu _ _ _ _
   have aB:=Ay aL;have HLEN:=Ay zl;have bB:ls.length<=5:=by omega
   clear hM aL zl;go_wp2_with (go_at_call 68;refine aB.out.mono ?_;rintro e w' ⟨rfl,rfl⟩);go_loopw [38] (λi wr=>∃k:Nat,k<=ls.length/\i=I X k/\FW nA hA nc hc c (Oe B cb g) cb g cap w (Gj ls k) wr/\∀j,j<k->Fi (ls[j]?.getD []) c.DV.length=0) (λi _=>ls.length-(G i).toNat)
   case atStart=>exact⟨0,by omega,rfl,a7.out,λj hj=>AI hj (by omega)⟩
   case round =>
    obtain⟨k,hk,rfl,hfw,hz⟩:=hrel;have a8:=Ay hfw;have HZ:=Ay hz;have zp:=hfw.c0;have zw:=hfw.c1;obtain⟨a0,a1,a2,a3,a4⟩:=JP hfw.x5;obtain⟨b0,b1,b2,b3,b4⟩:=JP hfw.x7;have c0:=hfw.f5 0 (by omega);have c1:=hfw.f5 1 (by omega);have c2:=hfw.f5 2 (by omega);have c3:=hfw.f5 3 (by omega);have c4:=hfw.f5 4 (by omega);have aC:=Ay (eE hfw.x5);clear hfw hz;by_cases zY:k<ls.length
    .obtain⟨b,o,A',c',rfl,hb,b5,aM⟩:=(HG.out.gr hB a8.out.gr).at_ zY;have hx:=aY.out _ (gw ls k zY);have HA:=Ay (fj ls c.DV.length zY);have HU:=Ay (uj ls k);generalize ls[k]?.getD []=l at b5 aM hx HA HU;have aI:=Ay (i7 A' c' l c.DV.length wr B aM hx (by omega) (by omega));have aO:=Ay aM;clear aM;by_cases hE:Fi l c.DV.length=0
     .rw[hE] at aI;have aU:=I0 hE;have aV:=Ay (Rv A' c' l wr B aO.out hx λx hx=>by have:=aU.1 x hx;omega);have b6:Hid (∀j,j<k+1->Fi (ls[j]?.getD []) c.DV.length=0):=Ay λj hj=>by
       obtain h|h:=Br j k
       .exact HZ.out j h
       .have:j=k:=by omega
        subst this;have:=HA.out;rw[hE] at this;rw[<-fj ls _ zY];exact this
      have aW:Hid (FW nA hA nc hc c (Oe B cb g) cb g cap w (Gj ls (k+1)) (wr.setCell ⟨w.heap.size+2,k,Y⟩ (.int .u8 (GF l:Int)))):=Ay (by rw[<-HU.out];exact a8.out.set aJ.out.1 (by omega));have bC:=a8.out.f7 k (by omega);have bD:=a8.out.x7 k (by omega);clear aU hE HU HA aO HZ;generalize GF l=x at aV aW;clear a8 a0 a1 a2 a3 a4 b0 b1 b2 b3 b4 c0 c1 c2 c3 c4 aC;go_wp2_with (first|(go_at_call 69;refine aI.out.mono ?_;rintro e w' ⟨rfl,rfl⟩)|(go_at_call 70;refine aV.out.mono ?_;rintro e w' ⟨rfl,rfl⟩))
      go_roundw
      case rel=>exact⟨k+1,by omega,by go_num,aW.out,b6.out⟩
      case measure=>simp[Proofs.intOf];omega
     .have aD := Lib.hid (show Ek c ls = Fi l c.DV.length by
       rw[HF.out,be (k:=k) (by simpa using zY) (λi hi=>by rw[fj ls _ (by omega)];exact HZ.out i hi) (by rw[HA.out];exact hE),HA.out])
      have aF:=Ay hE;clear hE HU HA aO HZ;generalize Fi l c.DV.length=q at aI aD aF;have hqe:(q != 0)=true:=by simp[aF.out]
      go_wp2_with (go_at_call 69;refine aI.out.mono ?_;rintro e w' ⟨rfl,rfl⟩);have aA:=Ay (a8.out.fin aJ.out.2 (.int .u8 (Gj ls k 0:Nat)) (.int .u8 (Gj ls k 1:Nat)) (.int .u8 (Gj ls k 2:Nat)) (.int .u8 (Gj ls k 3:Nat)) (.int .u8 (Gj ls k 4:Nat))).2;go_region
      all_goals
       go_wp2;obtain⟨s0,s1,s2,s3,s4⟩:=aC.out (.int .u8 (Gj ls k 0:Nat)) (.int .u8 (Gj ls k 1:Nat)) (.int .u8 (Gj ls k 2:Nat)) (.int .u8 (Gj ls k 3:Nat)) (.int .u8 (Gj ls k 4:Nat));unfold Hp at s0 s1 s2 s3 s4;refine V (v:=.tuple #[.pointer Y,Fl (Gj ls k),I X q]) (by simp[results,H,go_sem,Fl,s0,s1,s2,s3,s4]) rfl ⟨?_,?_⟩
       .first|exact aA.out|exact aA.out.drew
       .rw[AD (aD.out▸aF.out),aD.out];exact⟨_,_,rfl⟩
    .have b7:k=ls.length:=by omega
     subst b7;clear zY;rw[uk] at a8 b0 b1 b2 b3 b4;obtain⟨HFK,aA⟩:Hid (FZ (Hp wr (w.heap.size+1) (.int .u8 (D4 ls 0:Nat)) (.int .u8 (D4 ls 1:Nat)) (.int .u8 (D4 ls 2:Nat)) (.int .u8 (D4 ls 3:Nat)) (.int .u8 (D4 ls 4:Nat))) (Oe B cb g) cb c (En c.DV.length) nA hA nc hc g cap)/\Hid (Gr w (Hp wr (w.heap.size+1) (.int .u8 (D4 ls 0:Nat)) (.int .u8 (D4 ls 1:Nat)) (.int .u8 (D4 ls 2:Nat)) (.int .u8 (D4 ls 3:Nat)) (.int .u8 (D4 ls 4:Nat)))):=⟨Ay (a8.out.fin aJ.out.2 _ _ _ _ _).1,Ay (a8.out.fin aJ.out.2 _ _ _ _ _).2⟩
     have HZZ:=Ay (show Ek c ls=0 by
      rw[HF.out];exact dc λi hi=>by
       have hi':i<ls.length:=by simpa using hi
       rw[fj ls _ hi'];exact HZ.out i hi')
     go_wp2;go_region
     all_goals
      go_wp2;obtain⟨s0,s1,s2,s3,s4⟩:=aC.out (.int .u8 (D4 ls 0:Nat)) (.int .u8 (D4 ls 1:Nat)) (.int .u8 (D4 ls 2:Nat)) (.int .u8 (D4 ls 3:Nat)) (.int .u8 (D4 ls 4:Nat));unfold Hp at s0 s1 s2 s3 s4;refine V (v:=.tuple #[.pointer (J ⟨cb,0,Y⟩),Fl (D4 ls),I X 0]) (by simp[results,H,go_sem,Fl,s0,s1,s2,s3,s4]) rfl ⟨?_,?_⟩
      .first|exact aA.out|exact aA.out.drew
      .rw[AF HZZ.out];exact⟨cb,g,cap,rfl,by omega,aZ,by first|exact HFK.out|exact HFK.out.drew⟩
  .have aD:=Ay (show Ek c ls=Ez ls.length c.DW.length c.DW.length by unfold Ek;rw[AD (by simp[HE.out]),AF hM]);have aF:=Ay hM;have aB:=Ay (iu ls.length c.DW.length c.DW.length w1);clear hM;generalize Ez ls.length c.DW.length c.DW.length=q at aD aF aB;have hqe:(q != 0)=true:=by simp[aF.out]
   obtain⟨a0,a1,a2,a3,a4⟩:=JP a7.out.x5;obtain⟨b0,b1,b2,b3,b4⟩:=JP a7.out.x7;have c0:=a7.out.f5 0 (by omega);have c1:=a7.out.f5 1 (by omega);have c2:=a7.out.f5 2 (by omega);have c3:=a7.out.f5 3 (by omega);have c4:=a7.out.f5 4 (by omega);have bE:=a7.out.c0;have bG:=a7.out.c1;have aC:=Ay (eE a7.out.x5);have aA:=Ay (a7.out.fin aJ.out.2 (.int .u8 (Gj ls 0 0:Nat)) (.int .u8 (Gj ls 0 1:Nat)) (.int .u8 (Gj ls 0 2:Nat)) (.int .u8 (Gj ls 0 3:Nat)) (.int .u8 (Gj ls 0 4:Nat))).2
   go_wp2_with (go_at_call 68;refine aB.out.mono ?_;rintro e w' ⟨rfl,rfl⟩);go_region
   all_goals
    go_wp2;obtain⟨s0,s1,s2,s3,s4⟩:=aC.out (.int .u8 (Gj ls 0 0:Nat)) (.int .u8 (Gj ls 0 1:Nat)) (.int .u8 (Gj ls 0 2:Nat)) (.int .u8 (Gj ls 0 3:Nat)) (.int .u8 (Gj ls 0 4:Nat));unfold Hp at s0 s1 s2 s3 s4;refine V (v:=.tuple #[.pointer Y,Fl (Gj ls 0),I X q]) (by simp[results,H,go_sem,Fl,s0,s1,s2,s3,s4]) rfl ⟨?_,?_⟩
    .first|exact aA.out|exact aA.out.drew
    .rw[AD (aD.out▸aF.out),aD.out];exact⟨_,_,rfl⟩
 .rw[AD hE] at aH;subst aH;have HF:=Ay (show Ek c ls=Eg c by unfold Ek;rw[AF hE]);have h5:∀i,i<5->w1.cell? ⟨w.heap.size+1,i,Y⟩=J (.int .u8 ((λ_=>0:EH) i:Nat))/\w1.cell? ⟨w.heap.size+2,i,Y⟩=J (.int .u8 ((λ_=>0:EH) i:Nat))/\w1.frozen? ⟨w.heap.size+1,i,Y⟩=M/\w1.frozen? ⟨w.heap.size+2,i,Y⟩=false:=λi hi=>by
   obtain⟨a,b,c,d⟩:=aS.out i hi;exact⟨(a6.out.cell (by show w.heap.size+1<_;omega)).trans a,(a6.out.cell (by show w.heap.size+2<_;omega)).trans b,(a6.out.frozen (by show w.heap.size+1<_;omega)).trans c,(a6.out.frozen (by show w.heap.size+2<_;omega)).trans d⟩
  obtain⟨a0,b0,c0,d0⟩:=h5 0 (by omega);obtain⟨a1,b1,c1,d1⟩:=h5 1 (by omega);obtain⟨a2,b2,c2,d2⟩:=h5 2 (by omega);obtain⟨a3,b3,c3,d3⟩:=h5 3 (by omega);obtain⟨a4,b4,c4,d4⟩:=h5 4 (by omega);have aC:=Ay (eE (w:=w1) (b:=w.heap.size+1) (r:=λ_=>0) (λi hi=>(h5 i hi).1) (.int .u8 0) (.int .u8 0) (.int .u8 0) (.int .u8 0) (.int .u8 0));have HE:=Ay hE;clear h5 aG zJ;obtain⟨k,hk⟩:∃k,k=Eg c:=⟨_,rfl⟩;rw[<-hk] at hE ⊢
  have HK:=Ay hk;clear hk;go_wp2;go_region
  all_goals
   go_wp2;obtain⟨s0,s1,s2,s3,s4⟩:=aC.out;unfold Hp at s0 s1 s2 s3 s4;refine V (v:=.tuple #[.pointer Y,.agg #[.int .u8 0,.int .u8 0,.int .u8 0,.int .u8 0,.int .u8 0],I X k]) (by simp[results,H,go_sem,s0,s1,s2,s3,s4]) rfl ⟨?_,?_⟩
   .first|exact(fY (aK.out.trans a6.out) (by omega) _ _ _ _ _)|exact(fY (aK.out.trans a6.out) (by omega) _ _ _ _ _).drew|exact(fY (aK.out.trans a6.out).drew (by omega) _ _ _ _ _)
   .rw[HF.out,HK.out,AD HE.out];exact⟨_,λ_=>0,rfl⟩
def iR:Eg (EL [3,2,4])=0:=by decide +kernel
def ul:(F6 (D4 [[0,1],[1],[]]) (Eh (G8 (EL [3,2,4]) 2 0) (En 3) 3 EM 0)).map (λp=>((bh 3).map λi=>wl (p.1 i),p.2))=J (E2,3):=by decide +kernel
def lK:Eg (EL [3,2,5])=0:=by decide +kernel
def jX:isSome (EL [3,2,5])=false:=by decide +kernel
def qa:Fg (EL [3,2,5]) 8=J [1,2]:=by decide +kernel
abbrev Ei:D9:=EL [3,2,4]
def Ga (i:Nat):Nat:=(En 3)[i]?.getD 0
def FA (x:Nat):EH:=λj=>if j=0 then x else 0
def Og (i:Nat):Int:=(Ej Ei (FA (Ga i)) 0).1
def Iw:∀i,i<8->(Og i=0↔i=1\/i=4):=by decide +kernel
def qd:Eh Ei (En 3) 2 (FA (Ga 4)) 1=[]:=by
 have:(Eh Ei (En 3) 2 (FA (Ga 4)) 1).length=0:=by decide +kernel
 exact Bc this
def qe:(Eh Ei (En 3) 2 (FA (Ga 1)) 1).length=1:=by decide +kernel
def jr:∀x∈En 3,Ei.has x:=λx hx=>mv 3 (by decide) x hx
def gC (i:Nat)(hi:i<8):∀j,Ei.has (FA (Ga i) j):=by
 intro j;unfold FA;split
 .refine jr _ ?_;have:∀i,i<8->Ga i∈En 3:=by decide
  exact this i hi
 .show 0<2 ^ 3;decide
def Ow (w:U)(B:Nat)(A:Option L)(l:List Int):Prop :=
 l≠[]->∃b o,A=J ⟨b,o,Y⟩/\b<B/\∀(i:Nat) (x:Int),l[i]?=J x->w.cell? ⟨b,o+i*5+4,Y⟩=J (I X x)/\∃(n0 n1 n2:Int) (A:Option L) (m c:Nat),
  w.cell? ⟨b,o+i*5,Y⟩=J (I X n0)/\w.cell? ⟨b,o+i*5+1,Y⟩=J (I X n1)/\w.cell? ⟨b,o+i*5+2,Y⟩=J (I X n2)/\w.cell? ⟨b,o+i*5+3,Y⟩=J (Z A m c)
def Ow.gr {w w':U}{B:Nat}{A:Option L}{l:List Int}(h:Ow w B A l)(hB:B<=w.heap.size)(hg:Gr w w'):Ow w' B A l:=λhn=>by
 obtain⟨b,o,e,hb,hc⟩:=h hn;refine⟨b,o,e,hb,λi x hx=>?_⟩;have k:∀o,w'.cell? ⟨b,o,Y⟩=w.cell? ⟨b,o,Y⟩:=λo=>hg.cell (p:=⟨b,o,Y⟩) (AC hb hB);obtain⟨h1,n0,n1,n2,A,m,c,h2,h3,h4,h5⟩:=hc i x hx;exact⟨(k _).trans h1,n0,n1,n2,A,m,c,(k _).trans h2,(k _).trans h3,(k _).trans h4,(k _).trans h5⟩
def EP (l:List Int):Nat->Int
 |0=>-1
 |k+1=>if 0<l[k]?.getD 0/\(EP l k<0\/l[(EP l k).toNat]?.getD 0<l[k]?.getD 0) then k else EP l k
def jt (l:List Int)(k:Nat):-1<=EP l k/\EP l k<k:=by
 induction k with
 |zero=>simp[EP]
 |succ k ih =>
  unfold EP;split
  .omega
  .omega
def yl (A:Option L)(c:Nat)(l:List Int)(w:U)(B:Nat)(hB:B<=w.heap.size)(h:Ow w B A l)(hl:l.length<=4611686018427387904) :
  bo DU 139 #[Z A l.length c] w λe w'=>e=.returned (I X (EP l l.length))/\Gr w w':=by
 have HR:=Ay h;go_enter Sq.func139,Tryz.ntmps139;go_wp2;go_loopw [3,8] (λs i wr=>∃k:Nat,k<=l.length/\i=I X k/\s=I X (EP l k)/\Gr w wr) (λ_ i _=>l.length-(G i).toNat)
 case atStart=>exact⟨0,by omega,rfl,rfl,.refl _⟩
 case round =>
  obtain⟨k,hk,rfl,rfl,hg⟩:=hrel;have HG:=Ay hg;by_cases zY:k<l.length
  .obtain⟨b,o,e,hb,hc⟩:=HR.out.gr hB HG.out (λe=>by rw[e] at zY;simp at zY);subst e;obtain⟨c4,n0,n1,n2,A',m,c',c0,c1,c2,c3⟩:=hc k _ (AB zY)
   have HM:=Ay (show EP l (k+1)=if 0<l[k]/\(EP l k<0\/l[(EP l k).toNat]?.getD 0<l[k]) then(k:Int) else EP l k by
    show(if _ then _ else _)=_
    rw[AB zY];rfl)
   have a7:=jt l k;have aB:=Ay hc;clear hc;have hz:=HG.out.size;generalize l[k]=x at c4 HM;by_cases hx:0<x
   .by_cases hm:EP l k<0
    .have a6:=Ay (show EP l (k+1)=k by rw[HM.out,AF ⟨hx,.inl hm⟩]);clear HM a7;generalize EP l k=q at hm a6;have a8:S (x > 0)=true:=by simp;omega
     have aA:S (q<0)=true:=by simp;omega
     go_wp2;go_region;go_wp2;go_roundw
     case rel=>exact⟨k+1,by omega,by go_num,AX (Value.int .i64) a6.out.symm,(HG.out.alloc _).drew⟩
     case measure=>simp[Proofs.intOf];omega
    .obtain⟨j,hj⟩:∃j:Nat,EP l k=j:=⟨(EP l k).toNat,by omega⟩;rw[hj] at HM hm a7 ⊢;have hjk:j<k:=by omega
     obtain⟨y4,_⟩:=aB.out j _ (AB (show j<l.length by omega));have HY:=Ay (show l[(j:Int).toNat]?.getD 0=l[j] by rw[CY,AB (by omega)];rfl);generalize l[j]=y at y4 HY;have aF:j<l.length:=by omega
     have HJ:=Ay hj;clear hj hm a7;have a8:S (x > 0)=true:=by simp;omega
     have aG:S ((j:Int)<0)=false:=by simp
     have hbl:b<wr.heap.size:=by omega
     by_cases aC:y<x
     .have a6:=Ay (show EP l (k+1)=k by rw[HM.out,AF ⟨hx,.inr (by rw[HY.out];exact aC)⟩]);have aA:S (x > y)=true:=by simp;omega
      clear HM HY;go_wp2;go_quiet (fail);go_wp2;go_roundw
      case rel=>exact⟨k+1,by omega,by go_num,AX (Value.int .i64) a6.out.symm,(HG.out.alloc _).drewN _⟩
      case measure=>simp[Proofs.intOf];omega
     .have a6:=Ay (show EP l (k+1)=j by rw[HM.out,AD (by rw[HY.out];omega)]);have aA:S (x > y)=false:=by simp;omega
      clear HM HY;go_wp2;go_quiet (fail);go_wp2;go_roundw
      case rel=>exact⟨k+1,by omega,by go_num,AX (Value.int .i64) a6.out.symm,(HG.out.alloc _).drewN _⟩
      case measure=>simp[Proofs.intOf];omega
   .have a6:=Ay (show EP l (k+1)=EP l k by rw[HM.out,AD (by omega)]);have a8:S (x > 0)=false:=by simp;omega
    clear HM a7;generalize hq:EP l k=q at a6;clear hq;go_wp2;go_region;go_wp2;go_roundw
    case rel=>exact⟨k+1,by omega,by go_num,AX (Value.int .i64) a6.out.symm,(HG.out.alloc _).drew⟩
    case measure=>simp[Proofs.intOf];omega
  .have aD:k=l.length:=by omega
   subst aD;go_wp2;go_ret;exact⟨rfl,HG.out⟩
end Go.Sq
