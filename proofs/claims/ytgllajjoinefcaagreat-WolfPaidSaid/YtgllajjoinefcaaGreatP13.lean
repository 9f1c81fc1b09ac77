/- What is proved: whatever the numbers, the law WolfPaid answers true. Conditions: none beyond the statement's own. -/
import Derived.Test.YtgllajjoinefcaaGreatP12
import Derived.Conc.LeavingOf
set_option linter.all false
set_option maxHeartbeats 3200000
set_option maxRecDepth 1000000
open Go.Proofs.Tryz renaming prog->Z,underlying22->cw,func3->df,f3->di,checked->dr,func79->ed,func14->ek,ntmps3->eo
open Go.Value renaming slice->Y,int->u,pointer->bc,okWide->dn,cells->er
open Option renaming some->J,none->R
open Bool renaming true->I,false->br
open Go.Conc renaming G->X,Good->cu,crowd->dt
open Go renaming World->L,Goroutine->bb,Value->bl,Frame->bw,TypeId->cd,FuncId->cf,results_tmp->ea,Addr->eb,Item->ew,Oper->fl,execOp->fo
open Go.IntKind renaming i64->bk
open Go.Frame renaming enter->bq
open Array renaming replicate->bs
open Go.CallKind renaming normal->ck
open Go.Obj renaming cells->cq
open Array renaming getD->Array.LE,setIfInBounds->Array.L
open Eq renaming symm->Eq.LT
open Go renaming underlying->Go.LT
open Go.Addr renaming block->Go.Addr.Lo
open Go.Calls renaming mono->Go.Calls.LT
open Go.Conc.Good renaming mono->Go.Conc.Good.LT
open Go.Ending renaming returned->Go.Ending.L
open Go.GoStatus renaming running->Go.GoStatus.L
open Go.Goroutine renaming frame->Go.Goroutine.L
open Go.Instr renaming alloc->Go.Instr.Li
open Go.MemPlace renaming block->Go.MemPlace.Lo
open Go.Program renaming funcs->Go.Program.L,underlying->Go.Program.LT
open Go.RowKit.Below renaming frame->Go.RowKit.Below.L
open Go.TypeDesc renaming pointer->Go.TypeDesc.S
open Go.Value renaming pointer->Go.Value.S
open Go.World renaming alloc->Go.World.Li,cell?->Go.World.L
open List renaming getD->List.LE,length->List.L,take->List.LT,toArray->List.Li
open Option renaming getD->Option.LE,isNone->Option.L
namespace Go.Sq
open Go.Proofs
open Go.RowKit Go.Em Go.Co Go.Conc Go.ConcN
def Oo:∀(f:cf) (fn:Func),PP.a.L[f]?=J fn->fn.body.L=I->PP.fs[f]?=J fn:=λ_ _ h _=>h
def Lv (cs:List bw)(g:bb)(w:L):Prop:=∃(bn bo bh cb sb cap nb:Nat) (cur:List bl) (t:cd) (T U:Array bl),F2 w bn bo bh cb sb cap cur t/\w.heap[nb]?=J (Jq 0)/\zB (Ey bn bo bh cb sb cap cur t) nb=br/\T.size=19/\T.LE 6 undef=.S (J ⟨nb,0,R⟩) /\
 U.size=95/\(∀v∈U.toList,∀(SB:cf->Bool) (H:Hid),E5 SB H (λb=>zB (Ey bn bo bh cb sb cap cur t) b=I) v) /\
 g=bZ PP 79 (Ip cb (.func 80) #[] [bc (J ⟨nb,0,R⟩)].Li) ((base 45).at ⟨T,[]⟩ [.inRegion c5 [2],.code x5]) ((base 14).at ⟨U,[]⟩ [.inRegion e1 [2,3,4,5,6,7],.code rV]::cs)
def F2.same {w w':L}{bn bo bh cb sb cap:Nat}{cur:List bl}{t:cd}(h:F2 w bn bo bh cb sb cap cur t)(s:Ek w w'):F2 w' bn bo bh cb sb cap cur t:=h.keep λb _=>by rw[s.1]
def Lv.same {cs:List bw}(g:bb)(w W:L)(s:Ek w W)(h:Lv cs g w):Lv cs g W:=by
 obtain⟨bn,bo,bh,cb,sb,cap,nb,cur,t,T,U,h1,h2,h3,h4,h5,h6,h7,h8⟩:=h;exact⟨bn,bo,bh,cb,sb,cap,nb,cur,t,T,U,h1.same s,by rw[s.1];exact h2,h3,h4,h5,h6,h7,h8⟩
def Lv.fn {cs:List bw}(g:bb)(w:L)(h:Lv cs g w):Ie g.L.fn=false:=by
 obtain⟨bn,bo,bh,cb,sb,cap,nb,cur,t,T,U,h1,h2,h3,h4,h5,h6,h7,rfl⟩:=h;show Ie 79=br;decide
def wH {cs:List bw}(zW:cs≠[])(w:L):EL Z Ie (Lv cs) 0 (X (bq Z 14 #[] .normal) cs) w :=
 wD (by decide) (by decide) fR Lv.same zW λbn bo bh cb sb cap nb cur t w' T U h1 h2 h3 h4 h5 h6 h7 _ _=>.fin ⟨bn,bo,bh,cb,sb,cap,nb,cur,t,T,U,h1,h2,h3,h4,h5,h6,h7,rfl⟩
def Oq (cs:List bw)(g:bb)(w:L):Prop:=∃(K1:Nat->Prop) (bn bo bh cb sb cap qb xb kb:Nat) (cur:List bl) (t:cd) (T U:Array bl),(∀b,K1 b->∃(l:List bl) (t:cd),w.heap[b]?=J (.cells l.Li t (0,0))/\∀v∈l,∀(SB:cf->Bool) (H:Hid),E5 SB H K1 v)/\F2 w bn bo bh cb sb cap cur t/\w.heap[kb]?=J (Gy br λ_=>0)/\(∀p∈FP xb qb cb,w.heap[p.1]?=J (.cells p.2.1.Li p.2.2 (0,0)))/\zB (Ey bn bo bh cb sb cap cur t++FP xb qb cb) kb=br /\
 T.size=27/\T.LE 4 undef=.S (J ⟨qb,0,R⟩)/\T.LE 7 undef=.S (J ⟨kb,0,R⟩)/\U.size=95/\U.LE 1 undef=u bk 1/\U.LE 2 undef=u bk 0/\(∀v∈U.toList,∀(SB:cf->Bool) (H:Hid),E5 SB H (λb=>K1 b\/zB (Ey bn bo bh cb sb cap cur t) b=I) v) /\
 g=bZ PP 79 (Ip cb (.func 88) #[] [bc (J ⟨kb,0,R⟩),.S (J ⟨xb,0,R⟩)].Li) ((base 47).at ⟨T,[]⟩ [.inRegion d6 [2],.code z6]) ((base 14).at ⟨U,[]⟩ [.inRegion e2 [2,3,4,5,6,7],.code Ol]::cs)
def Oq.same {cs:List bw}(g:bb)(w W:L)(s:Ek w W)(h:Oq cs g w):Oq cs g W:=by
 obtain⟨K1,bn,bo,bh,cb,sb,cap,qb,xb,kb,cur,t,T,U,h0,h1,h2,h3,h4⟩:=h;exact⟨K1,bn,bo,bh,cb,sb,cap,qb,xb,kb,cur,t,T,U,by rw[s.1];exact h0,h1.same s,by rw[s.1];exact h2,by rw[s.1];exact h3,h4⟩
def Oq.fn {cs:List bw}(g:bb)(w:L)(h:Oq cs g w):Ie g.L.fn=false:=by
 obtain⟨K1,bn,bo,bh,cb,sb,cap,qb,xb,kb,cur,t,T,U,h0,h1,h2,h3,h4,h5,h6,h7,h8,h9,h10,h11,rfl⟩:=h;show Ie 79=br;decide
def K8 {w:L}{bn bo bh cb sb cap:Nat}{cur:List bl}{t:cd}(h:F2 w bn bo bh cb sb cap cur t):∀b,zB (Ey bn bo bh cb sb cap cur t) b=I->∃(l:List bl) (t':cd),w.heap[b]?=J (.cells l.Li t' (0,0))/\∀v∈l,∀(SB:cf->Bool) (H:Hid),E5 SB H (λb=>zB (Ey bn bo bh cb sb cap cur t) b=I) v:=λb hb=>by
 obtain⟨p,hp,rfl⟩:=Hy hb;exact⟨_,_,h.obj p hp,λv hv SB H=>gu h.flat p hp v hv SB H⟩
def wI {cs:List bw}(zW:cs≠[]){w:L}{bn bo bh cb sb cap nb:Nat}{cur:List bl}{t:cd}{T U:Array bl}(hC:F2 w bn bo bh cb sb cap cur t)(hn:w.heap[nb]?=J (Jq 1))(hT:T.size=19)(h6:T.LE 6 undef=.S (J ⟨nb,0,R⟩))
  (hU:U.size=95) (a6:∀v∈U.toList,∀(SB:cf->Bool) (H:Hid),E5 SB H (λb=>zB (Ey bn bo bh cb sb cap cur t) b=I) v) :
  EL Z Ie (Oq cs) 0 (back ((base 45).at ⟨T,[]⟩ [.inRegion c5 [2],.code x5]) ((base 14).at ⟨U,[]⟩ [.inRegion e1 [2,3,4,5,6,7],.code rV]::cs)) w :=
 wE (by decide) (by decide) (by decide) fR Oq.same zW hn hT h6 hU a6 λbn' bo' bh' cb' sb' cap' qb xb kb cur' t' w' T' U' h1 h2 h3 h4 h5 h6 h7 h8 h9 h10 h11 hz hold =>
  .fin ⟨_,bn',bo',bh',cb',sb',cap',qb,xb,kb,cur',t',T',U',λb hb=>by
   obtain⟨l,t2,e1,e2⟩:=K8 hC b hb
   exact⟨l,t2,(hold b (hC.lt hb)).trans e1,e2⟩,h1,h2,h3,h4,h5,h6,h7,h8,h9,h10,h11,rfl⟩
section
variable {SB BB:cf->Bool} {zZ:Bool} {zO:Nat->Prop} {Kp:Ib} {x:Lone} {A:bb} {W:L}
def JF (ht:Tw PP SB BB zZ 0 zO Kp x A W)(hH:∀b,x.H b=br){b:Nat}(hb:∃B,x.β b B){l:List bl}{t:cd}{f:Nat×Nat}(h:x.w.heap[b]?=J (.cells l.Li t f)){v:bl}(hv:v∈l):∃V,DX (SP SB x.H) x.β v V:=by
 obtain⟨B,hb⟩:=hb;obtain⟨o,O,q1,q2,q3⟩:=ht.wl.FD b B hb (hH b);rw[h] at q1;cases q1;cases q3 with
 |cells a z =>
  obtain⟨i,hi,rfl⟩:=Cl.1 hv;obtain⟨V,_,h2⟩:=a.get? (i:=i) (v:=l[i]) (by simp);exact⟨V,h2⟩
def Hm {S:Fu}{β:Ef}{b o:Nat}{s:Option Nat}{l c:Nat}{V:bl}(h:DX S β (.slice (J ⟨b,o,s⟩) l c) V)(hl:l≠0:=by decide):∃B,β b B:=by
 cases h with
 |slice o s l c hb=>exact⟨_,hb⟩
 |E8 _=>exact AH rfl hl
def Iu {S:Fu}{β:Ef}{b o:Nat}{s:Option Nat}{V:bl}(h:DX S β (.S (J ⟨b,o,s⟩)) V):∃B,β b B:=by
 cases h with
 |ptr o s hb=>exact⟨_,hb⟩
def M9 {S:Fu}{β:Ef}{f:Fn}{fx:Array bl}{l:List bl}{V v:bl}(h:DX S β (.func f fx l.Li) V)(hv:v∈l):∃V,DX S β v V:=by
 cases h with
 |EN _=>cases hv
 |func hf h1 i1 h2 i2 =>
  obtain⟨i,hi,rfl⟩:=Cl.1 hv;have hl:i<l.Li.size:=by simpa using hi
  exact⟨_,i2 i _ _ (AL hl) (AL (by rw[<-h2];exact hl))⟩
def li (ht:Tw PP SB BB zZ 0 zO Kp x A W)(hH:∀b,x.H b=br){bn bo bh cb sb cap:Nat}{cur:List bl}{t:cd}(h:F2 x.w bn bo bh cb sb cap cur t)(hcb:∃B,x.β cb B):∀b,zB (Ey bn bo bh cb sb cap cur t) b=I->∃B,x.β b B:=by
 have h4:=h.obj (cb,LZ bn bh sb cap,218) (by simp[Ey]);have h3:=h.obj (bh,Hz bo,48) (by simp[Ey]);obtain⟨V1,v1⟩:=JF ht hH hcb h4 (v:=.slice (J ⟨bn,0,R⟩) 3 3) (by simp[LZ]);obtain⟨V2,v2⟩:=JF ht hH hcb h4 (v:=.slice (J ⟨bh,0,R⟩) 3 3) (by simp[LZ]);obtain⟨V3,v3⟩:=JF ht hH hcb h4 (v:=.slice (J ⟨sb,0,R⟩) 8 cap) (by simp[LZ]);obtain⟨V4,v4⟩:=JF ht hH (Hm v2) h3 (v:=.slice (J ⟨bo,0,R⟩) 1 1) (by simp[Hz])
 intro b hb;obtain rfl|rfl|rfl|rfl|rfl:=(EU b).1 hb
 .exact Hm v1
 .exact Hm v4
 .exact Hm v2
 .exact hcb
 .exact Hm v3
def K9 (ht:Tw PP KQ Ie I 0 zO Kp x A W){cb F:Nat}{fc:List bl}{fr:bw}{cs:List bw}(hg:x.g=bZ PP 79 (Ip cb (.func F) #[] fc.Li) fr cs):(∃B,x.β cb B)/\∀v∈fc,∃V,DX (SP KQ x.H) x.β v V:=by
 obtain⟨cE,aA,a8⟩:=Om;have a7:=ht.gl.top;rw[hg] at a7;obtain⟨ARGS,eA,a6⟩:=LS (P:=PP) (fa:=Tryz.f79) (fb:=Tryz.f79) ed ed aA a8 rfl (by rw[Tryz.ntmps79];simp) a7;obtain⟨V0,_,r0⟩:=a6.get? (i:=0) (v:=.S (J ⟨cb,0,R⟩)) rfl;obtain⟨V1,_,r1⟩:=a6.get? (i:=1) (v:=.func (.func F) #[] fc.Li) rfl;exact⟨Iu r0,λv hv=>M9 r1 hv⟩
end
def L4:∃a6:EK,EJ Ec (Ex 3) 2 (Fq (Gd 1)) 1=[a6]:=by
 have:=p9
 match h:EJ Ec (Ex 3) 2 (Fq (Gd 1)) 1,this with
 |[ρ],_=>exact⟨ρ,rfl⟩
def rW {w:L}{b:Nat}{l:Array bl}{t:cd}(h:w.heap[b]?=J (.cells l t (0,0)))(hl:0<l.size):¬Em.Ro w b:=by
 rintro⟨c,t',f,h1,h2⟩;rw[h] at h1;cases h1;have:=h2 0 hl;omega
section
variable {gs:Array bb} {W:L} {sl:Option (Nat×Nat)} {t:Trace} {q:Nat->Nat} {zO:Nat->Prop} {Kp:Ib} {x:Lone} {A:bb} {cs:List bw}
def Nw (hb:I9 Z zO gs W t q)(ht:Tw PP KQ Ie I 0 zO Kp x A W)(h0:gs[0]?=J A)(hq:Lv cs x.g x.w)(zW:cs≠[])(hH:∀b,x.H b=br)(JN:gs.size+8<=2147483647) :
  ∃N m' t',runNT Z N (dt gs W sl) t=(.next m',t')/\∃gs' W' sl' q' A' a6 g2 w2,m'=dt gs' W' sl'/\gs'[0]?=J A'/\gs'.size<=gs.size+8/\I9 Z a6 gs' W' t' q' /\
   Tw PP KQ Ie I 0 a6 Kp ⟨g2,w2,x.H,x.β,x.T⟩ A' W'/\EL Z Ie (Oq cs) 0 g2 w2/\w2.heap.size=x.w.heap.size/\(W'.os=W.os/\W'.output=W.output)/\W.heap.size<=W'.heap.size/\∀B,a6 B->zO B\/W.heap.size<=B:=by
 obtain⟨bn,bo,bh,cb,sb,cap,nb,cur,ty,T,U,hC,hn,a7,hT,h6,hU,aB,hg⟩:=hq;obtain⟨aC,a8⟩:=L4;obtain⟨cE,aD,aA⟩:=Om;obtain⟨p1,p2⟩:=K9 ht hg;obtain⟨Vn,vn⟩:=p2 (.S (J ⟨nb,0,R⟩)) (by simp);obtain⟨N,m',t',zA,gs',W',sl',q',A',a6,e1,e2,e3,e4,e5,e6,e7⟩:=K7 (sl:=sl) (M4 (Nv hC hn a7) a8 (Oh nb aC)) Pm aD aA Pn rfl rfl rfl rfl M5 LX LY hb ht h0 hg ⟨rfl,rfl,_,_,_,_,rfl⟩ hH
  (λb hb=>by
   obtain hb|hb:=hb
   .exact li ht hH hC p1 b (by simpa [Nu] using hb)
   .have e:b=nb:=by simpa using hb
    rw[e];exact Iu vn) (λb B h aF k=>by
   have e:b=nb:=by simpa using aF
   subst e;obtain h|h:=ht.FA b B h k
   .rw[hH] at h;cases h
   .exact rW hn (by decide) h) JN
 refine⟨N,m',t',zA,gs',W',sl',q',A',a6,_,_,e1,e2,e3,e4,e5,?_,bL _ _ _,e6,e7⟩;have zY:nb<x.w.heap.size:=(AC.1 hn).1;refine wI zW (hC.keep λb hb=>?_) (nb:=nb) ?_ hT h6 hU aB
 .rw[bM _ _ _ _ (hC.lt hb)];rw[AE];intro h;have e:b=nb:=by simpa using h
  rw[e,a7] at hb;cases hb
 .rw[bM _ _ _ _ zY,AJ (by simp)]
  rfl
def jY (QT:bb->L->Prop)(cs:List bw):Prop:=∀(K:Nat->Prop) (A:Option eb) (c B:Nat) (xs:List bl) (w':L) (U:Array bl) (ρ:EK),EJ Ec (Ex 3) 2 (Fq (Gd 1)) 1=[ρ]->EW w' B (Y A 3 c) (aV ρ 3) xs ->
 U.size=95->U.LE 1 undef=u bk 1->U.LE 2 undef=u bk 0->U.LE 3 undef=Y A 3 c->U.LE 4 undef=u bk 0->(∀v∈U.toList,E5 Io Dd K v)->(∀b,K b->∃o,w'.heap[b]?=J o/\EP (SP Io Dd) (CK DP Io br) (EI K) o o) ->
 EL Z Ie QT 0 (X ((base 14).at ⟨U,[]⟩ [.code Ol]) cs) w'
def wJ:∀ρ∈EJ Ec (Ex 3) 2 (Fq (Gd 1)) 1,∀i,i<5->ρ i<16:=by decide +kernel
def Ot {QT:bb->L->Prop}(aJ:∀g w W,Ek w W->QT g w->QT g W)(aD:jY QT cs)(hb:I9 Z zO gs W t q)(ht:Tw PP KQ Ie I 0 zO Kp x A W)(h0:gs[0]?=J A)(hq:Oq cs x.g x.w)(zW:cs≠[])(hH:∀b,x.H b=br)(JN:gs.size+8<=2147483647) :
  ∃N m' t',runNT Z N (dt gs W sl) t=(.next m',t')/\∃gs' W' sl' q' A' a6 g2 w2,m'=dt gs' W' sl'/\gs'[0]?=J A'/\gs'.size<=gs.size+8/\I9 Z a6 gs' W' t' q' /\
   Tw PP KQ Ie I 0 a6 Kp ⟨g2,w2,x.H,x.β,x.T⟩ A' W'/\EL Z Ie QT 0 g2 w2/\w2.heap.size=x.w.heap.size/\(W'.os=W.os/\W'.output=W.output)/\W.heap.size<=W'.heap.size/\∀B,a6 B->zO B\/W.heap.size<=B:=by
 obtain⟨K1,bn,bo,bh,cb,sb,cap,qb,xb,kb,cur,ty,T,U,aK,hC,hk,hX,aC,hT,h4,h7,hU,aL,aM,aN,hg⟩:=hq;obtain⟨a7,aB⟩:=L4;have aO:∀i,i<5->a7 i<16:=wJ a7 (by rw[aB];simp);obtain⟨cE,aP,aG⟩:=Om;obtain⟨p1,p2⟩:=K9 ht hg;obtain⟨Vk,vk⟩:=p2 (.S (J ⟨kb,0,R⟩)) (by simp);obtain⟨Vx,vx⟩:=p2 (.S (J ⟨xb,0,R⟩)) (by simp);have aQ:=hX (xb,[.func (.func 83) #[] #[.S (J ⟨qb,0,R⟩)]],160) (by simp[FP])
 have hqo:=hX (qb,[.S (J ⟨cb,0,R⟩)],112) (by simp[FP]);obtain⟨Vf,vf⟩:=JF ht hH (Iu vx) aQ (v:=.func (.func 83) #[] #[.S (J ⟨qb,0,R⟩)]) (by simp);obtain⟨Vq,vq⟩:=M9 (l:=[.S (J ⟨qb,0,R⟩)]) vf (v:=.S (J ⟨qb,0,R⟩)) (by simp);have aF:zB (Ey bn bo bh cb sb cap cur ty) kb=br/\zB (FP xb qb cb) kb=false:=by
  rw[ba,Cb] at aC;exact aC
 obtain⟨N,m',t',zA,gs',W',sl',q',A',a6,e1,e2,e3,e4,e5,e6,e7⟩:=K7 (sl:=sl) (M4 (Oj (ρ:=a7) hC hk hX aC) aB (O4 kb xb qb cb a7)) Pm aP aG Pn rfl rfl rfl rfl M5 LX LY hb ht h0 hg ⟨rfl,rfl,_,_,_,_,rfl⟩ hH
  (λb hb=>by
   obtain hb|hb:=hb
   .have hb':zB (Ey bn bo bh cb sb cap cur ty++FP xb qb cb) b=true:=hb;rw[ba,Bm] at hb';obtain hb'|hb':=hb'
    .exact li ht hH hC p1 b hb'
    .have : b = xb ∨ b = qb := by
      obtain⟨p,hp,rfl⟩:=Hy hb';simp only[FP,AM,AK,or_false] at hp;rcases hp with rfl|rfl<;>simp
     obtain rfl|rfl:=this
     .exact Iu vx
     .exact Iu vq
   .have e:b=kb:=by simpa using hb
    rw[e];exact Iu vk) (λb B h aR k=>by
   have e:b=kb:=by simpa using aR
   subst e;obtain h|h:=ht.FA b B h k
   .rw[hH] at h;cases h
   .exact rW hk (by decide) h) JN
 refine⟨N,m',t',zA,gs',W',sl',q',A',a6,_,_,e1,e2,e3,e4,e5,?_,bL _ _ _,e6,e7⟩;have zY:kb<x.w.heap.size:=(AC.1 hk).1;obtain⟨w1,aA⟩:∃w1,w1=Hl (KY kb) (oF (decide (8<=1)) (λ_=>Gy br λ_=>0) λ_=>Gy I a7) x.w:=⟨_,rfl⟩;have hkb:w1.heap[kb]?=J (Gy I a7):=by
  rw[aA,bM _ _ _ _ zY,AJ (by simp)]
  rfl
 have zU:∀b,b≠kb->b<x.w.heap.size->w1.heap[b]?=x.w.heap[b]?:=λb hb hl=>by
  rw[aA,bM _ _ _ _ hl,AE (by simpa using hb)]
 have hC1:F2 w1 bn bo bh cb sb cap cur ty:=hC.keep λb hb=>zU b (λe=>by rw[e,aF.1] at hb;cases hb) (hC.lt hb);have aS:w1.heap[qb]?=J (cq #[.S (J ⟨cb,0,R⟩)] 112 (0,0)):=by
  refine(zU qb (λe=>?_) (AC.1 hqo).1).trans hqo;have:=aF.2;rw[<-e] at this;simp[zB,FP] at this
 show EL Z Ie QT 0 _ (Hl (KY kb) (oF (decide (8<=1)) (λ_=>Gy br λ_=>0) λ_=>Gy I a7) x.w);rw[<-aA];refine wF (by decide) (by decide) fR aJ zW aO hC1 hkb aS hT h4 h7 hU aL aM aN λA c xs w2 K' U2 ho hz hold aH u0 u1 u2 u3 u4 aI=>?_;refine aD _ A c _ xs w2 U2 a7 aB ho u0 u1 u2 u3 u4 aI λb a8=>?_;obtain(a8|a8)|a8:=a8
 .obtain⟨l,t2,r1,r2⟩:=aK b a8;have hl:=(AC.1 r1).1;by_cases e:b=kb
  .subst e;exact⟨_,(hold _ (by rw[aA,bL];exact hl)).trans hkb,kI (Oi _ _)⟩
  .exact⟨_,(hold _ (by rw[aA,bL];exact hl)).trans ((zU b e hl).trans r1),.cells (E9 λv hv=>(r2 v hv Io Dd).LT λb hb=>.inl (.inl hb)) λi z1 z2=>⟨z1,z2⟩⟩
 .obtain⟨l,t2,r1,r2⟩:=K8 hC1 b a8;exact⟨_,(hold _ (AC.1 r1).1).trans r1,.cells (E9 λv hv=>(r2 v hv Io Dd).LT λb hb=>.inl (.inr hb)) λi z1 z2=>⟨z1,z2⟩⟩
 .obtain⟨o,r1,r2⟩:=aH b a8;exact⟨o,r1,r2.LT λb B hb=>⟨.inr hb.1,hb.2⟩⟩
end
def ql:Eo (EH [3,2,4]) [[0,1],[1],[]]=0:=by decide +kernel
def qm:Eo (EH [3,2,4]) E1=0:=by decide +kernel
def uk:cZ 3 [(2,6)]=0:=by decide +kernel
def wU:Ov (JG (EH [3,2,4]) (DY E1) 9 (E2 3 [(2,6)] 1))=[8,0,-8]:=by decide +kernel
def ul:(EJ Ec (Ex 3) 2 (Fq (Gd 1)) 1).map (λr=>aV r 3)=[E1]:=by decide +kernel
def jq {l:List Int}:(∀h∈(EH l).DR,h.off.L<=4611686018427387904):=by
 intro h hh;simp only[EH,AM,AK,or_false] at hh;rcases hh with rfl|rfl|rfl<;>simp
def sf (nA hA gA:Option eb)(w:L)(B:Nat)(hB:B<=w.heap.size)(hn:RI w B nA [3,2,4])(hh:FY w B hA (EH [3,2,4]).DR)(hg:FX w B gA [[0,1],[1],[]]) :
  Calls DP 48 #[.agg #[Y nA 3 3,Y hA 3 3],Y gA 3 3,u bk 2,u bk 0] w λe w'=>Gr w w'/\∃A k,e=.L (.tuple #[Y A 3 k,u bk 3,u bk 0])/\FX w' w'.heap.size A E1:=by
 refine(uj nA hA gA 3 3 3 (EH [3,2,4]) [[0,1],[1],[]] 2 0 w B hB hn hh hg (by decide) (by decide) jq (by decide) (by decide) (λk _ hk _ _=>?_)).LT ?_
 .obtain rfl:k=2:=by omega
  exact Eb.Ok.of (by decide +kernel)
 .rintro e w' ⟨hg,h⟩;refine⟨hg,?_⟩;rw[AE (by simp[ql]),AE (by decide)] at h;have hr:=t7;have h2:EJ (JU (EH [3,2,4]) (Int.toNat 2) 0) (Ex (EH [3,2,4]).DR.L) (EH [3,2,4]).DW.L GI 0=EJ (JU (EH [3,2,4]) 2 0) (Ex 3) 3 GI 0:=rfl;rw[h2] at h;cases hn:GY (DY [[0,1],[1],[]]) (EJ (JU (EH [3,2,4]) 2 0) (Ex 3) 3 GI 0) with
  |none=>rw[hn] at hr;cases hr
  |some p =>
   rw[hn] at hr h;obtain⟨A,k,he,zV⟩:=h;have zz:(aV p.1 3,p.2)=(E1,3):=Option.some.inj hr;injection zz with e1 e2
   refine⟨A,k,?_,?_⟩
   .rw[he,e2];rfl
   .rw[<-e1];exact zV
def um (nA hA:Option eb)(w:L)(B:Nat)(hB:B<=w.heap.size)(hn:RI w B nA [3,2,5])(hh:FY w B hA (EH [3,2,5]).DR) :
  Calls DP 49 #[.agg #[Y nA 3 3,Y hA 3 3]] w λe w'=>Gr w w'/\∃A k,e=.L (.tuple #[Y A 2 k,u bk 0])/\RI w' w'.heap.size A [1,2]:=by
 refine(wA nA hA 3 3 (EH [3,2,5]) w B hB hn hh (by decide) (by decide) jq).LT ?_;rintro e w' ⟨hg,h⟩;refine⟨hg,?_⟩;rw[AE (by simp[lO]),AE (by simp[jW])] at h;have h2:FM (EH [3,2,5]) (2 ^ (EH [3,2,5]).DW.L)=J [1,2]:=p7;rw[h2] at h;exact h
def yy (nA hA gA rA:Option eb)(w:L)(B:Nat)(hB:B<=w.heap.size)(hn:RI w B nA [3,2,4])(hh:FY w B hA (EH [3,2,4]).DR)(hg:FX w B gA E1)(hr:Ih w B rA [(2,6)]) :
  Calls DP 50 #[.agg #[Y nA 3 3,Y hA 3 3],Y gA 3 3,Y rA 1 1,u bk 9] w λe w'=>Gr w w'/\∃A k,e=.L (.tuple #[Y A 3 k,u bk 0])/\RI w' w'.heap.size A [8,0,-8]:=by
 refine(qk nA hA gA rA 3 3 3 1 (EH [3,2,4]) E1 [(2,6)] 9 w B hB hn hh hg hr (by decide) (by decide) jq (by decide) (by decide) (by decide) (by decide) qm uk (by omega)).LT ?_;rintro e w' ⟨hg,A,k,he,h⟩;refine⟨hg,A,k,he,?_⟩;rw[<-wU];exact h
def Ax {w:L}{B b:Nat}{A0 A1 A2:Option eb}{c0 c1 c2:Nat}{l0 l1 l2:List Int}{t:cd}{f:Nat×Nat}(h:w.heap[b]?=J (cq #[Y A0 l0.L c0,Y A1 l1.L c1,Y A2 l2.L c2] t f))(hb:b<B)(h0:RI w B A0 l0)(h1:RI w B A1 l1)(h2:RI w B A2 l2):FX w B (J ⟨b,0,R⟩) [l0,l1,l2]:=λ_=>by
 have e:∀o,w.L ⟨b,o,R⟩=(#[Y A0 l0.L c0,Y A1 l1.L c1,Y A2 l2.L c2]:Array bl)[o]?:=λo=>by unfold World.cell?;rw[h];simp
 refine⟨b,0,rfl,hb,λi l hl=>?_⟩
 match i,hl with
 |0,hl=>cases hl;exact⟨A0,c0,e _,h0⟩
 |1,hl=>cases hl;exact⟨A1,c1,e _,h1⟩
 |2,hl=>cases hl;exact⟨A2,c2,e _,h2⟩
def Ay {w:L}{B b:Nat}{x y:Int}{t:cd}{f:Nat×Nat}(h:w.heap[b]?=J (cq #[u bk x,u bk y] t f))(hb:b<B):Ih w B (J ⟨b,0,R⟩) [(x,y)]:=λ_=>by
 have e:∀o,w.L ⟨b,o,R⟩=(#[u bk x,u bk y]:Array bl)[o]?:=λo=>by unfold World.cell?;rw[h];simp
 refine⟨b,0,rfl,hb,λi q hq=>?_⟩
 match i,hq with
 |0,hq=>cases hq;exact⟨e _,e _⟩
def L8 (n:Nat)(l:List bl)(h:l.L=n+19):∃(y0 y1 y2 y3 y4 y5 y6 y7 y8 y9 a6 a7 a8 aA aB aC aD aF aG:bl) (tl:List bl),l=y0::y1::y2::y3::y4::y5::y6::y7::y8::y9::a6::a7::a8::aA::aB::aC::aD::aF::aG::tl/\tl.L=n:=by
 match l,h with
 |y0::y1::y2::y3::y4::y5::y6::y7::y8::y9::a6::a7::a8::aA::aB::aC::aD::aF::aG::tl,h=>exact⟨y0,y1,y2,y3,y4,y5,y6,y7,y8,y9,a6,a7,a8,aA,aB,aC,aD,aF,aG,tl,rfl,by simpa using h⟩
def Aa {T:Array bl}(h:T.size=95):∃(y0 y1 y2 y3 y4 y5 y6 y7 y8 y9 a6 a7 a8 aA aB aC aD aF aG aH aI aJ aK aL aM aN aO aP aQ aR aS aT aU aV aW aX aY aZ b5 b6 b7 b8 b9 bA bB bC bD bE bF bG bH bI bJ bK bL bM bN bO bP bQ bR bS bT bU bV bW bX bY bZ c0 c2 c3 c4 c5 cA cB cC cD cE cF cG cH cI cJ cK cL cM cN cO cP cQ cR cS cT cU:bl),T=#[y0,y1,y2,y3,y4,y5,y6,y7,y8,y9,a6,a7,a8,aA,aB,aC,aD,aF,aG,aH,aI,aJ,aK,aL,aM,aN,aO,aP,aQ,aR,aS,aT,aU,aV,aW,aX,aY,aZ,b5,b6,b7,b8,b9,bA,bB,bC,bD,bE,bF,bG,bH,bI,bJ,bK,bL,bM,bN,bO,bP,bQ,bR,bS,bT,bU,bV,bW,bX,bY,bZ,c0,c2,c3,c4,c5,cA,cB,cC,cD,cE,cF,cG,cH,cI,cJ,cK,cL,cM,cN,cO,cP,cQ,cR,cS,cT,cU]:=by
 obtain⟨l⟩:=T;have h:l.L=76+19:=h;obtain⟨y0,y1,y2,y3,y4,y5,y6,y7,y8,y9,a6,a7,a8,aA,aB,aC,aD,aF,aG,l0,rfl,h0⟩:=L8 76 l h;obtain⟨aH,aI,aJ,aK,aL,aM,aN,aO,aP,aQ,aR,aS,aT,aU,aV,aW,aX,aY,aZ,l1,rfl,h1⟩:=L8 57 l0 h0;obtain⟨b5,b6,b7,b8,b9,bA,bB,bC,bD,bE,bF,bG,bH,bI,bJ,bK,bL,bM,bN,l2,rfl,h2⟩:=L8 38 l1 h1;obtain⟨bO,bP,bQ,bR,bS,bT,bU,bV,bW,bX,bY,bZ,c0,c2,c3,c4,c5,cA,cB,l3,rfl,h3⟩:=L8 19 l2 h2
 obtain⟨cC,cD,cE,cF,cG,cH,cI,cJ,cK,cL,cM,cN,cO,cP,cQ,cR,cS,cT,cU,l4,rfl,h4⟩:=L8 0 l3 h3;obtain rfl:l4=[]:=Bf h4;exact⟨y0,y1,y2,y3,y4,y5,y6,y7,y8,y9,a6,a7,a8,aA,aB,aC,aD,aF,aG,aH,aI,aJ,aK,aL,aM,aN,aO,aP,aQ,aR,aS,aT,aU,aV,aW,aX,aY,aZ,b5,b6,b7,b8,b9,bA,bB,bC,bD,bE,bF,bG,bH,bI,bJ,bK,bL,bM,bN,bO,bP,bQ,bR,bS,bT,bU,bV,bW,bX,bY,bZ,c0,c2,c3,c4,c5,cA,cB,cC,cD,cE,cF,cG,cH,cI,cJ,cK,cL,cM,cN,cO,cP,cQ,cR,cS,cT,cU,rfl⟩
def wV (A:Option eb)(c:Nat)(y0 y5 y6 y7 y8 y9 cA cB cC cD cE cF cG cH cI cJ cK cL cM cN cO cQ cR cS cT cU cV cW cX cY cZ d2 d3 d4 d5 d6 d7 d8 d9 dA dB dC dD dE dF dG dH dI dJ dK dL dM dN dO dP dQ dR dS dT dU dV dW dX dY dZ e5 e6 e7 e8 e9 eA eB eC eD eE eF eG eH eI eJ eL eM eN eO eP eQ eR eT eU eV eW:bl)(w:L)(aQ:FX w w.heap.size A E1) :
  Ol.wp DP (λe a' _=>(e=.normal\/e=.ret)/\e=.ret/\a'.tmps.LE 0 undef=.bool I/\a'.defers=[]) ⟨#[y0,u bk 1,u bk 0,Y A 3 c,u bk 0,y5,y6,y7,y8,y9,cA,cB,cC,cD,cE,cF,cG,cH,cI,cJ,cK,cL,cM,cN,cO,cQ,cR,cS,cT,cU,cV,cW,cX,cY,cZ,d2,d3,d4,d5,d6,d7,d8,d9,dA,dB,dC,dD,dE,dF,dG,dH,dI,dJ,dK,dL,dM,dN,dO,dP,dQ,dR,dS,dT,dU,dV,dW,dX,dY,dZ,e5,e6,e7,e8,e9,eA,eB,eC,eD,eE,eF,eG,eH,eI,eJ,eL,eM,eN,eO,eP,eQ,eR,eT,eU,eV,eW],[]⟩ w:=by
 have HB:=AB aQ;clear aQ;have ez:Ol=af (af (af wB)):=rfl;simp only[wB,Tryz.f14,AS,af] at ez;rw[ez];clear ez;obtain⟨W1,zu⟩:∃W1:L,W1=w.Li (cq #[u bk 3,u bk 2,u bk 4] 3):=⟨_,rfl⟩;have zJ:Gr w W1:=zu▸(Gr.refl w).Li _;have bP:RowKit.Hid (RI W1 W1.heap.size (J ⟨w.heap.size,0,R⟩) [3,2,4]):=AB (cP (t:=3) (f:=(0,0)) (by rw[zu];exact heap_alloc_new w _) (by rw[zu];simp))
 have eX:=AB (HB.out.gr (AD _) zJ);have bQ:=AB (mK (J ⟨w.heap.size,0,R⟩) 3 [3,2,4] W1);have eY:=AB zu;have zE:=zJ.size;clear zJ zu;go_wp2_with fail;rw[<-eY.out];refine bQ.out.LT ?_;rintro e w2 ⟨hA,rfl,bR,zI⟩;obtain⟨W2,zn⟩:∃W2:L,W2=((w2.Li (cq #[u bk 0,u bk 1] 3)).Li (cq #[u bk 1] 3)).Li (cq #[.slice (J ⟨w2.heap.size,0,R⟩) 2 2,.slice (J ⟨w2.heap.size+1,0,R⟩) 1 1,.slice R 0 0] 22):=⟨_,rfl⟩
 have zH:Gr w2 W2:=zn▸(((Gr.refl w2).Li _).Li _).Li _;have zD:W2.heap.size=w2.heap.size+3:=by rw[zn];simp
 have b0:W2.heap[w2.heap.size]?=J (.cells ([0,1].map (u bk)).Li 3 (0,0)):=by
  rw[zn,ae _ _ (by simp;omega),ae _ _ (by simp)];exact heap_alloc_new _ _
 have b1:W2.heap[w2.heap.size+1]?=J (.cells ([1].map (u bk)).Li 3 (0,0)):=by
  rw[zn,ae _ _ (by simp)];exact ay _ _ (by simp)
 have b2:W2.heap[w2.heap.size+2]?=J (cq #[.slice (J ⟨w2.heap.size,0,R⟩) 2 2,.slice (J ⟨w2.heap.size+1,0,R⟩) 1 1,.slice R 0 0] 22 (0,0)):=by
  rw[zn];exact ay _ _ (by simp)
 have aR:FX W2 W2.heap.size (J ⟨w2.heap.size+2,0,R⟩) [[0,1],[1],[]]:=Ax (l0:=[0,1]) (l1:=[1]) (l2:=[]) b2 (by omega) (cP b0 (by omega)) (cP b1 (by omega)) .nil;have HR:=AB (sf (J ⟨w.heap.size,0,R⟩) hA (J ⟨w2.heap.size+2,0,R⟩) W2 W2.heap.size (AD _) (((bP.out.gr (AD _) zI).gr zI.size zH).more (by have:=zI.size;have:=zH.size;omega)) ((bR.keep λb o hb=>zH.cell (p:=⟨b,o,R⟩) hb).more zH.size) aR)
 have eZ:=AB ((eX.out.gr (by omega) zI).gr (by have:=zI.size;omega) zH);have f3:=AB zn;have hzz2:=zI.size;clear bR zI zn b0 b1 b2 aR bQ zD;have ec:EG (J ⟨w.heap.size,0,R⟩) hA (EH [3,2,4]) 3 3=.agg #[.slice (J ⟨w.heap.size,0,R⟩) 3 3,Y hA 3 3]:=rfl;rw[ec];clear ec;have hz3:=zH.size;clear zH;go_wp2_with fail;rw[<-f3.out];refine HR.out.LT ?_;rintro e w3 ⟨zH,A5,k5,rfl,aY⟩
 have f4:=AB (eZ.out.gr (by omega) zH);have f5:=AB aY;have fA:=zH.size;clear zH aY HR bP;obtain⟨V6,aJ⟩:∃V:L,V=w3.Li (cq #[u bk 3,u bk 2,u bk 5] 3):=⟨_,rfl⟩;have aZ:Gr w3 V6:=aJ▸(Gr.refl w3).Li _;have HN6:RowKit.Hid (RI V6 V6.heap.size (J ⟨w3.heap.size,0,R⟩) [3,2,5]):=AB (cP (t:=3) (f:=(0,0)) (by rw[aJ];exact heap_alloc_new w3 _) (by rw[aJ];simp));have bS:=AB (mK (J ⟨w3.heap.size,0,R⟩) 3 [3,2,5] V6)
 have bU:=AB aZ;have HV6:=AB aJ;have hzV6:=aZ.size;clear aZ aJ;go_wp2_with fail;rw[<-HV6.out];refine bS.out.LT ?_;rintro e x6 ⟨b5,rfl,b6,aB⟩;have b7:=AB (bU.out.trans aB);have b8:=AB ((HN6.out.gr (AD _) aB).more aB.size);have b9:=AB b6;have hzx6:=aB.size;clear b6 aB;have ec:EG (J ⟨w3.heap.size,0,R⟩) b5 (EH [3,2,5]) 3 3=.agg #[.slice (J ⟨w3.heap.size,0,R⟩) 3 3,Y b5 3 3]:=rfl
 have bT:=AB (um (J ⟨w3.heap.size,0,R⟩) b5 x6 x6.heap.size (AD _) b8.out b9.out);rw[ec];clear ec;go_wp2_with fail;refine bT.out.LT ?_;rintro e w5 ⟨aS,A8,k8,rfl,bA⟩;have HB5:=AB (f4.out.gr (by omega) (b7.out.trans aS));have bV:=AB (f5.out.gr (AD _) (b7.out.trans aS));have HI8:=AB bA;have fB:=(b7.out.trans aS).size;clear aS bA bT HN6 bS b9 b8;obtain⟨V7,aK⟩:∃V:L,V=w5.Li (cq #[u bk 3,u bk 2,u bk 4] 3):=⟨_,rfl⟩
 have bB:Gr w5 V7:=aK▸(Gr.refl w5).Li _;have HN7:RowKit.Hid (RI V7 V7.heap.size (J ⟨w5.heap.size,0,R⟩) [3,2,4]):=AB (cP (t:=3) (f:=(0,0)) (by rw[aK];exact heap_alloc_new w5 _) (by rw[aK];simp));have HC7:=AB (mK (J ⟨w5.heap.size,0,R⟩) 3 [3,2,4] V7);have bW:=AB bB;have HV7:=AB aK;have hzV7:=bB.size;clear bB aK;go_wp2_with fail;rw[<-HV7.out];refine HC7.out.LT ?_;rintro e x7 ⟨bC,rfl,bD,aC⟩
 have HX7:=AB (bW.out.trans aC);have bE:=AB ((HN7.out.gr (AD _) aC).more aC.size);have bF:=AB bD;have hzx7:=aC.size;clear bD aC;have ec:EG (J ⟨w5.heap.size,0,R⟩) bC (EH [3,2,4]) 3 3=.agg #[.slice (J ⟨w5.heap.size,0,R⟩) 3 3,Y bC 3 3]:=rfl;rw[ec];clear ec;have HGU:=AB (kF x7);go_wp2_with fail;refine HGU.out.LT ?_;rintro e x8 ⟨gA,rfl,aA,aG⟩;obtain⟨V8,aL⟩:∃V:L,V=x8.Li (cq #[u bk 2,u bk 6] 107):=⟨_,rfl⟩
 have a6:Gr x8 V8:=aL▸(Gr.refl x8).Li _;have bG:Ih V8 V8.heap.size (J ⟨x8.heap.size,0,R⟩) [(2,6)]:=Ay (t:=107) (f:=(0,0)) (by rw[aL];exact heap_alloc_new _ _) (by rw[aL];simp)
 have bH:=AB (yy (J ⟨w5.heap.size,0,R⟩) bC gA (J ⟨x8.heap.size,0,R⟩) V8 V8.heap.size (AD _) ((bE.out.gr (AD _) (aG.trans a6)).more (aG.trans a6).size)
  ((bF.out.keep λb o hb=>(aG.trans a6).cell (p:=⟨b,o,R⟩) hb).more (aG.trans a6).size) ((aA.gr (AD _) a6).more a6.size) bG)
 have aT:=AB (HX7.out.trans (aG.trans a6));have HV8:=AB aL;have a8:(E1.L:Nat)=3:=rfl;clear aA aG aL a6 bG HGU;rw[a8];go_wp2_with fail;rw[<-HV8.out];refine bH.out.LT ?_;rintro e w9 ⟨aM,A10,f6,rfl,aU⟩;have hzz9:=(aT.out.trans aM).size;have HB9:=AB (HB5.out.gr (by omega) (aT.out.trans aM));have bX:=AB (bV.out.gr (by omega) (aT.out.trans aM));have bY:=AB (HI8.out.gr (AD _) (aT.out.trans aM))
 have bZ:=AB aU;clear aM aU bH HN7 HC7 bF bE;have aV:=AB (kF w9);go_wp2_with fail;refine aV.out.LT ?_;rintro e g11 ⟨c0,rfl,aA,hg⟩;have aH:=AB (i7 A c0 c 3 E1 E1 g11 g11.heap.size (AD _) ((HB9.out.gr (by omega) hg).more (by have:=hg.size;omega)) aA (by decide) (by decide) (by decide) (by decide));rw[Ci (rfl:E1=E1)] at aH;have bI:=AB hg;have hzq11:=hg.size
 clear aA hg aV;have a8:(E1.L:Nat)=3:=rfl;rw[a8];rw[a8] at aH;clear a8;go_wp2_with fail;refine aH.out.LT ?_;rintro e s11 ⟨rfl,hg⟩;have aN:=AB (bI.out.trans hg);have hzs11:=(bI.out.trans hg).size;clear hg aH;have HGM:=AB (bX.out.gr (by omega) aN.out);have HIM:=AB (bY.out.gr (by omega) aN.out);have f9:=AB (bZ.out.gr (by omega) aN.out);have aW:=AB (kF s11)
 go_wp2_with fail;refine aW.out.LT ?_;rintro e g12 ⟨c2,rfl,aA,hg⟩;have aI:=AB (i7 A5 c2 k5 3 E1 E1 g12 g12.heap.size (AD _) ((HGM.out.gr (by omega) hg).more (by have:=hg.size;omega)) aA (by decide) (by decide) (by decide) (by decide));rw[Ci (rfl:E1=E1)] at aI;have bJ:=AB hg;have hzq12:=hg.size;clear aA hg aW;have a8:(E1.L:Nat)=3:=rfl;rw[a8];rw[a8] at aI
 clear a8;go_wp2_with fail;refine aI.out.LT ?_;rintro e s12 ⟨rfl,hg⟩;have bK:=AB (bJ.out.trans hg);have hzs12:=(bJ.out.trans hg).size;clear hg aI;obtain⟨bL,aD⟩:∃V:L,V=s12.Li (cq #[u bk 1,u bk 2] 3):=⟨_,rfl⟩;have a7:Gr s12 bL:=aD▸(Gr.refl s12).Li _;have aO:=AB (eK A8 (J ⟨s12.heap.size,0,R⟩) k8 2 [1,2] [1,2] bL bL.heap.size (AD _) (((HIM.out.gr (by omega) bK.out).gr (by omega) a7).more (by have:=a7.size;omega)) (cP (t:=3) (f:=(0,0)) (by rw[aD];exact heap_alloc_new _ _) (by rw[aD];simp)) (by decide) (by decide))
 rw[Ci (rfl:([1,2]:List Int)=[1,2])] at aO;have c3:=AB aD;have bM:=AB a7;have hzq13:=a7.size;clear a7 aD;go_wp2_with fail;rw[<-c3.out];refine aO.out.LT ?_;rintro e aX ⟨rfl,hg⟩;have c4:=AB (bM.out.trans hg);have hzs13:=(bM.out.trans hg).size;clear hg aO;obtain⟨bN,aF⟩:∃V:L,V=aX.Li (cq #[u bk 8,u bk 0,u bk (-8)] 3):=⟨_,rfl⟩;have a7:Gr aX bN:=aF▸(Gr.refl aX).Li _
 have aP:=AB (eK A10 (J ⟨aX.heap.size,0,R⟩) f6 3 [8,0,-8] [8,0,-8] bN bN.heap.size (AD _) ((((f9.out.gr (by omega) bK.out).gr (by omega) c4.out).gr (by omega) a7).more (by have:=a7.size;omega)) (cP (t:=3) (f:=(0,0)) (by rw[aF];exact heap_alloc_new _ _) (by rw[aF];simp)) (by decide) (by decide));rw[Ci (rfl:([8,0,-8]:List Int)=[8,0,-8])] at aP;have c5:=AB aF;have bO:=AB a7
 have hzq14:=a7.size;clear a7 aF;go_wp2_with fail;rw[<-c5.out];refine aP.out.LT ?_;rintro e s14 ⟨rfl,hg⟩;have HT14:=AB (bO.out.trans hg);have hzs14:=(bO.out.trans hg).size;clear hg aP;go_wp2
section
variable {Q:bb->L->Prop} {b:bw} {a:Act} {todo:List ew} {cs:List bw} {w:L} {BB:cf->Bool}
def sg (hQ:∀g w W,Ek w W->Q g w->Q g W)(hf:BB b.fn=I)(hg:∀o,({ b.at a todo with mode:=.returning }:bw).oper?=J o->aH Z o.op=I)(h:∀τ d,(stepG Z I (X { b.at a todo with mode:=.returning } cs) (on w τ d)).goes (λg' w' _=>g'.callers≠[]/\∃W,Ek W w'/\EL Z BB Q 0 g' W)) :
  EL Z BB Q 0 (X { b.at a todo with mode:=.returning } cs) w:=by
 refine EL.step ⟨hf,hg⟩ λτ d=>?_;have:=h τ d;cases hs:stepG Z I (X { b.at a todo with mode:=.returning } cs) (on w τ d) with
 |go g' w' es =>
  rw[hs] at this;obtain⟨h1,W,h2,h3⟩:=this;exact⟨g',w',es,rfl,h1,h3.same hQ h2⟩
 |_=>rw[hs] at this;exact this.elim
end
def yz:codeOk DP Io br I Ol=true:=by kernel_rfl
def wW {QT:bb->L->Prop}{C:bw}{cs:List bw}(d2:∀g w W,Ek w W->QT g w->QT g W)
  (h:∀(a':Act) (todo:List ew) (w':L),a'.tmps.LE 0 undef=.bool I->a'.defers=[]->(∀o,({ (base 14).at a' todo with mode:=.returning }:bw).oper?=J o->aH Z o.op=I)->EL Z Ie QT 0 (X { (base 14).at a' todo with mode:=.returning } (C::cs)) w'):jY QT (C::cs):=by
 intro K A c B xs w' U ρ cY ho hU u1 u2 u3 u4 d3 cZ;obtain⟨y0,y1,y2,y3,y4,y5,y6,y7,y8,y9,a6,a7,a8,aA,aB,aC,aD,aF,aG,aI,aJ,aK,aL,aM,aN,aO,aP,aQ,aR,aS,aT,aU,aW,aX,aY,aZ,b5,b6,b7,b8,b9,bA,bB,bC,bD,bE,bF,bG,bH,bI,bJ,bK,bL,bM,bN,bO,bP,bQ,bR,bS,bT,bU,bV,bW,bX,bY,bZ,c0,c2,c3,c4,c5,cA,cB,cC,cD,cE,cF,cG,cH,cI,cJ,cK,cL,cM,cN,cO,cP,cQ,cR,cS,cT,cU,cV,cW,rfl⟩:=Aa hU
 have u1:y1=u bk 1:=u1;have u2:y2=u bk 0:=u2;have u3:y3=Y A 3 c:=u3;have u4:y4=u bk 0:=u4;subst u1 u2 u3 u4;have cX:FX w' w'.heap.size A E1:=by
  obtain⟨A',c',hv,hg⟩:=ho.Oc;have hA:A=A':=by injection hv
  subst hA;have hl:=ul;rw[cY] at hl;have:aV ρ 3=E1:=by simpa using hl
  rw[<-this];exact hg
 have zR:Ej DP Io Dd br (EI K) ((base 14).at ⟨#[y0,u bk 1,u bk 0,Y A 3 c,u bk 0,y5,y6,y7,y8,y9,a6,a7,a8,aA,aB,aC,aD,aF,aG,aI,aJ,aK,aL,aM,aN,aO,aP,aQ,aR,aS,aT,aU,aW,aX,aY,aZ,b5,b6,b7,b8,b9,bA,bB,bC,bD,bE,bF,bG,bH,bI,bJ,bK,bL,bM,bN,bO,bP,bQ,bR,bS,bT,bU,bV,bW,bX,bY,bZ,c0,c2,c3,c4,c5,cA,cB,cC,cD,cE,cF,cG,cH,cI,cJ,cK,cL,cM,cN,cO,cP,cQ,cR,cS,cT,cU,cV,cW],[]⟩ [.code Ol]) ((base 14).at ⟨#[y0,u bk 1,u bk 0,Y A 3 c,u bk 0,y5,y6,y7,y8,y9,a6,a7,a8,aA,aB,aC,aD,aF,aG,aI,aJ,aK,aL,aM,aN,aO,aP,aQ,aR,aS,aT,aU,aW,aX,aY,aZ,b5,b6,b7,b8,b9,bA,bB,bC,bD,bE,bF,bG,bH,bI,bJ,bK,bL,bM,bN,bO,bP,bQ,bR,bS,bT,bU,bV,bW,bX,bY,bZ,c0,c2,c3,c4,c5,cA,cB,cC,cD,cE,cF,cG,cH,cI,cJ,cK,cL,cM,cN,cO,cP,cQ,cR,cS,cT,cU,cV,cW],[]⟩ [.code Ol]):=by
  refine⟨rfl,?_,.cons (.code yz) .nil,.nil,.run,rfl,⟨(by show ck≠.early;decide),(by show Io 14=I;decide)⟩,.none⟩;exact E9 (l:=[y0,u bk 1,u bk 0,Y A 3 c,u bk 0,y5,y6,y7,y8,y9,a6,a7,a8,aA,aB,aC,aD,aF,aG,aI,aJ,aK,aL,aM,aN,aO,aP,aQ,aR,aS,aT,aU,aW,aX,aY,aZ,b5,b6,b7,b8,b9,bA,bB,bC,bD,bE,bF,bG,bH,bI,bJ,bK,bL,bM,bN,bO,bP,bQ,bR,bS,bT,bU,bV,bW,bX,bY,bZ,c0,c2,c3,c4,c5,cA,cB,cC,cD,cE,cF,cG,cH,cI,cJ,cK,cL,cM,cN,cO,cP,cQ,cR,cS,cT,cU,cV,cW]) d3
 have hs:=(ej (H:=Dd) fR).seg (b:=base 14) (a:=⟨#[y0,u bk 1,u bk 0,Y A 3 c,u bk 0,y5,y6,y7,y8,y9,a6,a7,a8,aA,aB,aC,aD,aF,aG,aI,aJ,aK,aL,aM,aN,aO,aP,aQ,aR,aS,aT,aU,aW,aX,aY,aZ,b5,b6,b7,b8,b9,bA,bB,bC,bD,bE,bF,bG,bH,bI,bJ,bK,bL,bM,bN,bO,bP,bQ,bR,bS,bT,bU,bV,bW,bX,bY,bZ,c0,c2,c3,c4,c5,cA,cB,cC,cD,cE,cF,cG,cH,cI,cJ,cK,cL,cM,cN,cO,cP,cQ,cR,cS,cT,cU,cV,cW],[]⟩) (c:=Ol) (k:=[]) (C:=C) (cs:=cs) (Q:=QT) (w:=w') (K0:=K) zR (λ_ _=>Bc _) (Bc _) (λb _ hb=>by cases hb) (λb hb=>by cases hb) (λb hb _=>cZ b hb)
  (λs h=>by cases h) (λ_ _ _ _ _ _ _ _ _ _ _ h=>by cases h) (.inr ⟨_,_,DG,rfl⟩) d2
  (N:=λe a' _=>e=.ret/\a'.tmps.LE 0 undef=.bool I/\a'.defers=[]) (λτ d=>wV A c y0 y5 y6 y7 y8 y9 a6 a7 a8 aA aB aC aD aF aG aI aJ aK aL aM aN aO aP aQ aR aS aT aU aW aX aY aZ b5 b6 b7 b8 b9 bA bB bC bD bE bF bG bH bI bJ bK bL bM bN bO bP bQ bR bS bT bU bV bW bX bY bZ c0 c2 c3 c4 c5 cA cB cC cD cE cF cG cH cI cJ cK cL cM cN cO cP cQ cR cS cT cU cV cW (on w' τ d) cX)
  (λa' w' h=>by cases h.1) (λa' w' todo hn hpl=>h a' todo w' hn.2.1 hn.2.2 hpl)
 exact hs
structure L9 (f:cf) where
 fn:Func
 t:Nat
 hf:Tryz.prog.L[f]?=J fn
 hres:fn.results=#[.tmp t]
 looked:Ie f=I
 fr:Act->bw
 N:Act->Prop
 back:∀a,N a->jY (Em.Left Z f λv _=>v=.bool I) (fr a::[bad])
def fF {P:Program}{N K:Nat}{m m1 m2:Machine}{t t1 t2:Trace}(h:runNT P N m t=(.next m1,t1))(k:runNT P K m1 t1=(.next m2,t2)):runNT P (N+K) m t=(.next m2,t2):=by
 rw[cT h];exact k
def Ow {f:cf}{fn:Func}{t:Nat}(hf:Tryz.prog.L[f]?=J fn)(hres:fn.results=#[.tmp t])(hb:Ie f=I){H:Hid}{β:Ef}{g A:bb}{w:L}(hg:FV PP KQ H I Ie [] β g A)(hl:Em.Left Z f (λv _=>v=.bool I) g w)(W:L) :
  A.status=.L/\stepG Z I A W=.ended (.done (.bool I)) W #[]:=by
 obtain⟨w0,v,fr,hs,rfl,rfl,zR,hm,hd,hk,G2,hfn,hr⟩:=hl;have aD:=hg.top.IZ (show Ie fr.fn=I by rw[zR];exact hb);have e0:=hg.status.2;have e1:=hg.dying.2;have e2:=hg.offers.2;have zW:=hg.callers;obtain⟨FR,aF,st,dy,off⟩:=A;dsimp only at e0 e1 e2 zW aD;subst e0 e1 e2;have aG:aF=[]:=by
  cases zW with
  |base=>rfl
  |cons _ h=>exact AH rfl h.ne
 subst aG;refine⟨rfl,?_⟩;obtain⟨aH,tmps,todo,defers,mode,kind,round⟩:=fr;obtain⟨aL,aA,aJ,aB,aC,aK,aI⟩:=FR;obtain⟨a1,a2,a3,a4,a5,a6,a7,a8⟩:=aD;dsimp only[ER] at a1 a2 a3 a4 a5 a6 a7 a8 hm hd hk hfn hr zR;subst a1 a6 hm hd hk zR;have d2:aB=[]:=by cases a4;rfl
 have m2:aC=.returning:=by cases a5;rfl
 subst d2 m2;rw[hf] at hfn;cases hfn;have hv:tmps.LE t undef=.bool true:=by
  have:=ea hres tmps Z w0;rw[hr] at this;injection this with h1 _
  exact h1.LT
 have hV:=a2.LE t (DX.undef (SP KQ H) β);rw[hv] at hV;have hV2:aA.LE t undef=.bool true:=by
  generalize aA.LE t undef=V at hV;cases hV;rfl
 have zz:=ea hres aA Z W;rw[hV2] at zz;have he2:=events_results_tmp (P:=Z) (w:=W) hres aA #[];have zU:¬2=aH:=λe=>by subst e;revert hb;decide
 simp[stepG,unwind,doReturn,hf,zz,he2,seen,GStep.after,zU]
section
variable {f:cf}
def Ja (E:L9 f)(g:bb)(w:L):Prop:=∃a:Act,E.N a/\Lv (E.fr a::[bad]) g w
def wX (E:L9 f){A:bb}{W:L}{x:Lone}(ht:Tw PP KQ Ie I 0 (λ_=>False) ⟨λB=>B<W.heap.size,W,0⟩ x A W)(hx:EL Z Ie (Ja E) 0 x.g x.w)(hT:x.T=[])(hH:∀b,x.H b=br) :
  ∃N last o w' t',runNT Z (N+1) (dt #[A] W R) #[]=(.ended o w',t')/\runN Z N (dt #[A] W R)=.next last/\step Z last=.ended o w' /\
   cu Z (λv w'=>v=.bool I/\(w'.os=W.os/\w'.output=W.output)/\W.heap.size<=w'.heap.size/\∀B,B<W.heap.size->w'.heap[B]?=W.heap[B]?) last o w' t':=by
 have hb:I9 Z (λ_=>False) #[A] W #[] (λ_=>0):=by
  refine⟨⟨λi g hi hg=>?_,λj _=>rfl⟩,⟨past_nil.clean,λi a ha=>?_,past_nil.over,past_nil.hears,λop hop=>by simp at hop⟩,λi op x h=>by simp at h,λi op h=>by simp at h,λB h=>h.elim⟩
  .have:=(AC.1 hg).1;simp at this;omega
  .simp[touchAt,Trace.act?] at ha
 obtain⟨N1,m1,t1,r1,aO,W1,aI,q1,x1,A1,rfl,a1,a2,a3,a4,a5,a6,a7,a8,a9,a10⟩:=IE (P:=PP) (SB:=KQ) (BB:=Ie) (zZ:=I) (Gn:=0) (zO:=λ_=>False) (Kp:=⟨λB=>B<W.heap.size,W,0⟩) M8 Oo (H:=x.H) (T:=x.T) (β:=x.β) (Q:=Ja E) (λg w h=>by obtain⟨a,_,h⟩:=h;exact .inl (Lv.fn g w h)) (os:=W.os) (ou:=W) (n:=1) (b0:=x.w.heap.size) (B0:=W.heap.size) _ (dt #[A] W R) #[]
  ⟨#[A],W,R,λ_=>0,x,A,0,rfl,rfl,rfl,.of hb,ht,hx,rfl,rfl,Ef.le_refl _,⟨rfl,rfl⟩,⟨AD _,AD _,λb B h=>.inl h⟩,rfl⟩
 obtain⟨a,ha,aJ⟩:=a5;have aF:∀b,x1.H b=false:=λb=>by rw[a6];exact hH b
 obtain⟨N2,m2,t2,r2,aB,W2,aG,q2,A2,aD,g2,w2,rfl,b1,b2,b3,b4,b5,b6,b7,b8,b9⟩:=Nw (sl:=aI) a3.Re a4 a1 aJ (Ei _ _) aF (by omega);obtain⟨N3,m3,t3,r3,aP,W3,sl3,q3,x3,A3,rfl,c1,c2,c3,c4,c5,c6,c7,c8,c9,c10⟩:=IE (P:=PP) (SB:=KQ) (BB:=Ie) (zZ:=I) (Gn:=0) (zO:=aD) (Kp:=⟨λB=>B<W.heap.size,W,0⟩) M8 Oo (H:=x1.H) (T:=x1.T) (β:=x1.β) (Q:=Oq (E.fr a::[bad])) (λg w h=>.inl (Oq.fn g w h)) (os:=W2.os) (ou:=W2) (n:=aB.size) (b0:=w2.heap.size) (B0:=W2.heap.size) _ (dt aB W2 aG) t2
  ⟨aB,W2,aG,q2,⟨g2,w2,x1.H,x1.β,x1.T⟩,A2,0,rfl,b1,rfl,.of b3,b4,b5,rfl,rfl,Ef.le_refl _,⟨rfl,rfl⟩,⟨AD _,AD _,λb B h=>.inl h⟩,rfl⟩
 obtain⟨N4,m4,t4,r4,aC,W4,aH,q4,A4,aA,g4,w4,rfl,d1,d2,d3,d4,d5,d6,d7,d8,d9⟩:=Ot (sl:=sl3) Em.Left.same (E.back a ha) c3.Re c4 c1 c5 (Ei _ _) (λb=>by rw[c6];exact aF b) (by omega);obtain⟨N5,m5,t5,r5,aK,W5,aL,q5,x5,A5,rfl,f1,f2,f3,f4,f5,f6,f7,f8,f9,f10⟩:=IE (P:=PP) (SB:=KQ) (BB:=Ie) (zZ:=I) (Gn:=0) (zO:=aA) (Kp:=⟨λB=>B<W.heap.size,W,0⟩) M8 Oo (H:=x3.H) (T:=x3.T) (β:=x3.β) (Q:=Em.Left Z f λv _=>v=.bool I) (λg w h=>.inr ⟨f,_,h⟩) (os:=W4.os) (ou:=W4) (n:=aC.size) (b0:=w4.heap.size) (B0:=W4.heap.size) _ (dt aC W4 aH) t4
  ⟨aC,W4,aH,q4,⟨g4,w4,x3.H,x3.β,x3.T⟩,A4,0,rfl,d1,rfl,.of d3,d4,d5,rfl,rfl,Ef.le_refl _,⟨rfl,rfl⟩,⟨AD _,AD _,λb B h=>.inl h⟩,rfl⟩
 have eT:x5.T=[]:=f7.trans (c7.trans (a7.trans hT));have zA:=fF r1 (fF r2 (fF r3 (fF r4 r5)));have zQ:=f4.gl;unfold Fe at zQ;rw[eT] at zQ;have aM:W5.os=W.os/\W5.output=W.output:=⟨f9.1.trans (d7.1.trans (c9.1.trans (b7.1.trans a9.1))),f9.2.trans (d7.2.trans (c9.2.trans (b7.2.trans a9.2)))⟩;have zx:W.heap.size<=W5.heap.size:=by have:=f10.1;have:=c10.1;have:=a10.1;omega
 obtain⟨M,last,o,w',t',e1,e2,e3,e4⟩:=beside_ends (P:=Z) (Shun:=Jk aA) (B:=W5.heap.size) (D:=λ_ _ _=>False) (Post:=λv w'=>v=.bool I/\(w'.os=W.os/\w'.output=W.output)/\W.heap.size<=w'.heap.size/\∀B,B<W.heap.size->w'.heap[B]?=W.heap[B]?) (λ_ _ _ h=>h.elim) (gs:=aK) (a:=A5) (w:=W5) (sl:=aL) (t:=t5) (q:=q5) (n:=0) f1 f3.Re.lv f3.Re.past (λw1 aN=>by
  obtain⟨d,rfl⟩:=aN;obtain⟨s1,s2⟩:=Ow E.hf E.hres E.looked zQ f5 (W5.at d)
  exact⟨s1,.bool I,#[],s2,λe he=>by simp at he,rfl,aM,zx,λB hB=>(f4.keep B hB).2⟩)
 refine⟨N1+(N2+(N3+(N4+N5)))+M,last,o,w',t',?_,?_,e3,e4⟩
 .exact(cT zA).trans e1
 .have h1:=AZ Prod.fst (cT (K:=M) zA);rw[runNT_fst,runNT_fst] at h1;exact h1.trans e2
end
inductive Mc (ops:Array fl):List Nat->Act->Act->Prop
 |nil (a:Act):Mc ops [] a a
 |cons {i:Nat} {rest:List Nat} {a a':Act} {o:fl} {v:bl}:ops[i]?=J o->Region.wanted o (yielded ops a.tmps)=I->aH Z o.op=I->(∀w,(fo a.eval o).run Z w=.ok (.value v) w)->Mc ops rest (a.put o.dst v) a'->Mc ops (i::rest) a a'
def sj {Q:bb->L->Prop}(hQ:∀g w W,Ek w W->Q g w->Q g W){b:bw}(hB:Ie b.fn=I)(hk:b.kind≠.early){ops:Array fl}{k:List ew}{C:bw}{cs:List bw}{w:L}{rest:List Nat}{a a':Act}(h:Mc ops rest a a')
  (he:EL Z Ie Q 0 (X (b.at a' (.inRegion ops []::k)) (C::cs)) w):EL Z Ie Q 0 (X (b.at a (.inRegion ops rest::k)) (C::cs)) w:=by
 induction h with
 |nil a=>exact he
 |@cons i rest a a' o v ho hw pl hv _ ih =>
  have hn:bH Z (.inRegion ops (i::rest)::k)=true:=by
   show(match ops[i]? with|some o=>aH Z o.op|none=>I)=I;rw[ho];exact pl
  refine ar hQ hB hn λτ d=>?_;rw[stepG_value ho hw hk (hv _)];simp only[goes_go];exact⟨Ei _ _,w,Dc,ih he⟩
structure LawIn (f:cf)(ops:Array fl)(i:Nat)(rest:List Nat)(more:List ew) where
 fn:Func
 o:fl
 d:Nat
 t:Nat
 n:Nat
 N:Act->Prop
 hf:Tryz.prog.L[f]?=J fn
 ho:ops[i]?=J o
 PM:o.dst=J d
 hop:∃ts,o.op=.call { callee:=.value (.func 14),args:=#[],argTypes:=ts }
 plain:aH Z o.op=I
 hres:fn.results=#[.tmp t]
 looked:Ie f=I
 hn:fn.ntmps=n
 want:∀a,N a->Region.wanted o (yielded ops a.tmps)=I
 Lu:∀a,N a->a.defers=[]
 pure:∀a,N a->∃a',Mc ops rest (a.put (J d) (.bool I)) a'/\a'.defers=[]/\a'.tmps.LE t undef=.bool I
section
variable {f:cf} {ops:Array fl} {i:Nat} {rest:List Nat} {more:List ew}
def LawIn.tgt (_:LawIn f ops i rest more):List Item:=.inRegion ops (i::rest)::.code .ret::more
def LawIn.fr (E:LawIn f ops i rest more)(a:Act):Frame:=(base f).at a E.tgt
def LawIn.go (E:LawIn f ops i rest more){a:Act}(ha:E.N a){cs:List bw}(zW:cs≠[]){w:L}:EL Z Ie (Lv (E.fr a::cs)) 0 (X ((base f).at a E.tgt) cs) w:=by
 have hQ:∀g w W,Ek w W->Lv (E.fr a::cs) g w->Lv (E.fr a::cs) g W:=Lv.same;have hB:Ie (base f).fn=true:=E.looked;obtain⟨ts,g3⟩:=E.hop;have hn:bH Z E.tgt=true:=by
  show(match ops[i]? with|some o=>aH Z o.op|none=>I)=I;rw[E.ho];exact E.plain
 refine ar hQ hB hn λτ d=>?_;refine aD (o:=E.o) E.ho (E.want a ha) (by show ck≠.early;decide) g3 ek (by kernel_rfl) (by kernel_rfl) ⟨Ei _ _,w,Dc,?_⟩;have em:(#[]:Array Operand).map a.eval=#[]:=by simp
 rw[em];exact wH (cs:=E.fr a::cs) (Ei _ _) w
def LawIn.back (E:LawIn f ops i rest more){a:Act}(ha:E.N a):jY (Em.Left Z f λv _=>v=.bool I) (E.fr a::[bad]):=by
 have hQ:∀g w W,Ek w W->Em.Left Z f (λv _=>v=.bool I) g w->Em.Left Z f (λv _=>v=.bool I) g W:=Em.Left.same;have hB:Ie (base f).fn=true:=E.looked;refine wW hQ λa' todo w' hv a7 hpl=>?_;refine sg hQ (by show Ie 14=I;decide) hpl λτ dd=>?_;refine goes_leave1 (b:=base 14) (b₀:=base f) (a₀:=a) (ops:=ops) (i:=i) (rest:=rest) (k:=.code .ret::more) rfl a7 ek rfl ⟨Ei _ _,w',Dc,?_⟩
 rw[hv];have e1:(ops[i]?.bind (·.dst))=J E.d:=by rw[E.ho];exact E.PM
 rw[e1];obtain⟨a2,hp,a8,a6⟩:=E.pure a ha;refine sj hQ hB (by show ck≠.early;decide) hp ?_;refine ar hQ hB rfl λτ dd=>?_;rw[stepG_region_end];simp only[goes_go];refine⟨Ei _ _,w',Dc,?_⟩;refine ar hQ hB rfl λτ dd=>?_;rw[stepG_ret'];simp only[goes_go];refine⟨Ei _ _,w',Dc,.fin ?_⟩;refine⟨w',.bool I,_,⟨rfl,rfl,rfl⟩,rfl,rfl,rfl,rfl,a8,rfl,E.fn,E.hf,?_⟩;have:=ea E.hres a2.tmps Z w'
 rw[a6] at this;exact this
variable {K:Nat->Bool} {k:Nat->Nat->Bool} {W:L} {args:Array bl}
def sk (E:L9 f){n:Nat}(hn:E.fn.ntmps=n)(tg:Act->List ew)(aA:∀a c t,tg a≠.code c::t)(hE:∀a,E.N a->∀w,EL Z Ie (Lv (E.fr a::[bad])) 0 (X ((base f).at a (tg a)) [bad]) w){C:Code}(a6:E.fn.body=J C)(hput:(f != 14&&Jh f)=I)(aB:Io f=I)(a7:codeOk DP Io br I C=I)(aC:∀S,Ma S K k W)(a8:∀S,D6 S (EI λb=>K b=I) args args)
  (zK:∀τ d,bB DP tg C (λa _=>E.N a) ⟨args++bs (n-args.size) undef,[]⟩ (on (aZ K k W) τ d)) :
  EL Z Ie (Ja E) 0 (X (bq Z f args .normal) [bad]) (aZ K k W):=by
 have hQ:∀g w W,Ek w W->Ja E g w->Ja E g W:=λg w W s ⟨a,h1,h3⟩=>⟨a,h1,Lv.same g w W s h3⟩;rw[enter_at _ E.hf a6,hn];have zR:Ej DP Io Dd br (EI λb=>K b=I) ((base f).at ⟨args++bs (n-args.size) undef,[]⟩ [.code C]) ((base f).at ⟨args++bs (n-args.size) undef,[]⟩ [.code C]) :=
  ⟨rfl,(a8 _).append (.replicate (.undef _ _) _),.cons (.code a7) .nil,.nil,.run,rfl,⟨(by show ck≠.early;decide),aB⟩,.none⟩
 refine(ej (H:=Dd) fR).PL (b:=base f) (a:=⟨args++bs (n-args.size) undef,[]⟩) (tgt:=tg) (c:=C) (k:=[]) (C:=bad) (cs:=[]) (Q:=Ja E) (w:=aZ K k W) (K0:=λb=>K b=I) zR (λ_ _=>Bc _) (Bc _) (λb _ hb=>by cases hb) (λb hb=>by cases hb) (λb hb _=>Mb (aC _) b hb)
  (λa c t h=>aA a c t (by simpa using h)) (.inr ⟨_,_,Sq.put E.hf hput,rfl⟩) hQ (N:=λa _=>E.N a) zK (λa' w' hn=>?_)
 rw[Ct];exact(hE a' hn _).LT λg w h=>⟨a',hn,h⟩
def qq (E:L9 f){n:Nat}(hn:E.fn.ntmps=n)(tg:Act->List ew)(aB:∀a c t,tg a≠.code c::t)(hE:∀a,E.N a->∀w,EL Z Ie (Lv (E.fr a::[bad])) 0 (X ((base f).at a (tg a)) [bad]) w){C:Code}(a8:E.fn.body=J C)(hput:(f != 14&&Jh f)=I)(aC:Io f=I)(hsm:KQ f=I)(aA:codeOk DP Io br I C=I)(a7:∀S,Ma S K k W)(a6:∀S,D6 S (EI λb=>K b=I) args args)
  (zK:∀τ d,bB DP tg C (λa _=>E.N a) ⟨args++bs (n-args.size) undef,[]⟩ (on (aZ K k W) τ d)) :
  ∃M last o w' t',runNT Z (M+1) (solo (X (bq Z f args .normal) []) W) #[]=(.ended o w',t')/\runN Z M (solo (X (bq Z f args .normal) []) W)=.next last/\step Z last=.ended o w' /\
   cu Z (λv w'=>v=.bool I/\(w'.os=W.os/\w'.output=W.output)/\W.heap.size<=w'.heap.size/\∀B,B<W.heap.size->w'.heap[B]?=W.heap[B]?) last o w' t' :=
 wX E (A:=X (bq Z f args .normal) []) (W:=W) (x:=⟨X (bq Z f args .normal) [bad],aZ K k W,Hid.nb,EI λb=>K b=I,[]⟩)
  ⟨⟨E4 (P:=PP) (M8 _) (.inl hsm) (a6 _) .normal (by decide),.base,⟨rfl,rfl⟩,⟨rfl,rfl⟩,⟨rfl,rfl⟩⟩,od rfl (λ_=>rfl) (a7 _),rfl,λ_ _ _ h=>h.elim,λB hB=>⟨hB,rfl⟩,λb B hb _=>by
   obtain⟨hk,rfl⟩:=hb;obtain⟨C,t,f,h1,_⟩:=a7 (SP KQ Hid.nb) b hk
   exact .inr (si hk h1)⟩ (sk E hn tg aB hE a8 hput aC aA a7 a6 zK) rfl λ_=>rfl
variable {N8:Array fl} {i2:Nat} {M3:List Nat} {Pp:List ew}
noncomputable def LawIn.two (E:LawIn f ops i rest more)(F:LawIn f N8 i2 M3 Pp)(p:Act->Bool):L9 f where
 fn:=E.fn
 t:=E.t
 hf:=E.hf
 hres:=E.hres
 looked:=E.looked
 fr a:=if p a then E.fr a else F.fr a
 N a:=(p a=I/\E.N a)\/(p a=br/\F.N a)
 back a h:=by
  obtain⟨h1,h2⟩|⟨h1,h2⟩:=h
  .rw[AJ h1];exact E.back h2
  .rw[AE (by rw[h1];simp)];exact F.back h2
def m7 (E:LawIn f ops i rest more)(F:LawIn f N8 i2 M3 Pp)(p:Act->Bool){C:Code}(a6:E.fn.body=J C)(hput:(f != 14&&Jh f)=I)(aA:Io f=I)(hsm:KQ f=I)(a7:codeOk DP Io br I C=I)(aB:∀S,Ma S K k W)(a8:∀S,D6 S (EI λb=>K b=I) args args)
  (zK:∀τ d,bB DP (λa=>if p a then E.tgt else F.tgt) C (λa _=>(E.two F p).N a) ⟨args++bs (E.n-args.size) undef,[]⟩ (on (aZ K k W) τ d)) :
  ∃M last o w' t',runNT Z (M+1) (solo (X (bq Z f args .normal) []) W) #[]=(.ended o w',t')/\runN Z M (solo (X (bq Z f args .normal) []) W)=.next last/\step Z last=.ended o w' /\
   cu Z (λv w'=>v=.bool I/\(w'.os=W.os/\w'.output=W.output)/\W.heap.size<=w'.heap.size/\∀B,B<W.heap.size->w'.heap[B]?=W.heap[B]?) last o w' t' :=
 qq (E.two F p) E.hn (λa=>if p a then E.tgt else F.tgt) (λa c t h=>by
  split at h<;>simp[LawIn.tgt] at h) (λa h w=>by
  show EL Z Ie (Lv ((if p a then E.fr a else F.fr a)::[bad])) 0 _ w;obtain⟨h1,h2⟩|⟨h1,h2⟩:=h
  .rw[AJ h1,AJ h1];exact E.go h2 (Ei _ _)
  .rw[AE (by rw[h1];simp),AE (by rw[h1];simp)];exact F.go h2 (Ei _ _)) a6 hput aA hsm a7 aB a8 zK
end
def xN {a:Act}{i:Nat}{v x:bl}{d:Nat}(h:a.tmps.LE i undef=x)(zU:d≠i):(a.put (J d) v).tmps.LE i undef=x:=by
 rw[<-h];show(a.tmps.L d v).LE i undef=a.tmps.LE i undef;simp[Bx,B3,zU]
def El {a:Act}{v:bl}{d:Nat}(h:d<a.tmps.size):(a.put (J d) v).tmps.LE d undef=v:=by
 show(a.tmps.L d v).LE d undef=v;simp[Array.getD,h]
def jv {a:Act}{v:bl}{d:Nat}:(a.put (J d) v).tmps.size=a.tmps.size:=Array.size_setIfInBounds
def uU {ops:Array fl}{a:Act}{j d:Nat}{b:Bool}(ho:(ops[j]?).bind (·.dst)=J d)(hd:d<a.tmps.size)(h:a.tmps.LE d undef=.bool b):yielded ops a.tmps j=J b:=by
 unfold yielded;rw[ho];have:a.tmps[d]?=J (.bool b):=by
  rw[Bx,AL hd] at h;rw[AL hd];exact AZ J h
 simp[this]
noncomputable def P5:LawIn 3 GJ 9 [10,11] [.code gG] where
 fn:=di
 o:=GJ.LE 9 default
 d:=71
 t:=2
 n:=184
 N:=yP
 hf:=df
 ho:=by kernel_rfl
 PM:=by kernel_rfl
 hop:=⟨#[],by kernel_rfl⟩
 plain:=by kernel_rfl
 hres:=by kernel_rfl
 looked:=by decide
 hn:=eo
 want a h:=by
  obtain⟨h1,h2,h4⟩:=h;have hg:(GJ.LE 9 default).guard=J (8,I):=by kernel_rfl
  unfold Region.wanted;rw[hg];dsimp only;rw[uU (d:=70) (by kernel_rfl) (by rw[h1];decide) h4];rfl
 Lu a h:=h.2.1
 pure a h:=by
  obtain⟨h1,h2,h4⟩:=h;have g1:(GJ.LE 10 default).guard=none:=by kernel_rfl
  have g2:(GJ.LE 11 default).guard=none:=by kernel_rfl
  have o1:(GJ.LE 10 default).op=.pick (.tmp 70) (.tmp 71) (.const (.bool br)):=by kernel_rfl
  have o2:(GJ.LE 11 default).op=.assign (.tmp 72):=by kernel_rfl
  have d1:(GJ.LE 10 default).dst=J 72:=by kernel_rfl
  have d2:(GJ.LE 11 default).dst=J 2:=by kernel_rfl
  have s1:(a.put (J 71) (.bool I)).tmps.size=184:=by rw[jv];exact h1
  refine⟨((a.put (J 71) (.bool I)).put (J 72) (.bool I)).put (J 2) (.bool I),.cons (o:=GJ.LE 10 default) (v:=.bool I) (by kernel_rfl) (bg g1) (by kernel_rfl) (λw=>?_) (.cons (o:=GJ.LE 11 default) (v:=.bool I) (by kernel_rfl) (bg g2) (by kernel_rfl) (λw=>?_) ?_),h2,El (by rw[jv,s1];decide)⟩
  .unfold fo;rw[o1];have e1:(a.put (J 71) (.bool I)).eval (.tmp 70)=.bool true:=xN h4 (by decide);have e2:(a.put (J 71) (.bool I)).eval (.tmp 71)=.bool true:=El (by rw[h1];decide);simp[e1,e2,asBool]
  .unfold fo;rw[o2,d1];have e1:((a.put (J 71) (.bool I)).put (J 72) (.bool I)).eval (.tmp 72)=.bool true:=El (by rw[s1];decide);simp[e1]
  .rw[d1,d2];exact .nil _
noncomputable def Av:LawIn 3 Jm 0 [1] [] where
 fn:=di
 o:=Jm.LE 0 default
 d:=183
 t:=2
 n:=184
 N:=yQ
 hf:=df
 ho:=by kernel_rfl
 PM:=by kernel_rfl
 hop:=⟨#[],by kernel_rfl⟩
 plain:=by kernel_rfl
 hres:=by kernel_rfl
 looked:=by decide
 hn:=eo
 want a h:=bg (by kernel_rfl)
 Lu a h:=h.2
 pure a h:=by
  obtain⟨h1,h2⟩:=h;have g1:(Jm.LE 1 default).guard=none:=by kernel_rfl
  have o1:(Jm.LE 1 default).op=.assign (.tmp 183):=by kernel_rfl
  have d1:(Jm.LE 1 default).dst=J 2:=by kernel_rfl
  have s1:(a.put (J 183) (.bool I)).tmps.size=184:=by rw[jv];exact h1
  refine⟨(a.put (J 183) (.bool I)).put (J 2) (.bool I),.cons (o:=Jm.LE 1 default) (v:=.bool I) (by kernel_rfl) (bg g1) (by kernel_rfl) (λw=>?_) ?_,h2,El (by rw[s1];decide)⟩
  .unfold fo;rw[o1];have e1:(a.put (J 183) (.bool I)).eval (.tmp 183)=.bool true:=El (by rw[h1];decide);simp[e1]
  .rw[d1];exact .nil _
def uV:codeOk DP Io br I aB=true:=by kernel_rfl
def Nc (A:Option eb)(b:Nat):Bool:=match A with|some a=>b==a.Lo|none=>br
def Nd (A:Option eb)(n:Nat)(_ i:Nat):Bool:=match A with|some a=>decide (a.off<=i)&&decide (i<a.off+n)|none=>br
def nF (b o n:Nat):(⟨b,o,R⟩:eb).add n=⟨b,o+n,R⟩:=by
 unfold Addr.add;split
 .rename_i h
  first
   |(have h0:n=0:=h;subst h0;rfl)
   |(simp at h)
   |(simp at h;subst h;rfl)
 .rfl
def OL {A:Option eb}{len cap:Nat}{zs:List Int}{W:L}(hz:len<=zs.L)(hA:∀a,A=J a->a.spot=R/\∃C t f,W.heap[a.Lo]?=J (.cells C t f))(hnil:A=R->len=0)
  (hcell:∀a i,A=J a->i<zs.L->W.L (a.add i)=J (u bk (zs.LE i 0))) :
  ∃M last o w' t',runNT Z (M+1) (solo (X (bq Z 3 #[Y A len cap] .normal) []) W) #[]=(.ended o w',t')/\runN Z M (solo (X (bq Z 3 #[Y A len cap] .normal) []) W)=.next last/\step Z last=.ended o w' /\
   cu Z (λv w'=>v=.bool I/\(w'.os=W.os/\w'.output=W.output)/\W.heap.size<=w'.heap.size/\∀B,B<W.heap.size->w'.heap[B]?=W.heap[B]?) last o w' t':=by
 refine m7 (K:=Nc A) (k:=Nd A zs.L) P5 Av p3 (C:=aB) (by kernel_rfl) (by decide) (by decide) (by decide) uV (λS b hb=>?_) (λS=>?_) λτ d=>?_
 .cases A with
  |none=>cases hb
  |some a =>
   have e:b=a.Lo:=by simpa [Nc] using hb
   subst e;obtain⟨hs,C,t,f,h1⟩:=hA a rfl;refine⟨C,t,f,h1,λi v hk hv=>?_⟩;simp only[Nd,AO,decide_eq_true_eq] at hk;have:=hcell a (i-a.off) rfl (by omega);obtain⟨b,o,s⟩:=a;dsimp only at hs h1 hk;subst hs;rw[nF] at this;simp only[Cq,Ba,if_false,World.cell?,h1] at this;rw[show o+(i-o)=i by omega,hv] at this;cases this;exact .int _ _
 .cases A with
  |none=>exact .one (.GA _ _)
  |some a =>
   obtain⟨b,o,s⟩:=a;exact .one (.slice _ _ _ _ ⟨by simp[Nc],rfl⟩)
 .have zk:(zs.LT len).L=len:=by simp[Nat.min_eq_left hz]
  have:=s6 A cap (zs.LT len) (on (aZ (Nc A) (Nd A zs.L) W) τ d) (λzU=>?_) _ rfl
  .rw[zk] at this;have e1:P5.n=184:=rfl;have e2:P5.n-(#[Y A len cap]:Array bl).size=183:=rfl;rw[e2];exact this
  .cases A with
   |none =>
    have:=hnil rfl;subst this;exact AH rfl zU
   |some a =>
    obtain⟨hs,C,t,f,h1⟩:=hA a rfl;obtain⟨b,o,s⟩:=a;dsimp only at hs h1;subst hs;refine⟨b,o,rfl,?_,λi x hx=>?_⟩
    .show b<(aZ _ _ W).heap.size;rw[oa];exact(AC.1 h1).1
    .have hi : i < len := by
      have:=(Bd.1 hx).1;omega
     have a6:i<zs.L:=by omega
     show(aZ _ _ W).L ⟨b,o+i,R⟩=_;rw[oc (λ_=>by simp[Nd];omega)];have:=hcell ⟨b,o,R⟩ i rfl a6;rw[nF] at this;rw[this];rw[CF,AJ hi,AG a6] at hx;cases hx;simp[List.getD_eq_getElem?_getD,AG a6]
end Go.Sq
namespace Go.Proofs.YtgllajjoinefcaaGreat
open Go.Sq
open Go.ChangeShapes Go.WideShapes Go.ChangeAt Go.RowKit Go.Conc
def Tryz.LE:ownKnob Tryz.prog.godebug=none:=by kernel_rfl
def Tryz.laidOut:laidOutB Z=true:=by kernel_rfl
def Tryz.P7:Tryz.prog.cellsOf 3=1:=by kernel_rfl
def NG {P:Program}{w:L}{r:Reach}{base:Nat}{t e:cd}{a:eb}{len cap:Nat}(ht:P.LT t=J (.slice e))(h:dn P w r base t (.slice (J a) len cap)):a.spot=R/\∃C ty f,w.heap[a.Lo]?=J (.cells C ty f):=by
 unfold dn at h;rw[ht] at h;dsimp only at h;unfold Cell.okWide at h;rw[ht] at h;dsimp only at h;unfold Cell.ok at h;rw[ht] at h;dsimp only at h;obtain⟨_,_,_,hs,row,cells,a6,_⟩:=h;refine⟨hs,?_⟩;unfold World.shape? at a6;cases ho:w.heap[a.Lo]? with
 |none=>rw[ho] at a6;cases a6
 |some o =>
  rw[ho] at a6;cases o with
  |cells C ty f=>exact⟨C,ty,f,rfl⟩
  |_=>cases a6
def km (os:Os)(started:os.Started)(H:Type)(enc:cd×bl->H)(F:Stop.Interp) :
  ReturnsInLeavingWide { calm:=I } dr os 3 .any (Rows.wolfPaidSpec.pre6 enc Z di [] br) ((OpenSpec.ofChange Rows.wolfPaidSpec).postWith enc Z di F (outsideKept [.timePasses]) br I br):=by
 refine returnsInLeavingWide_of_change_time (C:=dr) Tryz.LE started df
  (ChangeSpec.witness6c (enc:=enc) (C:=dr) ⟨#[],#[.slice R 0 0],[]⟩ 8 (by kernel_rfl) (by kernel_rfl) (by kernel_rfl) (by kernel_rfl)) ?_
 intro W base args ds gs before a6 hW _ _ _;have hval:∀(j:Nat) t v,Tryz.f3.params[j]?=J t->args[j]?=J v->dn Z W .any base t v:=a6;have a7:=hW;obtain⟨p,q,hA0,hV,rfl,_,_⟩:=hW;have hA:DataW.TrodAll enc Z W 0 (λ_=>I) I Tryz.f3.params.toList args.toList ds p:=hA0;rw[Tryz.params3] at hA hval;obtain⟨v0,d0,rfl,rfl,h0⟩:=trodAll_one hA;obtain⟨rfl,rfl⟩:=trodVars_none hV
 have hv0:=hval 0 _ v0 rfl rfl;obtain⟨a0,len,cap,rfl⟩:=okWide_slice cw hv0;have h0k:=h0;obtain⟨fuel,hf⟩:=h0;clear hA0 a6;simp only[Ct] at a7;have zY:∀x∈p,x.Lo<W.heap.size:=λx hx=>by simpa using a7.lt x hx
 have close : ∀ (zs : List Int), len <= zs.L -> (a0 = R -> len = 0) -> (∀ a i, a0 = J a -> i < zs.L -> W.L (a.add i) = J (u bk (zs.LE i 0))) ->
   ∃M last o w' t',runNT Tryz.checked.prog (M+1) (solo (G (bq Tryz.checked.prog 3 #[.slice a0 len cap] .normal) []) W) #[]=(.ended o w',t') /\
    runN Tryz.checked.prog M (solo (G (bq Tryz.checked.prog 3 #[.slice a0 len cap] .normal) []) W)=.next last/\step Tryz.checked.prog last=.ended o w' /\
    cu Tryz.checked.prog (λv W'=>Rows.wolfPaidSpec.post enc Tryz.checked.prog di br I br br W #[.slice a0 len cap] v { W' with os:=W.os }/\Go.ConcM.OsLater W.os W'.os) last o w' t':=by
  intro zs hz hnil hel;obtain⟨M,last,o,w',t',h1,h2,h3,h4⟩:=OL (cap:=cap) hz (λa e=>by subst e;exact NG cw hv0) hnil hel;refine⟨M,last,o,w',t',h1,h2,h3,h4.LT λv hF=>?_⟩;obtain⟨rfl,⟨e1,e2⟩,e3,e4⟩:=hF;refine⟨?_,by rw[e1];exact Go.ConcM.OsLater.refl _⟩;have a8:Below W.heap.size W { w' with os:=W.os,tape:=W.tape }:=⟨rfl,rfl,e2,e3,λk hk=>e4 k hk⟩;have zR:=a8.L (λx=>x∈p/\(x∈([]:List MemPlace)\/x∈p\/x∈([]:List MemPlace)))
  have aA:=Below.trod Tryz.laidOut (by kernel_rfl) (of_decide_eq_true (by kernel_rfl)) h0k a8 zY;refine⟨_,_,_,[],p,[],a7,?_,?_,rfl,zR,λh=>by cases h⟩
  .exact trodAll_mk1 (shut_bool (by first|exact Tryz.underlying1|kernel_rfl) I)
  .have h2:DataW.Trod enc Z { w' with os:=W.os } 0 (λb=>decide (b<W.heap.size)) I 22 (.slice a0 len cap) d0 p:=aA.of_heap (by rfl);exact trodAll_mk1 h2
 obtain⟨zW,hx⟩|⟨a,len',cap',zs,zW,_,hl,hm,hz,hx,hcell,hwz⟩:=open_ints cw Tryz.underlying3 Tryz.P7 hf
 .simp[er] at zW;obtain⟨rfl,rfl,rfl⟩:=zW;exact close [] (by simp) (λ_=>rfl) (λa i e=>by cases e)
 .simp[er] at zW;obtain⟨rfl,rfl,rfl⟩:=zW;simp only[if_true] at hz;exact close zs (by omega) (λe=>by cases e) (λa' i e hi=>by cases e;exact hcell i hi)
theorem wolfPaid_holds:Rows.WolfPaidSaid :=
 OpenClaim.holds_of_wide_leaving_time 3 di rfl rfl rfl rfl rfl rfl rfl ⟨rfl,rfl,rfl,rfl,rfl⟩ rfl rfl rfl rfl rfl yU df xO
  (of_decide_eq_true (by kernel_rfl)) (by unfold Func.isWrapper;first|(rw[AJ (by decide +kernel)];kernel_rfl)|(rw[AE (by decide +kernel)];exact⟨rfl,rfl⟩))
  (λos started H enc _ F=>km os started H enc F)
end Go.Proofs.YtgllajjoinefcaaGreat
