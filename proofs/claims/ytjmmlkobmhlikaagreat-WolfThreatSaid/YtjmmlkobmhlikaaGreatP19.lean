/- Parts of the proof. -/
import Derived.Test.YtjmmlkobmhlikaaGreatP18
import Derived.Test.YtjmmlkobmhlikaaGreatP14
import Derived.Test.YtjmmlkobmhlikaaGreatP07
import Derived.Test.YtjmmlkobmhlikaaGreatP15
import Derived.Test.YtjmmlkobmhlikaaGreatP02
import Derived.Test.YtjmmlkobmhlikaaGreatP10
import Derived.Conc.WgGenDone
import Derived.Conc.WgGenWait
set_option linter.all false
set_option maxHeartbeats 4000000
set_option maxRecDepth 20000
namespace Go.Proofs.YtjmmlkobmhlikaaGreat
open Go.RowKit Go.Iso Go.Co Go.Conc Go.Sq
section
variable {w:World} {co ex:Objs} {tb cb sb cap:Nat} {nA hA:Option Addr} {nc F:Nat} {fc:List Value} {oK oE:Obj}
def tQ:codeOk Tryz.prog SBc true true (.region 9 o9 false)=true:=by kernel_rfl
def td:codeOk Tryz.prog SBc true true (.region 10 o10 false)=true:=by kernel_rfl
def tR:codeOk Tryz.prog SBc true true eL=true:=by kernel_rfl
def tS:o8.all (bP Tryz.prog SBc true true)=true:=by kernel_rfl
def each_in (S:Setting w co ex tb cb sb cap nA hA nc F fc oK oE){ρ0:Ros}(hone:walkL wakeCamp (setsL 3) 2 (firstR (setW 1)) 1=[ρ0])
  (hdo:∀W:World,W.heap[tb]?=some oK->SeesO W ex->Calls uZ F (#[rosV ρ0]++fc.toArray) W λe W'=>e=.returned (.tuple #[])/\KT (λb=>b=tb) W W'/\W'.heap[tb]?=some oE) :
  EachIn SBc SBl BBc w (kxS co ex) (tlS tb) (λb=>hasB co b=true) (OkS (kxS co ex) (tlS tb) w cb (.func (.func F) #[] fc.toArray)) cb sb 8 cap (.func F) #[] fc.toArray (λi=>(setW i:Int)) kindW (λi=>decide (i<=1)) (λ_=>oK) (λ_=>oE) where
 hB:=by decide
 h93:=by decide
 s49:=by decide
 s92:=by decide
 L0:=sY mn
 b0:=mn
 s82:=by decide
 todo:=λH K=>.cons (.inRegion tS) (.cons (.inBlock 1) (.cons (.code tQ) (.cons (.inLoop tR) (.cons (.inBlock 0) (.cons (.code td) .nil)))))
 only:=λw1 w2 h _ hok b hb=>(h b hb).trans (hok b hb)
 ok:=λb hb=>rfl
 box2:=λw' h=>cell_of (S.at_ h).2.2.2.1 0
 hold:=λw' h=>⟨(S.camp w' (S.sees h).left).c2,_,(S.camp w' (S.sees h).left).c0⟩
 setsAt:=λw' i h hi=>(S.camp w' (S.sees h).left).sets i _ (tO i hi)
 camp:=λw' b h hb=>by
  obtain⟨p,hp,rfl⟩:=hasB_of hb
  refine⟨by show hasB (co++ex) p.1=true;rw[aT];simp[hb],_,(S.at_ h).1 p (List.mem_append_left _ hp),.cells (allIn λv hv=>S.vco p hp v hv SBl uk) λi z1 z2=>⟨z1,z2⟩⟩
 cK:=S.kcb
 ks:=⟨by show hasB (co++ex) cb=true;rw[aT];simp[S.kcb],by show hasB (co++ex) sb=true;rw[aT];simp[S.ksb]⟩
 kxs:=λb hb=>by
  have ht:tlS tb b=false:=by
   cases hc:tlS tb b with
   |false=>rfl
   |true =>
    have e:b=tb:=by simpa using hc
    have h2:=S.nt
    rw[<-e] at h2
    rw[show hasB (co++ex) b=true from hb] at h2
    cases h2
  obtain⟨p,hp,rfl⟩:=hasB_of hb
  refine⟨ht,p.2.1,p.2.2,(0,0),S.obj p hp,λi h1 h2=>absurd h2 (Nat.not_lt_zero _),λv hv H=>?_⟩
  rcases List.mem_append.1 hp with hp|hp
  ·exact(S.vco p hp v hv SBc H).mono λc hc=>.inl (by show hasB (co++ex) c=true;rw[aT];simp[hc])
  ·exact(S.vex p hp v hv SBc H (by decide)).mono λc hc=>.inl hc
 tls:=λb hb=>by
  have e:b=tb:=by simpa using hb
  subst e
  exact⟨S.toy,S.toyS⟩
 hp1:=λH=>InK.func S.sF.2 λv hv=>(S.vfc v hv SBc H).mono λc hc=>hc.elim .inl λh=>.inr (by simp[h])
 wrap:=tN
 lapse:=λw' i h hi τ d=>S.lapse h i hi τ d
 tp0:=rfl
 tpk:=λi hi hk=>by
  have h1:i≠1:=λe=>hk ((wake_kind0 i hi).2 (.inl e))
  show decide (i+1<=1)=decide (i<=1)
  by_cases h0:i=0
  ·subst h0;rfl
  ·rw[decide_eq_false (by omega),decide_eq_false (by omega)]
 which:=λi hi hk=>by
  rcases(wake_kind0 i hi).1 hk with rfl|rfl
  ·exact .inr ⟨rfl,rfl⟩
  ·exact .inl rfl
 plain:=λi r w' hi hk ht h hrk hr=>by
  rcases(wake_kind0 i hi).1 hk with rfl|rfl
  ·cases ht
  ·exact oW S h hi ni hrk hr
 owner:=λi r w' hi hk ht ht1 h hrk hr=>by
  rcases(wake_kind0 i hi).1 hk with rfl|rfl
  ·exact oX S h hi hone hrk hr hdo
  ·cases ht
end
open Go.RowKit Go.Iso Go.Co Go.Conc Go.Sq
abbrev Lw:Go.Conc.Lib.WgLink:={ add:=67,done:=69,wait:=70,relMerge:=88,disable:=89,enable:=90,inBubble:=91,associate:=92,fatal:=93,uOr:=94,uAdd:=95,raceRead:=96,uLoad:=97,uStore:=98,disassociate:=99,semrelease:=100,acquire:=101,isAssociated:=102,uCas:=103,raceWrite:=104,semacquire:=105,orU64:=121,addU64:=122,loadU64:=123,storeU64:=124,casU64:=125,tWgP:=165,tUP:=167,tAssoc:=168,tWg:=144,tAU:=142,tU64:=49,tUint:=83,tU32:=109,tPU32:=172,tPAU:=191,tPU64:=193,tNoCopy:=108,tANoCopy:=97,tAlign64:=98 }
def wgLib:Go.Conc.Lib.WgLib Tryz.prog Lw :=
 ⟨Tryz.func67,Tryz.func69,Tryz.func70,Tryz.func88,Tryz.func89,Tryz.func90,Tryz.func91,Tryz.func92,Tryz.func93,Tryz.func94,Tryz.func95,Tryz.func96,Tryz.func97,Tryz.func98,Tryz.func99,Tryz.func100,Tryz.func101,Tryz.func102,Tryz.func103,Tryz.func104,Tryz.func105,Tryz.func121,Tryz.func122,Tryz.func123,Tryz.func124,Tryz.func125,Tryz.underlying165,Tryz.runUnderlying165,Tryz.sizeOf165,Tryz.isAgg165,Tryz.zeroValue165,Tryz.underlying167,Tryz.runUnderlying167,Tryz.sizeOf167,Tryz.isAgg167,Tryz.zeroValue167,Tryz.underlying168,Tryz.runUnderlying168,Tryz.sizeOf168,Tryz.isAgg168,Tryz.zeroValue168,Tryz.underlying144,Tryz.runUnderlying144,Tryz.sizeOf144,Tryz.isAgg144,Tryz.zeroValue144,Tryz.underlying142,Tryz.runUnderlying142,Tryz.sizeOf142,Tryz.isAgg142,Tryz.zeroValue142,Tryz.underlying49,Tryz.runUnderlying49,Tryz.sizeOf49,Tryz.isAgg49,Tryz.zeroValue49,Tryz.underlying83,Tryz.runUnderlying83,Tryz.sizeOf83,Tryz.isAgg83,Tryz.zeroValue83,Tryz.underlying109,Tryz.runUnderlying109,Tryz.sizeOf109,Tryz.isAgg109,Tryz.zeroValue109,Tryz.underlying172,Tryz.runUnderlying172,Tryz.sizeOf172,Tryz.isAgg172,Tryz.zeroValue172,Tryz.underlying191,Tryz.runUnderlying191,Tryz.sizeOf191,Tryz.isAgg191,Tryz.zeroValue191,Tryz.underlying193,Tryz.runUnderlying193,Tryz.sizeOf193,Tryz.isAgg193,Tryz.zeroValue193,Tryz.underlying0,Tryz.runUnderlying0,Tryz.sizeOf0,Tryz.isAgg0,Tryz.zeroValue0,Tryz.underlying3,Tryz.runUnderlying3,Tryz.sizeOf3,Tryz.isAgg3,Tryz.zeroValue3,Tryz.underlying4,Tryz.runUnderlying4,Tryz.sizeOf4,Tryz.isAgg4,Tryz.zeroValue4,Tryz.underlying9,Tryz.runUnderlying9,Tryz.sizeOf9,Tryz.isAgg9,Tryz.zeroValue9,Tryz.underlying20,Tryz.runUnderlying20,Tryz.sizeOf20,Tryz.isAgg20,Tryz.zeroValue20,Tryz.underlying21,Tryz.runUnderlying21,Tryz.sizeOf21,Tryz.isAgg21,Tryz.zeroValue21,(by kernel_rfl),(by kernel_rfl)⟩
def bar_add:Go.Co.Barred PP SBc true Lw.add (Go.Conc.Lib.addFn Lw):=⟨_,Tryz.func67,Tryz.func67,rfl,by kernel_rfl⟩
def bar_wait:Go.Co.Barred PP SBc true Lw.wait (Go.Conc.Lib.waitFn Lw):=⟨_,Tryz.func70,Tryz.func70,rfl,by kernel_rfl⟩
def bar_done:Go.Co.Barred PP SBc true Lw.done (Go.Conc.Lib.doneFn Lw):=⟨_,Tryz.func69,Tryz.func69,rfl,by kernel_rfl⟩
open Go.RowKit Go.Iso Go.Co Go.Conc Go.Sq
def herdL (bo:Nat):List Value:=[.int .i64 12,.int .i64 3,.int .i64 2,.slice none 0 0,.int .i64 6,.int .i64 2,.int .i64 2,.slice (some ⟨bo,0,none⟩) 1 1,.int .i64 6,.int .i64 1,.int .i64 1,.slice none 0 0]
def ownL (bn bh sb cap:Nat):List Value:=[.slice (some ⟨bn,0,none⟩) 3 3,.slice (some ⟨bh,0,none⟩) 3 3,.slice (some ⟨sb,0,none⟩) 8 cap]
def needL:List Value:=[.int .i64 3,.int .i64 2,.int .i64 4]
def campO (bn bo bh cb sb cap:Nat)(cur:List Value)(t:TypeId):Objs:=[(bn,needL,3),(bo,[.int .i64 0],3),(bh,herdL bo,53),(cb,ownL bn bh sb cap,138),(sb,cur,t)]
section
variable {bn bo bh cb sb cap:Nat} {cur:List Value} {t:TypeId}
def camp_has (b:Nat):hasB (campO bn bo bh cb sb cap cur t) b=true↔b=bn\/b=bo\/b=bh\/b=cb\/b=sb:=by
 simp only[hasB,campO,List.any_cons,List.any_nil,Bool.or_false,Bool.or_eq_true,beq_iff_eq]
 constructor
 ·rintro(h|h|h|h|h)<;>simp[h]
 ·rintro(h|h|h|h|h)<;>simp[h]
def mo {W:World}(h:SeesO W (campO bn bo bh cb sb cap cur t))(hcur:∀(i x:Nat),(setsL 3)[i]?=some x->cur[i]?=some (Value.int .u8 (x:Int))) :
  CampK W (λb=>hasB (campO bn bo bh cb sb cap cur t) b=true) cb wakeCamp (setsL 3) (some ⟨bn,0,none⟩) (some ⟨bh,0,none⟩) 3 3 sb cap:=by
 obtain⟨f1,h1⟩:=h (bn,needL,3) (by simp[campO])
 obtain⟨f2,h2⟩:=h (bo,[.int .i64 0],3) (by simp[campO])
 obtain⟨f3,h3⟩:=h (bh,herdL bo,53) (by simp[campO])
 obtain⟨f4,h4⟩:=h (cb,ownL bn bh sb cap,138) (by simp[campO])
 obtain⟨f5,h5⟩:=h (sb,cur,t) (by simp[campO])
 have hb:∀i:Nat,W.cell? ⟨bh,i,none⟩=(herdL bo)[i]?:=λi=>(cell_of h3 i).trans (by simp)
 have hn:RIK W (λb=>hasB (campO bn bo bh cb sb cap cur t) b=true) (some ⟨bn,0,none⟩) [3,2,4]:=λ_=>by
  refine⟨bn,0,rfl,(camp_has _).2 (by simp),λi x hx=>?_⟩
  rw[cell_of h1]
  match i,hx with
  |0,hx=>simp at hx;subst hx;rfl
  |1,hx=>simp at hx;subst hx;rfl
  |2,hx=>simp at hx;subst hx;rfl
  |k+3,hx=>simp at hx
 have ho:RIK W (λb=>hasB (campO bn bo bh cb sb cap cur t) b=true) (some ⟨bo,0,none⟩) [0]:=λ_=>by
  refine⟨bo,0,rfl,(camp_has _).2 (by simp),λi x hx=>?_⟩
  rw[cell_of h2]
  match i,hx with
  |0,hx=>simp at hx;subst hx;rfl
  |k+1,hx=>simp at hx
 have hnil:RIK W (λb=>hasB (campO bn bo bh cb sb cap cur t) b=true) none []:=λh=>absurd rfl h
 refine⟨λb hbk=>?_,(camp_has _).2 (by simp),cell_of h4 0,cell_of h4 1,cell_of h4 2,(camp_has _).2 (by simp),λi x hx=>(cell_of h5 i).trans (by simpa using hcur i x hx),hn,λ_=>⟨bh,0,rfl,(camp_has _).2 (by simp),λi x hx=>?_⟩⟩
 ·rcases(camp_has _).1 hbk with rfl|rfl|rfl|rfl|rfl
  ·exact(Array.getElem?_eq_some_iff.1 h1).1
  ·exact(Array.getElem?_eq_some_iff.1 h2).1
  ·exact(Array.getElem?_eq_some_iff.1 h3).1
  ·exact(Array.getElem?_eq_some_iff.1 h4).1
  ·exact(Array.getElem?_eq_some_iff.1 h5).1
 ·match i,hx with
  |0,hx=>simp[wakeCamp,wakeC] at hx;subst hx;exact⟨hb _,hb _,hb _,none,0,hb _,hnil⟩
  |1,hx=>simp[wakeCamp,wakeC] at hx;subst hx;exact⟨hb _,hb _,hb _,_,1,hb _,ho⟩
  |2,hx=>simp[wakeCamp,wakeC] at hx;subst hx;exact⟨hb _,hb _,hb _,none,0,hb _,hnil⟩
  |k+3,hx=>simp[wakeCamp,wakeC] at hx
def fl (hfl:∀u∈cur,gb u):∀p∈campO bn bo bh cb sb cap cur t,∀v∈p.2.1,∀(SB:FuncId->Bool) (H:Hid),InK SB H (λb=>hasB (campO bn bo bh cb sb cap cur t) b=true) v:=by
 intro p hp v hv SB H
 have snil:InK SB H (λb=>hasB (campO bn bo bh cb sb cap cur t) b=true) (.slice none 0 0):=VRel.nils 0 0
 simp only[campO,List.mem_cons,List.not_mem_nil,or_false] at hp
 rcases hp with rfl|rfl|rfl|rfl|rfl
 ·simp only[needL,List.mem_cons,List.not_mem_nil,or_false] at hv
  rcases hv with rfl|rfl|rfl<;>exact VRel.int _ _
 ·simp only[List.mem_cons,List.not_mem_nil,or_false] at hv
  subst hv;exact VRel.int _ _
 ·simp only[herdL,List.mem_cons,List.not_mem_nil,or_false] at hv
  rcases hv with rfl|rfl|rfl|rfl|rfl|rfl|rfl|rfl|rfl|rfl|rfl|rfl<;>first|exact VRel.int _ _|exact snil|exact InK.slice ((camp_has _).2 (by simp)) _ _ _ _
 ·simp only[ownL,List.mem_cons,List.not_mem_nil,or_false] at hv
  rcases hv with rfl|rfl|rfl<;>exact InK.slice ((camp_has _).2 (by simp)) _ _ _ _
 ·obtain⟨x,rfl⟩:=hfl v hv
  exact VRel.int _ _
end
open Go.RowKit Go.Iso Go.Co Go.Conc Go.Sq
section
variable {bn bo bh cb sb cap:Nat} {cur:List Value} {t:TypeId} {w:World}
structure CampW (w:World)(bn bo bh cb sb cap:Nat)(cur:List Value)(t:TypeId):Prop where
 obj:∀p∈campO bn bo bh cb sb cap cur t,w.heap[p.1]?=some (.cells p.2.1.toArray p.2.2 (0,0))
 sets:∀(i x:Nat),(setsL 3)[i]?=some x->cur[i]?=some (Value.int .u8 (x:Int))
 flat:∀u∈cur,gb u
def CampW.keep {w':World}(h:CampW w bn bo bh cb sb cap cur t)(hk:∀b,hasB (campO bn bo bh cb sb cap cur t) b=true->w'.heap[b]?=w.heap[b]?):CampW w' bn bo bh cb sb cap cur t :=
 ⟨λp hp=>(hk _ (iU hp)).trans (h.obj p hp),h.sets,h.flat⟩
def CampW.lt (h:CampW w bn bo bh cb sb cap cur t){b:Nat}(hb:hasB (campO bn bo bh cb sb cap cur t) b=true):b<w.heap.size:=by
 obtain⟨p,hp,rfl⟩:=hasB_of hb
 exact(Array.getElem?_eq_some_iff.1 (h.obj p hp)).1
abbrev cntO (n:Int):Obj:=.cells #[.int .i64 n] 100 (0,0)
def cntS (n:Int):ScalObj (cntO n):=⟨[.int .i64 n],100,(0,0),rfl,λv hv=>by
 simp only[List.mem_cons,List.not_mem_nil,or_false] at hv
 subst hv;exact .int _ _⟩
def set_count (h:CampW w bn bo bh cb sb cap cur t){nb:Nat}(hn:w.heap[nb]?=some (cntO 0))(hnk:hasB (campO bn bo bh cb sb cap cur t) nb=false) :
  Setting w (campO bn bo bh cb sb cap cur t) [] nb cb sb cap (some ⟨bn,0,none⟩) (some ⟨bh,0,none⟩) 3 40 [.pointer (some ⟨nb,0,none⟩)] (cntO 0) (cntO 1) where
 obj:=λp hp=>h.obj p (by simpa using hp)
 toy:=hn
 toyS:=⟨cntS 0,cntS 1⟩
 nt:=by rw[List.append_nil];exact hnk
 vco:=fl h.flat
 vex:=λp hp=>by cases hp
 vfc:=λv hv SB H=>by
  simp only[List.mem_cons,List.not_mem_nil,or_false] at hv
  subst hv;exact InK.ptr (.inr rfl) _ _
 sF:=⟨by decide,by decide⟩
 cF:=λx w=>by
  have h1:¬Tryz.f40.name = "runtime.NumGoroutine":=by decide
  simp[callFunc,Sq.fn Tryz.func40 rfl,h1,Tryz.f40]
 kcb:=(camp_has _).2 (by simp)
 ksb:=(camp_has _).2 (by simp)
 camp:=λW hW=>mo hW h.sets
def do_count (nb:Nat){ex:Objs}(ρ:Ros)(W:World)(h:W.heap[nb]?=some (cntO 0))(_:SeesO W ex) :
  Calls uZ 40 (#[rosV ρ]++[Value.pointer (some ⟨nb,0,none⟩)].toArray) W λe W'=>e=.returned (.tuple #[])/\KT (λb=>b=nb) W W'/\W'.heap[nb]?=some (cntO 1) :=
 pM nb 0 1 ρ W h (by decide)
abbrev keepA (b:Bool)(r:Ros):Obj:=.cells (keepO 0 r b) 115 (0,0)
def keepS (b:Bool)(r:Ros):ScalObj (keepA b r):=⟨(keepO 0 r b).toList,115,(0,0),by simp[keepO],λv hv=>by
 simp only[keepO,List.mem_cons,List.not_mem_nil,or_false] at hv
 rcases hv with rfl|rfl|rfl|rfl|rfl|rfl|rfl|rfl<;>first|exact .int _ _|exact .bool _⟩
def bestX (xb qb cb:Nat):Objs:=[(xb,[.func (.func 43) #[] #[.pointer (some ⟨qb,0,none⟩)]],107),(qb,[.pointer (some ⟨cb,0,none⟩)],57)]
def set_best (h:CampW w bn bo bh cb sb cap cur t){kb xb qb:Nat}{ρ:Ros}(hk:w.heap[kb]?=some (keepA false λ_=>0))(hx:∀p∈bestX xb qb cb,w.heap[p.1]?=some (.cells p.2.1.toArray p.2.2 (0,0)))
  (hnk:hasB (campO bn bo bh cb sb cap cur t++bestX xb qb cb) kb=false) :
  Setting w (campO bn bo bh cb sb cap cur t) (bestX xb qb cb) kb cb sb cap (some ⟨bn,0,none⟩) (some ⟨bh,0,none⟩) 3 48 [.pointer (some ⟨kb,0,none⟩),.pointer (some ⟨xb,0,none⟩)] (keepA false λ_=>0) (keepA true ρ) where
 obj:=λp hp=>(List.mem_append.1 hp).elim (h.obj p) (hx p)
 toy:=hk
 toyS:=⟨keepS _ _,keepS _ _⟩
 nt:=hnk
 vco:=fl h.flat
 vex:=λp hp v hv SB H h54=>by
  have hq:∀b,(b=xb\/b=qb)->hasB (campO bn bo bh cb sb cap cur t++bestX xb qb cb) b=true:=λb hb=>by
   rw[aT]
   rcases hb with rfl|rfl<;>simp[hasB,bestX]
  simp only[bestX,List.mem_cons,List.not_mem_nil,or_false] at hp
  rcases hp with rfl|rfl
  ·simp only[List.mem_cons,List.not_mem_nil,or_false] at hv
   subst hv
   refine InK.func (l:=[.pointer (some ⟨qb,0,none⟩)]) h54 λv hv=>?_
   simp only[List.mem_cons,List.not_mem_nil,or_false] at hv
   subst hv
   exact InK.ptr (hq _ (.inr rfl)) _ _
  ·simp only[List.mem_cons,List.not_mem_nil,or_false] at hv
   subst hv
   exact InK.ptr (by rw[aT,(camp_has cb).2 (by simp),Bool.true_or]) _ _
 vfc:=λv hv SB H=>by
  simp only[List.mem_cons,List.not_mem_nil,or_false] at hv
  rcases hv with rfl|rfl
  ·exact InK.ptr (.inr rfl) _ _
  ·exact InK.ptr (.inl (by rw[aT];simp[hasB,bestX])) _ _
 sF:=⟨by decide,by decide⟩
 cF:=λx w=>by
  have h1:¬Tryz.f48.name = "runtime.NumGoroutine":=by decide
  simp[callFunc,Sq.fn Tryz.func48 rfl,h1,Tryz.f48]
 kcb:=(camp_has _).2 (by simp)
 ksb:=(camp_has _).2 (by simp)
 camp:=λW hW=>mo hW h.sets
def do_best (kb xb qb cb:Nat)(ρ:Ros)(W:World)(h:W.heap[kb]?=some (keepA false λ_=>0))(hs:SeesO W (bestX xb qb cb)) :
  Calls uZ 48 (#[rosV ρ]++[Value.pointer (some ⟨kb,0,none⟩),.pointer (some ⟨xb,0,none⟩)].toArray) W λe W'=>e=.returned (.tuple #[])/\KT (λb=>b=kb) W W'/\W'.heap[kb]?=some (keepA true ρ):=by
 obtain⟨f,hf⟩:=hs (xb,[.func (.func 43) #[] #[.pointer (some ⟨qb,0,none⟩)]],107) (by simp[bestX])
 exact rg kb xb ρ _ W (cell_of hf 0) (Array.getElem?_eq_some_iff.1 hf).1 h
end
end Go.Proofs.YtjmmlkobmhlikaaGreat
namespace Go.Co
open Go.Iso Go.Conc Go.ConcN
structure PastD (Shun:Loc->Prop)(B d:Nat)(t:Trace):Prop where
 calm:∀said,¬Race said t
 knows:∀i x,touchAt t i=some x->x.loc.isMemory=true->Knows t 0 i\/(Shun x.loc/\x.kind=.atomic)
 handed:t.HandedOver
 deaf:Deaf t 0=d
 below:∀op∈t,op.act.low B
section
variable {Shun:Loc->Prop} {B B' d d':Nat} {t u:Trace}
def PastD.of (h:Past Shun B t):PastD Shun B 0 t:=⟨h.clean,h.known,h.over,h.hears,h.seen⟩
def PastD.past (h:PastD Shun B 0 t):Past Shun B t:=⟨h.calm,h.knows,h.handed,h.deaf,h.below⟩
def PastD.mono (h:PastD Shun B d t)(hB:B<=B'):PastD Shun B' d t:=⟨h.calm,h.knows,h.handed,h.deaf,λop hop=>MemAct.low_mono hB (h.below op hop)⟩
def low_app {t u:Trace}(ht:∀op∈t,op.act.low B)(hu:∀op∈u,op.act.low B):∀op∈t++u,op.act.low B:=λop hop=>(Array.mem_append.1 hop).elim (ht op) (hu op)
def PastD.own (h:PastD Shun B d t){fn:FuncId}{pos:String}{es:Array Event}(hes:∀e∈es,(∀x,(MemAct.ofEvent e).touch?=some x->Shun x.loc->x.kind≠.plain)/\(MemAct.ofEvent e).low B)(hd:deafBehind d es=d'):PastD Shun B d' (t++MemOp.ofEvents 0 fn pos es):=by
 have hg:∀op∈MemOp.ofEvents 0 fn pos es,op.g=0:=λop hop=>by obtain⟨e,_,rfl⟩:=Go.Conc.mem_ofEvents hop;rfl
 refine⟨λsaid=>noRace_append (h.calm said) hg λi x hx op hop y hy hc=>?_,λi x hx hm=>?_,handedOver_app h.handed λop hop=>.inl (hg op hop),by rw[Deaf_own,h.deaf];exact hd,low_app h.below λop hop=>by obtain⟨e,he,rfl⟩:=Go.Conc.mem_ofEvents hop;exact(hes e he).2⟩
 ·obtain⟨e,he,rfl⟩:=Go.Conc.mem_ofEvents hop
  rcases h.knows i x hx hc.2.1 with hk|⟨s1,s2⟩
  ·exact hk
  ·exfalso
   have np:=(hes e he).1 y hy (hc.1▸s1)
   obtain⟨_,_,_,hcase⟩:=hc
   rw[s2] at hcase
   rcases hcase with z|z|⟨_,z,_⟩
   ·cases z
   ·exact np z
   ·cases z
 ·obtain⟨z,hz,hzx⟩:=touch_of hx
  rcases getElem?_append_cases hz with⟨_,hz'⟩|⟨_,hzu⟩
  ·exact(h.knows i x (by rw[touchAt_of hz'];exact hzx) hm).imp (·.app _) id
  ·have:=knows_own hz
   rw[hg z hzu] at this
   exact .inl this
def PastD.mute (h:PastD Shun B d t){g:Nat}(hg:g≠0){fn:FuncId}{pos:String}{es:Array Event}(hm:∀e∈es,e.mute=true):PastD Shun B d (t++MemOp.ofEvents g fn pos es):=by
 have hu:∀op∈MemOp.ofEvents g fn pos es,op.g=g/\op.act.touch?=none/\op.act.low B:=λop hop=>by
  obtain⟨e,he,rfl⟩:=Go.Conc.mem_ofEvents hop
  exact⟨rfl,touch_mute (hm e he),low_mute (hm e he) B⟩
 refine⟨λsaid=>noRace_append (h.calm said) (λop hop=>(hu op hop).1) λi x _ op hop y hy _=>(by rw[(hu op hop).2.1] at hy;cases hy),λi x hx hmm=>?_,handedOver_app h.handed λop hop=>.inr (hu op hop).2.1,(Deaf_other t hg _ λop hop=>(hu op hop).1).trans h.deaf,low_app h.below λop hop=>(hu op hop).2.2⟩
 obtain⟨z,hz,hzx⟩:=touch_of hx
 rcases getElem?_append_cases hz with⟨_,hz'⟩|⟨_,hzu⟩
 ·exact(h.knows i x (by rw[touchAt_of hz'];exact hzx) hmm).imp (·.app _) id
 ·rw[(hu z hzu).2.1] at hzx;cases hzx
end
structure BtwD (P:Program)(Dead:Nat->Prop)(d:Nat)(gs:Array Goroutine)(W:World)(t:Trace)(q:Nat->Nat):Prop where
 lv:Leavers P t gs q
 past:PastD (DeadL Dead) W.heap.size d t
 quiet:Quiet (DeadL Dead) t
 gs_:∀(i:Nat) (op:MemOp),t[i]?=some op->op.g<gs.size
 low:∀B,Dead B->B<W.heap.size
def BtwD.of {P:Program}{Dead:Nat->Prop}{gs:Array Goroutine}{W:World}{t:Trace}{q:Nat->Nat}(h:Btw P Dead gs W t q):BtwD P Dead 0 gs W t q:=⟨h.lv,.of h.past,h.quiet,h.gs_,h.low⟩
def BtwD.btw {P:Program}{Dead:Nat->Prop}{gs:Array Goroutine}{W:World}{t:Trace}{q:Nat->Nat}(h:BtwD P Dead 0 gs W t q):Btw P Dead gs W t q:=⟨h.lv,h.past.past,h.quiet,h.gs_,h.low⟩
section
variable {P:Two} {SB BB:FuncId->Bool} {lets:Bool} {Gn:Nat} {Dead:Nat->Prop} {Kp:Keep} {dd:Nat}
def BtwD.at {gs:Array Goroutine}{W:World}{t:Trace}{q:Nat->Nat}(h:BtwD P.b Dead dd gs W t q)(d:Nat):BtwD P.b Dead dd gs (W.at d) t q:=⟨h.lv,h.past,h.quiet,h.gs_,h.low⟩
def BtwD.slip {gs:Array Goroutine}{W:World}{t:Trace}{q:Nat->Nat}(h:BtwD P.b Dead dd gs W t q){i:Nat}{g a:Goroutine}(hpos:0<i)(hi:gs[i]?=some g)(hrun:g.status=.running)(h0:gs[0]?=some a)(ha:a.status=.running)(sl:Option (Nat×Nat)) :
  ∃gs' t' q',runT P.b (crowd gs W sl) i=(.next (crowd gs' W sl),t')/\gs'.size=gs.size/\gs'[0]?=some a/\sumTo gs.size q'<sumTo gs.size q/\BtwD P.b Dead dd gs' W (t++t') q':=by
 have hq:=h.lv.old i g hpos hi
 have hi0:(i==0)=false:=by simp;omega
 have hlt:i<gs.size:=(Array.getElem?_eq_some_iff.1 hi).1
 cases hqi:q i with
 |zero=>rw[hqi] at hq;rw[hq.1] at hrun;cases hrun
 |succ k =>
  rw[hqi] at hq
  rcases hq with⟨hf,_⟩|⟨_,g',es,hm,hstp,hq'⟩
  ·rw[hf] at hrun;cases hrun
  have hrunT:=runT_crowd_go (P:=P.b) (sl:=sl) (i:=i) hi (by rw[hi0];exact hstp W)
  have hsum:sumTo gs.size (upd q i k)+(k+1)=sumTo gs.size q+k:=by
   have:=sumTo_upd q k id hlt
   simpa [hqi] using this
  have hge:∀op∈MemOp.ofEvents i g.frame.fn g.frame.place es,op.g=i:=λop hop=>by obtain⟨e,_,rfl⟩:=Go.Conc.mem_ofEvents hop;rfl
  refine⟨_,_,upd q i k,hrunT,by simp,?_,by omega,⟨λj x hj hx=>?_,λj hj=>?_⟩,h.past.mute (by omega) hm,h.quiet.app λop hop x hx hs=>?_,λj op hop=>?_,h.low⟩
  ·have hne:i≠0:=by omega
   rw[Array.getElem?_setIfInBounds_ne hne,Array.getElem?_map,h0]
   simp[woken_run ha]
  ·by_cases hji:i=j
   ·subst hji
    rw[Array.getElem?_setIfInBounds_self_of_lt (by simpa using hlt)] at hx
    obtain rfl:=Option.some.inj hx
    rw[upd_same,Deaf_own]
    exact hq'
   ·rw[Array.getElem?_setIfInBounds_ne hji,Array.getElem?_map] at hx
    obtain⟨y,hy,rfl⟩:=Option.map_eq_some_iff.1 hx
    have hqj:=h.lv.old j y hj hy
    rw[woken_quitsD hqj,upd_ne q k (Ne.symm hji),Deaf_other t hji _ hge]
    exact hqj
  ·rw[Deaf_other t (g':=i) (by simp at hj;omega) _ hge]
   exact h.lv.above j (by simpa using hj)
  ·obtain⟨e,he,rfl⟩:=Go.Conc.mem_ofEvents hop
   rw[touch_mute (hm e he)] at hx;cases hx
  ·rcases getElem?_append_cases hop with⟨_,hop'⟩|⟨_,hopu⟩
   ·simpa using h.gs_ j op hop'
   ·rw[hge op hopu];simpa using hlt
def BtwD.fin {gs:Array Goroutine}{W W':World}{t:Trace}{q:Nat->Nat}(h:BtwD P.b Dead dd gs W t q){x:Lone}{a g2:Goroutine}{β':Bij}{w':World}{ES:Array Event}(htw:x.H.twin=false)(hdead:∀b B,x.β b B->Dead B->x.H b=true)
  (h0:gs[0]?=some a) (e3:stepG P.b true a W=.go g2 W' ES) (f:FinOf P SB lets Gn x W β' w' W' ES.toList) (sl:Option (Nat×Nat)) :
  ∃gs' t',runT P.b (crowd gs W sl) 0=(.next (crowd gs' W' sl),t')/\gs'.size=gs.size/\gs'[0]?=some g2/\BtwD P.b Dead dd gs' W' (t++t') q:=by
 have hES:ES.toList.toArray=ES:=by simp
 have hmk:=bZ f htw
 rw[hES] at hmk
 have hlow:=dE f htw (k:=0) (fn:=a.frame.fn) (pos:=a.frame.place)
 rw[hES] at hlow
 have hge:∀op∈MemOp.ofEvents 0 a.frame.fn a.frame.place ES,op.g=0:=λop hop=>by obtain⟨e,_,rfl⟩:=Go.Conc.mem_ofEvents hop;rfl
 have old:∀b B,β' b B->B<W.heap.size->x.β b B:=λb B hb hB=>(f.new b B hb).elim id λh=>absurd h.2 (Nat.not_le.2 hB)
 have dead':∀b B,β' b B->Dead B->x.H b=true:=λb B hb hd=>hdead b B (old b B hb (h.low B hd)) hd
 have notDead:∀e∈ES,∀z,(MemAct.ofEvent e).touch?=some z->¬DeadL Dead z.loc:=by
  intro e he z hz ⟨b,hb,hd⟩
  have hE:=f.evs htw e (by simpa using he)
  cases hE with
  |@cell a A wr sy hab _ hc _ =>
   have:z.loc=.cell A:=by simp[MemAct.ofEvent,MemAct.touch?] at hz;subst hz;rfl
   rw[this] at hb
   cases hb
   obtain⟨n,hn,_⟩:=hc
   have:=(f.rel.hids _ _ hab (dead' _ _ hab hd)).1
   rw[this] at hn
   simp[kindOf] at hn
  |@obj r R wr sy _ _ =>
   have:z.loc=.obj R:=by cases wr<;>cases sy<;>simp[MemAct.ofEvent,MemAct.touch?] at hz<;>subst hz<;>rfl
   rw[this] at hb;cases hb
  |mark hm=>cases hm<;>simp[MemAct.ofEvent,MemAct.touch?] at hz
  |out =>
   have:z.loc=.output:=by simp[MemAct.ofEvent,MemAct.touch?] at hz;subst hz;rfl
   rw[this] at hb;cases hb
 have hlt:0<gs.size:=(Array.getElem?_eq_some_iff.1 h0).1
 refine⟨_,_,runT_crowd_go (P:=P.b) (sl:=sl) (i:=0) h0 (by simpa using e3),by simp,by simp[hlt],
  ⟨⟨λj y hj hy=>?_,λj hj=>?_⟩,(h.past.mono f.SIZE).own (λe he=>⟨λz hz hs=>absurd hs (notDead e he z hz),?_⟩) (deafBehind_idle (λe he=>⟨(hmk e he).1,(hmk e he).2.1⟩) dd),h.quiet.app λop hop z hz hs=>?_,λj op hop=>?_,λB hB=>Nat.lt_of_lt_of_le (h.low B hB) f.SIZE⟩⟩
 ·have hne:0≠j:=by omega
  rw[Array.getElem?_setIfInBounds_ne hne,Array.getElem?_map] at hy
  obtain⟨z,hz,rfl⟩:=Option.map_eq_some_iff.1 hy
  have hqj:=h.lv.old j z hj hz
  rw[woken_quitsD hqj,Deaf_other t (by omega) _ hge]
  exact hqj
 ·rw[Deaf_other t (g':=0) (by simp at hj;omega) _ hge]
  exact h.lv.above j (by simpa using hj)
 ·exact hlow { g:=0,fn:=a.frame.fn,pos:=a.frame.place,act:=.ofEvent e } (by rw[ofEvents_eq];exact Array.mem_map.2 ⟨e,he,rfl⟩)
 ·obtain⟨e,he,rfl⟩:=Go.Conc.mem_ofEvents hop
  exact absurd hs (notDead e he z hz)
 ·rcases getElem?_append_cases hop with⟨_,hop'⟩|⟨_,hopu⟩
  ·simpa using h.gs_ j op hop'
  ·rw[hge op hopu];simpa using hlt
def BtwD.spec {gs:Array Goroutine}{W:World}{t:Trace}{q:Nat->Nat}(h:BtwD P.b Dead dd gs W t q){a g2:Goroutine}{β:Bij}{es ES:Array Event}
  (h0:gs[0]?=some a) (e3:stepG P.b true a W=.go g2 W ES) (e5:SpecEv β es ES) (e6:∀e∈ES,∀ad,e.loc=.mark (.acquire ad)\/e.loc=.mark (.releaseMerge ad)->ad.block<W.heap.size) (sl:Option (Nat×Nat)) :
  ∃gs' t',runT P.b (crowd gs W sl) 0=(.next (crowd gs' W sl),t')/\gs'.size=gs.size/\gs'[0]?=some g2/\BtwD P.b Dead (deafBehind dd es) gs' W (t++t') q:=by
 have hmem:=e5.mem
 have hge:∀op∈MemOp.ofEvents 0 a.frame.fn a.frame.place ES,op.g=0:=λop hop=>by obtain⟨e,_,rfl⟩:=Go.Conc.mem_ofEvents hop;rfl
 have hlt:0<gs.size:=(Array.getElem?_eq_some_iff.1 h0).1
 refine⟨_,_,runT_crowd_go (P:=P.b) (sl:=sl) (i:=0) h0 (by simpa using e3),by simp,by simp[hlt],
  ⟨⟨λj y hj hy=>?_,λj hj=>?_⟩,h.past.own (λe he=>⟨λz hz hs=>?_,e5.low e6 e he⟩) (e5.deaf dd),h.quiet.app λop hop z hz hs=>?_,λj op hop=>?_,h.low⟩⟩
 ·have hne:0≠j:=by omega
  rw[Array.getElem?_setIfInBounds_ne hne,Array.getElem?_map] at hy
  obtain⟨z,hz,rfl⟩:=Option.map_eq_some_iff.1 hy
  have hqj:=h.lv.old j z hj hz
  rw[woken_quitsD hqj,Deaf_other t (by omega) _ hge]
  exact hqj
 ·rw[Deaf_other t (g':=0) (by simp at hj;omega) _ hge]
  exact h.lv.above j (by simpa using hj)
 ·rw[(hmem e he).1] at hz;cases hz
 ·obtain⟨e,he,rfl⟩:=Go.Conc.mem_ofEvents hop
  rw[(hmem e he).1] at hz;cases hz
 ·rcases getElem?_append_cases hop with⟨_,hop'⟩|⟨_,hopu⟩
  ·simpa using h.gs_ j op hop'
  ·rw[hge op hopu];simpa using hlt
def ktree_beside (lib:∀H,Lib P SB H lets BB Gn)(hmf:∀(f:FuncId) (fn:Func),P.a.funcs[f]?=some fn->fn.body.isNone=true->P.fs[f]?=some fn){H:Hid}{T:List Frame}{β:Bij}{Q:Goroutine->World->Prop}(hQB:∀g w,Q g w->BB g.frame.fn=false\/∃f R,Iso.Left P.a f R g w){os:Os}{ou:World}{n b0 B0:Nat}:∀(μ:Wm×Nat) (m:Machine) (t:Trace),
  (∃gs W sl q x a d,m=crowd gs W sl/\gs[0]?=some a/\gs.size=n/\BtwD P.b Dead d gs W t q/\Tw P SB BB lets Gn Dead Kp x a W/\KTr P.a BB Q d x.g x.w/\x.H=H/\x.T=T/\β.le x.β/\(W.os=os/\W.output=ou.output)/\(B0<=W.heap.size/\b0<=x.w.heap.size/\∀b B,x.β b B->β b B\/(b0<=b/\B0<=B))/\μ=(.tree Q (x.g,x.w),sumTo n q)) ->
  ∃N m' t',runNT P.b N m t=(.next m',t')/\∃gs W sl q x a,m'=crowd gs W sl/\gs[0]?=some a/\gs.size=n/\BtwD P.b Dead 0 gs W t' q/\Tw P SB BB lets Gn Dead Kp x a W/\Q x.g x.w/\x.H=H/\x.T=T/\β.le x.β/\(W.os=os/\W.output=ou.output)/\(B0<=W.heap.size/\b0<=x.w.heap.size/\∀b B,x.β b B->β b B\/(b0<=b/\B0<=B)):=by
 have wf:WellFounded (Prod.Lex (WltA P.a) (·<·:Nat->Nat->Prop)):=(Prod.lex ⟨_,WltA.wf P.a⟩ Nat.lt_wfRel).wf
 refine iK (P:=P.b) wf (λμ m t=>∃gs W sl q x a d,m=crowd gs W sl/\gs[0]?=some a/\gs.size=n/\BtwD P.b Dead d gs W t q/\Tw P SB BB lets Gn Dead Kp x a W/\KTr P.a BB Q d x.g x.w/\x.H=H/\x.T=T/\β.le x.β/\(W.os=os/\W.output=ou.output)/\(B0<=W.heap.size/\b0<=x.w.heap.size/\∀b B,x.β b B->β b B\/(b0<=b/\B0<=B))/\μ=(.tree Q (x.g,x.w),sumTo n q))
  (λm t=>∃gs W sl q x a,m=crowd gs W sl/\gs[0]?=some a/\gs.size=n/\BtwD P.b Dead 0 gs W t q/\Tw P SB BB lets Gn Dead Kp x a W/\Q x.g x.w/\x.H=H/\x.T=T/\β.le x.β/\(W.os=os/\W.output=ou.output)/\(B0<=W.heap.size/\b0<=x.w.heap.size/\∀b B,x.β b B->β b B\/(b0<=b/\B0<=B))) ?_
 rintro μ m t ⟨gs,W,sl,q,x,a,d,rfl,h0,hn,hb,ht,hr,eH,eT,hle,hos,hsz,rfl⟩
 have hacc:=ut hr
 have harun:a.status=.running:=ht.gl.status.2
 have haw:∀g∈gs,awake g:=by
  intro g hg
  obtain⟨i,hi,rfl⟩:=Array.mem_iff_getElem.1 hg
  rcases Nat.eq_zero_or_pos i with rfl|hpos
  ·have:gs[0]=a:=by simpa [Array.getElem?_eq_getElem hi] using h0
   rw[this];exact awake_of (.inl harun)
  ·exact awake_of ((hb.lv.old i _ hpos (Array.getElem?_eq_getElem hi)).status.elim .inl λx=>.inr (.inr x))
 by_cases hfin:d=0/\Q x.g x.w
 ·obtain⟨rfl,hq⟩:=hfin
  exact .inl ⟨gs,W,sl,q,x,a,rfl,h0,hn,hb,ht,hq,eH,eT,hle,hos,hsz⟩
 refine .inr ?_
 obtain⟨i,g,e,sl',hi,hg,hst⟩:=crowd_pick (P:=P.b) (w:=W) (sl:=sl) haw ⟨0,a,h0,harun⟩
 rcases Nat.eq_zero_or_pos i with rfl|hpos
 ·generalize hxg:x.g=gx at hr
  generalize hxw:x.w=wx at hr
  cases hr with
  |fin hq=>exact absurd ⟨rfl,by rw[hxg,hxw];exact hq⟩ hfin
  |next ng nw f1 f2 f3 =>
   subst hxg hxw
   have hq:¬Q x.g x.w:=λhq=>by
    rcases hQB _ _ hq with h|⟨f,R,h⟩
    ·have:=f1.1;rw[h] at this;cases this
    ·obtain⟨⟨es,e9⟩,n9⟩:=f2 x.w.tape x.w.drawn
     exact Iso.Left.last h (_,_) ⟨x.w.tape,x.w.drawn,es,e9,n9⟩
   have ht':=ht.at e
   have hb':=hb.at e
   obtain⟨g',w',es,β',g2,W',ES,e1,e2,e3,e4,e5⟩:=follow_next (lib x.H) (main2:=true) f1 f2 ht'.gl ht'.wl
   have f:FinOf P SB lets Gn x (W.at e) β' w' W' ES.toList:=e5
   obtain⟨gs',t',k1,k2,k3,k4⟩:=hb'.fin ht'.tw ht'.dead h0 e3 f sl'
   obtain⟨k5,k6⟩:=keep_fin f ht'.keep ht'.keepx
   have dead':∀b B,β' b B->Dead B->x.H b=true:=λb B hb1 hd=>(f.new b B hb1).elim (λh1=>ht.dead b B h1 hd) λh1=>absurd h1.2 (Nat.not_le.2 (hb'.low B hd))
   obtain⟨rfl,rfl⟩:=e2
   refine⟨_,_,(.tree Q (ng (W.at e).tape (W.at e).drawn,nw (W.at e).tape (W.at e).drawn),sumTo n q),by rw[hst,k1],Prod.Lex.left _ _ ⟨.tree hq ⟨(W.at e).tape,(W.at e).drawn,es,e1,e4.callers.ne⟩,hacc⟩,gs',W',sl',q,⟨_,_,x.H,β',x.T⟩,g2,d,rfl,k3,k2.trans hn,k4,⟨e4,f.rel,ht.tw,dead',k5,k6⟩,f3 _ _,eH,eT,Bij.le_trans hle f.le,⟨f.OS.trans hos.1,f.OUT.trans hos.2⟩,⟨Nat.le_trans hsz.1 f.SIZE,Nat.le_trans hsz.2.1 f.size,λb B hb1=>(f.new b B hb1).elim (hsz.2.2 b B) λh=>.inr ⟨Nat.le_trans hsz.2.1 h.1,Nat.le_trans hsz.1 h.2⟩⟩,rfl⟩
  |@spec _ b a' ops i0 rest k cs _ o es v f1 f2 f3 f4 f5 f6 f7 =>
   subst hxw
   have hq:¬Q x.g x.w:=λhq=>by
    rcases hQB _ _ hq with this|⟨f,R,w9,v9,fr,_,_,h9,_,hm,_⟩
    ·rw[hxg] at this;exact absurd f1 (by rw[show b.fn=(gor (b.at a' (.inRegion ops (i0::rest)::k)) cs).frame.fn from rfl,this];decide)
    ·rw[hxg] at h9
     have e9:b.at a' (.inRegion ops (i0::rest)::k)=fr:=congrArg Goroutine.frame h9
     rw[<-e9] at hm
     cases hm
   have ht':=ht.at e
   have hb':=hb.at e
   have hg0:GRel P SB x.H lets BB x.T x.β (gor (b.at a' (.inRegion ops (i0::rest)::k)) cs) a:=hxg▸ht'.gl
   obtain⟨g2,ES,e3,e4,e5,e6⟩:=spec_rel hmf (main2:=true) f1 hg0 ht'.wl f3 f4 f5 f6
   obtain⟨gs',t',k1,k2,k3,k4⟩:=hb'.spec h0 e3 e5 e6 sl'
   refine⟨_,_,(.tree Q (gor (b.at (a'.put o.dst v) (.inRegion ops rest::k)) cs,on x.w (W.at e).tape (W.at e).drawn),sumTo n q),by rw[hst,k1],Prod.Lex.left _ _ ⟨.tree (by have:=hq;rwa [hxg] at this) ⟨(W.at e).tape,(W.at e).drawn,es,?_,f2⟩,by rw[hxg] at hacc;exact hacc⟩,gs',W.at e,sl',q,⟨gor (b.at (a'.put o.dst v) (.inRegion ops rest::k)) cs,on x.w (W.at e).tape (W.at e).drawn,x.H,x.β,x.T⟩,g2,deafBehind d es,rfl,k3,k2.trans hn,k4,⟨e4,ht'.wl.same rfl rfl ht'.wl.env,ht.tw,ht.dead,ht'.keep,ht'.keepx⟩,f7 _ _,eH,eT,hle,hos,hsz,rfl⟩
   exact(f6.same uj).step f3 f4 f5
 ·obtain⟨gs',t',q',k1,k2,k3,k4,k5⟩:=(hb.at e).slip hpos hi hg h0 harun sl'
  exact⟨_,_,(.tree Q (x.g,x.w),sumTo n q'),by rw[hst,k1],Prod.Lex.right _ (by rw[<-hn];exact k4),gs',W.at e,sl',q',x,a,d,rfl,k3,k2.trans hn,k5,ht.at e,hr,eH,eT,hle,hos,hsz,rfl⟩
end
end Go.Co
namespace Go.Proofs.YtjmmlkobmhlikaaGreat
open Go.RowKit Go.Iso Go.Co Go.Conc Go.Sq
attribute [local go_sem] Oper.semAt_some
noncomputable def cB:Code:=Tryz.f22.body.getD .skip
noncomputable def c5:Array Oper:=cOps (aw (ag (ag (ag (ag cB)))))
noncomputable def x5:Code:=ag (ag (ag (ag (ag cB))))
def qY {bn bo bh:Nat}{w:World}{SB:FuncId->Bool}(hn:w.heap[bn]?=some (.cells needL.toArray 3 (0,0)))(ho:w.heap[bo]?=some (.cells #[.int .i64 0] 3 (0,0)))(hh:w.heap[bh]?=some (.cells (herdL bo).toArray 53 (0,0))) :
  ∀b,(b=bn\/b=bo\/b=bh)->∃o,w.heap[b]?=some o/\ORel (SP SB uk) (CK uZ SB false) (idOn λb=>b=bn\/b=bo\/b=bh) o o:=by
 rintro b (rfl|rfl|rfl)
 ·refine⟨_,hn,.cells (allIn λv hv=>?_) λi h1 h2=>⟨h1,h2⟩⟩
  simp only[needL,List.mem_cons,List.not_mem_nil,or_false] at hv
  rcases hv with rfl|rfl|rfl<;>exact VRel.int _ _
 ·refine⟨_,ho,.cells (allIn (l:=[.int .i64 0]) λv hv=>?_) λi h1 h2=>⟨h1,h2⟩⟩
  simp only[List.mem_cons,List.not_mem_nil,or_false] at hv
  subst hv;exact VRel.int _ _
 ·refine⟨_,hh,.cells (allIn λv hv=>?_) λi h1 h2=>⟨h1,h2⟩⟩
  simp only[herdL,List.mem_cons,List.not_mem_nil,or_false] at hv
  rcases hv with rfl|rfl|rfl|rfl|rfl|rfl|rfl|rfl|rfl|rfl|rfl|rfl<;>first|exact VRel.int _ _|exact VRel.nils _ _|exact InK.slice (.inr (.inl rfl)) _ _ _ _
def kR (bn bo bh:Nat)(w1:World)(v:Value)(w':World):Prop:=∃(cb sb cap:Nat) (cur:List Value) (t:TypeId),v=.tuple #[.pointer (some ⟨cb,0,none⟩),.int .i64 0]/\w1.heap.size<=cb/\cb<sb/\CampW w' bn bo bh cb sb cap cur t/\w1.heap.size<=w'.heap.size/\∀b,b<w1.heap.size->w'.heap[b]?=w1.heap[b]?
def oY (bn bo bh:Nat){SB:FuncId->Bool}:AsRel (SP SB uk) (idOn λb=>b=bn\/b=bo\/b=bh) #[.agg #[.slice (some ⟨bn,0,none⟩) 3 3,.slice (some ⟨bh,0,none⟩) 3 3]] #[.agg #[.slice (some ⟨bn,0,none⟩) 3 3,.slice (some ⟨bh,0,none⟩) 3 3]] :=
 allIn (l:=[.agg #[.slice (some ⟨bn,0,none⟩) 3 3,.slice (some ⟨bh,0,none⟩) 3 3]]) λv hv=>by
  simp only[List.mem_cons,List.not_mem_nil,or_false] at hv
  subst hv
  refine InK.agg (l:=[.slice (some ⟨bn,0,none⟩) 3 3,.slice (some ⟨bh,0,none⟩) 3 3]) λv hv=>?_
  simp only[List.mem_cons,List.not_mem_nil,or_false] at hv
  rcases hv with rfl|rfl
  ·exact InK.slice (.inl rfl) _ _ _ _
  ·exact InK.slice (.inr (.inr rfl)) _ _ _ _
def mp {bn bo bh:Nat}{w:World}(hn:w.heap[bn]?=some (.cells needL.toArray 3 (0,0)))(ho:w.heap[bo]?=some (.cells #[.int .i64 0] 3 (0,0)))(hh:w.heap[bh]?=some (.cells (herdL bo).toArray 53 (0,0)))(τ:Tape)(d:Nat) :
  Calls uZ 31 #[.agg #[.slice (some ⟨bn,0,none⟩) 3 3,.slice (some ⟨bh,0,none⟩) 3 3]] (on w τ d) (λe w'=>∃v,e=.returned v/\kR bn bo bh w v w'):=by
 have ln:=(Array.getElem?_eq_some_iff.1 hn).1
 have lo:=(Array.getElem?_eq_some_iff.1 ho).1
 have lh:=(Array.getElem?_eq_some_iff.1 hh).1
 have hb:∀i:Nat,(on w τ d).cell? ⟨bh,i,none⟩=(herdL bo)[i]?:=λi=>(cell_of (W:=on w τ d) hh i).trans (by simp)
 have hri:RI (on w τ d) w.heap.size (some ⟨bn,0,none⟩) wakeCamp.needs:=λ_=>by
  refine⟨bn,0,rfl,ln,λi x hx=>?_⟩
  rw[cell_of (W:=on w τ d) hn]
  match i,hx with
  |0,hx=>simp[wakeCamp,wakeC] at hx;subst hx;rfl
  |1,hx=>simp[wakeCamp,wakeC] at hx;subst hx;rfl
  |2,hx=>simp[wakeCamp,wakeC] at hx;subst hx;rfl
  |k+3,hx=>simp[wakeCamp,wakeC] at hx
 have hro:RI (on w τ d) w.heap.size (some ⟨bo,0,none⟩) [0]:=λ_=>by
  refine⟨bo,0,rfl,lo,λi x hx=>?_⟩
  rw[cell_of (W:=on w τ d) ho]
  match i,hx with
  |0,hx=>simp at hx;subst hx;rfl
  |k+1,hx=>simp at hx
 have hhs:HsAt (on w τ d) w.heap.size (some ⟨bh,0,none⟩) wakeCamp.herders:=λ_=>⟨bh,0,rfl,lh,λi x hx=>by
  match i,hx with
  |0,hx=>simp[wakeCamp,wakeC] at hx;subst hx;exact⟨hb _,hb _,hb _,none,0,hb _,.nil⟩
  |1,hx=>simp[wakeCamp,wakeC] at hx;subst hx;exact⟨hb _,hb _,hb _,_,1,hb _,hro⟩
  |2,hx=>simp[wakeCamp,wakeC] at hx;subst hx;exact⟨hb _,hb _,hb _,none,0,hb _,.nil⟩
  |k+3,hx=>simp[wakeCamp,wakeC] at hx⟩
 refine(jh (some ⟨bn,0,none⟩) (some ⟨bh,0,none⟩) 3 3 wakeCamp (on w τ d) w.heap.size (Nat.le_refl _) hri hhs (by decide) (by decide) (by decide)).mono ?_
 rintro e w' ⟨hg,hbeg⟩
 rw[if_pos gE] at hbeg
 obtain⟨cb,g,cap,rfl,hcb,hcg,hK,hF1,hF2⟩:=hbeg
 obtain⟨cur,t,q1,q2⟩:=hF1 _ _ _ rfl
 have hsame:∀b,b<w.heap.size->w'.heap[b]?=w.heap[b]?:=λb hb=>hg.below.block b hb
 refine⟨_,rfl,cb,g,cap,cur.toList,t,rfl,hcb,hcg,⟨λp hp=>?_,λi x hx=>?_,q2⟩,hg.size,hsame⟩
 ·simp only[campO,List.mem_cons,List.not_mem_nil,or_false] at hp
  rcases hp with rfl|rfl|rfl|rfl|rfl
  ·exact(hsame bn ln).trans hn
  ·exact(hsame bo lo).trans ho
  ·exact(hsame bh lh).trans hh
  ·exact hF2
  ·simpa using q1
 ·have h1:=hK.sets i x hx
  rw[cell_of q1] at h1
  simpa using h1
def oZ {BB:FuncId->Bool}(hB:BB 22=true)(hLy:LooksY BB){Q:Goroutine->World->Prop}(hQ:∀g w W,Same w W->Q g w->Q g W){cs:List Frame}(hcs:cs≠[]){bn bo bh:Nat}{w:World}
  (hn:w.heap[bn]?=some (.cells needL.toArray 3 (0,0))) (ho:w.heap[bo]?=some (.cells #[.int .i64 0] 3 (0,0))) (hh:w.heap[bh]?=some (.cells (herdL bo).toArray 53 (0,0)))
  (h:∀(cb sb cap nb:Nat) (cur:List Value) (t:TypeId) (w':World) (T:Array Value),CampW w' bn bo bh cb sb cap cur t->w'.heap[nb]?=some (cntO 0)->hasB (campO bn bo bh cb sb cap cur t) nb=false->T.size=19->T.getD 6 undef=.pointer (some ⟨nb,0,none⟩)->w.heap.size<=w'.heap.size->(∀b,b<w.heap.size->w'.heap[b]?=w.heap[b]?) ->
   KTr Tryz.prog BB Q 0 (bI PP 39 (eArgs cb (.func 40) #[] [Value.pointer (some ⟨nb,0,none⟩)].toArray) ((base 22).at ⟨T,[]⟩ [.inRegion c5 [2],.code x5]) cs) w') :
  KTr Tryz.prog BB Q 0 (Go.Conc.G (Frame.enter Tryz.prog 22 #[campV (some ⟨bn,0,none⟩) (some ⟨bh,0,none⟩) wakeCamp 3 3] .normal) cs) w:=by
 rw[enter_at _ Tryz.func22 rfl]
 simp only[Tryz.ntmps22,List.size_toArray,List.length_cons,List.length_nil,Nat.reduceAdd,Nat.reduceSub,Array.replicate_succ,Array.replicate_zero,List.push_toArray,List.append_toArray,List.nil_append,List.cons_append]
 unfold campV
 change KTr Tryz.prog BB Q 0 (G _ cs) w
 have ln:wakeCamp.needs.length=3:=rfl
 have lh:wakeCamp.herders.length=3:=rfl
 rw[ln,lh]
 refine aa hQ hB (by kernel_rfl) λτ d=>?_
 rw[stepG_seq]
 simp only[goes_go]
 refine⟨hcs,w,uj,?_⟩
 refine aa hQ hB (by kernel_rfl) λτ d=>?_
 rw[stepG_region]
 simp only[goes_go,List.size_toArray,List.length_cons,List.length_nil,Nat.reduceAdd,Nat.zero_add,List.range,List.range.loop]
 refine⟨hcs,w,uj,?_⟩
 refine aa hQ hB (by kernel_rfl) λτ d=>?_
 refine goes_oper_k rfl rfl (by decide) (λK hK=>?_)
 have q1:=af
 have q2:=ab
 have q3:=ae
 go_simp
 clear q1 q2 q3
 refine hK _ _ ⟨hcs,w.alloc _,⟨rfl,rfl,rfl⟩,?_⟩
 clear hK K
 try walk_nrm
 try simp only[ab]
 obtain⟨w1,hw1⟩:∃w1,w1=w.alloc (.cells #[.slice (some ⟨bn,0,none⟩) 3 3,.slice (some ⟨bh,0,none⟩) 3 3] 27):=⟨_,rfl⟩
 rw[<-hw1]
 have hz1:w1.heap.size=w.heap.size+1:=by rw[hw1,aA]
 have hob:w1.heap[w.heap.size]?=some (.cells #[.slice (some ⟨bn,0,none⟩) 3 3,.slice (some ⟨bh,0,none⟩) 3 3] 27 (0,0)):=by rw[hw1,ax,if_pos rfl]
 have hold1:∀b,b<w.heap.size->w1.heap[b]?=w.heap[b]?:=λb hb=>by rw[hw1,ax,if_neg (by omega)]
 have hc0:w1.cell? ⟨w.heap.size,0,none⟩=some (.slice (some ⟨bn,0,none⟩) 3 3):=cell_of hob 0
 have hc1:w1.cell? ⟨w.heap.size,1,none⟩=some (.slice (some ⟨bh,0,none⟩) 3 3):=cell_of hob 1
 have lt3:bn<w.heap.size/\bo<w.heap.size/\bh<w.heap.size:=⟨(Array.getElem?_eq_some_iff.1 hn).1,(Array.getElem?_eq_some_iff.1 ho).1,(Array.getElem?_eq_some_iff.1 hh).1⟩
 have hn1:=(hold1 bn lt3.1).trans hn
 have ho1:=(hold1 bo lt3.2.1).trans ho
 have hh1:=(hold1 bh lt3.2.2).trans hh
 clear hw1
 refine aa hQ hB (by kernel_rfl) λτ d=>?_
 refine goes_oper_k rfl rfl (by decide) (λK hK=>?_)
 have q1:=af
 have q2:=ab
 have q3:=ae
 go_simp
 clear q1 q2 q3
 refine hK _ _ ⟨hcs,w1,⟨rfl,rfl,rfl⟩,?_⟩
 clear hK K
 try walk_nrm
 try simp only[ab]
 refine aa hQ hB (by kernel_rfl) λτ d=>?_
 refine goes_oper_k rfl rfl (by decide) (λK hK=>?_)
 have q1:=af
 have q2:=ab
 have q3:=ae
 go_simp
 clear q1 q2 q3
 refine hK _ _ ⟨hcs,w1,⟨rfl,rfl,rfl⟩,?_⟩
 clear hK K
 try walk_nrm
 try simp only[ab]
 refine aa hQ hB (by kernel_rfl) λτ d=>?_
 rw[stepG_region_end]
 simp only[goes_go]
 refine⟨hcs,w1,uj,?_⟩
 refine aa hQ hB (by kernel_rfl) λτ d=>?_
 rw[stepG_seq]
 simp only[goes_go]
 refine⟨hcs,w1,uj,?_⟩
 refine aa hQ hB (by kernel_rfl) λτ d=>?_
 rw[stepG_region]
 simp only[goes_go,List.size_toArray,List.length_cons,List.length_nil,Nat.reduceAdd,Nat.zero_add,List.range,List.range.loop]
 refine⟨hcs,w1,uj,?_⟩
 refine aa hQ hB (by kernel_rfl) λτ d=>?_
 refine goes_oper_k rfl rfl (by decide) (λK hK=>?_)
 have q1:=af
 have q2:=ab
 have q3:=ae
 go_simp
 clear q1 q2 q3
 refine hK _ _ ⟨hcs,w1,⟨rfl,rfl,rfl⟩,?_⟩
 clear hK K
 try walk_nrm
 try simp only[ab]
 refine aa hQ hB (by kernel_rfl) λτ d=>?_
 refine ay rfl rfl (by decide) rfl Tryz.func31 (by kernel_rfl) (by kernel_rfl) ⟨hcsM _ _,w1,uj,?_⟩
 try walk_nrm
 refine(du (H:=uk) hLy).fn (f:=31) (by decide) (by decide) (K0:=λb=>b=bn\/b=bo\/b=bh) hcs (λ_ _=>Nat.zero_le _) (Nat.zero_le _) (oY bn bo bh) (λb _ hb=>by cases hb) (λb hb=>by cases hb)
  (λb hb _=>qY hn1 ho1 hh1 b hb) hQ (R:=kR bn bo bh w1) (mp hn1 ho1 hh1) ?_
 rintro v w2 ⟨cb,sb,cap,cur,t,rfl,hcb,hsb,hcw,hz2,hold2⟩
 change KTr Tryz.prog BB Q 0 _ w2
 rw[Frame.finish_at]
 simp only[List.getElem?_toArray,List.getElem?_cons_succ,List.getElem?_cons_zero,Option.bind_some]
 try walk_nrm
 refine aa hQ hB (by kernel_rfl) λτ d=>?_
 refine goes_oper_k rfl rfl (by decide) (λK hK=>?_)
 have q1:=af
 have q2:=ab
 have q3:=ae
 go_simp
 clear q1 q2 q3
 refine hK _ _ ⟨hcs,w2,⟨rfl,rfl,rfl⟩,?_⟩
 clear hK K
 try walk_nrm
 try simp only[ab]
 refine aa hQ hB (by kernel_rfl) λτ d=>?_
 refine goes_oper_k rfl rfl (by decide) (λK hK=>?_)
 have q1:=af
 have q2:=ab
 have q3:=ae
 go_simp
 clear q1 q2 q3
 refine hK _ _ ⟨hcs,w2,⟨rfl,rfl,rfl⟩,?_⟩
 clear hK K
 try walk_nrm
 try simp only[ab]
 refine aa hQ hB (by kernel_rfl) λτ d=>?_
 refine goes_oper_k rfl rfl (by decide) (λK hK=>?_)
 have q1:=af
 have q2:=ab
 have q3:=ae
 go_simp
 clear q1 q2 q3
 refine hK _ _ ⟨hcs,w2,⟨rfl,rfl,rfl⟩,?_⟩
 clear hK K
 try walk_nrm
 try simp only[ab]
 refine aa hQ hB (by kernel_rfl) λτ d=>?_
 refine goes_oper_k rfl rfl (by decide) (λK hK=>?_)
 have q1:=af
 have q2:=ab
 have q3:=ae
 go_simp
 clear q1 q2 q3
 refine hK _ _ ⟨hcs,w2,⟨rfl,rfl,rfl⟩,?_⟩
 clear hK K
 try walk_nrm
 try simp only[ab]
 refine aa hQ hB (by kernel_rfl) λτ d=>?_
 refine goes_oper_k rfl rfl (by decide) (λK hK=>?_)
 have q1:=af
 have q2:=ab
 have q3:=ae
 go_simp
 clear q1 q2 q3
 refine hK _ _ ⟨hcs,w2,⟨rfl,rfl,rfl⟩,?_⟩
 clear hK K
 try walk_nrm
 try simp only[ab]
 refine aa hQ hB (by kernel_rfl) λτ d=>?_
 rw[stepG_region_end]
 simp only[goes_go]
 refine⟨hcs,w2,uj,?_⟩
 refine aa hQ hB (by kernel_rfl) λτ d=>?_
 rw[stepG_seq]
 simp only[goes_go]
 refine⟨hcs,w2,uj,?_⟩
 refine aa hQ hB (by kernel_rfl) λτ d=>?_
 rw[stepG_seq]
 simp only[goes_go]
 refine⟨hcs,w2,uj,?_⟩
 refine aa hQ hB (by kernel_rfl) λτ d=>?_
 rw[stepG_region]
 simp only[goes_go,List.size_toArray,List.length_cons,List.length_nil,Nat.reduceAdd,Nat.zero_add,List.range,List.range.loop]
 refine⟨hcs,w2,uj,?_⟩
 refine aa hQ hB (by kernel_rfl) λτ d=>?_
 refine goes_oper_k rfl rfl (by decide) (λK hK=>?_)
 have q1:=af
 have q2:=ab
 have q3:=ae
 go_simp
 clear q1 q2 q3
 refine hK _ _ ⟨hcs,w2,⟨rfl,rfl,rfl⟩,?_⟩
 clear hK K
 try walk_nrm
 try simp only[ab]
 refine aa hQ hB (by kernel_rfl) λτ d=>?_
 refine goes_oper_k rfl rfl (by decide) (λK hK=>?_)
 have q1:=af
 have q2:=ab
 have q3:=ae
 go_simp
 clear q1 q2 q3
 refine hK _ _ ⟨hcs,w2,⟨rfl,rfl,rfl⟩,?_⟩
 clear hK K
 try walk_nrm
 try simp only[ab]
 refine aa hQ hB (by kernel_rfl) λτ d=>?_
 rw[stepG_region_end]
 simp only[goes_go]
 refine⟨hcs,w2,uj,?_⟩
 refine aa hQ hB (by kernel_rfl) λτ d=>?_
 rw[stepG_cond (t:=false) rfl]
 simp only[goes_go,if_true,if_false,Bool.false_eq_true,↓reduceIte]
 refine⟨hcs,w2,uj,?_⟩
 refine aa hQ hB (by kernel_rfl) λτ d=>?_
 rw[stepG_skip]
 simp only[goes_go]
 refine⟨hcs,w2,uj,?_⟩
 refine aa hQ hB (by kernel_rfl) λτ d=>?_
 rw[stepG_seq]
 simp only[goes_go]
 refine⟨hcs,w2,uj,?_⟩
 refine aa hQ hB (by kernel_rfl) λτ d=>?_
 rw[stepG_region]
 simp only[goes_go,List.size_toArray,List.length_cons,List.length_nil,Nat.reduceAdd,Nat.zero_add,List.range,List.range.loop]
 refine⟨hcs,w2,uj,?_⟩
 refine aa hQ hB (by kernel_rfl) λτ d=>?_
 refine goes_oper_k rfl rfl (by decide) (λK hK=>?_)
 have q1:=af
 have q2:=ab
 have q3:=ae
 go_simp
 clear q1 q2 q3
 refine hK _ _ ⟨hcs,w2.alloc _,⟨rfl,rfl,rfl⟩,?_⟩
 clear hK K
 try walk_nrm
 try simp only[ab]
 obtain⟨w3,hw3⟩:∃w3,w3=w2.alloc (cntO 0):=⟨_,rfl⟩
 change KTr Tryz.prog BB Q 0 _ (w2.alloc (cntO 0))
 rw[<-hw3]
 have hz3:w3.heap.size=w2.heap.size+1:=by rw[hw3,aA]
 have hold3:∀b,b<w2.heap.size->w3.heap[b]?=w2.heap[b]?:=λb hb=>by rw[hw3,ax,if_neg (by omega)]
 have hnb:w3.heap[w2.heap.size]?=some (cntO 0):=by rw[hw3,ax,if_pos rfl]
 clear hw3
 refine aa hQ hB (by kernel_rfl) λτ d=>?_
 rw[stepG_region_end]
 simp only[goes_go]
 refine⟨hcs,w3,uj,?_⟩
 refine aa hQ hB (by kernel_rfl) λτ d=>?_
 rw[stepG_seq]
 simp only[goes_go]
 refine⟨hcs,w3,uj,?_⟩
 refine aa hQ hB (by kernel_rfl) λτ d=>?_
 rw[stepG_region]
 simp only[goes_go,List.size_toArray,List.length_cons,List.length_nil,Nat.reduceAdd,Nat.zero_add,List.range,List.range.loop]
 refine⟨hcs,w3,uj,?_⟩
 refine aa hQ hB (by kernel_rfl) λτ d=>?_
 refine goes_oper_k rfl rfl (by decide) (λK hK=>?_)
 have q1:=af
 have q2:=ab
 have q3:=ae
 go_simp
 clear q1 q2 q3
 refine hK _ _ ⟨hcs,w3,⟨rfl,rfl,rfl⟩,?_⟩
 clear hK K
 try walk_nrm
 try simp only[ab]
 refine aa hQ hB (by kernel_rfl) λτ d=>?_
 refine goes_oper_k rfl rfl (by decide) (λK hK=>?_)
 have q1:=af
 have q2:=ab
 have q3:=ae
 go_simp
 clear q1 q2 q3
 refine hK _ _ ⟨hcs,w3,⟨rfl,rfl,rfl⟩,?_⟩
 clear hK K
 try walk_nrm
 try simp only[ab]
 refine aa hQ hB (by kernel_rfl) λτ d=>?_
 refine ay rfl rfl (by decide) rfl Tryz.func39 (by kernel_rfl) (by kernel_rfl) ⟨hcsM _ _,w3,uj,?_⟩
 try walk_nrm
 refine h cb sb cap w2.heap.size cur t w3 _ (hcw.keep λb hb=>hold3 b (hcw.lt hb)) hnb (by
  cases hq:hasB (campO bn bo bh cb sb cap cur t) w2.heap.size with
  |false=>rfl
  |true=>exact absurd (hcw.lt hq) (Nat.lt_irrefl _)) rfl rfl (by omega) λb hb=>(hold3 b (by omega)).trans ((hold2 b (by omega)).trans (hold1 b hb))
def arr19 {T:Array Value}(h:T.size=19):∃y0 y1 y2 y3 y4 y5 y6 y7 y8 y9 y10 y11 y12 y13 y14 y15 y16 y17 y18:Value,T=#[y0,y1,y2,y3,y4,y5,y6,y7,y8,y9,y10,y11,y12,y13,y14,y15,y16,y17,y18]:=by
 obtain⟨l⟩:=T
 have h:l.length=19:=h
 match l,h with
 |[y0,y1,y2,y3,y4,y5,y6,y7,y8,y9,y10,y11,y12,y13,y14,y15,y16,y17,y18],_=>exact⟨y0,y1,y2,y3,y4,y5,y6,y7,y8,y9,y10,y11,y12,y13,y14,y15,y16,y17,y18,rfl⟩
def nk {BB:FuncId->Bool}(hB:BB 22=true)(hLy:LooksY BB){Q:Goroutine->World->Prop}(hQ:∀g w W,Same w W->Q g w->Q g W){b0:Frame}{a0:Act}{ops:Array Oper}{i:Nat}{rest:List Nat}{k:List Item}{cs:List Frame}(hcs:cs≠[]){nb:Nat}{n:Int}{w:World}
  (hn:w.heap[nb]?=some (cntO n)) {T:Array Value} (hT:T.size=19) (h6:T.getD 6 undef=.pointer (some ⟨nb,0,none⟩))
  (h:KTr Tryz.prog BB Q 0 (Go.Conc.G (b0.at (a0.put ((ops[i]?).bind (·.dst)) (.tuple #[.int .i64 n,.int .i64 0])) (.inRegion ops rest::k)) cs) w) :
  KTr Tryz.prog BB Q 0 (back ((base 22).at ⟨T,[]⟩ [.inRegion c5 [2],.code x5]) (b0.at a0 (.inRegion ops (i::rest)::k)::cs)) w:=by
 obtain⟨y0,y1,y2,y3,y4,y5,y6,y7,y8,y9,y10,y11,y12,y13,y14,y15,y16,y17,y18,rfl⟩:=arr19 hT
 have h6:y6=.pointer (some ⟨nb,0,none⟩):=h6
 subst h6
 unfold back
 rw[Frame.finish_at]
 change KTr Tryz.prog BB Q 0 (G _ _) w
 have e17:(c5[2]?.bind (·.dst))=some 17:=rfl
 rw[e17]
 try walk_nrm
 refine aa hQ hB (by kernel_rfl) λτ d=>?_
 rw[stepG_region_end]
 simp only[goes_go]
 refine⟨(hcsM _ _),w,uj,?_⟩
 have ex5:x5=ag (ag (ag (ag (ag cB)))):=rfl
 simp only[cB,Tryz.f22,Option.getD_some,ag] at ex5
 rw[ex5]
 clear ex5
 refine aa hQ hB (by kernel_rfl) λτ d=>?_
 rw[stepG_seq]
 simp only[goes_go]
 refine⟨(hcsM _ _),w,uj,?_⟩
 refine aa hQ hB (by kernel_rfl) λτ d=>?_
 rw[stepG_region]
 simp only[goes_go,List.size_toArray,List.length_cons,List.length_nil,Nat.reduceAdd,Nat.zero_add,List.range,List.range.loop]
 refine⟨(hcsM _ _),w,uj,?_⟩
 refine aa hQ hB (by kernel_rfl) λτ d=>?_
 refine ay rfl rfl (by decide) rfl Tryz.func42 (by kernel_rfl) (by kernel_rfl) ⟨hcsM _ _,w,uj,?_⟩
 try walk_nrm
 refine(du (H:=uk) hLy).fn (f:=42) (by decide) (by decide) (K0:=λb=>b=nb) (hcsM _ _) (λ_ _=>Nat.zero_le _) (Nat.zero_le _) (allIn (l:=[.pointer (some ⟨nb,0,none⟩)]) λv hv=>?_) (λb _ hb=>by cases hb) (λb hb=>by cases hb)
  (λb hb _=>⟨_,(by rw[hb];exact hn),jl (cntS n)⟩) hQ (R:=λv w'=>v=.int .i64 n/\Same w w') (λτ d=>(pL nb n (on w τ d) hn).mono ?_) ?_
 ·simp only[List.mem_cons,List.not_mem_nil,or_false] at hv
  subst hv;exact InK.ptr (K:=λb=>b=nb) rfl _ _
 ·rintro e w9 ⟨rfl,rfl⟩
  exact⟨_,rfl,rfl,uj⟩
 rintro v w2 ⟨rfl,hs2⟩
 refine KTr.same hQ (W:=w2) ?_ hs2
 change KTr Tryz.prog BB Q 0 _ w
 rw[Frame.finish_at]
 simp only[List.getElem?_toArray,List.getElem?_cons_succ,List.getElem?_cons_zero,Option.bind_some]
 try walk_nrm
 refine aa hQ hB (by kernel_rfl) λτ d=>?_
 refine goes_oper_k rfl rfl (by decide) (λK hK=>?_)
 have q1:=af
 have q2:=ab
 have q3:=ae
 go_simp
 clear q1 q2 q3
 refine hK _ _ ⟨(hcsM _ _),w,⟨rfl,rfl,rfl⟩,?_⟩
 clear hK K
 try walk_nrm
 try simp only[ab]
 refine aa hQ hB (by kernel_rfl) λτ d=>?_
 refine goes_oper_k rfl rfl (by decide) (λK hK=>?_)
 have q1:=af
 have q2:=ab
 have q3:=ae
 go_simp
 clear q1 q2 q3
 refine hK _ _ ⟨(hcsM _ _),w,⟨rfl,rfl,rfl⟩,?_⟩
 clear hK K
 try walk_nrm
 try simp only[ab]
 refine aa hQ hB (by kernel_rfl) λτ d=>?_
 rw[stepG_region_end]
 simp only[goes_go]
 refine⟨(hcsM _ _),w,uj,?_⟩
 refine aa hQ hB (by kernel_rfl) λτ d=>?_
 rw[stepG_ret']
 simp only[goes_go]
 refine⟨(hcsM _ _),w,uj,?_⟩
 refine db hQ hB (by kernel_rfl) λτ d=>?_
 refine goes_leave2 rfl rfl Tryz.func22 rfl ⟨hcs,w,uj,?_⟩
 exact h
end Go.Proofs.YtjmmlkobmhlikaaGreat
