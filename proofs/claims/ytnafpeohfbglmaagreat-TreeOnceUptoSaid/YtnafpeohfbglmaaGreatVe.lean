import Derived.Test.YtnafpeohfbglmaaGreatVd
import Derived.WideKeyRuns
set_option linter.unusedVariables false
set_option linter.unusedSimpArgs false
set_option maxRecDepth 100000
set_option maxHeartbeats 4000000
open Array renaming toList_push→as9
open Bool renaming and_eq_true→f9,and_true→aq9,false_and→f6,true_and→f5
open Int renaming le_refl→ak6,toNat_natCast→i9
open Go.IntKind renaming wrap→ad5
open List renaming all_cons→ak',all_eq_true→ag6,all_nil→ap3,append_assoc→af9,append_nil→d7,cons_append→ad',drop_zero→al7,eq_nil_of_length_eq_zero→ai6,foldl_append→aq',getD_eq_getElem?_getD→d5,getElem?_eq_getElem→f7,getElem_mem→am9,length_append→f8,length_cons→i0,length_filter_le→aj1,length_map→f0,length_nil→af7,length_take→ae8,map_append→ae1,map_cons→ae2,map_nil→ah2,mem_append→ae4,mem_cons_of_mem→i6,mem_cons_self→i8,mem_map→ag0,mem_of_getElem?→d6,mem_singleton→t6,nil_append→d8,range→ah0,take_length→ae6
open Nat renaming and_comm→aD2,le_refl→g9,le_trans→am',pow_lt_pow_right→ai4,zero_add→af8,zero_le→g8
open Option renaming getD_none→aA7,getD_some→ae',isSome_none→au0,isSome_some→az7,map_none→at7,map_some→ao2
open Go.Result renaming andThen_ok→i5
open Go.Sem renaming run_bind→ac',run_pure→ae5
open Go.Proofs.Tryz renaming prog→d0
namespace Go.Proofs.YtnafpeohfbglmaaGreat
theorem MC {p:Prop} (h:p:=by (first|rw [iN (by omega)]|(rw [hZ aA,Hm,hH,hH];congr 1;split<;>omega))):p:=h
theorem AZ {p:Prop} (h:p:=by show aI _ [(_,.row _ _ (xs (j+1)).length)] _;rw [df];exact aI.ei _):p:=h
theorem DL {p:Prop} (h:p:=by show aI _ [(_,.row _ _ (xs (j+1)).length)] _;rw [ar];exact aI.ei _):p:=h
theorem Hs {p:Prop} (h:p:=by simp only [List.length_nil,Nat.zero_add,List.length_map];omega):p:=h
theorem DM {p:Prop} (h:p:=by show w.owner.length-(j+1)<w.owner.length-j;omega):p:=h
theorem ph {p:Prop} (h:p:=by show f.kids.length-(j+1)<f.kids.length-j;omega):p:=h
theorem tH {p:Prop} (h:p:=by first|(simp_all [];done)|(simp_all []<;>omega)):p:=h
theorem m7 {p:Prop} (h:p:=by rw [ad];exact List.mem_cons_self):p:=h
theorem yJ {p:Prop} (h:p:=by rw [bu];exact aI.ei _):p:=h
theorem u0 {p:Prop} (h:p:=by rw [ad];simp):p:=h
structure dp where
 low:Int
 high:Int
 e2:List Int
 fS:Nat
 no:Nat
 whole:Bool
 gv:Bool
 bn:List Int
def iU:dp:=⟨-1000000000,1000000000,[],0,0,false,false,[]⟩
def bs (arg:Int) (path:List Int):List Int:=[arg,(path.length:Int),path.getD 0 0,path.getD 1 0]
def m8 (s:Int) (l:List Int):List Int:=if l.contains s then l else (l++[s]).mergeSort (fun a b=>decide (a≤b))
def dp.need (k:dp) (neg:Bool):dp:={ k with gv:=k.gv || !neg }
def dp.slot (k:dp) (s:Int):dp:={ k with bn:=m8 s k.bn }
def dp.ask (k:dp) (x:cb):dp:=
 if x.1.op=2 then (if x.2 then { k with no:=k.no|||2^x.1.cls.toNat } else { k with fS:=k.fS|||2^x.1.cls.toNat })
 else if x.1.op=3 then (if x.2 then { k with low:=max k.low x.1.n } else { k with high:=min k.high (x.1.n-1),whole:=true })
 else if x.2 then { k with e2:=k.e2++[x.1.n] }
 else { k with low:=max k.low x.1.n,high:=min k.high x.1.n,whole:=true }
abbrev dW:=List Int→dp
def dW.hT (σ:dW) (sp:List Int) (k:dp):dW:=fun q=>if q=sp then k else σ q
def gX (neg:Bool) (arg:Int) (path:List Int):Nat→dW→dW
 | 0,σ=>σ.hT (bs arg []) ((σ (bs arg [])).need neg)
 | j+1,σ=>
  let A0:=gX neg arg path j σ
  let here:=bs arg (path.take j)
  let MD:=A0.hT here ((A0 here).slot (path.getD j 0))
  let there:=bs arg (path.take (j+1))
  MD.hT there ((MD there).need neg)
def addLit (σ:dW) (x:cb):dW:=
 let A0:=gX x.2 x.1.arg x.1.path x.1.path.length σ
 let here:=bs x.1.arg x.1.path
 A0.hT here ((A0 here).ask x)
def wW:dW:=fun _=>iU
def et (l:List cb):dW:=l.foldl addLit wW
theorem ME {s x:Int} {l:List Int}:x∈m8 s l↔x=s∨x∈l:=by
 unfold m8;split
 ·rename_i h
  constructor
  ·exact .inr
  ·rintro (rfl|ad)
   ·simpa using h
   ·exact ad
 ·rw [List.mem_mergeSort,ae4,t6]
  exact Or.comm
theorem MF (k:dp) (x:cb):(k.ask x).bn=k.bn:=by
 unfold dp.ask
 repeat' split
 all_goals rfl
def rf (w:bx) (σ:dW):Prop:=∀ q,(2≤q.getD 1 0→(σ q).bn=[])∧∀ x∈(σ q).bn,0≤x∧x<(w.owner.length:Int)
theorem rf.hT {w:bx} {σ:dW} (h:rf w σ) {sp:List Int} {k:dp} (aA:(2≤sp.getD 1 0→k.bn=[])∧∀ x∈k.bn,0≤x∧x<(w.owner.length:Int)):rf w (σ.hT sp k):=by
 intro q;unfold dW.hT;by_cases e:q=sp
 ·rw [g6 e,e];exact aA
 ·rw [d9 e];exact h q
theorem MG {w:bx} {neg:Bool} {arg:Int} {path:List Int} (aD:path.length≤2) (ar:∀ s∈path,0≤s∧s<(w.owner.length:Int)):∀ (j:Nat),j≤path.length→∀ σ,rf w σ→rf w (gX neg arg path j σ)
  | 0,_,σ,h=>by
    rw [gX];exact h.hT (h _)
  | j+1,aH,σ,h=>by
    have U:=MG (neg:=neg) (arg:=arg) aD ar j ag σ h;rw [gX];generalize gX neg arg path j σ=Ht at U;have aw:j<path.length:=by omega
    have ad:rf w (Ht.hT (bs arg (path.take j)) ((Ht (bs arg (path.take j))).slot (path.getD j 0))):=by
      refine U.hT ⟨fun ad=>?_,fun x ab=>?_⟩
      · exfalso
        have:(bs arg (path.take j)).getD 1 0=((path.take j).length:Int):=rfl;rw [this,ae8] at ad;omega
      · have ab:x∈m8 (path.getD j 0) (Ht (bs arg (path.take j))).bn:=ab
        rcases ME.1 ab with rfl|ab
        · rw [d5,f7 aw]
          exact ar _ (am9 aw)
        · exact (U _).2 x ab
    exact ad.hT (ad _)
theorem DN {w:bx} {f:ao} (h:h9 w f=true) (aE:f.c0=true):f.path.length≤2∧∀ s∈f.path,0≤s∧s<(w.owner.length:Int):=by
 simp only [h9,aE,ag7,f9,i7,ag6] at h;exact ⟨h.2.2.2.2.2.1,fun s ar=>by have:=h.2.2.2.2.2.2.1 s ar;omega⟩
theorem Vp {w:bx} {x:cb} (az:h9 w x.1=true) (aE:x.1.c0=true) {σ:dW} (h:rf w σ):rf w (addLit σ x):=by
 obtain ⟨U,ad⟩:=DN az aE;have aj:=MG (neg:=x.2) (arg:=x.1.arg) U ad x.1.path.length (g9 _) σ h;unfold addLit;simp only;refine aj.hT ?_;rw [MF];exact aj _
theorem Vq {w:bx} {l:List cb} (h:∀ x∈l,h9 w x.1=true∧x.1.c0=true):rf w (et l):=by
 unfold et;have key:∀ (l:List cb) (σ:dW),(∀ x∈l,h9 w x.1=true∧x.1.c0=true)→rf w σ→rf w (l.foldl addLit σ):=by
  intro l
  induction l with
  | nil=>exact fun σ _ h=>h
  | cons x r aX=>
   intro σ ab Vr;exact aX _ (fun y ax=>ab y (i6 _ ax)) (Vp (ab x i8).1 (ab x i8).2 Vr)
 exact key l wW h (fun q=>⟨fun _=>rfl,fun x ab=>by cases ab⟩)
def p5 {α:Type} (e:α→α→Bool):List α→List α→Bool
 | [],[]=>true
 | x::r,y::t=>e x y&&p5 e r t
 | _,_=>false
theorem MH {α:Type} (e:α→α→Bool):∀ (a b:List α),a.length≠b.length→p5 e a b=false
 | [],[],h=>absurd C h
 | [],_::_,_=>rfl
 | _::_,[],_=>rfl
 | x::r,y::t,h=>by rw [p5,MH e r t fV,Bool.and_false]
theorem Vs (fv:af) (e:ao→ao→Bool) (a b:List ao) (aE:a.length<bB) (AH:b.length<bB) (bk:∀ x∈a,∀ y∈b,eC d0 fv [ao.bW x,ao.bW y] (.bool (e x y))) :
  aV d0 94 [.aB 6 (a.map ao.bW) .bc,.aB 6 (b.map ao.bW) .bc,fv] (.bool (p5 e a b)):=by
 have an:=bG;refine aV.bl ai Tryz.func94 C C fun s I=>?_
 refine b8 ?_;refine ae.cond C (fun h=>?_) (fun h=>?_)
 ·have cE:a.length≠b.length:=by simp at h;omega
  rw [MH e a b cE];refine gT ?_;exact bA I
 ·have eY:a.length=b.length:=by simp at h;omega
  refine jG ?_;refine ae.b9 [0,1,2,15,16] C I (σ:=Nat) (fun j=>[(17,.int .i64 (j:Int))]) (fun _=>[]) (fun j=>j≤a.length∧p5 e a b=p5 e (a.drop j) (b.drop j)) (fun j=>a.length-j) 0 ⟨g8 _,rfl⟩ (cz C) a1 ?_;rintro j ⟨aH,aq⟩ I;refine b8 ?_;refine ae.cond C (fun aw=>?_) (fun aY=>?_);rotate_left;have aY:j=a.length:=by
   have:a.length≤j:=by simpa using aY
   omega
  ·rw [eG ag,eG ag] at aq
   rw [aq];refine ef ?_;exact bA I
  have aw:j<a.length:=by simpa using aw
  obtain ⟨x,ab,bP⟩:=b5 (f:=ao.bW) aw;obtain ⟨y,ax,c7⟩:=b5 (f:=ao.bW) (by omega:j<b.length);have aF:=bk x (d6 ab) y (d6 ax);rw [ao.cp] at bP;rw [ao.cp] at c7;rw [ao.cp,ao.cp] at aF;rw [drop_cons ab,drop_cons ax,p5] at aq;refine dL ?_;refine aa.dK ai I C C C C C C C (fun ha I=>?_);refine Lr I ?_;intro I;refine aa.dK ai I C C C C C C C (fun dk I=>?_);refine Lr I ?_;intro I;refine aa.mw C C C C C C aF ?_;cases au:e x y with
  | false=>
   rw [aq,au,f6];refine e8 ?_;exact bA I
  | true=>
   rw [au,f5] at aq;refine bD ?_;refine bp.mk (j+1) I ⟨aw,aq⟩ ck a1 Dp
theorem A1 {α:Type} (q:α→Bool) (l:List α):(!l.any fun x => !q x)=l.all q:=by
 induction l with
 | nil=>rfl
 | cons x r aX=>rw [List.any_cons,ak',Bool.not_or,Bool.not_not,aX]
theorem Vt (fv:af) (q:Bool) (x:ao) (h:eC d0 fv [ao.bW x] (.bool q)):eC d0 (.func 234 [] [.br [fv] 0]) [ao.bW x] (.bool (!q)):=by
 refine eC.fk (first:=[]) (cap:=[.br [fv] 0]) ?_;refine aV.bl ai Tryz.func234 C C fun s I=>?_
 rw [ao.cp] at h ⊢;refine dF ?_;refine aa.mw C C C C C C h ?_;refine eA ?_;exact bA I
theorem Vu (f:FuncId) (ij ht:List af) (q:ao→Bool) (xs:List ao) (aE:xs.length<bB) (h:∀ x∈xs,eC d0 (.func f ij ht) [ao.bW x] (.bool (q x))) :
  aV d0 200 [.aB 6 (xs.map ao.bW) .bc,.func f ij ht] (.bool (xs.all q)):=by
 rw [← A1];refine aV.bl ai Tryz.func200 C C fun s I=>?_
 have aF:=UU (.func 234 [] [.br [.func f ij ht] 0]) (fun x => !q x) xs aE (fun x ab=>Vt (.func f ij ht) (q x) x (h x ab));refine dF ?_;refine aa.eb C C C C C aF ?_;refine eA ?_;exact bA I
def p6 (x:ao×Bool):List af:=x.1.cells++[.bool x.2]
def h1 (x:ao×Bool):af := .agg (p6 x)
theorem Hu (l:List Int):∀ y∈l.map bb,kd 1 y=true:=by
 intro y ax;obtain ⟨z,-,rfl⟩:=ag0.1 ax;first|rfl|(rw [bb];rfl)
theorem A2 (l:List Int) (own:bQ) (aE:l.length<bB):aV d0 47 [.aB 1 (l.map bb) own] (.aB 1 (l.map bb) .bc):=by
 have an:=bG;refine aV.bl ai Tryz.func47 C C fun s I=>?_
 refine dF ?_;refine aa.op C C C (a6.G' ai C C C C (X:=fun _ _=>False)) ?_ (fun _ _ h=>False.elim h);rintro r ak ⟨rfl,⟨rfl,az⟩|rfl⟩
 ·refine eg ?_
  refine Fin.cG I C ?_;rw [az];exact aU.empty
 ·refine bD ?_
  refine aa.r0 ai C C C C C C C er C C C (.inl C) (.inr C) C (Hu _) (by simp only [af7,af8,f0];show _*8≤_;omega) Hs (.inr C) ?_;refine eA ?_;exact bA I
theorem Vv (l:List (ao×Bool)):∀ y∈l.map h1,kd 7 y=true:=by
 intro y ax;obtain ⟨z,-,rfl⟩:=ag0.1 ax;first|rfl|(rw [h1];rfl)
theorem Vw (xs:List af) (own:bQ):aV d0 193 [.aB 2 xs own] (.aB 2 xs .clip):=by
 refine aV.bl ai Tryz.func193 C C fun s I=>?_
 refine dF ?_;refine aa.slice ai 0 xs.length C C C C C C C C (.inr C) (.inl ⟨rfl,rfl⟩) (.inr ⟨_,_,rfl,rfl⟩) (.inr ⟨_,_,rfl,rfl,rfl⟩) ag (g9 _) ?_;rw [ae6,al7];refine eA ?_;exact bA I
theorem Hv (xs:List af) (own:bQ):aV d0 194 [.aB 1 xs own] (.aB 1 xs .clip):=by
 refine aV.bl ai Tryz.func194 C C fun s I=>?_
 refine dF ?_;refine aa.slice ai 0 xs.length C C C C C C C C (.inr C) (.inl ⟨rfl,rfl⟩) (.inr ⟨_,_,rfl,rfl⟩) (.inr ⟨_,_,rfl,rfl,rfl⟩) ag (g9 _) ?_;rw [ae6,al7];refine eA ?_;exact bA I
theorem Vx (xs:List af) (own:bQ):aV d0 262 [.aB 1 xs own] (.aB 1 xs .clip):=by
 refine aV.bl ai Tryz.func262 C C fun s I=>?_
 refine dF ?_;refine aa.slice ai 0 xs.length C C C C C C C C (.inr C) (.inl ⟨rfl,rfl⟩) (.inr ⟨_,_,rfl,rfl⟩) (.inr ⟨_,_,rfl,rfl,rfl⟩) ag (g9 _) ?_;rw [ae6,al7];refine eA ?_;exact bA I
theorem Vy (fv:af) (q:Bool) (x:Int) (h:eC d0 fv [bb x] (.bool q)):eC d0 (.func 233 [] [.br [fv] 0]) [bb x] (.bool (!q)):=by
 refine eC.fk (first:=[]) (cap:=[.br [fv] 0]) ?_;refine aV.bl ai Tryz.func233 C C fun s I=>?_
 rw [bb] at h ⊢;refine dF ?_;refine aa.mw C C C C C C h ?_;refine eA ?_;exact bA I
theorem MI (f:FuncId) (ij ht:List af) (q:Int→Bool) (xs:List Int) (aE:xs.length<bB) (h:∀ x∈xs,eC d0 (.func f ij ht) [bb x] (.bool (q x))) :
  aV d0 198 [.aB 1 (xs.map bb) .bc,.func f ij ht] (.bool (xs.all q)):=by
 rw [← A1];refine aV.bl ai Tryz.func198 C C fun s I=>?_
 have aF:=UY (.func 233 [] [.br [.func f ij ht] 0]) (fun x => !q x) xs aE (fun x ab=>Vy (.func f ij ht) (q x) x (h x ab));refine dF ?_;refine aa.eb C C C C C aF ?_;refine eA ?_;exact bA I
theorem Vz (fv:af) (q:Bool) (x:(Int×Int)) (h:eC d0 fv [ga x] (.bool q)):eC d0 (.func 208 [] [.br [fv] 0]) [ga x] (.bool (!q)):=by
 refine eC.fk (first:=[]) (cap:=[.br [fv] 0]) ?_;refine aV.bl ai Tryz.func208 C C fun s I=>?_
 rw [ga] at h ⊢;refine dF ?_;refine aa.mw C C C C C C h ?_;refine eA ?_;exact bA I
theorem MJ (f:FuncId) (ij ht:List af) (q:(Int×Int)→Bool) (xs:List (Int×Int)) (aE:xs.length<bB) (h:∀ x∈xs,eC d0 (.func f ij ht) [ga x] (.bool (q x))) :
  aV d0 168 [.aB 2 (xs.map ga) .bc,.func f ij ht] (.bool (xs.all q)):=by
 rw [← A1];refine aV.bl ai Tryz.func168 C C fun s I=>?_
 have aF:=U1 (.func 208 [] [.br [.func f ij ht] 0]) (fun x => !q x) xs aE (fun x ab=>Vz (.func f ij ht) (q x) x (h x ab));refine dF ?_;refine aa.eb C C C C C aF ?_;refine eA ?_;exact bA I
theorem VA (fv:af) (q:Bool) (x:eH) (h:eC d0 fv [iT x] (.bool q)):eC d0 (.func 240 [] [.br [fv] 0]) [iT x] (.bool (!q)):=by
 refine eC.fk (first:=[]) (cap:=[.br [fv] 0]) ?_;refine aV.bl ai Tryz.func240 C C fun s I=>?_
 rw [iT] at h ⊢;refine dF ?_;refine aa.mw C C C C C C h ?_;refine eA ?_;exact bA I
theorem VB (f:FuncId) (ij ht:List af) (q:eH→Bool) (xs:List eH) (aE:xs.length<bB) (h:∀ x∈xs,eC d0 (.func f ij ht) [iT x] (.bool (q x))) :
  aV d0 203 [.aB 2 (xs.map iT) .bc,.func f ij ht] (.bool (xs.all q)):=by
 rw [← A1];refine aV.bl ai Tryz.func203 C C fun s I=>?_
 have aF:=U4 (.func 240 [] [.br [.func f ij ht] 0]) (fun x => !q x) xs aE (fun x ab=>VA (.func f ij ht) (q x) x (h x ab));refine dF ?_;refine aa.eb C C C C C aF ?_;refine eA ?_;exact bA I
theorem Hw (f:ao):aV d0 171 [f.bW] (.bool f.c0):=by
 have an:=bG;refine aV.bl ai Tryz.func171 C C fun s I=>?_
 rw [ao.cp]
 repeat' (first|(with_reducible first|apply ae.seq|apply b4|apply ae.ret)|refine c5 C ?_|refine ae.cJ ?_|refine aa.nil ?_|refine cD C ?_|refine aa.skip C C C ?_|(fail_if_success refine aa.same true C ?_);(fail_if_success refine aa.same false C ?_);refine aa.hG C C (fun h=>?_) (fun h=>?_))
 all_goals exact Fin.cG I C (aU.of_eq (by first|(simp_all [ao.c0];done)|(simp_all [ao.c0]<;>omega)))
theorem VC (op:Int):aV d0 235 [.int .i64 op] (.int .i64 (sa op)):=by
 have an:=bG;refine aV.bl ai Tryz.func235 C C fun s I=>?_
 repeat' (first|(with_reducible first|apply ae.seq|apply b4|apply fQ|apply fA|apply hj|apply ae.ret|apply ae.skip|apply ae.block)|refine c5 C ?_|refine ae.cond C (fun h=>?_) (fun h=>?_))
 all_goals exact Fin.cG I C (aU.of_eq (by first|(simp_all [sa];done)|(simp_all [sa]<;>omega)))
theorem MK (f g:ao) (a7:f.path.length<bB) (av:g.path.length<bB):aV d0 104 [f.bW,g.bW] (.bool (decide (f.op=g.op)&&(decide (f.arg=g.arg)&&(decide (f.cls=g.cls)&&(decide (f.n=g.n)&&f.path==g.path))))):=by
 have an:=bG;refine aV.bl ai Tryz.func104 C C fun s I=>?_
 rw [ao.cp,ao.cp];have U:=uS f.path g.path a7 av;unfold bg bb at U
 repeat' (first|(with_reducible first|apply ae.seq|apply b4|apply ae.ret)|refine c5 C ?_|refine ae.cJ ?_|refine aa.nil ?_|refine cD C ?_|refine aa.skip C C C ?_|refine aa.eb C C C C C cw ?_|(fail_if_success refine aa.same true C ?_);(fail_if_success refine aa.same false C ?_);refine aa.hG C C (fun h=>?_) (fun h=>?_))
 all_goals exact Fin.cG I C (aU.of_eq tH)
theorem VD {m c n:Nat} (h:m<n):m >>> c<n:=by
 rw [Nat.shiftRight_eq_div_pow];exact Nat.lt_of_le_of_lt (Nat.div_le_self _ _) h
theorem VE (m c:Nat):decide ((((m >>> c) &&& 1:Nat):Int)=1)=m.testBit c:=by
 rw [Nat.testBit,aD2];have h:1 &&& (m >>> c)=(m >>> c) % 2:=by rw [aD2];exact Nat.and_one_is_mod _
 rw [h];rcases Nat.mod_two_eq_zero_or_one (m >>> c) with e|e<;>rw [e]<;>rfl
theorem ML {c:Nat} (h:c<64):2^c<2^64:=ai4 ag h
theorem yK (m c:Nat) (hm:m<2^64) (aF:c<64):aV d0 173 [.int .u64 (m:Int),.int .i64 (c:Int)] (.bool (m.testBit c)):=by
 have an:=bG;refine aV.bl ai Tryz.func173 C C fun s I=>?_
 refine dF ?_;refine aa.shr ((m >>> c:Nat):Int) C C C C C C ag (r6 aF) ?_;refine aa.bits (((m >>> c) &&& 1:Nat):Int) C C C C C C (uQ (VD hm) ec) ?_;refine eA ?_;refine Fin.cG I C (aU.of_eq ?_);rw [← VE];rfl
theorem A3 (m c:Nat) (hm:m<2^64) (aF:c<64):aV d0 197 [.int .u64 (m:Int),.int .i64 (c:Int)] (.int .u64 ((m|||2^c:Nat):Int)):=by
 have an:=bG;refine aV.bl ai Tryz.func197 C C fun s I=>?_
 refine dF ?_;refine aa.shl ((2^c:Nat):Int) C C C C C C ag (Dw aF) ?_;refine aa.bits ((m|||2^c:Nat):Int) C C C C C C (wL hm (ML aF)) ?_;refine eA ?_;exact bA I
def p7 (w:bx) (up:List Nat):List af:=fl w++up.map fun n => .int .u64 (n:Int)
def e5 (w:bx) (up:List Nat):af := .br (p7 w up) 0
theorem MM (w:bx) (up:List Nat) (c:Int) (hw:w.ps.length≤60):aV d0 199 [e5 w up,.int .i64 c] (.bool (decide (c≥3)&&decide (c<3+(w.ps.length:Int)))):=by
 have an:=bG;refine aV.bl ai Tryz.func199 C C fun s I=>?_
 unfold e5 p7 fl cZ bg;have dn:ad5 .i64 (3+((w.ps.map bg).length:Int))=3+(w.ps.length:Int):=by rw [f0,ee ag ag]
 unfold bg at dn
 repeat' (first|(with_reducible first|apply ae.seq|apply b4|apply ae.ret)|refine c5 C ?_|refine ae.cJ ?_|refine aa.nil ?_|refine cD C ?_|refine aa.skip C C C ?_|(fail_if_success refine aa.same true C ?_);(fail_if_success refine aa.same false C ?_);refine aa.hG C C (fun h=>?_) (fun h=>?_))
 all_goals exact Fin.cG I C (aU.of_eq tH)
theorem VF (w:bx) (up:List Nat) (c:Int) (hw:w.ps.length≤60):aV d0 237 [e5 w up,.int .i64 c] (.bool (decide (c≥0)&&decide (c<3+(w.ps.length:Int)))):=by
 have an:=bG;refine aV.bl ai Tryz.func237 C C fun s I=>?_
 unfold e5 p7 fl cZ bg;have dn:ad5 .i64 (3+((w.ps.map bg).length:Int))=3+(w.ps.length:Int):=by rw [f0,ee ag ag]
 unfold bg at dn
 repeat' (first|(with_reducible first|apply ae.seq|apply b4|apply ae.ret)|refine c5 C ?_|refine ae.cJ ?_|refine aa.nil ?_|refine cD C ?_|refine aa.skip C C C ?_|(fail_if_success refine aa.same true C ?_);(fail_if_success refine aa.same false C ?_);refine aa.hG C C (fun h=>?_) (fun h=>?_))
 all_goals exact Fin.cG I C (aU.of_eq tH)
theorem VG (w:bx) (up:List Nat) (c:Int):aV d0 263 [e5 w up,.int .i64 c] (.bool (decide (c≥0)&&decide (c<(w.owner.length:Int)))):=by
 have an:=bG;refine aV.bl ai Tryz.func263 C C fun s I=>?_
 unfold e5 p7 fl cZ bg
 repeat' (first|(with_reducible first|apply ae.seq|apply b4|apply ae.ret)|refine c5 C ?_|refine ae.cJ ?_|refine aa.nil ?_|refine cD C ?_|refine aa.skip C C C ?_|(fail_if_success refine aa.same true C ?_);(fail_if_success refine aa.same false C ?_);refine aa.hG C C (fun h=>?_) (fun h=>?_))
 all_goals exact Fin.cG I C (aU.of_eq tH)
theorem VH (w:bx) (up:List Nat) (c:Int):eC d0 (.func 263 [e5 w up] []) [bb c] (.bool (decide (c≥0)&&decide (c<(w.owner.length:Int)))):=
 eC.fk (first:=[e5 w up]) (cap:=[]) (VG w up c)
theorem VI (w:bx) (up:List Nat) (c:Int) (hw:w.ps.length≤60):eC d0 (.func 199 [e5 w up] []) [bb c] (.bool (decide (c≥3)&&decide (c<3+(w.ps.length:Int)))):=
 eC.fk (first:=[e5 w up]) (cap:=[]) (MM w up c hw)
theorem VJ (w:bx) (up:List Nat) (l:List Int) (aE:l.length<bB):aV d0 236 [e5 w up,bg l] (.bool (decide (l.length≤2)&&l.all fun c=>decide (c≥0)&&decide (c<(w.owner.length:Int)))):=by
 have an:=bG;refine aV.bl ai Tryz.func236 C C fun s I=>?_
 have U:=MI 263 [e5 w up] [] _ l aE (fun x _=>VH w up x);unfold bg;unfold e5 at U ⊢
 repeat' (first|(with_reducible first|apply ae.seq|apply b4|apply ae.ret)|refine c5 C ?_|refine ae.cJ ?_|refine aa.nil ?_|refine cD C ?_|refine aa.skip C C C ?_|refine aa.eb C C C C C cw ?_|(fail_if_success refine aa.same true C ?_);(fail_if_success refine aa.same false C ?_);refine aa.hG C C (fun h=>?_) (fun h=>?_))
 all_goals exact Fin.cG I C (aU.of_eq tH)
theorem VK (b:Bool):aV d0 261 [.bool b] (.int .i64 (if b then 0 else 2)):=by
 have an:=bG;refine aV.bl ai Tryz.func261 C C fun s I=>?_
 repeat' (first|(with_reducible first|apply ae.seq|apply b4|apply fQ|apply ae.ret|apply ae.skip)|refine c5 C ?_|refine ae.cond C (fun h=>?_) (fun h=>?_))
 all_goals exact Fin.cG I C (aU.of_eq tH)
theorem A4 {w:bx} {up:List Nat} {c m:Nat} (h:up[c]? = some m):(p7 w up)[2+c]? = some (.int .u64 (m:Int)):=by
 unfold p7 fl;rw [List.getElem?_append_right ba];simp [h]
theorem MN (w:bx) (up:List Nat) (c bC m o:Nat) (aF:c<63) (hm:up[c]? = some m) (hR:m<2^64) (ar:w.owner[bC]? = some (o:Int)) (ah:o<64):aV d0 209 [e5 w up,.int .i64 (c:Int),.int .i64 (bC:Int)] (.bool (m.testBit o)):=by
 have an:=bG;refine aV.bl ai Tryz.func209 C C fun s I=>?_
 have U:=yK m o hR ah;have ad:(w.owner.map bb)[bC]? = some (.int .i64 (o:Int)):=by simp [ar,bb]
 have aj:=A4 (w:=w) hm;unfold e5;unfold p7 fl bg at aj ⊢;refine cB ?_;refine aM.l1 ai c C C C C C C C C C C aF ?_;refine aM.AR ai C C C C C C C (by simpa using aj) ?_;refine db ?_;exact bA I
theorem Hx (c:Nat) (aF:c<64):aV d0 197 [.int .u64 1,.int .i64 (c:Int)] (.int .u64 ((1|||2^c:Nat):Int)):=A3 1 c ec aF
def nJ (w:bx) (u:List Nat):List af:=p7 w (pad u)
theorem MO {w:bx} {u:List Nat} (h:u.length<63) (v:Nat):eS (2+u.length*1) [.int .u64 (v:Int)] (nJ w u)=nJ w (u++[v]):=by
 rw [pb];unfold nJ p7;rw [List.set_append_right _ _ (by simp [fl]),← Vk h v,List.map_set];congr 2;simp [fl]
theorem MP {w:bx} {u:List Nat} (h:u.length≤63):(nJ w u).length=65:=by
 unfold nJ p7;rw [f8,f0,Vj h];rfl
theorem VL {w:bx} {u:List Nat} {c m:Nat} (h:u[c]? = some m):(nJ w u)[2+c*1]? = some (.int .u64 (m:Int)):=by
 rw [Nat.mul_one];exact A4 (yF h)
theorem VM (j:Nat) (aH:j<3):[1,3,5].take (j+1)=[1,3,5].take j++[1|||2^j]:=by
 rcases j with _|_|_|j
 ·rfl
 ·rfl
 ·rfl
 ·omega
theorem VN (w:bx) (hw:gg w):aV d0 165 [fh w] (.cu [e5 w (pad (eV w.ps)),.bool true]):=by
 have an:=bG;have pj:=hw.jZ;have gz:=hw.bn;refine aV.bl ai Tryz.func165 C C fun s I=>?_
 unfold fh fl cZ bg;refine dF ?_;refine aa.da 15 C cP ?_;refine fK ?_;refine ae.cond C (fun h=>?_) (fun _=>?_)
 ·simp at h;omega
 refine ae.skip ?_
 repeat (first|(refine Dk ?_)|refine aa.jV I C C C C C C (fun b I=>?_)|(refine Dl ?_))
 refine ae.b9 [1,4] C I (σ:=Nat) (fun j=>[(24,.int .i64 (j:Int))]) (fun j=>[(.own b,.box 234 (nJ w ([1,3,5].take j)))]) (fun j=>j≤3) (fun j=>3-j) 0 (g8 _) (cz C) a1 ?_;rintro j aH I;refine b8 ?_;refine ae.cond C (fun aw=>?_) (fun aY=>?_)
 ·have aw:j<3:=by have:=ai9 aw;omega
  have U:=Hx j ag;have e:eS (2+j*1) [.int .u64 ((1|||2^j:Nat):Int)] (nJ w ([1,3,5].take j))=nJ w ([1,3,5].take (j+1)):=by
   have aE:([1,3,5].take j).length=j:=by simp;omega
   have:=MO (w:=w) (u:=[1,3,5].take j) ag (1|||2^j);rw [aE] at this;rw [this,VM j aw]
  have hlen:(nJ w ([1,3,5].take j)).length=65:=MP cP;refine cB ?_;refine aM.arr ai j C C C C C C C C C C ag ?_;refine aM.jv ai I _ C C C C C C C C C C aZ (by rw [hlen];show 2+j*1+1≤65;omega) e (fun I=>?_);refine gr ?_;exact bp.mk (j+1) I aw ck a1 (by show 3-(j+1)<3-j;omega)
 have aY:j=3:=by have:=of_decide_eq_false aY;omega
 subst aY;refine bD ?_;refine ae.b9 [1,4,36,37] C I (σ:=Nat) (fun j=>[(38,.int .i64 (j:Int))]) (fun j=>[(.own b,.box 234 (nJ w (eV (w.ps.take j))))]) (fun j=>j≤w.ps.length) (fun j=>w.ps.length-j) 0 (g8 _) (cz C) a1 ?_;rintro j aH I;refine b8 ?_;refine ae.cond C (fun aw=>?_) (fun aY=>?_);rotate_left
 ·have aY:j=w.ps.length:=by simp at aY;omega
  subst aY;rw [ae6] at I ⊢;have kl:w.owner.all (fun c=>decide (c≥3)&&decide (c<3+(w.ps.length:Int)))=true:=by
   rw [ag6];intro o ah;have:=hw.own o ah;simp;omega
  have m9:=MI 199 [e5 w (pad (eV w.ps))] [] _ w.owner ag (fun x _=>VI w (pad (eV w.ps)) x pj);rw [kl] at m9;refine ae.mu I 4 b C aZ (fun I=>?_);unfold e5 at m9 ⊢;refine db ?_;exact bA I
 have aw:j<w.ps.length:=by simpa using aw
 obtain ⟨l,ax,c7⟩:=b5 (f:=bg) aw;have jX:=DE hw.oh ax;have U:=Hx (3+j) ag;have kc:(eV (w.ps.take j)).length=3+j:=by rw [tC,ae8];omega
 have Hy:∀ m∈eV (w.ps.take j),m<2^64:=yE ui;have iz:ad5 .i64 (3+(j:Int))=((3+j:Nat):Int):=by rw [ee ag ag];omega
 have mB:l.length<100:=by have:=hw.short l (d6 ax);omega
 generalize p8:eV (w.ps.take j)=aeB at I kc Hy;unfold bg at c7;have U:aV d0 197 [.int .u64 1,.int .i64 (ad5 .i64 (3+(j:Int)))] (.int .u64 ((1|||2^(3+j):Nat):Int)):=by rw [iz];exact U
 refine cB ?_;refine ae.b9 [1,4,36,37,38,6,7,46,47] C I (σ:=Nat) (fun k=>[(48,.int .i64 (k:Int)),(8,.int .u64 (((l.take k).foldl (fun s p=>s|||aeB.getD p.toNat 0) (1|||2^(3+j)):Nat):Int))]) (fun k=>[(.own b,.box 234 (nJ w aeB))]) (fun k=>k≤l.length) (fun k=>l.length-k) 0 (g8 _) (cz C) a1 ?_;rintro k aA I;refine b8 ?_;refine ae.cond C (fun cl=>?_) (fun dd=>?_);rotate_left
 ·have dd:k=l.length:=by simp at dd;omega
  subst dd;rw [ae6] at ⊢;have e:eS (2+(3+j)*1) [.int .u64 ((sd aeB l:Nat):Int)] (nJ w aeB)=nJ w (eV (w.ps.take (j+1))):=by
   rw [hZ ax,Mu,p8,← kc];exact MO ag _
  have hlen:(nJ w aeB).length=65:=MP ag;unfold sd at e;rw [kc] at e;refine bD ?_;refine aa.arr ai (3+j) C C C C C C C C C iz ag ?_;refine aa.jv ai I _ C C C C C C C C C aZ (by rw [hlen];show 2+(3+j)*1+1≤65;omega) e (fun I=>?_);refine gf ?_;exact bp.mk (j+1) I aw ck a1 (by show w.ps.length-(j+1)<w.ps.length-j;omega)
 have cl:k<l.length:=by simpa using cl
 obtain ⟨p,aF,m2⟩:=b5 (f:=bb) cl;obtain ⟨g1,g2,g3⟩:=DF jX aF;obtain ⟨q,rfl⟩:∃ q:Nat,p=q:=⟨p.toNat,by omega⟩;have h8:=yw (l.take k) q (by have:=List.length_take_le' k l;omega);have u1:(l.take k).contains (q:Int)=false:=by simpa using g3
 rw [u1] at h8;unfold bg at h8;rw [List.map_take] at h8;unfold bb at m2 h8;obtain ⟨m,hm⟩:∃ m,aeB[q]? = some m:=⟨aeB[q]' ag,f7 _⟩;refine dL ?_;refine aa.da 55 C (H1 ag) ?_;refine ep ?_;refine aa.da 61 C (by rw [iz];exact H1 ag) ?_;refine ep ?_;refine aa.slice ai 0 k C C C C C C C C (.inr C) (.inl ⟨rfl,rfl⟩) (.inr ⟨_,_,rfl,rfl⟩) (.inl ⟨rfl,rfl⟩) (g8 _) (by simpa using aA) ?_;rw [al7];refine db ?_;refine aa.arr ai q C C C C C C C C C C ag ?_;refine aa.jY ai I C C C C C C aZ C (VL hm) ?_;refine aa.bits (((l.take k).foldl (fun s p=>s|||aeB.getD p.toNat 0) (1|||2^(3+j))|||m:Nat):Int) C C C C C C (wL (Hl Hy _ _ (Hk ec (ai4 ag ag))) (Hy m (d6 hm))) ?_;refine gf ?_;refine bp.mk (k+1) I cl (by repeat (first|exact trivial|refine ⟨⟨_,rfl,aO⟩,?_⟩|refine ⟨⟨_,rfl,aU.of_eq (by (first|rw [iN ag]|(rw [hZ aF,aq'];simp [hm])))⟩,?_⟩)) a1 (by show l.length-(k+1)<l.length-k;omega)
theorem VO (fv:af) (K aP:a8) (q:Bool) (x:ao) (h:di d0 fv [x.bW] K (fun o K=>o = .ret (.bool q)∧K=aP)):di d0 (.func 234 [] [.br [fv] 0]) [x.bW] K (fun o K=>o = .ret (.bool (!q))∧K=aP):=by
 refine di.fk (first:=[]) (cap:=[.br [fv] 0]) ?_;refine bF.bl ai Tryz.func234 C C fun s I=>?_
 rw [ao.cp] at h ⊢;refine dF ?_;refine aa.gJ rfl rfl rfl rfl rfl rfl h I (aI.all _) ?_ (fun _ _ ⟨h,_⟩ _=>by cases h);rintro _ _ ⟨⟨⟩,rfl⟩ I;rw [d7] at I ⊢;refine eA ?_;exact Fin.bt I C aO (aI.all _) ⟨rfl,rfl⟩
theorem VP (f:FuncId) (ij ht:List af) (xs:List ao) (T:Nat→a8) (cr:Nat→Bool) (aE:xs.length<bB) (h:∀ j x,xs[j]? = some x→(∀ i,i<j→cr i=true)→di d0 (.func f ij ht) [x.bW] (T j) (fun o K=>o = .ret (.bool (cr j))∧K=T (j+1))) :
  bF d0 200 [.aB 6 (xs.map ao.bW) .bc,.func f ij ht] (T 0)
   (fun o K=>(o = .ret (.bool true)∧K=T xs.length∧∀ i,i<xs.length→cr i=true)∨∃ j,j<xs.length∧cr j=false∧(∀ i,i<j→cr i=true)∧o = .ret (.bool false)∧K=T (j+1)):=by
 refine bF.bl ai Tryz.func200 C C fun s I=>?_
 have aF:=G5 (.func 234 [] [.br [.func f ij ht] 0]) xs T (fun j => !cr j) aE (fun j x ab aN=>VO (.func f ij ht) (T j) (T (j+1)) (cr j) x (h j x ab (fun i eR=>by simpa using aN i eR)));refine dF ?_;refine aa.b7 rfl rfl rfl rfl rfl aF I (aI.all _) ?_ (fun _ _ h _=>by rcases h with ⟨h,_⟩|⟨_,_,_,_,h,_⟩<;>cases h);rintro _ _ (⟨⟨⟩,rfl,U⟩|⟨j,U,ad,aj,⟨⟩,rfl⟩) I
 all_goals rw [d7] at I ⊢
 ·refine eA ?_
  exact Fin.bt I C aO (aI.all _) (.inl ⟨rfl,rfl,fun i aN=>by simpa using U i aN⟩)
 ·refine eA ?_
  exact Fin.bt I C aO (aI.all _) (.inr ⟨j,U,by simpa using ad,fun i aN=>by simpa using aj i aN,rfl,rfl⟩)
def l3 (k4:Nat) (k:Int):a8:=[(.own k4,.box 3 [.int .i64 k])]
theorem VQ (w:bx) (d:Nat) (k:Int) (f:ao):e1 w d k f=if decide (k-1<0)||decide (d=0) then (false,k-1) else if h9 w f then gV w (d-1) (k-1) f.kids else (false,k-1):=by
 cases f;rw [e1];rfl
def k5 (w:bx) (d:Nat) (k:Int) (ks:List ao):Nat→Int
  | 0=>k
  | j+1=>match ks[j]? with
    | some x=>(e1 w d (k5 w d k ks j) x).2
    | none=>k5 w d k ks j
theorem wX (w:bx) (d:Nat) (k:Int) (x:ao) (r:List ao):∀ j,k5 w d k (x::r) (j+1)=k5 w d (e1 w d k x).2 r j
  | 0=>by simp [k5]
  | j+1=>by
    rw [k5,wX w d k x r j,List.getElem?_cons_succ];rfl
theorem MQ (w:bx) (d:Nat):∀ (ks:List ao) (k:Int),
    (∀ j x,ks[j]? = some x→(e1 w d (k5 w d k ks j) x).1=true)→gV w d k ks=(true,k5 w d k ks ks.length)
  | [],_,_=>by rw [gV];rfl
  | x::r,k,h=>by
    have bu:(e1 w d k x).1=true:=h 0 x C;rw [gV,g6 bu,MQ w d r _ (fun j y aH=>by rw [← wX];exact h (j+1) y (by simpa using aH)),i0,wX]
theorem MR (w:bx) (d:Nat):∀ (ks:List ao) (k:Int) (j:Nat) (x:ao),ks[j]? = some x→(∀ (i:Nat) y,i<j→ks[i]? = some y→(e1 w d (k5 w d k ks i) y).1=true)→(e1 w d (k5 w d k ks j) x).1=false →
    gV w d k ks=(false,k5 w d k ks (j+1))
  | [],_,_,_,h,_,_=>by simp at h
  | y::r,k,0,x,h,_,ab=>by
    obtain rfl:y=x:=by simpa using h
    have bP:(e1 w d k y).1=false:=ab;rw [gV,d9 (by rw [bP];simp),wX];rfl
  | y::r,k,j+1,x,h,aN,ab=>by
    have bu:(e1 w d k y).1=true:=aN 0 y (Nat.succ_pos _) C;rw [gV,g6 bu,wX];rw [wX] at ab;exact MR w d r _ j x fV (fun i z eR bE=>by rw [← wX];exact aN (i+1) z ag (by simpa using bE)) ab
mutual
theorem MS:∀ (x:ao) (w:bx) (d:Nat) (k:Int),(e1 w d k x).1=true→0≤(e1 w d k x).2∧(e1 w d k x).2≤k
  | .mk o a p c n ks,w,d,k,h=>by
    rw [e1] at h ⊢;split at h
    · cases h
    · rename_i aF
      rw [d9 aF];simp only [Bool.or_eq_true,i7,not_or] at aF;split at h
      · rename_i az
        rw [g6 az];have:=MT ks w (d-1) (k-1) h ag;omega
      · cases h
theorem MT:∀ (ks:List ao) (w:bx) (d:Nat) (k:Int),(gV w d k ks).1=true→0≤k→0≤(gV w d k ks).2∧(gV w d k ks).2≤k
  | [],w,d,k,_,bu=>by rw [gV];exact ⟨bu,ak6 _⟩
  | x::r,w,d,k,h,bu=>by
    rw [gV] at h ⊢;split at h
    · rename_i ab
      rw [g6 ab];have U:=MS x w d k ab;have ad:=MT r w d _ h U.1;omega
    · cases h
end
theorem MU {w:bx} {d:Nat} {ks:List ao} {k:Int} (bu:0≤k):∀ (j:Nat),(∀ (i:Nat) y,i<j→ks[i]? = some y→(e1 w d (k5 w d k ks i) y).1=true)→0≤k5 w d k ks j∧k5 w d k ks j≤k
  | 0,_=>⟨bu,ak6 _⟩
  | j+1,h=>by
    have U:=MU bu j fun i y aN ax=>h i y ag ax
    rw [k5];cases ab:ks[j]? with
    | none=>exact U
    | some x=>
      have ad:=MS x w d _ (h j x (Nat.lt_succ_self _) ab);simp only;omega
theorem VR (w:bx) (up:List Nat) (k4:Nat) (y:ao) (d:Nat) (k:Int) (ay:d≤12) (nn:0<d)
  (h:bF d0 202 [e5 w up,y.bW,.ptr k4 0,.int .i64 ((d-1:Nat):Int)] (l3 k4 k) (fun o K=>o = .ret (.bool (e1 w (d-1) k y).1)∧K=l3 k4 (e1 w (d-1) k y).2)) :
  di d0 (.func 238 [] [.br [e5 w up] 0,.br [.ptr k4 0] 0,.br [.int .i64 (d:Int)] 0]) [y.bW] (l3 k4 k) (fun o K=>o = .ret (.bool (e1 w (d-1) k y).1)∧K=l3 k4 (e1 w (d-1) k y).2):=by
 refine di.fk (first:=[]) (cap:=[.br [e5 w up] 0,.br [.ptr k4 0] 0,.br [.int .i64 (d:Int)] 0]) ?_;refine bF.bl ai Tryz.func238 C C fun s I=>?_
 have hw:ad5 .i64 ((d:Int)-1)=((d-1:Nat):Int):=by rw [ee ag ag];omega
 rw [ao.cp] at h ⊢;rw [← hw] at h;unfold e5 at h ⊢;refine dF ?_;refine aa.b7 rfl rfl rfl rfl rfl h I (aI.all _) ?_ (fun _ _ ⟨h,_⟩ _=>by cases h);rintro _ _ ⟨⟨⟩,rfl⟩ I;rw [d7] at I ⊢;refine eA ?_;exact Fin.bt I C aO (aI.all _) ⟨rfl,rfl⟩
theorem VS (w:bx) (up:List Nat) (hw:w.ps.length≤60) (k4:Nat):∀ (n:Nat) (f:ao) (d:Nat) (k:Int),f.size≤n→n<bB→d≤12→0≤k→k≤bB →
    bF d0 202 [e5 w up,f.bW,.ptr k4 0,.int .i64 (d:Int)] (l3 k4 k) (fun o K=>o = .ret (.bool (e1 w d k f).1)∧K=l3 k4 (e1 w d k f).2):=by
  have an:=bG;intro n
  induction n with
  | zero=>intro x d k h;have:=x.size_eq;omega
  | succ n aX=>
    intro f d k az i' ay lO hL;have p9:ad5 .i64 (k-1)=k-1:=ee ag ag;refine bF.bl ai Tryz.func202 C C fun s I=>?_
    have iD:=f.size_eq;have aF:=VQ w d k f;have U:=VC f.op;have ad:=Hw f;have aj:=VJ w up f.path ag;have a':=VF w up f.cls hw;rw [ao.cp] at ad ⊢;unfold e5 bg at aj;unfold e5 at a' ⊢;unfold l3 at I ⊢;refine gK I ?_;intro I;rw [p9] at I ⊢
    repeat' (first|(with_reducible first|apply ae.seq|apply b4|apply fQ|apply fA|apply hj|apply ae.ret|apply ae.skip|apply ae.block)|refine c5 C ?_|refine ae.cJ ?_|refine aa.nil ?_|refine ae.fH C ?_|refine cD C ?_|refine aa.skip C C C ?_|refine aM.nil ?_|refine aM.step C ?_|refine aa.eb C C C C C cw ?_|refine aM.eb C C C C C cw ?_|(fail_if_success refine aa.same true C ?_);(fail_if_success refine aa.same false C ?_);refine aa.hG C C (fun h=>?_) (fun h=>?_)|(fail_if_success refine aM.same true C ?_);(fail_if_success refine aM.same false C ?_);refine aM.hG C C (fun h=>?_) (fun h=>?_)|refine ae.cond C (fun h=>?_) (fun h=>?_))
    all_goals first
      | (have key:e1 w d k f=(false,k-1):=by
          clear aX I U ad aj a' az iD p9
          rw [aF]
          simp only [h9,kF,ao.c0] at *
          grind
         exact Fin.bt (K:=l3 k4 (k-1)) I C aO (by simp only [l3];exact a1) ⟨by rw [key],by rw [key];rfl⟩)
      | (have m':f.kids=[]:=by
          clear aX I U ad aj a' az iD p9 aF
          refine ai6 ?_
          simp only [h9,kF,ao.c0,sa,f0] at *
          grind
         have key:e1 w d k f=(h9 w f,k-1):=by
          clear aX I U ad aj a' az iD p9
          rw [aF,m',gV]
          grind
         refine Fin.bt (K:=l3 k4 (k-1)) I C (aU.of_eq (ae7 af.bool ?_)) (by simp only [l3];exact a1) ⟨by rw [key],by rw [key];rfl⟩
         clear aX I U ad aj a' az iD p9 aF key
         simp only [h9,kF,ao.c0,sa,f0] at *
         grind)
      | skip
    have VT:h9 w f=true:=by
      clear aX I U ad aj a' az iD p9 aF;simp only [h9,kF,ao.c0,f0] at *;simp at *;grind
    have nn:0<d:=by
      rcases Nat.eq_zero_or_pos d with rfl|h
      · simp_all
      · exact h
    have A5:¬ k-1<0:=by
      clear aX I U ad aj a';grind
    have key:e1 w d k f=gV w (d-1) (k-1) f.kids:=by
      rw [aF,d9 cP,g6 VT]
    have hlen:=ao.q5 f.kids
    have m':=VP 238 [] [.br [e5 w up] 0,.br [.ptr k4 0] 0,.br [.int .i64 (d:Int)] 0] f.kids (fun j=>l3 k4 (k5 w (d-1) (k-1) f.kids j)) (fun j=>match f.kids[j]? with|some x=>(e1 w (d-1) (k5 w (d-1) (k-1) f.kids j) x).1|none=>true) ag (fun j x ab aN=>by
      have sf:=MU (w:=w) (d:=d-1) (ks:=f.kids) (k:=k-1) ag j (fun i y eR ax=>by have:=aN i eR;simp only [ax] at this;simpa using this)
      have hm:=ao.iQ (d6 ab)
      have:=VR w up k4 x d (k5 w (d-1) (k-1) f.kids j) ay nn (aX x (d-1) _ ag ag ag sf.1 ag)
      simp only [k5,ab]
      exact this)
    unfold e5 at m';skip;refine aa.b7 C C C C C m' I (by simp only [l3,k5];exact a1) ?_ (fun _ _ h _=>by rcases h with ⟨h,_⟩|⟨_,_,_,_,h,_⟩<;>cases h);rintro _ _ (⟨⟨⟩,rfl,g1⟩|⟨j,g1,g2,g3,⟨⟩,rfl⟩) I
    · have:=MQ w (d-1) f.kids (k-1) (fun j x ab=>by have:=g1 j (List.getElem?_eq_some_iff.1 ab).1;simp only [ab] at this;simpa using this)
      rw [key,this];refine eA ?_;exact Fin.bt (K:=l3 k4 _) I C aO (by simp only [l3,ad',d8];exact a1) ⟨rfl,rfl⟩
    · obtain ⟨x,ab,-⟩:=b5 (f:=ao.bW) g1
      simp only [ab] at g2;have:=MR w (d-1) f.kids (k-1) j x ab (fun i y eR ax=>by have:=g3 i eR;simp only [ax] at this;simpa using this) (by simpa using g2);rw [key,this];refine eA ?_;exact Fin.bt (K:=l3 k4 _) I C aO (by simp only [l3,ad',d8];exact a1) ⟨rfl,rfl⟩
abbrev A6 (w:bx):List Nat:=pad (eV w.ps)
abbrev gh (w:bx):af:=e5 w (A6 w)
theorem VU (w:bx) (hw:w.ps.length≤60) (f:ao) (a7:f.size<bB):eC d0 (.func 201 [] [.br [gh w] 0]) [f.bW] (.bool (h' w f)):=by
 have an:=bG;refine eC.fk (first:=[]) (cap:=[.br [gh w] 0]) ?_;refine aV.bl ai Tryz.func201 C C fun s I=>?_
 rw [ao.cp];unfold gh e5
 repeat (first|(refine T0 I ?_;clear I;intro I)|refine aa.dK ai I rfl rfl rfl rfl rfl rfl rfl (fun cA I=>?_))
 have az:=VS w (A6 w) hw cA f.size f 12 24 (g9 _) a7 ag ag ag;rw [ao.cp] at az;unfold e5 at az;refine aa.b7 C C C C C az I (by simp only [l3];exact a1) ?_ (fun _ _ ⟨h,_⟩ _=>by cases h);rintro _ _ ⟨⟨⟩,rfl⟩ I;rw [d7] at I ⊢;refine aa.mv I [] a1 fun I=>?_
 refine eA ?_;exact bA I
theorem VV (w:bx) (hw:w.ps.length≤60) (l:List ao) (aE:l.length<bB) (a7:∀ f∈l,f.size<bB):aV d0 166 [gh w,.aB 6 (l.map ao.bW) .bc] (.bool (l.all (h' w))):=by
 have an:=bG;refine aV.bl ai Tryz.func166 C C fun s I=>?_
 have U:=Vu 201 [] [.br [gh w] 0] (h' w) l aE (fun x ab=>VU w hw x (a7 x ab));unfold gh e5 at *;refine cB ?_;exact bA I
theorem Hz (w:bx) (hw:gg w) (l:List ao) (aE:l.length<bB) (a7:∀ f∈l,f.size<bB):aV d0 122 [fh w,.aB 6 (l.map ao.bW) .bc] (.cu [gh w,.bool (l.all (h' w))]):=by
 have an:=bG;refine aV.bl ai Tryz.func122 C C fun s I=>?_
 have U:=VN w hw;have ad:=VV w hw.jZ l aE a7;unfold fh fl cZ bg at *;unfold gh e5 at *;refine cB ?_;exact bA I
theorem VW (w:bx) (hw:gg w) (f:ao) (a7:f.size<bB):aV d0 229 [fh w,f.bW] (.int .i64 (if h' w f then 0 else 2)):=by
 have an:=bG;refine aV.bl ai Tryz.func229 C C fun s I=>?_
 have U:=Hz w hw [f] cP (by intro g av;rw [t6] at av;subst av;exact a7);have ad:=VK (h' w f);rw [ae2,ah2,ao.cp] at U;rw [ak',ap3,aq9] at U;rw [ao.cp];unfold fh fl cZ bg at *;refine cB ?_;exact bA I
theorem MV (v:Int×Int) (n:Int):aV d0 170 [ga v,.int .i64 n] (.bool (hz n v)):=by
 have an:=bG;refine aV.bl ai Tryz.func170 C C fun s I=>?_
 unfold ga
 repeat' (first|(with_reducible first|apply ae.seq|apply b4|apply fQ|apply fA|apply hj|apply ae.ret|apply ae.skip|apply ae.block)|refine c5 C ?_|refine ae.cJ ?_|refine aa.nil ?_|refine cD C ?_|refine aa.skip C C C ?_|(fail_if_success refine aa.same true C ?_);(fail_if_success refine aa.same false C ?_);refine aa.hG C C (fun h=>?_) (fun h=>?_)|refine ae.cond C (fun h=>?_) (fun h=>?_))
 all_goals (refine Fin.cG I C (aU.of_eq (ae7 af.bool ?_));clear I;simp only [hz,kF];grind)
theorem VX (w:bx) (m:Nat) {j:Nat} (o:Int) (h:w.owner[j]? = some o):((ah0 (j+1)).filter fun s=>m.testBit (w.owner.getD s 0).toNat).map (fun (s:Nat)=>(s:Int))=(((ah0 j).filter fun s=>m.testBit (w.owner.getD s 0).toNat).map fun (s:Nat)=>(s:Int))++(if m.testBit o.toNat then [(j:Int)] else []):=by
 rw [List.range_succ,List.filter_append,ae1];congr 1;have:w.owner.getD j 0=o:=by rw [d5,h];rfl
 rw [List.filter_cons,List.filter_nil,this];cases hm:m.testBit o.toNat<;>rfl
theorem MW (w:bx) (hw:gg w) (c:Nat) (aF:c<3+w.ps.length):aV d0 205 [gh w,.int .i64 (c:Int)] (bg (oi w ((eV w.ps).getD c 0))):=by
 have an:=bG;refine aV.bl ai Tryz.func205 C C fun s I=>?_
 have pj:=hw.jZ;have gz:=hw.bn;have kc:=tC w.ps;obtain ⟨m,hm⟩:∃ m,(eV w.ps)[c]? = some m:=⟨_,f7 ag⟩;have pk:(eV w.ps).getD c 0=m:=by rw [d5,hm];rfl
 have hR:=yE pj m (d6 hm);rw [pk];obtain ⟨xs,dg⟩:∃ xs:Nat→List af,∀ j,xs j=(((ah0 j).filter fun s=>m.testBit (w.owner.getD s 0).toNat).map fun (s:Nat)=>(s:Int)).map bb:=⟨_,fun _=>rfl⟩;have bu:xs 0=[]:=by rw [dg];rfl
 have fg:∀ j,(xs j).length≤j:=fun j=>by
  rw [dg,f0,f0];exact am' (aj1 _ _) ba
 unfold gh e5;have u2:=fun s o (ar:w.owner[s]? = some ((o:Nat):Int)) ah=>MN w (A6 w) c s m o ag (yF hm) hR ar ah
 unfold e5 at u2;unfold p7 fl bg at *;refine gy ?_;refine ae.ih I 3 1 0 fun I=>?_
 refine ae.b9 [0,1,12] C I (σ:=Nat×bQ) (fun q=>[(13,.int .i64 (q.1:Int)),(5,.aB 1 (xs q.1) q.2)]) (fun q=>[(q.2,.row 3 1 (xs q.1).length)]) (fun q=>q.1≤w.owner.length) (fun q=>w.owner.length-q.1) (0,.nil) (g8 _) ⟨⟨_,rfl,aO⟩,⟨_,rfl,by rw [bu];exact aU.nil hk⟩,trivial⟩ yJ ?_;rintro ⟨j,own⟩ aH I;simp only at aH I ⊢;refine b8 ?_;refine ae.cond C (fun aw=>?_) (fun aY=>?_);rotate_left;have aY:j=w.owner.length:=by
  have:w.owner.length≤j:=by simpa using aY
  omega
 ·subst aY
  have he:xs w.owner.length=(oi w m).map bb:=by rw [dg];rfl
  rw [he];refine ef ?_;exact Fin.cG I C aU.bc
 have aw:j<w.owner.length:=by simpa using aw
 obtain ⟨o,ah⟩:∃ o,w.owner[j]? = some o:=⟨_,f7 aw⟩;obtain ⟨g1,g2⟩:=hw.own o (d6 ah);obtain ⟨q,rfl⟩:∃ q:Nat,o=q:=⟨o.toNat,by omega⟩;have ar:=dg (j+1);rw [VX w m _ ah,ae1,← dg] at ar;have lp:=fg j;have U:=u2 j q ah ag;refine cB ?_;refine ae.cond C (fun au=>?_) (fun au=>?_)
 ·have ar:xs (j+1)=xs j++[.int .i64 (j:Int)]:=by rw [ar];simp [au,bb]
  have df:(xs (j+1)).length=(xs j).length+1:=by rw [ar];simp
  refine kB ?_;refine aa.gn ai I C C C C C C C er C C C C C C C C aZ hy ki ag (fun b0 I=>?_);refine gf ?_;refine bp.mk (j+1,.own b0) I aw ly AZ DM
 ·have ar:xs (j+1)=xs j:=by rw [ar];simp [au]
  refine gr ?_;refine bp.mk (j+1,own) I aw ly DL DM
abbrev ho (bh:List eH):af := .aB 2 (bh.map iT) .bc
abbrev k6 (l:List (Int×Int)):af := .aB 2 (l.map ga) .bc
theorem VY (bh:List eH) (v:Int×Int):eC d0 (.func 206 [] [.br [ho bh] 0]) [ga v] (.bool (hz bh.length v)):=by
 have an:=bG;refine eC.fk (first:=[]) (cap:=[.br [ho bh] 0]) ?_;refine aV.bl ai Tryz.func206 C C fun s I=>?_
 have h:=MV v (bh.map iT).length;rw [show hz ((bh.map iT).length:Int) v=hz bh.length v by rw [f0]] at h;unfold ga at *;refine cB ?_;exact bA I
theorem VZ (bh:List eH) (v:Int×Int):eC d0 (.func 169 [] [.br [ho bh] 0]) [ga v] (.bool (hz bh.length v)):=by
 have an:=bG;refine eC.fk (first:=[]) (cap:=[.br [ho bh] 0]) ?_;refine aV.bl ai Tryz.func169 C C fun s I=>?_
 have h:=MV v (bh.map iT).length;rw [show hz ((bh.map iT).length:Int) v=hz bh.length v by rw [f0]] at h;unfold ga at *;refine cB ?_;exact bA I
theorem V0 (w:bx) (hw:gg w) (bh:List eH) (o:eH) (ah:o.bn.length<bB):eC d0 (.func 204 [] [.br [gh w] 0,.br [ho bh] 0]) [iT o] (.bool (AX w bh.length o)):=by
 have an:=bG;refine eC.fk (first:=[]) (cap:=[.br [gh w] 0,.br [ho bh] 0]) ?_;refine aV.bl ai Tryz.func204 C C fun s I=>?_
 obtain ⟨cls,bn⟩:=o;have pj:=hw.jZ;have U:aV d0 199 [gh w,.int .i64 cls] (.bool (yG w cls)):=MM w (A6 w) cls hw.jZ;have aj:=MJ 206 [] [.br [ho bh] 0] (hz bh.length) bn ah (fun v _=>VY bh v);have hm:AX w bh.length ⟨cls,bn⟩=(yG w cls&&(decide (bn.length=(oi w ((eV w.ps).getD cls.toNat 0)).length)&&bn.all (hz bh.length))):=rfl;rw [hm];unfold iT;cases aF:yG w cls with
 | false=>
  rw [aF] at U;unfold gh e5 at *;refine cB ?_;exact bA I
 | true=>
  rw [aF] at U;unfold yG at aF;simp only [f9,i7] at aF;obtain ⟨c,rfl⟩:∃ c:Nat,cls=c:=⟨cls.toNat,by omega⟩;have ad:=MW w hw c ag;unfold bg at ad;unfold gh e5 at *
  repeat' (first|(with_reducible first|apply ae.seq|apply b4|apply ae.ret)|refine c5 C ?_|refine aM.nil ?_|refine aM.step C ?_|refine ae.lZ ai mixed C ?_|refine aM.eb C C C C C cw ?_|(fail_if_success refine aM.same true C ?_);(fail_if_success refine aM.same false C ?_);refine aM.hG C C (fun h=>?_) (fun h=>?_))
  all_goals (refine Fin.cG I C (aU.of_eq (ae7 af.bool ?_));clear I U ad aj;rw [show ((c:Nat):Int).toNat=c from i9 c];simp only [f0] at *;grind)
theorem V1 (w:bx) (hw:gg w) (bh:List eH) (aE:bh.length<bB) (ah:∀ o∈bh,o.bn.length<bB):aV d0 167 [gh w,ho bh] (.bool (AY w bh)):=by
 have an:=bG;refine aV.bl ai Tryz.func167 C C fun s I=>?_
 have U:=VB 204 [] [.br [gh w] 0,.br [ho bh] 0] (AX w bh.length) bh aE (fun o h=>V0 w hw bh o (ah o h));unfold ho gh e5 at *
 repeat' (first|(with_reducible first|apply ae.seq|apply b4|apply ae.ret)|refine c5 C ?_|refine ae.cJ ?_|refine aa.nil ?_|refine cD C ?_|refine aa.skip C C C ?_|refine aa.eb C C C C C cw ?_|(fail_if_success refine aa.same true C ?_);(fail_if_success refine aa.same false C ?_);refine aa.hG C C (fun h=>?_) (fun h=>?_))
 all_goals (refine Fin.cG I C (aU.of_eq (ae7 af.bool ?_));clear I U;simp only [AY,f0] at *;grind)
theorem V2 (w:bx) (hw:gg w) (bh:List eH) (args:List (Int×Int)) (aE:bh.length<bB) (ah:∀ o∈bh,o.bn.length<bB) (aR:args.length<bB):aV d0 123 [gh w,ho bh,k6 args] (.bool (oj w bh args)):=by
 have an:=bG;refine aV.bl ai Tryz.func123 C C fun s I=>?_
 have U:=V1 w hw bh aE ah;have ad:=MJ 169 [] [.br [ho bh] 0] (hz bh.length) args aR (fun v _=>VZ bh v);unfold ho k6 gh e5 at *
 repeat' (first|(with_reducible first|apply ae.seq|apply b4|apply ae.ret)|refine c5 C ?_|refine ae.cJ ?_|refine aa.nil ?_|refine cD C ?_|refine aa.skip C C C ?_|refine aa.eb C C C C C cw ?_|(fail_if_success refine aa.same true C ?_);(fail_if_success refine aa.same false C ?_);refine aa.hG C C (fun h=>?_) (fun h=>?_))
 all_goals (refine Fin.cG I C (aU.of_eq (ae7 af.bool ?_));clear I U ad;simp only [oj,f0] at *;grind)
theorem V3 (w:bx):∀ (n:Nat) (f:ao),f.size≤n→n<bB→gM w f=true→aV d0 124 [f.bW] (.int .i64 (lB f)):=by
 have an:=bG;intro n
 induction n with
 | zero=>intro x h;have:=x.size_eq;omega
 | succ n aX=>
  intro f az i' av;refine aV.bl ai Tryz.func124 C C fun s I=>?_
  have iD:=f.size_eq;have hlen:=ao.q5 f.kids;have iB:=Hw f;rw [p4,f9] at av;rw [ao.cp] at iB ⊢;rw [DG];have aR:f.c0=true→ad5 .i64 (f.arg+1)=f.arg+1:=fun aE=>by
   have az:=av.1;simp only [h9,aE,ag7,f9,i7] at az;exact ee ag ag
  cases aE:f.c0 with
  | true=>
   rw [aE] at iB;refine cB ?_;refine ae.b9 [12,13] C I (σ:=Nat) (fun j=>[(14,.int .i64 (j:Int)),(3,.int .i64 (hH (if f.c0 then f.arg+1 else 0) (f.kids.take j)))]) (fun _=>[]) (fun j=>j≤f.kids.length) (fun j=>f.kids.length-j) 0 (g8 _) (by repeat (first|exact trivial|refine ⟨⟨_,rfl,aO⟩,?_⟩|refine ⟨⟨_,rfl,aU.of_eq (by (first|rfl|(rw [aE];simp [hH,aR aE])|(rw [aE];simp [hH])))⟩,?_⟩)) a1 ?_;rintro j aH I;refine b8 ?_;refine ae.cond C (fun aw=>?_) (fun aY=>?_);rotate_left
   ·have aY:j=f.kids.length:=by simp at aY;omega
    subst aY;rw [ae6];refine ef ?_;exact Fin.cG I C (aU.of_eq (by rw [aE]))
   have aw:j<f.kids.length:=by simpa using aw
   obtain ⟨k,aA,eF⟩:=b5 (f:=ao.bW) aw;have hm:=ao.iQ (d6 aA);have aF:=aX k ag ag (l2 av.2 (d6 aA));rw [ao.cp] at eF aF
   repeat (first|(refine Ls I ?_;clear I;intro I)|refine aa.dK ai I rfl rfl rfl rfl rfl rfl rfl (fun cA I=>?_)|(refine o4 ?_))
   refine bp.mk (j+1) I aw (by repeat (first|exact trivial|refine ⟨⟨_,rfl,aO⟩,?_⟩|refine ⟨⟨_,rfl,aU.of_eq MC⟩,?_⟩)) a1 ph
  | false=>
   rw [aE] at iB;refine cB ?_;refine ae.b9 [12,13] C I (σ:=Nat) (fun j=>[(14,.int .i64 (j:Int)),(3,.int .i64 (hH (if f.c0 then f.arg+1 else 0) (f.kids.take j)))]) (fun _=>[]) (fun j=>j≤f.kids.length) (fun j=>f.kids.length-j) 0 (g8 _) (by repeat (first|exact trivial|refine ⟨⟨_,rfl,aO⟩,?_⟩|refine ⟨⟨_,rfl,aU.of_eq (by (first|rfl|(rw [aE];simp [hH,aR aE])|(rw [aE];simp [hH])))⟩,?_⟩)) a1 ?_;rintro j aH I;refine b8 ?_;refine ae.cond C (fun aw=>?_) (fun aY=>?_);rotate_left
   ·have aY:j=f.kids.length:=by simp at aY;omega
    subst aY;rw [ae6];refine ef ?_;exact Fin.cG I C (aU.of_eq (by rw [aE]))
   have aw:j<f.kids.length:=by simpa using aw
   obtain ⟨k,aA,eF⟩:=b5 (f:=ao.bW) aw;have hm:=ao.iQ (d6 aA);have aF:=aX k ag ag (l2 av.2 (d6 aA));rw [ao.cp] at eF aF
   repeat (first|(refine Ls I ?_;clear I;intro I)|refine aa.dK ai I rfl rfl rfl rfl rfl rfl rfl (fun cA I=>?_)|(refine o4 ?_))
   refine bp.mk (j+1) I aw (by repeat (first|exact trivial|refine ⟨⟨_,rfl,aO⟩,?_⟩|refine ⟨⟨_,rfl,aU.of_eq MC⟩,?_⟩)) a1 ph
structure tI (w:bx) (bh:List eH):Prop where
 jZ:bh.length≤40
 each:∀ o∈bh,(3≤o.cls∧o.cls<3+(w.ps.length:Int))∧o.bn.length=(oi w (pc w o.cls)).length∧∀ v∈o.bn,hz bh.length v=true
theorem tI.of {w:bx} {bh:List eH} (h:AY w bh=true):tI w bh:=by
 unfold AY at h;rw [f9,i7,ag6] at h;refine ⟨h.1,fun o ah=>?_⟩;have:=h.2 o ah;unfold AX yG at this;simp only [f9,i7,ag6] at this;exact ⟨⟨by omega,by omega⟩,this.2.1,this.2.2⟩
theorem HA {n:Int} {v:Int×Int} (h:hz n v=true) (aj:v.1=3):0≤v.2∧v.2<n:=by
 unfold hz at h;rw [aj] at h;simp at h;omega
theorem MX {n:Int} {v:Int×Int} (h:hz n v=true):v.1=1∨v.1=2∨v.1=3:=by
 unfold hz at h;grind
theorem MY (w:bx) (m s:Nat) (ar:s<w.owner.length) (an:m.testBit (w.owner.getD s 0).toNat=true):∃ k,(oi w m).findIdx? (· == (s:Int))=some k∧k<(oi w m).length:=by
 have gm:(s:Int)∈oi w m:=ag0.2 ⟨s,List.mem_filter.2 ⟨List.mem_range.2 ar,an⟩,rfl⟩;cases h:(oi w m).findIdx? (· == (s:Int)) with
 | none=>
  rw [List.findIdx?_eq_none_iff] at h;have:=h _ gm;simp at this
 | some k=>
  rw [List.findIdx?_eq_some_iff_getElem] at h;exact ⟨k,rfl,h.1⟩
def atR (r:Option (Int×Int)):af := .cu [ga (r.getD (0,0)),.bool r.isSome]
theorem V4 (w:bx) (hw:gg w) (bh:List eH) (ah:tI w bh) (v:Int×Int) (au:hz bh.length v=true) (path:List Int) (aD:∀ s∈path,0≤s∧s<(w.owner.length:Int)) (gH:path.length<bB) :
  aV d0 172 [gh w,ho bh,ga v,bg path] (atR (q8 w bh v path)):=by
 have an:=bG;have pj:=hw.jZ;have kc:=tC w.ps;refine aV.bl ai Tryz.func172 C C fun s I=>?_
 have df:=fun c aF=>MW w hw c aF
 have nK:=fun c s m o aF hm hR ar ah=>MN w (A6 w) c s m o aF hm hR ar ah
 unfold ga bg;unfold gh e5 at *
 repeat (first|(refine Dk ?_)|refine aa.jV I C C C C C C (fun b I=>?_)|refine aa.dK ai I C C C C C C C (fun cA I=>?_)|(refine Dl ?_))
 refine ae.b9 [0,1,8,12,13] C I (σ:=Nat×(Int×Int)) (fun j=>[(14,.int .i64 (j.1:Int)),(6,.ptr b 0)]) (fun j=>[(.own b,.box 122 [.int .i64 j.2.1,.int .i64 j.2.2]),(.own cA,.box 122 [.int .i64 0,.int .i64 0])]) (fun j=>j.1≤path.length∧q8 w bh v path=q8 w bh j.2 (path.drop j.1)∧hz bh.length j.2=true) (fun j=>path.length-j.1) (0,v) ⟨g8 _,rfl,au⟩ (cz C) a1 ?_;rintro ⟨j,u⟩ ⟨aH,aq,hu⟩ I;simp only at aH aq hu I ⊢;refine b8 ?_;refine ae.cond C (fun aw=>?_) (fun aY=>?_);rotate_left
 ·have aY:path.length≤j:=by simpa using aY
  rw [eG aY,q8] at aq;rw [aq];refine cv I ?_;intro I;exact Fin.cG I (wK C C (bo.get aZ I) C C) aO
 have aw:j<path.length:=by simpa using aw
 obtain ⟨x,ax,c7⟩:=b5 (f:=bb) aw;obtain ⟨g1,g2⟩:=aD x (d6 ax);obtain ⟨bC,rfl⟩:∃ bC:Nat,x=bC:=⟨x.toNat,by omega⟩;rw [drop_cons ax,q8] at aq;unfold bb at c7;obtain ⟨oR,oS⟩:=u
 try simp only at aq
 refine cv I ?_;intro I;by_cases aj:oR=3;rotate_left
 ·rw [g6 aj] at aq
  refine aa.dy 21 C (by simpa using aj) ?_;refine cv I ?_;intro I;rw [aq];exact Fin.cG I (wK C C (bo.get aZ I) C C) aO
 obtain ⟨cF,dj⟩:=HA hu aj;subst aj;rw [d9 ba] at aq;simp only at cF dj;obtain ⟨q,rfl⟩:∃ q:Nat,oS=q:=⟨oS.toNat,by omega⟩;obtain ⟨o,bk,uo⟩:=b5 (f:=iT) (l:=bh) (j:=q) ag;have Ag:bh.getD ((q:Int)).toNat default=o:=by rw [i9,d5,bk];rfl
 obtain ⟨⟨na,hA⟩,wY,wZ⟩:=ah.each o (d6 bk);rw [Ag] at aq;obtain ⟨cls,bn⟩:=o;simp only at na hA wY wZ aq;obtain ⟨c,rfl⟩:∃ c:Nat,cls=c:=⟨cls.toNat,by omega⟩;obtain ⟨m,hm⟩:∃ m,(eV w.ps)[c]? = some m:=⟨_,f7 ag⟩;have pk:pc w (c:Int)=m:=by unfold pc;rw [i9,d5,hm];rfl
 have hR:=yE pj m (d6 hm);obtain ⟨lE,pU⟩:∃ lE,w.owner[bC]? = some lE:=⟨_,f7 ag⟩;obtain ⟨sg,b0⟩:=hw.own lE (d6 pU);obtain ⟨o,rfl⟩:∃ o:Nat,lE=o:=⟨lE.toNat,by omega⟩;have U:=nK c bC m o ag (yF hm) hR pU ag;have kz:(w.owner.getD ((bC:Int)).toNat 0).toNat=o:=by rw [i9,d5,pU];simp
 have V5:(w.owner.getD bC 0).toNat=o:=by rw [d5,pU];simp
 rw [pk,kz] at aq;rw [pk] at wY;unfold iT at uo;refine aa.da 21 C ba ?_;cases u3:m.testBit o with
 | false=>
  rw [u3,d9 ba] at aq;rw [u3] at U;refine cv I ?_;intro I;rw [aq];exact Fin.cG I (wK C C (bo.get aZ I) C C) aO
 | true=>
  rw [u3,g6 C] at aq;rw [u3] at U;have ad:=df c ag;have V6:(eV w.ps).getD c 0=m:=by rw [d5,hm];rfl
  rw [V6] at ad;obtain ⟨k,lO,hL⟩:=MY w m bC ag (by rw [V5];exact u3);have hlen:(oi w m).length<bB:=by
   have:(oi w m).length≤w.owner.length:=by
    unfold oi;rw [f0];exact am' (aj1 _ _) ba
   have:=hw.bn;omega
  have a':=LI (oi w m) bC hlen;rw [lO] at a';simp only at a';obtain ⟨y,pK,V7⟩:=b5 (f:=ga) (l:=bn) (j:=k) ag;have A7:bn.getD k (0,0)=y:=by rw [d5,pK];rfl
  rw [lO,ae',A7] at aq;unfold ga at V7;unfold bg at ad a';refine gK I ?_;intro I;exact bp.mk (j+1,y) I ⟨aw,aq,wZ y (d6 pK)⟩ ck a1 (by show path.length-(j+1)<path.length-j;omega)
theorem MZ {α:Type}:∀ {l:List α},l.length=2→∃ a b,l=[a,b]
 | [a,b],_=>⟨a,b,rfl⟩
structure yL (w:bx) (f:ao):Prop where
 arg:0≤f.arg∧f.arg<3
 path:f.path.length≤2
 bn:∀ s∈f.path,0≤s∧s<(w.owner.length:Int)
 cls:f.op=2→0≤f.cls∧f.cls<3+(w.ps.length:Int)
theorem yL.of {w:bx} {f:ao} (h:h9 w f=true) (aE:f.c0=true):yL w f:=by
 simp only [h9,aE,ag7,f9,i7,ag6] at h;obtain ⟨U,ad,aj,a',bz,fG,hs,m9⟩:=h;refine ⟨⟨by omega,bz⟩,fG,fun s ar=>by have:=hs s ar;simpa using this,fun ad=>?_⟩;rw [g6 ad] at m9;simp only [f9,i7] at m9;omega
theorem DO {w:bx} {f:ao} (h:h9 w f=true):(f.op=1∧f.kids=[])∨(f.c0=true∧f.kids=[]∧(f.op=2∨f.op=3∨f.op=4))∨(f.op=5∧∃ x,f.kids=[x])∨((f.op=6∨f.op=7)∧∃ x y,f.kids=[x,y]):=by
 have bu:=h;simp only [h9,f9,i7] at h;obtain ⟨U,ad,aj,a'⟩:=h;have aF:f.op=1∨(f.op=2∨f.op=3∨f.op=4)∨f.op=5∨f.op=6∨f.op=7:=by omega
 rcases aF with h|h|h|h|h
 ·left
  refine ⟨h,ai6 ?_⟩;rw [aj,h];rfl
 ·right;left
  refine ⟨?_,ai6 ?_,h⟩
  ·unfold ao.c0;simp;omega
  ·rw [aj];rcases h with h|h|h<;>rw [h]<;>rfl
 ·right;right;left
  refine ⟨h,List.length_eq_one_iff.1 ?_⟩;rw [aj,h];rfl
 ·right;right;right
  refine ⟨.inl h,?_⟩;obtain ⟨a,b,iE⟩:=MZ (show f.kids.length=2 by rw [aj,h];rfl);exact ⟨a,b,iE⟩
 ·right;right;right
  refine ⟨.inr h,?_⟩;obtain ⟨a,b,iE⟩:=MZ (show f.kids.length=2 by rw [aj,h];rfl);exact ⟨a,b,iE⟩
theorem M0 {w:bx} {bh:List eH} (ah:tI w bh):∀ (path:List Int) (v u:Int×Int),(∀ s∈path,0≤s∧s<(w.owner.length:Int))→hz bh.length v=true→q8 w bh v path=some u→hz bh.length u=true
  | [],v,u,_,au,h=>by rw [q8] at h;cases h;exact au
  | s::r,v,u,aD,au,h=>by
    rw [q8] at h
    try simp only at h
    split at h
    · cases h
    · rename_i aj
      have aj:v.1=3:=by omega
      obtain ⟨cF,dj⟩:=HA au aj;split at h
      · rename_i an
        have ar:=aD s i8;obtain ⟨bC,rfl⟩:∃ bC:Nat,s=bC:=⟨s.toNat,by omega⟩;have V8:bh[v.2.toNat]? = some (bh.getD v.2.toNat default):=by
          rw [d5,f7 ag];rfl
        have lP:=ah.each _ (d6 V8);rw [i9] at an;obtain ⟨k,lO,hL⟩:=MY w _ bC ag an;rw [lO,ae'] at h;refine M0 ah r _ u (fun s ar=>aD s (i6 _ ar)) ?_ h;rw [d5,f7 (by rw [lP.2.1];exact hL),ae'];exact lP.2.2 _ (am9 _)
      · cases h
theorem V9 (w:bx) (hw:gg w) (bh:List eH) (ah:tI w bh) (args:List (Int×Int)) (aR:∀ v∈args,hz bh.length v=true) (m3:args.length≤3):∀ (n:Nat) (f:ao),f.size≤n→n<bB→gM w f=true→lB f≤args.length →
    aV d0 125 [gh w,f.bW,ho bh,k6 args] (.bool (tD w bh args f)):=by
  have an:=bG;intro n
  induction n with
  | zero=>intro x h;have:=x.size_eq;omega
  | succ n aX=>
    intro f az i' av dz;have pj:=hw.jZ;have gz:=ah.jZ;have kc:=tC w.ps;have iD:=f.size_eq;have A8:=Vl w bh args f;rw [DG] at dz;rw [p4,f9] at av;obtain ⟨pn,po⟩:=av;refine aV.bl ai Tryz.func125 C C fun s I=>?_
    rw [ao.cp];rcases DO pn with ⟨U,ad⟩|⟨aE,ad,U⟩|⟨U,x,ad⟩|⟨U,x,y,ad⟩
    · rw [A8,U]
      unfold ao.cells;rw [U];refine bD ?_;exact bA I
    · have iL:=yL.of pn aE
      have gH:=iL.path;have de:=fun v au=>V4 w hw bh ah v au f.path iL.bn ag
      rw [aE,ad] at dz;simp only [ag7,hH] at dz;obtain ⟨q,bk⟩:∃ q:Nat,f.arg=q:=⟨f.arg.toNat,by have:=iL.arg;omega⟩;obtain ⟨v,au,oV⟩:=b5 (f:=ga) (l:=args) (j:=q) ag;have yM:=aR v (d6 au);have M1:args.getD f.arg.toNat (0,0)=v:=by rw [bk,i9,d5,au];rfl
      have de:=de v yM;have M3:tD w bh args f=uY w bh args f:=by
        rw [A8,d9 ag,d9 ag,d9 ag,d9 ag]
      rw [M3];have cQ:(f.op==1)=false:=by simp;omega
      have cV:(f.op==5)=false:=by simp;omega
      have e3:(f.op==6)=false:=by simp;omega
      have pR:(f.op==7)=false:=by simp;omega
      have nK:=fun m o hm aF=>yK m o hm aF
      unfold ao.cells;rw [bk];unfold ga at oV;unfold ga bg at de;unfold bb at de;unfold gh e5 at *;cases hu:q8 w bh v f.path with
      | none=>
        have hle:uY w bh args f=false:=by unfold uY;rw [M1,hu]
        rw [hu] at de;rw [hle];unfold atR ga at de;simp only [ae',az7,aA7,au0] at de;refine gy ?_;refine ae.cond C (fun h=>by rw [cQ] at h;cases h) (fun _=>?_);refine b8 ?_;refine ae.cond C (fun h=>by rw [cV] at h;cases h) (fun _=>?_);refine b8 ?_;refine ae.cond C (fun h=>by rw [e3] at h;cases h) (fun _=>?_);refine b8 ?_;refine ae.cond C (fun h=>by rw [pR] at h;cases h) (fun _=>?_)
        repeat (first|(refine T1 ?_)|refine aM.Md ai I C C C C C C C C (fun cA I=>?_)|(refine Lt I ?_;clear I;intro I))
        exact bA I
      | some u=>
        have mx:=M0 ah f.path v u iL.bn yM hu;obtain ⟨oR,oS⟩:=u
        have hle:uY w bh args f=(if f.op=2 then (if oR=3 then (pc w (bh.getD oS.toNat default).cls).testBit f.cls.toNat else (pc w oR).testBit f.cls.toNat)
    else decide (oR=1)&&((decide (oS=f.n)==decide (f.op=4))&&decide (oS≤f.n))):=by unfold uY;rw [M1,hu]
        rw [hu] at de;rw [hle];unfold atR ga at de;simp only [ae',az7,aA7,au0] at de;refine gy ?_;refine ae.cond C (fun h=>by rw [cQ] at h;cases h) (fun _=>?_);refine b8 ?_;refine ae.cond C (fun h=>by rw [cV] at h;cases h) (fun _=>?_);refine b8 ?_;refine ae.cond C (fun h=>by rw [e3] at h;cases h) (fun _=>?_);refine b8 ?_;refine ae.cond C (fun h=>by rw [pR] at h;cases h) (fun _=>?_)
        repeat (first|(refine T2 ?_)|refine aM.Md ai I C C C C C C C C (fun cA I=>?_)|(refine Lt I ?_;clear I;intro I))
        refine ae.cond C (fun h=>?_) (fun h=>?_)
        · have bz:f.op≠2:=by simpa using h
          rw [d9 bz]
          repeat' (first|(with_reducible first|apply ae.seq|apply b4|apply fQ|apply hj|apply ae.ret)|refine ae.cJ ?_|refine aa.nil ?_|refine cD C ?_|refine aa.skip C C C ?_|refine aa.ez ai I C C C C C C As bZ ?_|(fail_if_success refine aa.same true C ?_);(fail_if_success refine aa.same false C ?_);refine aa.hG C C (fun h=>?_) (fun h=>?_))
          all_goals (refine Fin.cG I C (aU.of_eq (ae7 af.bool ?_));clear I de aX nK hle M3 A8 hu mx;grind)
        have bz:f.op=2:=by simpa using h
        rw [g6 bz];obtain ⟨cF,dj⟩:=iL.cls bz;obtain ⟨ej,cj⟩:∃ ej:Nat,f.cls=ej:=⟨f.cls.toNat,by omega⟩;rw [cj,i9];by_cases aj:oR=3
        · subst aj
          obtain ⟨na,hA⟩:=HA mx rfl;simp only at na hA;obtain ⟨p,rfl⟩:∃ p:Nat,oS=p:=⟨oS.toNat,by omega⟩;obtain ⟨o,aD,fa⟩:=b5 (f:=iT) (l:=bh) (j:=p) ag;obtain ⟨⟨sg,b0⟩,-,-⟩:=ah.each o (d6 aD);have Ag:bh.getD ((p:Int)).toNat default=o:=by rw [i9,d5,aD];rfl
          obtain ⟨c,w0⟩:∃ c:Nat,o.cls=c:=⟨o.cls.toNat,by omega⟩;obtain ⟨m,hm⟩:∃ m,(eV w.ps)[c]? = some m:=⟨_,f7 ag⟩;have pk:pc w (c:Int)=m:=by unfold pc;rw [i9,d5,hm];rfl
          have hR:=yE pj m (d6 hm);have sZ:=nK m ej hR ag;rw [g6 C,Ag,w0,pk];unfold iT at fa;rw [w0] at fa;have ka:=A4 (w:=w) (yF hm);refine tm I ?_;intro I;refine aM.l1 ai c C C C C C C C C C C ag ?_;refine aM.AR ai C C C C C C C (by simpa using ka) ?_;refine db ?_;exact bA I
        · obtain ⟨c,w0⟩:∃ c:Nat,oR=c:=⟨oR.toNat,by have:=MX mx;simp only at this;omega⟩
          subst w0;have adj:c<3:=by have:=MX mx;simp only at this;omega
          obtain ⟨m,hm⟩:∃ m,(eV w.ps)[c]? = some m:=⟨_,f7 ag⟩;have pk:pc w (c:Int)=m:=by unfold pc;rw [i9,d5,hm];rfl
          have hR:=yE pj m (d6 hm);have sZ:=nK m ej hR ag;have ka:=A4 (w:=w) (yF hm);rw [d9 aj,pk];have sh:((c:Int)==3)=false:=by simpa using aj
          refine cv I ?_;intro I;refine ae.cond C (fun h=>by rw [sh] at h;cases h) (fun _=>?_);refine tm I ?_;intro I;refine aM.l1 ai c C C C C C C C C C C ag ?_;refine aM.AR ai C C C C C C C (by simpa using ka) ?_;refine db ?_;exact bA I
    · have ab:=ao.iQ (l:=f.kids) (x:=x) m7
      have hX:=(DH f.kids (if f.c0 then f.arg+1 else 0)).2 x m7;have i1:=aX x ag ag (l2 po m7) ag;rw [A8,U,ad,DI _ _ _ 0 [x] x C];have cd:([x].map ao.bW)[0]? = some (.agg x.cells):=by rw [← ao.cp];rfl
      rw [ao.cp] at i1;unfold ao.cells;rw [U,ad];unfold gh e5 at *;refine cB ?_;exact bA I
    · have ab:=ao.iQ (l:=f.kids) (x:=x) m7
      have hX:=(DH f.kids (if f.c0 then f.arg+1 else 0)).2 x m7;have i1:=aX x ag ag (l2 po m7) ag;have ax:=ao.iQ (l:=f.kids) (x:=y) u0;have c6:=(DH f.kids (if f.c0 then f.arg+1 else 0)).2 y u0;have i2:=aX y ag ag (l2 po u0) ag;have cd:([x,y].map ao.bW)[0]? = some (.agg x.cells):=by rw [← ao.cp];rfl
      have b1:([x,y].map ao.bW)[1]? = some (.agg y.cells):=by rw [← ao.cp];rfl
      rw [ao.cp] at i1 i2;unfold gh e5 at *;rcases U with U|U
      all_goals
        rw [A8,U,ad,DI _ _ _ 0 [x,y] x C,DI _ _ _ 1 [x,y] y C];unfold ao.cells;rw [U,ad];refine cB ?_;cases A9:tD w bh args x with
        | true=>
          rw [A9] at i1;refine db ?_;exact bA I
        | false=>
          rw [A9] at i1;refine db ?_;exact bA I
def nL (w:bx) (f:ao) (bh:List eH) (args:List (Int×Int)):Bool×Int:=
 if h' w f&&(oj w bh args&&decide (lB f≤args.length)) then (tD w bh args f,0) else (false,2)
theorem M4 {w:bx} {bh:List eH} {args:List (Int×Int)} (h:oj w bh args=true):tI w bh∧args.length≤3∧∀ v∈args,hz bh.length v=true:=by
 unfold oj at h;simp only [f9,i7,ag6] at h;exact ⟨tI.of h.1,h.2.2.1,h.2.2.2⟩
theorem HB (w:bx) (hw:gg w) (f:ao) (a7:f.size<bB) (bh:List eH) (args:List (Int×Int)) (aE:bh.length<bB) (ah:∀ o∈bh,o.bn.length<bB) (aR:args.length<bB):aV d0 74 [fh w,f.bW,ho bh,k6 args] (.cu [.bool (nL w f bh args).1,.int .i64 (nL w f bh args).2]):=by
 have an:=bG;refine aV.bl ai Tryz.func74 C C fun s I=>?_
 have U:=Hz w hw [f] cP (by intro g av;rw [t6] at av;subst av;exact a7);have ad:=V2 w hw bh args aE ah aR;rw [ae2,ah2,ak',ap3,aq9] at U;have dB:nL w f bh args=if h' w f&&(oj w bh args&&decide (lB f≤args.length)) then (tD w bh args f,0) else (false,2):=rfl
 cases aj:h' w f with
 | false=>
  rw [aj,f6,d9 ba] at dB;rw [dB];rw [aj,ao.cp] at U;rw [ao.cp];unfold fh fl cZ bg at *;unfold gh e5 at *;refine cB ?_;exact bA I
 | true=>
  have av:=uX f w 12 24 aj;have a':=V3 w f.size f (g9 _) a7 av;rw [aj,f5] at dB;rw [aj] at U;cases bz:oj w bh args with
  | false=>
   rw [bz,f6,d9 ba] at dB;rw [dB];rw [bz] at ad;rw [ao.cp] at U ⊢;unfold fh fl cZ bg at *;unfold gh e5 at *;refine cB ?_;exact bA I
  | true=>
   obtain ⟨g1,g2,g3⟩:=M4 bz;rw [bz,f5] at dB;rw [bz] at ad;by_cases fG:lB f≤args.length
   ·have hs:=V9 w hw bh g1 args g3 g2 f.size f (g9 _) a7 av fG
    rw [g6 (by simpa using fG)] at dB;rw [dB];rw [ao.cp] at U a' hs ⊢;unfold fh fl cZ bg at *;unfold gh e5 at *;refine cB ?_;refine ae.cond C (fun h=>?_) (fun _=>?_)
    ·exfalso
     simp at h;omega
    refine db ?_;exact bA I
   ·rw [d9 (by simpa using fG)] at dB
    rw [dB];rw [ao.cp] at U a' ⊢;unfold fh fl cZ bg at *;unfold gh e5 at *;refine cB ?_;refine ae.cond C (fun h=>?_) (fun h=>?_)
    ·refine gT ?_
     exact bA I
    ·exfalso
     simp at h;omega
theorem M5:∀ (a b:List ao),p5 ao.same a b=ao.o9 a b
 | [],[]=>by rw [p5,ao.o9]
 | [],_::_=>by rw [p5,ao.o9]<;>simp
 | _::_,[]=>by rw [p5,ao.o9]<;>simp
 | x::r,y::t=>by rw [p5,ao.o9,M5 r t]
theorem V' (f g:ao):ao.same f g=(decide (f.op=g.op)&&(decide (f.arg=g.arg)&&(decide (f.cls=g.cls)&&(decide (f.n=g.n)&&(f.path==g.path&&ao.o9 f.kids g.kids))))):=by
 cases f;cases g;rw [ao.same];rfl
theorem Wa:∀ (n:Nat) (f g:ao),f.size≤n→n<bB→g.size<bB→aV d0 268 [f.bW,g.bW] (.bool (ao.same f g)):=by
  have an:=bG;intro n
  induction n with
  | zero=>intro x _ h;have:=x.size_eq;omega
  | succ n aX=>
    intro f g az i' av;have U:=f.size_eq;have ad:=g.size_eq;have lQ:=ao.q5 f.kids;have eY:=ao.q5 g.kids;have aj:=uS f.path g.path ag ag
    have a':=Vs (.func 268 [] []) ao.same f.kids g.kids ag ag (fun x ab y ax=>eC.fk (first:=[]) (cap:=[]) (by
      have:=ao.iQ ab
      have:=ao.iQ ax
      exact aX x y ag ag ag))
    rw [M5] at a';refine aV.bl ai Tryz.func268 C C fun s I=>?_
    rw [ao.cp,ao.cp,V'];unfold bg bb at aj
    repeat' (first|(with_reducible first|apply ae.seq|apply b4|apply ae.ret)|refine c5 C ?_|refine ae.cJ ?_|refine aa.nil ?_|refine cD C ?_|refine aa.skip C C C ?_|refine aa.eb C C C C C cw ?_|(fail_if_success refine aa.same true C ?_);(fail_if_success refine aa.same false C ?_);refine aa.hG C C (fun h=>?_) (fun h=>?_))
    all_goals (refine Fin.cG I C (aU.of_eq (ae7 af.bool ?_));clear I aj a' aX;grind)
theorem Wb (x y:cb) (ab:x.1.size<bB) (ax:y.1.size<bB):eC d0 (.func 267 [] [.br (p6 x) 0]) [h1 y] (.bool (wV x y)):=by
 have an:=bG;refine eC.fk (first:=[]) (cap:=[.br (p6 x) 0]) ?_;refine aV.bl ai Tryz.func267 C C fun s I=>?_
 obtain ⟨f,b⟩:=x;obtain ⟨g,c⟩:=y;have U:=Wa f.size f g (g9 _) ab ax;rw [ao.cp,ao.cp] at U;unfold h1 p6 wV;simp only
 repeat' (first|(with_reducible first|apply ae.seq|apply b4|apply ae.ret)|refine c5 C ?_|refine ae.cJ ?_|refine aa.nil ?_|refine cD C ?_|refine aa.skip C C C ?_|refine aa.eb C C C C C cw ?_|(fail_if_success refine aa.same true C ?_);(fail_if_success refine aa.same false C ?_);refine aa.hG C C (fun h=>?_) (fun h=>?_))
 all_goals (refine Fin.cG I C (aU.of_eq (ae7 af.bool ?_));clear I U;grind)
theorem Wc (l:List cb):∀ y∈l.map h1,kd 7 y=true:=Vv l
theorem Wd (l:List cb) (own:bQ) (aE:l.length<bB):bF d0 265 [.aB 7 (l.map h1) own] [] (fun o K=>∃ cS,o = .ret (.aB 7 (l.map h1) cS)∧K=[(cS,.row 289 7 l.length)]):=by
 have an:=bG;refine bF.bl ai Tryz.func265 C C fun s I=>?_
 refine dF ?_;refine aa.op C C C (a6.G' ai C C C C (X:=fun _ _=>False)) ?_ (fun _ _ h=>False.elim h);rintro r ak ⟨rfl,⟨rfl,az⟩|rfl⟩
 ·have uD:l.length=0:=by simpa using ae7 List.length az
  refine aa.ih I 289 7 0 fun I=>?_
  refine eg ?_;rw [az,uD];exact Fin.bt I C (aU.nil hk) (aI.all _) ⟨.nil,rfl,rfl⟩
 ·refine bD ?_
  refine aa.AM I 289 7 0 fun I=>?_
  refine aa.qY ai I C C C C C C C er C C C C (.inr C) C (Wc l) C .here C (n':=l.length) ba (by simp only [af7,af8,f0];show _*88≤_;omega) Hs (fun r9 I=>?_);refine eA ?_;exact Fin.bt I C aO (aI.all _) ⟨r9,rfl,rfl⟩
theorem We (fv:af) (xs:List cb) (T:Nat→a8) (cr:Nat→Bool) (aE:xs.length<bB) (h:∀ j x,xs[j]? = some x→(∀ i,i<j→cr i=false)→di d0 fv [h1 x] (T j) (fun o K=>o = .ret (.bool (cr j))∧K=T (j+1))) :
  bF d0 279 [.aB 7 (xs.map h1) .bc,fv] (T 0)
   (fun o K=>(o = .ret (.int .i64 (-1))∧K=T xs.length∧∀ i,i<xs.length→cr i=false)∨∃ j,j<xs.length∧cr j=true∧(∀ i,i<j→cr i=false)∧o = .ret (.int .i64 (j:Int))∧K=T (j+1)):=by
 have an:=bG;refine bF.bl ai Tryz.func279 C C fun s I=>?_
 refine gy ?_;refine ae.yo I (σ:=Nat) (fun j=>[(0,.aB 7 (xs.map h1) .bc),(1,fv),(7,.int .i64 xs.length),(8,.int .i64 (j:Int))]) T (fun j=>j≤xs.length∧∀ i,i<j→cr i=false) (fun j=>xs.length-j) 0 ⟨by omega,fun i aN=>by omega⟩ Ax (aI.all _) ?_;rintro j ⟨aH,aq⟩ I;refine b8 ?_;refine ae.cond C (fun aw=>?_) (fun aY=>?_)
 ·have aw:j<xs.length:=by simpa using aw
  obtain ⟨x,ab,bP⟩:=b5 (f:=h1) aw;have au:=h j x ab aq
  try rw [h1] at bP au
  refine bD ?_;refine aa.gJ rfl rfl rfl rfl rfl rfl au I (aI.all _) ?_ (fun _ _ ⟨h,_⟩ _=>by cases h);rintro _ _ ⟨⟨⟩,rfl⟩ I;rw [d7] at I ⊢;cases og:cr j with
  | true=>
   refine e8 ?_;exact Fin.bt I C aO (aI.all _) (.inr ⟨j,aw,og,aq,rfl,rfl⟩)
  | false=>
   refine bD ?_
   exact bp.mk (j+1) I ⟨aw,fun i aN=>by
    rcases Nat.lt_succ_iff_lt_or_eq.1 aN with aN|rfl
    ·exact aq i aN
    ·exact og⟩ ck (aI.all _) r3
 ·have aY:j=xs.length:=by
   have:xs.length≤j:=by simpa using aY
   omega
  subst aY;refine ef ?_;exact Fin.bt I C aO (aI.all _) (.inl ⟨rfl,rfl,aq⟩)
theorem Wf (fv:af) (xs:List cb) (T:Nat→a8) (cr:Nat→Bool) (aE:xs.length<bB) (h:∀ j x,xs[j]? = some x→(∀ i,i<j→cr i=false)→di d0 fv [h1 x] (T j) (fun o K=>o = .ret (.bool (cr j))∧K=T (j+1))) :
  bF d0 266 [.aB 7 (xs.map h1) .bc,fv] (T 0)
   (fun o K=>(o = .ret (.bool false)∧K=T xs.length∧∀ i,i<xs.length→cr i=false)∨∃ j,j<xs.length∧cr j=true∧(∀ i,i<j→cr i=false)∧o = .ret (.bool true)∧K=T (j+1)):=by
 refine bF.bl ai Tryz.func266 C C fun s I=>?_
 refine dF ?_;refine aa.b7 rfl rfl rfl rfl rfl (We fv xs T cr aE h) I (aI.all _) ?_ (fun _ _ h _=>by rcases h with ⟨h,_⟩|⟨_,_,_,_,h,_⟩<;>cases h);rintro _ _ (⟨⟨⟩,rfl,U⟩|⟨j,U,ad,aj,⟨⟩,rfl⟩) I
 all_goals rw [d7] at I ⊢
 ·refine eA ?_
  exact Fin.bt I C aO (aI.all _) (.inl ⟨rfl,rfl,U⟩)
 ·refine eA ?_
  exact Fin.bt I C (by simp;exact aO) (aI.all _) (.inr ⟨j,U,ad,aj,rfl,rfl⟩)
theorem Wg (fv:af) (q:cb→Bool) (xs:List cb) (aE:xs.length<bB) (h:∀ x∈xs,eC d0 fv [h1 x] (.bool (q x))) :
  aV d0 266 [.aB 7 (xs.map h1) .bc,fv] (.bool (xs.any q)):=
 AP (fun T cr eo=>Wf fv xs T cr aE eo) h
theorem Wh (a b:List cb) (aE:a.length+b.length<bB) (aR:∀ x∈a,x.1.size<bB) (mE:∀ x∈b,x.1.size<bB):aV d0 246 [.aB 7 (a.map h1) .bc,.aB 7 (b.map h1) .bc] (.aB 7 ((jK a b).map h1) .bc):=by
 have an:=bG;refine aV.bl ai Tryz.func246 C C fun s I=>?_
 have U:=Wd a .bc ag;have hlen:∀ j,(jK a (b.take j)).length≤a.length+j:=fun j=>by
  have:=Hq (b.take j) a;have:=List.length_take_le j b;omega
 have gm:∀ j,∀ x∈jK a (b.take j),x.1.size<bB:=fun j x ab=>by
  rcases DK _ _ ab with h|h
  ·exact aR x h
  ·exact mE x (List.mem_of_mem_take h)
 refine dF ?_;refine aa.b7 rfl rfl rfl rfl rfl U I (aI.all _) ?_ (fun _ _ ⟨_,h,_⟩ _=>by cases h);rintro _ _ ⟨Wi,⟨⟩,rfl⟩ I;rw [d7] at I ⊢;refine bD ?_;refine ae.b9 [10,11] C I (σ:=Nat×bQ) (fun q=>[(12,.int .i64 (q.1:Int)),(5,.aB 7 ((jK a (b.take q.1)).map h1) q.2)]) (fun q=>[(q.2,.row 289 7 (jK a (b.take q.1)).length)]) (fun q=>q.1≤b.length) (fun q=>b.length-q.1) (0,Wi) (g8 _) (cz C) a1 ?_;rintro ⟨j,own⟩ aH I;simp only at aH I ⊢;refine b8 ?_;refine ae.cond C (fun aw=>?_) (fun aY=>?_);rotate_left
 ·have aY:j=b.length:=by simp at aY;omega
  subst aY;rw [ae6];refine ef ?_;exact Fin.cG I C aU.bc
 have aw:j<b.length:=by simpa using aw
 obtain ⟨x,ab,bP⟩:=b5 (f:=h1) aw;have ar:jK a (b.take (j+1))=rb (jK a (b.take j)) x:=by
  unfold jK;rw [hZ ab,aq'];rfl
 unfold rb at ar;have dg:=mE x (d6 ab);have lQ:=hlen j;have qL:=gm j;generalize dD:jK a (b.take j)=out at I ar lQ qL ⊢;have aF:=Wg (.func 267 [] [.br (p6 x) 0]) (wV x) out ag (fun y ax=>Wb x y dg (qL y ax));cases au:out.any (wV x) with
 | true=>
  rw [au] at aF;rw [au,g6 C] at ar;refine dY ?_;exact bp.mk (j+1,own) I aw ly (by show aI _ [(_,.row _ _ (jK a (b.take (j+1))).length)] _;rw [ar];exact aI.ei _) (by show b.length-(j+1)<b.length-j;omega)
 | false=>
  rw [au] at aF;rw [au,d9 ba] at ar;refine dY ?_;refine aa.gn ai I C C C C C C C er C C C C C C C C aZ hy (by show (_+1)*88≤_;omega) ag (fun b0 I=>?_);refine gf ?_;exact bp.mk (j+1,.own b0) I aw (by repeat (first|exact trivial|refine ⟨⟨_,rfl,aO⟩,?_⟩|refine ⟨⟨_,rfl,aU.of_eq (by (first|rw [iN ag]|(rw [ar,ae1];rfl)))⟩,?_⟩)) (by show aI _ [(_,.row _ _ (jK a (b.take (j+1))).length)] _;rw [ar,f8,List.length_singleton];exact aI.ei _) (by show b.length-(j+1)<b.length-j;omega)
theorem di.args {P:Program} {fv:af} {xs ys:List af} {K:a8} {aem:ey→a8→Prop} (h:cR xs ys) (k:di P fv ys K aem):di P fv xs K aem:=
 fun s I w p v vs cg au aC=>k s I w p v vs cg au (h.rel aC)
def Wj (dM:Nat):af := .func 243 [] [.ptr dM 0]
abbrev p' (l:List cb):af := .aB 7 (l.map h1) .bc
def si (dM:Nat):dC := .box 287 [Wj dM]
def A' {α:Type} (Go:List α→a8→Prop) (fB:a8→Prop) (fL:af→a8→Prop) (rem:List α) (o:ey) (aP:a8):Prop:=
 (o = .ret (.bool true)∧Go rem aP)∨(o = .ret (.bool false)∧fB aP)∨∃ v,o = .panic v∧fL v aP
structure Ba (dM:Nat) (fv:af) (Go:List (List cb)→a8→Prop) (fB:a8→Prop) (fL:af→a8→Prop):Prop where
 one:cellsOf fv=some [fv]
 call:∀ x rem K,Go (x::rem) K→di d0 fv [p' x] K (A' Go fB fL rem)
 rh:∀ xs K,Go xs K→∃ R,bo K (.own dM) (si dM) R
 w1:∀ K,fB K→∃ R,bo K (.own dM) (si dM) R
theorem Wk {dM:Nat} {fv:af} {Go:List (List cb)→a8→Prop} {fB:a8→Prop} {fL:af→a8→Prop} (eo:Ba dM fv Go fB fL) (a z:List cb) (aE:a.length+z.length<bB) (aR:∀ x∈a,x.1.size<bB) (bE:∀ x∈z,x.1.size<bB) (rem:List (List cb)) (K:a8) (dw:Go (jK a z::rem) K) :
  di d0 (.func 245 [] [.br [fv] 0,.br [p' a] 0]) [p' z] K (A' Go fB fL rem):=by
 refine di.fk (first:=[]) (cap:=[.br [fv] 0,.br [p' a] 0]) ?_;refine bF.bl ai Tryz.func245 C C fun s I=>?_
 have U:=Wh a z aE aR bE;have ad:=eo.call _ _ _ dw;refine o5 ?_;refine aM.U9 C C C C C C C ad I (aI.all _) ?_ ?_
 ·rintro x aP (⟨⟨⟩,av⟩|⟨⟨⟩,ay⟩|⟨_,⟨⟩,_⟩) I
  all_goals rw [d7] at I ⊢
  ·refine gU ?_
   exact Fin.bt I C aO (aI.all _) (.inl ⟨rfl,av⟩)
  ·refine gU ?_
   exact Fin.bt I C aO (aI.all _) (.inr (.inl ⟨rfl,ay⟩))
 ·rintro x aP (⟨h,_⟩|⟨h,_⟩|⟨v,⟨⟩,aD⟩) I
  ·cases h
  ·cases h
  rw [d7] at I ⊢;exact Fin.fb I aO (aI.all _) (.inr (.inr ⟨_,rfl,aD⟩))
theorem Wl (w:bx) (dM:Nat):∀ (n:Nat) (f:ao),f.size≤n→n<bB→gM w f=true→∀ (b:Bool) (fv:af) (Go:List (List cb)→a8→Prop) (fB:a8→Prop) (fL:af→a8→Prop),Ba dM fv Go fB fL →
  ∀ (rest:List (List cb)) (K:a8),Go (h0 b f++rest) K→bF d0 243 [f.bW,.bool b,fv,.ptr dM 0] K (A' Go fB fL rest):=by
 have an:=bG;intro n
 induction n with
 | zero=>intro x h;have:=x.size_eq;omega
 | succ n aX=>
  intro f az i' av b fv Go fB fL eo rest K dw;obtain ⟨R,ar⟩:=eo.rh _ _ dw;have u1:=eo.one;have iD:=f.size_eq;have jx:=Mz b f;rw [p4,f9] at av;obtain ⟨pn,po⟩:=av;have iB:=Hw f;rw [ao.cp] at iB;refine bF.bl ai Tryz.func243 C C fun s I=>?_
  rw [ao.cp];rcases DO pn with ⟨U,ad⟩|⟨aE,ad,U⟩|⟨U,x,ad⟩|⟨U,x,y,ad⟩
  ·rw [jx,U,g6 C] at dw
   unfold ao.cells;rw [U];cases b with
   | true=>
    refine kB ?_;refine aa.jV I C C C C C u1 (fun ri I=>?_);refine aa.mu I 6 ri C .here (fun I=>?_);refine bD ?_;exact Fin.bt I C aO (aI.all _) (.inl ⟨rfl,dw⟩)
   | false=>
    have aj:=di.args (show cR [.aB 0 [] .nil] [p' []] from .one aU.empty) (eo.call _ _ _ dw);refine kB ?_;refine aa.jV I C C C C C u1 (fun ri I=>?_);refine aa.mu I 6 ri C .here (fun I=>?_);refine bD ?_;refine aa.gJ C C C C C C aj I (aI.all _) ?_ ?_
    ·rintro x aP (⟨⟨⟩,av⟩|⟨⟨⟩,ay⟩|⟨_,⟨⟩,_⟩) I
     all_goals rw [d7] at I ⊢
     ·refine e8 ?_
      exact Fin.bt I C aO (aI.all _) (.inl ⟨rfl,av⟩)
     ·refine e8 ?_
      exact Fin.bt I C aO (aI.all _) (.inr (.inl ⟨rfl,ay⟩))
    ·rintro x aP (⟨h,_⟩|⟨h,_⟩|⟨v,⟨⟩,aD⟩) I
     ·cases h
     ·cases h
     rw [d7] at I ⊢;exact Fin.fb I aO (aI.all _) (.inr (.inr ⟨_,rfl,aD⟩))
  ·rw [jx,d9 ag,d9 ag,g6 aE] at dw
   rw [aE] at iB;have cQ:(f.op==1)=false:=by simp;omega
   have cV:(f.op==5)=false:=by simp;omega
   have aj:=di.args (show cR [.aB 7 [h1 (f,b)] .clip] [p' [(f,b)]] from .one aU.bc) (eo.call _ _ _ dw);unfold h1 p6 ao.cells at aj;unfold ao.cells;refine kB ?_;refine aa.jV I C C C C C u1 (fun ri I=>?_);refine aa.mu I 6 ri C .here (fun I=>?_);refine bD ?_;refine ae.cond C (fun h=>by rw [cQ] at h;cases h) (fun _=>?_);refine b8 ?_;refine ae.cond C (fun h=>by rw [cV] at h;cases h) (fun _=>?_);refine db ?_;refine aa.gJ C C C C C C aj I (aI.all _) ?_ ?_
   ·rintro x aP (⟨⟨⟩,av⟩|⟨⟨⟩,ay⟩|⟨_,⟨⟩,_⟩) I
    all_goals rw [d7] at I ⊢
    ·refine e8 ?_
     exact Fin.bt I C aO (aI.all _) (.inl ⟨rfl,av⟩)
    ·refine e8 ?_
     exact Fin.bt I C aO (aI.all _) (.inr (.inl ⟨rfl,ay⟩))
   ·rintro x aP (⟨h,_⟩|⟨h,_⟩|⟨v,⟨⟩,aD⟩) I
    ·cases h
    ·cases h
    rw [d7] at I ⊢;exact Fin.fb I aO (aI.all _) (.inr (.inr ⟨_,rfl,aD⟩))
  ·have ab:=ao.iQ (l:=f.kids) (x:=x) m7
   have i1:=aX x ag ag (l2 po m7) (!b) fv Go fB fL eo rest K;have cd:([x].map ao.bW)[0]? = some (.agg x.cells):=by rw [← ao.cp];rfl
   rw [jx,U,d9 ag,g6 C,ad,tG _ 0 [x] x C] at dw;have i1:=di.fk (first:=[]) (args:=[x.bW,.bool (!b),fv]) (cap:=[.ptr dM 0]) (i1 dw);rw [ao.cp] at i1;unfold si at ar;unfold ao.cells;rw [U,ad];refine kB ?_;refine aa.jV I C C C C C u1 (fun ri I=>?_);refine aa.mu I 6 ri C .here (fun I=>?_);refine aa.run ai C (aa.nil ?_)
   repeat (first
    | refine ae.uV I dM ar ai mixed C ?_
    | with_reducible apply ae.seq
    | with_reducible apply b4
    | with_reducible apply fA
    | with_reducible apply ae.block
    | refine ae.fH C ?_
    | refine ae.gF C ?_
    | refine c5 C ?_
    | refine ae.skip ?_)
   refine db ?_;refine aM.AS C C C C C C C i1 I (aI.all _) (fun x aP h=>?_) ?_ ?_
   ·rw [d7]
    rcases h with ⟨_,h⟩|⟨_,h⟩|⟨_,h,_⟩
    ·exact eo.rh _ _ h
    ·exact eo.w1 _ h
    ·cases h
   ·rintro x aP (⟨⟨⟩,av⟩|⟨⟨⟩,ay⟩|⟨_,⟨⟩,_⟩) I
    all_goals rw [d7] at I ⊢
    ·refine gU ?_
     exact Fin.bt I C aO (aI.all _) (.inl ⟨rfl,av⟩)
    ·refine gU ?_
     exact Fin.bt I C aO (aI.all _) (.inr (.inl ⟨rfl,ay⟩))
   ·rintro x aP (⟨h,_⟩|⟨h,_⟩|⟨v,⟨⟩,aD⟩) I
    ·cases h
    ·cases h
    rw [d7] at I ⊢;exact Fin.fb I aO (aI.all _) (.inr (.inr ⟨_,rfl,aD⟩))
  ·have ab:=ao.iQ (l:=f.kids) (x:=x) m7
   have ax:=ao.iQ (l:=f.kids) (x:=y) u0;have i1:=aX x ag ag (l2 po m7) b;have i2:=aX y ag ag (l2 po u0) b;have cd:([x,y].map ao.bW)[0]? = some (.agg x.cells):=by rw [← ao.cp];rfl
   have b1:([x,y].map ao.bW)[1]? = some (.agg y.cells):=by rw [← ao.cp];rfl
   have n3:f.c0=false:=by unfold ao.c0;simp;omega
   have HC:=uZ f.kids b;have u4:=MB f.kids b;rw [n3] at iB;have adk:=dw;rw [jx,d9 ag,d9 ag,d9 (by rw [n3];simp),ad,tG _ 0 [x,y] x C,tG _ 1 [x,y] y C] at dw;rw [ad] at HC u4;have M6:=HC 0;have M7:=HC 1;rw [tG _ 0 [x,y] x C] at M6;rw [tG _ 1 [x,y] y C] at M7;rw [tG _ 0 [x,y] x C,tG _ 1 [x,y] y C] at u4;have b':ao.iC [x,y]<bB:=by rw [← ad];omega
   unfold si at ar;unfold ao.cells at iB ⊢;by_cases HD:b=decide (f.op=6)
   ·rw [g6 HD,af9] at dw
    have w2:=di.fk (first:=[]) (args:=[x.bW,.bool b,fv]) (cap:=[.ptr dM 0]) (i1 fv Go fB fL eo _ K dw);have lF:=fun K dw=>di.fk (first:=[]) (args:=[y.bW,.bool b,fv]) (cap:=[.ptr dM 0]) (i2 fv Go fB fL eo rest K dw)
    rw [ao.cp] at w2 lF;have cQ:(f.op==1)=false:=by simp;omega
    have cV:(f.op==5)=false:=by simp;omega
    have e3:(b==(f.op==6))=true:=by rw [HD];by_cases fG:f.op=6<;>simp [fG]
    rw [ad] at iB ⊢;refine kB ?_;refine aa.jV I C C C C C u1 (fun ri I=>?_);refine aa.mu I 6 ri C .here (fun I=>?_);refine bD ?_;refine ae.cond C (fun h=>by rw [cQ] at h;cases h) (fun _=>?_);refine b8 ?_;refine ae.cond C (fun h=>by rw [cV] at h;cases h) (fun _=>?_);refine cB ?_;refine ae.cond C (fun _=>?_) (fun h=>by rw [e3] at h;cases h)
    repeat (first
     | refine ae.uV I dM ar ai mixed C ?_
     | with_reducible apply ae.seq
     | with_reducible apply b4
     | with_reducible apply fA
     | with_reducible apply ae.block
     | refine ae.fH C ?_
     | refine ae.gF C ?_
     | refine c5 C ?_
     | refine ae.skip ?_)
    refine db ?_;refine aM.AS C C C C C C C w2 I (aI.all _) (fun x aP h=>?_) ?_ ?_
    ·rw [d7]
     rcases h with ⟨_,h⟩|⟨_,h⟩|⟨_,h,_⟩
     ·exact eo.rh _ _ h
     ·exact eo.w1 _ h
     ·cases h
    rotate_left
    ·rintro x aP (⟨h,_⟩|⟨h,_⟩|⟨v,⟨⟩,aD⟩) I
     ·cases h
     ·cases h
     rw [d7] at I ⊢;exact Fin.fb I aO (aI.all _) (.inr (.inr ⟨_,rfl,aD⟩))
    rintro _ aP (⟨⟨⟩,av⟩|⟨⟨⟩,ay⟩|⟨_,h,_⟩) I
    ·rw [d7] at I ⊢
     refine db ?_;refine aM.AS C C C C C C C (lF _ av) I (aI.all _) (fun x aP h=>?_) ?_ ?_
     ·rw [d7]
      rcases h with ⟨_,h⟩|⟨_,h⟩|⟨_,h,_⟩
      ·exact eo.rh _ _ h
      ·exact eo.w1 _ h
      ·cases h
     ·rintro x aP (⟨⟨⟩,av⟩|⟨⟨⟩,ay⟩|⟨_,⟨⟩,_⟩) I
      all_goals rw [d7] at I ⊢
      ·refine gU ?_
       exact Fin.bt I C aO (aI.all _) (.inl ⟨rfl,av⟩)
      ·refine gU ?_
       exact Fin.bt I C aO (aI.all _) (.inr (.inl ⟨rfl,ay⟩))
     ·rintro x aP (⟨h,_⟩|⟨h,_⟩|⟨v,⟨⟩,aD⟩) I
      ·cases h
      ·cases h
      rw [d7] at I ⊢;exact Fin.fb I aO (aI.all _) (.inr (.inr ⟨_,rfl,aD⟩))
    ·rw [d7] at I ⊢
     refine gU ?_;exact Fin.bt I C aO (aI.all _) (.inr (.inl ⟨rfl,ay⟩))
    ·cases h
   ·rw [d9 HD] at dw
    have cQ:(f.op==1)=false:=by simp;omega
    have cV:(f.op==5)=false:=by simp;omega
    have e3:(b==(f.op==6))=false:=by
     cases b<;>simp_all
    have Wm:∀ (a:List cb) (rest:List (List cb)),a∈h0 b x→Ba dM (.func 245 [] [.br [fv] 0,.br [p' a] 0]) (fun aZ K=>(∀ z∈aZ,z∈h0 b y)∧Go (aZ.map (jK a)++rest) K) fB fL:=fun a rest aR=>by
     refine ⟨rfl,fun z rem K ⟨bE,av⟩=>?_,fun xs K h=>eo.rh _ _ h.2,eo.w1⟩;have HE:=bE z i8;refine di.mono (Wk eo a z (by have:=u4 a z aR HE;omega) (fun u hu=>by have:=(M6 a aR).2 u hu;omega) (fun u hu=>by have:=(M7 z HE).2 u hu;omega) (rem.map (jK a)++rest) K av) ?_;rintro o aP (⟨U,h⟩|h|h)
     ·exact .inl ⟨U,fun z tA=>bE z (i6 _ tA),h⟩
     ·exact .inr (.inl h)
     ·exact .inr (.inr h)
    have Wn:Ba dM (.func 244 [] [.ptr dM 0,.br f.cells 0,.br [.bool b] 0,.br [fv] 0]) (fun xs K=>(∀ a∈xs,a∈h0 b x)∧Go ((xs.flatMap fun a=>(h0 b y).map (jK a))++rest) K) fB fL:=by
     refine ⟨rfl,fun a rem K ⟨aR,av⟩=>?_,fun xs K h=>eo.rh _ _ h.2,eo.w1⟩;obtain ⟨R,ar⟩:=eo.rh _ _ av;unfold si at ar;refine di.fk (first:=[]) (cap:=[.ptr dM 0,.br f.cells 0,.br [.bool b] 0,.br [fv] 0]) ?_;refine bF.bl ai Tryz.func244 C C fun s I=>?_
     rw [List.flatMap_cons,af9] at av;have lF:=di.fk (first:=[]) (args:=[y.bW,.bool b,.func 245 [] [.br [fv] 0,.br [p' a] 0]]) (cap:=[.ptr dM 0]) (i2 _ _ fB fL (Wm a ((rem.flatMap fun a=>(h0 b y).map (jK a))++rest) (aR a i8)) [] K ⟨fun z bE=>by rw [d7] at bE;exact bE,by rw [d7];exact av⟩);rw [ao.cp] at lF;unfold ao.cells;rw [ad];unfold ao.cells at lF
     repeat (first
      | refine ae.uV I dM ar ai mixed C ?_
      | with_reducible apply ae.seq
      | with_reducible apply b4
      | with_reducible apply fA
      | with_reducible apply ae.block
      | refine ae.fH C ?_
      | refine ae.gF C ?_
      | refine c5 C ?_
      | refine ae.skip ?_)
     refine db ?_;refine aM.AS C C C C C C C lF I (aI.all _) (fun x aP h=>?_) ?_ ?_
     ·rw [d7]
      rcases h with ⟨_,h⟩|⟨_,h⟩|⟨_,h,_⟩
      ·exact eo.rh _ _ h.2
      ·exact eo.w1 _ h
      ·cases h
     ·rintro x aP (⟨⟨⟩,av⟩|⟨⟨⟩,ay⟩|⟨_,⟨⟩,_⟩) I
      all_goals rw [d7] at I ⊢
      ·refine gU ?_
       exact Fin.bt I C aO (aI.all _) (.inl ⟨rfl,fun z bE=>aR z (i6 _ bE),av.2⟩)
      ·refine gU ?_
       exact Fin.bt I C aO (aI.all _) (.inr (.inl ⟨rfl,ay⟩))
     ·rintro x aP (⟨h,_⟩|⟨h,_⟩|⟨v,⟨⟩,aD⟩) I
      ·cases h
      ·cases h
      rw [d7] at I ⊢;exact Fin.fb I aO (aI.all _) (.inr (.inr ⟨_,rfl,aD⟩))
    have w2:=di.fk (first:=[]) (args:=[x.bW,.bool b,.func 244 [] [.ptr dM 0,.br f.cells 0,.br [.bool b] 0,.br [fv] 0]]) (cap:=[.ptr dM 0]) (i1 _ _ fB fL Wn [] K ⟨fun z bE=>by rw [d7] at bE;exact bE,by rw [d7];exact dw⟩);rw [ao.cp] at w2;unfold ao.cells at w2;rw [ad] at w2 iB ⊢;refine kB ?_;refine aa.jV I C C C C C u1 (fun ri I=>?_);refine aa.mu I 6 ri C .here (fun I=>?_);refine bD ?_;refine ae.cond C (fun h=>by rw [cQ] at h;cases h) (fun _=>?_);refine b8 ?_;refine ae.cond C (fun h=>by rw [cV] at h;cases h) (fun _=>?_);refine cB ?_;refine ae.cond C (fun h=>by rw [e3] at h;cases h) (fun _=>?_)
    repeat (first
     | refine ae.uV I dM ar ai mixed C ?_
     | with_reducible apply ae.seq
     | with_reducible apply b4
     | with_reducible apply fA
     | with_reducible apply ae.block
     | refine ae.fH C ?_
     | refine ae.gF C ?_
     | refine c5 C ?_
     | refine ae.skip ?_)
    refine db ?_;refine aM.AS C C C C C C C w2 I (aI.all _) (fun x aP h=>?_) ?_ ?_
    ·rw [d7]
     rcases h with ⟨_,h⟩|⟨_,h⟩|⟨_,h,_⟩
     ·exact eo.rh _ _ h.2
     ·exact eo.w1 _ h
     ·cases h
    ·rintro x aP (⟨⟨⟩,av⟩|⟨⟨⟩,ay⟩|⟨_,⟨⟩,_⟩) I
     all_goals rw [d7] at I ⊢
     ·refine gU ?_
      exact Fin.bt I C aO (aI.all _) (.inl ⟨rfl,av.2⟩)
     ·refine gU ?_
      exact Fin.bt I C aO (aI.all _) (.inr (.inl ⟨rfl,ay⟩))
    ·rintro x aP (⟨h,_⟩|⟨h,_⟩|⟨v,⟨⟩,aD⟩) I
     ·cases h
     ·cases h
     rw [d7] at I ⊢;exact Fin.fb I aO (aI.all _) (.inr (.inr ⟨_,rfl,aD⟩))
def pq (k:IntKind) (xs:List Int):Value := .agg (xs.map (Value.int k)).toArray
def km (k:IntKind) (xs:List Int):af := .agg (xs.map (af.int k))
structure sj (P:Program) (dS:TypeId) (k:IntKind) (n:Nat):Prop where
 wide:(match P.underlying dS with|some (.array _ _)|some (.struct _)=>true|_=>false)=true
 check:∀ e xs,xs.length=n→∀ w,(Instr.checkKey e 10000 dS (pq k xs)).run P w = .ok () w
 eq:∀ xs ys,xs.length=n→ys.length=n→∀ w,(Op.equal dS (pq k xs) (pq k ys)).run P w = .ok (xs==ys) w
theorem Bb {w:World} {p:bU} {k:IntKind} {v:Value}:∀ {xs:List Int},Rel w p v (km k xs)→v=pq k xs:=by
 intro xs h;cases h with
 | agg cs _ aC=>
 have:∀ {l:List Value} {xs:List Int},bJ w p l (xs.map (af.int k))→l=xs.map (Value.int k):=by
  intro l
  induction l with
  | nil=>intro xs h;cases xs with|nil=>rfl|cons x r=>cases h
  | cons v l aX=>
   intro xs h;cases xs with
   | nil=>cases h
   | cons x r=>
    cases h with
    | cons _ _ _ _ U ad=>
    cases U;rw [aX ad];rfl
 unfold pq;rw [← this aC]
def mF (k:IntKind) (l:List (List Int×af)):List (af×af):=l.map fun e=>(km k e.1,e.2)
theorem M8 {P:Program} {dS:TypeId} {k:IntKind} {n:Nat} (fw:sj P dS k n) {w:World} {p:bU} {xs:List Int} (ab:xs.length=n):∀ (cN:List MapEntry) (l:List (List Int×af)) (i:Nat),
  lM w p cN (mF k l)→(∀ e∈l,e.1.length=n) →
  match l.find? (fun e=>e.1==xs) with
  | none=>(Instr.findAsking dS (pq k xs) cN i).run P w = .ok none w
  | some e=>∃ j val,(Instr.findAsking dS (pq k xs) cN i).run P w = .ok (some (j,val)) w∧Rel w p val e.2:=by
 intro cN
 induction cN with
 | nil=>
  intro l i aC aE;cases l with
  | nil=>rfl
  | cons e r=>exact absurd aC.1.length (by simp only [mF,ae2,ah2,i0,af7];omega)
 | cons m cN aX=>
  intro l i aC aE;cases l with
  | nil=>exact absurd aC.1.length (by simp only [mF,ae2,ah2,i0,af7];omega)
  | cons e r=>
   obtain ⟨ya,s4⟩:=aC;simp only [mF,ae2] at ya s4;cases ya with|cons _ _ _ _ aA s5=>cases s4 with|cons _ _ _ _ au qF=>
   have he:=Bb aA;have bk:=fw.eq xs e.1 ab (aE e i8) w;rw [← he] at bk;have aF:(xs==e.1)=(e.1==xs):=by rw [Bool.eq_iff_iff,am7,am7];exact ⟨fun h=>h.symm,fun h=>h.symm⟩
   rw [aF] at bk;rw [List.find?_cons];cases an:e.1==xs with
   | true=>
    rw [an] at bk;simp only;refine ⟨i,m.val,?_,au⟩;unfold Instr.findAsking;simp only [ac',bk,i5];rfl
   | false=>
    rw [an] at bk;simp only;have:=aX r (i+1) ⟨s5,qF⟩ (fun e he=>aE e (i6 _ he));have wB:(Instr.findAsking dS (pq k xs) (m::cN) i).run P w=(Instr.findAsking dS (pq k xs) cN (i+1)).run P w:=by
     conv=>lhs;unfold Instr.findAsking
     simp only [ac',bk,i5];rfl
    rw [wB];exact this
section
variable {P:Program} {Γ:cy} {N:Nat} {env:Env} {s:al} {o:Oper} {d:Nat} {ops:Array Oper} {rest:List Oper} {Q:b6→Env→al→Prop} {L R:a8} {l:List Oper} {i:Nat} {J:al→Prop}
theorem a6.yN (aQ:bO P Γ) {t dS e0:TypeId} {x y:Operand} {ok:Bool} {it aG:bN} {b n:Nat} {k:IntKind} {es:List (List Int×af)} {xs:List Int} {z:af} (fw:sj P dS k n) (ah:o.op = .lookup t x y ok)
  (aL:Γ.get? t=some it) (bq:it.bH = .map dS e0) (bL:Γ.get? e0=some aG) (ab:aK env x=some (.map b)) (ax:aK env y=some (km k xs)) (az:xs.length=n) (qa:∀ e∈es,e.1.length=n)
  (ar:s b=some (.map (mF k es))) (bE:hD aG.zero=some z) {X:af→al→Prop} :
  a6 P N o env s (fun x ak=>x=lS ok z ((es.find? fun e=>e.1==xs).map (·.2))∧ak=s) X:=by
 refine a6.ku ja fun ro B a w p aJ=>?_
 obtain ⟨info,wM,U,ad,aj,-⟩:=aQ.parts aL;obtain ⟨jO,kv,FU,zX,Sy,-,-,FV⟩:=aQ.parts bL;have ay:wM = .map dS e0:=by rw [bq] at aj;cases wM<;>simp [ev] at aj;rw [aj.1,aj.2]
 subst ay;have aC:=aJ.aK ab;have kx:=Bb (aJ.aK ax);generalize ew:a.eval x=dQ at aC;cases aC;have FW:(zeroValue e0).run P w = .ok aG.zero w:=by simp [zeroValue,typeInfo,FU,FV]
 obtain ⟨cN,clock,g1,g2,-⟩:=aJ.wf.obj _ _ ar;have a7:=M8 fw az cN.toList es 0 g2 qa;have FY:∃ val,(Instr.lookup t (.map (some b)) (a.eval y) ok).run P w = .ok val w∧Rel w p val (lS ok z ((es.find? fun e=>e.1==xs).map (·.2))):=by
  unfold Instr.lookup;rw [kx];simp only [ac',run_underlying ad,i5,yb g1 C,ae5,fw.check _ xs az,run_findKey_eq w fw.wide];cases jx:es.find? fun e=>e.1==xs with
  | none=>
   rw [jx] at a7;simp only at a7;simp only [a7,i5,ac',FW,ae5,lS,at7];cases ok
   ·exact ⟨_,rfl,qC bE⟩
   ·exact ⟨_,rfl,.cu _ _ (.cons _ _ _ _ (qC bE) (.cons _ _ _ _ (.bool _) .nil))⟩
  | some e=>
   rw [jx] at a7;obtain ⟨j,val,dT,dh⟩:=a7;simp only [dT,i5,ae5,lS,ao2];cases ok
   ·exact ⟨_,rfl,dh⟩
   ·exact ⟨_,rfl,.cu _ _ (.cons _ _ _ _ dh (.cons _ _ _ _ (.bool _) .nil))⟩
 obtain ⟨val,cO,eT⟩:=FY;refine ⟨val,w,s,p,_,?_,.refl w p,.refl s w p,aJ.wf,⟨rfl,rfl⟩,eT⟩;unfold execOp;rw [ah];simp only [ew];exact gS cO
theorem a6.Bc (aQ:bO P Γ) {t dS e0:TypeId} {x y z:Operand} {it:bN} {b n:Nat} {k:IntKind} {es:List (List Int×af)} {xs:List Int} {v:af} (fw:sj P dS k n) (ah:o.op = .mapUpdate t x y z∨o.op = .insert t x y z)
  (aL:Γ.get? t=some it) (bq:it.bH = .map dS e0) (ab:aK env x=some (.map b)) (ax:aK env y=some (km k xs)) (bE:aK env z=some v) (az:xs.length=n) (qa:∀ e∈es,e.1.length=n)
  (ar:s b=some (.map (mF k es))) (zY:es.find? (fun e=>e.1==xs)=none) {X:af→al→Prop} :
  a6 P N o env s (fun _ ak=>ak=s.set b (.map (mF k (es++[(xs,v)])))) X:=by
 refine a6.FR (by rcases ah with ah|ah<;>simp [gE,ah]) fun ro B a w p aJ=>?_
 obtain ⟨info,wM,U,ad,aj,-⟩:=aQ.parts aL;have ay:wM = .map dS e0:=by rw [bq] at aj;cases wM<;>simp [ev] at aj;rw [aj.1,aj.2]
 subst ay;have aC:=aJ.aK ab;have M9:=aJ.aK ax;have kx:=Bb M9;have F0:=aJ.aK bE;obtain ⟨cN,clock,g1,g2,g3,g4⟩:=aJ.wf.obj _ _ ar;generalize ew:a.eval x=dQ at aC;cases aC;have a7:=M8 fw az cN.toList es 0 g2 qa;rw [zY] at a7;simp only at a7;have cO:(Instr.mapUpdate t (.map (some b)) (a.eval y) (a.eval z)).run P w = .ok () { w with heap:=w.heap.setIfInBounds b (.map (cN.push { key:=a.eval y,val:=a.eval z,born:=clock }) (clock+1)) }:=by
  unfold Instr.mapUpdate;rw [kx];simp only [ac',run_underlying ad,i5,yb g1 C,fw.check _ xs az,run_findKey_eq w fw.wide,a7];simp [setObj,Sem.run,g1]
 have Wo:∀ w',(Instr.mapUpdate t (.map (some b)) (a.eval y) (a.eval z)).run P w = .ok () w'→(execOp a.eval o).run P w = .ok .skip w':=by
  intro w' hw;unfold execOp;rcases ah with ah|ah<;>rw [ah]<;>simp only [ew]<;>simp only [ac',hw,i5,ae5]
 have eT:lM w p (cN.push { key:=a.eval y,val:=a.eval z,born:=clock }).toList (mF k (es++[(xs,v)])):=by
  unfold mF;rw [as9,ae1];exact ⟨by rw [ae1,ae1];exact g2.1.append (.cons _ _ _ _ M9 .nil),by rw [ae1,ae1];exact g2.2.append (.cons _ _ _ _ F0 .nil)⟩
 obtain ⟨cF,dj,fe⟩:=FZ aJ.wf ar (mes':=cN.push { key:=a.eval y,val:=a.eval z,born:=clock }) (clock':=clock+1) eT
  (by intro e he;simp only [as9,ae4,t6] at he;rcases he with he|rfl;have:=g3 e he;omega;simp)
  (by
   simp only [as9,ae1,ae2,ah2]
   rw [List.nodup_append]
   refine ⟨g4,by simp,?_⟩
   intro x ab y ax e
   simp only [t6] at ax
   obtain ⟨m,hm,rfl⟩:=ag0.1 ab
   have:=g3 m hm
   omega) _ C
 exact ⟨_,_,p,Wo _ cO,cF,dj,fe,rfl⟩
theorem aM.yN (aQ:bO P Γ) (I:Ok s L) {t dS e0:TypeId} {x y:Operand} {Bd:Bool} {it aG:bN} {b n:Nat} {k:IntKind} {es:List (List Int×af)} {xs:List Int} {z:af} (fw:sj P dS k n) (av:c4 l env o) (ay:o.dst=some d) (aT:Nat.blt d N=true) (ah:o.op = .lookup t x y Bd)
  (aL:Γ.get? t=some it) (bq:it.bH = .map dS e0) (bL:Γ.get? e0=some aG) (ab:aK (b2 l env o) x=some (.map b)) (ax:aK (b2 l env o) y=some (km k xs)) (az:xs.length=n) (qa:∀ e∈es,e.1.length=n)
  (ar:bo L (.own b) (.map (mF k es)) R) (bE:hD aG.zero=some z)
  (h:aM (fun ak=>ak=aS s L) P Γ N l (i+1) rest Q ((d,lS Bd z ((es.find? fun e=>e.1==xs).map (·.2)))::env) (aS s L)):aM (fun ak=>ak=aS s L) P Γ N l i (o::rest) Q env (aS s L):=
 aM.calm av ay aT (fun _ e=>by subst e;exact a6.yN aQ fw ah aL bq bL ab ax az qa (ar.get I) bE) h
theorem aa.yN (aQ:bO P Γ) (I:Ok s L) {t dS e0:TypeId} {x y:Operand} {Bd:Bool} {it aG:bN} {b n:Nat} {k:IntKind} {es:List (List Int×af)} {xs:List Int} {z:af} (fw:sj P dS k n) (av:guardOf ops env o=some true) (ay:o.dst=some d) (aT:Nat.blt d N=true) (ah:o.op = .lookup t x y Bd)
  (aL:Γ.get? t=some it) (bq:it.bH = .map dS e0) (bL:Γ.get? e0=some aG) (ab:aK env x=some (.map b)) (ax:aK env y=some (km k xs)) (az:xs.length=n) (qa:∀ e∈es,e.1.length=n)
  (ar:bo L (.own b) (.map (mF k es)) R) (bE:hD aG.zero=some z)
  (h:aa P N ops rest Q ((d,lS Bd z ((es.find? fun e=>e.1==xs).map (·.2)))::env) (aS s L)):aa P N ops (o::rest) Q env (aS s L):=
 aa.op av ay aT (a6.yN aQ fw ah aL bq bL ab ax az qa (ar.get I) bE (X:=fun _ _=>False)) (fun x ak ⟨U,ad⟩=>by subst U;subst ad;exact h) (fun _ _ h=>h.elim)
theorem aM.Bc (aQ:bO P Γ) (I:Ok s L) {t dS e0:TypeId} {x y z:Operand} {it:bN} {b n:Nat} {k:IntKind} {es:List (List Int×af)} {xs:List Int} {v:af} (fw:sj P dS k n) (av:c4 l env o) (ay:o.dst=none) (kj:kA l.toArray i=true) (ah:o.op = .mapUpdate t x y z∨o.op = .insert t x y z)
  (aL:Γ.get? t=some it) (bq:it.bH = .map dS e0) (ab:aK (b2 l env o) x=some (.map b)) (ax:aK (b2 l env o) y=some (km k xs)) (bE:aK (b2 l env o) z=some v) (az:xs.length=n) (qa:∀ e∈es,e.1.length=n)
  (ar:bo L (.own b) (.map (mF k es)) R) (zY:es.find? (fun e=>e.1==xs)=none)
  (h:Ok s ((.own b,.map (mF k (es++[(xs,v)])))::R)→Q .normal env (aS s ((.own b,.map (mF k (es++[(xs,v)])))::R))):aM J P Γ N l i [o] Q env (aS s L):=
 aM.Hb av ay kj (a6.Bc aQ fw ah aL bq ab ax bE az qa (ar.get I) zY (X:=fun _ _=>False)) (fun x ak U=>by
  obtain ⟨cd,b1⟩:=ar.put (.map (mF k (es++[(xs,v)]))) I
  rw [U,cd];exact h b1) (fun _ _ h=>h.elim)
end
theorem four {xs:List Int} (h:xs.length=4):∃ a b c d,xs=[a,b,c,d]:=by
 match xs,h with
 | [a,b,c,d],_=>exact ⟨a,b,c,d,rfl⟩
theorem two {xs:List Int} (h:xs.length=2):∃ a b,xs=[a,b]:=by
 match xs,h with
 | [a,b],_=>exact ⟨a,b,rfl⟩
theorem M' {T e:TypeId} {k:IntKind} {info:TypeInfo} (hu:(d0).underlying T=some (.array 2 e)) (aN:(d0).info? e=some info) (aF:(d0).cellsOf e=1) (he:(d0).underlying e=some (.int k))
  (aD:∀ (a b:Int) (w:World),(part e #[.int k a,.int k b] 0).run d0 w = .ok (.int k a) w∧(part e #[.int k a,.int k b] 1).run d0 w = .ok (.int k b) w) (d:Nat) (a b c8 aW:Int) (w:World) :
  (Op.equalIn (d+2) T (.agg #[.int k a,.int k b]) (.agg #[.int k c8,.int k aW])).run d0 w = .ok ([a,b]==[c8,aW]) w:=by
 rw [show d+2=(d+1)+1 from rfl,run_equalIn_array w _ _ _ hu aN,aF];have bk:∀ a b:Int,(Op.equalIn (d+1) e (.int k a) (.int k b)).run d0 w = .ok (a==b) w:=fun a b=>run_equalIn_int w d e k k a b he
 simp only [show ah0 2=[0,1] from rfl,Op.eqItems,ac',Nat.zero_mul,Nat.one_mul,(aD a b w).1,(aD a b w).2,(aD c8 aW w).1,(aD c8 aW w).2,i5,bk];cases U:a==c8<;>cases ad:b==aW<;>simp_all
theorem Na:sj d0 319 .i64 4:=by
 refine ⟨by kernel_rfl,fun e xs ab w=>?_,fun xs ys ab ax w=>?_⟩
 ·obtain ⟨a,b,c,d,rfl⟩:=four ab
  kernel_rfl
 ·obtain ⟨a,b,c,d,rfl⟩:=four ab
  obtain ⟨c8,aW,tx,c2,rfl⟩:=four ax;have ar:(d0).underlying 319 = some (.struct ((d0).fieldsOf 319)):=by kernel_rfl
  have aD:(d0).stoodInHeld 319 = false:=by kernel_rfl
  have a7:((d0).fieldsOf 319).toList=[{ name := "arg", type := 3, offset:=0,embedded:=false,tag := "", pkgPath := "consort/fact", byteOffset:=0 },{ name := "many", type := 3, offset:=1,embedded:=false,tag := "", pkgPath := "consort/fact", byteOffset:=8 },{ name := "path", type := 317, offset:=2,embedded:=false,tag := "", pkgPath := "consort/fact", byteOffset:=16 }]:=by kernel_rfl
  have hint:(d0).underlying 3 = some (.int .i64):=by kernel_rfl
  obtain ⟨info,aN⟩:=info_of_underlying hint;have jI:∀ a b c d:Int,(part 3 #[.int .i64 a,.int .i64 b,.int .i64 c,.int .i64 d] 0).run d0 w = .ok (.int .i64 a) w:=fun a b c d=>by kernel_rfl
  have u5:∀ a b c d:Int,(part 3 #[.int .i64 a,.int .i64 b,.int .i64 c,.int .i64 d] 1).run d0 w = .ok (.int .i64 b) w:=fun a b c d=>by kernel_rfl
  have Wp:∀ a b c d:Int,(part 317 #[.int .i64 a,.int .i64 b,.int .i64 c,.int .i64 d] 2).run d0 w = .ok (.agg #[.int .i64 c,.int .i64 d]) w:=fun a b c d=>by kernel_rfl
  have Be:=M' (T := 317) (e := 3) (k := .i64) f' aN f' hint (fun a b w=>⟨by kernel_rfl,by kernel_rfl⟩) 9997 c d tx c2 w;have au:∀ a b c d:Int,pq .i64 [a,b,c,d] = .agg #[.int .i64 a,.int .i64 b,.int .i64 c,.int .i64 d]:=fun _ _ _ _=>rfl
  have bk:∀ a b:Int,(Op.equalIn 9999 3 (.int .i64 a) (.int .i64 b)).run d0 w = .ok (a==b) w:=fun a b=>run_equalIn_int w 9998 3 .i64 .i64 a b hint
  have Be:(Op.equalIn 9999 317 (.agg #[.int .i64 c,.int .i64 d]) (.agg #[.int .i64 tx,.int .i64 c2])).run d0 w = .ok ([c,d]==[tx,c2]) w:=Be;rw [au,au];unfold Op.equal;rw [show Op.maxDepth=9999+1 from rfl,run_equalIn_struct w _ _ _ _ ar aD,a7];simp only [Op.eqFields,ac',ne_eq,reduceCtorEq,not_false_eq_true,ag7,jI,u5,Wp,i5,bk,Be];cases U:a==c8<;>cases ad:b==aW<;>cases aj:c==tx<;>cases a':d==c2<;>simp_all
def iF (sp:List Int):af:=km .i64 sp
def h2 (w:bx) (mb:Nat):af := .br [gh w,.map mb] 0
def kH (k:dp) (e2 bn:af):List af:=[.int .i64 k.low,.int .i64 k.high,e2,.int .u64 (k.fS:Int),.int .u64 (k.no:Int),.bool k.whole,.bool k.gv,bn]
def Nb:List af:=kH iU (.aB 1 [] .nil) (.aB 0 [] .nil)
abbrev SMap:=List (List Int×af)
def rj (mb:Nat) (es:SMap):bQ×dC:=(.own mb,.map (mF .i64 es))
theorem Nc (HF oq:af) (Wq:aU (.aB 0 [] .nil) HF) (wb:aU (.aB 0 [] .nil) oq) (w:bx) (mb:Nat) (es:SMap) (qa:∀ e∈es,e.1.length=4) (hI dT dh dJ:Int):bF d0 280 [h2 w mb,iF [hI,dT,dh,dJ]] ([rj mb es]) (fun o K=>(∃ e,es.find? (fun e=>e.1==[hI,dT,dh,dJ])=some e∧o = .ret e.2∧K=[rj mb es])∨(es.find? (fun e=>e.1==[hI,dT,dh,dJ])=none∧∃ HG,o = .ret (.ptr HG 0)∧K=[rj mb (es++[([hI,dT,dh,dJ],.ptr HG 0)]),(.own HG,.box 340 (kH iU HF oq))])):=by
 have an:=bG;refine bF.bl ai Tryz.func280 C C fun s I=>?_
 unfold rj at I ⊢;unfold h2;unfold gh e5
 repeat (first|(refine r2 ?_)|refine aa.jV I C C C C C C (fun b I=>?_)|(refine T3 I ?_;clear I;intro I))
 refine aM.yN (xs:=[hI,dT,dh,dJ]) ai I Na C C C C C C C C C C qa aZ C ?_;cases a7:es.find? (fun e=>e.1==[hI,dT,dh,dJ]) with
 | some e=>
  simp only [ao2];refine cB ?_;exact Fin.bt I C aO a1 (.inl ⟨e,rfl,rfl,rfl⟩)
 | none=>
  simp only [at7]
  repeat (first
   | refine aM.step C ?_
   | refine aM.nil ?_)
  repeat (first|(refine r2 ?_)|refine aa.jV I C C C C C C (fun b I=>?_)|(refine T4 ?_))
  refine ae.wE I b (kH iU HF oq) .here (.cons aO (.cons aO (.cons Wq (.cons aO (.cons aO (.cons aO (.cons aO (.one wb)))))))) (fun I=>?_);refine tm I ?_;intro I;refine aM.Bc (xs:=[hI,dT,dh,dJ]) ai I Na C C C (.inl C) C C C C C C qa aZ a7 (fun I=>?_);refine gT ?_;exact Fin.bt I C aO a1 (.inr ⟨by first|rfl|trivial,_,rfl,rfl⟩)
theorem Nd (a DP jI bC:Int):aV d0 281 [iF [a,0,DP,jI],.int .i64 bC] (iF [a,1,bC,jI]):=by
 have an:=bG;refine aV.bl ai Tryz.func281 C C fun s I=>?_
 unfold iF km
 repeat (first|(refine r2 ?_)|refine aa.jV I C C C C C C (fun b I=>?_)|refine aa.dK ai I C C C C C C C (fun cA I=>?_)|(refine Gy I ?_;clear I;intro I))
 refine aa.arr ai 0 C C C C C C C C C C ag ?_;refine cv I ?_;intro I;exact Fin.cG I (o6 C C (bo.get aZ I) C) aO
theorem Nf (a DP jI bC:Int):aV d0 281 [iF [a,1,DP,jI],.int .i64 bC] (iF [a,2,DP,bC]):=by
 have an:=bG;refine aV.bl ai Tryz.func281 C C fun s I=>?_
 unfold iF km
 repeat (first|(refine r2 ?_)|refine aa.jV I C C C C C C (fun b I=>?_)|refine aa.dK ai I C C C C C C C (fun cA I=>?_)|(refine Gy I ?_;clear I;intro I))
 refine aa.arr ai 1 C C C C C C C C C C ag ?_;refine cv I ?_;intro I;exact Fin.cG I (o6 C C (bo.get aZ I) C) aO
def pr (kb:Nat) (k:dp) (on:bQ) (oq:af):a8:=[(.own kb,.box 340 (kH k (.aB 1 (k.e2.map bb) on) oq)),(on,.row 3 1 k.e2.length)]
structure Wr (k:dp):Prop where
 fS:k.fS<2^64
 no:k.no<2^64
 e2:k.e2.length<bB
structure tJ (w:bx) (x:cb):Prop where
 oh:gM w x.1=true
 leaf:x.1.c0=true
theorem tJ.node {w:bx} {x:cb} (h:tJ w x):h9 w x.1=true:=by
 have:=h.oh;rw [p4,f9] at this;exact this.1
theorem tJ.num {w:bx} {x:cb} (h:tJ w x) : -1000000000≤x.1.n∧x.1.n≤1000000000:=by
 have U:=h.node;simp only [h9,h.leaf,ag7,f9,i7] at U;have m9:=U.2.2.2.2.2.2.2;split at m9
 ·simp at m9;omega
 ·simp [kF] at m9;omega
theorem hQ.n {P:Program} {Γ:cy} {N:Nat} {l:List Oper} {Q:b6→Env→al→Prop} {m:Nat} {env:Env} {s:al}:hQ P Γ N l Q m env s []:=trivial
theorem hQ.c {P:Program} {Γ:cy} {N:Nat} {l:List Oper} {Q:b6→Env→al→Prop} {m:Nat} {env:Env} {s:al} {i:Nat} {is:List Nat} (h:kg P Γ N l Q m env s i) (t:hQ P Γ N l Q m env s is):hQ P Γ N l Q m env s (i::is):=⟨h,t⟩
theorem Ws (w:bx) (hw:w.ps.length≤60) (kb:Nat) (k:dp) (aA:Wr k) (eY : -1000000000≤k.low∧k.low≤1000000000 ∧ -1000000001≤k.high∧k.high≤1000000000) (on:bQ) (oq:af) (wb:e7 oq=true) (x:cb) (ab:tJ w x):bF d0 282 [.ptr kb 0,h1 x] (pr kb k on oq) (fun o K=>o = .ret (.cu [])∧∃ w3,K=pr kb (k.ask x) w3 oq):=by
 have an:=bG;refine bF.bl ai Tryz.func282 C C fun s I=>?_
 obtain ⟨cF,dj,fe⟩:=aA;have iL:=yL.of ab.node ab.leaf;have ot:=ab.num;have iB:=ab.leaf;obtain ⟨f,neg⟩:=x;simp only at iL ot iB;unfold pr at I ⊢;have bY:f.op=2∨f.op=3∨f.op=4:=by
  unfold ao.c0 at iB;simp at iB;omega
 unfold kH at I ⊢;unfold h1 p6 ao.cells;rcases bY with ad|ad|ad
 ·obtain ⟨cQ,cV⟩:=iL.cls ad
  obtain ⟨c,aF⟩:∃ c:Nat,f.cls=c:=⟨f.cls.toNat,by omega⟩;have Ng:c<64:=by omega
  have k0:=A3 k.no c dj Ng;have kV:=A3 k.fS c cF Ng;have aR:k.ask (f,neg)=if neg then { k with no:=k.no|||2^c } else { k with fS:=k.fS|||2^c }:=by
   unfold dp.ask;rw [g6 ad,aF,i9]
  rw [ad,aF];cases neg with
  | true=>
   rw [g6 C] at aR;rw [aR];refine gK I ?_;intro I;exact Fin.bt I C aO a1 ⟨rfl,on,rfl⟩
  | false=>
   rw [d9 ba] at aR;rw [aR];refine gK I ?_;intro I;exact Fin.bt I C aO a1 ⟨rfl,on,rfl⟩
 ·have aR:k.ask (f,neg)=if neg then { k with low:=max k.low f.n } else { k with high:=min k.high (f.n-1),whole:=true }:=by
   unfold dp.ask;rw [d9 (by simp [ad]),g6 ad]
  rw [ad];cases neg with
  | true=>
   rw [g6 C] at aR;rw [aR];have e:(if f.n>k.low then f.n else k.low)=max k.low f.n:=by omega
   refine gK I ?_;intro I;exact Fin.bt I C aO (by rw [← e];exact a1) ⟨rfl,on,rfl⟩
  | false=>
   rw [d9 ba] at aR;rw [aR];have dn:ad5 .i64 (f.n-1)=f.n-1:=ee ag ag;have e:(if f.n-1<k.high then f.n-1 else k.high)=min k.high (f.n-1):=by omega
   refine bD ?_;refine ae.qT ai mixed C (bd.run C ?_);refine bd.ez 6 ai I C C C C C C C C aZ bZ ?_;refine bd.run C ?_;refine bd.pure 11 C C C C C (.x C) ?_;refine bd.run C ?_;refine bd.cM 15 ai I C C C C C C C C C C C aZ bZ (fun I=>?_);refine bd.run C ?_;refine bd.cM 18 ai I C C C C C C C C C C C aZ bZ (fun I=>?_);refine bd.run C ?_;refine bd.done C ?_;refine gr ?_;have u4:Ok s (pr kb { k with high:=(if ad5 .i64 (f.n-1)<k.high then ad5 .i64 (f.n-1) else k.high),whole:=true } on oq):=I;rw [dn,e] at u4;exact Fin.bt (L:=pr kb { k with high:=(if ad5 .i64 (f.n-1)<k.high then ad5 .i64 (f.n-1) else k.high),whole:=true } on oq) I C aO (by rw [dn,e];exact aI.all _) ⟨rfl,on,rfl⟩
 ·rw [ad]
  cases neg with
  | true=>
   have aR:k.ask (f,true)={ k with e2:=k.e2++[f.n] }:=by
    unfold dp.ask;rw [d9 (by simp [ad]),d9 (by simp [ad]),g6 C]
   rw [aR];refine bD ?_;refine ae.qT ai mixed C (bd.run C ?_);refine bd.ez 5 ai I C C C C C C C C aZ bZ ?_;refine bd.run C ?_;refine bd.gn 10 ai I C C C C C C C C C er C C C C C C C C aZ hy ki ag (fun Bf I=>?_);refine bd.run C ?_;refine bd.cM 14 ai I C C C C C C C C C C C aZ bZ (fun I=>?_);refine bd.run C ?_;refine bd.done C ?_;refine gr ?_;have ek:pr kb { k with e2:=k.e2++[f.n] } (.own Bf) oq=[(.own kb,.box 340 [.int .i64 k.low,.int .i64 k.high,.aB 1 (k.e2.map bb++[.int .i64 f.n]) (.own Bf),.int .u64 (k.fS:Int),.int .u64 (k.no:Int),.bool k.whole,.bool k.gv,oq]),(.own Bf,.row 3 1 (k.e2.length+1))]:=by
    unfold pr kH;simp [bb]
   exact Fin.bt I C aO (K:=pr kb { k with e2:=k.e2++[f.n] } (.own Bf) oq) (by rw [ek];exact a1) ⟨rfl,.own Bf,rfl⟩
  | false=>
   have aR:k.ask (f,false)={ k with low:=max k.low f.n,high:=min k.high f.n,whole:=true }:=by
    unfold dp.ask;rw [d9 (by simp [ad]),d9 (by simp [ad]),d9 ba]
   rw [aR];have cd:(if f.n>k.low then f.n else k.low)=max k.low f.n:=by omega
   have b1:(if f.n<k.high then f.n else k.high)=min k.high f.n:=by omega
   refine bD ?_;refine ae.qT ai mixed C (bd.run C ?_);refine bd.many C (hQ.c (kg.mk (i:=7) C C C C (a6.ez ai I C C C aZ C (X:=fun _ _=>False)) ?_ (fun _ _ h=>False.elim h)) (hQ.c (kg.mk (i:=16) C C C C (a6.ez ai I C C C aZ C (X:=fun _ _=>False)) ?_ (fun _ _ h=>False.elim h)) hQ.n))
   ·rintro _ _ ⟨rfl,rfl⟩
    refine bd.pure 11 C C C C C (.x C) ?_;refine bd.run C ?_;refine bd.many C (hQ.c (kg.mk (i:=16) C C C C (a6.ez ai I C C C aZ C (X:=fun _ _=>False)) ?_ (fun _ _ h=>False.elim h)) hQ.n)
    ·rintro _ _ ⟨rfl,rfl⟩
     refine bd.pure 20 C C C C C (.x C) ?_;refine bd.run C ?_;refine bd.cM 24 ai I C C C C C C C C C C C aZ bZ (fun I=>?_);refine bd.run C ?_;refine bd.cM 28 ai I C C C C C C C C C C C aZ bZ (fun I=>?_);refine bd.run C ?_;refine bd.cM 31 ai I C C C C C C C C C C C aZ bZ (fun I=>?_);refine bd.run C ?_;refine bd.done C ?_;refine gr ?_;exact Fin.bt I C aO (by rw [← cd,← b1];exact a1) ⟨rfl,on,rfl⟩
   ·rintro _ _ ⟨rfl,rfl⟩
    refine bd.pure 20 C C C C C (.x C) ?_;refine bd.run C ?_;refine bd.many C (hQ.c (kg.mk (i:=7) C C C C (a6.ez ai I C C C aZ C (X:=fun _ _=>False)) ?_ (fun _ _ h=>False.elim h)) hQ.n)
    ·rintro _ _ ⟨rfl,rfl⟩
     refine bd.pure 11 C C C C C (.x C) ?_;refine bd.run C ?_;refine bd.cM 24 ai I C C C C C C C C C C C aZ bZ (fun I=>?_);refine bd.run C ?_;refine bd.cM 28 ai I C C C C C C C C C C C aZ bZ (fun I=>?_);refine bd.run C ?_;refine bd.cM 31 ai I C C C C C C C C C C C aZ bZ (fun I=>?_);refine bd.run C ?_;refine bd.done C ?_;refine gr ?_;exact Fin.bt I C aO (by rw [← cd,← b1];exact a1) ⟨rfl,on,rfl⟩
end Go.Proofs.YtnafpeohfbglmaaGreat
