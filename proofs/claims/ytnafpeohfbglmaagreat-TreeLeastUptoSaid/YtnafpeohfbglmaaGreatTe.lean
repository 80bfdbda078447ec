import Derived.Test.YtnafpeohfbglmaaGreatTd
import Derived.WideKeyRuns
set_option linter.unusedVariables false
set_option linter.unusedSimpArgs false
set_option maxRecDepth 100000
set_option maxHeartbeats 4000000
open Array renaming toList_push→as3
open Bool renaming and_eq_true→f4,and_true→aq6,false_and→f6,true_and→f5
open Int renaming le_refl→al1,toNat_natCast→i9
open Go.IntKind renaming wrap→ac'
open List renaming all_cons→al8,all_eq_true→af5,all_nil→ap2,append_assoc→ag',append_nil→d9,cons_append→ab',drop_zero→an2,eq_nil_of_length_eq_zero→ai9,foldl_append→as1,getD_eq_getElem?_getD→d5,getElem?_eq_getElem→d8,getElem_mem→aj4,length_append→f9,length_cons→i5,length_filter_le→aj8,length_map→f8,length_nil→ag0,length_take→ae9,map_append→ae1,map_cons→ae0,map_nil→ag7,mem_append→ae2,mem_cons_of_mem→i0,mem_cons_self→i6,mem_map→af8,mem_of_getElem?→d6,mem_singleton→t6,nil_append→f0,range→ah8,take_length→af1
open Nat renaming and_comm→aC9,le_refl→g7,le_trans→an0,pow_lt_pow_right→ai6,zero_add→af6,zero_le→g9
open Option renaming getD_none→au6,getD_some→ae4,isSome_none→ap',isSome_some→at6,map_none→at1,map_some→al'
open Go.Result renaming andThen_ok→i7
open Go.Sem renaming run_bind→aa',run_pure→ae3
open Go.Proofs.Tryz renaming prog→d0
namespace Go.Proofs.YtnafpeohfbglmaaGreat
theorem Md {p:Prop} (h:p:=by (first|rw [kF (by omega)]|(rw [jy aA,G4,hb,hb];congr 1;split<;>omega))):p:=h
theorem Ha {p:Prop} (h:p:=by simp only [List.length_nil,Nat.zero_add,List.length_map];omega):p:=h
theorem DH {p:Prop} (h:p:=by show w.owner.length-(j+1)<w.owner.length-j;omega):p:=h
theorem pr {p:Prop} (h:p:=by show f.kids.length-(j+1)<f.kids.length-j;omega):p:=h
theorem rh {p:Prop} (h:p:=by first|(simp_all [];done)|(simp_all []<;>omega)):p:=h
theorem km {p:Prop} (h:p:=by rw [ad];exact List.mem_cons_self):p:=h
theorem ri {p:Prop} (h:p:=by rw [ad];simp):p:=h
structure dn where
 low:Int
 high:Int
 e3:List Int
 fY:Nat
 no:Nat
 whole:Bool
 gz:Bool
 bm:List Int
def iW:dn:=⟨-1000000000,1000000000,[],0,0,false,false,[]⟩
def bu (arg:Int) (path:List Int):List Int:=[arg,(path.length:Int),path.getD 0 0,path.getD 1 0]
def nn (s:Int) (l:List Int):List Int:=if l.contains s then l else (l++[s]).mergeSort (fun a b=>decide (a≤b))
def dn.need (k:dn) (neg:Bool):dn:={ k with gz:=k.gz || !neg }
def dn.slot (k:dn) (s:Int):dn:={ k with bm:=nn s k.bm }
def dn.ask (k:dn) (x:cv):dn:=
 if x.1.op=2 then (if x.2 then { k with no:=k.no|||2^x.1.cls.toNat } else { k with fY:=k.fY|||2^x.1.cls.toNat })
 else if x.1.op=3 then (if x.2 then { k with low:=max k.low x.1.n } else { k with high:=min k.high (x.1.n-1),whole:=true })
 else if x.2 then { k with e3:=k.e3++[x.1.n] }
 else { k with low:=max k.low x.1.n,high:=min k.high x.1.n,whole:=true }
abbrev dP:=List Int→dn
def dP.hW (σ:dP) (sp:List Int) (k:dn):dP:=fun q=>if q=sp then k else σ q
def hd (neg:Bool) (arg:Int) (path:List Int):Nat→dP→dP
 | 0,σ=>σ.hW (bu arg []) ((σ (bu arg [])).need neg)
 | j+1,σ=>
  let AW:=hd neg arg path j σ
  let here:=bu arg (path.take j)
  let Me:=AW.hW here ((AW here).slot (path.getD j 0))
  let there:=bu arg (path.take (j+1))
  Me.hW there ((Me there).need neg)
def addLit (σ:dP) (x:cv):dP:=
 let AW:=hd x.2 x.1.arg x.1.path x.1.path.length σ
 let here:=bu x.1.arg x.1.path
 AW.hW here ((AW here).ask x)
def w3:dP:=fun _=>iW
def ek (l:List cv):dP:=l.foldl addLit w3
theorem Mf {s x:Int} {l:List Int}:x∈nn s l↔x=s∨x∈l:=by
 unfold nn;split
 ·rename_i h
  constructor
  ·exact .inr
  ·rintro (rfl|ad)
   ·simpa using h
   ·exact ad
 ·rw [List.mem_mergeSort,ae2,t6]
  exact Or.comm
theorem Mg (k:dn) (x:cv):(k.ask x).bm=k.bm:=by
 unfold dn.ask
 repeat' split
 all_goals rfl
def rj (w:bz) (σ:dP):Prop:=∀ q,(2≤q.getD 1 0→(σ q).bm=[])∧∀ x∈(σ q).bm,0≤x∧x<(w.owner.length:Int)
theorem rj.hW {w:bz} {σ:dP} (h:rj w σ) {sp:List Int} {k:dn} (aA:(2≤sp.getD 1 0→k.bm=[])∧∀ x∈k.bm,0≤x∧x<(w.owner.length:Int)):rj w (σ.hW sp k):=by
 intro q;unfold dP.hW;by_cases e:q=sp
 ·rw [f7 e,e];exact aA
 ·rw [d7 e];exact h q
theorem Mh {w:bz} {neg:Bool} {arg:Int} {path:List Int} (aF:path.length≤2) (au:∀ s∈path,0≤s∧s<(w.owner.length:Int)):∀ (j:Nat),j≤path.length→∀ σ,rj w σ→rj w (hd neg arg path j σ)
  | 0,_,σ,h=>by
    rw [hd];exact h.hW (h _)
  | j+1,aI,σ,h=>by
    have aa:=Mh (neg:=neg) (arg:=arg) aF au j ag σ h;rw [hd];generalize hd neg arg path j σ=Hb at aa;have az:j<path.length:=by omega
    have ad:rj w (Hb.hW (bu arg (path.take j)) ((Hb (bu arg (path.take j))).slot (path.getD j 0))):=by
      refine aa.hW ⟨fun ad=>?_,fun x ab=>?_⟩
      · exfalso
        have:(bu arg (path.take j)).getD 1 0=((path.take j).length:Int):=rfl;rw [this,ae9] at ad;omega
      · have ab:x∈nn (path.getD j 0) (Hb (bu arg (path.take j))).bm:=ab
        rcases Mf.1 ab with rfl|ab
        · rw [d5,d8 az]
          exact au _ (aj4 az)
        · exact (aa _).2 x ab
    exact ad.hW (ad _)
theorem DI {w:bz} {f:av} (h:hM w f=true) (aC:f.cU=true):f.path.length≤2∧∀ s∈f.path,0≤s∧s<(w.owner.length:Int):=by
 simp only [hM,aC,ag5,f4,g6,af5] at h;exact ⟨h.2.2.2.2.2.1,fun s au=>by have:=h.2.2.2.2.2.2.1 s au;omega⟩
theorem U5 {w:bz} {x:cv} (aB:hM w x.1=true) (aC:x.1.cU=true) {σ:dP} (h:rj w σ):rj w (addLit σ x):=by
 obtain ⟨aa,ad⟩:=DI aB aC;have aj:=Mh (neg:=x.2) (arg:=x.1.arg) aa ad x.1.path.length (g7 _) σ h;unfold addLit;simp only;refine aj.hW ?_;rw [Mg];exact aj _
theorem U6 {w:bz} {l:List cv} (h:∀ x∈l,hM w x.1=true∧x.1.cU=true):rj w (ek l):=by
 unfold ek;have key:∀ (l:List cv) (σ:dP),(∀ x∈l,hM w x.1=true∧x.1.cU=true)→rj w σ→rj w (l.foldl addLit σ):=by
  intro l
  induction l with
  | nil=>exact fun σ _ h=>h
  | cons x r aW=>
   intro σ ab AX;exact aW _ (fun y ax=>ab y (i0 _ ax)) (U5 (ab x i6).1 (ab x i6).2 AX)
 exact key l w3 h (fun q=>⟨fun _=>rfl,fun x ab=>by cases ab⟩)
def l' {α:Type} (e:α→α→Bool):List α→List α→Bool
 | [],[]=>true
 | x::r,y::t=>e x y&&l' e r t
 | _,_=>false
theorem Hc {α:Type} (e:α→α→Bool):∀ (a b:List α),a.length≠b.length→l' e a b=false
 | [],[],h=>absurd C h
 | [],_::_,_=>rfl
 | _::_,[],_=>rfl
 | x::r,y::t,h=>by rw [l',Hc e r t hx,Bool.and_false]
theorem DJ (x:bs):eR x = .agg (gO x):=rfl
theorem U7 (fv:ah) (e:av→av→Bool) (a b:List av) (aC:a.length<bx) (wV:b.length<bx) (bn:∀ x∈a,∀ y∈b,ej d0 fv [av.cj x,av.cj y] (.bool (e x y))) :
  aV d0 94 [.aG 6 (a.map av.cj) .bd,.aG 6 (b.map av.cj) .bd,fv] (.bool (l' e a b)):=by
 have an:=bE;refine aV.bl al Tryz.func94 C C fun s I=>?_
 refine cf ?_;refine af.cond C (fun h=>?_) (fun h=>?_)
 ·have cP:a.length≠b.length:=by simp at h;omega
  rw [Hc e a b cP];refine gE ?_;exact br I
 ·have eQ:a.length=b.length:=by simp at h;omega
  refine jL ?_;refine af.ck [0,1,2,15,16] C I (σ:=Nat) (fun j=>[(17,.int .i64 (j:Int))]) (fun _=>[]) (fun j=>j≤a.length∧l' e a b=l' e (a.drop j) (b.drop j)) (fun j=>a.length-j) 0 ⟨g9 _,rfl⟩ (cK C) ba ?_;rintro j ⟨aI,aw⟩ I;refine cf ?_;refine af.cond C (fun az=>?_) (fun a7=>?_);rotate_left;have a7:j=a.length:=by
   have:a.length≤j:=by simpa using a7
   omega
  ·rw [eE ag,eE ag] at aw
   rw [aw];refine ew ?_;exact br I
  have az:j<a.length:=by simpa using az
  obtain ⟨x,ab,ch⟩:=b7 (f:=av.cj) az;obtain ⟨y,ax,dc⟩:=b7 (f:=av.cj) (by omega:j<b.length);have aD:=bn x (d6 ab) y (d6 ax);rw [av.cG] at ch;rw [av.cG] at dc;rw [av.cG,av.cG] at aD;rw [drop_cons ab,drop_cons ax,l'] at aw;refine eh ?_;refine ae.dZ al I C C C C C C C (fun gq I=>?_);refine Dh I ?_;intro I;refine ae.dZ al I C C C C C C C (fun dm I=>?_);refine Dh I ?_;intro I;refine ae.l2 C C C C C C aD ?_;cases ar:e x y with
  | false=>
   rw [aw,ar,f6];refine fe ?_;exact br I
  | true=>
   rw [ar,f5] at aw;refine bK ?_;refine bD.mk (j+1) I ⟨az,aw⟩ cA ba Au
theorem U8 (fv:ah) (e:bs→bs→Bool) (a b:List bs) (aC:a.length<bx) (wV:b.length<bx) (bn:∀ x∈a,∀ y∈b,ej d0 fv [eR x,eR y] (.bool (e x y))) :
  aV d0 56 [.aG 4 (a.map eR) .bd,.aG 4 (b.map eR) .bd,fv] (.bool (l' e a b)):=by
 have an:=bE;refine aV.bl al Tryz.func56 C C fun s I=>?_
 refine cf ?_;refine af.cond C (fun h=>?_) (fun h=>?_)
 ·have cP:a.length≠b.length:=by simp at h;omega
  rw [Hc e a b cP];refine gE ?_;exact br I
 ·have eQ:a.length=b.length:=by simp at h;omega
  refine jL ?_;refine af.ck [0,1,2,15,16] C I (σ:=Nat) (fun j=>[(17,.int .i64 (j:Int))]) (fun _=>[]) (fun j=>j≤a.length∧l' e a b=l' e (a.drop j) (b.drop j)) (fun j=>a.length-j) 0 ⟨g9 _,rfl⟩ (cK C) ba ?_;rintro j ⟨aI,aw⟩ I;refine cf ?_;refine af.cond C (fun az=>?_) (fun a7=>?_);rotate_left;have a7:j=a.length:=by
   have:a.length≤j:=by simpa using a7
   omega
  ·rw [eE ag,eE ag] at aw
   rw [aw];refine ew ?_;exact br I
  have az:j<a.length:=by simpa using az
  obtain ⟨x,ab,ch⟩:=b7 (f:=eR) az;obtain ⟨y,ax,dc⟩:=b7 (f:=eR) (by omega:j<b.length);have aD:=bn x (d6 ab) y (d6 ax);rw [DJ] at ch;rw [DJ] at dc;rw [DJ,DJ] at aD;rw [drop_cons ab,drop_cons ax,l'] at aw;refine eh ?_;refine ae.dZ al I C C C C C C C (fun gq I=>?_);refine Dh I ?_;intro I;refine ae.dZ al I C C C C C C C (fun dm I=>?_);refine Dh I ?_;intro I;refine ae.l2 C C C C C C aD ?_;cases ar:e x y with
  | false=>
   rw [aw,ar,f6];refine fe ?_;exact br I
  | true=>
   rw [ar,f5] at aw;refine bK ?_;refine bD.mk (j+1) I ⟨az,aw⟩ cA ba Au
theorem AY {α:Type} (q:α→Bool) (l:List α):(!l.any fun x => !q x)=l.all q:=by
 induction l with
 | nil=>rfl
 | cons x r aW=>rw [List.any_cons,al8,Bool.not_or,Bool.not_not,aW]
theorem U9 (fv:ah) (q:Bool) (x:av) (h:ej d0 fv [av.cj x] (.bool q)):ej d0 (.func 234 [] [.bA [fv] 0]) [av.cj x] (.bool (!q)):=by
 refine ej.fm (first:=[]) (cap:=[.bA [fv] 0]) ?_;refine aV.bl al Tryz.func234 C C fun s I=>?_
 rw [av.cG] at h ⊢;refine dS ?_;refine ae.l2 C C C C C C h ?_;refine ep ?_;exact br I
theorem U' (f:FuncId) (iv hA:List ah) (q:av→Bool) (xs:List av) (aC:xs.length<bx) (h:∀ x∈xs,ej d0 (.func f iv hA) [av.cj x] (.bool (q x))) :
  aV d0 200 [.aG 6 (xs.map av.cj) .bd,.func f iv hA] (.bool (xs.all q)):=by
 rw [← AY];refine aV.bl al Tryz.func200 C C fun s I=>?_
 have aD:=UD (.func 234 [] [.bA [.func f iv hA] 0]) (fun x => !q x) xs aC (fun x ab=>U9 (.func f iv hA) (q x) x (h x ab));refine dS ?_;refine ae.dL C C C C C aD ?_;refine ep ?_;exact br I
def p7 (x:av×Bool):List ah:=x.1.cells++[.bool x.2]
def h7 (x:av×Bool):ah := .agg (p7 x)
theorem Mi (l:List Int):∀ y∈l.map bg,lu 1 y=true:=by
 intro y ax;obtain ⟨z,-,rfl⟩:=af8.1 ax;first|rfl|(rw [bg];rfl)
theorem AZ (l:List Int) (own:bV) (aC:l.length<bx):aV d0 47 [.aG 1 (l.map bg) own] (.aG 1 (l.map bg) .bd):=by
 have an:=bE;refine aV.bl al Tryz.func47 C C fun s I=>?_
 refine dS ?_;refine ae.op C C C (a6.GR al C C C C (X:=fun _ _=>False)) ?_ (fun _ _ h=>False.elim h);rintro r ak ⟨rfl,⟨rfl,aB⟩|rfl⟩
 ·refine et ?_
  refine Fin.cE I C ?_;rw [aB];exact aZ.empty
 ·refine bK ?_
  refine ae.q0 al C C C C C C C eH C C C (.inl C) (.inr C) C (Mi _) (by simp only [ag0,af6,f8];show _*8≤_;omega) Ha (.inr C) ?_;refine ep ?_;exact br I
theorem Va (l:List (av×Bool)):∀ y∈l.map h7,lu 7 y=true:=by
 intro y ax;obtain ⟨z,-,rfl⟩:=af8.1 ax;first|rfl|(rw [h7];rfl)
theorem Vb (xs:List ah) (own:bV):aV d0 193 [.aG 2 xs own] (.aG 2 xs .clip):=by
 refine aV.bl al Tryz.func193 C C fun s I=>?_
 refine dS ?_;refine ae.slice al 0 xs.length C C C C C C C C (.inr C) (.inl ⟨rfl,rfl⟩) (.inr ⟨_,_,rfl,rfl⟩) (.inr ⟨_,_,rfl,rfl,rfl⟩) ag (g7 _) ?_;rw [af1,an2];refine ep ?_;exact br I
theorem Hd (xs:List ah) (own:bV):aV d0 194 [.aG 1 xs own] (.aG 1 xs .clip):=by
 refine aV.bl al Tryz.func194 C C fun s I=>?_
 refine dS ?_;refine ae.slice al 0 xs.length C C C C C C C C (.inr C) (.inl ⟨rfl,rfl⟩) (.inr ⟨_,_,rfl,rfl⟩) (.inr ⟨_,_,rfl,rfl,rfl⟩) ag (g7 _) ?_;rw [af1,an2];refine ep ?_;exact br I
theorem Vc (xs:List ah) (own:bV):aV d0 262 [.aG 1 xs own] (.aG 1 xs .clip):=by
 refine aV.bl al Tryz.func262 C C fun s I=>?_
 refine dS ?_;refine ae.slice al 0 xs.length C C C C C C C C (.inr C) (.inl ⟨rfl,rfl⟩) (.inr ⟨_,_,rfl,rfl⟩) (.inr ⟨_,_,rfl,rfl,rfl⟩) ag (g7 _) ?_;rw [af1,an2];refine ep ?_;exact br I
theorem Vd (fv:ah) (q:Bool) (x:Int) (h:ej d0 fv [bg x] (.bool q)):ej d0 (.func 233 [] [.bA [fv] 0]) [bg x] (.bool (!q)):=by
 refine ej.fm (first:=[]) (cap:=[.bA [fv] 0]) ?_;refine aV.bl al Tryz.func233 C C fun s I=>?_
 rw [bg] at h ⊢;refine dS ?_;refine ae.l2 C C C C C C h ?_;refine ep ?_;exact br I
theorem Mj (f:FuncId) (iv hA:List ah) (q:Int→Bool) (xs:List Int) (aC:xs.length<bx) (h:∀ x∈xs,ej d0 (.func f iv hA) [bg x] (.bool (q x))) :
  aV d0 198 [.aG 1 (xs.map bg) .bd,.func f iv hA] (.bool (xs.all q)):=by
 rw [← AY];refine aV.bl al Tryz.func198 C C fun s I=>?_
 have aD:=UG (.func 233 [] [.bA [.func f iv hA] 0]) (fun x => !q x) xs aC (fun x ab=>Vd (.func f iv hA) (q x) x (h x ab));refine dS ?_;refine ae.dL C C C C C aD ?_;refine ep ?_;exact br I
theorem Ve (fv:ah) (q:Bool) (x:(Int×Int)) (h:ej d0 fv [eK x] (.bool q)):ej d0 (.func 208 [] [.bA [fv] 0]) [eK x] (.bool (!q)):=by
 refine ej.fm (first:=[]) (cap:=[.bA [fv] 0]) ?_;refine aV.bl al Tryz.func208 C C fun s I=>?_
 rw [eK] at h ⊢;refine dS ?_;refine ae.l2 C C C C C C h ?_;refine ep ?_;exact br I
theorem Mk (f:FuncId) (iv hA:List ah) (q:(Int×Int)→Bool) (xs:List (Int×Int)) (aC:xs.length<bx) (h:∀ x∈xs,ej d0 (.func f iv hA) [eK x] (.bool (q x))) :
  aV d0 168 [.aG 2 (xs.map eK) .bd,.func f iv hA] (.bool (xs.all q)):=by
 rw [← AY];refine aV.bl al Tryz.func168 C C fun s I=>?_
 have aD:=UJ (.func 208 [] [.bA [.func f iv hA] 0]) (fun x => !q x) xs aC (fun x ab=>Ve (.func f iv hA) (q x) x (h x ab));refine dS ?_;refine ae.dL C C C C C aD ?_;refine ep ?_;exact br I
theorem Vf (fv:ah) (q:Bool) (x:c3) (h:ej d0 fv [hs x] (.bool q)):ej d0 (.func 240 [] [.bA [fv] 0]) [hs x] (.bool (!q)):=by
 refine ej.fm (first:=[]) (cap:=[.bA [fv] 0]) ?_;refine aV.bl al Tryz.func240 C C fun s I=>?_
 rw [hs] at h ⊢;refine dS ?_;refine ae.l2 C C C C C C h ?_;refine ep ?_;exact br I
theorem Vg (f:FuncId) (iv hA:List ah) (q:c3→Bool) (xs:List c3) (aC:xs.length<bx) (h:∀ x∈xs,ej d0 (.func f iv hA) [hs x] (.bool (q x))) :
  aV d0 203 [.aG 2 (xs.map hs) .bd,.func f iv hA] (.bool (xs.all q)):=by
 rw [← AY];refine aV.bl al Tryz.func203 C C fun s I=>?_
 have aD:=UM (.func 240 [] [.bA [.func f iv hA] 0]) (fun x => !q x) xs aC (fun x ab=>Vf (.func f iv hA) (q x) x (h x ab));refine dS ?_;refine ae.dL C C C C C aD ?_;refine ep ?_;exact br I
theorem He (f:av):aV d0 171 [f.cj] (.bool f.cU):=by
 have an:=bE;refine aV.bl al Tryz.func171 C C fun s I=>?_
 rw [av.cG]
 repeat' (first|(with_reducible first|apply af.seq|apply b0|apply af.ret)|refine cY C ?_|refine af.cH ?_|refine ae.nil ?_|refine cF C ?_|refine ae.skip C C C ?_|(fail_if_success refine ae.same true C ?_);(fail_if_success refine ae.same false C ?_);refine ae.gY C C (fun h=>?_) (fun h=>?_))
 all_goals exact Fin.cE I C (aZ.of_eq (by first|(simp_all [av.cU];done)|(simp_all [av.cU]<;>omega)))
theorem Vh (op:Int):aV d0 235 [.int .i64 op] (.int .i64 (q6 op)):=by
 have an:=bE;refine aV.bl al Tryz.func235 C C fun s I=>?_
 repeat' (first|(with_reducible first|apply af.seq|apply b0|apply fU|apply fp|apply gZ|apply af.ret|apply af.skip|apply af.block)|refine cY C ?_|refine af.cond C (fun h=>?_) (fun h=>?_))
 all_goals exact Fin.cE I C (aZ.of_eq (by first|(simp_all [q6];done)|(simp_all [q6]<;>omega)))
theorem Ml (f g:av) (aX:f.path.length<bx) (aq:g.path.length<bx):aV d0 104 [f.cj,g.cj] (.bool (decide (f.op=g.op)&&(decide (f.arg=g.arg)&&(decide (f.cls=g.cls)&&(decide (f.n=g.n)&&f.path==g.path))))):=by
 have an:=bE;refine aV.bl al Tryz.func104 C C fun s I=>?_
 rw [av.cG,av.cG];have aa:=wU f.path g.path aX aq;unfold bj bg at aa
 repeat' (first|(with_reducible first|apply af.seq|apply b0|apply af.ret)|refine cY C ?_|refine af.cH ?_|refine ae.nil ?_|refine cF C ?_|refine ae.skip C C C ?_|refine ae.dL C C C C C cp ?_|(fail_if_success refine ae.same true C ?_);(fail_if_success refine ae.same false C ?_);refine ae.gY C C (fun h=>?_) (fun h=>?_))
 all_goals exact Fin.cE I C (aZ.of_eq rh)
theorem Vi {m c n:Nat} (h:m<n):m >>> c<n:=by
 rw [Nat.shiftRight_eq_div_pow];exact Nat.lt_of_le_of_lt (Nat.div_le_self _ _) h
theorem Vj (m c:Nat):decide ((((m >>> c) &&& 1:Nat):Int)=1)=m.testBit c:=by
 rw [Nat.testBit,aC9];have h:1 &&& (m >>> c)=(m >>> c) % 2:=by rw [aC9];exact Nat.and_one_is_mod _
 rw [h];rcases Nat.mod_two_eq_zero_or_one (m >>> c) with e|e<;>rw [e]<;>rfl
theorem Mm {c:Nat} (h:c<64):2^c<2^64:=ai6 ag h
theorem yK (m c:Nat) (hm:m<2^64) (aD:c<64):aV d0 173 [.int .u64 (m:Int),.int .i64 (c:Int)] (.bool (m.testBit c)):=by
 have an:=bE;refine aV.bl al Tryz.func173 C C fun s I=>?_
 refine dS ?_;refine ae.shr ((m >>> c:Nat):Int) C C C C C C ag (u0 aD) ?_;refine ae.bits (((m >>> c) &&& 1:Nat):Int) C C C C C C (uZ (Vi hm) dV) ?_;refine ep ?_;refine Fin.cE I C (aZ.of_eq ?_);rw [← Vj];rfl
theorem A0 (m c:Nat) (hm:m<2^64) (aD:c<64):aV d0 197 [.int .u64 (m:Int),.int .i64 (c:Int)] (.int .u64 ((m|||2^c:Nat):Int)):=by
 have an:=bE;refine aV.bl al Tryz.func197 C C fun s I=>?_
 refine dS ?_;refine ae.shl ((2^c:Nat):Int) C C C C C C ag (Ds aD) ?_;refine ae.bits ((m|||2^c:Nat):Int) C C C C C C (wS hm (Mm aD)) ?_;refine ep ?_;exact br I
def p8 (w:bz) (up:List Nat):List ah:=eX w++up.map fun n => .int .u64 (n:Int)
def e6 (w:bz) (up:List Nat):ah := .bA (p8 w up) 0
theorem Mn (w:bz) (up:List Nat) (c:Int) (hw:w.ps.length≤60):aV d0 199 [e6 w up,.int .i64 c] (.bool (decide (c≥3)&&decide (c<3+(w.ps.length:Int)))):=by
 have an:=bE;refine aV.bl al Tryz.func199 C C fun s I=>?_
 unfold e6 p8 eX dd bj;have da:ac' .i64 (3+((w.ps.map bj).length:Int))=3+(w.ps.length:Int):=by rw [f8,ev ag ag]
 unfold bj at da
 repeat' (first|(with_reducible first|apply af.seq|apply b0|apply af.ret)|refine cY C ?_|refine af.cH ?_|refine ae.nil ?_|refine cF C ?_|refine ae.skip C C C ?_|(fail_if_success refine ae.same true C ?_);(fail_if_success refine ae.same false C ?_);refine ae.gY C C (fun h=>?_) (fun h=>?_))
 all_goals exact Fin.cE I C (aZ.of_eq rh)
theorem Vk (w:bz) (up:List Nat) (c:Int) (hw:w.ps.length≤60):aV d0 237 [e6 w up,.int .i64 c] (.bool (decide (c≥0)&&decide (c<3+(w.ps.length:Int)))):=by
 have an:=bE;refine aV.bl al Tryz.func237 C C fun s I=>?_
 unfold e6 p8 eX dd bj;have da:ac' .i64 (3+((w.ps.map bj).length:Int))=3+(w.ps.length:Int):=by rw [f8,ev ag ag]
 unfold bj at da
 repeat' (first|(with_reducible first|apply af.seq|apply b0|apply af.ret)|refine cY C ?_|refine af.cH ?_|refine ae.nil ?_|refine cF C ?_|refine ae.skip C C C ?_|(fail_if_success refine ae.same true C ?_);(fail_if_success refine ae.same false C ?_);refine ae.gY C C (fun h=>?_) (fun h=>?_))
 all_goals exact Fin.cE I C (aZ.of_eq rh)
theorem Vl (w:bz) (up:List Nat) (c:Int):aV d0 263 [e6 w up,.int .i64 c] (.bool (decide (c≥0)&&decide (c<(w.owner.length:Int)))):=by
 have an:=bE;refine aV.bl al Tryz.func263 C C fun s I=>?_
 unfold e6 p8 eX dd bj
 repeat' (first|(with_reducible first|apply af.seq|apply b0|apply af.ret)|refine cY C ?_|refine af.cH ?_|refine ae.nil ?_|refine cF C ?_|refine ae.skip C C C ?_|(fail_if_success refine ae.same true C ?_);(fail_if_success refine ae.same false C ?_);refine ae.gY C C (fun h=>?_) (fun h=>?_))
 all_goals exact Fin.cE I C (aZ.of_eq rh)
theorem Vm (w:bz) (up:List Nat) (c:Int):ej d0 (.func 263 [e6 w up] []) [bg c] (.bool (decide (c≥0)&&decide (c<(w.owner.length:Int)))):=
 ej.fm (first:=[e6 w up]) (cap:=[]) (Vl w up c)
theorem Vn (w:bz) (up:List Nat) (c:Int) (hw:w.ps.length≤60):ej d0 (.func 199 [e6 w up] []) [bg c] (.bool (decide (c≥3)&&decide (c<3+(w.ps.length:Int)))):=
 ej.fm (first:=[e6 w up]) (cap:=[]) (Mn w up c hw)
theorem Vo (w:bz) (up:List Nat) (l:List Int) (aC:l.length<bx):aV d0 236 [e6 w up,bj l] (.bool (decide (l.length≤2)&&l.all fun c=>decide (c≥0)&&decide (c<(w.owner.length:Int)))):=by
 have an:=bE;refine aV.bl al Tryz.func236 C C fun s I=>?_
 have aa:=Mj 263 [e6 w up] [] _ l aC (fun x _=>Vm w up x);unfold bj;unfold e6 at aa ⊢
 repeat' (first|(with_reducible first|apply af.seq|apply b0|apply af.ret)|refine cY C ?_|refine af.cH ?_|refine ae.nil ?_|refine cF C ?_|refine ae.skip C C C ?_|refine ae.dL C C C C C cp ?_|(fail_if_success refine ae.same true C ?_);(fail_if_success refine ae.same false C ?_);refine ae.gY C C (fun h=>?_) (fun h=>?_))
 all_goals exact Fin.cE I C (aZ.of_eq rh)
theorem Vp (b:Bool):aV d0 261 [.bool b] (.int .i64 (if b then 0 else 2)):=by
 have an:=bE;refine aV.bl al Tryz.func261 C C fun s I=>?_
 repeat' (first|(with_reducible first|apply af.seq|apply b0|apply fU|apply af.ret|apply af.skip)|refine cY C ?_|refine af.cond C (fun h=>?_) (fun h=>?_))
 all_goals exact Fin.cE I C (aZ.of_eq rh)
theorem A1 {w:bz} {up:List Nat} {c m:Nat} (h:up[c]? = some m):(p8 w up)[2+c]? = some (.int .u64 (m:Int)):=by
 unfold p8 eX;rw [List.getElem?_append_right bc];simp [h]
theorem Mo (w:bz) (up:List Nat) (c bt m o:Nat) (aD:c<63) (hm:up[c]? = some m) (hV:m<2^64) (au:w.owner[bt]? = some (o:Int)) (ai:o<64):aV d0 209 [e6 w up,.int .i64 (c:Int),.int .i64 (bt:Int)] (.bool (m.testBit o)):=by
 have an:=bE;refine aV.bl al Tryz.func209 C C fun s I=>?_
 have aa:=yK m o hV ai;have ad:(w.owner.map bg)[bt]? = some (.int .i64 (o:Int)):=by simp [au,bg]
 have aj:=A1 (w:=w) hm;unfold e6;unfold p8 eX bj at aj ⊢;refine cl ?_;refine aL.l7 al c C C C C C C C C C C aD ?_;refine aL.AO al C C C C C C C (by simpa using aj) ?_;refine c5 ?_;exact br I
theorem Hf (c:Nat) (aD:c<64):aV d0 197 [.int .u64 1,.int .i64 (c:Int)] (.int .u64 ((1|||2^c:Nat):Int)):=A0 1 c dV aD
def n0 (w:bz) (u:List Nat):List ah:=p8 w (pad u)
theorem Mp {w:bz} {u:List Nat} (h:u.length<63) (v:Nat):eV (2+u.length*1) [.int .u64 (v:Int)] (n0 w u)=n0 w (u++[v]):=by
 rw [si];unfold n0 p8;rw [List.set_append_right _ _ (by simp [eX]),← U3 h v,List.map_set];congr 2;simp [eX]
theorem Mq {w:bz} {u:List Nat} (h:u.length≤63):(n0 w u).length=65:=by
 unfold n0 p8;rw [f9,f8,U2 h];rfl
theorem Vq {w:bz} {u:List Nat} {c m:Nat} (h:u[c]? = some m):(n0 w u)[2+c*1]? = some (.int .u64 (m:Int)):=by
 rw [Nat.mul_one];exact A1 (yG h)
theorem Vr (j:Nat) (aI:j<3):[1,3,5].take (j+1)=[1,3,5].take j++[1|||2^j]:=by
 rcases j with _|_|_|j
 ·rfl
 ·rfl
 ·rfl
 ·omega
theorem Vs (w:bz) (hw:fw w):aV d0 165 [eI w] (.cr [e6 w (pad (dM w.ps)),.bool true]):=by
 have an:=bE;have pt:=hw.ji;have gd:=hw.bm;refine aV.bl al Tryz.func165 C C fun s I=>?_
 unfold eI eX dd bj;refine dS ?_;refine ae.dh 15 C cL ?_;refine gj ?_;refine af.cond C (fun h=>?_) (fun _=>?_)
 ·simp at h;omega
 refine af.skip ?_
 repeat (first|(refine Ao ?_)|refine ae.jJ I C C C C C C (fun b I=>?_)|(refine Ap ?_))
 refine af.ck [1,4] C I (σ:=Nat) (fun j=>[(24,.int .i64 (j:Int))]) (fun j=>[(.own b,.box 234 (n0 w ([1,3,5].take j)))]) (fun j=>j≤3) (fun j=>3-j) 0 (g9 _) (cK C) ba ?_;rintro j aI I;refine cf ?_;refine af.cond C (fun az=>?_) (fun a7=>?_)
 ·have az:j<3:=by have:=aj1 az;omega
  have aa:=Hf j ag;have e:eV (2+j*1) [.int .u64 ((1|||2^j:Nat):Int)] (n0 w ([1,3,5].take j))=n0 w ([1,3,5].take (j+1)):=by
   have aC:([1,3,5].take j).length=j:=by simp;omega
   have:=Mp (w:=w) (u:=[1,3,5].take j) ag (1|||2^j);rw [aC] at this;rw [this,Vr j az]
  have hlen:(n0 w ([1,3,5].take j)).length=65:=Mq cL;refine cl ?_;refine aL.arr al j C C C C C C C C C C ag ?_;refine aL.mK al I _ C C C C C C C C C C a' (by rw [hlen];show 2+j*1+1≤65;omega) e (fun I=>?_);refine fV ?_;exact bD.mk (j+1) I az cA ba (by show 3-(j+1)<3-j;omega)
 have a7:j=3:=by have:=of_decide_eq_false a7;omega
 subst a7;refine bK ?_;refine af.ck [1,4,36,37] C I (σ:=Nat) (fun j=>[(38,.int .i64 (j:Int))]) (fun j=>[(.own b,.box 234 (n0 w (dM (w.ps.take j))))]) (fun j=>j≤w.ps.length) (fun j=>w.ps.length-j) 0 (g9 _) (cK C) ba ?_;rintro j aI I;refine cf ?_;refine af.cond C (fun az=>?_) (fun a7=>?_);rotate_left
 ·have a7:j=w.ps.length:=by simp at a7;omega
  subst a7;rw [af1] at I ⊢;have kn:w.owner.all (fun c=>decide (c≥3)&&decide (c<3+(w.ps.length:Int)))=true:=by
   rw [af5];intro o ai;have:=hw.own o ai;simp;omega
  have p9:=Mj 199 [e6 w (pad (dM w.ps))] [] _ w.owner ag (fun x _=>Vn w (pad (dM w.ps)) x pt);rw [kn] at p9;refine af.mE I 4 b C a' (fun I=>?_);unfold e6 at p9 ⊢;refine c5 ?_;exact br I
 have az:j<w.ps.length:=by simpa using az
 obtain ⟨l,ax,dc⟩:=b7 (f:=bj) az;have j2:=DD hw.mL ax;have aa:=Hf (3+j) ag;have kE:(dM (w.ps.take j)).length=3+j:=by rw [tO,ae9];omega
 have Hg:∀ m∈dM (w.ps.take j),m<2^64:=yF vP;have ic:ac' .i64 (3+(j:Int))=((3+j:Nat):Int):=by rw [ev ag ag];omega
 have q3:l.length<100:=by have:=hw.short l (d6 ax);omega
 generalize p':dM (w.ps.take j)=U at I kE Hg;unfold bj at dc;have aa:aV d0 197 [.int .u64 1,.int .i64 (ac' .i64 (3+(j:Int)))] (.int .u64 ((1|||2^(3+j):Nat):Int)):=by rw [ic];exact aa
 refine cl ?_;refine af.ck [1,4,36,37,38,6,7,46,47] C I (σ:=Nat) (fun k=>[(48,.int .i64 (k:Int)),(8,.int .u64 (((l.take k).foldl (fun s p=>s|||U.getD p.toNat 0) (1|||2^(3+j)):Nat):Int))]) (fun k=>[(.own b,.box 234 (n0 w U))]) (fun k=>k≤l.length) (fun k=>l.length-k) 0 (g9 _) (cK C) ba ?_;rintro k aA I;refine cf ?_;refine af.cond C (fun cT=>?_) (fun ef=>?_);rotate_left
 ·have ef:k=l.length:=by simp at ef;omega
  subst ef;rw [af1] at ⊢;have e:eV (2+(3+j)*1) [.int .u64 ((sl U l:Nat):Int)] (n0 w U)=n0 w (dM (w.ps.take (j+1))):=by
   rw [jy ax,L5,p',← kE];exact Mp ag _
  have hlen:(n0 w U).length=65:=Mq ag;unfold sl at e;rw [kE] at e;refine bK ?_;refine ae.arr al (3+j) C C C C C C C C C ic ag ?_;refine ae.mK al I _ C C C C C C C C C a' (by rw [hlen];show 2+(3+j)*1+1≤65;omega) e (fun I=>?_);refine hC ?_;exact bD.mk (j+1) I az cA ba (by show w.ps.length-(j+1)<w.ps.length-j;omega)
 have cT:k<l.length:=by simpa using cT
 obtain ⟨p,aD,nj⟩:=b7 (f:=bg) cT;obtain ⟨g1,g2,g3⟩:=DE j2 aD;obtain ⟨q,rfl⟩:∃ q:Nat,p=q:=⟨p.toNat,by omega⟩;have ie:=yw (l.take k) q (by have:=List.length_take_le' k l;omega);have u':(l.take k).contains (q:Int)=false:=by simpa using g3
 rw [u'] at ie;unfold bj at ie;rw [List.map_take] at ie;unfold bg at nj ie;obtain ⟨m,hm⟩:∃ m,U[q]? = some m:=⟨U[q]' ag,d8 _⟩;refine eh ?_;refine ae.dh 55 C (i8 ag) ?_;refine er ?_;refine ae.dh 61 C (by rw [ic];exact i8 ag) ?_;refine er ?_;refine ae.slice al 0 k C C C C C C C C (.inr C) (.inl ⟨rfl,rfl⟩) (.inr ⟨_,_,rfl,rfl⟩) (.inl ⟨rfl,rfl⟩) (g9 _) (by simpa using aA) ?_;rw [an2];refine c5 ?_;refine ae.arr al q C C C C C C C C C C ag ?_;refine ae.lF al I C C C C C C a' C (Vq hm) ?_;refine ae.bits (((l.take k).foldl (fun s p=>s|||U.getD p.toNat 0) (1|||2^(3+j))|||m:Nat):Int) C C C C C C (wS (G3 Hg _ _ (G2 dV (ai6 ag ag))) (Hg m (d6 hm))) ?_;refine hC ?_;refine bD.mk (k+1) I cT (by repeat (first|exact trivial|refine ⟨⟨_,rfl,aT⟩,?_⟩|refine ⟨⟨_,rfl,aZ.of_eq (by (first|rw [kF ag]|(rw [jy aD,as1];simp [hm])))⟩,?_⟩)) ba (by show l.length-(k+1)<l.length-k;omega)
theorem Vt (fv:ah) (K aQ:bb) (q:Bool) (x:av) (h:ds d0 fv [x.cj] K (fun o K=>o = .ret (.bool q)∧K=aQ)):ds d0 (.func 234 [] [.bA [fv] 0]) [x.cj] K (fun o K=>o = .ret (.bool (!q))∧K=aQ):=by
 refine ds.fm (first:=[]) (cap:=[.bA [fv] 0]) ?_;refine bI.bl al Tryz.func234 C C fun s I=>?_
 rw [av.cG] at h ⊢;refine dS ?_;refine ae.gM rfl rfl rfl rfl rfl rfl h I (aJ.all _) ?_ (fun _ _ ⟨h,_⟩ _=>by cases h);rintro _ _ ⟨⟨⟩,rfl⟩ I;rw [d9] at I ⊢;refine ep ?_;exact Fin.bC I C aT (aJ.all _) ⟨rfl,rfl⟩
theorem Vu (f:FuncId) (iv hA:List ah) (xs:List av) (T:Nat→bb) (cq:Nat→Bool) (aC:xs.length<bx) (h:∀ j x,xs[j]? = some x→(∀ i,i<j→cq i=true)→ds d0 (.func f iv hA) [x.cj] (T j) (fun o K=>o = .ret (.bool (cq j))∧K=T (j+1))) :
  bI d0 200 [.aG 6 (xs.map av.cj) .bd,.func f iv hA] (T 0)
   (fun o K=>(o = .ret (.bool true)∧K=T xs.length∧∀ i,i<xs.length→cq i=true)∨∃ j,j<xs.length∧cq j=false∧(∀ i,i<j→cq i=true)∧o = .ret (.bool false)∧K=T (j+1)):=by
 refine bI.bl al Tryz.func200 C C fun s I=>?_
 have aD:=GN (.func 234 [] [.bA [.func f iv hA] 0]) xs T (fun j => !cq j) aC (fun j x ab aS=>Vt (.func f iv hA) (T j) (T (j+1)) (cq j) x (h j x ab (fun i eJ=>by simpa using aS i eJ)));refine dS ?_;refine ae.b4 rfl rfl rfl rfl rfl aD I (aJ.all _) ?_ (fun _ _ h _=>by rcases h with ⟨h,_⟩|⟨_,_,_,_,h,_⟩<;>cases h);rintro _ _ (⟨⟨⟩,rfl,aa⟩|⟨j,aa,ad,aj,⟨⟩,rfl⟩) I
 all_goals rw [d9] at I ⊢
 ·refine ep ?_
  exact Fin.bC I C aT (aJ.all _) (.inl ⟨rfl,rfl,fun i aS=>by simpa using aa i aS⟩)
 ·refine ep ?_
  exact Fin.bC I C aT (aJ.all _) (.inr ⟨j,aa,by simpa using ad,fun i aS=>by simpa using aj i aS,rfl,rfl⟩)
def ma (kJ:Nat) (k:Int):bb:=[(.own kJ,.box 3 [.int .i64 k])]
theorem Vv (w:bz) (d:Nat) (k:Int) (f:av):e2 w d k f=if decide (k-1<0)||decide (d=0) then (false,k-1) else if hM w f then ha w (d-1) (k-1) f.kids else (false,k-1):=by
 cases f;rw [e2];rfl
def k8 (w:bz) (d:Nat) (k:Int) (ks:List av):Nat→Int
  | 0=>k
  | j+1=>match ks[j]? with
    | some x=>(e2 w d (k8 w d k ks j) x).2
    | none=>k8 w d k ks j
theorem w4 (w:bz) (d:Nat) (k:Int) (x:av) (r:List av):∀ j,k8 w d k (x::r) (j+1)=k8 w d (e2 w d k x).2 r j
  | 0=>by simp [k8]
  | j+1=>by
    rw [k8,w4 w d k x r j,List.getElem?_cons_succ];rfl
theorem Mr (w:bz) (d:Nat):∀ (ks:List av) (k:Int),
    (∀ j x,ks[j]? = some x→(e2 w d (k8 w d k ks j) x).1=true)→ha w d k ks=(true,k8 w d k ks ks.length)
  | [],_,_=>by rw [ha];rfl
  | x::r,k,h=>by
    have bo:(e2 w d k x).1=true:=h 0 x C;rw [ha,f7 bo,Mr w d r _ (fun j y aI=>by rw [← w4];exact h (j+1) y (by simpa using aI)),i5,w4]
theorem Ms (w:bz) (d:Nat):∀ (ks:List av) (k:Int) (j:Nat) (x:av),ks[j]? = some x→(∀ (i:Nat) y,i<j→ks[i]? = some y→(e2 w d (k8 w d k ks i) y).1=true)→(e2 w d (k8 w d k ks j) x).1=false →
    ha w d k ks=(false,k8 w d k ks (j+1))
  | [],_,_,_,h,_,_=>by simp at h
  | y::r,k,0,x,h,_,ab=>by
    obtain rfl:y=x:=by simpa using h
    have ch:(e2 w d k y).1=false:=ab;rw [ha,d7 (by rw [ch];simp),w4];rfl
  | y::r,k,j+1,x,h,aS,ab=>by
    have bo:(e2 w d k y).1=true:=aS 0 y (Nat.succ_pos _) C;rw [ha,f7 bo,w4];rw [w4] at ab;exact Ms w d r _ j x hx (fun i z eJ bG=>by rw [← w4];exact aS (i+1) z ag (by simpa using bG)) ab
mutual
theorem Mt:∀ (x:av) (w:bz) (d:Nat) (k:Int),(e2 w d k x).1=true→0≤(e2 w d k x).2∧(e2 w d k x).2≤k
  | .mk o a p c n ks,w,d,k,h=>by
    rw [e2] at h ⊢;split at h
    · cases h
    · rename_i aD
      rw [d7 aD];simp only [Bool.or_eq_true,g6,not_or] at aD;split at h
      · rename_i aB
        rw [f7 aB];have:=Mu ks w (d-1) (k-1) h ag;omega
      · cases h
theorem Mu:∀ (ks:List av) (w:bz) (d:Nat) (k:Int),(ha w d k ks).1=true→0≤k→0≤(ha w d k ks).2∧(ha w d k ks).2≤k
  | [],w,d,k,_,bo=>by rw [ha];exact ⟨bo,al1 _⟩
  | x::r,w,d,k,h,bo=>by
    rw [ha] at h ⊢;split at h
    · rename_i ab
      rw [f7 ab];have aa:=Mt x w d k ab;have ad:=Mu r w d _ h aa.1;omega
    · cases h
end
theorem Mv {w:bz} {d:Nat} {ks:List av} {k:Int} (bo:0≤k):∀ (j:Nat),(∀ (i:Nat) y,i<j→ks[i]? = some y→(e2 w d (k8 w d k ks i) y).1=true)→0≤k8 w d k ks j∧k8 w d k ks j≤k
  | 0,_=>⟨bo,al1 _⟩
  | j+1,h=>by
    have aa:=Mv bo j fun i y aS ax=>h i y ag ax
    rw [k8];cases ab:ks[j]? with
    | none=>exact aa
    | some x=>
      have ad:=Mt x w d _ (h j x (Nat.lt_succ_self _) ab);simp only;omega
theorem Vw (w:bz) (up:List Nat) (kJ:Nat) (y:av) (d:Nat) (k:Int) (ay:d≤12) (nE:0<d)
  (h:bI d0 202 [e6 w up,y.cj,.ptr kJ 0,.int .i64 ((d-1:Nat):Int)] (ma kJ k) (fun o K=>o = .ret (.bool (e2 w (d-1) k y).1)∧K=ma kJ (e2 w (d-1) k y).2)) :
  ds d0 (.func 238 [] [.bA [e6 w up] 0,.bA [.ptr kJ 0] 0,.bA [.int .i64 (d:Int)] 0]) [y.cj] (ma kJ k) (fun o K=>o = .ret (.bool (e2 w (d-1) k y).1)∧K=ma kJ (e2 w (d-1) k y).2):=by
 refine ds.fm (first:=[]) (cap:=[.bA [e6 w up] 0,.bA [.ptr kJ 0] 0,.bA [.int .i64 (d:Int)] 0]) ?_;refine bI.bl al Tryz.func238 C C fun s I=>?_
 have hw:ac' .i64 ((d:Int)-1)=((d-1:Nat):Int):=by rw [ev ag ag];omega
 rw [av.cG] at h ⊢;rw [← hw] at h;unfold e6 at h ⊢;refine dS ?_;refine ae.b4 rfl rfl rfl rfl rfl h I (aJ.all _) ?_ (fun _ _ ⟨h,_⟩ _=>by cases h);rintro _ _ ⟨⟨⟩,rfl⟩ I;rw [d9] at I ⊢;refine ep ?_;exact Fin.bC I C aT (aJ.all _) ⟨rfl,rfl⟩
theorem Vx (w:bz) (up:List Nat) (hw:w.ps.length≤60) (kJ:Nat):∀ (n:Nat) (f:av) (d:Nat) (k:Int),f.size≤n→n<bx→d≤12→0≤k→k≤bx →
    bI d0 202 [e6 w up,f.cj,.ptr kJ 0,.int .i64 (d:Int)] (ma kJ k) (fun o K=>o = .ret (.bool (e2 w d k f).1)∧K=ma kJ (e2 w d k f).2):=by
  have an:=bE;intro n
  induction n with
  | zero=>intro x d k h;have:=x.size_eq;omega
  | succ n aW=>
    intro f d k aB jc ay ky hQ;have qa:ac' .i64 (k-1)=k-1:=ev ag ag;refine bI.bl al Tryz.func202 C C fun s I=>?_
    have iu:=f.size_eq;have aD:=Vv w d k f;have aa:=Vh f.op;have ad:=He f;have aj:=Vo w up f.path ag;have a8:=Vk w up f.cls hw;rw [av.cG] at ad ⊢;unfold e6 bj at aj;unfold e6 at a8 ⊢;unfold ma at I ⊢;refine hq I ?_;intro I;rw [qa] at I ⊢
    repeat' (first|(with_reducible first|apply af.seq|apply b0|apply fU|apply fp|apply gZ|apply af.ret|apply af.skip|apply af.block)|refine cY C ?_|refine af.cH ?_|refine ae.nil ?_|refine af.fx C ?_|refine cF C ?_|refine ae.skip C C C ?_|refine aL.nil ?_|refine aL.step C ?_|refine ae.dL C C C C C cp ?_|refine aL.dL C C C C C cp ?_|(fail_if_success refine ae.same true C ?_);(fail_if_success refine ae.same false C ?_);refine ae.gY C C (fun h=>?_) (fun h=>?_)|(fail_if_success refine aL.same true C ?_);(fail_if_success refine aL.same false C ?_);refine aL.gY C C (fun h=>?_) (fun h=>?_)|refine af.cond C (fun h=>?_) (fun h=>?_))
    all_goals first
      | (have key:e2 w d k f=(false,k-1):=by
          clear aW I aa ad aj a8 aB iu qa
          rw [aD]
          simp only [hM,j3,av.cU] at *
          grind
         exact Fin.bC (K:=ma kJ (k-1)) I C aT (by simp only [ma];exact ba) ⟨by rw [key],by rw [key];rfl⟩)
      | (have np:f.kids=[]:=by
          clear aW I aa ad aj a8 aB iu qa aD
          refine ai9 ?_
          simp only [hM,j3,av.cU,q6,f8] at *
          grind
         have key:e2 w d k f=(hM w f,k-1):=by
          clear aW I aa ad aj a8 aB iu qa
          rw [aD,np,ha]
          grind
         refine Fin.bC (K:=ma kJ (k-1)) I C (aZ.of_eq (ae6 ah.bool ?_)) (by simp only [ma];exact ba) ⟨by rw [key],by rw [key];rfl⟩
         clear aW I aa ad aj a8 aB iu qa aD key
         simp only [hM,j3,av.cU,q6,f8] at *
         grind)
      | skip
    have Vy:hM w f=true:=by
      clear aW I aa ad aj a8 aB iu qa aD;simp only [hM,j3,av.cU,f8] at *;simp at *;grind
    have nE:0<d:=by
      rcases Nat.eq_zero_or_pos d with rfl|h
      · simp_all
      · exact h
    have w5:¬ k-1<0:=by
      clear aW I aa ad aj a8;grind
    have key:e2 w d k f=ha w (d-1) (k-1) f.kids:=by
      rw [aD,d7 cL,f7 Vy]
    have hlen:=av.q5 f.kids
    have np:=Vu 238 [] [.bA [e6 w up] 0,.bA [.ptr kJ 0] 0,.bA [.int .i64 (d:Int)] 0] f.kids (fun j=>ma kJ (k8 w (d-1) (k-1) f.kids j)) (fun j=>match f.kids[j]? with|some x=>(e2 w (d-1) (k8 w (d-1) (k-1) f.kids j) x).1|none=>true) ag (fun j x ab aS=>by
      have sr:=Mv (w:=w) (d:=d-1) (ks:=f.kids) (k:=k-1) ag j (fun i y eJ ax=>by have:=aS i eJ;simp only [ax] at this;simpa using this)
      have hm:=av.h5 (d6 ab)
      have:=Vw w up kJ x d (k8 w (d-1) (k-1) f.kids j) ay nE (aW x (d-1) _ ag ag ag sr.1 ag)
      simp only [k8,ab]
      exact this)
    unfold e6 at np;skip;refine ae.b4 C C C C C np I (by simp only [ma,k8];exact ba) ?_ (fun _ _ h _=>by rcases h with ⟨h,_⟩|⟨_,_,_,_,h,_⟩<;>cases h);rintro _ _ (⟨⟨⟩,rfl,g1⟩|⟨j,g1,g2,g3,⟨⟩,rfl⟩) I
    · have:=Mr w (d-1) f.kids (k-1) (fun j x ab=>by have:=g1 j (List.getElem?_eq_some_iff.1 ab).1;simp only [ab] at this;simpa using this)
      rw [key,this];refine ep ?_;exact Fin.bC (K:=ma kJ _) I C aT (by simp only [ma,ab',f0];exact ba) ⟨rfl,rfl⟩
    · obtain ⟨x,ab,-⟩:=b7 (f:=av.cj) g1
      simp only [ab] at g2;have:=Ms w (d-1) f.kids (k-1) j x ab (fun i y eJ ax=>by have:=g3 i eJ;simp only [ax] at this;simpa using this) (by simpa using g2);rw [key,this];refine ep ?_;exact Fin.bC (K:=ma kJ _) I C aT (by simp only [ma,ab',f0];exact ba) ⟨rfl,rfl⟩
abbrev A2 (w:bz):List Nat:=pad (dM w.ps)
abbrev gl (w:bz):ah:=e6 w (A2 w)
theorem Vz (w:bz) (hw:w.ps.length≤60) (f:av) (aX:f.size<bx):ej d0 (.func 201 [] [.bA [gl w] 0]) [f.cj] (.bool (ig w f)):=by
 have an:=bE;refine ej.fm (first:=[]) (cap:=[.bA [gl w] 0]) ?_;refine aV.bl al Tryz.func201 C C fun s I=>?_
 rw [av.cG];unfold gl e6
 repeat (first|(refine TJ I ?_;clear I;intro I)|refine ae.dZ al I rfl rfl rfl rfl rfl rfl rfl (fun cB I=>?_))
 have aB:=Vx w (A2 w) hw cB f.size f 12 24 (g7 _) aX ag ag ag;rw [av.cG] at aB;unfold e6 at aB;refine ae.b4 C C C C C aB I (by simp only [ma];exact ba) ?_ (fun _ _ ⟨h,_⟩ _=>by cases h);rintro _ _ ⟨⟨⟩,rfl⟩ I;rw [d9] at I ⊢;refine ae.mF I [] ba fun I=>?_
 refine ep ?_;exact br I
theorem VA (w:bz) (hw:w.ps.length≤60) (l:List av) (aC:l.length<bx) (aX:∀ f∈l,f.size<bx):aV d0 166 [gl w,.aG 6 (l.map av.cj) .bd] (.bool (l.all (ig w))):=by
 have an:=bE;refine aV.bl al Tryz.func166 C C fun s I=>?_
 have aa:=U' 201 [] [.bA [gl w] 0] (ig w) l aC (fun x ab=>Vz w hw x (aX x ab));unfold gl e6 at *;refine cl ?_;exact br I
theorem Hh (w:bz) (hw:fw w) (l:List av) (aC:l.length<bx) (aX:∀ f∈l,f.size<bx):aV d0 122 [eI w,.aG 6 (l.map av.cj) .bd] (.cr [gl w,.bool (l.all (ig w))]):=by
 have an:=bE;refine aV.bl al Tryz.func122 C C fun s I=>?_
 have aa:=Vs w hw;have ad:=VA w hw.ji l aC aX;unfold eI eX dd bj at *;unfold gl e6 at *;refine cl ?_;exact br I
theorem VB (w:bz) (hw:fw w) (f:av) (aX:f.size<bx):aV d0 229 [eI w,f.cj] (.int .i64 (if ig w f then 0 else 2)):=by
 have an:=bE;refine aV.bl al Tryz.func229 C C fun s I=>?_
 have aa:=Hh w hw [f] cL (by intro g aq;rw [t6] at aq;subst aq;exact aX);have ad:=Vp (ig w f);rw [ae0,ag7,av.cG] at aa;rw [al8,ap2,aq6] at aa;rw [av.cG];unfold eI eX dd bj at *;refine cl ?_;exact br I
theorem Mw (v:Int×Int) (n:Int):aV d0 170 [eK v,.int .i64 n] (.bool (ff n v)):=by
 have an:=bE;refine aV.bl al Tryz.func170 C C fun s I=>?_
 unfold eK
 repeat' (first|(with_reducible first|apply af.seq|apply b0|apply fU|apply fp|apply gZ|apply af.ret|apply af.skip|apply af.block)|refine cY C ?_|refine af.cH ?_|refine ae.nil ?_|refine cF C ?_|refine ae.skip C C C ?_|(fail_if_success refine ae.same true C ?_);(fail_if_success refine ae.same false C ?_);refine ae.gY C C (fun h=>?_) (fun h=>?_)|refine af.cond C (fun h=>?_) (fun h=>?_))
 all_goals (refine Fin.cE I C (aZ.of_eq (ae6 ah.bool ?_));clear I;simp only [ff,j3];grind)
theorem Mx (w:bz) (m:Nat) {j:Nat} (o:Int) (h:w.owner[j]? = some o):((ah8 (j+1)).filter fun s=>m.testBit (w.owner.getD s 0).toNat).map (fun (s:Nat)=>(s:Int))=(((ah8 j).filter fun s=>m.testBit (w.owner.getD s 0).toNat).map fun (s:Nat)=>(s:Int))++(if m.testBit o.toNat then [(j:Int)] else []):=by
 rw [List.range_succ,List.filter_append,ae1];congr 1;have:w.owner.getD j 0=o:=by rw [d5,h];rfl
 rw [List.filter_cons,List.filter_nil,this];cases hm:m.testBit o.toNat<;>rfl
theorem My (w:bz) (hw:fw w) (c:Nat) (aD:c<3+w.ps.length):aV d0 205 [gl w,.int .i64 (c:Int)] (bj (kI w ((dM w.ps).getD c 0))):=by
 have an:=bE;refine aV.bl al Tryz.func205 C C fun s I=>?_
 have pt:=hw.ji;have gd:=hw.bm;have kE:=tO w.ps;obtain ⟨m,hm⟩:∃ m,(dM w.ps)[c]? = some m:=⟨_,d8 ag⟩;have nq:(dM w.ps).getD c 0=m:=by rw [d5,hm];rfl
 have hV:=yF pt m (d6 hm);rw [nq];obtain ⟨xs,d'⟩:∃ xs:Nat→List ah,∀ j,xs j=(((ah8 j).filter fun s=>m.testBit (w.owner.getD s 0).toNat).map fun (s:Nat)=>(s:Int)).map bg:=⟨_,fun _=>rfl⟩;have bo:xs 0=[]:=by rw [d'];rfl
 have hH:∀ j,(xs j).length≤j:=fun j=>by
  rw [d',f8,f8];exact an0 (aj8 _ _) bc
 unfold gl e6;have va:=fun s o (au:w.owner[s]? = some ((o:Nat):Int)) ai=>Mo w (A2 w) c s m o ag (yG hm) hV au ai
 unfold e6 at va;unfold p8 eX bj at *;refine hp ?_;refine af.jw I 3 1 0 fun I=>?_
 refine af.ck [0,1,12] C I (σ:=Nat×bV) (fun q=>[(13,.int .i64 (q.1:Int)),(5,.aG 1 (xs q.1) q.2)]) (fun q=>[(q.2,.row 3 1 (xs q.1).length)]) (fun q=>q.1≤w.owner.length) (fun q=>w.owner.length-q.1) (0,.nil) (g9 _) ⟨⟨_,rfl,aT⟩,⟨_,rfl,by rw [bo];exact aZ.nil h4⟩,trivial⟩ (by rw [bo];exact aJ.eb _) ?_;rintro ⟨j,own⟩ aI I;simp only at aI I ⊢;refine cf ?_;refine af.cond C (fun az=>?_) (fun a7=>?_);rotate_left;have a7:j=w.owner.length:=by
  have:w.owner.length≤j:=by simpa using a7
  omega
 ·subst a7
  have he:xs w.owner.length=(kI w m).map bg:=by rw [d'];rfl
  rw [he];refine ew ?_;exact Fin.cE I C aZ.bd
 have az:j<w.owner.length:=by simpa using az
 obtain ⟨o,ai⟩:∃ o,w.owner[j]? = some o:=⟨_,d8 az⟩;obtain ⟨g1,g2⟩:=hw.own o (d6 ai);obtain ⟨q,rfl⟩:∃ q:Nat,o=q:=⟨o.toNat,by omega⟩;have au:=d' (j+1);rw [Mx w m _ ai,ae1,← d'] at au;have lV:=hH j;have aa:=va j q ai ag;refine cl ?_;refine af.cond C (fun ar=>?_) (fun ar=>?_)
 ·have au:xs (j+1)=xs j++[.int .i64 (j:Int)]:=by rw [au];simp [ar,bg]
  have db:(xs (j+1)).length=(xs j).length+1:=by rw [au];simp
  refine kG ?_;refine ae.ho al I C C C C C C C eH C C C C C C C C a' ir lC ag (fun bT I=>?_);refine hC ?_;refine bD.mk (j+1,.own bT) I az ow (by show aJ _ [(_,.row _ _ (xs (j+1)).length)] _;rw [db];exact aJ.eb _) DH
 ·have au:xs (j+1)=xs j:=by rw [au];simp [ar]
  refine fV ?_;refine bD.mk (j+1,own) I az ow (by show aJ _ [(_,.row _ _ (xs (j+1)).length)] _;rw [au];exact aJ.eb _) DH
abbrev fM (aP:List c3):ah := .aG 2 (aP.map hs) .bd
abbrev iX (l:List (Int×Int)):ah := .aG 2 (l.map eK) .bd
theorem VC (aP:List c3) (v:Int×Int):ej d0 (.func 206 [] [.bA [fM aP] 0]) [eK v] (.bool (ff aP.length v)):=by
 have an:=bE;refine ej.fm (first:=[]) (cap:=[.bA [fM aP] 0]) ?_;refine aV.bl al Tryz.func206 C C fun s I=>?_
 have h:=Mw v (aP.map hs).length;rw [show ff ((aP.map hs).length:Int) v=ff aP.length v by rw [f8]] at h;unfold eK at *;refine cl ?_;exact br I
theorem VD (aP:List c3) (v:Int×Int):ej d0 (.func 169 [] [.bA [fM aP] 0]) [eK v] (.bool (ff aP.length v)):=by
 have an:=bE;refine ej.fm (first:=[]) (cap:=[.bA [fM aP] 0]) ?_;refine aV.bl al Tryz.func169 C C fun s I=>?_
 have h:=Mw v (aP.map hs).length;rw [show ff ((aP.map hs).length:Int) v=ff aP.length v by rw [f8]] at h;unfold eK at *;refine cl ?_;exact br I
theorem VE (w:bz) (hw:fw w) (aP:List c3) (o:c3) (ai:o.bm.length<bx):ej d0 (.func 204 [] [.bA [gl w] 0,.bA [fM aP] 0]) [hs o] (.bool (tP w aP.length o)):=by
 have an:=bE;refine ej.fm (first:=[]) (cap:=[.bA [gl w] 0,.bA [fM aP] 0]) ?_;refine aV.bl al Tryz.func204 C C fun s I=>?_
 obtain ⟨cls,bm⟩:=o;have pt:=hw.ji;have aa:aV d0 199 [gl w,.int .i64 cls] (.bool (sn w cls)):=Mn w (A2 w) cls hw.ji;have aj:=Mk 206 [] [.bA [fM aP] 0] (ff aP.length) bm ai (fun v _=>VC aP v);have hm:tP w aP.length ⟨cls,bm⟩=(sn w cls&&(decide (bm.length=(kI w ((dM w.ps).getD cls.toNat 0)).length)&&bm.all (ff aP.length))):=rfl;rw [hm];unfold hs;cases aD:sn w cls with
 | false=>
  rw [aD] at aa;unfold gl e6 at *;refine cl ?_;exact br I
 | true=>
  rw [aD] at aa;unfold sn at aD;simp only [f4,g6] at aD;obtain ⟨c,rfl⟩:∃ c:Nat,cls=c:=⟨cls.toNat,by omega⟩;have ad:=My w hw c ag;unfold bj at ad;unfold gl e6 at *
  repeat' (first|(with_reducible first|apply af.seq|apply b0|apply af.ret)|refine cY C ?_|refine aL.nil ?_|refine aL.step C ?_|refine af.l4 al mixed C ?_|refine aL.dL C C C C C cp ?_|(fail_if_success refine aL.same true C ?_);(fail_if_success refine aL.same false C ?_);refine aL.gY C C (fun h=>?_) (fun h=>?_))
  all_goals (refine Fin.cE I C (aZ.of_eq (ae6 ah.bool ?_));clear I aa ad aj;rw [show ((c:Nat):Int).toNat=c from i9 c];simp only [f8] at *;grind)
theorem VF (w:bz) (hw:fw w) (aP:List c3) (aC:aP.length<bx) (ai:∀ o∈aP,o.bm.length<bx):aV d0 167 [gl w,fM aP] (.bool (tQ w aP)):=by
 have an:=bE;refine aV.bl al Tryz.func167 C C fun s I=>?_
 have aa:=Vg 204 [] [.bA [gl w] 0,.bA [fM aP] 0] (tP w aP.length) aP aC (fun o h=>VE w hw aP o (ai o h));unfold fM gl e6 at *
 repeat' (first|(with_reducible first|apply af.seq|apply b0|apply af.ret)|refine cY C ?_|refine af.cH ?_|refine ae.nil ?_|refine cF C ?_|refine ae.skip C C C ?_|refine ae.dL C C C C C cp ?_|(fail_if_success refine ae.same true C ?_);(fail_if_success refine ae.same false C ?_);refine ae.gY C C (fun h=>?_) (fun h=>?_))
 all_goals (refine Fin.cE I C (aZ.of_eq (ae6 ah.bool ?_));clear I aa;simp only [tQ,f8] at *;grind)
theorem VG (w:bz) (hw:fw w) (aP:List c3) (args:List (Int×Int)) (aC:aP.length<bx) (ai:∀ o∈aP,o.bm.length<bx) (aO:args.length<bx):aV d0 123 [gl w,fM aP,iX args] (.bool (nU w aP args)):=by
 have an:=bE;refine aV.bl al Tryz.func123 C C fun s I=>?_
 have aa:=VF w hw aP aC ai;have ad:=Mk 169 [] [.bA [fM aP] 0] (ff aP.length) args aO (fun v _=>VD aP v);unfold fM iX gl e6 at *
 repeat' (first|(with_reducible first|apply af.seq|apply b0|apply af.ret)|refine cY C ?_|refine af.cH ?_|refine ae.nil ?_|refine cF C ?_|refine ae.skip C C C ?_|refine ae.dL C C C C C cp ?_|(fail_if_success refine ae.same true C ?_);(fail_if_success refine ae.same false C ?_);refine ae.gY C C (fun h=>?_) (fun h=>?_))
 all_goals (refine Fin.cE I C (aZ.of_eq (ae6 ah.bool ?_));clear I aa ad;simp only [nU,f8] at *;grind)
theorem VH (w:bz):∀ (n:Nat) (f:av),f.size≤n→n<bx→gy w f=true→aV d0 124 [f.cj] (.int .i64 (iV f)):=by
 have an:=bE;intro n
 induction n with
 | zero=>intro x h;have:=x.size_eq;omega
 | succ n aW=>
  intro f aB jc aq;refine aV.bl al Tryz.func124 C C fun s I=>?_
  have iu:=f.size_eq;have hlen:=av.q5 f.kids;have hr:=He f;rw [oC,f4] at aq;rw [av.cG] at hr ⊢;rw [yH];have aO:f.cU=true→ac' .i64 (f.arg+1)=f.arg+1:=fun aC=>by
   have aB:=aq.1;simp only [hM,aC,ag5,f4,g6] at aB;exact ev ag ag
  cases aC:f.cU with
  | true=>
   rw [aC] at hr;refine cl ?_;refine af.ck [12,13] C I (σ:=Nat) (fun j=>[(14,.int .i64 (j:Int)),(3,.int .i64 (hb (if f.cU then f.arg+1 else 0) (f.kids.take j)))]) (fun _=>[]) (fun j=>j≤f.kids.length) (fun j=>f.kids.length-j) 0 (g9 _) (by repeat (first|exact trivial|refine ⟨⟨_,rfl,aT⟩,?_⟩|refine ⟨⟨_,rfl,aZ.of_eq (by (first|rfl|(rw [aC];simp [hb,aO aC])|(rw [aC];simp [hb])))⟩,?_⟩)) ba ?_;rintro j aI I;refine cf ?_;refine af.cond C (fun az=>?_) (fun a7=>?_);rotate_left
   ·have a7:j=f.kids.length:=by simp at a7;omega
    subst a7;rw [af1];refine ew ?_;exact Fin.cE I C (aZ.of_eq (by rw [aC]))
   have az:j<f.kids.length:=by simpa using az
   obtain ⟨k,aA,eF⟩:=b7 (f:=av.cj) az;have hm:=av.h5 (d6 aA);have aD:=aW k ag ag (kl aq.2 (d6 aA));rw [av.cG] at eF aD
   repeat (first|(refine K4 I ?_;clear I;intro I)|refine ae.dZ al I rfl rfl rfl rfl rfl rfl rfl (fun cB I=>?_)|(refine p0 ?_))
   refine bD.mk (j+1) I az (by repeat (first|exact trivial|refine ⟨⟨_,rfl,aT⟩,?_⟩|refine ⟨⟨_,rfl,aZ.of_eq Md⟩,?_⟩)) ba pr
  | false=>
   rw [aC] at hr;refine cl ?_;refine af.ck [12,13] C I (σ:=Nat) (fun j=>[(14,.int .i64 (j:Int)),(3,.int .i64 (hb (if f.cU then f.arg+1 else 0) (f.kids.take j)))]) (fun _=>[]) (fun j=>j≤f.kids.length) (fun j=>f.kids.length-j) 0 (g9 _) (by repeat (first|exact trivial|refine ⟨⟨_,rfl,aT⟩,?_⟩|refine ⟨⟨_,rfl,aZ.of_eq (by (first|rfl|(rw [aC];simp [hb,aO aC])|(rw [aC];simp [hb])))⟩,?_⟩)) ba ?_;rintro j aI I;refine cf ?_;refine af.cond C (fun az=>?_) (fun a7=>?_);rotate_left
   ·have a7:j=f.kids.length:=by simp at a7;omega
    subst a7;rw [af1];refine ew ?_;exact Fin.cE I C (aZ.of_eq (by rw [aC]))
   have az:j<f.kids.length:=by simpa using az
   obtain ⟨k,aA,eF⟩:=b7 (f:=av.cj) az;have hm:=av.h5 (d6 aA);have aD:=aW k ag ag (kl aq.2 (d6 aA));rw [av.cG] at eF aD
   repeat (first|(refine K4 I ?_;clear I;intro I)|refine ae.dZ al I rfl rfl rfl rfl rfl rfl rfl (fun cB I=>?_)|(refine p0 ?_))
   refine bD.mk (j+1) I az (by repeat (first|exact trivial|refine ⟨⟨_,rfl,aT⟩,?_⟩|refine ⟨⟨_,rfl,aZ.of_eq Md⟩,?_⟩)) ba pr
structure n1 (w:bz) (aP:List c3):Prop where
 ji:aP.length≤40
 each:∀ o∈aP,(3≤o.cls∧o.cls<3+(w.ps.length:Int))∧o.bm.length=(kI w (hc w o.cls)).length∧∀ v∈o.bm,ff aP.length v=true
theorem n1.of {w:bz} {aP:List c3} (h:tQ w aP=true):n1 w aP:=by
 unfold tQ at h;rw [f4,g6,af5] at h;refine ⟨h.1,fun o ai=>?_⟩;have:=h.2 o ai;unfold tP sn at this;simp only [f4,g6,af5] at this;exact ⟨⟨by omega,by omega⟩,this.2.1,this.2.2⟩
theorem yL {n:Int} {v:Int×Int} (h:ff n v=true) (aj:v.1=3):0≤v.2∧v.2<n:=by
 unfold ff at h;rw [aj] at h;simp at h;omega
theorem DK {n:Int} {v:Int×Int} (h:ff n v=true):v.1=1∨v.1=2∨v.1=3:=by
 unfold ff at h;grind
theorem Hi (w:bz) (m s:Nat) (au:s<w.owner.length) (an:m.testBit (w.owner.getD s 0).toNat=true):∃ k,(kI w m).findIdx? (· == (s:Int))=some k∧k<(kI w m).length:=by
 have fs:(s:Int)∈kI w m:=af8.2 ⟨s,List.mem_filter.2 ⟨List.mem_range.2 au,an⟩,rfl⟩;cases h:(kI w m).findIdx? (· == (s:Int)) with
 | none=>
  rw [List.findIdx?_eq_none_iff] at h;have:=h _ fs;simp at this
 | some k=>
  rw [List.findIdx?_eq_some_iff_getElem] at h;exact ⟨k,rfl,h.1⟩
def atR (r:Option (Int×Int)):ah := .cr [eK (r.getD (0,0)),.bool r.isSome]
theorem VI (w:bz) (hw:fw w) (aP:List c3) (ai:n1 w aP) (v:Int×Int) (ar:ff aP.length v=true) (path:List Int) (aF:∀ s∈path,0≤s∧s<(w.owner.length:Int)) (gX:path.length<bx) :
  aV d0 172 [gl w,fM aP,eK v,bj path] (atR (ht w aP v path)):=by
 have an:=bE;have pt:=hw.ji;have kE:=tO w.ps;refine aV.bl al Tryz.func172 C C fun s I=>?_
 have db:=fun c aD=>My w hw c aD
 have lI:=fun c s m o aD hm hV au ai=>Mo w (A2 w) c s m o aD hm hV au ai
 unfold eK bj;unfold gl e6 at *
 repeat (first|(refine Ao ?_)|refine ae.jJ I C C C C C C (fun b I=>?_)|refine ae.dZ al I C C C C C C C (fun cB I=>?_)|(refine Ap ?_))
 refine af.ck [0,1,8,12,13] C I (σ:=Nat×(Int×Int)) (fun j=>[(14,.int .i64 (j.1:Int)),(6,.ptr b 0)]) (fun j=>[(.own b,.box 122 [.int .i64 j.2.1,.int .i64 j.2.2]),(.own cB,.box 122 [.int .i64 0,.int .i64 0])]) (fun j=>j.1≤path.length∧ht w aP v path=ht w aP j.2 (path.drop j.1)∧ff aP.length j.2=true) (fun j=>path.length-j.1) (0,v) ⟨g9 _,rfl,ar⟩ (cK C) ba ?_;rintro ⟨j,u⟩ ⟨aI,aw,hu⟩ I;simp only at aI aw hu I ⊢;refine cf ?_;refine af.cond C (fun az=>?_) (fun a7=>?_);rotate_left
 ·have a7:path.length≤j:=by simpa using a7
  rw [eE a7,ht] at aw;rw [aw];refine ct I ?_;intro I;exact Fin.cE I (uY C C (bp.get a' I) C C) aT
 have az:j<path.length:=by simpa using az
 obtain ⟨x,ax,dc⟩:=b7 (f:=bg) az;obtain ⟨g1,g2⟩:=aF x (d6 ax);obtain ⟨bt,rfl⟩:∃ bt:Nat,x=bt:=⟨x.toNat,by omega⟩;rw [drop_cons ax,ht] at aw;unfold bg at dc;obtain ⟨hz,hZ⟩:=u
 try simp only at aw
 refine ct I ?_;intro I;by_cases aj:hz=3;rotate_left
 ·rw [f7 aj] at aw
  refine ae.dK 21 C (by simpa using aj) ?_;refine ct I ?_;intro I;rw [aw];exact Fin.cE I (uY C C (bp.get a' I) C C) aT
 obtain ⟨cu,c2⟩:=yL hu aj;subst aj;rw [d7 bc] at aw;simp only at cu c2;obtain ⟨q,rfl⟩:∃ q:Nat,hZ=q:=⟨hZ.toNat,by omega⟩;obtain ⟨o,bn,qz⟩:=b7 (f:=hs) (l:=aP) (j:=q) ag;have r2:aP.getD ((q:Int)).toNat default=o:=by rw [i9,d5,bn];rfl
 obtain ⟨⟨k9,gP⟩,ss,su⟩:=ai.each o (d6 bn);rw [r2] at aw;obtain ⟨cls,bm⟩:=o;simp only at k9 gP ss su aw;obtain ⟨c,rfl⟩:∃ c:Nat,cls=c:=⟨cls.toNat,by omega⟩;obtain ⟨m,hm⟩:∃ m,(dM w.ps)[c]? = some m:=⟨_,d8 ag⟩;have nq:hc w (c:Int)=m:=by unfold hc;rw [i9,d5,hm];rfl
 have hV:=yF pt m (d6 hm);obtain ⟨nr,m'⟩:∃ nr,w.owner[bt]? = some nr:=⟨_,d8 ag⟩;obtain ⟨n2,bT⟩:=hw.own nr (d6 m');obtain ⟨o,rfl⟩:∃ o:Nat,nr=o:=⟨nr.toNat,by omega⟩;have aa:=lI c bt m o ag (yG hm) hV m' ag;have jX:(w.owner.getD ((bt:Int)).toNat 0).toNat=o:=by rw [i9,d5,m'];simp
 have Hj:(w.owner.getD bt 0).toNat=o:=by rw [d5,m'];simp
 rw [nq,jX] at aw;rw [nq] at ss;unfold hs at qz;refine ae.dh 21 C bc ?_;cases qb:m.testBit o with
 | false=>
  rw [qb,d7 bc] at aw;rw [qb] at aa;refine ct I ?_;intro I;rw [aw];exact Fin.cE I (uY C C (bp.get a' I) C C) aT
 | true=>
  rw [qb,f7 C] at aw;rw [qb] at aa;have ad:=db c ag;have VJ:(dM w.ps).getD c 0=m:=by rw [d5,hm];rfl
  rw [VJ] at ad;obtain ⟨k,ky,hQ⟩:=Hi w m bt ag (by rw [Hj];exact qb);have hlen:(kI w m).length<bx:=by
   have:(kI w m).length≤w.owner.length:=by
    unfold kI;rw [f8];exact an0 (aj8 _ _) bc
   have:=hw.bm;omega
  have a8:=Lh (kI w m) bt hlen;rw [ky] at a8;simp only at a8;obtain ⟨y,tg,Hk⟩:=b7 (f:=eK) (l:=bm) (j:=k) ag;have w6:bm.getD k (0,0)=y:=by rw [d5,tg];rfl
  rw [ky,ae4,w6] at aw;unfold eK at Hk;unfold bj at ad a8;refine hq I ?_;intro I;exact bD.mk (j+1,y) I ⟨az,aw,su y (d6 tg)⟩ cA ba (by show path.length-(j+1)<path.length-j;omega)
theorem Mz {α:Type}:∀ {l:List α},l.length=2→∃ a b,l=[a,b]
 | [a,b],_=>⟨a,b,rfl⟩
structure w7 (w:bz) (f:av):Prop where
 arg:0≤f.arg∧f.arg<3
 path:f.path.length≤2
 bm:∀ s∈f.path,0≤s∧s<(w.owner.length:Int)
 cls:f.op=2→0≤f.cls∧f.cls<3+(w.ps.length:Int)
theorem w7.of {w:bz} {f:av} (h:hM w f=true) (aC:f.cU=true):w7 w f:=by
 simp only [hM,aC,ag5,f4,g6,af5] at h;obtain ⟨aa,ad,aj,a8,bB,gp,ia,p9⟩:=h;refine ⟨⟨by omega,bB⟩,gp,fun s au=>by have:=ia s au;simpa using this,fun ad=>?_⟩;rw [f7 ad] at p9;simp only [f4,g6] at p9;omega
theorem A3 {w:bz} {f:av} (h:hM w f=true):(f.op=1∧f.kids=[])∨(f.cU=true∧f.kids=[]∧(f.op=2∨f.op=3∨f.op=4))∨(f.op=5∧∃ x,f.kids=[x])∨((f.op=6∨f.op=7)∧∃ x y,f.kids=[x,y]):=by
 have bo:=h;simp only [hM,f4,g6] at h;obtain ⟨aa,ad,aj,a8⟩:=h;have aD:f.op=1∨(f.op=2∨f.op=3∨f.op=4)∨f.op=5∨f.op=6∨f.op=7:=by omega
 rcases aD with h|h|h|h|h
 ·left
  refine ⟨h,ai9 ?_⟩;rw [aj,h];rfl
 ·right;left
  refine ⟨?_,ai9 ?_,h⟩
  ·unfold av.cU;simp;omega
  ·rw [aj];rcases h with h|h|h<;>rw [h]<;>rfl
 ·right;right;left
  refine ⟨h,List.length_eq_one_iff.1 ?_⟩;rw [aj,h];rfl
 ·right;right;right
  refine ⟨.inl h,?_⟩;obtain ⟨a,b,iw⟩:=Mz (show f.kids.length=2 by rw [aj,h];rfl);exact ⟨a,b,iw⟩
 ·right;right;right
  refine ⟨.inr h,?_⟩;obtain ⟨a,b,iw⟩:=Mz (show f.kids.length=2 by rw [aj,h];rfl);exact ⟨a,b,iw⟩
theorem DL {w:bz} {aP:List c3} (ai:n1 w aP):∀ (path:List Int) (v u:Int×Int),(∀ s∈path,0≤s∧s<(w.owner.length:Int))→ff aP.length v=true→ht w aP v path=some u→ff aP.length u=true
  | [],v,u,_,ar,h=>by rw [ht] at h;cases h;exact ar
  | s::r,v,u,aF,ar,h=>by
    rw [ht] at h
    try simp only at h
    split at h
    · cases h
    · rename_i aj
      have aj:v.1=3:=by omega
      obtain ⟨cu,c2⟩:=yL ar aj;split at h
      · rename_i an
        have au:=aF s i6;obtain ⟨bt,rfl⟩:∃ bt:Nat,s=bt:=⟨s.toNat,by omega⟩;have VK:aP[v.2.toNat]? = some (aP.getD v.2.toNat default):=by
          rw [d5,d8 ag];rfl
        have mw:=ai.each _ (d6 VK);rw [i9] at an;obtain ⟨k,ky,hQ⟩:=Hi w _ bt ag an;rw [ky,ae4] at h;refine DL ai r _ u (fun s au=>aF s (i0 _ au)) ?_ h;rw [d5,d8 (by rw [mw.2.1];exact hQ),ae4];exact mw.2.2 _ (aj4 _)
      · cases h
theorem VL (w:bz) (hw:fw w) (aP:List c3) (ai:n1 w aP) (args:List (Int×Int)) (aO:∀ v∈args,ff aP.length v=true) (jM:args.length≤3):∀ (n:Nat) (f:av),f.size≤n→n<bx→gy w f=true→iV f≤args.length →
    aV d0 125 [gl w,f.cj,fM aP,iX args] (.bool (mO w aP args f)):=by
  have an:=bE;intro n
  induction n with
  | zero=>intro x h;have:=x.size_eq;omega
  | succ n aW=>
    intro f aB jc aq gA;have pt:=hw.ji;have gd:=ai.ji;have kE:=tO w.ps;have iu:=f.size_eq;have lJ:=AV w aP args f;rw [yH] at gA;rw [oC,f4] at aq;obtain ⟨ns,kK⟩:=aq;refine aV.bl al Tryz.func125 C C fun s I=>?_
    rw [av.cG];rcases A3 ns with ⟨aa,ad⟩|⟨aC,ad,aa⟩|⟨aa,x,ad⟩|⟨aa,x,y,ad⟩
    · rw [lJ,aa]
      unfold av.cells;rw [aa];refine bK ?_;exact br I
    · have hJ:=w7.of ns aC
      have gX:=hJ.path;have cx:=fun v ar=>VI w hw aP ai v ar f.path hJ.bm ag
      rw [aC,ad] at gA;simp only [ag5,hb] at gA;obtain ⟨q,bn⟩:∃ q:Nat,f.arg=q:=⟨f.arg.toNat,by have:=hJ.arg;omega⟩;obtain ⟨v,ar,kY⟩:=b7 (f:=eK) (l:=args) (j:=q) ag;have w8:=aO v (d6 ar);have A4:args.getD f.arg.toNat (0,0)=v:=by rw [bn,i9,d5,ar];rfl
      have cx:=cx v w8;have A5:mO w aP args f=nV w aP args f:=by
        rw [lJ,d7 ag,d7 ag,d7 ag,d7 ag]
      rw [A5];have cW:(f.op==1)=false:=by simp;omega
      have c6:(f.op==5)=false:=by simp;omega
      have eW:(f.op==6)=false:=by simp;omega
      have o4:(f.op==7)=false:=by simp;omega
      have lI:=fun m o hm aD=>yK m o hm aD
      unfold av.cells;rw [bn];unfold eK at kY;unfold eK bj at cx;unfold bg at cx;unfold gl e6 at *;cases hu:ht w aP v f.path with
      | none=>
        have hle:nV w aP args f=false:=by unfold nV;rw [A4,hu]
        rw [hu] at cx;rw [hle];unfold atR eK at cx;simp only [ae4,at6,au6,ap'] at cx;refine hp ?_;refine af.cond C (fun h=>by rw [cW] at h;cases h) (fun _=>?_);refine cf ?_;refine af.cond C (fun h=>by rw [c6] at h;cases h) (fun _=>?_);refine cf ?_;refine af.cond C (fun h=>by rw [eW] at h;cases h) (fun _=>?_);refine cf ?_;refine af.cond C (fun h=>by rw [o4] at h;cases h) (fun _=>?_)
        repeat (first|(refine TK ?_)|refine aL.yB al I C C C C C C C C (fun cB I=>?_)|(refine Di I ?_;clear I;intro I))
        exact br I
      | some u=>
        have j0:=DL ai f.path v u hJ.bm w8 hu;obtain ⟨hz,hZ⟩:=u
        have hle:nV w aP args f=(if f.op=2 then (if hz=3 then (hc w (aP.getD hZ.toNat default).cls).testBit f.cls.toNat else (hc w hz).testBit f.cls.toNat)
    else decide (hz=1)&&((decide (hZ=f.n)==decide (f.op=4))&&decide (hZ≤f.n))):=by unfold nV;rw [A4,hu]
        rw [hu] at cx;rw [hle];unfold atR eK at cx;simp only [ae4,at6,au6,ap'] at cx;refine hp ?_;refine af.cond C (fun h=>by rw [cW] at h;cases h) (fun _=>?_);refine cf ?_;refine af.cond C (fun h=>by rw [c6] at h;cases h) (fun _=>?_);refine cf ?_;refine af.cond C (fun h=>by rw [eW] at h;cases h) (fun _=>?_);refine cf ?_;refine af.cond C (fun h=>by rw [o4] at h;cases h) (fun _=>?_)
        repeat (first|(refine TL ?_)|refine aL.yB al I C C C C C C C C (fun cB I=>?_)|(refine Di I ?_;clear I;intro I))
        refine af.cond C (fun h=>?_) (fun h=>?_)
        · have bB:f.op≠2:=by simpa using h
          rw [d7 bB]
          repeat' (first|(with_reducible first|apply af.seq|apply b0|apply fU|apply gZ|apply af.ret)|refine af.cH ?_|refine ae.nil ?_|refine cF C ?_|refine ae.skip C C C ?_|refine ae.eC al I C C C C C C Am b5 ?_|(fail_if_success refine ae.same true C ?_);(fail_if_success refine ae.same false C ?_);refine ae.gY C C (fun h=>?_) (fun h=>?_))
          all_goals (refine Fin.cE I C (aZ.of_eq (ae6 ah.bool ?_));clear I cx aW lI hle A5 lJ hu j0;grind)
        have bB:f.op=2:=by simpa using h
        rw [f7 bB];obtain ⟨cu,c2⟩:=hJ.cls bB;obtain ⟨dJ,b9⟩:∃ dJ:Nat,f.cls=dJ:=⟨f.cls.toNat,by omega⟩;rw [b9,i9];by_cases aj:hz=3
        · subst aj
          obtain ⟨k9,gP⟩:=yL j0 rfl;simp only at k9 gP;obtain ⟨p,rfl⟩:∃ p:Nat,hZ=p:=⟨hZ.toNat,by omega⟩;obtain ⟨o,aF,fa⟩:=b7 (f:=hs) (l:=aP) (j:=p) ag;obtain ⟨⟨n2,bT⟩,-,-⟩:=ai.each o (d6 aF);have r2:aP.getD ((p:Int)).toNat default=o:=by rw [i9,d5,aF];rfl
          obtain ⟨c,w9⟩:∃ c:Nat,o.cls=c:=⟨o.cls.toNat,by omega⟩;obtain ⟨m,hm⟩:∃ m,(dM w.ps)[c]? = some m:=⟨_,d8 ag⟩;have nq:hc w (c:Int)=m:=by unfold hc;rw [i9,d5,hm];rfl
          have hV:=yF pt m (d6 hm);have wa:=lI m dJ hV ag;rw [f7 C,r2,w9,nq];unfold hs at fa;rw [w9] at fa;have iC:=A1 (w:=w) (yG hm);refine tB I ?_;intro I;refine aL.l7 al c C C C C C C C C C C ag ?_;refine aL.AO al C C C C C C C (by simpa using iC) ?_;refine c5 ?_;exact br I
        · obtain ⟨c,w9⟩:∃ c:Nat,hz=c:=⟨hz.toNat,by have:=DK j0;simp only at this;omega⟩
          subst w9;have acQ:c<3:=by have:=DK j0;simp only at this;omega
          obtain ⟨m,hm⟩:∃ m,(dM w.ps)[c]? = some m:=⟨_,d8 ag⟩;have nq:hc w (c:Int)=m:=by unfold hc;rw [i9,d5,hm];rfl
          have hV:=yF pt m (d6 hm);have wa:=lI m dJ hV ag;have iC:=A1 (w:=w) (yG hm);rw [d7 aj,nq];have sv:((c:Int)==3)=false:=by simpa using aj
          refine ct I ?_;intro I;refine af.cond C (fun h=>by rw [sv] at h;cases h) (fun _=>?_);refine tB I ?_;intro I;refine aL.l7 al c C C C C C C C C C C ag ?_;refine aL.AO al C C C C C C C (by simpa using iC) ?_;refine c5 ?_;exact br I
    · have ab:=av.h5 (l:=f.kids) (x:=x) km
      have hI:=(u6 f.kids (if f.cU then f.arg+1 else 0)).2 x km;have i1:=aW x ag ag (kl kK km) ag;rw [lJ,aa,ad,u7 _ _ _ 0 [x] x C];have b6:([x].map av.cj)[0]? = some (.agg x.cells):=by rw [← av.cG];rfl
      rw [av.cG] at i1;unfold av.cells;rw [aa,ad];unfold gl e6 at *;refine cl ?_;exact br I
    · have ab:=av.h5 (l:=f.kids) (x:=x) km
      have hI:=(u6 f.kids (if f.cU then f.arg+1 else 0)).2 x km;have i1:=aW x ag ag (kl kK km) ag;have ax:=av.h5 (l:=f.kids) (x:=y) ri;have dg:=(u6 f.kids (if f.cU then f.arg+1 else 0)).2 y ri;have i2:=aW y ag ag (kl kK ri) ag;have b6:([x,y].map av.cj)[0]? = some (.agg x.cells):=by rw [← av.cG];rfl
      have bW:([x,y].map av.cj)[1]? = some (.agg y.cells):=by rw [← av.cG];rfl
      rw [av.cG] at i1 i2;unfold gl e6 at *;rcases aa with aa|aa
      all_goals
        rw [lJ,aa,ad,u7 _ _ _ 0 [x,y] x C,u7 _ _ _ 1 [x,y] y C];unfold av.cells;rw [aa,ad];refine cl ?_;cases vb:mO w aP args x with
        | true=>
          rw [vb] at i1;refine c5 ?_;exact br I
        | false=>
          rw [vb] at i1;refine c5 ?_;exact br I
def nt (w:bz) (f:av) (aP:List c3) (args:List (Int×Int)):Bool×Int:=
 if ig w f&&(nU w aP args&&decide (iV f≤args.length)) then (mO w aP args f,0) else (false,2)
theorem MA {w:bz} {aP:List c3} {args:List (Int×Int)} (h:nU w aP args=true):n1 w aP∧args.length≤3∧∀ v∈args,ff aP.length v=true:=by
 unfold nU at h;simp only [f4,g6,af5] at h;exact ⟨n1.of h.1,h.2.2.1,h.2.2.2⟩
theorem Hl (w:bz) (hw:fw w) (f:av) (aX:f.size<bx) (aP:List c3) (args:List (Int×Int)) (aC:aP.length<bx) (ai:∀ o∈aP,o.bm.length<bx) (aO:args.length<bx):aV d0 74 [eI w,f.cj,fM aP,iX args] (.cr [.bool (nt w f aP args).1,.int .i64 (nt w f aP args).2]):=by
 have an:=bE;refine aV.bl al Tryz.func74 C C fun s I=>?_
 have aa:=Hh w hw [f] cL (by intro g aq;rw [t6] at aq;subst aq;exact aX);have ad:=VG w hw aP args aC ai aO;rw [ae0,ag7,al8,ap2,aq6] at aa;have dW:nt w f aP args=if ig w f&&(nU w aP args&&decide (iV f≤args.length)) then (mO w aP args f,0) else (false,2):=rfl
 cases aj:ig w f with
 | false=>
  rw [aj,f6,d7 bc] at dW;rw [dW];rw [aj,av.cG] at aa;rw [av.cG];unfold eI eX dd bj at *;unfold gl e6 at *;refine cl ?_;exact br I
 | true=>
  have aq:=sm f w 12 24 aj;have a8:=VH w f.size f (g7 _) aX aq;rw [aj,f5] at dW;rw [aj] at aa;cases bB:nU w aP args with
  | false=>
   rw [bB,f6,d7 bc] at dW;rw [dW];rw [bB] at ad;rw [av.cG] at aa ⊢;unfold eI eX dd bj at *;unfold gl e6 at *;refine cl ?_;exact br I
  | true=>
   obtain ⟨g1,g2,g3⟩:=MA bB;rw [bB,f5] at dW;rw [bB] at ad;by_cases gp:iV f≤args.length
   ·have ia:=VL w hw aP g1 args g3 g2 f.size f (g7 _) aX aq gp
    rw [f7 (by simpa using gp)] at dW;rw [dW];rw [av.cG] at aa a8 ia ⊢;unfold eI eX dd bj at *;unfold gl e6 at *;refine cl ?_;refine af.cond C (fun h=>?_) (fun _=>?_)
    ·exfalso
     simp at h;omega
    refine c5 ?_;exact br I
   ·rw [d7 (by simpa using gp)] at dW
    rw [dW];rw [av.cG] at aa a8 ⊢;unfold eI eX dd bj at *;unfold gl e6 at *;refine cl ?_;refine af.cond C (fun h=>?_) (fun h=>?_)
    ·refine gE ?_
     exact br I
    ·exfalso
     simp at h;omega
theorem MB:∀ (a b:List av),l' av.same a b=av.pj a b
 | [],[]=>by rw [l',av.pj]
 | [],_::_=>by rw [l',av.pj]<;>simp
 | _::_,[]=>by rw [l',av.pj]<;>simp
 | x::r,y::t=>by rw [l',av.pj,MB r t]
theorem VM (f g:av):av.same f g=(decide (f.op=g.op)&&(decide (f.arg=g.arg)&&(decide (f.cls=g.cls)&&(decide (f.n=g.n)&&(f.path==g.path&&av.pj f.kids g.kids))))):=by
 cases f;cases g;rw [av.same];rfl
theorem VN:∀ (n:Nat) (f g:av),f.size≤n→n<bx→g.size<bx→aV d0 268 [f.cj,g.cj] (.bool (av.same f g)):=by
  have an:=bE;intro n
  induction n with
  | zero=>intro x _ h;have:=x.size_eq;omega
  | succ n aW=>
    intro f g aB jc aq;have aa:=f.size_eq;have ad:=g.size_eq;have oh:=av.q5 f.kids;have eQ:=av.q5 g.kids;have aj:=wU f.path g.path ag ag
    have a8:=U7 (.func 268 [] []) av.same f.kids g.kids ag ag (fun x ab y ax=>ej.fm (first:=[]) (cap:=[]) (by
      have:=av.h5 ab
      have:=av.h5 ax
      exact aW x y ag ag ag))
    rw [MB] at a8;refine aV.bl al Tryz.func268 C C fun s I=>?_
    rw [av.cG,av.cG,VM];unfold bj bg at aj
    repeat' (first|(with_reducible first|apply af.seq|apply b0|apply af.ret)|refine cY C ?_|refine af.cH ?_|refine ae.nil ?_|refine cF C ?_|refine ae.skip C C C ?_|refine ae.dL C C C C C cp ?_|(fail_if_success refine ae.same true C ?_);(fail_if_success refine ae.same false C ?_);refine ae.gY C C (fun h=>?_) (fun h=>?_))
    all_goals (refine Fin.cE I C (aZ.of_eq (ae6 ah.bool ?_));clear I aj a8 aW;grind)
theorem VO (x y:cv) (ab:x.1.size<bx) (ax:y.1.size<bx):ej d0 (.func 267 [] [.bA (p7 x) 0]) [h7 y] (.bool (w2 x y)):=by
 have an:=bE;refine ej.fm (first:=[]) (cap:=[.bA (p7 x) 0]) ?_;refine aV.bl al Tryz.func267 C C fun s I=>?_
 obtain ⟨f,b⟩:=x;obtain ⟨g,c⟩:=y;have aa:=VN f.size f g (g7 _) ab ax;rw [av.cG,av.cG] at aa;unfold h7 p7 w2;simp only
 repeat' (first|(with_reducible first|apply af.seq|apply b0|apply af.ret)|refine cY C ?_|refine af.cH ?_|refine ae.nil ?_|refine cF C ?_|refine ae.skip C C C ?_|refine ae.dL C C C C C cp ?_|(fail_if_success refine ae.same true C ?_);(fail_if_success refine ae.same false C ?_);refine ae.gY C C (fun h=>?_) (fun h=>?_))
 all_goals (refine Fin.cE I C (aZ.of_eq (ae6 ah.bool ?_));clear I aa;grind)
theorem VP (l:List cv):∀ y∈l.map h7,lu 7 y=true:=Va l
theorem VQ (l:List cv) (own:bV) (aC:l.length<bx):bI d0 265 [.aG 7 (l.map h7) own] [] (fun o K=>∃ dz,o = .ret (.aG 7 (l.map h7) dz)∧K=[(dz,.row 289 7 l.length)]):=by
 have an:=bE;refine bI.bl al Tryz.func265 C C fun s I=>?_
 refine dS ?_;refine ae.op C C C (a6.GR al C C C C (X:=fun _ _=>False)) ?_ (fun _ _ h=>False.elim h);rintro r ak ⟨rfl,⟨rfl,aB⟩|rfl⟩
 ·have uJ:l.length=0:=by simpa using ae6 List.length aB
  refine ae.jw I 289 7 0 fun I=>?_
  refine et ?_;rw [aB,uJ];exact Fin.bC I C (aZ.nil h4) (aJ.all _) ⟨.nil,rfl,rfl⟩
 ·refine bK ?_
  refine ae.AJ I 289 7 0 fun I=>?_
  refine ae.qZ al I C C C C C C C eH C C C C (.inr C) C (VP l) C .here C (n':=l.length) bc (by simp only [ag0,af6,f8];show _*88≤_;omega) Ha (fun tK I=>?_);refine ep ?_;exact Fin.bC I C aT (aJ.all _) ⟨tK,rfl,rfl⟩
theorem VR (fv:ah) (xs:List cv) (T:Nat→bb) (cq:Nat→Bool) (aC:xs.length<bx) (h:∀ j x,xs[j]? = some x→(∀ i,i<j→cq i=false)→ds d0 fv [h7 x] (T j) (fun o K=>o = .ret (.bool (cq j))∧K=T (j+1))) :
  bI d0 279 [.aG 7 (xs.map h7) .bd,fv] (T 0)
   (fun o K=>(o = .ret (.int .i64 (-1))∧K=T xs.length∧∀ i,i<xs.length→cq i=false)∨∃ j,j<xs.length∧cq j=true∧(∀ i,i<j→cq i=false)∧o = .ret (.int .i64 (j:Int))∧K=T (j+1)):=by
 have an:=bE;refine bI.bl al Tryz.func279 C C fun s I=>?_
 refine hp ?_;refine af.yp I (σ:=Nat) (fun j=>[(0,.aG 7 (xs.map h7) .bd),(1,fv),(7,.int .i64 xs.length),(8,.int .i64 (j:Int))]) T (fun j=>j≤xs.length∧∀ i,i<j→cq i=false) (fun j=>xs.length-j) 0 ⟨by omega,fun i aS=>by omega⟩ As (aJ.all _) ?_;rintro j ⟨aI,aw⟩ I;refine cf ?_;refine af.cond C (fun az=>?_) (fun a7=>?_)
 ·have az:j<xs.length:=by simpa using az
  obtain ⟨x,ab,ch⟩:=b7 (f:=h7) az;have ar:=h j x ab aw
  try rw [h7] at ch ar
  refine bK ?_;refine ae.gM rfl rfl rfl rfl rfl rfl ar I (aJ.all _) ?_ (fun _ _ ⟨h,_⟩ _=>by cases h);rintro _ _ ⟨⟨⟩,rfl⟩ I;rw [d9] at I ⊢;cases oB:cq j with
  | true=>
   refine fe ?_;exact Fin.bC I C aT (aJ.all _) (.inr ⟨j,az,oB,aw,rfl,rfl⟩)
  | false=>
   refine bK ?_
   exact bD.mk (j+1) I ⟨az,fun i aS=>by
    rcases Nat.lt_succ_iff_lt_or_eq.1 aS with aS|rfl
    ·exact aw i aS
    ·exact oB⟩ cA (aJ.all _) sb
 ·have a7:j=xs.length:=by
   have:xs.length≤j:=by simpa using a7
   omega
  subst a7;refine ew ?_;exact Fin.bC I C aT (aJ.all _) (.inl ⟨rfl,rfl,aw⟩)
theorem VS (fv:ah) (xs:List cv) (T:Nat→bb) (cq:Nat→Bool) (aC:xs.length<bx) (h:∀ j x,xs[j]? = some x→(∀ i,i<j→cq i=false)→ds d0 fv [h7 x] (T j) (fun o K=>o = .ret (.bool (cq j))∧K=T (j+1))) :
  bI d0 266 [.aG 7 (xs.map h7) .bd,fv] (T 0)
   (fun o K=>(o = .ret (.bool false)∧K=T xs.length∧∀ i,i<xs.length→cq i=false)∨∃ j,j<xs.length∧cq j=true∧(∀ i,i<j→cq i=false)∧o = .ret (.bool true)∧K=T (j+1)):=by
 refine bI.bl al Tryz.func266 C C fun s I=>?_
 refine dS ?_;refine ae.b4 rfl rfl rfl rfl rfl (VR fv xs T cq aC h) I (aJ.all _) ?_ (fun _ _ h _=>by rcases h with ⟨h,_⟩|⟨_,_,_,_,h,_⟩<;>cases h);rintro _ _ (⟨⟨⟩,rfl,aa⟩|⟨j,aa,ad,aj,⟨⟩,rfl⟩) I
 all_goals rw [d9] at I ⊢
 ·refine ep ?_
  exact Fin.bC I C aT (aJ.all _) (.inl ⟨rfl,rfl,aa⟩)
 ·refine ep ?_
  exact Fin.bC I C (by simp;exact aT) (aJ.all _) (.inr ⟨j,aa,ad,aj,rfl,rfl⟩)
theorem VT (fv:ah) (q:cv→Bool) (xs:List cv) (aC:xs.length<bx) (h:∀ x∈xs,ej d0 fv [h7 x] (.bool (q x))) :
  aV d0 266 [.aG 7 (xs.map h7) .bd,fv] (.bool (xs.any q)):=
 AM (fun T cq di=>VS fv xs T cq aC di) h
theorem VU (a b:List cv) (aC:a.length+b.length<bx) (aO:∀ x∈a,x.1.size<bx) (mP:∀ x∈b,x.1.size<bx):aV d0 246 [.aG 7 (a.map h7) .bd,.aG 7 (b.map h7) .bd] (.aG 7 ((jO a b).map h7) .bd):=by
 have an:=bE;refine aV.bl al Tryz.func246 C C fun s I=>?_
 have aa:=VQ a .bd ag;have hlen:∀ j,(jO a (b.take j)).length≤a.length+j:=fun j=>by
  have:=G8 (b.take j) a;have:=List.length_take_le j b;omega
 have fs:∀ j,∀ x∈jO a (b.take j),x.1.size<bx:=fun j x ab=>by
  rcases DG _ _ ab with h|h
  ·exact aO x h
  ·exact mP x (List.mem_of_mem_take h)
 refine dS ?_;refine ae.b4 rfl rfl rfl rfl rfl aa I (aJ.all _) ?_ (fun _ _ ⟨_,h,_⟩ _=>by cases h);rintro _ _ ⟨VV,⟨⟩,rfl⟩ I;rw [d9] at I ⊢;refine bK ?_;refine af.ck [10,11] C I (σ:=Nat×bV) (fun q=>[(12,.int .i64 (q.1:Int)),(5,.aG 7 ((jO a (b.take q.1)).map h7) q.2)]) (fun q=>[(q.2,.row 289 7 (jO a (b.take q.1)).length)]) (fun q=>q.1≤b.length) (fun q=>b.length-q.1) (0,VV) (g9 _) (cK C) ba ?_;rintro ⟨j,own⟩ aI I;simp only at aI I ⊢;refine cf ?_;refine af.cond C (fun az=>?_) (fun a7=>?_);rotate_left
 ·have a7:j=b.length:=by simp at a7;omega
  subst a7;rw [af1];refine ew ?_;exact Fin.cE I C aZ.bd
 have az:j<b.length:=by simpa using az
 obtain ⟨x,ab,ch⟩:=b7 (f:=h7) az;have au:jO a (b.take (j+1))=re (jO a (b.take j)) x:=by
  unfold jO;rw [jy ab,as1];rfl
 unfold re at au;have d':=mP x (d6 ab);have oh:=hlen j;have qN:=fs j;generalize dB:jO a (b.take j)=out at I au oh qN ⊢;have aD:=VT (.func 267 [] [.bA (p7 x) 0]) (w2 x) out ag (fun y ax=>VO x y d' (qN y ax));cases ar:out.any (w2 x) with
 | true=>
  rw [ar] at aD;rw [ar,f7 C] at au;refine ft ?_;exact bD.mk (j+1,own) I az ow (by show aJ _ [(_,.row _ _ (jO a (b.take (j+1))).length)] _;rw [au];exact aJ.eb _) (by show b.length-(j+1)<b.length-j;omega)
 | false=>
  rw [ar] at aD;rw [ar,d7 bc] at au;refine ft ?_;refine ae.ho al I C C C C C C C eH C C C C C C C C a' ir (by show (_+1)*88≤_;omega) ag (fun bT I=>?_);refine hC ?_;exact bD.mk (j+1,.own bT) I az (by repeat (first|exact trivial|refine ⟨⟨_,rfl,aT⟩,?_⟩|refine ⟨⟨_,rfl,aZ.of_eq (by (first|rw [kF ag]|(rw [au,ae1];rfl)))⟩,?_⟩)) (by show aJ _ [(_,.row _ _ (jO a (b.take (j+1))).length)] _;rw [au,f9,List.length_singleton];exact aJ.eb _) (by show b.length-(j+1)<b.length-j;omega)
theorem ds.args {P:Program} {fv:ah} {xs ys:List ah} {K:bb} {aeb:eB→bb→Prop} (h:cS xs ys) (k:ds P fv ys K aeb):ds P fv xs K aeb:=
 fun s I w p v vs ca ar aE=>k s I w p v vs ca ar (h.rel aE)
def VW (dQ:Nat):ah := .func 243 [] [.ptr dQ 0]
abbrev qc (l:List cv):ah := .aG 7 (l.map h7) .bd
def sw (dQ:Nat):dy := .box 287 [VW dQ]
def A6 {α:Type} (Go:List α→bb→Prop) (fD:bb→Prop) (fK:ah→bb→Prop) (rem:List α) (o:eB) (aQ:bb):Prop:=
 (o = .ret (.bool true)∧Go rem aQ)∨(o = .ret (.bool false)∧fD aQ)∨∃ v,o = .panic v∧fK v aQ
structure A7 (dQ:Nat) (fv:ah) (Go:List (List cv)→bb→Prop) (fD:bb→Prop) (fK:ah→bb→Prop):Prop where
 one:cellsOf fv=some [fv]
 call:∀ x rem K,Go (x::rem) K→ds d0 fv [qc x] K (A6 Go fD fK rem)
 rk:∀ xs K,Go xs K→∃ R,bp K (.own dQ) (sw dQ) R
 xa:∀ K,fD K→∃ R,bp K (.own dQ) (sw dQ) R
theorem VX {dQ:Nat} {fv:ah} {Go:List (List cv)→bb→Prop} {fD:bb→Prop} {fK:ah→bb→Prop} (di:A7 dQ fv Go fD fK) (a z:List cv) (aC:a.length+z.length<bx) (aO:∀ x∈a,x.1.size<bx) (bG:∀ x∈z,x.1.size<bx) (rem:List (List cv)) (K:bb) (dj:Go (jO a z::rem) K) :
  ds d0 (.func 245 [] [.bA [fv] 0,.bA [qc a] 0]) [qc z] K (A6 Go fD fK rem):=by
 refine ds.fm (first:=[]) (cap:=[.bA [fv] 0,.bA [qc a] 0]) ?_;refine bI.bl al Tryz.func245 C C fun s I=>?_
 have aa:=VU a z aC aO bG;have ad:=di.call _ _ _ dj;refine pe ?_;refine aL.UR C C C C C C C ad I (aJ.all _) ?_ ?_
 ·rintro x aQ (⟨⟨⟩,aq⟩|⟨⟨⟩,ay⟩|⟨_,⟨⟩,_⟩) I
  all_goals rw [d9] at I ⊢
  ·refine hD ?_
   exact Fin.bC I C aT (aJ.all _) (.inl ⟨rfl,aq⟩)
  ·refine hD ?_
   exact Fin.bC I C aT (aJ.all _) (.inr (.inl ⟨rfl,ay⟩))
 ·rintro x aQ (⟨h,_⟩|⟨h,_⟩|⟨v,⟨⟩,aF⟩) I
  ·cases h
  ·cases h
  rw [d9] at I ⊢;exact Fin.fc I aT (aJ.all _) (.inr (.inr ⟨_,rfl,aF⟩))
theorem VY (w:bz) (dQ:Nat):∀ (n:Nat) (f:av),f.size≤n→n<bx→gy w f=true→∀ (b:Bool) (fv:ah) (Go:List (List cv)→bb→Prop) (fD:bb→Prop) (fK:ah→bb→Prop),A7 dQ fv Go fD fK →
  ∀ (rest:List (List cv)) (K:bb),Go (h6 b f++rest) K→bI d0 243 [f.cj,.bool b,fv,.ptr dQ 0] K (A6 Go fD fK rest):=by
 have an:=bE;intro n
 induction n with
 | zero=>intro x h;have:=x.size_eq;omega
 | succ n aW=>
  intro f aB jc aq b fv Go fD fK di rest K dj;obtain ⟨R,au⟩:=di.rk _ _ dj;have u':=di.one;have iu:=f.size_eq;have jB:=L' b f;rw [oC,f4] at aq;obtain ⟨ns,kK⟩:=aq;have hr:=He f;rw [av.cG] at hr;refine bI.bl al Tryz.func243 C C fun s I=>?_
  rw [av.cG];rcases A3 ns with ⟨aa,ad⟩|⟨aC,ad,aa⟩|⟨aa,x,ad⟩|⟨aa,x,y,ad⟩
  ·rw [jB,aa,f7 C] at dj
   unfold av.cells;rw [aa];cases b with
   | true=>
    refine kG ?_;refine ae.jJ I C C C C C u' (fun rl I=>?_);refine ae.mE I 6 rl C .here (fun I=>?_);refine bK ?_;exact Fin.bC I C aT (aJ.all _) (.inl ⟨rfl,dj⟩)
   | false=>
    have aj:=ds.args (show cS [.aG 0 [] .nil] [qc []] from .one aZ.empty) (di.call _ _ _ dj);refine kG ?_;refine ae.jJ I C C C C C u' (fun rl I=>?_);refine ae.mE I 6 rl C .here (fun I=>?_);refine bK ?_;refine ae.gM C C C C C C aj I (aJ.all _) ?_ ?_
    ·rintro x aQ (⟨⟨⟩,aq⟩|⟨⟨⟩,ay⟩|⟨_,⟨⟩,_⟩) I
     all_goals rw [d9] at I ⊢
     ·refine fe ?_
      exact Fin.bC I C aT (aJ.all _) (.inl ⟨rfl,aq⟩)
     ·refine fe ?_
      exact Fin.bC I C aT (aJ.all _) (.inr (.inl ⟨rfl,ay⟩))
    ·rintro x aQ (⟨h,_⟩|⟨h,_⟩|⟨v,⟨⟩,aF⟩) I
     ·cases h
     ·cases h
     rw [d9] at I ⊢;exact Fin.fc I aT (aJ.all _) (.inr (.inr ⟨_,rfl,aF⟩))
  ·rw [jB,d7 ag,d7 ag,f7 aC] at dj
   rw [aC] at hr;have cW:(f.op==1)=false:=by simp;omega
   have c6:(f.op==5)=false:=by simp;omega
   have aj:=ds.args (show cS [.aG 7 [h7 (f,b)] .clip] [qc [(f,b)]] from .one aZ.bd) (di.call _ _ _ dj);unfold h7 p7 av.cells at aj;unfold av.cells;refine kG ?_;refine ae.jJ I C C C C C u' (fun rl I=>?_);refine ae.mE I 6 rl C .here (fun I=>?_);refine bK ?_;refine af.cond C (fun h=>by rw [cW] at h;cases h) (fun _=>?_);refine cf ?_;refine af.cond C (fun h=>by rw [c6] at h;cases h) (fun _=>?_);refine c5 ?_;refine ae.gM C C C C C C aj I (aJ.all _) ?_ ?_
   ·rintro x aQ (⟨⟨⟩,aq⟩|⟨⟨⟩,ay⟩|⟨_,⟨⟩,_⟩) I
    all_goals rw [d9] at I ⊢
    ·refine fe ?_
     exact Fin.bC I C aT (aJ.all _) (.inl ⟨rfl,aq⟩)
    ·refine fe ?_
     exact Fin.bC I C aT (aJ.all _) (.inr (.inl ⟨rfl,ay⟩))
   ·rintro x aQ (⟨h,_⟩|⟨h,_⟩|⟨v,⟨⟩,aF⟩) I
    ·cases h
    ·cases h
    rw [d9] at I ⊢;exact Fin.fc I aT (aJ.all _) (.inr (.inr ⟨_,rfl,aF⟩))
  ·have ab:=av.h5 (l:=f.kids) (x:=x) km
   have i1:=aW x ag ag (kl kK km) (!b) fv Go fD fK di rest K;have b6:([x].map av.cj)[0]? = some (.agg x.cells):=by rw [← av.cG];rfl
   rw [jB,aa,d7 ag,f7 C,ad,tS _ 0 [x] x C] at dj;have i1:=ds.fm (first:=[]) (args:=[x.cj,.bool (!b),fv]) (cap:=[.ptr dQ 0]) (i1 dj);rw [av.cG] at i1;unfold sw at au;unfold av.cells;rw [aa,ad];refine kG ?_;refine ae.jJ I C C C C C u' (fun rl I=>?_);refine ae.mE I 6 rl C .here (fun I=>?_);refine ae.run al C (ae.nil ?_)
   repeat (first
    | refine af.q8 I dQ au al mixed C ?_
    | with_reducible apply af.seq
    | with_reducible apply b0
    | with_reducible apply fp
    | with_reducible apply af.block
    | refine af.fx C ?_
    | refine af.gI C ?_
    | refine cY C ?_
    | refine af.skip ?_)
   refine c5 ?_;refine aL.AP C C C C C C C i1 I (aJ.all _) (fun x aQ h=>?_) ?_ ?_
   ·rw [d9]
    rcases h with ⟨_,h⟩|⟨_,h⟩|⟨_,h,_⟩
    ·exact di.rk _ _ h
    ·exact di.xa _ h
    ·cases h
   ·rintro x aQ (⟨⟨⟩,aq⟩|⟨⟨⟩,ay⟩|⟨_,⟨⟩,_⟩) I
    all_goals rw [d9] at I ⊢
    ·refine hD ?_
     exact Fin.bC I C aT (aJ.all _) (.inl ⟨rfl,aq⟩)
    ·refine hD ?_
     exact Fin.bC I C aT (aJ.all _) (.inr (.inl ⟨rfl,ay⟩))
   ·rintro x aQ (⟨h,_⟩|⟨h,_⟩|⟨v,⟨⟩,aF⟩) I
    ·cases h
    ·cases h
    rw [d9] at I ⊢;exact Fin.fc I aT (aJ.all _) (.inr (.inr ⟨_,rfl,aF⟩))
  ·have ab:=av.h5 (l:=f.kids) (x:=x) km
   have ax:=av.h5 (l:=f.kids) (x:=y) ri;have i1:=aW x ag ag (kl kK km) b;have i2:=aW y ag ag (kl kK ri) b;have b6:([x,y].map av.cj)[0]? = some (.agg x.cells):=by rw [← av.cG];rfl
   have bW:([x,y].map av.cj)[1]? = some (.agg y.cells):=by rw [← av.cG];rfl
   have pO:f.cU=false:=by unfold av.cU;simp;omega
   have Hm:=u9 f.kids b;have vc:=Mc f.kids b;rw [pO] at hr;have acR:=dj;rw [jB,d7 ag,d7 ag,d7 (by rw [pO];simp),ad,tS _ 0 [x,y] x C,tS _ 1 [x,y] y C] at dj;rw [ad] at Hm vc;have MC:=Hm 0;have MD:=Hm 1;rw [tS _ 0 [x,y] x C] at MC;rw [tS _ 1 [x,y] y C] at MD;rw [tS _ 0 [x,y] x C,tS _ 1 [x,y] y C] at vc;have cc:av.iS [x,y]<bx:=by rw [← ad];omega
   unfold sw at au;unfold av.cells at hr ⊢;by_cases A8:b=decide (f.op=6)
   ·rw [f7 A8,ag'] at dj
    have xb:=ds.fm (first:=[]) (args:=[x.cj,.bool b,fv]) (cap:=[.ptr dQ 0]) (i1 fv Go fD fK di _ K dj);have lK:=fun K dj=>ds.fm (first:=[]) (args:=[y.cj,.bool b,fv]) (cap:=[.ptr dQ 0]) (i2 fv Go fD fK di rest K dj)
    rw [av.cG] at xb lK;have cW:(f.op==1)=false:=by simp;omega
    have c6:(f.op==5)=false:=by simp;omega
    have eW:(b==(f.op==6))=true:=by rw [A8];by_cases gp:f.op=6<;>simp [gp]
    rw [ad] at hr ⊢;refine kG ?_;refine ae.jJ I C C C C C u' (fun rl I=>?_);refine ae.mE I 6 rl C .here (fun I=>?_);refine bK ?_;refine af.cond C (fun h=>by rw [cW] at h;cases h) (fun _=>?_);refine cf ?_;refine af.cond C (fun h=>by rw [c6] at h;cases h) (fun _=>?_);refine cl ?_;refine af.cond C (fun _=>?_) (fun h=>by rw [eW] at h;cases h)
    repeat (first
     | refine af.q8 I dQ au al mixed C ?_
     | with_reducible apply af.seq
     | with_reducible apply b0
     | with_reducible apply fp
     | with_reducible apply af.block
     | refine af.fx C ?_
     | refine af.gI C ?_
     | refine cY C ?_
     | refine af.skip ?_)
    refine c5 ?_;refine aL.AP C C C C C C C xb I (aJ.all _) (fun x aQ h=>?_) ?_ ?_
    ·rw [d9]
     rcases h with ⟨_,h⟩|⟨_,h⟩|⟨_,h,_⟩
     ·exact di.rk _ _ h
     ·exact di.xa _ h
     ·cases h
    rotate_left
    ·rintro x aQ (⟨h,_⟩|⟨h,_⟩|⟨v,⟨⟩,aF⟩) I
     ·cases h
     ·cases h
     rw [d9] at I ⊢;exact Fin.fc I aT (aJ.all _) (.inr (.inr ⟨_,rfl,aF⟩))
    rintro _ aQ (⟨⟨⟩,aq⟩|⟨⟨⟩,ay⟩|⟨_,h,_⟩) I
    ·rw [d9] at I ⊢
     refine c5 ?_;refine aL.AP C C C C C C C (lK _ aq) I (aJ.all _) (fun x aQ h=>?_) ?_ ?_
     ·rw [d9]
      rcases h with ⟨_,h⟩|⟨_,h⟩|⟨_,h,_⟩
      ·exact di.rk _ _ h
      ·exact di.xa _ h
      ·cases h
     ·rintro x aQ (⟨⟨⟩,aq⟩|⟨⟨⟩,ay⟩|⟨_,⟨⟩,_⟩) I
      all_goals rw [d9] at I ⊢
      ·refine hD ?_
       exact Fin.bC I C aT (aJ.all _) (.inl ⟨rfl,aq⟩)
      ·refine hD ?_
       exact Fin.bC I C aT (aJ.all _) (.inr (.inl ⟨rfl,ay⟩))
     ·rintro x aQ (⟨h,_⟩|⟨h,_⟩|⟨v,⟨⟩,aF⟩) I
      ·cases h
      ·cases h
      rw [d9] at I ⊢;exact Fin.fc I aT (aJ.all _) (.inr (.inr ⟨_,rfl,aF⟩))
    ·rw [d9] at I ⊢
     refine hD ?_;exact Fin.bC I C aT (aJ.all _) (.inr (.inl ⟨rfl,ay⟩))
    ·cases h
   ·rw [d7 A8] at dj
    have cW:(f.op==1)=false:=by simp;omega
    have c6:(f.op==5)=false:=by simp;omega
    have eW:(b==(f.op==6))=false:=by
     cases b<;>simp_all
    have VZ:∀ (a:List cv) (rest:List (List cv)),a∈h6 b x→A7 dQ (.func 245 [] [.bA [fv] 0,.bA [qc a] 0]) (fun a' K=>(∀ z∈a',z∈h6 b y)∧Go (a'.map (jO a)++rest) K) fD fK:=fun a rest aO=>by
     refine ⟨rfl,fun z rem K ⟨bG,aq⟩=>?_,fun xs K h=>di.rk _ _ h.2,di.xa⟩;have Hn:=bG z i6;refine ds.mono (VX di a z (by have:=vc a z aO Hn;omega) (fun u hu=>by have:=(MC a aO).2 u hu;omega) (fun u hu=>by have:=(MD z Hn).2 u hu;omega) (rem.map (jO a)++rest) K aq) ?_;rintro o aQ (⟨aa,h⟩|h|h)
     ·exact .inl ⟨aa,fun z q9=>bG z (i0 _ q9),h⟩
     ·exact .inr (.inl h)
     ·exact .inr (.inr h)
    have V0:A7 dQ (.func 244 [] [.ptr dQ 0,.bA f.cells 0,.bA [.bool b] 0,.bA [fv] 0]) (fun xs K=>(∀ a∈xs,a∈h6 b x)∧Go ((xs.flatMap fun a=>(h6 b y).map (jO a))++rest) K) fD fK:=by
     refine ⟨rfl,fun a rem K ⟨aO,aq⟩=>?_,fun xs K h=>di.rk _ _ h.2,di.xa⟩;obtain ⟨R,au⟩:=di.rk _ _ aq;unfold sw at au;refine ds.fm (first:=[]) (cap:=[.ptr dQ 0,.bA f.cells 0,.bA [.bool b] 0,.bA [fv] 0]) ?_;refine bI.bl al Tryz.func244 C C fun s I=>?_
     rw [List.flatMap_cons,ag'] at aq;have lK:=ds.fm (first:=[]) (args:=[y.cj,.bool b,.func 245 [] [.bA [fv] 0,.bA [qc a] 0]]) (cap:=[.ptr dQ 0]) (i2 _ _ fD fK (VZ a ((rem.flatMap fun a=>(h6 b y).map (jO a))++rest) (aO a i6)) [] K ⟨fun z bG=>by rw [d9] at bG;exact bG,by rw [d9];exact aq⟩);rw [av.cG] at lK;unfold av.cells;rw [ad];unfold av.cells at lK
     repeat (first
      | refine af.q8 I dQ au al mixed C ?_
      | with_reducible apply af.seq
      | with_reducible apply b0
      | with_reducible apply fp
      | with_reducible apply af.block
      | refine af.fx C ?_
      | refine af.gI C ?_
      | refine cY C ?_
      | refine af.skip ?_)
     refine c5 ?_;refine aL.AP C C C C C C C lK I (aJ.all _) (fun x aQ h=>?_) ?_ ?_
     ·rw [d9]
      rcases h with ⟨_,h⟩|⟨_,h⟩|⟨_,h,_⟩
      ·exact di.rk _ _ h.2
      ·exact di.xa _ h
      ·cases h
     ·rintro x aQ (⟨⟨⟩,aq⟩|⟨⟨⟩,ay⟩|⟨_,⟨⟩,_⟩) I
      all_goals rw [d9] at I ⊢
      ·refine hD ?_
       exact Fin.bC I C aT (aJ.all _) (.inl ⟨rfl,fun z bG=>aO z (i0 _ bG),aq.2⟩)
      ·refine hD ?_
       exact Fin.bC I C aT (aJ.all _) (.inr (.inl ⟨rfl,ay⟩))
     ·rintro x aQ (⟨h,_⟩|⟨h,_⟩|⟨v,⟨⟩,aF⟩) I
      ·cases h
      ·cases h
      rw [d9] at I ⊢;exact Fin.fc I aT (aJ.all _) (.inr (.inr ⟨_,rfl,aF⟩))
    have xb:=ds.fm (first:=[]) (args:=[x.cj,.bool b,.func 244 [] [.ptr dQ 0,.bA f.cells 0,.bA [.bool b] 0,.bA [fv] 0]]) (cap:=[.ptr dQ 0]) (i1 _ _ fD fK V0 [] K ⟨fun z bG=>by rw [d9] at bG;exact bG,by rw [d9];exact dj⟩);rw [av.cG] at xb;unfold av.cells at xb;rw [ad] at xb hr ⊢;refine kG ?_;refine ae.jJ I C C C C C u' (fun rl I=>?_);refine ae.mE I 6 rl C .here (fun I=>?_);refine bK ?_;refine af.cond C (fun h=>by rw [cW] at h;cases h) (fun _=>?_);refine cf ?_;refine af.cond C (fun h=>by rw [c6] at h;cases h) (fun _=>?_);refine cl ?_;refine af.cond C (fun h=>by rw [eW] at h;cases h) (fun _=>?_)
    repeat (first
     | refine af.q8 I dQ au al mixed C ?_
     | with_reducible apply af.seq
     | with_reducible apply b0
     | with_reducible apply fp
     | with_reducible apply af.block
     | refine af.fx C ?_
     | refine af.gI C ?_
     | refine cY C ?_
     | refine af.skip ?_)
    refine c5 ?_;refine aL.AP C C C C C C C xb I (aJ.all _) (fun x aQ h=>?_) ?_ ?_
    ·rw [d9]
     rcases h with ⟨_,h⟩|⟨_,h⟩|⟨_,h,_⟩
     ·exact di.rk _ _ h.2
     ·exact di.xa _ h
     ·cases h
    ·rintro x aQ (⟨⟨⟩,aq⟩|⟨⟨⟩,ay⟩|⟨_,⟨⟩,_⟩) I
     all_goals rw [d9] at I ⊢
     ·refine hD ?_
      exact Fin.bC I C aT (aJ.all _) (.inl ⟨rfl,aq.2⟩)
     ·refine hD ?_
      exact Fin.bC I C aT (aJ.all _) (.inr (.inl ⟨rfl,ay⟩))
    ·rintro x aQ (⟨h,_⟩|⟨h,_⟩|⟨v,⟨⟩,aF⟩) I
     ·cases h
     ·cases h
     rw [d9] at I ⊢;exact Fin.fc I aT (aJ.all _) (.inr (.inr ⟨_,rfl,aF⟩))
def pv (k:IntKind) (xs:List Int):Value := .agg (xs.map (Value.int k)).toArray
def ko (k:IntKind) (xs:List Int):ah := .agg (xs.map (ah.int k))
structure sx (P:Program) (dO:TypeId) (k:IntKind) (n:Nat):Prop where
 wide:(match P.underlying dO with|some (.array _ _)|some (.struct _)=>true|_=>false)=true
 check:∀ e xs,xs.length=n→∀ w,(Instr.checkKey e 10000 dO (pv k xs)).run P w = .ok () w
 eq:∀ xs ys,xs.length=n→ys.length=n→∀ w,(Op.equal dO (pv k xs) (pv k ys)).run P w = .ok (xs==ys) w
theorem A9 {w:World} {p:bU} {k:IntKind} {v:Value}:∀ {xs:List Int},Rel w p v (ko k xs)→v=pv k xs:=by
 intro xs h;cases h with
 | agg cs _ aE=>
 have:∀ {l:List Value} {xs:List Int},bH w p l (xs.map (ah.int k))→l=xs.map (Value.int k):=by
  intro l
  induction l with
  | nil=>intro xs h;cases xs with|nil=>rfl|cons x r=>cases h
  | cons v l aW=>
   intro xs h;cases xs with
   | nil=>cases h
   | cons x r=>
    cases h with
    | cons _ _ _ _ aa ad=>
    cases aa;rw [aW ad];rfl
 unfold pv;rw [← this aE]
def mQ (k:IntKind) (l:List (List Int×ah)):List (ah×ah):=l.map fun e=>(ko k e.1,e.2)
theorem ME {P:Program} {dO:TypeId} {k:IntKind} {n:Nat} (gQ:sx P dO k n) {w:World} {p:bU} {xs:List Int} (ab:xs.length=n):∀ (cQ:List MapEntry) (l:List (List Int×ah)) (i:Nat),
  lR w p cQ (mQ k l)→(∀ e∈l,e.1.length=n) →
  match l.find? (fun e=>e.1==xs) with
  | none=>(Instr.findAsking dO (pv k xs) cQ i).run P w = .ok none w
  | some e=>∃ j val,(Instr.findAsking dO (pv k xs) cQ i).run P w = .ok (some (j,val)) w∧Rel w p val e.2:=by
 intro cQ
 induction cQ with
 | nil=>
  intro l i aE aC;cases l with
  | nil=>rfl
  | cons e r=>exact absurd aE.1.length (by simp only [mQ,ae0,ag7,i5,ag0];omega)
 | cons m cQ aW=>
  intro l i aE aC;cases l with
  | nil=>exact absurd aE.1.length (by simp only [mQ,ae0,ag7,i5,ag0];omega)
  | cons e r=>
   obtain ⟨ya,tk⟩:=aE;simp only [mQ,ae0] at ya tk;cases ya with|cons _ _ _ _ aA pN=>cases tk with|cons _ _ _ _ ar oi=>
   have he:=A9 aA;have bn:=gQ.eq xs e.1 ab (aC e i6) w;rw [← he] at bn;have aD:(xs==e.1)=(e.1==xs):=by rw [Bool.eq_iff_iff,am5,am5];exact ⟨fun h=>h.symm,fun h=>h.symm⟩
   rw [aD] at bn;rw [List.find?_cons];cases an:e.1==xs with
   | true=>
    rw [an] at bn;simp only;refine ⟨i,m.val,?_,ar⟩;unfold Instr.findAsking;simp only [aa',bn,i7];rfl
   | false=>
    rw [an] at bn;simp only;have:=aW r (i+1) ⟨pN,oi⟩ (fun e he=>aC e (i0 _ he));have wJ:(Instr.findAsking dO (pv k xs) (m::cQ) i).run P w=(Instr.findAsking dO (pv k xs) cQ (i+1)).run P w:=by
     conv=>lhs;unfold Instr.findAsking
     simp only [aa',bn,i7];rfl
    rw [wJ];exact this
section
variable {P:Program} {Γ:cw} {N:Nat} {env:Env} {s:ao} {o:Oper} {d:Nat} {ops:Array Oper} {rest:List Oper} {Q:b3→Env→ao→Prop} {L R:bb} {l:List Oper} {i:Nat} {J:ao→Prop}
theorem a6.yM (aR:bR P Γ) {t dO e1:TypeId} {x y:Operand} {ok:Bool} {it aH:bQ} {b n:Nat} {k:IntKind} {es:List (List Int×ah)} {xs:List Int} {z:ah} (gQ:sx P dO k n) (ai:o.op = .lookup t x y ok)
  (aM:Γ.get? t=some it) (bw:it.bL = .map dO e1) (bO:Γ.get? e1=some aH) (ab:aN env x=some (.map b)) (ax:aN env y=some (ko k xs)) (aB:xs.length=n) (qd:∀ e∈es,e.1.length=n)
  (au:s b=some (.map (mQ k es))) (bG:hF aH.zero=some z) {X:ah→ao→Prop} :
  a6 P N o env s (fun x ak=>x=lU ok z ((es.find? fun e=>e.1==xs).map (·.2))∧ak=s) X:=by
 refine a6.kA jd fun ro B a w p aK=>?_
 obtain ⟨info,wT,aa,ad,aj,-⟩:=aR.parts aM;obtain ⟨jT,kB,FE,zS,Sf,-,-,FF⟩:=aR.parts bO;have ay:wT = .map dO e1:=by rw [bw] at aj;cases wT<;>simp [en] at aj;rw [aj.1,aj.2]
 subst ay;have aE:=aK.aN ab;have kC:=A9 (aK.aN ax);generalize eo:a.eval x=dN at aE;cases aE;have FG:(zeroValue e1).run P w = .ok aH.zero w:=by simp [zeroValue,typeInfo,FE,FF]
 obtain ⟨cQ,clock,g1,g2,-⟩:=aK.wf.obj _ _ au;have aX:=ME gQ aB cQ.toList es 0 g2 qd;have FH:∃ val,(Instr.lookup t (.map (some b)) (a.eval y) ok).run P w = .ok val w∧Rel w p val (lU ok z ((es.find? fun e=>e.1==xs).map (·.2))):=by
  unfold Instr.lookup;rw [kC];simp only [aa',run_underlying ad,i7,yb g1 C,ae3,gQ.check _ xs aB,run_findKey_eq w gQ.wide];cases jB:es.find? fun e=>e.1==xs with
  | none=>
   rw [jB] at aX;simp only at aX;simp only [aX,i7,aa',FG,ae3,lU,at1];cases ok
   ·exact ⟨_,rfl,qH bG⟩
   ·exact ⟨_,rfl,.cr _ _ (.cons _ _ _ _ (qH bG) (.cons _ _ _ _ (.bool _) .nil))⟩
  | some e=>
   rw [jB] at aX;obtain ⟨j,val,ea,dr⟩:=aX;simp only [ea,i7,ae3,lU,al'];cases ok
   ·exact ⟨_,rfl,dr⟩
   ·exact ⟨_,rfl,.cr _ _ (.cons _ _ _ _ dr (.cons _ _ _ _ (.bool _) .nil))⟩
 obtain ⟨val,cR,eS⟩:=FH;refine ⟨val,w,s,p,_,?_,.refl w p,.refl s w p,aK.wf,⟨rfl,rfl⟩,eS⟩;unfold execOp;rw [ai];simp only [eo];exact gW cR
theorem a6.A' (aR:bR P Γ) {t dO e1:TypeId} {x y z:Operand} {it:bQ} {b n:Nat} {k:IntKind} {es:List (List Int×ah)} {xs:List Int} {v:ah} (gQ:sx P dO k n) (ai:o.op = .mapUpdate t x y z∨o.op = .insert t x y z)
  (aM:Γ.get? t=some it) (bw:it.bL = .map dO e1) (ab:aN env x=some (.map b)) (ax:aN env y=some (ko k xs)) (bG:aN env z=some v) (aB:xs.length=n) (qd:∀ e∈es,e.1.length=n)
  (au:s b=some (.map (mQ k es))) (zU:es.find? (fun e=>e.1==xs)=none) {X:ah→ao→Prop} :
  a6 P N o env s (fun _ ak=>ak=s.set b (.map (mQ k (es++[(xs,v)])))) X:=by
 refine a6.FC (by rcases ai with ai|ai<;>simp [gH,ai]) fun ro B a w p aK=>?_
 obtain ⟨info,wT,aa,ad,aj,-⟩:=aR.parts aM;have ay:wT = .map dO e1:=by rw [bw] at aj;cases wT<;>simp [en] at aj;rw [aj.1,aj.2]
 subst ay;have aE:=aK.aN ab;have MF:=aK.aN ax;have kC:=A9 MF;have FJ:=aK.aN bG;obtain ⟨cQ,clock,g1,g2,g3,g4⟩:=aK.wf.obj _ _ au;generalize eo:a.eval x=dN at aE;cases aE;have aX:=ME gQ aB cQ.toList es 0 g2 qd;rw [zU] at aX;simp only at aX;have cR:(Instr.mapUpdate t (.map (some b)) (a.eval y) (a.eval z)).run P w = .ok () { w with heap:=w.heap.setIfInBounds b (.map (cQ.push { key:=a.eval y,val:=a.eval z,born:=clock }) (clock+1)) }:=by
  unfold Instr.mapUpdate;rw [kC];simp only [aa',run_underlying ad,i7,yb g1 C,gQ.check _ xs aB,run_findKey_eq w gQ.wide,aX];simp [setObj,Sem.run,g1]
 have V1:∀ w',(Instr.mapUpdate t (.map (some b)) (a.eval y) (a.eval z)).run P w = .ok () w'→(execOp a.eval o).run P w = .ok .skip w':=by
  intro w' hw;unfold execOp;rcases ai with ai|ai<;>rw [ai]<;>simp only [eo]<;>simp only [aa',hw,i7,ae3]
 have eS:lR w p (cQ.push { key:=a.eval y,val:=a.eval z,born:=clock }).toList (mQ k (es++[(xs,v)])):=by
  unfold mQ;rw [as3,ae1];exact ⟨by rw [ae1,ae1];exact g2.1.append (.cons _ _ _ _ MF .nil),by rw [ae1,ae1];exact g2.2.append (.cons _ _ _ _ FJ .nil)⟩
 obtain ⟨cu,c2,fg⟩:=FI aK.wf au (mes':=cQ.push { key:=a.eval y,val:=a.eval z,born:=clock }) (clock':=clock+1) eS
  (by intro e he;simp only [as3,ae2,t6] at he;rcases he with he|rfl;have:=g3 e he;omega;simp)
  (by
   simp only [as3,ae1,ae0,ag7]
   rw [List.nodup_append]
   refine ⟨g4,by simp,?_⟩
   intro x ab y ax e
   simp only [t6] at ax
   obtain ⟨m,hm,rfl⟩:=af8.1 ab
   have:=g3 m hm
   omega) _ C
 exact ⟨_,_,p,V1 _ cR,cu,c2,fg,rfl⟩
theorem aL.yM (aR:bR P Γ) (I:Ok s L) {t dO e1:TypeId} {x y:Operand} {Ba:Bool} {it aH:bQ} {b n:Nat} {k:IntKind} {es:List (List Int×ah)} {xs:List Int} {z:ah} (gQ:sx P dO k n) (aq:c8 l env o) (ay:o.dst=some d) (a1:Nat.blt d N=true) (ai:o.op = .lookup t x y Ba)
  (aM:Γ.get? t=some it) (bw:it.bL = .map dO e1) (bO:Γ.get? e1=some aH) (ab:aN (b2 l env o) x=some (.map b)) (ax:aN (b2 l env o) y=some (ko k xs)) (aB:xs.length=n) (qd:∀ e∈es,e.1.length=n)
  (au:bp L (.own b) (.map (mQ k es)) R) (bG:hF aH.zero=some z)
  (h:aL (fun ak=>ak=aU s L) P Γ N l (i+1) rest Q ((d,lU Ba z ((es.find? fun e=>e.1==xs).map (·.2)))::env) (aU s L)):aL (fun ak=>ak=aU s L) P Γ N l i (o::rest) Q env (aU s L):=
 aL.calm aq ay a1 (fun _ e=>by subst e;exact a6.yM aR gQ ai aM bw bO ab ax aB qd (au.get I) bG) h
theorem ae.yM (aR:bR P Γ) (I:Ok s L) {t dO e1:TypeId} {x y:Operand} {Ba:Bool} {it aH:bQ} {b n:Nat} {k:IntKind} {es:List (List Int×ah)} {xs:List Int} {z:ah} (gQ:sx P dO k n) (aq:guardOf ops env o=some true) (ay:o.dst=some d) (a1:Nat.blt d N=true) (ai:o.op = .lookup t x y Ba)
  (aM:Γ.get? t=some it) (bw:it.bL = .map dO e1) (bO:Γ.get? e1=some aH) (ab:aN env x=some (.map b)) (ax:aN env y=some (ko k xs)) (aB:xs.length=n) (qd:∀ e∈es,e.1.length=n)
  (au:bp L (.own b) (.map (mQ k es)) R) (bG:hF aH.zero=some z)
  (h:ae P N ops rest Q ((d,lU Ba z ((es.find? fun e=>e.1==xs).map (·.2)))::env) (aU s L)):ae P N ops (o::rest) Q env (aU s L):=
 ae.op aq ay a1 (a6.yM aR gQ ai aM bw bO ab ax aB qd (au.get I) bG (X:=fun _ _=>False)) (fun x ak ⟨aa,ad⟩=>by subst aa;subst ad;exact h) (fun _ _ h=>h.elim)
theorem aL.A' (aR:bR P Γ) (I:Ok s L) {t dO e1:TypeId} {x y z:Operand} {it:bQ} {b n:Nat} {k:IntKind} {es:List (List Int×ah)} {xs:List Int} {v:ah} (gQ:sx P dO k n) (aq:c8 l env o) (ay:o.dst=none) (kj:k2 l.toArray i=true) (ai:o.op = .mapUpdate t x y z∨o.op = .insert t x y z)
  (aM:Γ.get? t=some it) (bw:it.bL = .map dO e1) (ab:aN (b2 l env o) x=some (.map b)) (ax:aN (b2 l env o) y=some (ko k xs)) (bG:aN (b2 l env o) z=some v) (aB:xs.length=n) (qd:∀ e∈es,e.1.length=n)
  (au:bp L (.own b) (.map (mQ k es)) R) (zU:es.find? (fun e=>e.1==xs)=none)
  (h:Ok s ((.own b,.map (mQ k (es++[(xs,v)])))::R)→Q .normal env (aU s ((.own b,.map (mQ k (es++[(xs,v)])))::R))):aL J P Γ N l i [o] Q env (aU s L):=
 aL.GU aq ay kj (a6.A' aR gQ ai aM bw ab ax bG aB qd (au.get I) zU (X:=fun _ _=>False)) (fun x ak aa=>by
  obtain ⟨b6,bW⟩:=au.put (.map (mQ k (es++[(xs,v)]))) I
  rw [aa,b6];exact h bW) (fun _ _ h=>h.elim)
end
theorem four {xs:List Int} (h:xs.length=4):∃ a b c d,xs=[a,b,c,d]:=by
 match xs,h with
 | [a,b,c,d],_=>exact ⟨a,b,c,d,rfl⟩
theorem two {xs:List Int} (h:xs.length=2):∃ a b,xs=[a,b]:=by
 match xs,h with
 | [a,b],_=>exact ⟨a,b,rfl⟩
theorem MG {T e:TypeId} {k:IntKind} {info:TypeInfo} (hu:(d0).underlying T=some (.array 2 e)) (aS:(d0).info? e=some info) (aD:(d0).cellsOf e=1) (he:(d0).underlying e=some (.int k))
  (aF:∀ (a b:Int) (w:World),(part e #[.int k a,.int k b] 0).run d0 w = .ok (.int k a) w∧(part e #[.int k a,.int k b] 1).run d0 w = .ok (.int k b) w) (d:Nat) (a b c1 aY:Int) (w:World) :
  (Op.equalIn (d+2) T (.agg #[.int k a,.int k b]) (.agg #[.int k c1,.int k aY])).run d0 w = .ok ([a,b]==[c1,aY]) w:=by
 rw [show d+2=(d+1)+1 from rfl,run_equalIn_array w _ _ _ hu aS,aD];have bn:∀ a b:Int,(Op.equalIn (d+1) e (.int k a) (.int k b)).run d0 w = .ok (a==b) w:=fun a b=>run_equalIn_int w d e k k a b he
 simp only [show ah8 2=[0,1] from rfl,Op.eqItems,aa',Nat.zero_mul,Nat.one_mul,(aF a b w).1,(aF a b w).2,(aF c1 aY w).1,(aF c1 aY w).2,i7,bn];cases aa:a==c1<;>cases ad:b==aY<;>simp_all
theorem MH:sx d0 319 .i64 4:=by
 refine ⟨by kernel_rfl,fun e xs ab w=>?_,fun xs ys ab ax w=>?_⟩
 ·obtain ⟨a,b,c,d,rfl⟩:=four ab
  kernel_rfl
 ·obtain ⟨a,b,c,d,rfl⟩:=four ab
  obtain ⟨c1,aY,ph,c4,rfl⟩:=four ax;have au:(d0).underlying 319 = some (.struct ((d0).fieldsOf 319)):=by kernel_rfl
  have aF:(d0).stoodInHeld 319 = false:=by kernel_rfl
  have aX:((d0).fieldsOf 319).toList=[{ name := "arg", type := 3, offset:=0,embedded:=false,tag := "", pkgPath := "consort/fact", byteOffset:=0 },{ name := "many", type := 3, offset:=1,embedded:=false,tag := "", pkgPath := "consort/fact", byteOffset:=8 },{ name := "path", type := 317, offset:=2,embedded:=false,tag := "", pkgPath := "consort/fact", byteOffset:=16 }]:=by kernel_rfl
  have hint:(d0).underlying 3 = some (.int .i64):=by kernel_rfl
  obtain ⟨info,aS⟩:=info_of_underlying hint;have jN:∀ a b c d:Int,(part 3 #[.int .i64 a,.int .i64 b,.int .i64 c,.int .i64 d] 0).run d0 w = .ok (.int .i64 a) w:=fun a b c d=>by kernel_rfl
  have vd:∀ a b c d:Int,(part 3 #[.int .i64 a,.int .i64 b,.int .i64 c,.int .i64 d] 1).run d0 w = .ok (.int .i64 b) w:=fun a b c d=>by kernel_rfl
  have V2:∀ a b c d:Int,(part 317 #[.int .i64 a,.int .i64 b,.int .i64 c,.int .i64 d] 2).run d0 w = .ok (.agg #[.int .i64 c,.int .i64 d]) w:=fun a b c d=>by kernel_rfl
  have Bb:=MG (T := 317) (e := 3) (k := .i64) fC aS fC hint (fun a b w=>⟨by kernel_rfl,by kernel_rfl⟩) 9997 c d ph c4 w;have ar:∀ a b c d:Int,pv .i64 [a,b,c,d] = .agg #[.int .i64 a,.int .i64 b,.int .i64 c,.int .i64 d]:=fun _ _ _ _=>rfl
  have bn:∀ a b:Int,(Op.equalIn 9999 3 (.int .i64 a) (.int .i64 b)).run d0 w = .ok (a==b) w:=fun a b=>run_equalIn_int w 9998 3 .i64 .i64 a b hint
  have Bb:(Op.equalIn 9999 317 (.agg #[.int .i64 c,.int .i64 d]) (.agg #[.int .i64 ph,.int .i64 c4])).run d0 w = .ok ([c,d]==[ph,c4]) w:=Bb;rw [ar,ar];unfold Op.equal;rw [show Op.maxDepth=9999+1 from rfl,run_equalIn_struct w _ _ _ _ au aF,aX];simp only [Op.eqFields,aa',ne_eq,reduceCtorEq,not_false_eq_true,ag5,jN,vd,V2,i7,bn,Bb];cases aa:a==c1<;>cases ad:b==aY<;>cases aj:c==ph<;>cases a8:d==c4<;>simp_all
def iI (sp:List Int):ah:=ko .i64 sp
def h8 (w:bz) (mb:Nat):ah := .bA [gl w,.map mb] 0
def kL (k:dn) (e3 bm:ah):List ah:=[.int .i64 k.low,.int .i64 k.high,e3,.int .u64 (k.fY:Int),.int .u64 (k.no:Int),.bool k.whole,.bool k.gz,bm]
def MI:List ah:=kL iW (.aG 1 [] .nil) (.aG 0 [] .nil)
abbrev SMap:=List (List Int×ah)
def rm (mb:Nat) (es:SMap):bV×dy:=(.own mb,.map (mQ .i64 es))
theorem MJ (Ho oE:ah) (V3:aZ (.aG 0 [] .nil) Ho) (wm:aZ (.aG 0 [] .nil) oE) (w:bz) (mb:Nat) (es:SMap) (qd:∀ e∈es,e.1.length=4) (hN ea dr dG:Int):bI d0 280 [h8 w mb,iI [hN,ea,dr,dG]] ([rm mb es]) (fun o K=>(∃ e,es.find? (fun e=>e.1==[hN,ea,dr,dG])=some e∧o = .ret e.2∧K=[rm mb es])∨(es.find? (fun e=>e.1==[hN,ea,dr,dG])=none∧∃ Hp,o = .ret (.ptr Hp 0)∧K=[rm mb (es++[([hN,ea,dr,dG],.ptr Hp 0)]),(.own Hp,.box 340 (kL iW Ho oE))])):=by
 have an:=bE;refine bI.bl al Tryz.func280 C C fun s I=>?_
 unfold rm at I ⊢;unfold h8;unfold gl e6
 repeat (first|(refine sa ?_)|refine ae.jJ I C C C C C C (fun b I=>?_)|(refine TM I ?_;clear I;intro I))
 refine aL.yM (xs:=[hN,ea,dr,dG]) al I MH C C C C C C C C C C qd a' C ?_;cases aX:es.find? (fun e=>e.1==[hN,ea,dr,dG]) with
 | some e=>
  simp only [al'];refine cl ?_;exact Fin.bC I C aT ba (.inl ⟨e,rfl,rfl,rfl⟩)
 | none=>
  simp only [at1]
  repeat (first
   | refine aL.step C ?_
   | refine aL.nil ?_)
  repeat (first|(refine sa ?_)|refine ae.jJ I C C C C C C (fun b I=>?_)|(refine TN ?_))
  refine af.wM I b (kL iW Ho oE) .here (.cons aT (.cons aT (.cons V3 (.cons aT (.cons aT (.cons aT (.cons aT (.one wm)))))))) (fun I=>?_);refine tB I ?_;intro I;refine aL.A' (xs:=[hN,ea,dr,dG]) al I MH C C C (.inl C) C C C C C C qd a' aX (fun I=>?_);refine gE ?_;exact Fin.bC I C aT ba (.inr ⟨by first|rfl|trivial,_,rfl,rfl⟩)
theorem MK (a DM jN bt:Int):aV d0 281 [iI [a,0,DM,jN],.int .i64 bt] (iI [a,1,bt,jN]):=by
 have an:=bE;refine aV.bl al Tryz.func281 C C fun s I=>?_
 unfold iI ko
 repeat (first|(refine sa ?_)|refine ae.jJ I C C C C C C (fun b I=>?_)|refine ae.dZ al I C C C C C C C (fun cB I=>?_)|(refine Gi I ?_;clear I;intro I))
 refine ae.arr al 0 C C C C C C C C C C ag ?_;refine ct I ?_;intro I;exact Fin.cE I (p3 C C (bp.get a' I) C) aT
theorem ML (a DM jN bt:Int):aV d0 281 [iI [a,1,DM,jN],.int .i64 bt] (iI [a,2,DM,bt]):=by
 have an:=bE;refine aV.bl al Tryz.func281 C C fun s I=>?_
 unfold iI ko
 repeat (first|(refine sa ?_)|refine ae.jJ I C C C C C C (fun b I=>?_)|refine ae.dZ al I C C C C C C C (fun cB I=>?_)|(refine Gi I ?_;clear I;intro I))
 refine ae.arr al 1 C C C C C C C C C C ag ?_;refine ct I ?_;intro I;exact Fin.cE I (p3 C C (bp.get a' I) C) aT
def pw (kb:Nat) (k:dn) (on:bV) (oE:ah):bb:=[(.own kb,.box 340 (kL k (.aG 1 (k.e3.map bg) on) oE)),(on,.row 3 1 k.e3.length)]
structure V4 (k:dn):Prop where
 fY:k.fY<2^64
 no:k.no<2^64
 e3:k.e3.length<bx
structure tT (w:bz) (x:cv):Prop where
 mL:gy w x.1=true
 leaf:x.1.cU=true
theorem tT.node {w:bz} {x:cv} (h:tT w x):hM w x.1=true:=by
 have:=h.mL;rw [oC,f4] at this;exact this.1
theorem tT.num {w:bz} {x:cv} (h:tT w x) : -1000000000≤x.1.n∧x.1.n≤1000000000:=by
 have aa:=h.node;simp only [hM,h.leaf,ag5,f4,g6] at aa;have p9:=aa.2.2.2.2.2.2.2;split at p9
 ·simp at p9;omega
 ·simp [j3] at p9;omega
theorem hU.n {P:Program} {Γ:cw} {N:Nat} {l:List Oper} {Q:b3→Env→ao→Prop} {m:Nat} {env:Env} {s:ao}:hU P Γ N l Q m env s []:=trivial
theorem hU.c {P:Program} {Γ:cw} {N:Nat} {l:List Oper} {Q:b3→Env→ao→Prop} {m:Nat} {env:Env} {s:ao} {i:Nat} {is:List Nat} (h:kh P Γ N l Q m env s i) (t:hU P Γ N l Q m env s is):hU P Γ N l Q m env s (i::is):=⟨h,t⟩
theorem V5 (w:bz) (hw:w.ps.length≤60) (kb:Nat) (k:dn) (aA:V4 k) (eQ : -1000000000≤k.low∧k.low≤1000000000 ∧ -1000000001≤k.high∧k.high≤1000000000) (on:bV) (oE:ah) (wm:fb oE=true) (x:cv) (ab:tT w x):bI d0 282 [.ptr kb 0,h7 x] (pw kb k on oE) (fun o K=>o = .ret (.cr [])∧∃ xc,K=pw kb (k.ask x) xc oE):=by
 have an:=bE;refine bI.bl al Tryz.func282 C C fun s I=>?_
 obtain ⟨cu,c2,fg⟩:=aA;have hJ:=w7.of ab.node ab.leaf;have oF:=ab.num;have hr:=ab.leaf;obtain ⟨f,neg⟩:=x;simp only at hJ oF hr;unfold pw at I ⊢;have b1:f.op=2∨f.op=3∨f.op=4:=by
  unfold av.cU at hr;simp at hr;omega
 unfold kL at I ⊢;unfold h7 p7 av.cells;rcases b1 with ad|ad|ad
 ·obtain ⟨cW,c6⟩:=hJ.cls ad
  obtain ⟨c,aD⟩:∃ c:Nat,f.cls=c:=⟨f.cls.toNat,by omega⟩;have MM:c<64:=by omega
  have k4:=A0 k.no c c2 MM;have kZ:=A0 k.fY c cu MM;have aO:k.ask (f,neg)=if neg then { k with no:=k.no|||2^c } else { k with fY:=k.fY|||2^c }:=by
   unfold dn.ask;rw [f7 ad,aD,i9]
  rw [ad,aD];cases neg with
  | true=>
   rw [f7 C] at aO;rw [aO];refine hq I ?_;intro I;exact Fin.bC I C aT ba ⟨rfl,on,rfl⟩
  | false=>
   rw [d7 bc] at aO;rw [aO];refine hq I ?_;intro I;exact Fin.bC I C aT ba ⟨rfl,on,rfl⟩
 ·have aO:k.ask (f,neg)=if neg then { k with low:=max k.low f.n } else { k with high:=min k.high (f.n-1),whole:=true }:=by
   unfold dn.ask;rw [d7 (by simp [ad]),f7 ad]
  rw [ad];cases neg with
  | true=>
   rw [f7 C] at aO;rw [aO];have e:(if f.n>k.low then f.n else k.low)=max k.low f.n:=by omega
   refine hq I ?_;intro I;exact Fin.bC I C aT (by rw [← e];exact ba) ⟨rfl,on,rfl⟩
  | false=>
   rw [d7 bc] at aO;rw [aO];have da:ac' .i64 (f.n-1)=f.n-1:=ev ag ag;have e:(if f.n-1<k.high then f.n-1 else k.high)=min k.high (f.n-1):=by omega
   refine bK ?_;refine af.r6 al mixed C (bf.run C ?_);refine bf.eC 6 al I C C C C C C C C a' b5 ?_;refine bf.run C ?_;refine bf.pure 11 C C C C C (.x C) ?_;refine bf.run C ?_;refine bf.cX 15 al I C C C C C C C C C C C a' b5 (fun I=>?_);refine bf.run C ?_;refine bf.cX 18 al I C C C C C C C C C C C a' b5 (fun I=>?_);refine bf.run C ?_;refine bf.done C ?_;refine fV ?_;have vc:Ok s (pw kb { k with high:=(if ac' .i64 (f.n-1)<k.high then ac' .i64 (f.n-1) else k.high),whole:=true } on oE):=I;rw [da,e] at vc;exact Fin.bC (L:=pw kb { k with high:=(if ac' .i64 (f.n-1)<k.high then ac' .i64 (f.n-1) else k.high),whole:=true } on oE) I C aT (by rw [da,e];exact aJ.all _) ⟨rfl,on,rfl⟩
 ·rw [ad]
  cases neg with
  | true=>
   have aO:k.ask (f,true)={ k with e3:=k.e3++[f.n] }:=by
    unfold dn.ask;rw [d7 (by simp [ad]),d7 (by simp [ad]),f7 C]
   rw [aO];refine bK ?_;refine af.r6 al mixed C (bf.run C ?_);refine bf.eC 5 al I C C C C C C C C a' b5 ?_;refine bf.run C ?_;refine bf.ho 10 al I C C C C C C C C C eH C C C C C C C C a' ir lC ag (fun Bc I=>?_);refine bf.run C ?_;refine bf.cX 14 al I C C C C C C C C C C C a' b5 (fun I=>?_);refine bf.run C ?_;refine bf.done C ?_;refine fV ?_;have eN:pw kb { k with e3:=k.e3++[f.n] } (.own Bc) oE=[(.own kb,.box 340 [.int .i64 k.low,.int .i64 k.high,.aG 1 (k.e3.map bg++[.int .i64 f.n]) (.own Bc),.int .u64 (k.fY:Int),.int .u64 (k.no:Int),.bool k.whole,.bool k.gz,oE]),(.own Bc,.row 3 1 (k.e3.length+1))]:=by
    unfold pw kL;simp [bg]
   exact Fin.bC I C aT (K:=pw kb { k with e3:=k.e3++[f.n] } (.own Bc) oE) (by rw [eN];exact ba) ⟨rfl,.own Bc,rfl⟩
  | false=>
   have aO:k.ask (f,false)={ k with low:=max k.low f.n,high:=min k.high f.n,whole:=true }:=by
    unfold dn.ask;rw [d7 (by simp [ad]),d7 (by simp [ad]),d7 bc]
   rw [aO];have b6:(if f.n>k.low then f.n else k.low)=max k.low f.n:=by omega
   have bW:(if f.n<k.high then f.n else k.high)=min k.high f.n:=by omega
   refine bK ?_;refine af.r6 al mixed C (bf.run C ?_);refine bf.many C (hU.c (kh.mk (i:=7) C C C C (a6.eC al I C C C a' C (X:=fun _ _=>False)) ?_ (fun _ _ h=>False.elim h)) (hU.c (kh.mk (i:=16) C C C C (a6.eC al I C C C a' C (X:=fun _ _=>False)) ?_ (fun _ _ h=>False.elim h)) hU.n))
   ·rintro _ _ ⟨rfl,rfl⟩
    refine bf.pure 11 C C C C C (.x C) ?_;refine bf.run C ?_;refine bf.many C (hU.c (kh.mk (i:=16) C C C C (a6.eC al I C C C a' C (X:=fun _ _=>False)) ?_ (fun _ _ h=>False.elim h)) hU.n)
    ·rintro _ _ ⟨rfl,rfl⟩
     refine bf.pure 20 C C C C C (.x C) ?_;refine bf.run C ?_;refine bf.cX 24 al I C C C C C C C C C C C a' b5 (fun I=>?_);refine bf.run C ?_;refine bf.cX 28 al I C C C C C C C C C C C a' b5 (fun I=>?_);refine bf.run C ?_;refine bf.cX 31 al I C C C C C C C C C C C a' b5 (fun I=>?_);refine bf.run C ?_;refine bf.done C ?_;refine fV ?_;exact Fin.bC I C aT (by rw [← b6,← bW];exact ba) ⟨rfl,on,rfl⟩
   ·rintro _ _ ⟨rfl,rfl⟩
    refine bf.pure 20 C C C C C (.x C) ?_;refine bf.run C ?_;refine bf.many C (hU.c (kh.mk (i:=7) C C C C (a6.eC al I C C C a' C (X:=fun _ _=>False)) ?_ (fun _ _ h=>False.elim h)) hU.n)
    ·rintro _ _ ⟨rfl,rfl⟩
     refine bf.pure 11 C C C C C (.x C) ?_;refine bf.run C ?_;refine bf.cX 24 al I C C C C C C C C C C C a' b5 (fun I=>?_);refine bf.run C ?_;refine bf.cX 28 al I C C C C C C C C C C C a' b5 (fun I=>?_);refine bf.run C ?_;refine bf.cX 31 al I C C C C C C C C C C C a' b5 (fun I=>?_);refine bf.run C ?_;refine bf.done C ?_;refine fV ?_;exact Fin.bC I C aT (by rw [← b6,← bW];exact ba) ⟨rfl,on,rfl⟩
end Go.Proofs.YtnafpeohfbglmaaGreat
