import Derived.Test.YtimbpjfhekcofaaGreatKg
set_option linter.unusedVariables false
set_option linter.unusedSimpArgs false
set_option maxRecDepth 100000
set_option maxHeartbeats 4000000
open Array renaming ext_getElem?→av6,getElem?_modify→aq1,getElem?_toList→as7,length_toList→ai8
open Bool renaming and_eq_true→d6,false_and→aa',false_eq_true→aj2,not_false→an4,not_true→an5,true_and→i8
open Int renaming le_refl→ap8,toNat_natCast→ai7
open Go.IntKind renaming wrap→ai'
open List renaming all_cons→aq6,all_eq_true→ai4,any_eq_false→al2,append_assoc→aj0,append_nil→d7,getD_eq_getElem?_getD→d9,getElem?_append_left→ak3,getElem?_eq_getElem→f8,getElem?_map→aj6,length_append→f0,length_cons→i9,length_drop→an0,length_filter_le→al8,length_filter_lt_length_iff_exists→al9,length_map→f6,length_nil→ai9,length_singleton→ad',length_take→ah',map_append→t8,mem_append_left→al3,mem_append_right→ap1,mem_append→ab',mem_cons_of_mem→f9,mem_cons_self→g8,mem_cons→ai1,mem_filter→aj1,mem_map_of_mem→av0,mem_map→ae',mem_of_find?_eq_some→al6,mem_of_getElem?→d8,mem_range→al4,mem_singleton→i7,nil_append→d0,range→ak6,size_toArray→ap2,take_append_drop→am2,take_length→ag',take_zero→an7
open Nat renaming and_one_is_mod→av3,le_refl→t7,le_trans→al7,lt_succ_self→ar8,zero_add→aj8,zero_le→g9
open Option renaming getD_some→al1
open Go.Proofs.Tryz renaming prog→d4
namespace Go.Proofs.YtimbpjfhekcofaaGreat
theorem CI {p:Prop} (h:p:=by repeat (first|exact trivial|refine ⟨⟨_,rfl,aH⟩,?_⟩|refine ⟨⟨_,rfl,aR.of_eq (by (first|rw [lo (by omega)]|(congr 1;(try rw [dq]);show _=max _ _;split<;>omega)|(congr 1;(try rw [dq]);show _=min _ _;split<;>omega)))⟩,?_⟩)):p:=h
theorem St {p:Prop} (h:p:=by repeat (first|exact trivial|refine ⟨⟨_,rfl,aH⟩,?_⟩|refine ⟨⟨_,rfl,aR.of_eq (by (rw [ahN]))⟩,?_⟩)):p:=h
theorem Su {p:Prop} (h:p:=by rw [List.getD_eq_getElem?_getD,List.getElem?_eq_getElem (by omega)];exact List.getElem_mem _):p:=h
theorem Ab {p:Prop} (h:p:=by show az _ [(_,.row _ _ (xs (j+1)).length)] _;rw [al];exact az.fQ _):p:=h
theorem Kx {p:Prop} (h:p:=by rw [List.length_append,List.length_singleton,dz,ev,List.map_append];rfl):p:=h
theorem Ac {p:Prop} (h:p:=by simp only [List.length_map,List.length_singleton];omega):p:=h
theorem tr {p:Prop} (h:p:=by show M.length-(j+1)<M.length-j;omega):p:=h
theorem wv {p:Prop} (h:p:=by show L.length-(j+1)<L.length-j;omega):p:=h
theorem CJ {p:Prop} (h:p:=by show l.length-(i+1)<l.length-i;omega):p:=h
theorem Ad {p:Prop} (h:p:=by intro y ar;simp at ar;subst ar;rfl):p:=h
abbrev ns:=Int×Int
structure Ky where
 ad2:Int
 n:Int
 mj:List ns
 deriving Inhabited,DecidableEq
structure oL where
 c0:List ji
 gu:List Ky
 fuel:Nat
 deriving Inhabited
inductive Ae where
 | val (v:ns) (s:oL)
 | stop (e:Int) (s:oL)
inductive ag4 where
 | mj (l:List ns) (s:oL)
 | stop (e:Int) (s:oL)
structure Sv where
 none:Bool
 rest:List Int
 Jp:Bool
 ag5:Bool
 ag6:wb
 args:List ns
def Af:wb:=⟨[],false,[],[],false,[]⟩
def ad3 (args:List ns):Sv:=⟨true,[],false,false,Af,args⟩
def CK (p:aU) (c s:Int):ns:=match th p c s with
 | some n=>(1,n)
 | none=>(2,0)
def Ag (p:aU) (c:Int):ji:=⟨c,(l1 p c).map (CK p c)⟩
section
variable (p:aU) (B:Int→Sv→oL→Ae)
def Kz (args:List ns):List Int→oL→Option Int×oL
  | [],s=>(none,s)
  | m::r,s=>match B m (ad3 args) s with
    | .val _ s=>Kz args r s
    | .stop e s=>(some e,s)
def ad4 (x:wb) (args:List ns) (s:oL):Ae:=match Kz B args x.mH s with
  | (some e,s) => .stop e s
  | (none,s)=>match x.oI with
    | [] => .stop 3 s
    | m::r=>match B m ⟨false,r,x.Jp,false,x,args⟩ s with
      | .stop e s => .stop e s
      | .val v s=>match Kz B args x.nk s with
        | (some e,s) => .stop e s
        | (none,s) => .val v s
def DR (gen:Int) (args:List ns) (s:oL):Ae:=match qb p (fF p) (ad1 p gen s.c0 args) with
  | none => .stop 2 s
  | some x=>match x.pz with
    | m::r=>B m ⟨false,r,x.zS,true,x,args⟩ s
    | []=>if x.zS then .stop 3 s else ad4 B x args s
end
structure ad5 where
 fin:Int
 val:ns
 gu:List Ky
 c0:List ji
 fuel:Nat
def Ae.done:Ae→ad5
 | .val v s=>⟨1,v,s.gu,s.c0,s.fuel⟩
 | .stop e s=>⟨e,(0,0),s.gu,s.c0,s.fuel⟩
def KA (v:ns) (x:ae):Bool:=if x.op=2 then decide (v.1=x.cls) else decide (v.1=1)&&(if x.op=3 then decide (v.2<x.n) else decide (v.2=x.n))
def CL (v:ns) (x:ae):Bool:=KA v (hP x).1 != (hP x).2
theorem Ah {arg:Int} {x:ae} (h:wk arg x):hP x=(x,false)∧hP x.not=(x,true):=by
 have:x.op≠5:=by
  rcases h with rfl|rfl|⟨o,n,ai,-,rfl⟩
  ·show (2:Int)≠5;decide
  ·show (2:Int)≠5;decide
  ·show o≠5;omega
 exact ⟨by unfold hP;rw [f4 this],rfl⟩
theorem ad6 {w:bo} {f:ae} {arg:Int} {x:ae} (h:x∈k5 w f arg):∃ y∈td f arg,(x=y∧j9 w f y=true)∨(x=y.not∧j9 w f y.not=true):=by
 unfold k5 at h;obtain ⟨y,ar,e⟩:=List.mem_filterMap.1 h;refine ⟨y,ar,?_⟩;split at e
 ·rename_i U;cases e;exact .inl ⟨rfl,U⟩
 ·split at e
  ·rename_i U;cases e;exact .inr ⟨rfl,U⟩
  ·cases e
mutual
def Sw (p:aU) (arg m:Int):pC→List ae
 | .node op n ks=>
  if op=1 then [.mk 4 arg [] 0 n []]
  else if op=2 then [fl arg 2]
  else if op=3 then (if m≥0∧n<p.dX.getD (jY p m).toNat 0 then (k5 (bU p) (kH p m) n).map (n0 arg) else [])
  else if op=6 then tj p arg n
  else if op=17 then ad7 p arg m ks
  else if 12≤op∧op≤16 then [fl arg 1]
  else []
def ad7 (p:aU) (arg m:Int):List pC→List ae
 | []=>[]
 | k::_=>Sw p arg m k
end
def KB (p:aU) (m:Int):Int→List pC→List ae
 | _,[]=>[]
 | i,k::r=>Sw p i m k++KB p m (i+1) r
def Sx (p:aU) (gen:Int) (known:List ae):List Nat:=(nX (bU p) (dG p gen)).filter fun v=>ub (bU p) (known.map hP++oF (dG p gen) v)
def KC (t:en) (m:Int):Prop:=t.runs.getD m.toNat false=true
def Sy (t:en) (m:Int):Prop:=t.hk.getD m.toNat false=true
def ad8 (p:aU) (t:en) (m:Int) (gen:Int) (ks:List pC):Prop:=
 (qe p gen=true→∀ k,hG p k→jY p k=gen→KC t k∧Sy t k) ∧
 (qe p gen=false→∀ v∈Sx p gen (KB p m 0 ks),(∀ k∈jH p gen (dG p gen) v,Sy t k)∧∀ k∈se p (jH p gen (dG p gen) v),KC t k)
def ad9 (p:aU) (m:Int) (gen:Int) (ks:List pC):Prop:=qe p gen=false∧∀ v∈Sx p gen (KB p m 0 ks),hF p (jH p gen (dG p gen) v) 1≠[]
mutual
def KD (p:aU) (t:en) (m:Int):Int→pC→Prop
 | size,.node op n ks=>(op=5→ad8 p t m n ks∧vS p n=true∧(ks.length:Int)=p.dX.getD n.toNat 0)∧(op=18→0≤m∧kI p m=true)∧(op=6∨op=8→3≤n∧n<3+(p.ch.length:Int))∧(op=1→lr n=true)∧(op=3→0≤n∧n<size)∧(op=17→ks≠[])∧rf p t m size (decide (op=9)) 0 ks
def rf (p:aU) (t:en) (m:Int):Int→Bool→Nat→List pC→Prop
 | _,_,_,[]=>True
 | size,isLet,i,k::r=>KD p t m (if isLet&&i==1 then size+1 else size) k∧rf p t m size isLet (i+1) r
def aea (p:aU) (m:Int):pC→Prop
 | .node op n ks=>(op=5→ad9 p m n ks)∧Sz p m ks
def Sz (p:aU) (m:Int):List pC→Prop
 | []=>True
 | k::r=>aea p m k∧Sz p m r
end
theorem rf.at {p:aU} {t:en} {m size:Int} {isLet:Bool}:∀ {ks:List pC} {i j:Nat} {k:pC},rf p t m size isLet i ks→ks[j]? = some k→KD p t m (if isLet&&i+j==1 then size+1 else size) k
  | x::r,i,0,k,h,ax=>by
    rw [rf] at h;have:x=k:=by simpa using ax
    subst this;exact h.1
  | x::r,i,j+1,k,h,ax=>by
    rw [rf] at h;have:=rf.at h.2 (by simpa using ax:r[j]? = some k);rwa [show i+1+j=i+(j+1) by omega] at this
theorem rf.mk {p:aU} {t:en} {m size:Int} {isLet:Bool}:∀ {ks:List pC} {i:Nat},(∀ (j:Nat) (k:pC),ks[j]? = some k→KD p t m (if isLet&&i+j==1 then size+1 else size) k)→rf p t m size isLet i ks
  | [],i,_=>by rw [rf];trivial
  | k::r,i,h=>by
    rw [rf];refine ⟨h 0 k C,rf.mk fun j x aa=>?_⟩;have:=h (j+1) x uY;rwa [show i+(j+1)=i+1+j by omega] at this
def aeb (t:en) (gu:List Ky):Prop:=∀ e∈gu,e.ad2=1→KC t e.n
structure FZ (p:aU) (t:en) (s:oL):Prop where
 obj:xH (bU p) s.c0
 aL:aeb t s.gu
def Ai (P:Nat→Prop) (c0:List ji):Prop:=∀ o∈c0,∀ v∈o.bB,v.1=3→¬ P v.2.toNat
def F0 (P:Nat→Prop) (n:Nat):Prop:=∀ i,P i→i<n
structure yw (p:aU) (t:en) (P:Nat→Prop) (s an:oL):Prop where
 inv:FZ p t an
 len:s.c0.length≤an.c0.length
 aec:Ai P an.c0
 same:∀ i,P i→an.c0[i]? = s.c0[i]?
def kxx (SA:Prop) (p:aU) (t:en) (P:Nat→Prop) (s:oL):Ae→Prop
 | .val v an=>yw p t P s an∧zg an.c0.length v=true∧(v.1=3→¬ P v.2.toNat)
 | .stop e an=>FZ p t an∧(SA→e≠2)
theorem yw.refl {p:aU} {t:en} {P:Nat→Prop} {s:oL} (aQ:FZ p t s) (av:Ai P s.c0):yw p t P s s:=⟨aQ,t7 _,av,fun _ _=>rfl⟩
theorem yw.trans {p:aU} {t:en} {P:Nat→Prop} {a b c:oL} (h:yw p t P a b) (k:yw p t P b c):yw p t P a c:=⟨k.inv,al7 h.len k.len,k.aec,fun i aQ=>(k.same i aQ).trans (h.same i aQ)⟩
theorem F0.mono {P:Nat→Prop} {n m:Nat} (h:F0 P n) (av:n≤m):F0 P m:=fun i aQ=>Nat.lt_of_lt_of_le (h i aQ) av
theorem SB {p6:List Int}:∀ {l:List hD} {seen:List Int},rZ p6 seen l=true→∀ x∈l,lr x.n=true
  | y::r,seen,h,x,aa=>by
    rw [rZ] at h;simp only [d6] at h;rcases ai1.1 aa with rfl|aa
    · exact h.2.2.1
    · exact SB h.2.2.2 x aa
theorem SC {p:aU}:∀ {l:List gG} {i:Nat},qW p i l=true→∀ c∈l,∀ x∈c.inits,lr x.n=true
  | d::r,i,h,c,aw=>by
    rw [qW,d6] at h;rcases ai1.1 aw with rfl|aw
    · have:=h.1
      unfold zA at this;rw [d6] at this;exact SB this.2
    · exact SC h.2 c aw
theorem aed {p:aU} (aB:cS p=true) {c s n:Int} (h:th p c s=some n):lr n=true:=by
 have aw:=Jo aB;unfold r0 at aw;simp only [d6] at aw;unfold th at h;obtain ⟨d,-,aA⟩:=List.exists_of_findSome?_eq_some h;unfold sd at aA;split at aA
 ·cases aA
 ·rw [Option.map_eq_some_iff] at aA
  obtain ⟨x,aa,rfl⟩:=aA;have hm:=al6 aa;rw [d9] at hm;cases ax:p.ch[(d-3).toNat]? with
  | none=>rw [ax] at hm;cases hm
  | some k=>
   rw [ax] at hm;exact SC aw.2.2.2 k (d8 ax) x hm
theorem Ai.put {P:Nat→Prop} {c0:List ji} (h:Ai P c0) {o:ji} {i:Nat} (ai:∀ v∈o.bB,v.1=3→¬ P v.2.toNat):Ai P (c0.set i o):=fun x aa=>by
 rcases List.mem_or_eq_of_mem_set aa with aa|rfl
 ·exact h x aa
 ·exact ai
theorem aee (p:aU):(bU p).ps.length=p.ch.length:=f6 _
section
variable {SA:Prop} {p:aU} (aB:cS p=true) {t:en} {P:Nat→Prop} {s:oL} (aQ:FZ p t s) (av:Ai P s.c0) (aq:F0 P s.c0.length)
include aQ
include aB in
include aB in
end
theorem SD {a:Int} {y:ae} (h:wk a y) (arg:Int):wk arg (n0 arg y)∧n0 arg y.not=(n0 arg y).not∧∀ v,KA v (n0 arg y)=KA v y:=by
 rcases h with rfl|rfl|⟨o,n,ai,av,rfl⟩
 ·exact ⟨.inl C,rfl,fun _=>rfl⟩
 ·exact ⟨.inr (.inl C),rfl,fun _=>rfl⟩
 ·rcases ai with rfl|rfl
  ·exact ⟨.inr (.inr ⟨3,n,.inl C,av,rfl⟩),rfl,fun _=>rfl⟩
  ·exact ⟨.inr (.inr ⟨4,n,.inr C,av,rfl⟩),rfl,fun _=>rfl⟩
def wx (arg:Int) (x:ae):Prop:=∃ y,wk arg y∧(x=y∨x=y.not)
theorem wx.split {arg:Int} {x:ae} (h:wx arg x):wk arg (hP x).1:=by
 obtain ⟨y,ar,rfl|rfl⟩:=h
 ·rw [(Ah ar).1];exact ar
 ·rw [(Ah ar).2];exact ar
theorem wx.aef {a:Int} {x:ae} (h:wx a x) (arg:Int):wx arg (n0 arg x)∧∀ v,CL v (n0 arg x)=CL v x:=by
 obtain ⟨y,ar,rfl|rfl⟩:=h
 ·obtain ⟨U,-,aj⟩:=SD ar arg
  refine ⟨⟨_,U,.inl C⟩,fun v=>?_⟩;unfold CL;rw [(Ah U).1,(Ah ar).1,aj]
 ·obtain ⟨U,ad,aj⟩:=SD ar arg
  refine ⟨⟨_,U,.inr ad⟩,fun v=>?_⟩;unfold CL;rw [ad,(Ah U).2,(Ah ar).2,aj]
theorem SE (arg c:Int) (h:c=1∨c=2):wx arg (fl arg c):=by
 rcases h with rfl|rfl
 ·exact ⟨_,.inl C,.inl C⟩
 ·exact ⟨_,.inr (.inl C),.inl C⟩
theorem aeg {w:bo} {f:ae} (aZ:dU w f=true) {a:Int} {x:ae} (h:x∈k5 w f a):wx a x:=by
 obtain ⟨y,ar,h|h⟩:=ad6 h
 ·exact ⟨y,Fw aZ ar,.inl h.1⟩
 ·exact ⟨y,Fw aZ ar,.inr h.1⟩
theorem SF {w:bo} {arg c:Int} (bn:0≤arg) (aj:arg<3) (CM:0≤c) (cx:c<3+(w.ps.length:Int)):fr w (fl arg c)=true:=by
 unfold fl;have e:fr w (.mk 2 arg [] c 0 [])=(decide (arg≥0)&&(decide (arg<3)&&(decide (c≥0)&&decide (c<3+(w.ps.length:Int))))):=by
  unfold fr;simp only [ae.op,ae.kids,ae.c7,ae.arg,ae.path,ae.cls,ae.n];simp [qM];rfl
 rw [e,i6 bn,i6 aj,i6 CM,i6 cx];rfl
theorem SG {p:aU} {c s:Int} (al:s∈l1 p c):0≤s∧s<((bU p).owner.length:Int)∧(lu (bU p) c).testBit ((bU p).owner.getD s.toNat 0).toNat=true:=by
 unfold l1 tY at al;obtain ⟨k,ax,rfl⟩:=ae'.1 al;obtain ⟨U,ad⟩:=aj1.1 ax;rw [al4] at U;refine ⟨by omega,by omega,?_⟩;rw [ai7];exact ad
theorem SH {p:aU} (aB:cS p=true) {arg c s:Int} (bn:0≤arg) (aj:arg<3) (al:s∈l1 p c):fr (bU p) (nZ p arg c s)=true∧(nZ p arg c s).c7=true∧(nZ p arg c s).op≠5∧(nZ p arg c s).arg=arg:=by
 obtain ⟨DV,s1,-⟩:=SG al;unfold nZ;cases aq:th p c s with
 | none=>
  refine ⟨?_,rfl,by show (2:Int)≠5;decide,rfl⟩;have e:fr (bU p) (.mk 2 arg [s] 2 0 [])=(decide (arg≥0)&&(decide (arg<3)&&((decide (s≥0)&&decide (s<((bU p).owner.length:Int)))&&decide ((2:Int)<3+((bU p).ps.length:Int))))):=by
   unfold fr;simp only [ae.op,ae.kids,ae.c7,ae.arg,ae.path,ae.cls,ae.n];simp [qM];rfl
  simp only;rw [e,i6 bn,i6 aj,i6 DV,i6 s1,i6 ak];rfl
 | some n=>
  refine ⟨?_,rfl,by show (4:Int)≠5;decide,rfl⟩;have e:fr (bU p) (.mk 4 arg [s] 0 n [])=(decide (arg≥0)&&(decide (arg<3)&&((decide (s≥0)&&decide (s<((bU p).owner.length:Int)))&&lr n))):=by
   unfold fr;simp only [ae.op,ae.kids,ae.c7,ae.arg,ae.path,ae.cls,ae.n];simp [qM];rfl
  simp only;rw [e,i6 bn,i6 aj,i6 DV,i6 s1,aed aB aq];rfl
theorem aeh {p:aU} {c i:Int} {c0:List ji} (ai:c0[i.toNat]? = some (Ag p c)) {s:Int} (al:s∈l1 p c):zh (bU p) c0 (3,i) [s]=some (CK p c s):=by
 have KE:c0.getD i.toNat default=Ag p c:=by rw [d9,ai];rfl
 obtain ⟨-,-,aq⟩:=SG al;rw [zh];simp only [KE];rw [f4 dh];have cm:(Ag p c).cls=c:=rfl;rw [cm,f7 aq,zh];congr 1;show ((l1 p c).map (CK p c)).getD (((l1 p c).findIdx? (· == s)).getD 0) (0,0)=CK p c s;cases aZ:(l1 p c).findIdx? (· == s) with
 | none=>
  rw [List.findIdx?_eq_none_iff] at aZ;have:=aZ s al;simp at this
 | some k=>
  rw [List.findIdx?_eq_some_iff_getElem] at aZ;obtain ⟨U,ad,-⟩:=aZ;rw [al1,d9,aj6,f8 U];simp only [ao7] at ad;rw [ad];rfl
theorem aei {p:aU} (aB:cS p=true) {arg c:Int} (bn:0≤arg) (aj:arg<3) (aw:3≤c∧c<3+(p.ch.length:Int)) {x:ae} (aa:x∈tj p arg c) :
  (fr (bU p) (hP x).1=true∧(hP x).1.c7=true∧(hP x).1.arg=arg)∧∀ (c0:List ji) (args:List ns) (v:ns),args[arg.toNat]? = some v→v.1=3→c0[v.2.toNat]? = some (Ag p c)→xA (bU p) c0 args (hP x).1 = !(hP x).2:=by
 have hw:=py aB;have mS:=aee p;have Hg:(lu (bU p) c).testBit c.toNat=true:=D0 hw ak;have Cq:∀ (d:Int) (c0:List ji) (args:List ns) (v:ns),args[arg.toNat]? = some v→v.1=3→c0[v.2.toNat]? = some (Ag p c)→xA (bU p) c0 args (fl arg d)=(lu (bU p) c).testBit d.toNat:=fun d c0 args v bp aD ai=>by
  have aA:args.getD arg.toNat (0,0)=v:=by rw [d9,bp];rfl
  have KE:c0.getD v.2.toNat default=Ag p c:=by rw [d9,ai];rfl
  unfold xA fl;simp only [ae.arg,ae.path,ae.op,ae.cls,aA,zh,ak2];rw [f7 aD,KE];rfl
 unfold tj at aa;rcases ab'.1 aa with aa|aa
 ·rcases ai1.1 aa with rfl|aa
  ·have e:hP (fl arg c)=(fl arg c,false):=rfl
   rw [e];refine ⟨⟨SF bn aj ak ak,rfl,rfl⟩,fun c0 args v bp aD ai=>?_⟩;rw [Cq c c0 args v bp aD ai,Hg];rfl
  ·obtain ⟨i,aQ,rfl⟩:=ae'.1 aa
   obtain ⟨U,ad⟩:=aj1.1 aQ;rw [al4] at U;have e:hP (fl arg ((i:Int)+3)).not=(fl arg ((i:Int)+3),true):=rfl;rw [e];refine ⟨⟨SF bn aj ak ak,rfl,rfl⟩,fun c0 args v bp aD ai=>?_⟩;rw [Cq _ c0 args v bp aD ai,show ((i:Int)+3).toNat=3+i by omega];simpa using ad
 ·obtain ⟨s,al,rfl⟩:=ae'.1 aa
  obtain ⟨g1,g2,g3,g4⟩:=SH aB (arg:=arg) bn aj al;have e:hP (nZ p arg c s)=(nZ p arg c s,false):=by unfold hP;rw [f4 g3]
  rw [e];refine ⟨⟨g1,g2,g4⟩,fun c0 args v bp aD ai=>?_⟩;have aA:args.getD arg.toNat (0,0)=v:=by rw [d9,bp];rfl
  have gZ:=aeh ai al;have qv:((3:Int),v.2)=v:=by rw [← aD]
  rw [qv] at gZ;have zo:CK p c s=match th p c s with
   | some n=>(1,n)
   | none=>(2,0):=rfl
  unfold nZ;cases aq:th p c s with
  | none=>
   rw [aq] at zo;unfold xA;simp only [ae.arg,ae.path,ae.op,ae.cls,aA,gZ,zo,ak2];rw [f4 dh,ad0];rfl
  | some n=>
   rw [aq] at zo;unfold xA;simp only [ae.arg,ae.path,ae.op,ae.n,aA,gZ,zo];rw [f4 dh];simp
structure ag7 (p:aU) (args:List ns) (m:Int):Prop where
 ag8:hG p m
 len:(args.length:Int)=p.dX.getD (jY p m).toNat 0
 steady:∀ n:Int,0≤n→∀ v,args[n.toNat]? = some v→∀ x∈k5 (bU p) (kH p m) n,CL v x=true
def Aj (w:bo) (x:ae):Prop:=(x.op=5→∃ y,x.kids=[y])∧fr w (hP x).1=true∧(hP x).1.c7=true
theorem F1 {w:bo} {arg:Int} (bn:0≤arg) (aj:arg<3) {x:ae} (h:wx arg x):Aj w x:=by
 obtain ⟨g1,g2,-⟩:=Rr (w:=w) bn aj h.split;rw [p0,d6] at g1;refine ⟨fun ai=>?_,g1.1,g2⟩;obtain ⟨y,ar,rfl|rfl⟩:=h
 ·rcases ar with rfl|rfl|⟨o,n,cW,-,rfl⟩
  ·exact absurd ai (by show (2:Int)≠5;decide)
  ·exact absurd ai (by show (2:Int)≠5;decide)
  ·have ai:o=5:=ai
   omega
 ·exact ⟨y,rfl⟩
theorem aej {p:aU} (aB:cS p=true) {arg c:Int} (bn:0≤arg) (aj:arg<3) (aw:3≤c∧c<3+(p.ch.length:Int)) {x:ae} (aa:x∈tj p arg c):Aj (bU p) x:=by
 obtain ⟨⟨g1,g2,-⟩,-⟩:=aei aB bn aj aw aa;refine ⟨fun ai=>?_,g1,g2⟩;unfold tj at aa;rcases ab'.1 aa with aa|aa
 ·rcases ai1.1 aa with rfl|aa
  ·exact absurd ai (by show (2:Int)≠5;decide)
  ·obtain ⟨i,-,rfl⟩:=ae'.1 aa
   exact ⟨_,rfl⟩
 ·obtain ⟨s,al,rfl⟩:=ae'.1 aa
  exact absurd ai (SH aB (arg:=arg) bn aj al).2.2.1
theorem aek {p:aU} {next:Bool} {x:eW} {size:Int} (h:lC p next x size=true) (ai:x.op=1):lr x.n=true:=by
 unfold lC po at h;rw [ai] at h;simp at h;exact h.1
theorem SI {p:aU} (aB:cS p=true) {arg m:Int} (bn:0≤arg) (aj:arg<3) (hm:m = -1∨∃ k:Nat,m=k∧k<p.methods.length):∀ (f:Nat) (n:Int),eY p f n=true→∀ x∈tk p arg m f n,Aj (bU p) x
  | 0,n,h=>by rw [eY] at h;cases h
  | f+1,n,h=>by
    rw [eY,d6,ai4] at h;obtain ⟨av,lR⟩:=h;obtain ⟨n6,sz,I⟩:=z1 aB av;intro x aa;unfold tk at aa;simp only at aa;split at aa
    · rename_i U
      rw [i7.1 aa];exact F1 bn aj ⟨_,.inr (.inr ⟨4,_,.inr C,aek I U,rfl⟩),.inl C⟩
    split at aa
    · rw [i7.1 aa]
      exact F1 bn aj (SE arg 2 (.inr C))
    split at aa
    · split at aa
      · rename_i U
        rcases hm with rfl|⟨k,rfl,ax⟩
        · omega
        · obtain ⟨y,ar,rfl⟩:=ae'.1 aa
          obtain ⟨z,bO,-,f1,-,-⟩:=ra ax;have si:=zW (qX aB (d8 bO));rw [← f1] at si;exact F1 bn aj ((aeg si ar).aef arg).1
      · cases aa
    split at aa
    · rename_i fx
      exact aej aB bn aj (J9 I fx) aa
    split at aa
    · rename_i tq
      obtain ⟨k,ax⟩:=List.length_eq_one_iff.1 (J' I tq);have aZ:=lR k (by rw [ax];exact i7.2 C);have e:(b7 p n).kids.getD 0 0=k:=by rw [ax];rfl
      rw [e] at aa;exact SI aB bn aj hm f k aZ x aa
    split at aa
    · rw [i7.1 aa]
      exact F1 bn aj (SE arg 1 (.inl C))
    · cases aa
theorem SJ {p:aU} (aB:cS p=true) {m:Int} (hm:m = -1∨∃ k:Nat,m=k∧k<p.methods.length):∀ (l:List Int) (i:Int),0≤i→i+l.length≤3→(∀ k∈l,eY p 12 k=true)→∀ x∈kq p m i l,Aj (bU p) x
  | [],_,_,_,_,x,aa=>by rw [kq] at aa;cases aa
  | k::r,i,bn,aj,aZ,x,aa=>by
    rw [kq] at aa;rw [i9] at aj;rcases ab'.1 aa with aa|aa
    · exact SI aB bn ak hm 12 k (aZ k (g8 ..)) x aa
    · exact SJ aB hm r (i+1) ak ak (fun k ax=>aZ k (f9 _ ax)) x aa
theorem SK {p:aU} (aB:e3 p) (bu:cS p=true) {m:Int} (hm:m = -1∨∃ k:Nat,m=k∧k<p.methods.length):∀ (l:List Int) (i:Int),(∀ k∈l,eY p 12 k=true)→(kq p m i l).length≤100*l.length
  | [],_,_=>by simp [kq]
  | k::r,i,aZ=>by
    rw [kq,f0,i9];have U:=Ke aB bu (arg:=i) hm 12 k (aZ k (g8 ..));have ad:=SK aB bu hm r (i+1) (fun k ax=>aZ k (f9 _ ax));omega
theorem SL {p:aU} (bu:cS p=true) {n:Int} (av:fw p n=true):∀ k∈(b7 p n).kids,eY p 12 k=true:=fun k ax=>by
 have eL:=RN bu av;rw [eY,d6,ai4] at eL;exact FC _ _ (eL.2 k ax)
def ts (p:aU) (n:Int):List bG:=(qc p n).map hP
theorem ael {p:aU} (aB:e3 p) (bu:cS p=true) {n:Int} (av:fw p n=true) (aw:(b7 p n).kids.length≤3):(∀ x∈qc p n,Aj (bU p) x)∧lS (bU p) (ts p n)∧(ts p n).length≤300:=by
 have U:∀ x∈qc p n,Aj (bU p) x:=SJ bu (Cv p n) _ 0 (ap8 _) ak (SL bu av);refine ⟨U,fun x aa=>?_,?_⟩
 ·obtain ⟨y,ar,rfl⟩:=ae'.1 aa
  exact (U y ar).2
 ·unfold ts
  rw [f6];have:=SK aB bu (Cv p n) (b7 p n).kids 0 (SL bu av);unfold qc;omega
theorem aem (x:ae) (h:x.op=5→∃ y,x.kids=[y]):cY d4 (.func 133 [] []) [x.bh] (et (hP x)):=by
 have aq:=bx;refine cY.ey (first:=[]) (cap:=[]) ?_;refine aY.bj ah Tryz.func133 C C fun s I=>?_
 by_cases bF:x.op=5
 ·obtain ⟨y,ar⟩:=h bF
  have e:hP x=(y,true):=by unfold hP;rw [f7 bF,ar];rfl
  have ug:([y.bh]:List ag)[0]? = some y.bh:=rfl;rw [e,q9,ae.bJ];unfold ae.cells at *;rw [ar,bF];rw [ae.bJ] at ug;unfold ae.cells at ug;simp only [List.map_cons,List.map_nil];rw [ae.bJ];unfold ae.cells
  repeat (first|(refine MB ?_)|refine ab.h0 I C C C C C C (fun b I=>?_)|refine ab.c3 ah I C C C C C C C (fun cu I=>?_)|(refine W0 I ?_;clear I;intro I))
  exact Fin.cZ I (iS C C (bm.get aO I) C) aH
 ·have e:hP x=(x,false):=by unfold hP;rw [f4 bF]
  rw [e,q9,ae.bJ];unfold ae.cells
  repeat (first|(refine sM ?_)|refine ab.h0 I C C C C C C (fun b I=>?_)|refine ab.c3 ah I C C C C C C C (fun cu I=>?_)|(refine Bc I ?_;clear I;intro I))
  refine af.cond C (fun h=>absurd fG bF) (fun _=>?_);refine c9 I ?_;intro I;exact Fin.cZ I (iS C C (bm.get aO I) C) aH
theorem aen (l:List bG) (own:bM) (aE:l.length<1000000):bs d4 134 [.aF 7 (l.map et) own] [] (fun o K=>∃ dZ,o = .ret (.aF 7 (l.map et) dZ)∧K=[(dZ,.row 194 7 l.length)]):=by
 have aq:=bx;refine bs.bj ah Tryz.func134 C C fun s I=>?_
 refine cX ?_;refine ab.op C C C (aX.Bu ah C C C C (X:=fun _ _=>False)) ?_ (fun _ _ h=>False.elim h);rintro r an ⟨rfl,⟨rfl,av⟩|rfl⟩
 ·have va:l.length=0:=by simpa using ak5 List.length av
  refine ab.hv I 194 7 0 fun I=>?_
  refine bd ?_;rw [av,va];exact Fin.bz I C (aR.nil gF) (az.all _) ⟨.nil,rfl,rfl⟩
 ·refine bd ?_
  refine ab.D8 I 194 7 0 fun I=>?_
  refine ab.lN ah I C C C C C C C dB C C C C (.inr C) C (NV l) C .here C (n':=l.length) bc (by simp only [ai9,aj8,f6];show _*88≤_;omega) Bd (fun pb I=>?_);refine eB ?_;exact Fin.bz I C aH (az.all _) ⟨pb,rfl,rfl⟩
def KF (p:aU) (n:Int) (v:Nat):Bool:=ub (bU p) (ts p n++oF (dG p (b7 p n).n) v)
theorem aeo (p:aU) (n:Int):qd p n=(nX (bU p) (dG p (b7 p n).n)).filter (KF p n):=rfl
theorem SM (p:aU) (aB:e3 p) (mb n:Nat) (av:n<p.nodes.length) (he:km p (b7 p n).n≠0) :
  bs d4 66 [.bl (gR p (l3 p) mb) 0,.int .i64 (n:Int)] (gK mb) (rb mb (.bW [.aF 1 [] .a7,.bool false])):=by
 have aq:=bx;obtain ⟨y,ar,cf⟩:=b' (f:=ff) av;have e:b7 p (n:Int)=y:=by unfold b7;rw [ai7,d9,ar];rfl
 rw [e] at he;have U:=Sf p aB y.n;have ad:=Sg p aB y.n;unfold FT at U;unfold FU at ad;rw [f4 he] at U ad;refine bs.bj ah Tryz.func66 C C fun s I=>?_
 unfold ff h4 at cf;unfold gK at *;unfold cQ at *;unfold gR cj fL at *;refine c1 ?_;refine af.cond C (fun _=>?_) (fun h=>absurd fG he);refine o3 ?_;exact Fin.bz I C (aR.bW (.cons aR.empty (.one aH))) (az.all _) ⟨rfl,rfl⟩
theorem KG (w:bo) (L:List bG) (arg:Int) (path:List Int) (bE:n2 w L) (aB:path.length<bK):aY d4 308 [mK w L,.int .i64 arg,br path] (sf (eC L arg path)):=by
 have aq:=bx;have SN:=bE.1;refine aY.bj ah Tryz.func308 C C fun s I=>?_
 obtain ⟨xs,fi⟩:∃ xs:Nat→List ag,∀ j,xs j=(eC (L.take j) arg path).map et:=⟨_,fun _=>rfl⟩;have bn:xs 0=[]:=by rw [fi];rfl
 have wy:∀ j,(xs j).length≤L.length:=fun j=>by
  rw [fi,f6];refine al7 (abN _ _ _) ?_;rw [ah'];omega
 unfold mK ql sf fk br;refine gp ?_;refine af.hv I 194 7 0 fun I=>?_
 refine af.cc [1,2,11,12] C I (σ:=Nat×bM) (fun q=>[(13,.int .i64 (q.1:Int)),(7,.aF 7 (xs q.1) q.2)]) (fun q=>[(q.2,.row 194 7 (xs q.1).length)]) (fun q=>q.1≤L.length) (fun q=>L.length-q.1) (0,.nil) (g9 _) ⟨⟨_,rfl,aH⟩,⟨_,rfl,by rw [bn];exact aR.nil gF⟩,trivial⟩ (by rw [bn];exact az.fQ _) ?_;rintro ⟨j,own⟩ aK I;simp only at aK I ⊢;refine cl ?_;refine af.cond C (fun au=>?_) (fun aV=>?_);rotate_left
 ·have aV:j=L.length:=by simp at aV;omega
  subst aV;have he:xs L.length=(eC L arg path).map et:=by rw [fi,ag']
  rw [he];refine fb ?_;exact Fin.cZ I C aR.a7
 have au:j<L.length:=by simpa using au
 obtain ⟨x,aa,bY⟩:=b' (f:=et) au;have j1:=bE.at (d8 aa);have KH:=D4 x.1.path path (JP bE (d8 aa)) aB;have al:=fi (j+1);have mh:=wy j;unfold eC at al;rw [abO aa] at al;rw [q9] at bY;unfold br at KH;refine ej ?_;by_cases bp:x.1.arg=arg;rotate_left
 ·have aZ:rO arg path x=false:=by unfold rO;rw [M2 bp];rfl
  rw [aZ,f4 bc,d7] at al;have al:xs (j+1)=xs j:=by rw [al,fi];rfl
  refine ab.eP 22 C (by simpa using bp) ?_;refine bd ?_;exact bA.mk (j+1,own) I au mw Ab wv
 refine ab.fM 22 C (by simpa using bp) ?_;cases bf:x.1.path==path with
 | false=>
  have aZ:rO arg path x=false:=by unfold rO;rw [bf,Bool.and_false]
  rw [aZ,f4 bc,d7] at al;have al:xs (j+1)=xs j:=by rw [al,fi];rfl
  rw [bf] at KH;refine c1 ?_;exact bA.mk (j+1,own) I au mw Ab wv
 | true=>
  have aZ:rO arg path x=true:=by unfold rO;rw [bf,i6 bp];rfl
  rw [aZ,f7 C,t8] at al;have al:xs (j+1)=xs j++[et x]:=by rw [al,fi];rfl
  rw [q9] at al;have dt:(xs (j+1)).length=(xs j).length+1:=by rw [al];simp
  rw [bf] at KH;refine dS ?_;refine ab.gn ah I C C C C C C C dB C C C C C C C C aO h' (by show (_+1)*88≤_;omega) ak (fun b1 I=>?_);refine iQ ?_;exact bA.mk (j+1,.own b1) I au mw I0 wv
theorem KI (arg:Int) (path:List Int):∀ (l:List bG) (out:List Int),(l.foldl (s7 arg path) out).length≤out.length+l.length
  | [],out=>by simp
  | x::r,out=>by
    rw [List.foldl_cons,i9];have U:=KI arg path r (s7 arg path out x);have ad:(s7 arg path out x).length≤out.length+1:=by unfold s7;split<;>simp
    omega
theorem SO (L:List bG) (arg:Int) (path:List Int):(nc L arg path).length≤L.length:=by
 have:=KI arg path L [];rw [ai9] at this;unfold nc;omega
theorem SP (w:bo) (L:List bG) (arg:Int) (path:List Int) (bE:n2 w L) (aB:path.length<bK):aY d4 247 [mK w L,.int .i64 arg,br path] (br (nc L arg path)):=by
 have aq:=bx;have SN:=bE.1;refine aY.bj ah Tryz.func247 C C fun s I=>?_
 obtain ⟨xs,fi⟩:∃ xs:Nat→List Int,∀ j,xs j=(L.take j).foldl (s7 arg path) []:=⟨_,fun _=>rfl⟩;have bn:xs 0=[]:=by rw [fi];rfl
 have z':∀ (j:Nat) (x:bG),L[j]? = some x→xs (j+1)=s7 arg path (xs j) x:=fun j x aa=>by
  rw [fi,fi,fD aa,List.foldl_append];rfl
 have wy:∀ j,(xs j).length≤L.length:=fun j=>by
  rw [fi];refine al7 (KI arg path _ _) ?_;rw [ah',ai9];omega
 have a1:nc L arg path=xs L.length:=by rw [fi,ag'];rfl
 rw [a1];unfold mK ql sf fk br;refine gp ?_;refine af.hv I 3 1 0 fun I=>?_
 refine af.cc [1,2,11,12] C I (σ:=Nat×bM) (fun q=>[(13,.int .i64 (q.1:Int)),(7,.aF 1 ((xs q.1).map ba) q.2)]) (fun q=>[(q.2,.row 3 1 (xs q.1).length)]) (fun q=>q.1≤L.length) (fun q=>L.length-q.1) (0,.nil) (g9 _) ⟨⟨_,rfl,aH⟩,⟨_,rfl,by rw [bn];exact aR.nil gF⟩,trivial⟩ (by rw [bn];exact az.fQ _) ?_;rintro ⟨j,own⟩ aK I;simp only at aK I ⊢;refine cl ?_;refine af.cond C (fun au=>?_) (fun aV=>?_);rotate_left
 ·have aV:j=L.length:=by simp at aV;omega
  rw [aV];refine fb ?_;exact Fin.cZ I C aR.a7
 have au:j<L.length:=by simpa using au
 obtain ⟨x,aa,bY⟩:=b' (f:=et) au;have hu:=Q6 x.1.path path (JP bE (d8 aa)) aB;have al:=z' j x aa;have mh:=wy j;have ay:BO arg path x=(decide (x.1.arg=arg)&&(decide (path.length<x.1.path.length)&&sU x.1.path path)):=rfl;unfold s7 at al;rw [q9] at bY;unfold br at hu;refine ej ?_;by_cases bp:x.1.arg=arg;rotate_left
 ·rw [ay,M2 bp,aa',aa',f4 bc] at al
  refine ab.eP 22 C (by simpa using bp) ?_;refine bd ?_;exact bA.mk (j+1,own) I au mw Ab wv
 refine ab.fM 22 C (by simpa using bp) ?_;rw [i6 bp,i8] at ay;refine fB ?_;by_cases h8:path.length<x.1.path.length;rotate_left
 ·rw [ay,M2 h8,aa',aa',f4 bc] at al
  refine ab.eP 31 C (by simpa using h8) ?_;refine bd ?_;exact bA.mk (j+1,own) I au mw Ab wv
 refine ab.fM 31 C (by simpa using h8) ?_;rw [i6 h8,i8] at ay;cases bf:sU x.1.path path with
 | false=>
  rw [bf] at hu ay;rw [ay,aa',f4 bc] at al;refine c1 ?_;exact bA.mk (j+1,own) I au mw Ab wv
 | true=>
  rw [bf] at hu ay;obtain ⟨y,ar,cf⟩:=b' (f:=fun i:Int=>ag.int .i64 i) h8;have m0:x.1.path.getD path.length 0=y:=by rw [d9,ar];rfl
  have k0:=xD (xs j) y ak;rw [ay,m0,i8] at al;have e:(path.map ba).length=path.length:=f6 _;rw [← e] at cf;unfold br at k0;cases aw:(xs j).contains y with
  | true=>
   rw [aw,f4 bc] at al;rw [aw] at k0;refine c1 ?_;exact bA.mk (j+1,own) I au mw Ab wv
  | false=>
   rw [aw,f7 bc] at al;rw [aw] at k0;have dt:(xs (j+1)).length=(xs j).length+1:=by rw [al];simp
   refine dS ?_;refine ab.gn ah I C C C C C C C dB C C C C C C C C aO h' lP ak (fun b1 I=>?_);refine iQ ?_;exact bA.mk (j+1,.own b1) I au (by repeat (first|exact trivial|refine ⟨⟨_,rfl,aH⟩,?_⟩|refine ⟨⟨_,rfl,aR.of_eq (by (first|rw [lo ak]|(rw [al,t8];rfl)))⟩,?_⟩)) I0 wv
theorem SQ (a:Bool) (c:Int):(decide (c>1) != a)=(a==decide (c≤1)):=by
 by_cases h:c≤1
 ·rw [i6 h,M2 (by omega:¬ c>1)];cases a<;>rfl
 ·rw [M2 h,i6 (by omega:c>1)];cases a<;>rfl
theorem jm.nil:jm [] []:=fun n=>rfl
theorem aep (w:bo) (L:List bG) (arg:Int) (path:List Int) (bE:n2 w L) (aB:path.length<bK):aY d4 251 [mK w L,.int .i64 arg,br path] (.bool (vQ L arg path)):=by
 have aq:=bx;have U:=KG w L arg path bE aB;have e2:=bE.on arg path;have a1:vQ L arg path=match kZ (eC L arg path) (-1000000000,1000000000,[]) with
  | none=>false
  | some a=>decide (o8 (a.2.2.length+1) a.1 a.2.2≤a.2.1):=rfl
 refine aY.bj ah Tryz.func251 C C fun s I=>?_
 generalize eC L arg path=M at U e2 a1;have aeq:=e2.1;generalize vQ L arg path=res at a1 ⊢;unfold mK ql sf fk br at *;refine cX ?_;refine ab.ou I C C C C (fun mb I=>?_);refine dS ?_;refine af.cc [9,16,17] C I (σ:=Nat×Int×Int×List Int×g') (fun q=>[(18,.int .i64 (q.1:Int)),(7,.int .i64 q.2.1),(8,.int .i64 q.2.2.1)]) (fun q=>[(.own mb,.map (e9 q.2.2.2.2))])
  (fun q=>q.1≤M.length∧kZ M (-1000000000,1000000000,[])=kZ (M.drop q.1) (q.2.1,q.2.2.1,q.2.2.2.1)∧q.2.2.2.1.length≤q.1∧(-1000000001≤q.2.1∧q.2.1≤1000000001)∧(-1000000001≤q.2.2.1∧q.2.2.1≤1000000001)∧jm q.2.2.2.2 q.2.2.2.1) (fun q=>M.length-q.1) (0,-1000000000,1000000000,[],[]) ⟨g9 _,rfl,t7 _,⟨by decide,by decide⟩,⟨by decide,by decide⟩,jm.nil⟩
  (cy C) a' ?_
 rintro ⟨j,eo,aQ,no,da⟩ ⟨aK,aG,pT,⟨oc,cV⟩,⟨o0,aer⟩,e8⟩ I
 try simp only at aK aG pT oc cV o0 aer e8 I ⊢
 refine cl ?_;refine af.cond C (fun au=>?_) (fun aV=>?_)
 ·have au:j<M.length:=by simpa using au
  obtain ⟨x,aa,bY⟩:=b' (f:=et) au;have j1:=e2.at (d8 aa);rw [q9] at bY;rw [drop_cons aa,kZ] at aG;have dq:ai' .i64 (x.1.n-1)=x.1.n-1:=hf ak ak;have cG:x.1.op=2∨x.1.op=3∨x.1.op=4:=by have:=j1.1;unfold ae.c7 at this;simp at this;omega
  rcases cG with h|h|h
  ·rw [f7 h] at aG
   rw [h] at bY;cases B0:(x.2==decide (x.1.cls≤1)) with
   | true=>
    rw [SQ,B0,f7 C] at aG;rw [aG] at a1;simp only at a1;rw [a1];refine ej ?_;refine af.cond C (fun _=>?_) (fun h=>absurd (B0.symm.trans h) bc);refine bd ?_;exact b2 I
   | false=>
    rw [SQ,B0,f4 bc] at aG;refine ej ?_;refine af.cond C (fun h=>absurd (B0.symm.trans h) bc) (fun _=>?_);refine bd ?_;exact bA.mk (j+1,eo,aQ,no,da) I ⟨au,aG,by simp<;>omega,⟨by show -1000000001≤eo;omega,by show eo≤1000000001;omega⟩,⟨by show -1000000001≤aQ;omega,by show aQ≤1000000001;omega⟩,e8⟩ CI (az.all _) tr
  ·rw [f4 ak,f7 h] at aG
   rw [h] at bY;cases av:x.2 with
   | true=>
    rw [av] at bY;rw [av,f7 C] at aG;refine ej ?_;exact bA.mk (j+1,(max eo x.1.n),aQ,no,da) I ⟨au,aG,by simp<;>omega,⟨by show -1000000001≤(max eo x.1.n);omega,by show (max eo x.1.n)≤1000000001;omega⟩,⟨by show -1000000001≤aQ;omega,by show aQ≤1000000001;omega⟩,e8⟩ CI (az.all _) tr
   | false=>
    rw [av] at bY;rw [av,f4 bc] at aG;refine ej ?_;exact bA.mk (j+1,eo,(min aQ (x.1.n-1)),no,da) I ⟨au,aG,by simp<;>omega,⟨by show -1000000001≤eo;omega,by show eo≤1000000001;omega⟩,⟨by show -1000000001≤(min aQ (x.1.n-1));omega,by show (min aQ (x.1.n-1))≤1000000001;omega⟩,e8⟩ CI (az.all _) tr
  ·rw [f4 ak,f4 ak] at aG
   rw [h] at bY;cases av:x.2 with
   | true=>
    rw [av] at bY;rw [av,f7 C] at aG;refine ej ?_;refine ab.kz ah I C C (.inl C) C C C C C C aO C (mF _ _ _) (fun I=>?_);refine eF ?_;exact bA.mk (j+1,eo,aQ,(no++[x.1.n]),(mE da x.1.n (.bool true))) I ⟨au,aG,by simp<;>omega,⟨by show -1000000001≤eo;omega,by show eo≤1000000001;omega⟩,⟨by show -1000000001≤aQ;omega,by show aQ≤1000000001;omega⟩,e8.put _⟩ CI (az.all _) tr
   | false=>
    rw [av] at bY;rw [av,f4 bc] at aG;refine ej ?_;exact bA.mk (j+1,(max eo x.1.n),(min aQ x.1.n),no,da) I ⟨au,aG,by simp<;>omega,⟨by show -1000000001≤(max eo x.1.n);omega,by show (max eo x.1.n)≤1000000001;omega⟩,⟨by show -1000000001≤(min aQ x.1.n);omega,by show (min aQ x.1.n)≤1000000001;omega⟩,e8⟩ CI (az.all _) tr
 have aV:j=M.length:=by simp at aV;omega
 rw [fe ak,kZ] at aG;rw [aG] at a1;simp only [Iz] at a1;rw [a1];clear aG a1 U;refine jR ?_;refine af.cc [8,9] C I (σ:=Int) (fun n=>[(7,.int .i64 n)]) (fun _=>[(.own mb,.map (e9 da))]) (fun n=>eo≤n∧n+mA n no≤eo+no.length∧nV (no.length+1) eo no=nV (no.length+1) n no) (fun n=>mA n no) eo ⟨ap8 _,by have:=Es eo no;omega,rfl⟩ (cy C) (az.fQ _) ?_;rintro n ⟨vf,aes,j5⟩ I
 try simp only at vf aes j5 I ⊢
 have fs:=e8.look n;have CE:nV (no.length+1) n no=if no.contains n then nV no.length (n+1) no else n:=rfl
 have ag9:=Es n no;refine cX ?_;cases aw:no.contains n with
 | true=>
  have oZ:=Et (n:=n) (l:=no) uj;rw [aw,f7 C] at CE fs;refine ab.j7 ah I C C C C C C C C C C aO C fs C ?_;refine bd ?_;exact bA.mk (n+1) I ⟨by omega,by omega,by rw [j5,CE];exact Eu _ _ _ _ ak ak⟩ (by repeat (first|exact trivial|refine ⟨⟨_,rfl,aH⟩,?_⟩|refine ⟨⟨_,rfl,aR.of_eq (by (rw [hf ak ak]))⟩,?_⟩)) (az.all _) (by show mA (n+1) no<mA n no;omega)
 | false=>
  rw [aw,f4 bc] at CE fs;rw [j5,CE];refine ab.j7 ah I C C C C C C C C C C aO C fs C ?_;refine bd ?_;exact b2 I
theorem aet (w:bo) (L:List bG) (arg:Int) (path:List Int) (bE:n2 w L) (aB:path.length<bK):aY d4 252 [mK w L,.int .i64 arg,br path] (.bool (x1 L arg path)):=by
 have aq:=bx;refine aY.bj ah Tryz.func252 C C fun s I=>?_
 have U:=KG w L arg path bE aB;have ad:=Q7 (.func 309 [] []) t' (eC L arg path) (by have:=(bE.on arg path).1;omega) (fun x _=>abR x);unfold mK ql sf x1 fk br at *;refine gw ?_;exact b2 I
theorem aeu {l:g'} {l₁ l₂:List (ag×ag)} {k v:ag} (h:e9 l=l₁++(k,v)::l₂):∃ a n u b,l=a++(n,v)::b∧l₁=e9 a∧k = .int .i64 n∧v=u∧l₂=e9 b:=by
 unfold e9 at h;obtain ⟨a,r,rfl,rfl,ad⟩:=List.map_eq_append_iff.1 h;obtain ⟨⟨n,u⟩,b,rfl,aj,rfl⟩:=List.map_eq_cons_iff.1 ad;cases aj;exact ⟨a,n,u,b,rfl,rfl,rfl,rfl,rfl⟩
theorem aev (a b:g'):e9 (a++b)=e9 a++e9 b:=by unfold e9;exact t8
theorem jm.key {da:g'} {up:List Int} (h:jm da up) (n:Int):n∈up↔n∈da.map (·.1):=by
 have:=h n;unfold ko at this;constructor
 ·intro av
  rw [f7 r9] at this;cases aZ:da.find? (fun e=>n==e.1) with
  | none=>rw [aZ] at this;cases this
  | some e=>
   have U:=List.find?_some aZ;have ad:=al6 aZ;have U:n=e.1:=by simpa using U
   rw [U];exact av0 ad
 ·intro av
  obtain ⟨e,he,rfl⟩:=ae'.1 av;by_cases aw:up.contains e.1=true
  ·simpa using aw
  ·rw [f4 aw] at this
   cases aZ:da.find? (fun x=>e.1==x.1) with
   | none=>have:=List.find?_eq_none.1 aZ e he;simp at this
   | some x=>rw [aZ] at this;cases this
theorem aew {w:bo} {L:List bG} {arg:Int} {path:List Int} {s:Int} (h:s∈nc L arg path):o7 L arg path s=true:=by
 unfold nc at h;rcases (ID arg path s L []).1 h with h|h
 ·cases h
 ·exact h
theorem aex (w:bo) (hw:fJ w) (L:List bG) (arg:Int) (path:List Int) (bE:n2 w L) (aB:path.length≤2) (cn:List Int→Bool) (pf:∀ s,o7 L arg path s=true→aY d4 195 [mK w L,.int .i64 arg,br (path++[s])] (.bool (cn (path++[s])))) :
    aY d4 253 [mK w L,.int .i64 arg,br path] (.bool (vR w L cn arg path)):=by
  have aq:=bx;have xY:=hw.few;have rA:=hw.bB;have U:=KG w L arg path bE ak;have ad:=SP w L arg path bE ak;have e2:=bE.on arg path;have a1:vR w L cn arg path=match qV (eC L arg path) ([],[]) with
    | none=>false
    | some a=>match s8 w L cn arg path (nc L arg path) a with
      | none=>false
      | some a => !EE w.ps a:=rfl
  have uu:∀ s∈nc L arg path,o7 L arg path s=true∧0≤s∧s<(w.owner.length:Int):=fun s al=>by
    have h:=aew (w:=w) al;have:=s6 bE.2 h;exact ⟨h,this.1,this.2.1⟩
  have qT:=fun k:Int=>Q9 path k ak
  have B3:∀ k:Int,(path++[k]).length≤3:=fun k=>by rw [f0];simp;omega
  have kv:=fun k:Int=>Q8 w L arg (path++[k]) bE (by have:=B3 k;omega)
  have lx:=SO L arg path;have SN:=bE.1;refine aY.bj ah Tryz.func253 C C fun s I=>?_
  generalize eC L arg path=M at U e2 a1;generalize nc L arg path=l at ad uu a1 lx;have aeq:=e2.1;generalize vR w L cn arg path=res at a1 ⊢;unfold mK ql sf fk br at *;refine cX ?_;refine ab.ou I C C C C (fun mb I=>?_);refine ab.ou I C C C C (fun Ak I=>?_);refine dS ?_;refine af.cc [1,2,3,7,8,25,26] C I (σ:=Nat×List Int×List Int×g'×g') (fun q=>[(27,.int .i64 (q.1:Int))]) (fun q=>[(.own mb,.map (e9 q.2.2.2.1)),(.own Ak,.map (e9 q.2.2.2.2))]) (fun q=>q.1≤M.length∧qV M ([],[])=qV (M.drop q.1) (q.2.1,q.2.2.1)∧jm q.2.2.2.1 q.2.1∧jm q.2.2.2.2 q.2.2.1) (fun q=>M.length-q.1) (0,[],[],[],[]) ⟨g9 _,rfl,jm.nil,jm.nil⟩ (cy C) a' ?_;rintro ⟨j,f,g,da,Al⟩ ⟨aK,aG,e8,kt⟩ I
  try simp only at aK aG e8 kt I ⊢
  refine cl ?_;refine af.cond C (fun au=>?_) (fun aV=>?_)
  · have au:j<M.length:=by simpa using au
    obtain ⟨x,aa,bY⟩:=b' (f:=et) au;rw [q9] at bY;rw [drop_cons aa,qV] at aG;by_cases g1:x.1.op=2;rotate_left
    · rw [f7 (.inl g1)] at aG
      cases av:x.2 with
      | true=>
        rw [av] at bY;rw [av,f7 C] at aG;refine ej ?_;refine ab.fM 40 C (by simpa using g1) ?_;refine bd ?_;exact bA.mk (j+1,f,g,da,Al) I ⟨au,aG,e8,kt⟩ ct a' tr
      | false=>
        rw [av] at bY;rw [av,f4 bc] at aG;rw [aG] at a1;simp only at a1;rw [a1];refine ej ?_;refine ab.fM 40 C (by simpa using g1) ?_;refine bd ?_;exact b2 I
    rw [g1] at bY;by_cases g2:x.1.cls=1
    · rw [f7 (by simp [g1,g2])] at aG
      rw [g2] at bY;cases av:x.2 with
      | true=>
        rw [av] at bY;rw [av,f7 C] at aG;refine ej ?_;skip;skip;exact bA.mk (j+1,f,g,da,Al) I ⟨au,aG,e8,kt⟩ ct a' tr
      | false=>
        rw [av] at bY;rw [av,f4 bc] at aG;rw [aG] at a1;simp only at a1;rw [a1];refine ej ?_;skip;skip;exact b2 I
    by_cases g3:x.1.cls=2
    · rw [f7 (by simp [g1,g3])] at aG
      rw [g3] at bY;cases av:x.2 with
      | true=>
        rw [av] at bY;rw [av,f7 C] at aG;refine ej ?_;skip;skip;exact bA.mk (j+1,f,g,da,Al) I ⟨au,aG,e8,kt⟩ ct a' tr
      | false=>
        rw [av] at bY;rw [av,f4 bc] at aG;rw [aG] at a1;simp only at a1;rw [a1];refine ej ?_;skip;skip;exact b2 I
    rw [f4 (by simp [g1,g2,g3])] at aG;cases av:x.2 with
    | true=>
      rw [av] at bY;rw [av,f7 C] at aG;refine ej ?_;refine ab.eP 46 C (by simpa using g2) ?_;refine jQ ?_;refine af.cond C (fun h=>absurd fG g3) (fun _=>?_);refine bd ?_;refine ab.kz ah I C C (.inl C) C C C C C C aO C (mF _ _ _) (fun I=>?_);refine eF ?_;exact bA.mk (j+1,f,(g++[x.1.cls]),da,(mE Al x.1.cls (.bool true))) I ⟨au,aG,e8,kt.put _⟩ ct a' tr
    | false=>
      rw [av] at bY;rw [av,f4 bc] at aG;refine ej ?_;refine ab.eP 46 C (by simpa using g2) ?_;refine jQ ?_;refine af.cond C (fun h=>absurd fG g3) (fun _=>?_);refine bd ?_;refine ab.kz ah I C C (.inl C) C C C C C C aO C (mF _ _ _) (fun I=>?_);refine eF ?_;exact bA.mk (j+1,(f++[x.1.cls]),g,(mE da x.1.cls (.bool true)),Al) I ⟨au,aG,e8.put _,kt⟩ ct a' tr
  have aV:j=M.length:=by simp at aV;omega
  rw [fe ak,qV] at aG;rw [aG] at a1;simp only at a1;clear aG U;refine dS ?_;refine af.cc [1,2,3,7,8,66,67] C I (σ:=Nat×List Int×List Int×g'×g') (fun q=>[(68,.int .i64 (q.1:Int))]) (fun q=>[(.own mb,.map (e9 q.2.2.2.1)),(.own Ak,.map (e9 q.2.2.2.2))]) (fun q=>q.1≤l.length∧s8 w L cn arg path l (f,g)=s8 w L cn arg path (l.drop q.1) (q.2.1,q.2.2.1)∧jm q.2.2.2.1 q.2.1∧jm q.2.2.2.2 q.2.2.1) (fun q=>l.length-q.1) (0,f,g,da,Al) ⟨g9 _,rfl,e8,kt⟩ (cy C) a' ?_;clear e8 kt;rintro ⟨i,f2,g2,p',uQ⟩ ⟨aQ,cU,e8,kt⟩ I
  try simp only at aQ cU e8 kt I ⊢
  refine cl ?_;refine af.cond C (fun au=>?_) (fun fE=>?_)
  · have au:i<l.length:=by simpa using au
    obtain ⟨y,ar,cf⟩:=b' (f:=ba) au;obtain ⟨aey,sh,hs⟩:=uu y (d8 ar);have qU:=pf y aey;have zX:=qT y;have SR:=kv y;obtain ⟨gA,rfl⟩:∃ gA:Nat,y=gA:=⟨y.toNat,by omega⟩;obtain ⟨dV,aez,aeA⟩:=b' (f:=ba) (show gA<w.owner.length by omega);have m0:w.owner.getD ((gA:Nat):Int).toNat 0=dV:=by rw [ai7,d9,aez];rfl
    rw [drop_cons ar,s8,m0] at cU;unfold ba at cf aeA;cases cO:hM L arg (path++[(gA:Int)]) with
    | true=>
      rw [cO] at SR;simp only [cO,an5,aa',aj2,al0,ak2] at cU;cases iq:cn (path++[(gA:Int)]) with
      | true=>
        rw [iq] at qU;simp only [iq,ak2] at cU;refine c1 ?_;exact bA.mk (i+1,f2,g2,p',uQ) I ⟨au,cU,e8,kt⟩ ct a' CJ
      | false=>
        rw [iq] at qU;simp only [iq,aj2,al0] at cU;refine c1 ?_;refine ab.kz ah I C C (.inl C) C C C C C C aO C (mF _ _ _) (fun I=>?_);refine eF ?_;exact bA.mk (i+1,f2,(g2++[dV]),p',(mE uQ dV (.bool true))) I ⟨au,cU,e8,kt.put _⟩ ct a' CJ
    | false=>
      rw [cO] at SR;simp only [cO,an4,i8,aj2,al0] at cU;cases iq:cn (path++[(gA:Int)]) with
      | true=>
        rw [iq] at qU;simp only [iq,an5,aj2,al0,ak2] at cU;refine c1 ?_;refine ab.kz ah I C C (.inl C) C C C C C C aO C (mF _ _ _) (fun I=>?_);refine bd ?_;exact bA.mk (i+1,(f2++[dV]),g2,(mE p' dV (.bool true)),uQ) I ⟨au,cU,e8.put _,kt⟩ ct a' CJ
      | false=>
        rw [iq] at qU;simp only [iq,an4,ak2] at cU;rw [cU] at a1;simp only at a1;rw [a1];refine c1 ?_;exact b2 I
  have fE:i=l.length:=by simp at fE;omega
  rw [fe ak,s8] at cU;rw [cU] at a1;simp only at a1;clear cU pf qT kv ad;have lp:ai' .i64 ((w.ps.length:Int)+2)=(w.ps.length:Int)+2:=hf ak ak;refine bd ?_;refine af.cc [7,8,3] C I (σ:=Nat×List Int×g') (fun q=>[(16,.int .i64 ((q.1:Int)+2))]) (fun q=>[(.own mb,.map (e9 q.2.2)),(.own Ak,.map (e9 uQ))]) (fun q=>q.1≤w.ps.length∧rY w.ps w.ps.length f2=rY w.ps q.1 q.2.1∧jm q.2.2 q.2.1) (fun q=>q.1) (w.ps.length,f2,p') ⟨t7 _,rfl,e8⟩ (by repeat (first|exact trivial|refine ⟨⟨_,rfl,aH⟩,?_⟩|refine ⟨⟨_,rfl,aR.of_eq (by (rw [f6,lp]))⟩,?_⟩)) a' ?_;clear e8;rintro ⟨m,f3,KJ⟩ ⟨hm,iq,e8⟩ I
  try simp only at hm iq e8 I ⊢
  refine cl ?_;refine af.cond C (fun zJ=>?_) (fun p8=>?_)
  · have zJ:1≤m:=by simp at zJ;omega
    obtain ⟨q,rfl⟩:∃ q,m=q+1:=⟨m-1,by omega⟩;obtain ⟨pl,h8,aeB⟩:=b' (f:=fun l:List Int=>ag.aF 1 (l.map ba) .a7) (show q<w.ps.length by omega);have aha:=hw.short pl (d8 h8);have jS:(((q+1:Nat):Int)+2)=(q:Int)+3:=by omega
    have jf:ai' .i64 ((q:Int)+3-3)=(q:Int):=by rw [hf ak ak];omega
    have ahN:ai' .i64 ((q:Int)+3-1)=(q:Int)+2:=by rw [hf ak ak];omega
    have fs:=e8.look ((q:Int)+3);rw [rY,d9,h8,al1] at iq;rw [jS];refine fc ?_;cases SS:f3.contains ((q:Int)+3) with
    | false=>
      rw [SS,f4 bc] at fs iq;refine ab.j7 ah I C C C C C C C C C C aO C fs C ?_;refine bd ?_;exact bA.mk (q,f3,KJ) I ⟨by show q≤_;omega,iq,e8⟩ St a' (ar8 q)
    | true=>
      rw [SS,f7 C] at fs iq;refine ab.j7 ah I C C C C C C C C C C aO C fs C ?_;refine bd ?_;refine ab.idx ah q C C C C C C C C C C jf aeB C ?_;refine fc ?_;refine af.cc [3,7,8,16,124,125] C I (σ:=Nat×g') (fun q=>[(126,.int .i64 (q.1:Int))]) (fun q=>[(.own mb,.map (e9 q.2)),(.own Ak,.map (e9 uQ))]) (fun q=>q.1≤pl.length∧jm q.2 (f3++pl.take q.1)) (fun q=>pl.length-q.1) (0,KJ) ⟨g9 _,by rw [an7,d7];exact e8⟩ (cy C) a' ?_;clear e8 fs;rintro ⟨i,SU⟩ ⟨aQ,e8⟩ I
      try simp only at aQ e8 I ⊢
      refine cl ?_;refine af.cond C (fun au=>?_) (fun aV=>?_)
      · have au:i<pl.length:=by simpa using au
        obtain ⟨p,aB,fo⟩:=b' (f:=ba) au;unfold ba at fo;refine fc ?_;refine ab.kz ah I C C (.inl C) C C C C C C aO C (mF _ _ _) (fun I=>?_);refine eF ?_;exact bA.mk (i+1,mE SU p (.bool true)) I ⟨au,by rw [fD aB,← aj0];exact e8.put p⟩ ct a' (by show pl.length-(i+1)<pl.length-i;omega)
      have aV:i=pl.length:=by simp at aV;omega
      rw [aV,ag'] at e8;refine bd ?_;exact bA.mk (q,f3++pl,SU) I ⟨by show q≤_;omega,iq,e8⟩ St a' (ar8 q)
  have p8:m=0:=by simp at p8;omega
  subst p8;rw [rY] at iq;have cm:EE w.ps (f2,g2)=g2.any fun c=>decide (c=0)||f3.contains c:=by
    show g2.any (fun c=>decide (c=0)||(rY w.ps w.ps.length f2).contains c)=_;rw [iq]
  rw [cm] at a1;clear iq cm;refine bd ?_;refine ab.Xe ah I C C C C C C C aO (fun it I=>?_);refine fc ?_;refine af.cc [7,134] C I (σ:=g'×Option (ag×ag)) (fun _=>[]) (fun q=>[(.own it,.tick Ak),(.own Ak,.hz (e9 uQ) it (e9 q.1) q.2),(.own mb,.map (e9 KJ))]) (fun q=>(∀ e∈q.1,e∈uQ)∧∀ e∈uQ,e∈q.1∨(decide (e.1=0)||f3.contains e.1)=false) (fun q=>q.1.length) (uQ,none) ⟨fun e he=>he,fun e he => .inl he⟩ (cy C) a' ?_;rintro ⟨EW,cur⟩ ⟨cK,e4⟩ I
  try simp only at cK e4 I ⊢
  refine cX ?_;refine ab.Xf I C C C C C aO aO (fun mv=>?_) (fun l₁ k v l₂ mv I=>?_)
  · obtain rfl:EW=[]:=by cases EW<;>simp_all [e9]
    have jW:(g2.any fun c=>decide (c=0)||f3.contains c)=false:=by
      rw [al2];intro c aw;obtain ⟨e,he,rfl⟩:=ae'.1 ((kt.key c).1 aw);rcases e4 e he with h|h
      · cases h
      · simpa using h
    rw [a1,jW];refine bd ?_;exact b2 I
  · obtain ⟨a,n,u,c,rfl,rfl,rfl,rfl,rfl⟩:=aeu mv
    have fs:=e8.look n;have aeC:n∈g2:=(kt.key n).2 (av0 (f:=fun e:Int×ag=>e.1) (cK (n,v) bc));have SV:(decide (n=0)||f3.contains n)=true→res=false:=fun aq=>by
      rw [a1,List.any_eq_true.2 ⟨n,aeC,aq⟩];rfl
    refine bd ?_;refine ab.Xg I C C C C C aO ?_;refine iR ?_;by_cases bn:n=0
    · rw [SV (by simp [bn])]
      refine ab.fM 141 C (by simpa using bn) ?_;refine bd ?_;exact b2 I
    refine ab.eP 141 C (by simpa using bn) ?_;refine fB ?_;cases aw:f3.contains n with
    | true=>
      rw [SV (by rw [aw,Bool.or_true])];rw [aw,f7 C] at fs;refine ab.j7 ah I C C C C C C C C C C aO C fs C ?_;refine bd ?_;exact b2 I
    | false=>
      rw [aw,f4 bc] at fs;refine ab.j7 ah I C C C C C C C C C C aO C fs C ?_;refine bd ?_
      exact bA.mk (a++c,some (.int .i64 n,v)) I ⟨fun e he=>cK e (by
          rcases ab'.1 he with h|h
          · exact al3 _ h
          · exact ap1 _ (f9 _ h)),fun e he=>by
        rcases e4 e he with h|h
        · rcases ab'.1 h with h|h
          · exact .inl (al3 _ h)
          · rcases ai1.1 h with rfl|h
            · exact .inr (by rw [aw,M2 bn];rfl)
            · exact .inl (ap1 _ h)
        · exact .inr h⟩ (cy C) (by simp only [aev];exact a') (by show (a++c).length<(a++(n,v)::c).length;simp)
theorem aeD (w:bo) (L:List bG) (arg:Int) (path:List Int) (bD:Int) (bE:n2 w L) (aB:path.length≤3):cY d4 (.func 248 [] [.bl (ql w L) 0,.bl [.int .i64 arg] 0,.bl [br path] 0]) [.int .i64 bD] (.bool (!hM L arg (path++[bD]))):=by
 have aq:=bx;refine cY.ey (first:=[]) (cap:=[.bl (ql w L) 0,.bl [.int .i64 arg] 0,.bl [br path] 0]) ?_;refine aY.bj ah Tryz.func248 C C fun s I=>?_
 have U:=Q9 path bD ak;have ad:=Q8 w L arg (path++[bD]) bE (by rw [f0];simp;omega);unfold mK ql sf fk br at *;refine c1 ?_;exact b2 I
theorem SW (w:bo) (hw:fJ w) (L:List bG) (arg:Int) (bE:n2 w L):∀ (k:Nat) (path:List Int),path.length≤2→3≤k+path.length→aY d4 195 [mK w L,.int .i64 arg,br path] (.bool (oC w L arg k path))
  | 0,path,aB,aj=>by omega
  | k+1,path,aB,aj=>by
    have aq:=bx;have bn:=SP w L arg path bE ak;have U:=aep w L arg path bE ak;have ad:=aet w L arg path bE ak
    have bk:=aex w hw L arg path bE aB (oC w L arg k) (fun s al=>by
      have:=(s6 bE.2 al).2.2
      have e:(path++[s]).length=path.length+1:=by simp
      exact SW w hw L arg bE k (path++[s]) ak ak)
    have bF:=JO (.func 248 [] [.bl (ql w L) 0,.bl [.int .i64 arg] 0,.bl [br path] 0]) (fun s => !hM L arg (path++[s])) (nc L arg path) (by
      have:=SO L arg path
      have:=bE.1
      omega) (fun s _=>aeD w L arg path s bE ak)
    have hm:oC w L arg (k+1) path=((vP L arg path&&(vQ L arg path||x1 L arg path))||vR w L (oC w L arg k) arg path):=by rw [oC]
    have he:vP L arg path = !(nc L arg path).any fun s => !hM L arg (path++[s]):=rfl
    rw [hm,he];refine aY.bj ah Tryz.func195 C C fun s I=>?_
    generalize (nc L arg path).any (fun s => !hM L arg (path++[s]))=gD at *;generalize vQ L arg path=fp at *;generalize x1 L arg path=qz at *;generalize vR w L (oC w L arg k) arg path=ahM at *;unfold mK ql sf fk br at *;cases gD with
    | true=>
      refine c1 ?_;exact b2 I
    | false=>
      cases fp with
      | true=>
        refine c1 ?_;exact b2 I
      | false=>
        cases qz with
        | true=>
          refine c1 ?_;exact b2 I
        | false=>
          refine gw ?_;exact b2 I
theorem aeE (w:bo) (hw:fJ w) (L:List bG) (bE:n2 w L):aY d4 135 [mK w L] (.bool (EF w L)):=by
 have aq:=bx;refine aY.bj ah Tryz.func135 C C fun s I=>?_
 have U:=fun a:Nat=>SW w hw L (a:Int) bE 3 [] bc bc
 have dR:EF w L=(ak6 3).all fun a=>oC w L ((a:Nat):Int) 3 []:=rfl
 rw [dR];unfold mK ql sf fk br at *;refine gp ?_;refine af.cc [1] C I (σ:=Nat) (fun i=>[(4,.int .i64 (i:Int))]) (fun _=>[]) (fun i=>i≤3∧((ak6 3).all fun a=>oC w L ((a:Nat):Int) 3 [])=((ak6 3).drop i).all fun a=>oC w L ((a:Nat):Int) 3 []) (fun i=>3-i) 0 ⟨g9 _,rfl⟩ (cy C) a' ?_;rintro i ⟨aQ,bC⟩ I
 try simp only at aQ bC I ⊢
 refine cl ?_;refine af.cond C (fun au=>?_) (fun aV=>?_);rotate_left
 ·have aV:i=3:=by simp at aV;omega
  rw [bC,aV];refine fb ?_;exact b2 I
 have au:i<3:=by simp at au;omega
 rw [drop_cons (List.getElem?_range au),aq6] at bC;have U:=aY.args (.cons aH (.cons aH (.one (aR.empty (sz:=0) (own := .nil))))) (U i);cases aw:oC w L ((i:Nat):Int) 3 [] with
 | false=>
  rw [aw] at U bC;rw [bC];refine c1 ?_;exact b2 I
 | true=>
  rw [aw] at U bC;refine c1 ?_;exact bA.mk (i+1) I ⟨au,bC⟩ ct a' (by show 3-(i+1)<3-i;omega)
theorem SX (p:aU) (aB:e3 p) (bu:cS p=true) (mb n:Nat) (av:n<p.nodes.length) (aw:(b7 p n).kids.length≤3) (he:km p (b7 p n).n=0) :
  bs d4 66 [.bl (gR p (l3 p) mb) 0,.int .i64 (n:Int)] (gK mb) (rb mb (.bW [.aF 1 (iK (qd p n)) .a7,.bool true])):=by
 have aq:=bx;have dc:fw p (n:Int)=true:=by unfold fw;simp;omega
 have hw:=py bu;have hd:=RQ p aB bu mb n av aw;obtain ⟨ck,cL,ev⟩:=ael aB bu dc aw;have pe:(qc p n).length≤300:=by unfold ts at ev;rwa [f6] at ev
 have ht:=acz (.func 133 [] []) hP (qc p n) ak (fun x aa=>aem x (ck x aa).1);have cm:=aen (ts p n) .a7 ak;obtain ⟨-,gL,gZ,-,-⟩:=FW he;have wz:∀ v own,aY d4 135 [.agg [fk (bU p).ps,br (bU p).owner,.aF 7 ((ts p n++oF (dG p (b7 p n).n) v).map et) own]] (.bool (KF p n v)):=fun v own=>by
  have aE:=adS gZ gL v;have lx:=FY (dG p (b7 p n).n) v;have I:lS (bU p) (ts p n++oF (dG p (b7 p n).n) v):=fun x aa=>by
   rcases ab'.1 aa with aa|aa
   ·exact cL x aa
   ·exact aE.2 x aa
  have h:=aeE (bU p) hw _ ⟨by rw [f0];omega,I⟩;rw [ZD hw I] at h;exact aY.args (.one (aR.agg (.cons aH (.cons aH (.one aR.a7))))) h
 have gm:=fun v (aD:v∈nX (bU p) (dG p (b7 p n).n))=>Se aD
 have FP:2^(dG p (b7 p n).n).length≤2^7:=Nat.pow_le_pow_right ak gL;have aeF:(nX (bU p) (dG p (b7 p n).n)).length≤128:=by
  unfold nX;refine al7 (al8 _ _) ?_;rw [List.length_range];omega
 rw [aeo];have aV:∀ v,oF (dG p (b7 p n).n) v=oF (dG p (b7 p n).n) v:=fun _=>rfl
 obtain ⟨y,ar,cf⟩:=b' (f:=ff) av;have e:b7 p (n:Int)=y:=by unfold b7;rw [ai7,d9,ar];rfl
 have U:=Sf p aB y.n;have ad:=Sg p aB y.n;unfold FT at U;unfold FU at ad;rw [e] at he wz gm FP aeF gL gZ ⊢;rw [f7 he] at U ad;rw [he] at U ad;have lR:ts p n=(qc p n).map hP:=rfl;rw [← lR] at ht;generalize KF p n=h2 at *;generalize ts p n=fN at *;generalize nX (bU p) (dG p y.n)=vs at *;generalize dG p y.n=cP at *;refine bs.bj ah Tryz.func66 C C fun s I=>?_
 unfold ff h4 at cf;unfold gK ih gr at *;unfold cQ at *;unfold gR cj fL at *;refine c1 ?_;refine ab.bL rfl rfl rfl rfl rfl hd I (az.all _) ?_ (fun _ _ ⟨h,_⟩ _=>by cases h);rintro _ _ ⟨⟨⟩,rfl⟩ I;rw [d7] at I ⊢;unfold gK at I ⊢;refine c1 ?_;refine af.hv I 3 1 0 fun I=>?_
 refine af.cc [0,7,11,51,52] C I (σ:=Nat×bM) (fun q=>[(53,.int .i64 (q.1:Int)),(12,.aF 1 (iK ((vs.take q.1).filter h2)) q.2)]) (fun q=>[(q.2,.row 3 1 ((vs.take q.1).filter h2).length),(.own mb,.map (e9 nn))]) (fun q=>q.1≤vs.length) (fun q=>vs.length-q.1) (0,.nil) (g9 _) ⟨⟨_,rfl,aH⟩,⟨_,rfl,aR.nil gF⟩,trivial⟩ a' ?_;rintro ⟨j,own⟩ aK I;simp only at aK I ⊢;refine cl ?_;refine af.cond C (fun au=>?_) (fun aV=>?_);rotate_left
 ·have aV:j=vs.length:=by simp [iK] at aV;omega
  subst aV;rw [ag'];refine fb ?_;exact Fin.bz I C (aR.bW (.cons aR.a7 (.one aH))) (az.there (az.all _)) ⟨rfl,rfl⟩
 have au:j<vs.length:=by simpa [iK] using au
 obtain ⟨v,aD,qv⟩:=b' (f:=fun v:Nat=>ag.int .i64 (v:Int)) au;have nF:(iK vs)[j]? = some (.int .i64 (v:Int)):=qv;have lK:=gm v (d8 aD);have wz:=wz v;refine fc ?_;refine af.MI (σ:=Nat×bM) (fun q=>[(15,.ptr q.1 0),(14,.int .i64 (v:Int)),(53,.int .i64 (j:Int)),(12,.aF 1 (iK ((vs.take j).filter h2)) own),(0,.bl (gR p (l3 p) mb) 0),(7,.aF 6 (cP.map ae.bh) .a7),(11,.aF 7 (fN.map et) .a7),(51,.aF 1 (iK vs) .a7),(52,.int .i64 ((iK vs).length:Int))])
  (fun q=>[(.own q.1,.box 198 [fk (bU p).ps,br (bU p).owner,.aF 7 (fN.map et) q.2]),(q.2,.row 194 7 fN.length),(own,.row 3 1 ((vs.take j).filter h2).length),(.own mb,.map (e9 nn))]) (fun _=>True) ?_ ?_
 ·refine af.oW ah mixed C (bb.run C ?_)
  refine bb.many rfl (de.c (fq.mk (i:=5) rfl rfl rfl rfl (aX.bL rfl rfl cm I .nil) ?_ (fun _ _ h=>by obtain ⟨_,_,_,_,h,_⟩:=h;cases h)) (de.c (fq.mk (i:=7) rfl rfl rfl rfl (aX.c3 ah I rfl rfl rfl rfl (X:=fun _ _=>False)) ?_ (fun _ _ h=>False.elim h)) de.n))
  ·rintro _ _ ⟨aM,rfl,I,⟨pb,⟨⟩,rfl⟩⟩
   rw [show ∀ (a:bM×ds) (R:a6),[a]++R=a::R from fun _ _=>rfl] at I ⊢;refine bb.run C ?_;refine bb.many C (de.c (fq.mk (i:=7) C C C C (aX.c3 ah I C C C C (X:=fun _ _=>False)) ?_ (fun _ _ h=>False.elim h)) de.n)
   ·rintro _ _ ⟨h7,rfl,rfl,I⟩
    refine bb.run C ?_;refine bb.many C (de.c (fq.jP (i:=8) C C C (aX.cC ah I C C C C C C C aO C (X:=fun _ _=>False)) ?_ (fun _ _ h=>False.elim h)) de.n)
    ·rintro _ _ ⟨rfl,I⟩
     refine bb.run C ?_;refine bb.done C ?_;exact vw.mk (h7,pb) I trivial (cy C) a'
  ·rintro _ _ ⟨h7,rfl,rfl,I⟩
   refine bb.run C ?_;refine bb.many rfl (de.c (fq.mk (i:=5) rfl rfl rfl rfl (aX.bL rfl rfl cm I .nil) ?_ (fun _ _ h=>by obtain ⟨_,_,_,_,h,_⟩:=h;cases h)) de.n)
   ·rintro _ _ ⟨aM,rfl,I,⟨pb,⟨⟩,rfl⟩⟩
    rw [show ∀ (a:bM×ds) (R:a6),[a]++R=a::R from fun _ _=>rfl] at I ⊢;refine bb.run C ?_;refine bb.many C (de.c (fq.jP (i:=8) C C C (aX.cC ah I C C C C C C C aO C (X:=fun _ _=>False)) ?_ (fun _ _ h=>False.elim h)) de.n)
    ·rintro _ _ ⟨rfl,I⟩
     refine bb.run C ?_;refine bb.done C ?_;exact vw.mk (h7,pb) I trivial (cy C) a'
 rintro ⟨h7,pb⟩-I;unfold gR cj fL;have aeG:(oF cP v).length=cP.length:=FY cP v;obtain ⟨ls,q2⟩:∃ ls:Nat→List bG,∀ i,ls i=fN++(oF cP v).take i:=⟨_,fun _=>rfl⟩;have va:ls 0=fN:=by rw [q2,an7,d7]
 have lx:∀ i,(ls i).length≤fN.length+i:=fun i=>by rw [q2,f0,ah'];omega
 refine gp ?_;refine af.cc [0,7,11,12,14,15,51,52,53,64,65] C I (σ:=Nat×bM) (fun q=>[(66,.int .i64 (q.1:Int))]) (fun q=>[(.own h7,.box 198 [fk (bU p).ps,br (bU p).owner,.aF 7 ((ls q.1).map et) q.2]),(q.2,.row 194 7 (ls q.1).length),(own,.row 3 1 ((vs.take j).filter h2).length),(.own mb,.map (e9 nn))]) (fun q=>q.1≤cP.length) (fun q=>cP.length-q.1) (0,pb) (g9 _) (cy C) (by show az _ [(_,.box _ [_,_,.aF _ ((ls 0).map et) _]),(_,.row _ _ (ls 0).length),_,_] _;rw [va];exact a') ?_;rintro ⟨i,zI⟩ aQ I;simp only at aQ I ⊢;refine cl ?_;refine af.cond C (fun au=>?_) (fun aV=>?_);rotate_left
 ·have aV:i=cP.length:=by simp at aV;omega
  subst aV;have hle:ls cP.length=fN++oF cP v:=by rw [q2,← aeG,ag']
  have wz:=wz zI;rw [← hle] at wz;have gd:((vs.take j).filter h2).length≤j:=al7 (al8 _ _) wE;have al:(vs.take (j+1)).filter h2=(vs.take j).filter h2++(if h2 v then [v] else []):=by
   rw [fD aD,List.filter_append,List.filter_cons];split<;>rfl
  cases ay:h2 v with
  | false=>
   rw [ay] at wz al;rw [f4 bc,d7] at al;rw [← al] at I ⊢;refine hC I ?_;intro I;exact bA.mk (j+1,own) I au ct a' (by show vs.length-(j+1)<vs.length-j;omega)
  | true=>
   rw [ay] at wz al;rw [f7 C] at al;have F2:iK ((vs.take (j+1)).filter h2)=iK ((vs.take j).filter h2)++[.int .i64 (v:Int)]:=by rw [al];unfold iK;rw [t8];rfl
   have dt:((vs.take (j+1)).filter h2).length=((vs.take j).filter h2).length+1:=by rw [al,f0];rfl
   have aeH:(iK ((vs.take j).filter h2)).length=((vs.take j).filter h2).length:=by unfold iK;rw [f6]
   refine c9 I ?_;intro I;refine ab.gn ah I C C C C C C C dB C C C C C C C C aO aeH.symm lP ak (fun b1 I=>?_);refine iQ ?_;exact bA.mk (j+1,.own b1) I au (by repeat (first|exact trivial|refine ⟨⟨_,rfl,aH⟩,?_⟩|refine ⟨⟨_,rfl,aR.of_eq (by (first|rw [lo ak]|(rw [F2];done)))⟩,?_⟩)) (by show az _ [(_,.row _ _ ((vs.take (j+1)).filter h2).length),_] _;rw [dt];exact a') (by show vs.length-(j+1)<vs.length-j;omega)
 have dA:i<cP.length:=by simpa using au
 obtain ⟨x,aa,bY⟩:=b' (f:=ae.bh) dA;rw [ae.bJ] at bY;unfold ae.cells at bY;have al:=q2 (i+1);rw [fD (Sn (v:=v) aa),← aj0,← q2] at al;have dt:(ls (i+1)).length=(ls i).length+1:=by rw [al,f0];rfl
 have sj:(ls (i+1)).map et=(ls i).map et++[et (x,!v.testBit i)]:=by rw [al,t8];rfl
 rw [q9] at sj;have ahb:=lx i;have sJ:((((v >>> i) &&& 1:Nat):Int)==0) = !v.testBit i:=by
  have h:=NI v i;rcases Nat.mod_two_eq_zero_or_one (v >>> i) with e|e
  ·rw [av3,e] at h ⊢;rw [← h];rfl
  ·rw [av3,e] at h ⊢;rw [← h];rfl
 have aeI:v<2^63:=by omega
 repeat (first|(refine vr I ?_;clear I;intro I)|refine ab.c3 ah I rfl rfl rfl rfl rfl rfl rfl (fun cu I=>?_))
 refine af.im I 17 _ C aO (fun I=>?_);refine af.m7 I h7 aO ah mixed C ?_;refine kU ?_;refine aS.shr _ C C C C C C ak (Bj ak) ?_;refine aS.bits _ C C C C C C (HG (n:=1) (Nat.lt_of_le_of_lt (Nat.shiftRight_le v i) aeI) ak) ?_;refine kV ?_;refine aS.oz C C C C (aX.lN ah I C C C C dB C C C C (.inr C) C Ad (by simp only [f6,ad'];show _*88≤_;omega) Ac (f6 _).symm (n':=(ls i).length+1) x' rfl aO (X:=fun _ _=>False)) (fun x an h=>by obtain ⟨_,_,_,_,U,ad⟩:=h;subst U;exact bm.get aO ad) ?_ (fun _ _ h=>h.elim);rintro _ _ ⟨wA,-,-,rfl,rfl,I⟩;refine sN I ?_;intro I;rw [← sJ] at sj;refine eF ?_;exact bA.mk (i+1,wA) I dA ct (by show az _ [(_,.box _ [_,_,.aF _ ((ls (i+1)).map et) _]),(_,.row _ _ (ls (i+1)).length),_,_] _;rw [sj,dt];exact a') (by show cP.length-(i+1)<cP.length-i;omega)
def uR (p:aU) (n:Int):Int:=if mL p n=0 then if km p (b7 p n).n=0 then 0 else 3 else mL p n
theorem aeJ {p:aU} {n:Int} (aw:mL p n=0):cS p=true∧(∃ k:Nat,n=k∧k<p.nodes.length)∧(b7 p n).op=5∧(b7 p n).kids.length≤3:=by
 unfold mL at aw;split at aw;rotate_left
 ·omega
 rename_i U;obtain ⟨bu,dc⟩:=U;split at aw;rotate_left
 ·omega
 rename_i bF;refine ⟨bu,?_,bF,?_⟩
 ·unfold fw at dc
  simp only [d6,f5] at dc;exact ⟨n.toNat,by omega,by omega⟩
 ·obtain ⟨n6,sz,I⟩:=z1 bu dc
  obtain ⟨g1,g2,g3⟩:=Ka I bF;have:=Cs bu (p.dX.getD (b7 p n).n.toNat 0) Su;omega
theorem aeK (p:aU) (aB:e3 p) (n:Int):aY d4 20 [cQ p,.int .i64 n] (.bW [.aF 1 (if uR p n=0 then iK (qd p n) else []) .a7,.int .i64 (uR p n)]):=by
 have aq:=bx;refine aY.bj ah Tryz.func20 C C fun s I=>?_
 by_cases aw:mL p n=0
 ·obtain ⟨bu,⟨k,rfl,hd⟩,bF,yp⟩:=aeJ aw
  have bf:=RT p aB bu k hd bF;by_cases he:km p (b7 p (k:Int)).n=0
  ·have gB:uR p (k:Int)=0:=by unfold uR;rw [f7 aw,f7 he]
   rw [gB,f7 C];have ax:=fun mb=>SX p aB bu mb k hd yp he
   unfold cQ at *;unfold cj at bf ⊢;refine cX ?_;refine ab.bL rfl rfl rfl rfl rfl bf I .nil ?_ (fun _ _ ⟨_,h,_⟩ _=>by cases h);rintro _ _ ⟨mb,⟨⟩,rfl⟩ I;rw [d7] at I ⊢;refine bd ?_;refine ab.bL rfl rfl rfl rfl rfl (ax mb) I (az.all _) ?_ (fun _ _ ⟨h,_⟩ _=>by cases h);rintro _ _ ⟨⟨⟩,rfl⟩ I;rw [d7] at I ⊢;refine bd ?_;exact b2 I
  ·have gB:uR p (k:Int)=3:=by unfold uR;rw [f7 aw,f4 he]
   rw [gB,f4 dh];have ax:=fun mb=>SM p aB mb k hd he
   unfold cQ at *;unfold cj at bf ⊢;refine cX ?_;refine ab.bL rfl rfl rfl rfl rfl bf I .nil ?_ (fun _ _ ⟨_,h,_⟩ _=>by cases h);rintro _ _ ⟨mb,⟨⟩,rfl⟩ I;rw [d7] at I ⊢;refine bd ?_;refine ab.bL rfl rfl rfl rfl rfl (ax mb) I (az.all _) ?_ (fun _ _ ⟨h,_⟩ _=>by cases h);rintro _ _ ⟨⟨⟩,rfl⟩ I;rw [d7] at I ⊢;refine bd ?_;exact Fin.cZ I C (aR.bW (.cons aR.empty (.one aH)))
 ·have gB:uR p n=mL p n:=by unfold uR;rw [f4 aw]
  rw [gB,f4 aw];have bf:=RU p aB n aw;generalize mL p n=e at *;unfold cQ at *;unfold cj at bf ⊢;refine gw ?_;refine af.cond C (fun _=>?_) (fun h=>absurd fG aw);refine o3 ?_;exact Fin.cZ I C (aR.bW (.cons aR.empty (.one aH)))
structure F3 (p:aU) (l:List Int):Prop where
 sc:∀ m∈l,hG p m
 nodup:l.Nodup
 gen:∀ m∈l,∀ n∈l,jY p m=jY p n
 len:l.length<bK
theorem aeL (p:aU) (jI:p.methods.length<bK) (mb:Nat) (m:Nat) (hm:m<p.methods.length):cY d4 (.func 358 [] [.bl [.bl (lE p mb) 0] 0]) [ba m] (.bool false):=by
 have aq:=bx;refine cY.ey (first:=[]) (cap:=[.bl [.bl (lE p mb) 0] 0]) ?_;refine aY.bj ah Tryz.func358 C C fun s I=>?_
 unfold lE cj fL ba;refine nM ?_;refine Fin.cZ I C (aR.of_eq (ak5 ag.bool ?_));simp;omega
theorem aeM (p:aU) (jI:p.methods.length<bK) (mb:Nat) (l:List Int) (aE:l.length<bK) (aQ:∀ m∈l,hG p m):aY d4 318 [.bl (lE p mb) 0,br l] (.bool true):=by
 have aq:=bx;refine aY.bj ah Tryz.func318 C C fun s I=>?_
 have U:=Nw (.func 358 [] [.bl [.bl (lE p mb) 0] 0]) (fun _=>false) l aE (fun x aa=>by
  obtain ⟨bn,U⟩:=aQ x aa
  obtain ⟨m,rfl⟩:∃ m:Nat,x=m:=⟨x.toNat,by omega⟩
  exact aeL p jI mb m ak)
 rw [show l.any (fun _=>false)=false by rw [al2];simp] at U;unfold br;refine gw ?_;exact b2 I
theorem aeN (p:aU) (jI:p.methods.length<bK) (mb:Nat) (l:List Int) (aE:F3 p l):aY d4 267 [.bl (lE p mb) 0,br l,.bool false] (.bool true):=by
 have aq:=bx;refine aY.bj ah Tryz.func267 C C fun s I=>?_
 have lx:=aE.len;have U:=aeM p jI mb l lx aE.sc;unfold lE cj fL br at *;refine c1 ?_;refine ab.ou I C C C C (fun h7 I=>?_);refine bd ?_;refine af.cc [0,1,2,7,15,16] C I (σ:=Nat×g') (fun q=>[(17,.int .i64 (q.1:Int))]) (fun q=>[(.own h7,.map (e9 q.2))]) (fun q=>q.1≤l.length∧jm q.2 (l.take q.1)) (fun q=>l.length-q.1) (0,[]) ⟨g9 _,jm.nil⟩ (cy C) a' ?_;rintro ⟨j,da⟩ ⟨aK,e8⟩ I
 try simp only at aK e8 I ⊢
 refine cl ?_;refine af.cond C (fun au=>?_) (fun aV=>?_);rotate_left
 ·have aV:j=l.length:=by simp at aV;omega
  refine fb ?_;exact b2 I
 have au:j<l.length:=by simpa using au
 obtain ⟨x,aa,bY⟩:=b' (f:=ba) au;obtain ⟨z,bO,xK⟩:=b' (f:=ba) (l:=l) (j:=0) ak;have SY:=d8 aa;have BC:=d8 bO;have fs:=e8.look x;have r3:(l.take j).contains x=false:=by
  rw [Bool.eq_false_iff];intro aw;rw [List.contains_iff_mem] at aw;obtain ⟨i,aQ,J6⟩:=List.mem_take_iff_getElem.1 aw;obtain ⟨ma,iB⟩:=List.getElem?_eq_some_iff.1 aa;have:=(List.getElem_inj aE.nodup).1 (J6.trans iB.symm);omega
 rw [r3,f4 bc] at fs;have SZ:=aE.gen x SY z BC;obtain ⟨g0,g1⟩:=aE.sc x SY;obtain ⟨G0,ck⟩:=aE.sc z BC;obtain ⟨m,rfl⟩:∃ m:Nat,x=m:=⟨x.toNat,by omega⟩;obtain ⟨n,rfl⟩:∃ n:Nat,z=n:=⟨z.toNat,by omega⟩;obtain ⟨kQ,-,S0,-,-,bT⟩:=ra (p:=p) (m:=m) ak;obtain ⟨aim,-,aeO,-,-,bI⟩:=ra (p:=p) (m:=n) ak;rw [bT,bI] at SZ;unfold hE lT at S0 aeO;rw [SZ] at S0;unfold ba at bY xK;refine vq ?_;refine aS.j7 ah I C C C C C C C C C C aO C fs C ?_;refine kU ?_;refine aS.split 47 C (fun h=>by simp at h) (fun _=>?_);refine dS ?_;refine ab.kz ah I C C (.inl C) C C C C C C aO C (mF _ _ _) (fun I=>?_);refine eF ?_;exact bA.mk (j+1,mE da (m:Int) (.bool true)) I ⟨au,by rw [fD aa];exact e8.put _⟩ ct a' jV
theorem aeP (m x:Int):cY d4 (.func 388 [] [.bl [.int .i64 m] 0]) [ba x] (.bool (x != m)):=by
 have aq:=bx;refine cY.ey (first:=[]) (cap:=[.bl [.int .i64 m] 0]) ?_;refine aY.bj ah Tryz.func388 C C fun s I=>?_
 unfold ba;refine nM ?_;exact Fin.cZ I C (aR.of_eq (ak5 ag.bool (by by_cases h:x=m<;>simp [h])))
theorem KK (l:List Int) (aE:l.length<bK) (m:Int):aY d4 360 [br l,.int .i64 m] (br (l.filter fun x=>x != m)):=by
 have aq:=bx;refine aY.bj ah Tryz.func360 C C fun s I=>?_
 have U:=aca (.func 388 [] [.bl [.int .i64 m] 0]) (fun x=>x != m) l aE (fun x _=>aeP m x);unfold br;refine gw ?_;exact b2 I
theorem S1 (dj:Int→Int→Bool):∀ (k k':Nat) (l out:List Int),l.length<k→l.length<k'→mG dj k l out=mG dj k' l out
  | 0,_,_,_,h,_=>by omega
  | _+1,0,_,_,_,h=>by omega
  | k+1,k'+1,l,out,h,eA=>by
    rw [mG,mG];split
    · rfl
    · cases aZ:l.find? (wa dj l) with
      | none=>rfl
      | some m=>
        have hm:=al6 aZ;have:(l.filter fun x=>x != m).length<l.length:=by
          rw [al9];exact ⟨m,hm,by simp⟩
        exact S1 dj k k' _ _ ak ak
theorem aeQ (dj:Int→Int→Bool) (l out:List Int) (h:l≠[]):mG dj (l.length+1) l out=match l.find? (wa dj l) with
  | none=>(out,true)
  | some m=>mG dj ((l.filter fun x=>x != m).length+1) (l.filter fun x=>x != m) (out++[m]):=by
 rw [mG,f4 fG];cases aZ:l.find? (wa dj l) with
 | none=>rfl
 | some m=>
  have hm:=al6 aZ;have:(l.filter fun x=>x != m).length<l.length:=by
   rw [al9];exact ⟨m,hm,by simp⟩
  exact S1 dj _ _ _ _ ak ak
theorem aeR (p:aU) (bu:cS p=true) (mb:Nat) (es:SMap) (eg:lF p es) (iO:List Int) (KL:∀ m∈iO,hG p m) (jL:iO.length<bK) :
  bs d4 320 [.bl (lE p mb) 0,br iO] [gg mb es] (fun o K=>o = .ret (.bW [br (chain (fF p) iO).1,.bool (chain (fF p) iO).2])∧yn p mb K):=by
 have aq:=bx;have jI:=(r2 bu).1;have aeS:=fun es eg m n hm av=>Rw p bu mb es eg m n hm av
 refine bs.bj ah Tryz.func320 C C fun s I=>?_
 unfold chain;unfold gg br at *;generalize gz:mG (fF p) (iO.length+1) iO []=res;refine c1 ?_;refine af.hv I 3 1 0 fun I=>?_
 refine af.cc [0] C I (σ:=List Int×List Int×bM×SMap) (fun q=>[(1,.aF 1 (q.1.map ba) .a7),(6,.aF 1 (q.2.1.map ba) q.2.2.1)]) (fun q=>[(.own mb,.map (jE .i64 q.2.2.2)),(q.2.2.1,.row 3 1 q.2.1.length)]) (fun q=>(∀ m∈q.1,hG p m)∧q.1.length+q.2.1.length≤iO.length∧mG (fF p) (q.1.length+1) q.1 q.2.1=res∧lF p q.2.2.2) (fun q=>q.1.length) (iO,[],.nil,es) ⟨KL,by simp,gz,eg⟩ ⟨⟨_,rfl,aH⟩,⟨_,rfl,aR.nil gF⟩,trivial⟩ a' ?_;clear gz eg;rintro ⟨l,out,own,es⟩ ⟨dc,iD,gz,eg⟩ I;simp only at dc iD gz eg I ⊢;refine cl ?_;refine af.cond C (fun w0=>?_) (fun hzero=>?_);rotate_left
 ·obtain rfl:l=[]:=by
   have:l.length=0:=by simp at hzero;simpa using hzero
   exact List.eq_nil_of_length_eq_zero this
  have cm:=vC (out.map ba) own;rw [mG] at gz;have gz:(out,false)=res:=by simpa using gz
  rw [← gz];refine dS ?_;exact Fin.bz I C (aR.bW (.cons aR.a7 (.one aH))) (.cons .here .nil) ⟨rfl,es,eg,rfl⟩
 have cN:l≠[]:=by intro e;subst e;simp at w0
 rw [aeQ _ _ _ cN] at gz;refine c1 ?_;refine af.cc [0,1,6,14,15] C I (σ:=Nat×SMap) (fun q=>[(16,.int .i64 (q.1:Int))]) (fun q=>[(.own mb,.map (jE .i64 q.2)),(own,.row 3 1 out.length)]) (fun q=>q.1≤l.length∧l.find? (wa (fF p) l)=(l.drop q.1).find? (wa (fF p) l)∧lF p q.2) (fun q=>l.length-q.1) (0,es) ⟨g9 _,rfl,eg⟩ (cy C) a' ?_;clear eg;rintro ⟨j,es⟩ ⟨aK,j5,eg⟩ I;simp only at aK j5 eg I ⊢;refine cl ?_;refine af.cond C (fun au=>?_) (fun aV=>?_);rotate_left
 ·have aV:j=l.length:=by simp at aV;omega
  rw [fe ak,List.find?_nil] at j5;rw [j5] at gz;simp only at gz;rw [← gz];have cm:=vC (out.map ba) own;refine dS ?_;exact Fin.bz I C (aR.bW (.cons aR.a7 (.one aH))) (.cons .here .nil) ⟨rfl,es,eg,rfl⟩
 have au:j<l.length:=by simpa using au
 obtain ⟨m,hm,mZ⟩:=b' (f:=ba) au;have lM:=dc m (d8 hm);rw [drop_cons hm,List.find?_cons] at j5;unfold ba at mZ;refine bd ?_;refine af.cc [0,1,6,8,14,15,16,20,21] C I (σ:=Nat×SMap) (fun q=>[(22,.int .i64 (q.1:Int))]) (fun q=>[(.own mb,.map (jE .i64 q.2)),(own,.row 3 1 out.length)]) (fun q=>q.1≤l.length∧wa (fF p) l m=(l.drop q.1).all (fun n=>decide (m=n)||fF p m n)∧lF p q.2) (fun q=>l.length-q.1) (0,es) ⟨g9 _,rfl,eg⟩ (cy C) a' ?_;clear eg;rintro ⟨i,es⟩ ⟨aQ,lQ,eg⟩ I;simp only at aQ lQ eg I ⊢;refine cl ?_;refine af.cond C (fun dA=>?_) (fun fE=>?_)
 ·have dA:i<l.length:=by simpa using dA
  obtain ⟨n,av,eO⟩:=b' (f:=ba) dA;have En:=dc n (d8 av);rw [drop_cons av,aq6] at lQ;unfold ba at eO;refine fc ?_;by_cases he:m=n
  ·refine ab.eP 29 C (by simpa using he) ?_
   rw [i6 he,Bool.true_or,i8] at lQ;refine bd ?_;exact bA.mk (i+1,es) I ⟨dA,lQ,eg⟩ ct a' CJ
  refine ab.fM 29 C (by simpa using he) ?_;rw [M2 he,Bool.false_or] at lQ;unfold hG at lM En;obtain ⟨CN,rfl⟩:∃ k:Nat,m=k:=⟨m.toNat,by omega⟩;obtain ⟨s4,rfl⟩:∃ k:Nat,n=k:=⟨n.toNat,by omega⟩;refine fB ?_;refine ab.bL rfl rfl rfl rfl rfl (aeS es eg CN s4 ak ak) I a' ?_ (fun _ _ ⟨h,_⟩ _=>by cases h);rintro _ _ ⟨⟨⟩,lB,nm,rfl⟩ I;unfold gg at I ⊢;simp only [List.cons_append,d0] at I ⊢;cases vk:fF p CN s4 with
  | true=>
   rw [vk,i8] at lQ;refine bd ?_;exact bA.mk (i+1,lB) I ⟨dA,lQ,nm⟩ ct a' CJ
  | false=>
   rw [vk,aa'] at lQ;rw [lQ] at j5;refine bd ?_;exact bA.mk (j+1,lB) I ⟨au,j5,nm⟩ ct a' jV
 have fE:i=l.length:=by simp at fE;omega
 rw [fe ak,List.all_nil] at lQ;rw [lQ] at j5;simp only at j5;rw [j5] at gz;simp only at gz;have uI:=KK l ak m;have gd:(l.filter fun x=>x != m).length<l.length:=by
  rw [al9];exact ⟨m,d8 hm,by simp⟩
 unfold br at uI;refine bd ?_;refine ab.gn ah I C C C C C C C dB C C C C C C C C aO h' lP ak (fun b1 I=>?_);refine dS ?_;exact bA.mk (l.filter (fun x=>x != m),out++[m],.own b1,es) I ⟨fun x aa=>dc x (aj1.1 aa).1,by show (l.filter fun x=>x != m).length+(out++[m]).length≤_;rw [f0,ad'];omega,gz,eg⟩ (by repeat (first|exact trivial|refine ⟨⟨_,rfl,aH⟩,?_⟩|refine ⟨⟨_,rfl,aR.of_eq (by (rw [t8];rfl))⟩,?_⟩)) (by rw [f0];exact a') gd
theorem valuesIter (xs:List Int) (aE:xs.length<bK):vu d4 390 [] [.bl [br xs] 0] [] ba xs:=by
 have aq:=bx;intro l Go fu fC nP K bC;refine bs.bj ah Tryz.func390 C C fun s I=>?_
 rw [d0] at I ⊢;unfold br;refine gp ?_;refine af.cc [0,5,6] C I (σ:=Nat×a6) (fun q=>[(7,.int .i64 (q.1:Int))]) (fun q=>q.2) (fun q=>q.1≤xs.length∧Go (xs.drop q.1) q.2) (fun q=>xs.length-q.1) (0,K) ⟨g9 _,bC⟩ (cy C) (az.all _) ?_;rintro ⟨j,ib⟩ ⟨aK,ep⟩ I
 try simp only at aK ep I ⊢
 refine cl ?_;refine af.cond C (fun au=>?_) (fun aV=>?_);rotate_left
 ·have aV:j=xs.length:=by simp at aV;omega
  rw [fe ak] at ep;refine ki ?_;exact Fin.bz I C aH (az.all _) (.inl ⟨rfl,.inl ep⟩)
 have au:j<xs.length:=by simpa using au
 obtain ⟨x,aa,bY⟩:=b' (f:=ba) au;rw [drop_cons aa] at ep;have ar:=nP x _ ib ep;unfold ba at bY ar;refine fc ?_;refine ab.e0 C C C C C C ar I (az.all _) ?_ ?_
 ·rintro x aM (⟨⟨⟩,h⟩|⟨⟨⟩,h⟩|⟨_,⟨⟩,_⟩) I
  all_goals rw [d7] at I ⊢
  ·refine bd ?_
   exact bA.mk (j+1,aM) I ⟨au,h⟩ ct (az.all _) mq
  ·refine bd ?_
   exact Fin.bz I C aH (az.all _) (.inl ⟨rfl,.inr h⟩)
 ·rintro x aM (⟨h,_⟩|⟨h,_⟩|⟨v,⟨⟩,h⟩) I
  ·cases h
  ·cases h
  rw [d7] at I ⊢;exact Fin.e1 I aH (az.all _) (.inr ⟨_,rfl,h⟩)
theorem aeT (xs:List Int):aY d4 362 [br xs] (.func 390 [] [.bl [br xs] 0]):=by
 have aq:=bx;refine aY.bj ah Tryz.func362 C C fun s I=>?_
 unfold br;refine nM ?_;exact b2 I
theorem CO {b cap:Nat} {dJ:List ag} {l:List Int} (h:m' (some (b,cap,dJ)) l):(l.map ba++dJ).length=cap∧l.length≤cap∧(l.map ba++dJ).take l.length=l.map ba:=by
 have h:l.length+dJ.length=cap:=h;exact ⟨by simp;omega,by omega,List.take_left' bc⟩
theorem Am {b cap:Nat} {cs:List ag} {l:List Int} (U:cs.length=cap) (ad:l.length≤cap) (aj:cs.take l.length=l.map ba):m' (some (b,cap,cs.drop l.length)) l∧cs=l.map ba++cs.drop l.length:=by
 refine ⟨?_,?_⟩
 ·show l.length+(cs.drop l.length).length=cap
  rw [an0];omega
 ·rw [← aj,am2]
theorem aeU (f:FuncId) (cap:List ag) (xs:List Int) (aE:xs.length<bK) (kX:vu d4 f [] cap [] ba xs):bs d4 407 [.aF 0 [] .nil,.func f [] cap] [] (fun o K=>∃ bD,m' bD xs∧o = .ret (gy bD xs)∧K=gh bD xs):=by
 have aq:=bx;refine bs.bj ah Tryz.func407 C C fun s I=>?_
 repeat (first|(refine Hp ?_)|refine ab.h0 I C C C C C C (fun b I=>?_)|(refine Hq ?_))
 obtain ⟨fp,rfl⟩:∃ x,x=b:=⟨_,rfl⟩;refine af.zb I C dh kX .nil (fun rem K=>∃ out bD,out.length+rem.length=xs.length∧xs=out++rem∧m' bD out∧K=(.own fp,.box 23 [gy bD out])::gh bD out) (fun _ _=>False) (fun _ _=>False) ⟨[],none,by simp,rfl,rfl,rfl⟩ ?_ ?_ (fun _ _ h=>h.elim) (fun _ _ h=>h.elim)
 ·rintro s₁ x rem K ⟨out,bD,U,ad,aj,rfl⟩ I
  rw [i9] at U;unfold ba;cases bD with
  | none=>
   have bn:out=[]:=aj;subst bn;unfold gy gh at I ⊢;refine hC I ?_;intro I;refine ab.y' ah I C C C C C C C dB C C C C C C C dh (fun aW b0 cs' cx cE dz I=>?_);have ik:=Am (b:=aW) (l:=[x]) cx cE dz;rw [ik.2] at I ⊢;refine c9 I ?_;intro I;exact At.mk [(.own fp,.box 23 [dv aW 1 b0]),(.own aW,.box 3 ([x].map ba++cs'.drop 1))] I a' ⟨[x],some (aW,b0,cs'.drop 1),by simp at U ⊢;omega,by rw [ad];rfl,ik.1,rfl⟩
  | some q=>
   obtain ⟨gD,oM,dJ⟩:=q;obtain ⟨ck,cL,ev⟩:=CO aj;unfold gy gh at I ⊢;refine hC I ?_;intro I;refine ab.za ah I C C C C C C C dB C C C C aO ck cL (by rw [ev];exact te _) C C C lP ak (fun aW b0 cs' cx cE dz I=>?_);have ik:=Am (b:=aW) (l:=out++[x]) cx (by simpa using cE) Kx;rw [f0,ad'] at ik;rw [ik.2] at I ⊢;refine c9 I ?_;intro I;exact At.mk [(.own fp,.box 23 [dv aW (out.length+1) b0]),(.own aW,.box 3 ((out++[x]).map ba++cs'.drop (out.length+1)))] I a' ⟨out++[x],some (aW,b0,cs'.drop (out.length+1)),by simp;omega,by rw [ad];simp,ik.1,by simp only [gy,gh,f0,ad']⟩
 ·rintro K ⟨out,bD,U,ad,aj,rfl⟩ I
  rw [d7] at ad;subst ad;cases bD with
  | none=>
   unfold gy gh at I ⊢;refine c9 I ?_;intro I;exact Fin.bz I C aH .nil ⟨none,aj,rfl,rfl⟩
  | some q=>
   obtain ⟨gD,oM,dJ⟩:=q;unfold gy gh at I ⊢;refine c9 I ?_;intro I;exact Fin.bz I C aH (.cons (.there .here) .nil) ⟨some (gD,oM,dJ),aj,rfl,rfl⟩
theorem aeV (f:FuncId) (cap:List ag) (xs:List Int) (aE:xs.length<bK) (kX:vu d4 f [] cap [] ba xs):bs d4 389 [.func f [] cap] [] (fun o K=>∃ bD,m' bD xs∧o = .ret (gy bD xs)∧K=gh bD xs):=by
 have aw:=aeU f cap xs aE kX;refine bs.bj ah Tryz.func389 C C fun s I=>?_
 refine cX ?_;refine ab.bL rfl rfl rfl rfl rfl aw I .nil ?_ (fun _ _ h _=>by obtain ⟨_,_,h,_⟩:=h;cases h);rintro _ _ ⟨bD,U,⟨⟩,rfl⟩ I;rw [d7] at I ⊢;refine eB ?_;exact Fin.bz I C aH (az.all _) ⟨bD,U,rfl,rfl⟩
theorem aeW (f:FuncId) (cap:List ag) (xs:List Int) (aE:xs.length<bK) (kX:vu d4 f [] cap [] ba xs):bs d4 361 [.func f [] cap] [] (fun o K=>∃ bD,m' bD (hO xs)∧o = .ret (gy bD (hO xs))∧K=gh bD (hO xs)):=by
 have aq:=bx;have aw:=aeV f cap xs aE kX;have av:=P4 ();have dt:(hO xs).length=xs.length:=List.length_mergeSort _;refine bs.bj ah Tryz.func361 C C fun s I=>?_
 refine cX ?_;refine ab.bL rfl rfl rfl rfl rfl aw I .nil ?_ (fun _ _ h _=>by obtain ⟨_,_,h,_⟩:=h;cases h);rintro _ _ ⟨bD,U,⟨⟩,rfl⟩ I;rw [d7] at I ⊢;cases bD with
 | none=>
  have bn:xs=[]:=U;subst bn;simp only [gy,gh] at I ⊢;refine gw ?_;exact Fin.bz I C aH .nil ⟨none,by show hO []=[];unfold hO;simp,rfl,rfl⟩
 | some q=>
  obtain ⟨gD,oM,dJ⟩:=q;have al:=Ek gD oM xs dJ ak;have U:xs.length+dJ.length=oM:=U;simp only [gy,gh] at I ⊢;refine iR ?_;refine ab.DR C C C C C al I (az.all _) (fun I=>?_);rw [d7] at I ⊢;refine gw ?_;exact Fin.bz I C aH (az.all _) ⟨some (gD,oM,dJ),by show (hO xs).length+dJ.length=oM;rw [dt];exact U,by simp only [gy,dt],rfl⟩
section
open Go.Sort
variable {P:Program} {α:Type}
variable [Inhabited α]
theorem bs.inPlace {f:FuncId} {enc:α→Value} {encA:α→ag} {g:List α→List α} {e:TypeId} (ay:∀ l,(g l).length=l.length) (aw:rr P f) (U:∀ w p v a,Rel w p v (encA a)→v=enc a) (ad:∀ w p a,Rel w p (enc a) (encA a))
  (HB:∀ (kW off cap:Nat) (dd:List α) (w:World),Holds enc w kW off dd.toArray→kW<w.heap.size→dd.length<4611686018427387904→Calls P f #[.slice (some ⟨kW,off,none⟩) dd.length cap] w fun e w'=>e = .returned (.tuple #[])∧∃ n os,w'=grow (putRow enc (Sort.ahead w n) kW off (g dd).toArray) os)
  (b cap:Nat) (dd:List α) (rest:List ag) (aE:dd.length<4611686018427387904) :
  bs P f [dv b dd.length cap] [(.own b,.box e (dd.map encA++rest))] (fun o K=>o = .ret (.bW [])∧K=[(.own b,.box e ((g dd).map encA++rest))]):=by
 intro s I;refine ⟨aw,fun w p vs ca eG=>?_⟩;cases eG with
 | cons v _ vs' _ aD aN=>
 cases aN;cases aD;obtain ⟨cur,cx,cE,dz⟩:=ca.obj b _ (ao.fH _ _ _);have au:b<w.heap.size:=(Array.getElem?_eq_some_iff.1 cx).1;have cm:cur.toList=dd.map enc++cur.toList.drop dd.length:=by
  have aj:=cE.take dd.length;rw [List.take_append_of_le_length bc,List.take_of_length_le (l:=dd.map encA) bc] at aj;rw [← HA U aj,am2]
 have iC:dd.length≤cur.size:=by
  have:=cE.length;rw [ai8] at this;rw [this];simp
 have lQ:Holds enc w b 0 dd.toArray:=by
  intro j aK;have xr:j<dd.length:=by simpa using aK
  refine ⟨?_,by simp [World.frozen?,cx]⟩;rw [aj8,jN cx,← as7,cm,ak3 (by simpa using xr),aj6,f8 xr];simp [xr]
 refine Calls.mono (HB b 0 cap dd w lQ au aE) ?_;rintro Xd w' ⟨rfl,k,os,rfl⟩;refine ⟨by simp,.ret (.bW []),aT s [(.own b,.box e ((g dd).map encA++rest))],p,.bW #[] [] .nil,⟨_,rfl,I,rfl,rfl⟩,?_⟩;have iE:(g dd).length=dd.length:=ay dd;have w8:putRow enc (Sort.ahead w k) b 0 (g dd).toArray=(Sort.ahead w k).setRow b ((g dd).map enc++cur.toList.drop dd.length).toArray:=by
  unfold putRow mapBlock World.setRow;congr 1;refine av6 fun i=>?_
  rw [aq1,aq1];by_cases e:b=i
  ·subst e
   rw [f7 C,f7 C];show (w.heap[b]?).map _=(w.heap[b]?).map _;rw [cx];simp only [Option.map_some,onCells];congr 2;refine av6 fun j=>?_
   simp only [putCells,Array.getElem?_mapIdx,g9,true_and,aj8,ap2,iE,Nat.sub_zero];rw [← as7,← as7];by_cases aK:j<dd.length
   ·rw [ak3 (by rw [f6,iE];exact aK),aj6,f8 (l:=g dd) (by rw [iE];exact aK)]
    have:j<cur.toList.length:=by rw [ai8];omega
    rw [f8 this];simp [aK,iE]
   ·rw [List.getElem?_append_right (by rw [f6,iE];omega),f6,iE,List.getElem?_drop]
    rw [show dd.length+(j-dd.length)=j by omega];cases cur.toList[j]? with
    | none=>rfl
    | some y=>simp [aK]
  ·rw [f4 e,f4 e]
 rw [w8];have hc:b4 w p (((g dd).map enc++cur.toList.drop dd.length).toArray).toList ((g dd).map encA++rest):=by
  refine b4.append (Hz ad _) ?_;have:=cE.drop dd.length;rwa [List.drop_append_of_le_length bc,List.drop_of_length_le (l:=dd.map encA) bc,d0] at this
 have fg:=MD k ca;have cK:(aT s [(.own b,.box e (dd.map encA++rest))]) b=some (.box e (dd.map encA++rest)):=ao.fH _ _ _
 obtain ⟨dq,jS,jf⟩:=u' fg cK (vs':=((g dd).map enc++cur.toList.drop dd.length).toArray) (cs':=(g dd).map encA++rest) (fun xq bn=>by
  have Bf:w.heap[b]? = some (.cells xq e (0,0)):=bn
  rw [cx] at Bf;cases Bf
  simp only [ap2,f0,f6,iE,an0,ai8]
  omega) (hc.mono (tV k)) _ C
 rw [show (aT s [(.own b,.box e (dd.map encA++rest))]).set b (.box e ((g dd).map encA++rest))=aT s [(.own b,.box e ((g dd).map encA++rest))] from ao.set_set _ _ _ _] at jS jf;refine ⟨((tV k).trans dq).trans (Hy jf.lt os),((ME k).trans (tV (p:=p) k).size jS).trans ((tV k).trans dq).size (MG os),MF jf os⟩
end
end Go.Proofs.YtimbpjfhekcofaaGreat
