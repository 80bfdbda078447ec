import Derived.Test.YtnafpeohfbglmaaGreatTh
import Derived.Test.YtnafpeohfbglmaaGreatRows
import Derived.ProofKit
import Derived.OpenShut
import Derived.WalkKit
import Derived.JoinedCond
set_option linter.unusedVariables false
set_option linter.unusedSimpArgs false
set_option maxRecDepth 100000
set_option maxHeartbeats 4000000
open Array renaming length_toList→ae5
open Bool renaming and_eq_true→f4,and_false→ak5,and_true→aq6,eq_false_iff→af3,eq_iff_iff→af0,false_and→f6,or_eq_true→ah5,or_false→al9,or_true→ao3,true_and→f5,true_or→am1
open Int renaming natCast_nonneg→ao9,toNat_natCast→i9
open List renaming all_eq_true→af5,any_eq_true→af4,cons_append→ab',contains_iff_mem→ah0,countP_cons→ax3,drop_nil→as9,drop_succ_cons→ao2,drop→ap6,filter_eq_nil_iff→as0,filter_eq_self→at0,getD_eq_getElem?_getD→d5,getElem?_append_left→af9,getElem?_append_right→ae',getElem?_cons_succ→ai4,getElem?_cons_zero→am8,getElem?_drop→ao8,getElem?_eq_getElem→d8,getElem?_eq_none→ak4,getElem?_eq_some_iff→t7,getElem?_map→ae7,getElem?_of_mem→af',getElem?_reverse→ao7,getElem_mem→aj4,isEmpty_iff→ax1,length_append→f9,length_cons→i5,length_map→f8,length_nil→ag0,length_reverse→an5,map_append→ae1,map_cons→ae0,map_nil→ag7,mem_append_left→ai7,mem_append_right→an8,mem_append→ae2,mem_cons_of_mem→i0,mem_cons_self→i6,mem_cons→ae8,mem_filter→ag3,mem_map→af8,mem_of_getElem?→d6,mem_or_eq_of_mem_set→ak9,mem_range→aj2,mem_singleton→t6,nil_append→f0,nodup_nil→ar2,sum_cons→aq5,take_append_of_le_length→ah3,take_zero→al3,take→ar8
open Nat renaming add_sub_cancel→aq1,add_zero→aq0,le_refl→g7,lt_of_lt_of_le→aj7,lt_succ_self→am3,lt_trichotomy→aq8,not_lt_zero→an6,pow_le_pow_right→ah6,sub_self→am',sub_zero→au',testBit_lt_two_pow→al0,zero_add→af6,zero_le→g9
open Option renaming bind_eq_some_iff→au1,bind_some→ai',getD_some→ae4,map_some→al',some→ak0
open Go.Proofs.Tryz renaming prog→d0
namespace Go.Proofs.YtnafpeohfbglmaaGreat
theorem Jz {p:Prop} (h:p:=by repeat (first|exact trivial|refine ⟨⟨_,rfl,aT⟩,?_⟩|refine ⟨⟨_,rfl,aZ.of_eq (by (rw [kF (by simp at az;omega)]))⟩,?_⟩)):p:=h
theorem Qq {w:bz} (hw:fw w):∀ (n c j k:Nat),c<n→c<3+w.ps.length→((dM w.ps).getD c 0).testBit j=true→((dM w.ps).getD j 0).testBit k=true→((dM w.ps).getD c 0).testBit k=true
  | 0,c,j,k,h,_,_,_=>absurd h (an6 _)
  | n+1,c,j,k,h,aD,aa,ad=>by
    by_cases aj:c<3
    · rcases xI aj aa with rfl|rfl
      · exact ad
      · rcases xI ag ad with rfl|rfl<;>exact IJ hw aD
    · obtain ⟨i,rfl⟩:∃ i,c=3+i:=⟨c-3,by omega⟩
      have aC:w.ps[i]? = some w.ps[i]:=d8 ag;generalize w.ps[i]=l at aC;rw [zj hw aC] at aa ⊢;simp only [ah5,g6,af4] at aa ⊢;rcases aa with rfl|rfl|⟨p,aF,an⟩
      · rcases xI ag ad with rfl|rfl<;>exact .inl C
      · rw [zj hw aC] at ad
        simpa only [ah5,g6,af4] using ad
      · have:=xH hw aC aF
        exact .inr (.inr ⟨p,aF,Qq hw n p.toNat j k ag ag an ad⟩)
theorem abE {w:bz} (hw:fw w) {c:Nat} (aD:c<3+w.ps.length) {f:Nat→Bool} (aX:∀ k,f k=true→((dM w.ps).getD c 0).testBit k=true) {k:Nat} (h:hX w.ps w.ps.length f k=true):((dM w.ps).getD c 0).testBit k=true:=by
 by_cases aj:k<3
 ·rw [Ex hw _ f k aj (g7 _)] at h
  exact aX k h
 ·rcases (Ey hw _ f k ag (g7 _)).1 h with h|⟨j,aI,aa,ad⟩
  ·exact aX k h
  ·exact Qq hw (c+1) c (3+j) k (am3 _) aD (aX _ aa) ad
theorem E2 (w:bz) (aP:List c3):∀ (a b:List Int) (v:Int×Int),ht w aP v (a++b)=(ht w aP v a).bind fun u=>ht w aP u b
  | [],b,v=>by rw [f0,ht,ai']
  | s::r,b,v=>by
    rw [ab',ht,ht];split
    · rfl
    split
    · exact E2 w aP r b _
    · rfl
def JA (m:Int) (f:av):Bool:=if f.op=2 then !decide (f.cls>1) else ((decide (m=f.n)==decide (f.op=4))&&decide (m≤f.n))
theorem Qr {m:Int}:∀ (L:List cv) (a:Int×Int×List Int),(∀ x∈L,x.1.cU=true∧JA m x.1 = !x.2)→a.1≤m→m≤a.2.1→m∉a.2.2→∃ b,s0 L a=some b∧b.1≤m∧m≤b.2.1∧m∉b.2.2
  | [],a,_,aa,ad,aj=>⟨a,rfl,aa,ad,aj⟩
  | x::r,a,bM,aa,ad,aj=>by
    obtain ⟨aC,ab⟩:=bM x i6;have aW:=fun a=>Qr r a fun y ax=>bM y (i0 _ ax)
    unfold av.cU at aC;simp only [f4,g6] at aC;rw [s0];unfold JA at ab;by_cases bT:x.1.op=2
    · rw [f7 bT] at ab ⊢
      rw [d7 (by cases aD:decide (x.1.cls>1)<;>rw [aD] at ab<;>cases h:x.2<;>simp_all)];exact aW a aa ad aj
    · rw [d7 bT] at ab ⊢
      by_cases e5:x.1.op=3
      · rw [f7 e5]
        rw [show decide (x.1.op=4)=false from i8 ag] at ab;cases aB:x.2 with
        | true=>
          rw [aB] at ab;rw [f7 C];refine aW _ (Int.max_le.2 ⟨aa,?_⟩) ad aj;by_cases h:m=x.1.n
          · omega
          · rw [i8 h] at ab
            simp at ab;omega
        | false=>
          rw [aB] at ab;rw [d7 bc];refine aW _ aa (Int.le_min.2 ⟨ad,?_⟩) aj;by_cases h:m=x.1.n
          · rw [g8 h] at ab;simp at ab
          · rw [i8 h] at ab
            simp at ab;omega
      · rw [d7 e5]
        rw [show decide (x.1.op=4)=true from g8 ag] at ab;cases aB:x.2 with
        | true=>
          rw [aB] at ab;rw [f7 C];refine aW _ aa ad ?_;by_cases h:m=x.1.n
          · rw [g8 h] at ab;simp at ab;omega
          · exact fun hm=>(ae2.1 hm).elim aj fun hm=>h (t6.1 hm)
        | false=>
          rw [aB] at ab;rw [d7 bc];have h:m=x.1.n:=by
            by_cases h:m=x.1.n
            · exact h
            · rw [i8 h] at ab;simp at ab
          exact aW _ (Int.max_le.2 ⟨aa,by omega⟩) (Int.le_min.2 ⟨ad,by omega⟩) aj
theorem Qs {m:Int} {l:List Int} (hm:m∉l):∀ (k:Nat) (n:Int),n≤m→zo k n l≤m
  | 0,n,h=>h
  | k+1,n,h=>by
    rw [zo];split
    · rename_i aD
      have:n≠m:=fun e=>hm (by rw [← e];exact ah0.1 aD)
      exact Qs hm k (n+1) ag
    · exact h
def E3 (w:bz) (aP:List c3) (args:List (Int×Int)) (L:List cv):Prop:=∀ x∈L,nV w aP args x.1 = !x.2
section
variable {w:bz} (hw:fw w) {aP:List c3} (ai:n1 w aP) {args:List (Int×Int)} {L:List cv} (bM:pG w L) (di:E3 w aP args L)
include bM di
theorem JB {arg:Int} {path:List Int} {u:Int×Int} (hu:ht w aP (args.getD arg.toNat (0,0)) path=some u) {x:cv} (ab:x∈gf L arg path):x.1.cU=true∧0≤x.1.cls∧(x.1.op=2→x.1.cls<3+(w.ps.length:Int))∧(!x.2)=(if x.1.op=2 then (if u.1=3 then (hc w (aP.getD u.2.toNat default).cls).testBit x.1.cls.toNat else (hc w u.1).testBit x.1.cls.toNat) else decide (u.1=1)&&((decide (u.2=x.1.n)==decide (x.1.op=4))&&decide (u.2≤x.1.n))):=by
 unfold gf at ab;obtain ⟨hm,cN⟩:=ag3.1 ab;unfold zn at cN;simp only [f4,g6,am5] at cN;obtain ⟨aB,aC⟩:=bM x hm;have aM:=di x hm;unfold nV at aM;rw [cN.1,cN.2,hu] at aM;unfold hM at aB;rw [aC,f7 C] at aB;simp only [f4,g6] at aB;obtain ⟨_,_,_,_,_,_,_,aD⟩:=aB;refine ⟨aC,?_,fun ad=>?_,aM.symm⟩
 ·split at aD<;>simp only [f4,g6] at aD<;>omega
 ·rw [f7 ad] at aD
  simp only [f4,g6] at aD;omega
omit bM in
theorem Qt {arg:Int} {path:List Int} (an:mj L arg path=false):∃ u,ht w aP (args.getD arg.toNat (0,0)) path=some u:=by
 unfold mj at an;rw [Bool.not_eq_false',af4] at an;obtain ⟨x,hm,ab⟩:=an;rw [f4,Bool.not_eq_true'] at ab;obtain ⟨aa,ad⟩:=ab;rw [zw] at ad;obtain ⟨b6,bW,eN⟩:=ad;have aM:=di x hm;rw [aa] at aM;unfold nV at aM;have aF:x.1.path=path++x.1.path.drop path.length:=by
  conv=>lhs;rw [← List.take_append_drop path.length x.1.path]
  rw [eN]
 rw [b6,aF,E2] at aM;cases h:ht w aP (args.getD arg.toNat (0,0)) path with
 | none=>rw [h] at aM;simp at aM
 | some u=>exact ⟨u,rfl⟩
omit bM in
theorem Qu {arg:Int} {path:List Int} {u:Int×Int} (hu:ht w aP (args.getD arg.toNat (0,0)) path=some u) (aj:u.1≠3) (n:Nat):vF n L arg path=true:=by
 unfold vF;rw [af5];intro s _;cases an:mj L arg (path++[s]) with
 | true=>rfl
 | false=>
  obtain ⟨v,ar⟩:=Qt di an;rw [E2,hu,ai',ht] at ar;rw [f7 aj] at ar;cases ar
end
theorem Qv {U:Nat→Bool}:∀ (l:List cv) (a:(Nat→Bool)×(Nat→Bool)),(∀ x∈l,0≤x.1.cls∧(!x.2)=(decide (x.1.op=2)&&U x.1.cls.toNat))→U 1=false→U 2=false→(∀ k,a.1 k=true→U k=true)→(∀ k,a.2 k=true→U k=false)→∃ b,uh l a=some b∧(∀ k,b.1 k=true→U k=true)∧(∀ k,b.2 k=true→U k=false)
  | [],a,_,_,_,aa,ad=>⟨a,rfl,aa,ad⟩
  | x::r,a,aC,hz,hZ,aa,ad=>by
    obtain ⟨aD,ab⟩:=aC x i6;have aW:=fun a=>Qv r a (fun y ax=>aC y (i0 _ ax)) hz hZ
    rw [uh];by_cases au:x.1.op≠2∨x.1.cls=1∨x.1.cls=2
    · rw [f7 au]
      have:x.2=true:=by
        rcases au with h|h|h
        · rw [i8 h] at ab;simpa using ab
        · rw [h,show (1:Int).toNat=1 from rfl,hz] at ab;simpa using ab
        · rw [h,show (2:Int).toNat=2 from rfl,hZ] at ab;simpa using ab
      rw [this,f7 C];exact aW a aa ad
    · rw [d7 au]
      have nR:x.1.op=2:=by omega
      rw [g8 nR,f5] at ab;cases aB:x.2 with
      | true=>
        rw [aB] at ab;rw [f7 C];refine aW _ aa fun k aA=>?_
        simp only at aA;split at aA
        · rename_i e;rw [e];exact ab.symm
        · exact ad k aA
      | false=>
        rw [aB] at ab;rw [d7 bc];refine aW _ (fun k aA=>?_) ad;simp only at aA;split at aA
        · rename_i e;rw [e];exact ab.symm
        · exact aa k aA
theorem Qw {w:bz} {L:List cv} {cn:List Int→Bool} {arg:Int} {path:List Int} {U:Nat→Bool}:∀ (l:List Int) (a:(Nat→Bool)×(Nat→Bool)),
    (∀ s∈l,(mj L arg (path++[s])=false→U (w.owner.getD s.toNat 0).toNat=true∧cn (path++[s])=true)∧(cn (path++[s])=false→U (w.owner.getD s.toNat 0).toNat=false)) →
    (∀ k,a.1 k=true→U k=true)→(∀ k,a.2 k=true→U k=false)→∃ b,xP w L cn arg path l a=some b∧(∀ k,b.1 k=true→U k=true)∧(∀ k,b.2 k=true→U k=false)
  | [],a,_,aa,ad=>⟨a,rfl,aa,ad⟩
  | s::r,a,aC,aa,ad=>by
    obtain ⟨g1,g2⟩:=aC s i6;rw [xP];have jc:(!mj L arg (path++[s]) && !cn (path++[s]))=false:=by
      cases an:mj L arg (path++[s]) with
      | true=>rfl
      | false=>rw [(g1 an).2];rfl
    rw [jc,d7 bc];refine Qw r _ (fun y ax=>aC y (i0 _ ax)) (fun k aA=>?_) (fun k aA=>?_)
    · simp only at aA
      split at aA
      · exact aa k aA
      · rename_i an
        simp only at aA;split at aA
        · rename_i e;rw [e];exact (g1 uu).1
        · exact aa k aA
    · simp only at aA
      split at aA
      · exact ad k aA
      · rename_i an
        simp only at aA;split at aA
        · rename_i e;rw [e];exact g2 uu
        · exact ad k aA
theorem abF {w:bz} {k:Nat}:(hc w 1).testBit k=decide (k≤1):=by
 unfold hc;rw [show (1:Int).toNat=1 from rfl,← xG (ps:=w.ps) (i:=0) (g9 _) ag,al3,show (dM []).getD 1 0=3 from rfl];rcases (by omega:k=0∨k=1∨2≤k) with rfl|rfl|h
 ·rfl
 ·rfl
 ·rw [al0 (aj7 (by omega:3<2^2) (ah6 ag h)),i8 ag]
theorem abG {w:bz} {k:Nat}:(hc w 2).testBit k=(decide (k=0)||decide (k=2)):=by
 unfold hc;rw [show (2:Int).toNat=2 from rfl,← xG (ps:=w.ps) (i:=0) (g9 _) ag,al3,show (dM []).getD 2 0=5 from rfl];rcases (by omega:k=0∨k=1∨k=2∨3≤k) with rfl|rfl|rfl|h
 ·rfl
 ·rfl
 ·rfl
 ·rw [al0 (aj7 (by omega:5<2^3) (ah6 ag h)),i8 ag,i8 ag];rfl
theorem Qx {w:bz} (hw:fw w) {aP:List c3} (ai:n1 w aP) {args:List (Int×Int)} {L:List cv} (bM:pG w L) (di:E3 w aP args L) (arg:Int) (E4:ff aP.length (args.getD arg.toNat (0,0))=true) (k:Nat)
  (aW:∀ (path:List Int) (u:Int×Int),path.length+k=3→1≤k→(∀ s∈path,0≤s∧s<(w.owner.length:Int))→ht w aP (args.getD arg.toNat (0,0)) path=some u→qs w L arg k path=true)
  (path:List Int) (u:Int×Int) (u2:path.length+(k+1)=3) (aF:∀ s∈path,0≤s∧s<(w.owner.length:Int)) (hu:ht w aP (args.getD arg.toNat (0,0)) path=some u):qs w L arg (k+1) path=true:=by
 have ar:=DL ai path _ u aF E4 hu;rw [qs];unfold ff at ar;by_cases hz:u.1=1
 ·rw [f7 hz] at ar
  unfold j3 at ar;rw [f4,g6,g6] at ar;have:xO w.owner.length L arg path=true:=by
   unfold xO
   obtain ⟨b,an,gq,dm,mB⟩:=Qr (m:=u.2) (gf L arg path) (-1000000000,1000000000,[]) (fun x ab=>by
    obtain ⟨aa,ad,aj,a8⟩:=JB bM di hu ab
    refine ⟨aa,?_⟩
    rw [a8]
    unfold JA
    by_cases bT:x.1.op=2
    ·rw [f7 bT,f7 bT,d7 ag,hz,abF]
     rw [af0];simp;try omega
    ·rw [d7 bT,d7 bT,g8 hz,f5]) ar.1 ar.2 bc
   rw [an];simp only;rw [g8 (Int.le_trans (Qs mB _ _ gq) dm),Qu di hu ag,f5]
  rw [this,am1]
 rw [d7 hz] at ar;by_cases hZ:u.1=2
 ·have:B2 w.owner.length L arg path=true:=by
   unfold B2;rw [Qu di hu ag,aq6,af5];intro x ab;obtain ⟨aa,ad,aj,a8⟩:=JB bM di hu ab;unfold ED;by_cases bT:x.1.op=2
   ·rw [f7 bT,d7 ag,hZ,abG] at a8
    rw [g8 bT,f5,show decide (x.1.cls=0)=decide (x.1.cls.toNat=0) from by rw [af0];simp;omega,show decide (x.1.cls=2)=decide (x.1.cls.toNat=2) from by rw [af0];simp;omega,← a8];cases x.2<;>rfl
   ·rw [d7 bT,i8 hz,f6] at a8
    rw [i8 bT,f6];cases aB:x.2 with
    | true=>rfl
    | false=>rw [aB] at a8;cases a8
  rw [this,am1,ao3]
 rw [d7 hZ] at ar;simp only [f4,g6] at ar;obtain ⟨aem,v1,v2⟩:=ar;have:B3 w L (qs w L arg k) arg path=true:=by
  obtain ⟨o,cz⟩:∃ o,aP[u.2.toNat]? = some o:=⟨_,d8 ag⟩;have r2:aP.getD u.2.toNat default=o:=by rw [d5,cz];rfl
  obtain ⟨⟨b6,bW⟩,-,-⟩:=ai.each o (d6 cz);have b9:o.cls.toNat<3+w.ps.length:=by omega
  have hle:=fun j h=>xJ hw (o.cls.toNat+1) o.cls.toNat j (am3 _) b9 h
  have abH:(hc w o.cls).testBit 1=false:=by
   cases h:(hc w o.cls).testBit 1 with
   | false=>rfl
   | true=>have:=(hle 1 h).2 ag;omega
  have nx:(hc w o.cls).testBit 2=false:=by
   cases h:(hc w o.cls).testBit 2 with
   | false=>rfl
   | true=>have:=(hle 2 h).2 ag;omega
  obtain ⟨a,aO,df,a2⟩:=Qv (U:=fun j=>(hc w o.cls).testBit j) (gf L arg path) (fun _=>false,fun _=>false) (fun x ab=>by
   obtain ⟨aa,ad,aj,a8⟩:=JB bM di hu ab
   refine ⟨ad,?_⟩
   rw [a8]
   by_cases bT:x.1.op=2
   ·rw [f7 bT,f7 aem,r2,g8 bT,f5]
   ·rw [d7 bT,i8 hz,i8 bT,f6,f6]) abH nx (fun _ h=>by cases h) (fun _ h=>by cases h)
  obtain ⟨b,an,gq,dm⟩:=Qw (w:=w) (L:=L) (cn:=qs w L arg k) (arg:=arg) (path:=path) (U:=fun j=>(hc w o.cls).testBit j) (n8 w.owner.length L arg path) a (fun s au=>by
   unfold n8 at au
   obtain ⟨t,aM,rfl⟩:=af8.1 au
   obtain ⟨pN,oi⟩:=ag3.1 aM
   have pN:=aj2.1 pN
   have aA:1≤k:=by
    unfold rR at oi
    obtain ⟨x,hm,ab⟩:=af4.1 oi
    rw [zw] at ab
    have:=(bM x hm).1
    have ad:=(bM x hm).2
    unfold hM at this
    rw [ad,f7 C] at this
    simp only [f4,g6] at this
    have aj:=ab.2.1
    simp at aj
    omega
   have fa:∀ s∈path++[(t:Int)],0≤s∧s<(w.owner.length:Int):=fun s au=>by
    rcases ae2.1 au with h|h
    ·exact aF s h
    ·rw [t6.1 h];omega
   have cx:∀ v,ht w aP (args.getD arg.toNat (0,0)) (path++[(t:Int)])=some v→qs w L arg k (path++[(t:Int)])=true:=fun v ar=>aW _ v cL aA fa ar
   have lz:(hc w o.cls).testBit (w.owner.getD (t:Int).toNat 0).toNat=true↔∃ v,ht w aP (args.getD arg.toNat (0,0)) (path++[(t:Int)])=some v:=by
    rw [E2,hu,ai',ht]
    simp only [r2]
    rw [d7 ag]
    constructor
    ·intro h;rw [f7 h,ht];exact ⟨_,rfl⟩
    ·rintro ⟨v,h⟩
     split at h
     ·assumption
     ·cases h
   refine ⟨fun an=>?_,fun aD=>?_⟩
   ·obtain ⟨v,ar⟩:=Qt di an
    exact ⟨lz.2 ⟨v,ar⟩,cx v ar⟩
   ·cases h:(hc w o.cls).testBit (w.owner.getD (t:Int).toNat 0).toNat with
    | false=>rfl
    | true=>
     obtain ⟨v,ar⟩:=lz.1 h
     rw [cx v ar] at aD;cases aD) df a2
  unfold B3;rw [aO];simp only;rw [an];simp only;rw [f4,af5];constructor
  ·cases h:b.2 0 with
   | false=>rfl
   | true=>
    have:=dm 0 h;unfold hc at this
    try simp only at this
    rw [IJ hw b9] at this;cases this
  ·intro j _
   cases aa:hX w.ps w.ps.length (fun k=>if k=0 then false else b.1 k) j with
   | false=>rfl
   | true=>
    have ad:=abE hw b9 (f:=fun k=>if k=0 then false else b.1 k) (fun k aA=>by
     split at aA
     ·cases aA
     ·exact gq k aA) aa
    cases aj:b.2 j with
    | false=>rfl
    | true=>
     have:=dm j aj;unfold hc at this
     try simp only at this
     rw [ad] at this;cases this
 rw [this,ao3,ao3]
theorem abI {w:bz} (hw:fw w) {aP:List c3} (ai:n1 w aP) {args:List (Int×Int)} {L:List cv} (bM:pG w L) (di:E3 w aP args L) (arg:Int) (E4:ff aP.length (args.getD arg.toNat (0,0))=true) :
  ∀ (k:Nat) (path:List Int) (u:Int×Int),path.length+(k+1)=3→(∀ s∈path,0≤s∧s<(w.owner.length:Int))→ht w aP (args.getD arg.toNat (0,0)) path=some u→qs w L arg (k+1) path=true:=by
 intro k
 induction k with
 | zero=>exact Qx hw ai bM di arg E4 0 (fun path u _ h=>absurd h ag)
 | succ k aW=>exact Qx hw ai bM di arg E4 (k+1) (fun path u h _ aF hu=>aW path u h aF hu)
theorem abJ {w:bz} (hw:fw w) {aP:List c3} (ai:n1 w aP) {args:List (Int×Int)} (aO:∀ v∈args,ff aP.length v=true) {L:List cv} (bM:pG w L) (au:∀ x∈L,x.1.arg<(args.length:Int)) (di:E3 w aP args L):EE w L=true:=by
 unfold EE;rw [af5];intro a _;by_cases h:a<args.length
 ·exact abI hw ai bM di (a:Int) (by rw [i9,d5,d8 h];exact aO _ (aj4 _)) 2 [] _ rfl (fun _ h=>by cases h) rfl
 ·rw [show (3:Nat)=2+1 from rfl,qs]
  have h':∀ x∈L,x.1.arg≠(a:Int):=fun x ab e=>by have:=au x ab;omega
  have aa:gf L (a:Int) []=[]:=by
   unfold gf;rw [as0];intro x ab;unfold zn;rw [i8 (h' x ab)];simp
  have ad:n8 w.owner.length L (a:Int) []=[]:=by
   unfold n8;rw [List.map_eq_nil_iff,as0];intro s _ aM;unfold rR at aM;obtain ⟨x,hm,ab⟩:=af4.1 aM;rw [zw] at ab;exact h' x hm ab.1
  have:xO w.owner.length L (a:Int) []=true:=by
   unfold xO vF;rw [aa,ad];rfl
  rw [this,am1]
theorem Qy (q:av→Bool):∀ (l:List av) (i v j:Nat),v<2^i→(rU q i l v).testBit j=(v.testBit j||match l[j-i]? with
    | some f=>decide (i≤j)&&q f
    | none=>false)
  | [],i,v,j,h=>by rw [rU];simp
  | f::r,i,v,j,h=>by
    have ad:2^i<2^(i+1):=Nat.pow_lt_pow_right ag ag;have aa:(if q f then v|||2^i else v)<2^(i+1):=by
      split
      · exact Nat.or_lt_two_pow ag ad
      · omega
    rw [rU,Qy q r (i+1) _ j aa];have an:(if q f then v|||2^i else v).testBit j=(v.testBit j||(q f&&decide (i=j))):=by
      cases q f with
      | true=>rw [f7 C,Nat.testBit_or,Nat.testBit_two_pow,f5]
      | false=>rw [d7 bc,f6,al9]
    rw [an];rcases aq8 i j with eJ|rfl|eJ
    · obtain ⟨d,rfl⟩:∃ d,j=i+1+d:=⟨j-(i+1),by omega⟩
      rw [show i+1+d-(i+1)=d by omega,show i+1+d-i=d+1 by omega,ai4,i8 (by omega:¬ i=i+1+d),ak5,al9];cases r[d]? with
      | none=>rfl
      | some g=>simp only;rw [g8 (by omega:i+1≤i+1+d),g8 (by omega:i≤i+1+d)]
    · rw [am',am8,g8 C,aq6,g8 (g7 i)]
      simp only [f5];cases r[i-(i+1)]? with
      | none=>simp
      | some g=>simp only;rw [i8 (by omega:¬ i+1≤i)];simp
    · have b6:decide (i=j)=false:=i8 ag
      rw [b6,ak5,al9,i8 (by omega:¬ i≤j),i8 (by omega:¬ i+1≤j)];congr 1;split<;>split<;>simp
theorem Qz {p:bN} {aP:List c3} {n:Int} {args:List (Int×Int)} {j:Nat} {f:av} (aI:(cy p n)[j]? = some f):(ln p aP n args).testBit j=pH (bY p) aP args f:=by
 unfold ln;rw [Qy _ _ 0 0 j ag,Nat.zero_testBit,Bool.false_or,au',aI];simp
theorem abK {p:bN} {aP:List c3} {n:Int} {args:List (Int×Int)} (he:fq p n=0) (aD:rW p aP n args):ln p aP n args∈h9 (bY p) (cy p n):=by
 obtain ⟨ec,gB,cx,ez,fJ⟩:=rS he;have lN:=vr ec;have az:ln p aP n args<2^(cy p n).length:=by
  have:=Jg (pH (bY p) aP args) (cy p n) 0 0 ag;rwa [af6] at this
 have sQ:=abt cx gB (ln p aP n args);unfold h9;refine ag3.2 ⟨aj2.2 az,?_⟩;unfold pz;rw [← abr lN sQ.2];have fs:∀ x∈yX (cy p n) (ln p aP n args),x.1∈cy p n∧x.2 = !pH (bY p) aP args x.1:=fun x ab=>by
  obtain ⟨j,aI⟩:=af' ab;have o6:=(t7.1 aI).1;rw [Jy] at o6;have aq:=d8 o6;have h:=Qg (v:=ln p aP n args) aq;rw [aI] at h;simp only [ak0.injEq] at h;subst h;exact ⟨aj4 _,by rw [Qz aq]⟩
 refine abJ lN aD.obj aD.lX sQ.2 (fun x ab=>?_) (fun x ab=>?_)
 ·have aa:=Qo aD (fs x ab).1
  have ad:=cx _ (fs x ab).1;rw [yH,xS ad.1 ad.2,f7 ad.2,hb] at aa;omega
 ·obtain ⟨aa,ad⟩:=fs x ab
  have aj:=cx _ aa;rw [ad,Bool.not_not,Qp aD aa,AV];have b1:2≤x.1.op∧x.1.op≤4:=by
   have:=aj.2;unfold av.cU at this;simpa using this
  rw [d7 ag,d7 ag,d7 ag,d7 ag]
theorem abL {x f:av} (ab:x.kids=[]) (aX:f.kids=[]) (h:hv x f=true):x=f:=by
 obtain ⟨o,a,p,c,n,ks⟩:=x;obtain ⟨o',c1,bh,ph,n',Dx⟩:=f;simp only [av.kids] at ab aX;subst ab;subst aX;have he:hv (.mk o a p c n []) (.mk o' c1 bh ph n' [])=(decide (o=o')&&(decide (a=c1)&&(decide (c=ph)&&(decide (n=n')&&p==bh)))):=rfl;rw [he] at h;simp only [f4,g6,am5] at h;obtain ⟨rfl,rfl,rfl,rfl,rfl⟩:=h;rfl
theorem QA {x y:av}:∀ {ks:List av},x∈ks→y∈kp x→y∈mU ks
  | z::r,h,ax=>by
    rw [mU];rcases ae8.1 h with rfl|h
    · exact ai7 _ ax
    · exact an8 _ (QA h ax)
theorem QB {p:bN} {aP:List c3} {n:Int} {args:List (Int×Int)} (he:fq p n=0) (aD:rW p aP n args):∀ (k:Nat) (f:av),f.size≤k→gy (bY p) f=true→(∀ y∈kp f,(cy p n).any (fun x=>hv x y)=true)→ru (cy p n) (ln p aP n args) f=mO (bY p) aP args f
  | 0,f,h,_,_=>absurd (Mb f) ag
  | k+1,f,h,aq,aO=>by
    obtain ⟨ec,gB,cx,ez,fJ⟩:=rS he;have nb:=aq;rw [oC,f4] at aq;obtain ⟨aB,G'⟩:=aq;have gL:=aB;unfold hM at aB;simp only [f4,g6] at aB;obtain ⟨zJ,x',zi,-⟩:=aB;have cc:=f.size_eq;have hr:f.cU=(decide (2≤f.op)&&decide (f.op≤4)):=by unfold av.cU;rfl
    have aW:∀ x∈f.kids,f.cU=false→ru (cy p n) (ln p aP n args) x=mO (bY p) aP args x:=fun x ab aC=>by
      have:=av.h5 ab;refine QB he aD k x ag (kl G' ab) fun y ax=>aO y ?_
      rw [Bj,aC,d7 bc];exact QA ab ax
    rw [Nd,AV];by_cases n2:f.op=1
    · rw [f7 n2,f7 n2]
    rw [d7 n2,d7 n2];have get:∀ (i:Nat),i<f.kids.length→f.cU=false→n3 (cy p n) (ln p aP n args) i f.kids=nW (bY p) aP args i f.kids:=fun i aS aC=>by
      have ab:=d8 aS;rw [Bk _ _ _ _ _ ab,u7 _ _ _ _ _ _ ab];exact aW _ (aj4 _) aC
    unfold q6 at zi;by_cases vK:f.op=5
    · rw [f7 vK] at zi
      rw [f7 vK,f7 vK,get 0 ag (by rw [hr,vK];rfl)]
    rw [d7 vK] at zi;rw [d7 vK,d7 vK];by_cases vL:f.op=6
    · rw [f7 (.inl vL)] at zi
      rw [f7 vL,f7 vL,get 0 ag (by rw [hr,vL];rfl),get 1 ag (by rw [hr,vL];rfl)]
    rw [d7 vL,d7 vL];by_cases vM:f.op=7
    · rw [f7 (.inr vM)] at zi
      rw [f7 vM,f7 vM,get 0 ag (by rw [hr,vM];rfl),get 1 ag (by rw [hr,vM];rfl)]
    rw [d7 vM,d7 vM];have Ce:f.cU=true:=by rw [hr];simp;omega
    have w5:=xS nb Ce;have n6:=aO f (by rw [Bj,Ce,f7 C];exact i6);cases aX:(cy p n).findIdx? (fun x=>hv x f) with
    | none=>
      rw [List.findIdx?_eq_none_iff] at aX;obtain ⟨x,ab,au⟩:=af4.1 n6;rw [aX x ab] at au;cases au
    | some i=>
      rw [List.findIdx?_eq_some_iff_getElem] at aX;obtain ⟨aa,ad,-⟩:=aX;have hm:=aj4 aa;have QC:=cx _ hm;have e:=abL (xS QC.1 QC.2) w5 ad;have kK:=d8 aa;simp only;rw [Qz kK,Qp aD hm,e,AV,d7 n2,d7 vK,d7 vL,d7 vM]
def rX (w:bz) (n:Int) (aP:List c3) (args:List (Int×Int)):Nat→List gN→List Int
 | _,[]=>[]
 | i,m::r=>if m.gen=n&&mO w aP args m.fact then (i:Int)::rX w n aP args (i+1) r else rX w n aP args (i+1) r
def qw (p:bN) (n:Int) (aP:List c3) (args:List (Int×Int)):List Int:=rX (bY p) n aP args 0 p.methods
theorem JC (w:bz) (n:Int) (aP:List c3) (args:List (Int×Int)):∀ (ms:List gN) (i:Nat),(rX w n aP args i ms).length≤ms.length
  | [],i=>g7 _
  | m::r,i=>by
    have:=JC w n aP args r (i+1);rw [rX,i5];split
    · rw [i5];omega
    · omega
theorem QD {p:bN} {aP:List c3} {n:Int} {args:List (Int×Int)} (he:fq p n=0) (aD:rW p aP n args):∀ (ms:List gN) (i:Nat),(∀ m∈ms,m∈p.methods)→pA n (cy p n) (ln p aP n args) i ms=rX (bY p) n aP args i ms
  | [],i,_=>rfl
  | m::r,i,h=>by
    have hm:=h m i6;rw [pA,rX,QD he aD r (i+1) fun x ab=>h x (i0 _ ab)];by_cases aq:m.gen=n
    · obtain ⟨ec,gB,cx,ez,fJ⟩:=rS he
      rw [QB he aD m.fact.size m.fact (g7 _) (sm _ _ _ _ (BI ec hm)) (fJ m hm aq)]
    · rw [i8 aq,f6,f6]
theorem abM {p:bN} {aP:List c3} {n:Int} {args:List (Int×Int)} (he:fq p n=0) (aD:rW p aP n args):dp p n (cy p n) (ln p aP n args)=qw p n aP args:=QD he aD p.methods 0 fun _ h=>h
theorem JD {A:Nat}:∀ (t:bF) (L:List bs),t.mh A→(∀ x∈L,x.atom<(A:Int))→∀ x∈bF.laid L t,x.atom<(A:Int)
  | .leaf ms,L,_,bM,x,ab=>by
    rw [bF.laid] at ab;rcases ae2.1 ab with ab|ab
    · exact bM x ab
    · rw [t6.1 ab];show (-1:Int)<_;omega
  | .test i a b,L,aM,bM,x,ab=>by
    have mg:bF.laid L (.test i a b)=(bF.laid (bF.laid (L++[⟨i,0,0,[]⟩]) a) b).set L.length ⟨i,(L.length:Int)+1,((bF.laid (L++[⟨i,0,0,[]⟩]) a).length:Int),[]⟩:=rfl;rw [mg] at ab;rw [bF.mh] at aM;rcases ak9 ab with ab|rfl
    · refine JD b _ aM.2.2 (JD a _ aM.2.1 fun y ax=>?_) x ab
      rcases ae2.1 ax with ax|ax
      · exact bM y ax
      · rw [t6.1 ax];show (i:Int)<_;omega
    · show (i:Int)<_;omega
theorem abN {order:List Int} {j k:Int} (aI:j∈order) (h:j<k):order.countP (fun x=>decide (k≤x))<order.countP (fun x=>decide (j≤x)):=by
 induction order with
 | nil=>cases aI
 | cons x r aW=>
  rw [ax3,ax3];have hle:r.countP (fun x=>decide (k≤x))≤r.countP (fun x=>decide (j≤x)):=List.countP_mono_left (fun y _ ax=>by simp at ax ⊢;omega);rcases ae8.1 aI with rfl|aI
  ·rw [d7 cL,f7 bc];omega
  ·have:=aW aI
   by_cases ab:k≤x
   ·rw [f7 uv,f7 cL];omega
   ·rw [d7 uv];split<;>omega
theorem jk.count {N:List bs} (dk:Down N) {order:List Int} (b9:∀ y∈order,qq N order y) {v j:Nat} {ms:List Int} {s:Nat} (h:jk N v j ms s):(j:Int)∈order→s<order.countP (fun x=>decide ((j:Int)≤x)):=by
 induction h with
 | leaf aI aO=>
  intro hm;exact List.countP_pos_iff.2 ⟨_,hm,by simp⟩
 | test aI aO aA _ aW=>
  rename_i j k x ms s _;intro hm;have np:=b9 _ hm x (by rw [i9];exact aI) aO;have Ev:(k:Int)∈order:=by rw [← aA];split;exact np.2;exact np.1
  have ay:=dk j x aI aO;have:=abN hm (k:=(k:Int)) (by rw [← aA];split<;>omega);have:=aW Ev;omega
theorem QE {g:List bs} (aq:kP g) {v:Nat} {ms:List Int} {s:Nat} (h:jk g v 0 ms s):jk (small g) v 0 ms s∧s<(small g).length:=by
 have ns:=aq.pos;have lk:=zd aq;obtain ⟨BR,jf⟩:=ny g 0;obtain ⟨a0,oV,-,ze⟩:=rK aq (b:=0) ag;have hw:=Zc aq h a0 oV;have kt:small g=(meet (bJ 0 g).2 (g.length+1) [] a0).reverse.map (gU (bJ 0 g).2 (meet (bJ 0 g).2 (g.length+1) [] a0)):=by
  unfold small;simp only [d5,oV,ae4];rfl
 have sZ:lj g.length []:=⟨ar2,fun _ h=>by cases h⟩;have iL:=(sX lk (g.length+1) a0 ag ag [] (by rw [jf];exact sZ)).1;have JE:=Ek lk (g.length+1) a0 ag ag [];have fR:=(uc lk (g.length+1) a0 ag ag []).2;have JF:(bJ 0 g).2[a0]? = some (bJ 0 g).2[a0]:=d8 ag;have aK:=qp (k:=g.length) (order:=[]) JF;rw [d7 bc] at aK;rw [kt];generalize fj:(if (bJ 0 g).2[a0].atom≥0 then meet (bJ 0 g).2 g.length (meet (bJ 0 g).2 g.length [] (bJ 0 g).2[a0].yes) (bJ 0 g).2[a0].no else [])=M at aK;generalize meet (bJ 0 g).2 (g.length+1) [] (a0:Int)=order at *;have b9:∀ y∈order,qq (bJ 0 g).2 order y:=fun y ax=>(JE y ax).elim (fun h=>by cases h) id
 have kj:order[order.length-1]? = some (a0:Int):=by
  rw [aK,f9,i5,ag0,aq1,ae' (g7 _),am'];rfl
 have aF:=n7 iL.nodup kj;have ye:1≤order.length:=by rw [aK,f9,i5];omega
 refine ⟨Zd iL b9 hw fR 0 (by rw [aF];omega),?_⟩;have aa:=hw.count lk b9 fR;have ad:order.countP (fun x=>decide ((a0:Int)≤x))≤order.length:=List.countP_le_length;rw [f8,an5];omega
theorem QF {g:List bs} (aq:kP g) {A:Nat} (lB:∀ x∈g,x.atom<(A:Int)):∀ y∈small g,y.atom<(A:Int):=by
 have ns:=aq.pos;have lk:=zd aq;obtain ⟨BR,jf⟩:=ny g 0;obtain ⟨a0,oV,-,ze⟩:=rK aq (b:=0) ag;have kt:small g=(meet (bJ 0 g).2 (g.length+1) [] a0).reverse.map (gU (bJ 0 g).2 (meet (bJ 0 g).2 (g.length+1) [] a0)):=by
  unfold small;simp only [d5,oV,ae4];rfl
 have sZ:lj g.length []:=⟨ar2,fun _ h=>by cases h⟩;have iL:=(sX lk (g.length+1) a0 ag ag [] (by rw [jf];exact sZ)).1;intro y ax;rw [kt] at ax;obtain ⟨z,bG,rfl⟩:=af8.1 ax;have mx:=iL.lt z (List.mem_reverse.1 bG);obtain ⟨x,ab⟩:∃ x,g[z.toNat]? = some x:=⟨_,d8 ag⟩;have aB:=vy aq ab;have key:((bJ 0 g).2.getD z.toNat default).atom=x.atom:=by
  rw [d5,aB,ae4];unfold jR;split<;>rfl
 unfold gU;simp only;have:=lB x (d6 ab);split<;>simp only [key]<;>exact this
theorem Ck {g:List bs} {v:Nat} {ms:List Int} {s:Nat} (h:jk g v 0 ms s) (au:s<g.length):(leads g v).2=s∧(g.getD (leads g v).1.toNat default).ms=ms:=by
 obtain ⟨aa,ad⟩:=h.leads g.length 0 ag;unfold leads;exact ⟨by have:=aa;rw [af6] at this;exact this,ad au⟩
theorem abO {p:bN} {n:Int} (he:fq p n=0):kO p n (mo p n)=true:=by
 obtain ⟨ec,gB,cx,ez,fJ⟩:=rS he;have lz:=Jr n he;have oj:=II (cy p n).length (dp p n (cy p n)) _ (h9 (bY p) (cy p n)) (g7 _) (fun u hu=>Ja hu);have jM:=Ej (cy p n).length (dp p n (cy p n)) _ (h9 (bY p) (cy p n)) (g7 _);unfold mo;rw [Bm] at lz ⊢;generalize fN (cy p n).length (dp p n (cy p n)) (h9 (bY p) (cy p n))=t at *;unfold kO;simp only;rw [f4,af5,af5];constructor
 ·intro x ab
  exact g8 (QF lz (JD t [] jM (fun _ h=>by cases h)) x ab)
 ·intro v ar
  have hw:=(Et t []).walk v;obtain ⟨aa,ad⟩:=QE lz hw;rw [(Ck aa ad).2,oj v ar];exact beq_iff_eq.2 C
theorem JG:∀ (k:Nat) (l:List bs) (i:Nat),(e4 i l).drop k=e4 (i+k) (l.drop k)
  | 0,l,i=>rfl
  | k+1,[],i=>by rw [e4,as9,as9,e4]
  | k+1,x::r,i=>by
    rw [e4,ao2];simp only [ao2];rw [JG k r (i+1),show i+(k+1)=i+1+k by omega]
theorem JH {g:List bs} {j:Nat} {x:bs} (ab:g[j]? = some x):(e4 0 g).getD j 0=if x.atom≥0 then 1+max ((e4 0 g).getD (j+1+(x.no.toNat-(j+1))) 0) ((e4 0 g).getD (j+1+(x.yes.toNat-(j+1))) 0) else 0:=by
 have az:j<g.length:=(t7.1 ab).1;have ay:g.drop j=x::g.drop (j+1):=by
  rw [List.drop_eq_getElem_cons az,(t7.1 ab).2]
 have aa:=JG j g 0;have ad:=JG (j+1) g 0;rw [af6] at aa ad;rw [ay,e4] at aa;have e:∀ k,(e4 0 g).getD (j+1+k) 0=(e4 (j+1) (g.drop (j+1))).getD k 0:=fun k=>by
  rw [← ad,d5,d5,ao8]
 rw [e,e,show (e4 0 g).getD j 0=((e4 0 g).drop j).getD 0 0 by rw [d5,d5,ao8,aq0],aa];rfl
theorem E5 {g:List bs} (aq:kP g) (v:Nat):∀ (m j:Nat),j<g.length→g.length-j≤m→∃ ms s,jk g v j ms s∧(s:Int)≤(e4 0 g).getD j 0∧s+j<g.length
  | 0,j,aa,ad=>by omega
  | m+1,j,aa,ad=>by
    obtain ⟨x,ab⟩:∃ x,g[j]? = some x:=⟨_,d8 aa⟩;have cN:=JH ab;by_cases aO:x.atom≥0
    · rw [f7 aO] at cN
      have ay:=aq.eD j x ab aO;obtain ⟨k,aA⟩:∃ k:Nat,(if v.testBit x.atom.toNat then x.yes else x.no)=(k:Int):=⟨(if v.testBit x.atom.toNat then x.yes else x.no).toNat,by split<;>omega⟩;have IA:j<k∧k<g.length:=by split at aA<;>omega
      obtain ⟨ms,s,da,j1,ic⟩:=E5 aq v m k IA.2 ag;refine ⟨ms,s+1,jk.test ab aO aA da,?_,by omega⟩;rw [cN];split at aA
      · rw [show j+1+(x.yes.toNat-(j+1))=k by omega]
        have:=Int.le_max_right ((e4 0 g).getD (j+1+(x.no.toNat-(j+1))) 0) ((e4 0 g).getD k 0);omega
      · rw [show j+1+(x.no.toNat-(j+1))=k by omega]
        have:=Int.le_max_left ((e4 0 g).getD k 0) ((e4 0 g).getD (j+1+(x.yes.toNat-(j+1))) 0);omega
    · exact ⟨x.ms,0,jk.leaf ab aO,by rw [cN,d7 aO];simp,by omega⟩
theorem abP {p:bN} {aP:List c3} {n:Int} {args:List (Int×Int)} (he:fq p n=0) (aD:rW p aP n args) {g:List bs} (aq:kP g) (aE:kO p n g=true) :
  (g.getD (leads g (ln p aP n args)).1.toNat default).ms=qw p n aP args∧((leads g (ln p aP n args)).2:Int)≤fi g:=by
 obtain ⟨ms,s,da,j1,ic⟩:=E5 aq (ln p aP n args) g.length 0 aq.pos ag;obtain ⟨sJ,-⟩:=Ck da ag;unfold kO at aE;simp only [f4,af5] at aE;have:=aE.2 _ (abK he aD);exact ⟨by rw [beq_iff_eq.1 this,abM he aD],by rw [sJ];exact j1⟩
theorem QG:∀ {g:List bs} {len i:Nat},(∀ (k:Nat) (x:bs),g[k]? = some x→iH len (i+k) x=true)→ni len i g=true
  | [],_,_,_=>by rw [ni]
  | x::r,len,i,h=>by
    rw [ni,f4];refine ⟨h 0 x C,QG fun k y ax=>?_⟩;have:=h (k+1) y (by simpa using ax);rwa [show i+(k+1)=i+1+k by omega] at this
def JI (N:List bs) (order:List Int):Prop:=∀ (i:Nat) (y:Int) (x:bs),order[i]? = some y→N[y.toNat]? = some x→x.atom≥0→x.no∈order.take i∧x.yes∈order.take i
theorem JJ {N:List bs} (dk:Down N):∀ (k a:Nat),a<N.length→N.length-a≤k→∀ order:List Int,JI N order→JI N (meet N k order a)
  | 0,a,aa,ad,_,_=>by omega
  | k+1,a,aa,ad,order,ai=>by
    obtain ⟨x,ab⟩:∃ x,N[a]? = some x:=⟨_,d8 aa⟩;rw [qp ab];cases aD:order.contains (a:Int) with
    | true=>rw [f7 C];exact ai
    | false=>
      rw [d7 bc];have key:JI N (if x.atom≥0 then meet N k (meet N k order x.yes) x.no else order)∧(x.atom≥0→x.no∈(if x.atom≥0 then meet N k (meet N k order x.yes) x.no else order)∧x.yes∈(if x.atom≥0 then meet N k (meet N k order x.yes) x.no else order)):=by
        by_cases aO:x.atom≥0
        · rw [f7 aO]
          obtain ⟨d1,d2,d3,d4⟩:=dk a x ab aO;obtain ⟨u,hu⟩:∃ u:Nat,x.yes=u:=⟨x.yes.toNat,by omega⟩;obtain ⟨z,bG⟩:∃ z:Nat,x.no=z:=⟨x.no.toNat,by omega⟩;rw [hu,bG];have gq:=JJ dk k u ag ag order ai;have dm:=JJ dk k z ag ag _ gq;have s1:=uc dk k u ag ag order;have s2:=uc dk k z ag ag (meet N k order u);exact ⟨dm,fun _=>⟨s2.2,s2.1 _ s1.2⟩⟩
        · rw [d7 aO];exact ⟨ai,fun h=>absurd h aO⟩
      generalize (if x.atom≥0 then meet N k (meet N k order x.yes) x.no else order)=M at key;intro i y z aS bG QH;by_cases az:i<M.length
      · rw [af9 az] at aS
        rw [ah3 ag];exact key.1 i y z aS bG QH
      · have me:=(t7.1 aS).1
        rw [f9,i5,ag0] at me;have bO:i=M.length:=by omega
        subst bO;rw [ae' (g7 _),am',am8,ak0.injEq] at aS;subst aS;rw [i9,ab,ak0.injEq] at bG;subst bG;rw [ah3 (g7 _),List.take_length];exact key.2 QH
structure Cl (g:List bs):Prop where
 leaf:∀ x∈g,¬ x.atom≥0→x.atom = -1∧x.no=0∧x.yes=0∧x.ms.length≤16∧lD x.ms=true
 test:∀ x∈g,x.atom≥0→x.atom<7∧x.ms.length=0
theorem QI {g:List bs} (aq:kP g) (aB:Cl g) (aC:g.length≤300):fF (small g)=true:=by
 have ns:=aq.pos;have lk:=zd aq;obtain ⟨BR,jf⟩:=ny g 0;obtain ⟨a0,oV,-,ze⟩:=rK aq (b:=0) ag;have kt:small g=(meet (bJ 0 g).2 (g.length+1) [] a0).reverse.map (gU (bJ 0 g).2 (meet (bJ 0 g).2 (g.length+1) [] a0)):=by
  unfold small;simp only [d5,oV,ae4];rfl
 have sZ:lj g.length []:=⟨ar2,fun _ h=>by cases h⟩;have iL:=(sX lk (g.length+1) a0 ag ag [] (by rw [jf];exact sZ)).1;have abQ:=JJ lk (g.length+1) a0 ag ag [] (fun i y x h=>by simp at h);have fR:=(uc lk (g.length+1) a0 ag ag []).2;rw [jf] at iL;rw [kt];generalize meet (bJ 0 g).2 (g.length+1) [] (a0:Int)=order at *;have hlen:=iL.len;have ye:1≤order.length:=by
  cases order with
  | nil=>cases fR
  | cons _ _=>simp
 have bM:(order.reverse.map (gU (bJ 0 g).2 order)).length=order.length:=by rw [f8,an5]
 unfold fF;rw [bM,g8 ye,g8 (by omega:order.length≤300),f5,f5];refine QG fun q y ax=>?_
 rw [af6];have Cm:q<order.length:=by
  have:=(t7.1 ax).1;omega
 rw [ae7,ao7 Cm] at ax;obtain ⟨z,bG⟩:∃ z,order[order.length-1-q]? = some z:=⟨_,d8 ag⟩;rw [bG,al',ak0.injEq] at ax;subst ax;have mx:=iL.lt z (d6 bG);obtain ⟨x,ab⟩:∃ x,g[z.toNat]? = some x:=⟨_,d8 ag⟩;have xU:=d6 ab;have ez:=vy aq ab;have h':gU (bJ 0 g).2 order z=if (jR (bJ 0 g).1 x).atom≥0 then { (jR (bJ 0 g).1 x) with no:=(order.length:Int)-1-placeOf order (jR (bJ 0 g).1 x).no,yes:=(order.length:Int)-1-placeOf order (jR (bJ 0 g).1 x).yes } else jR (bJ 0 g).1 x:=by
  unfold gU;simp only [d5,ez,ae4]
 rw [h'];by_cases aO:x.atom≥0
 ·obtain ⟨t1,t2⟩:=aB.test x xU aO
  have zz:(jR (bJ 0 g).1 x).atom=x.atom:=by unfold jR;split<;>rfl
  have E6:(jR (bJ 0 g).1 x).ms=x.ms:=by unfold jR;split<;>rfl
  obtain ⟨gq,dm⟩:=abQ _ z _ bG ez (by rw [zz];exact aO);have gX:∀ c:Int,c∈order.take (order.length-1-q)→(q:Int)<(order.length:Int)-1-placeOf order c∧(order.length:Int)-1-placeOf order c<order.length:=fun c aD=>by
   obtain ⟨i,aS⟩:=af' aD;have me:=(t7.1 aS).1;rw [List.length_take] at me;rw [List.getElem?_take_of_lt ag] at aS;rw [n7 iL.nodup aS];omega
  have jN:=gX _ gq;have vd:=gX _ dm;rw [f7 (by rw [zz];exact aO)];refine (kk (by show (jR (bJ 0 g).1 x).atom ≠ -1;rw [zz];omega)).2 ⟨?_,?_,jN.1,jN.2,vd.1,vd.2,?_⟩
  ·show 0≤(jR (bJ 0 g).1 x).atom;rw [zz];exact aO
  ·show (jR (bJ 0 g).1 x).atom<7;rw [zz];exact t1
  ·show (jR (bJ 0 g).1 x).ms.length=0;rw [E6];exact t2
 ·have au:jR (bJ 0 g).1 x=x:=by unfold jR;rw [d7 aO]
  obtain ⟨sJ,fH,adY,aec,adL⟩:=aB.leaf x xU aO;rw [au,d7 aO];exact (mN sJ).2 ⟨fH,adY,aec,adL⟩
theorem JK {A:Nat} (lB:A≤7):∀ (t:bF) (L:List bs),t.mh A→t.all (fun ms=>ms.length≤16∧lD ms=true)→Cl L→Cl (bF.laid L t)
  | .leaf ms,L,_,hm,bM=>by
    rw [bF.laid];refine ⟨fun x ab=>?_,fun x ab=>?_⟩
    · rcases ae2.1 ab with ab|ab
      · exact bM.leaf x ab
      · rw [t6.1 ab];exact fun _=>⟨rfl,rfl,rfl,hm.1,hm.2⟩
    · rcases ae2.1 ab with ab|ab
      · exact bM.test x ab
      · rw [t6.1 ab];exact fun h=>absurd h (by show ¬ ((-1:Int)≥0);omega)
  | .test i a b,L,aM,hm,bM=>by
    have mg:bF.laid L (.test i a b)=(bF.laid (bF.laid (L++[⟨i,0,0,[]⟩]) a) b).set L.length ⟨i,(L.length:Int)+1,((bF.laid (L++[⟨i,0,0,[]⟩]) a).length:Int),[]⟩:=rfl;rw [bF.mh] at aM;have aa:Cl (L++[⟨i,0,0,[]⟩]):=by
      refine ⟨fun x ab=>?_,fun x ab=>?_⟩
      · rcases ae2.1 ab with ab|ab
        · exact bM.leaf x ab
        · rw [t6.1 ab];exact fun h=>absurd (ao9 i) h
      · rcases ae2.1 ab with ab|ab
        · exact bM.test x ab
        · rw [t6.1 ab];exact fun _=>⟨by show (i:Int)<7;omega,rfl⟩
    have ad:=JK lB b _ aM.2.2 hm.2 (JK lB a _ aM.2.1 hm.1 aa);rw [mg];refine ⟨fun x ab=>?_,fun x ab=>?_⟩
    · rcases ak9 ab with ab|rfl
      · exact ad.leaf x ab
      · exact fun h=>absurd (ao9 i) h
    · rcases ak9 ab with ab|rfl
      · exact ad.test x ab
      · exact fun _=>⟨by show (i:Int)<7;omega,rfl⟩
theorem abR {x:Int}:∀ {l:List Int},0≤x→(∀ y∈l,x<y)→lD l=true→lD (x::l)=true
  | [],h,_,_=>by rw [lD];exact g8 h
  | y::r,h,ad,aj=>by
    rw [lD,g8 h,g8 (ad y i6),aj];rfl
theorem QJ (n:Int) (l:List av) (v:Nat):∀ (ms:List gN) (i:Nat),lD (pA n l v i ms)=true∧∀ y∈pA n l v i ms,(i:Int)≤y
  | [],i=>⟨rfl,fun _ h=>by cases h⟩
  | m::r,i=>by
    obtain ⟨aa,ad⟩:=QJ n l v r (i+1);rw [pA];split
    · refine ⟨abR ag (fun y ax=>by have:=ad y ax;omega) aa,fun y ax=>?_⟩
      rcases ae8.1 ax with rfl|ax
      · exact Int.le_refl _
      · have:=ad y ax;omega
    · exact ⟨aa,fun y ax=>by have:=ad y ax;omega⟩
theorem JL {p:bN} {n:Int} (he:fq p n=0):fF (mo p n)=true:=by
 obtain ⟨ec,gB,cx,ez,fJ⟩:=rS he;have lz:=Jr n he;have vu:=(vt ec).1;have xT:2^(cy p n).length≤2^7:=ah6 ag gB;have fz:=EK (bY p) (cy p n);have qL:=xr (cy p n).length (dp p n (cy p n)) _ (h9 (bY p) (cy p n)) (g7 _);have jM:=Ej (cy p n).length (dp p n (cy p n)) _ (h9 (bY p) (cy p n)) (g7 _);have Cg:=BP (P:=fun ms=>ms.length≤16∧lD ms=true) (cy p n).length (dp p n (cy p n)) ⟨by simp,rfl⟩ (fun v=>⟨by have:=zb n (cy p n) v p.methods 0;unfold dp;omega,(QJ n (cy p n) v p.methods 0).1⟩) _ (h9 (bY p) (cy p n)) (g7 _);unfold mo;rw [Bm] at lz ⊢;generalize fN (cy p n).length (dp p n (cy p n)) (h9 (bY p) (cy p n))=t at *;have lV:=qh t [];rw [ag0] at lV;exact QI lz (JK gB t [] jM Cg ⟨(fun _ h=>by cases h),(fun _ h=>by cases h)⟩) ag
def JM (A:Nat) (h:Nat→List Int) (vs:List Nat) (T:bF):Prop:=T.mh A∧∀ v∈vs,(mW T v).1=h v
theorem abS {out:Option bF} {t o:bF} (h:qf out t=some o):o.fi≤t.fi∧∀ o',out=some o'→o.fi≤o'.fi:=by
 unfold qf at h;cases out with
 | none=>cases h;exact ⟨g7 _,fun _ h=>by cases h⟩
 | some u=>
  simp only at h;unfold bF.before at h;split at h
  ·rename_i an
   cases h;simp only [ah5,f4,g6] at an;exact ⟨g7 _,fun _ h=>by cases h;omega⟩
  ·rename_i an
   cases h;simp only [ah5,f4,g6,not_or] at an;exact ⟨by omega,fun _ h=>by cases h;exact g7 _⟩
theorem abT {g:List Nat→bF} {vs:List Nat} {out:Option bF} {i:Nat} {u:bF} (h:out=some u):∃ o,jQ g vs out i=some o∧o.fi≤u.fi:=by
 subst h;unfold jQ;split
 ·exact ⟨u,rfl,g7 _⟩
 ·unfold qf
  simp only;split
  ·rename_i an
   refine ⟨_,rfl,?_⟩;unfold bF.before at an;simp only [ah5,f4,g6] at an;omega
  ·exact ⟨u,rfl,g7 _⟩
theorem QK {g:List Nat→bF} {vs:List Nat}:∀ (is:List Nat) (out:Option bF) (u:bF),out=some u→∃ o,is.foldl (jQ g vs) out=some o∧o.fi≤u.fi
  | [],out,u,h=>⟨u,h,g7 _⟩
  | i::r,out,u,h=>by
    obtain ⟨o,aa,ad⟩:=abT (g:=g) (vs:=vs) (i:=i) h;obtain ⟨o',aj,a8⟩:=QK r _ o aa;exact ⟨o',aj,by omega⟩
theorem QL {g:List Nat→bF} {vs:List Nat} {i:Nat} (he:((e8 i vs).isEmpty||(e9 i vs).isEmpty)=false):∀ (is:List Nat) (out:Option bF),i∈is→∃ o,is.foldl (jQ g vs) out=some o∧o.fi≤(bF.test i (g (e9 i vs)) (g (e8 i vs))).fi
  | j::r,out,h=>by
    rcases ae8.1 h with rfl|h
    · have:∃ o,jQ g vs out i=some o∧o.fi≤(bF.test i (g (e9 i vs)) (g (e8 i vs))).fi:=by
        unfold jQ;rw [he,d7 bc];cases aF:qf out (.test i (g (e9 i vs)) (g (e8 i vs))) with
        | none=>unfold qf at aF;split at aF<;>(try split at aF)<;>cases aF
        | some o=>exact ⟨o,rfl,(abS aF).1⟩
      obtain ⟨o,aa,ad⟩:=this;obtain ⟨o',aj,a8⟩:=QK r _ o aa;exact ⟨o',aj,by omega⟩
    · exact QL he r _ h
theorem abU {h:Nat→List Int} {c:List Int}:∀ {vs:List Nat},(∀ v∈vs,h v=c)→mV h vs=true
  | [],_=>rfl
  | v::r,aD=>by
    rw [mV,af5];intro u hu;rw [aD u (i0 _ hu),aD v i6];exact beq_iff_eq.2 C
theorem JN {A:Nat} {h:Nat→List Int}:∀ (T:bF) (vs:List Nat),JM A h vs T→(fN A h vs).fi≤T.fi
  | .leaf ms,vs,au=>by
    rw [vl,f7 (abU (c:=ms) fun v ar=>(au.2 v ar).symm)];exact g7 _
  | .test i a b,vs,au=>by
    obtain ⟨aM,ar⟩:=au;rw [bF.mh] at aM;cases jM:mV h vs with
    | true=>
      rw [vl,jM,f7 C,bF.fi];exact g9 _
    | false=>
      have aO:JM A h (e9 i vs) a:=⟨aM.2.1,fun v hm=>by
        obtain ⟨aa,ad⟩:=ag3.1 hm
        have:=ar v aa
        simp only [mW] at this
        rwa [d7 pJ] at this⟩
      have an:JM A h (e8 i vs) b:=⟨aM.2.2,fun v hm=>by
        obtain ⟨aa,ad⟩:=ag3.1 hm
        have:=ar v aa
        simp only [mW] at this
        rwa [f7 ad] at this⟩
      have rH:=JN a (e9 i vs) aO;have rI:=JN b (e8 i vs) an;rw [bF.fi];cases he:(e8 i vs).isEmpty||(e9 i vs).isEmpty with
      | true=>
        rw [ah5,ax1,ax1] at he;rcases he with he|he
        · have:e9 i vs=vs:=by
            unfold e9;rw [at0];intro v hm;unfold e8 at he;rw [as0] at he;simpa using he v hm
          rw [this] at rH;omega
        · have:e8 i vs=vs:=by
            unfold e8;rw [at0];intro v hm;unfold e9 at he;rw [as0] at he;simpa using he v hm
          rw [this] at rI;omega
      | false=>
        obtain ⟨o,aa,ad⟩:=QL (g:=fN A h) he (List.range A) none (aj2.2 aM.1);rw [vl,jM,d7 bc,aa,ae4];rw [bF.fi] at ad;omega
inductive il (g:List bs):Nat→Nat→Prop
 | leaf {j:Nat} {x:bs}:g[j]? = some x→¬ x.atom≥0→il g j 0
 | test {j k l:Nat} {x:bs} {a b:Nat}:g[j]? = some x→x.atom≥0→x.no=(k:Int)→x.yes=(l:Int)→il g k a→il g l b→il g j (1+max a b)
theorem il.e4 {g:List bs} (aq:kP g) {j a:Nat} (h:il g j a):(Go.Proofs.YtnafpeohfbglmaaGreat.e4 0 g).getD j 0=(a:Int):=by
 induction h with
 | leaf aI aO=>rw [JH aI,d7 aO];rfl
 | test aI aO aa ad _ _ rH rI=>
  rename_i j k l x a b _ _;have ay:=aq.eD j x aI aO;rw [JH aI,f7 aO,show j+1+(x.no.toNat-(j+1))=k by omega,show j+1+(x.yes.toNat-(j+1))=l by omega,rH,rI];omega
theorem ka.o0 {g:List bs}:∀ {t:bF} {fT j:Nat},ka g t fT j→il g j t.fi
  | .leaf ms,fT,j,h=>by
    rw [ka] at h;exact il.leaf h.2 (by show ¬ ((-1:Int)≥0);omega)
  | .test i a b,fT,j,h=>by
    rw [ka] at h;obtain ⟨-,x,y,aa,ad,aj⟩:=h;rw [bF.fi];exact il.test aa (ao9 i) C C ad.o0 aj.o0
theorem il.ex {g:List bs} (aq:kP g):∀ (m j:Nat),j<g.length→g.length-j≤m→∃ a,il g j a
  | 0,j,aa,ad=>by omega
  | m+1,j,aa,ad=>by
    obtain ⟨x,ab⟩:∃ x,g[j]? = some x:=⟨_,d8 aa⟩;by_cases aO:x.atom≥0
    · have ay:=aq.eD j x ab aO
      obtain ⟨a,aj⟩:=il.ex aq m x.no.toNat ag ag;obtain ⟨b,a8⟩:=il.ex aq m x.yes.toNat ag ag;exact ⟨_,il.test ab aO ag ag aj a8⟩
    · exact ⟨0,il.leaf ab aO⟩
theorem abV {g:List bs} (aq:kP g) {j s:Nat} (h:il g j s):∀ a:Nat,(bJ 0 g).1[j]? = some (a:Int)→il (bJ 0 g).2 a s:=by
 induction h with
 | leaf aI aO=>
  rename_i j x;intro a ab;obtain ⟨b,aa,-,aj⟩:=BV g 0 j _ ab;have aB:=vy aq aI;unfold jR at aB;rw [d7 aO] at aB;have:b=a:=by omega
  subst this;exact il.leaf (aj.trans aB) aO
 | test aI aO aA aC _ _ rH rI=>
  rename_i j k l x c d _ _;intro a ab;obtain ⟨b,aa,-,aj⟩:=BV g 0 j _ ab;have:b=a:=by omega
  subst this;have aB:=vy aq aI;unfold jR at aB;rw [f7 aO] at aB;have ay:=aq.eD j x aI aO;obtain ⟨p,aF,-,-⟩:=rK aq (b:=k) ag;obtain ⟨q,bn,-,-⟩:=rK aq (b:=l) ag;refine il.test (k:=p) (l:=q) (aj.trans aB) aO ?_ ?_ (rH p aF) (rI q bn)
  ·simp only;rw [aA,i9,d5,aF];rfl
  ·simp only;rw [aC,i9,d5,bn];rfl
theorem abW {N:List bs} {n:Nat} {order:List Int} (ai:lj n order) (b9:∀ y∈order,qq N order y) {j s:Nat} (h:il N j s):(j:Int)∈order→∀ q:Nat,(q:Int)=(order.length:Int)-1-placeOf order (j:Int)→il (order.reverse.map (gU N order)) q s:=by
 have cx:∀ (j:Nat) (q:Nat),(j:Int)∈order→(q:Int)=(order.length:Int)-1-placeOf order (j:Int)→(order.reverse.map (gU N order))[q]? = some (gU N order (j:Int)):=fun j q hm bn=>by
  obtain ⟨i,aS⟩:=af' hm;have aF:=n7 ai.nodup aS;have me:=(t7.1 aS).1;rw [aF] at bn;rw [ae7,ao7 ag,show order.length-1-q=i by omega,aS];rfl
 have h':∀ (j:Nat) (x:bs),N[j]? = some x→gU N order (j:Int)=if x.atom≥0 then { x with no:=(order.length:Int)-1-placeOf order x.no,yes:=(order.length:Int)-1-placeOf order x.yes } else x:=fun j x aI=>by
  unfold gU;simp only [i9,d5,aI,ae4]
 have gX:∀ c:Nat,(c:Int)∈order→∃ q:Nat,(q:Int)=(order.length:Int)-1-placeOf order (c:Int):=fun c aD=>by
  obtain ⟨i,aS⟩:=af' aD;have me:=(t7.1 aS).1;rw [n7 ai.nodup aS];exact ⟨order.length-1-i,by omega⟩
 induction h with
 | leaf aI aO=>
  rename_i j x;intro hm q bn;have aa:=cx j q hm bn;rw [h' j x aI,d7 aO] at aa;exact il.leaf aa aO
 | test aI aO aA aC _ _ rH rI=>
  rename_i j k l x c d _ _;intro hm q bn;have aa:=cx j q hm bn;rw [h' j x aI,f7 aO] at aa;have np:=b9 _ hm x (by rw [i9];exact aI) aO;rw [aA,aC] at np;obtain ⟨u,hu⟩:=gX k np.1;obtain ⟨w,hw⟩:=gX l np.2;exact il.test aa aO (by simp only;rw [aA,hu]) (by simp only;rw [aC,hw]) (rH np.1 u hu) (rI np.2 w hw)
def qx (g:List bs):Nat→Nat→bF
  | 0,_ => .leaf []
  | f+1,j=>match g[j]? with
    | none => .leaf []
    | some x=>if x.atom≥0 then .test x.atom.toNat (qx g f x.no.toNat) (qx g f x.yes.toNat) else .leaf x.ms
theorem abX {g:List bs} {v j:Nat} {ms:List Int} {s:Nat} (h:jk g v j ms s):∀ f,s<f→mW (qx g f j) v=(ms,s):=by
 induction h with
 | leaf aI aO=>
  intro f aX;cases f with
  | zero=>omega
  | succ f=>rw [qx,aI];simp only;rw [d7 aO,mW]
 | test aI aO aA _ aW=>
  rename_i j k x ms s _;intro f aX;cases f with
  | zero=>omega
  | succ f=>
   have aW:=aW f ag;rw [qx,aI];simp only;rw [f7 aO,mW];split at aA
   ·rename_i an;rw [f7 an,aA,i9,aW]
   ·rename_i an;rw [d7 an,aA,i9,aW]
theorem abY {g:List bs} {j a:Nat} (h:il g j a):∀ f,a<f→(qx g f j).fi=a:=by
 induction h with
 | leaf aI aO=>
  intro f aX;cases f with
  | zero=>omega
  | succ f=>rw [qx,aI];simp only;rw [d7 aO,bF.fi]
 | test aI aO aA aC _ _ rH rI=>
  rename_i j k l x a b _ _;intro f aX;cases f with
  | zero=>omega
  | succ f=>
   rw [qx,aI];simp only;rw [f7 aO,bF.fi,aA,aC,i9,i9,rH f ag,rI f ag]
theorem JO {g:List bs} {A:Nat} (lB:∀ x∈g,x.atom<(A:Int)):∀ f j,(qx g f j).mh A
  | 0,_=>by rw [qx,bF.mh];trivial
  | f+1,j=>by
    rw [qx];split
    · rw [bF.mh];trivial
    · rename_i x ab
      split
      · rw [bF.mh]
        have:=lB x (d6 ab);exact ⟨by omega,JO lB f _,JO lB f _⟩
      · rw [bF.mh];trivial
theorem E7 {g:List bs} (aq:kP g):∃ (a0:Nat) (order:List Int),(bJ 0 g).1[0]? = some (a0:Int)∧small g=order.reverse.map (gU (bJ 0 g).2 order)∧lj g.length order∧(∀ y∈order,qq (bJ 0 g).2 order y)∧(a0:Int)∈order∧placeOf order (a0:Int)=(order.length:Int)-1∧order=meet (bJ 0 g).2 (g.length+1) [] a0∧a0<g.length:=by
 have ns:=aq.pos;have lk:=zd aq;obtain ⟨BR,jf⟩:=ny g 0;obtain ⟨a0,oV,-,ze⟩:=rK aq (b:=0) ag;have sZ:lj g.length []:=⟨ar2,fun _ h=>by cases h⟩;have iL:=(sX lk (g.length+1) a0 ag ag [] (by rw [jf];exact sZ)).1;have JE:=Ek lk (g.length+1) a0 ag ag [];have fR:=(uc lk (g.length+1) a0 ag ag []).2;have JF:(bJ 0 g).2[a0]? = some (bJ 0 g).2[a0]:=d8 ag;have aK:=qp (k:=g.length) (order:=[]) JF;rw [d7 bc] at aK;rw [jf] at iL;refine ⟨a0,meet (bJ 0 g).2 (g.length+1) [] a0,oV,?_,iL,fun y ax=>(JE y ax).elim (fun h=>by cases h) id,fR,?_,rfl,ze⟩
 ·unfold small
  simp only [d5,oV,ae4];rfl
 ·generalize (if (bJ 0 g).2[a0].atom≥0 then meet (bJ 0 g).2 g.length (meet (bJ 0 g).2 g.length [] (bJ 0 g).2[a0].yes) (bJ 0 g).2[a0].no else [])=M at aK
  generalize meet (bJ 0 g).2 (g.length+1) [] (a0:Int)=order at *;have kj:order[order.length-1]? = some (a0:Int):=by
   rw [aK,f9,i5,ag0,aq1,ae' (g7 _),am'];rfl
  have ye:1≤order.length:=by rw [aK,f9,i5];omega
  rw [n7 iL.nodup kj];omega
theorem QM {g:List bs} (aq:kP g) {s:Nat} (h:il g 0 s):il (small g) 0 s:=by
 obtain ⟨a0,order,oV,kt,iL,b9,fR,aF,-,-⟩:=E7 aq;rw [kt];exact abW iL b9 (abV aq h a0 oV) fR 0 (by rw [aF];omega)
theorem QN {g:List bs} (aq:kP g):(small g).length≤g.length:=by
 obtain ⟨a0,order,oV,kt,iL,b9,fR,aF,-,-⟩:=E7 aq;rw [kt,f8,an5];exact iL.len
theorem abZ {g:List bs} (h:fF g=true):Cl g:=by
 refine ⟨fun x ab aO=>?_,fun x ab aO=>?_⟩
 ·obtain ⟨i,aS⟩:=af' ab
  have aB:=tM h aS;by_cases hm:x.atom = -1
  ·obtain ⟨aa,ad,aj,a8⟩:=(mN hm).1 aB
   exact ⟨hm,aa,ad,aj,a8⟩
  ·have:=(kk hm).1 aB
   omega
 ·obtain ⟨i,aS⟩:=af' ab
  obtain ⟨aa,ad,aj,a8,bB,gp,ia⟩:=(kk ag).1 (tM h aS);exact ⟨ad,ia⟩
theorem E8 {g:List bs} (h:fF g=true):fF (small g)=true:=QI (rJ h) (abZ h) (tN h).2
theorem E9 {g:List bs} (aq:kP g) {a:Nat} (h:il g 0 a):fi g=(a:Int):=h.e4 aq
theorem ab0 {g:List bs} (h:fF g=true):fi (small g)=fi g:=by
 have aq:=rJ h;obtain ⟨a,aO⟩:=il.ex aq g.length 0 aq.pos ag;rw [E9 aq aO,E9 (rJ (E8 h)) (QM aq aO)]
theorem ab1 {p:bN} {n:Int} {g:List bs} (h:fF g=true) (aE:kO p n g=true):kO p n (small g)=true:=by
 have aq:=rJ h;unfold kO at aE ⊢;simp only [f4,af5] at aE ⊢;obtain ⟨aa,ad⟩:=aE;refine ⟨fun x ab=>g8 (QF aq (fun y ax=>aj1 (aa y ax)) x ab),fun v ar=>?_⟩;obtain ⟨ms,s,da,-,ic⟩:=E5 aq v g.length 0 aq.pos ag;obtain ⟨ad3,ad7⟩:=QE aq da;have:=ad v ar;rw [(Ck da ag).2] at this;rw [(Ck ad3 ad7).2];exact this
theorem ab2 {p:bN} {n:Int} (he:fq p n=0) {g:List bs} (h:fF g=true) (aE:kO p n g=true):fi (mo p n)≤fi g:=by
 have aq:=rJ h;have A8:=rJ (JL he);have lz:=Jr n he;obtain ⟨a,aO⟩:=il.ex aq g.length 0 aq.pos ag;have an:il (mo p n) 0 (tV p n).fi:=by
  unfold mo;exact QM lz (Et (tV p n) []).o0
 rw [E9 aq aO,E9 A8 an,Bm];unfold kO at aE;simp only [f4,af5] at aE;obtain ⟨aa,ad⟩:=aE
 have:=JN (A:=(cy p n).length) (h:=dp p n (cy p n)) (qx g (a+g.length+1) 0) (h9 (bY p) (cy p n)) ⟨JO (fun x ab=>aj1 (aa x ab)) _ _,fun v ar=>by
  obtain ⟨ms,s,da,-,ic⟩:=E5 aq v g.length 0 aq.pos ag
  have:=ad v ar
  rw [(Ck da ag).2] at this
  rw [abX da _ ag]
  exact beq_iff_eq.1 this⟩
 rw [abY aO _ ag] at this;omega
theorem QO:∀ (l:List bs) (i k:Nat) (a:Int),(bJ i l).1[k]? = some a→∃ b:Nat,a=(i+b:Nat)∧(bJ i l).1[b]? = some a
  | [],i,k,a,h=>by rw [bJ] at h;simp at h
  | x::r,i,k,a,h=>by
    rw [bJ] at h ⊢;simp only at h ⊢;cases k with
    | succ k=>
      rw [ai4] at h;obtain ⟨b,aa,ad⟩:=QO r (i+1) k a h;exact ⟨b+1,by omega,by rw [ai4];exact ad⟩
    | zero=>
      have bo:=h;rw [am8,ak0.injEq] at h;split at h
      · rename_i j aI
        obtain ⟨aa,ad,z,aj,a8⟩:=BO aI;rw [f4] at a8;have aC:=(ny r (i+1)).1;have eQ:=(ny r (i+1)).2;have bB:=beq_iff_eq.1 a8.1;rw [d5] at bB;have o6:j<(bJ (i+1) r).1.length:=by omega
        rw [d8 o6,ae4] at bB;exact ⟨j+1,by omega,by rw [ai4,d8 o6,bB,← h]⟩
      · exact ⟨0,by omega,by rw [am8,h]⟩
theorem QP:∀ (l:List bs) (i:Nat),(∀ (a b:Nat) (x:bs),l[a]? = some x→l[b]? = some x→a=b)→(∀ (k:Nat) (x:bs),l[k]? = some x→x.atom≥0→((i+k:Nat):Int)<x.no∧x.no<((i+l.length:Nat):Int)∧((i+k:Nat):Int)<x.yes∧x.yes<((i+l.length:Nat):Int)) →
    (bJ i l).2=l∧∀ k,k<l.length→(bJ i l).1[k]? = some ((i+k:Nat):Int)
  | [],i,_,_=>⟨rfl,fun k h=>absurd h (an6 _)⟩
  | x::r,i,ay,aX=>by
    obtain ⟨aa,ad⟩:=QP r (i+1) (fun a b y aO an=>by
      have:=ay (a+1) (b+1) y (by simpa using aO) uu
      omega) (fun k y aA aO=>by
      have:=aX (k+1) y (by simpa using aA) aO
      rw [i5] at this
      rw [show i+1+k=i+(k+1) by omega,show i+1+r.length=i+(r.length+1) by omega]
      exact this)
    have bo:=aX 0 x C;rw [i5] at bo;have iC:∀ m:Int,(i:Int)<m→m<((i+(r.length+1):Nat):Int)→(bJ (i+1) r).1.getD (m.toNat-(i+1)) 0=m:=fun m a b=>by
      rw [d5,ad _ ag,ae4];omega
    have ax:(if x.atom≥0 then { x with no:=(bJ (i+1) r).1.getD (x.no.toNat-(i+1)) 0,yes:=(bJ (i+1) r).1.getD (x.yes.toNat-(i+1)) 0 } else x)=x:=by
      split
      · rename_i aO
        obtain ⟨a,b,c,d⟩:=bo aO;rw [iC _ ag b,iC _ ag d]
      · rfl
    have aB:l8 (fun k z=>(bJ (i+1) r).1.getD k 0==((i+1+k:Nat):Int)&&z==x) 0 (bJ (i+1) r).2=none:=by
      cases aC:l8 (fun k z=>(bJ (i+1) r).1.getD k 0==((i+1+k:Nat):Int)&&z==x) 0 (bJ (i+1) r).2 with
      | none=>rfl
      | some j=>
        obtain ⟨a,b,z,c,d⟩:=BO aC;rw [f4] at d;rw [aa,au'] at c;rw [beq_iff_eq.1 d.2] at c;have:=ay 0 (j+1) x C (by simpa using c);omega
    rw [bJ];simp only;rw [ax,aB];simp only;refine ⟨by rw [aa],fun k aA=>?_⟩;cases k with
    | zero=>rfl
    | succ k=>
      rw [i5] at aA;rw [ai4,ad k ag,show i+1+k=i+(k+1) by omega]
theorem JP {N:List bs} (dk:Down N):∀ (k k' a:Nat),a<N.length→N.length-a≤k→N.length-a≤k'→∀ order:List Int,meet N k order a=meet N k' order a
  | 0,k',a,aa,ad,_,_=>by omega
  | k+1,0,a,aa,_,aj,_=>by omega
  | k+1,k'+1,a,aa,ad,aj,order=>by
    obtain ⟨x,ab⟩:∃ x,N[a]? = some x:=⟨_,d8 aa⟩;rw [qp ab,qp ab];by_cases aO:x.atom≥0
    · obtain ⟨d1,d2,d3,d4⟩:=dk a x ab aO
      obtain ⟨u,hu⟩:∃ u:Nat,x.yes=u:=⟨x.yes.toNat,by omega⟩;obtain ⟨z,bG⟩:∃ z:Nat,x.no=z:=⟨x.no.toNat,by omega⟩;rw [hu,bG,JP dk k k' u ag ag ag,JP dk k k' z ag ag ag]
    · rw [d7 aO,d7 aO]
theorem E' {N:List bs} (dk:Down N) {S:List Int} (b8:∀ y∈S,qq N S y):∀ (k a:Nat),a<N.length→N.length-a≤k→(a:Int)∈S→∀ order:List Int,(∀ y∈order,y∈S)→∀ y∈meet N k order a,y∈S
  | 0,a,aa,ad,_,_,_=>by omega
  | k+1,a,aa,ad,aO,order,ai=>by
    obtain ⟨x,ab⟩:∃ x,N[a]? = some x:=⟨_,d8 aa⟩;rw [qp ab];split
    · exact ai
    · intro y ax
      rcases ae2.1 ax with ax|ax
      · split at ax
        · rename_i cx
          obtain ⟨d1,d2,d3,d4⟩:=dk a x ab cx;have aA:=b8 _ aO x (by rw [i9];exact ab) cx;obtain ⟨u,hu⟩:∃ u:Nat,x.yes=u:=⟨x.yes.toNat,by omega⟩;obtain ⟨z,bG⟩:∃ z:Nat,x.no=z:=⟨x.no.toNat,by omega⟩;rw [hu,bG] at ax aA;exact E' dk b8 k z ag ag aA.1 _ (E' dk b8 k u ag ag aA.2 _ ai) y ax
        · exact ai y ax
      · rw [t6.1 ax];exact aO
theorem JQ {N M:List bs} (dk:Down N) {S:List Int} (b8:∀ y∈S,qq N S y) (σ:Int→Int) (AX:∀ y∈S,0≤σ y) (aS:∀ a∈S,∀ b∈S,σ a=σ b→a=b)
    (fj:∀ (a:Nat) (x:bs),(a:Int)∈S→N[a]? = some x→∃ y,M[(σ a).toNat]? = some y∧(y.atom≥0↔x.atom≥0)∧(x.atom≥0→y.no=σ x.no∧y.yes=σ x.yes)) :
    ∀ (k a:Nat),a<N.length→N.length-a≤k→(a:Int)∈S→∀ order:List Int,(∀ y∈order,y∈S)→meet M k (order.map σ) (σ a)=(meet N k order a).map σ
  | 0,a,aa,ad,_,_,_=>by omega
  | k+1,a,aa,ad,aO,order,ai=>by
    obtain ⟨x,ab⟩:∃ x,N[a]? = some x:=⟨_,d8 aa⟩;obtain ⟨y,ax,b6,bW⟩:=fj a x aO ab;have zz:=AX _ aO;obtain ⟨b,an⟩:∃ b:Nat,σ a=b:=⟨(σ a).toNat,by omega⟩;rw [an,i9] at ax;rw [qp ab,an,qp ax,← an];have aD:(order.map σ).contains (σ a)=order.contains (a:Int):=by
      rw [af0,ah0,ah0,af8];constructor
      · rintro ⟨c,aD,he⟩
        rw [← aS c (ai c aD) a aO he];exact aD
      · exact fun h=>⟨_,h,rfl⟩
    rw [aD];split
    · rfl
    · rw [ae1,ae0,ag7]
      congr 1;by_cases cx:x.atom≥0
      · rw [f7 cx,f7 (b6.2 cx),(bW cx).1,(bW cx).2]
        obtain ⟨d1,d2,d3,d4⟩:=dk a x ab cx;have aA:=b8 _ aO x (by rw [i9];exact ab) cx;obtain ⟨u,hu⟩:∃ u:Nat,x.yes=u:=⟨x.yes.toNat,by omega⟩;obtain ⟨z,bG⟩:∃ z:Nat,x.no=z:=⟨x.no.toNat,by omega⟩;rw [hu,bG] at aA ⊢;rw [JQ dk b8 σ AX aS fj k u ag ag aA.2 order ai,JQ dk b8 σ AX aS fj k z ag ag aA.1 _ (E' dk b8 k u ag ag aA.2 order ai)]
      · rw [d7 cx,d7 (fun h=>cx (b6.1 h))]
theorem ab3 {g:List bs} (aX:fF g=true):small (small g)=small g:=by
 have aq:=rJ aX;have uf:=rJ (E8 aX);have rP:=E8 aX;have lk:=zd aq;obtain ⟨BR,jf⟩:=ny g 0;obtain ⟨a0,order,oV,kt,iL,b9,fR,aF,QQ,ze⟩:=E7 aq;have adi:=zd uf;have Fa:∀ c∈order,∃ i:Nat,order[i]? = some c∧placeOf order c=(i:Int)∧i<order.length:=fun c aD=>by
  obtain ⟨i,aS⟩:=af' aD;exact ⟨i,aS,n7 iL.nodup aS,(t7.1 aS).1⟩
 have JR:∀ a∈order,∀ b∈order,placeOf order a=placeOf order b→a=b:=fun a aO b an he=>by
  obtain ⟨i,aa,ad,-⟩:=Fa a aO;obtain ⟨j,aj,a8,-⟩:=Fa b an;have:i=j:=by omega
  subst this;rw [aa] at aj;exact ak0.inj aj
 have QR:∀ a∈order,(bJ 0 g).1[a.toNat]? = some a:=by
  have key:∀ y∈order,∃ k:Nat,(bJ 0 g).1[k]? = some y:=by
   intro y ax;rw [QQ] at ax;have b8:∀ z∈(bJ 0 g).1,qq (bJ 0 g).2 (bJ 0 g).1 z:=fun z _ x ab cx=>by
    obtain ⟨w,hw⟩:∃ w,g[z.toNat]? = some w:=⟨_,d8 (by have:=(t7.1 ab).1;omega)⟩;have aB:=vy aq hw;rw [ab,ak0.injEq] at aB;subst aB;unfold jR at cx ⊢;by_cases Fb:w.atom≥0
    ·rw [f7 Fb]
     have ay:=aq.eD _ w hw Fb;obtain ⟨c,aD,-,-⟩:=rK aq (b:=w.no.toNat) ag;obtain ⟨d,cg,-,-⟩:=rK aq (b:=w.yes.toNat) ag;simp only;rw [d5,aD,d5,cg];exact ⟨d6 aD,d6 cg⟩
    ·rw [d7 Fb] at cx;exact absurd cx Fb
   have:=E' lk b8 (g.length+1) a0 ag ag (d6 oV) [] (fun _ h=>by cases h) y ax;exact af' this
  intro a aO;obtain ⟨k,aA⟩:=key a aO;obtain ⟨b,aa,ad⟩:=QO g 0 k a aA;rw [aa,i9];rw [aa] at ad;simpa using ad
 have a1:∀ a∈order,∃ x,(bJ 0 g).2[a.toNat]? = some x:=fun a aO=>by
  have:=iL.lt a aO;exact ⟨_,d8 ag⟩
 have h':∀ (a:Int) (x:bs),(bJ 0 g).2[a.toNat]? = some x→gU (bJ 0 g).2 order a=if x.atom≥0 then { x with no:=(order.length:Int)-1-placeOf order x.no,yes:=(order.length:Int)-1-placeOf order x.yes } else x:=fun a x ab=>by
  unfold gU;simp only [d5,ab,ae4]
 have ab4:∀ a∈order,∀ b∈order,gU (bJ 0 g).2 order a=gU (bJ 0 g).2 order b→a=b:=fun a aO b an he=>by
  obtain ⟨x,ab⟩:=a1 a aO;obtain ⟨y,ax⟩:=a1 b an;rw [h' a x ab,h' b y ax] at he;have yd:x=y:=by
   by_cases aa:x.atom≥0
   ·rw [f7 aa] at he
    by_cases ad:y.atom≥0
    ·rw [f7 ad] at he
     have cu:=b9 a aO x ab aa;have c2:=b9 b an y ax ad;obtain ⟨ad5,Ea,adH,aer⟩:=x;obtain ⟨adV,adI,ad8,SG⟩:=y;simp only [bs.mk.injEq] at he cu c2;obtain ⟨b6,bW,eN,m2⟩:=he;have qS:=JR _ cu.1 _ c2.1 ag;have adP:=JR _ cu.2 _ c2.2 ag;rw [b6,m2,qS,adP]
    ·rw [d7 ad] at he
     rw [← he] at ad;exact absurd aa ad
   ·rw [d7 aa] at he
    by_cases ad:y.atom≥0
    ·rw [f7 ad] at he
     rw [he] at aa;exact absurd ad aa
    ·rw [d7 ad] at he;exact he
  subst yd;have mX:=iL.lt a aO;have kJ:=iL.lt b an;have wb:=QR a aO;have cC:=QR b an;have QS:(bJ 0 g).1.getD a.toNat 0=((0+a.toNat:Nat):Int):=by rw [d5,wb,ae4];omega
  have cd:(bJ 0 g).1.getD b.toNat 0=((0+b.toNat:Nat):Int):=by rw [d5,cC,ae4];omega
  have QT:(bJ 0 g).2.getD a.toNat default=x:=by rw [d5,ab];rfl
  have QU:(bJ 0 g).2.getD b.toNat default=x:=by rw [d5,ax];rfl
  rcases aq8 a.toNat b.toNat with h|h|h
  ·exact absurd (QT.trans QU.symm) (Ig g 0 _ _ h ag QS cd)
  ·omega
  ·exact absurd (QU.trans QT.symm) (Ig g 0 _ _ h ag cd QS)
 have iC:∀ (q:Nat) (x:bs),(small g)[q]? = some x→∃ a,a∈order∧order[order.length-1-q]? = some a∧x=gU (bJ 0 g).2 order a∧q<order.length:=fun q x ab=>by
  rw [kt] at ab;have Cm:=(t7.1 ab).1;rw [f8,an5] at Cm;rw [ae7,ao7 Cm] at ab;obtain ⟨a,aO⟩:∃ a,order[order.length-1-q]? = some a:=⟨_,d8 ag⟩;rw [aO,al',ak0.injEq] at ab;exact ⟨a,d6 aO,aO,ab.symm,Cm⟩
 obtain ⟨s1,s2⟩:=QP (small g) 0 (fun a b x aO an=>by
  obtain ⟨c,cW,c6,eW,o4⟩:=iC a x aO
  obtain ⟨d,d1,d2,d3,d4⟩:=iC b x an
  have:=ab4 c cW d d1 (eW.symm.trans d3)
  subst this
  have:=n7 iL.nodup c6
  have:=n7 iL.nodup d2
  omega) (fun k x aA aO=>by
  rw [af6,af6]
  exact uf.eD k x aA aO)
 have db:(small g).length=order.length:=by rw [kt,f8,an5]
 have ye:=uf.pos;obtain ⟨pQ,order2,oX,E6,ab5,adj,adk,oz,Fc,mD⟩:=E7 uf;have ab6:pQ=0:=by
  rw [s2 0 ag] at oX;simp at oX;omega
 subst ab6;rw [s1] at Fc E6
 have QV:=JQ (N:=(bJ 0 g).2) (M:=small g) lk b9 (fun a=>(order.length:Int)-1-placeOf order a) (fun y ax=>by
  obtain ⟨i,-,ad,aj⟩:=Fa y ax
  rw [ad];omega) (fun a aO b an he=>JR a aO b an ag) (fun a x aO ab=>by
  obtain ⟨i,aa,ad,aj⟩:=Fa _ aO
  refine ⟨gU (bJ 0 g).2 order (a:Int),?_,?_⟩
  ·rw [kt,ae7,ad,show ((order.length:Int)-1-(i:Int)).toNat=order.length-1-i by omega,ao7 ag,show order.length-1-(order.length-1-i)=i by omega,aa];rfl
  ·rw [h' (a:Int) x (by rw [i9];exact ab)]
   by_cases JS:x.atom≥0
   ·rw [f7 JS];exact ⟨Iff.rfl,fun _=>⟨rfl,rfl⟩⟩
   ·rw [d7 JS];exact ⟨Iff.rfl,fun h=>absurd h JS⟩) (g.length+1) a0 ag ag fR [] (fun _ h=>by cases h)
 rw [← QQ,ag7,aF,show (order.length:Int)-1-((order.length:Int)-1)=((0:Nat):Int) by omega] at QV;have ab7:Down (small g):=fun i x ab aO=>uf.eD i x ab aO
 have hlen:=QN aq;rw [JP ab7 ((small g).length+1) (g.length+1) 0 ag ag ag,QV] at Fc;have nR:∀ i,i<order.length→order2[i]? = some (((order.length-1-i:Nat):Nat):Int):=fun i aS=>by
  have Eo:=d8 aS;rw [Fc,ae7,Eo,al'];rw [n7 iL.nodup Eo];congr 1;omega
 have eQ:order2.length=order.length:=by rw [Fc,f8]
 rw [E6];refine List.ext_getElem? fun q=>?_
 by_cases bn:q<order.length
 ·obtain ⟨x,ab⟩:∃ x,(small g)[q]? = some x:=⟨_,d8 ag⟩
  rw [ae7,ao7 ag,eQ,nR _ ag,ab,al',show order.length-1-(order.length-1-q)=q by omega];congr 1;unfold gU;simp only [i9,d5,ab,ae4];by_cases aO:x.atom≥0
  ·rw [f7 aO]
   obtain ⟨d1,d2,d3,d4⟩:=uf.eD q x ab aO;have gX:∀ c:Int,0≤c→c<((small g).length:Int)→(order2.length:Int)-1-placeOf order2 c=c:=fun c bo aa=>by
    have:=nR (order.length-1-c.toNat) ag;rw [show ((order.length-1-(order.length-1-c.toNat):Nat):Int)=c by omega] at this;rw [n7 ab5.nodup this,eQ];omega
   rw [gX _ ag d2,gX _ ag d4]
  ·rw [d7 aO]
 ·rw [ak4 (by rw [f8,an5];omega),ak4 ag]
theorem ab8 (p:bN) (aF:gx p) (n:Int) (aP:List c3) (args:List (Int×Int)) (aD:rW p aP n args):aV d0 55 [cD p,fM aP,.int .i64 n,iX args] (bj (qw p n aP args)):=by
 have an:=bE;obtain ⟨vu,N'⟩:=vt aD.prog;have lN:=vr aD.prog;have aa:=EC p aF O1;have ad:=fun (m:gN) (hm:m∈p.methods) (aq:m.gen=n)=>abz (bY p) lN aP aD.obj args aD.lX aD.ji m.fact.size m.fact (g7 _) (by have:=aF.facts m hm;omega) (sm _ _ _ _ (BI aD.prog hm)) (by have:=Qm aD.prog hm;rw [aq,← aD.Qn] at this;exact this)
 refine aV.bl al Tryz.func55 C C fun s I=>?_
 unfold qw;unfold cD cI eI eX dd bj at *;refine ft ?_;refine af.jw I 3 1 0 fun I=>?_
 refine af.ck [1,2,3,4,9] C I (σ:=Nat×List Int×bV) (fun q=>[(11,.int .i64 (q.1:Int)),(10,.aG 1 (q.2.1.map bg) q.2.2)]) (fun q=>[(q.2.2,.row 3 1 q.2.1.length)]) (fun q=>q.1≤p.methods.length∧q.2.1.length≤q.1∧rX (bY p) n aP args 0 p.methods=q.2.1++rX (bY p) n aP args q.1 (p.methods.drop q.1)) (fun q=>p.methods.length-q.1) (0,[],.nil)
  ⟨g9 _,g7 _,rfl⟩ ⟨⟨_,rfl,aT⟩,⟨_,rfl,aZ.nil h4⟩,trivial⟩ (aJ.eb _) ?_
 rintro ⟨j,out,gm⟩ ⟨aI,gd,aw⟩ I;simp only at aI gd aw I ⊢;refine cf ?_;refine af.cond C (fun az=>?_) (fun a7=>?_);rotate_left
 ·have a7:j=p.methods.length:=by simp at a7;omega
  rw [eE ag,rX,List.append_nil] at aw;rw [aw];refine ew ?_;exact Fin.cE I C aZ.bd
 have az:j<p.methods.length:=by simpa using az
 obtain ⟨m,ab,ch⟩:=b7 (f:=mJ) az;have fs:=d6 ab;rw [drop_cons ab,rX] at aw;unfold mJ oA at ch;have ad:=ad m fs;by_cases aq:m.gen=n
 ·have cN:=ad aq
  rw [av.cG] at cN;unfold av.cells at cN;rw [aq] at ch aw;rw [show decide (n=n)=true by simp,f5] at aw;refine pd ?_;refine aL.split 29 C (fun _=>?_) (fun h=>absurd h bc);cases m5:mO (bY p) aP args m.fact with
  | true=>
   rw [m5] at cN;rw [m5,f7 C] at aw;refine c5 ?_;refine ae.ho al I C C C C C C C eH C C C C C C C C a' ir lC ag (fun bT I=>?_);refine hC ?_;exact bD.mk (j+1,out++[(j:Int)],.own bT) I ⟨az,by simp;omega,by rw [aw];simp⟩ yr (by show aJ _ [(_,.row _ _ (out++[(j:Int)]).length)] _;rw [f9];exact aJ.eb _) ql
  | false=>
   rw [m5] at cN;rw [m5,d7 bc] at aw;refine cl ?_;exact bD.mk (j+1,out,gm) I ⟨az,by show out.length≤j+1;omega,aw⟩ cA (aJ.eb _) ql
 ·rw [show decide (m.gen=n)=false by simpa using aq,f6,d7 bc] at aw
  refine pd ?_;refine aL.split 29 C (fun h=>absurd h (by simpa using aq)) (fun _=>?_);refine ki ?_;exact bD.mk (j+1,out,gm) I ⟨az,by show out.length≤j+1;omega,aw⟩ cA (aJ.eb _) ql
theorem QW (_:Unit):aV d0 33 [.aG 4 [] .bd,.int .i64 3] (.bool true):=by
 have an:=bE;refine aV.bl al Tryz.func33 C C fun s I=>?_
 refine gE ?_;exact br I
theorem QX {p:bN} {n:Int} (aF:fX p=true) (aq:lf p n=true) (h:fq p n≠0):fq p n=3:=by
 unfold fq at h ⊢;rw [aF,aq] at h ⊢;simp only [Bool.and_self,ag5] at h ⊢;split at h
 ·exact absurd C h
 ·rename_i ad;rw [d7 ad]
theorem adl (p:bN) (aF:gx p) (n:Int) (aP:List c3) (args:List (Int×Int)) (aC:aP.length<bx) (ai:∀ o∈aP,o.bm.length<bx) (jM:args.length<bx) (g:List bs) (aq:g.length<bx):aV d0 11 [cD p,.agg [fM aP,.int .i64 n,iX args],e7 g] (.bool true):=by
 have an:=bE;refine aV.bl al Tryz.func11 C C fun s I=>?_
 have da:=PS ();have bo:=PT g aq;have aa:=abD p aF n aP args aC ai jM;cases bM:Ci g with
 | true=>
  rw [bM] at bo;unfold cD cI at *;refine cl ?_;exact br I
 | false=>
 rw [bM] at bo;cases lP:oU p aP n args with
 | false=>
  rw [lP] at aa;unfold cD cI at *;refine cl ?_;exact br I
 | true=>
 rw [lP] at aa;have aD:=rW.of lP;have ad:=ab8 p aF n aP args aD;have aj:=Jn p aF n;unfold Cf at aj;rw [show small (bF.laid [] (tV p n))=mo p n from rfl] at aj;by_cases he:fq p n=0;rotate_left
 ·have kK:lf p n=true:=by
   unfold oU sN at lP;simp only [f4] at lP;exact lP.2.1
  rw [d7 he,QX aD.prog kK he] at aj;have aE:=QW ();unfold cD cI at *;refine cl ?_;refine ae.k5 C C C C C aE (.cons aZ.empty (.one aT)) ?_;refine c5 ?_;exact br I
 rw [f7 he,he] at aj;have je:=JL he;have kd:=abO he;have kT:=tN je;have a8:=EM p aF n g aq;have bB:=EM p aF n (mo p n) ag;rw [show j9 p n (mo p n)=(true,0) by unfold j9;rw [he,je,kd];rfl] at bB;have mL:∀ x:List bs,x.length<bx→fF x=true→kO p n x=true→∃ (st:Nat) (m:Int),aV d0 22 [cD p,fM aP,.int .i64 n,iX args,e7 x] (.cr [bj (qw p n aP args),.int .i64 (st:Int),.int .i64 0])∧aV d0 18 [e7 x] (.cr [.int .i64 m,.int .i64 0])∧(st:Int)≤m:=fun x ab aX aE=>by
  obtain ⟨f1,f2⟩:=abP he aD (rJ aX) aE;have g1:=PK p aF n aP args aC ai jM x ab;have g2:=AU x ab;unfold EO at g1;rw [show s5 p aP n args x=0 by unfold s5;rw [lP,aX,d7 bc,f7 he,aE];rfl,f7 C,f7 C,f1] at g1;rw [aX,f7 C,f7 C] at g2;exact ⟨_,_,g1,g2,f2⟩
 have cd:=mL (mo p n) ag je kd;have iu:=wU (qw p n aP args) (qw p n aP args) (by have:=JC (bY p) n aP args p.methods 0;have:=aF.y5;unfold qw;omega) (by have:=JC (bY p) n aP args p.methods 0;have:=aF.y5;unfold qw;omega);rw [show (qw p n aP args==qw p n aP args)=true from beq_iff_eq.2 C] at iu;generalize mo p n=B at *;generalize qw p n aP args=want at *;have t':∀ x∈[B],∃ (st:Nat) (m:Int),aV d0 22 [cD p,fM aP,.int .i64 n,iX args,e7 x] (.cr [bj want,.int .i64 (st:Int),.int .i64 0])∧aV d0 18 [e7 x] (.cr [.int .i64 m,.int .i64 0])∧(st:Int)≤m:=fun x ab=>by
  rw [t6.1 ab];exact cd
 cases gk:fF g with
 | false=>
  rw [show j9 p n g=(false,2) by unfold j9;rw [he,gk];rfl] at a8;have dj:=t';unfold cD cI at aa ad aj a8 bB;unfold cD cI;refine cl ?_;refine af.ck [3,4,7,92,93] C I (σ:=Nat) (fun j=>[(94,.int .i64 (j:Int))]) (fun _=>[]) (fun j=>j≤([B]).length) (fun j=>([B]).length-j) 0 (g9 _) (cK C) ba ?_;rintro j aI I
  try simp only at aI I ⊢
  refine cf ?_;refine af.cond C (fun az=>?_) (fun a7=>?_);rotate_left
  ·refine c5 ?_
   exact br I
  have az:j<([B]).length:=by simp at az ⊢;omega
  obtain ⟨x,ab,ch⟩:=b7 (f:=e7) az;obtain ⟨st,m,f1,f2,f3⟩:=dj x (d6 ab);unfold cD cI at f1;refine c5 ?_;refine af.cond C (fun h=>absurd h cL) (fun _=>?_);refine fV ?_;exact bD.mk (j+1) I az Jz ba (by show ([B]).length-(j+1)<([B]).length-j;omega)
 | true=>
 cases vN:kO p n g with
 | false=>
  rw [show j9 p n g=(false,0) by unfold j9;rw [he,gk,vN];rfl] at a8;have dj:=t';unfold cD cI at aa ad aj a8 bB;unfold cD cI;refine cl ?_;refine af.ck [3,4,7,92,93] C I (σ:=Nat) (fun j=>[(94,.int .i64 (j:Int))]) (fun _=>[]) (fun j=>j≤([B]).length) (fun j=>([B]).length-j) 0 (g9 _) (cK C) ba ?_;rintro j aI I
  try simp only at aI I ⊢
  refine cf ?_;refine af.cond C (fun az=>?_) (fun a7=>?_);rotate_left
  ·refine c5 ?_
   exact br I
  have az:j<([B]).length:=by simp at az ⊢;omega
  obtain ⟨x,ab,ch⟩:=b7 (f:=e7) az;obtain ⟨st,m,f1,f2,f3⟩:=dj x (d6 ab);unfold cD cI at f1;refine c5 ?_;refine af.cond C (fun h=>absurd h cL) (fun _=>?_);refine fV ?_;exact bD.mk (j+1) I az Jz ba (by show ([B]).length-(j+1)<([B]).length-j;omega)
 | true=>
  rw [show j9 p n g=(true,0) by unfold j9;rw [he,gk,vN];rfl] at a8;have ael:=mL g aq gk vN;have dj:∀ x∈[B,g],∃ (st:Nat) (m:Int),aV d0 22 [cD p,fM aP,.int .i64 n,iX args,e7 x] (.cr [bj want,.int .i64 (st:Int),.int .i64 0])∧aV d0 18 [e7 x] (.cr [.int .i64 m,.int .i64 0])∧(st:Int)≤m:=fun x ab=>by
   rcases ae8.1 ab with rfl|ab
   ·exact cd
   ·rw [t6.1 ab];exact ael
  unfold cD cI at aa ad aj a8 bB;unfold cD cI;refine cl ?_;refine ae.q0 al C C C C C C C eH C C C (.inr C) (.inr C) C (fun y ax=>by rw [t6.1 ax];rfl) (by show (1+1)*24≤_;omega) (by show 1+1≤_;omega) (.inr C) ?_;refine bK ?_;refine af.ck [3,4,7,92,93] C I (σ:=Nat) (fun j=>[(94,.int .i64 (j:Int))]) (fun _=>[]) (fun j=>j≤([B,g]).length) (fun j=>([B,g]).length-j) 0 (g9 _) (cK C) ba ?_;rintro j aI I
  try simp only at aI I ⊢
  refine cf ?_;refine af.cond C (fun az=>?_) (fun a7=>?_);rotate_left
  ·refine c5 ?_
   exact br I
  have az:j<([B,g]).length:=by simp at az ⊢;omega
  obtain ⟨x,ab,ch⟩:=b7 (f:=e7) az;obtain ⟨st,m,f1,f2,f3⟩:=dj x (d6 ab);unfold cD cI at f1;refine c5 ?_;refine af.cond C (fun h=>absurd h cL) (fun _=>?_);refine fV ?_;exact bD.mk (j+1) I az Jz ba (by show ([B,g]).length-(j+1)<([B,g]).length-j;omega)
theorem QY (g:List bs) (aq:g.length<bx) (hm:∀ x∈g,x.ms.length<bx):aV d0 34 [e7 g] (.bool (fF g)):=by
 have an:=bE;refine aV.bl al Tryz.func34 C C fun s I=>?_
 unfold e7;have dj:fF g=fF g:=rfl
 conv at dj=>rhs;unfold fF
 refine dS ?_;by_cases g1:g.length=0
 ·refine ae.dK 10 C (by simp [g1]) ?_
  rw [show decide (1≤g.length)=false by simp [g1],f6] at dj;rw [dj];refine et ?_;exact br I
 refine ae.dh 10 C cL ?_;rw [show decide (1≤g.length)=true by simp;omega,f5] at dj;refine gj ?_;refine af.cond C (fun g2=>?_) (fun g2=>?_)
 ·rw [show decide (g.length≤300)=false by simp at g2 ⊢;omega,f6] at dj
  rw [dj];refine gE ?_;exact br I
 have g2:g.length≤300:=by simp at g2;omega
 rw [g8 g2,f5] at dj;rw [dj];refine jL ?_;refine af.ck [0,15,16] C I (σ:=Nat) (fun j=>[(17,.int .i64 (j:Int))]) (fun _=>[]) (fun j=>j≤g.length∧ni g.length 0 g=ni g.length j (g.drop j)) (fun j=>g.length-j) 0 ⟨g9 _,rfl⟩ (cK C) ba ?_;rintro j ⟨aI,aw⟩ I
 try simp only at aI aw I ⊢
 refine cf ?_;refine af.cond C (fun az=>?_) (fun a7=>?_);rotate_left
 ·have a7:j=g.length:=by simp at a7;omega
  rw [eE ag,ni] at aw;rw [aw];refine ew ?_;exact br I
 have az:j<g.length:=by simpa using az
 obtain ⟨x,ab,ch⟩:=b7 (f:=eR) az;have xU:=hm x (d6 ab);rw [drop_cons ab,ni] at aw;unfold eR gO bj at ch
 repeat (first|(refine An I ?_;clear I;intro I)|refine ae.dZ al I rfl rfl rfl rfl rfl rfl rfl (fun cB I=>?_))
 refine af.cond C (fun aO=>?_) (fun aO=>?_);rotate_left
 ·have aO:x.atom ≠ -1:=by simpa using aO
  refine ct I ?_;intro I;by_cases aa:x.atom<0
  ·refine ae.dK 67 C (by first|(simp;omega)|exact g8 aa) ?_
   refine fe ?_;rw [aw,show iH g.length j x=false from af3.2 (fun h=>by have:=(kk aO).1 h;omega),f6];skip;exact br I
  refine ae.dh 67 C (by first|(simp;omega)|exact i8 aa) ?_;refine ct I ?_;intro I;by_cases ad:x.atom≥7
  ·refine ae.dK 72 C (by first|(simp;omega)|exact g8 ad) ?_
   refine fe ?_;rw [aw,show iH g.length j x=false from af3.2 (fun h=>by have:=(kk aO).1 h;omega),f6];skip;exact br I
  refine ae.dh 72 C (by first|(simp;omega)|exact i8 ad) ?_;refine ct I ?_;intro I;by_cases aj:(if x.yes<x.no then x.yes else x.no)≤(j:Int)
  ·refine ae.dK 81 C (by first|(simp;omega)|exact g8 aj) ?_
   refine fe ?_;rw [aw,show iH g.length j x=false from af3.2 (fun h=>by have:=(kk aO).1 h;omega),f6];skip;exact br I
  refine ae.dh 81 C (by first|(simp;omega)|exact i8 aj) ?_;refine ct I ?_;intro I;by_cases a8:(if x.yes>x.no then x.yes else x.no)≥(g.length:Int)
  ·refine ae.dK 91 C (by first|(simp;omega)|exact g8 a8) ?_
   refine fe ?_;rw [aw,show iH g.length j x=false from af3.2 (fun h=>by have:=(kk aO).1 h;omega),f6];skip;exact br I
  refine ae.dh 91 C (by first|(simp;omega)|exact i8 a8) ?_;refine ct I ?_;intro I;refine af.cond C (fun bB=>?_) (fun bB=>?_)
  ·have bB:x.ms.length≠0:=by simp at bB;omega
   rw [aw,show iH g.length j x=false from af3.2 (fun h=>by have:=(kk aO).1 h;omega),f6];refine jK ?_;exact br I
  have bB:x.ms.length=0:=by simp at bB;rw [bB];rfl
  rw [(kk aO).2 ag,f5] at aw;refine fV ?_;exact bD.mk (j+1) I ⟨az,aw⟩ cA ba uU
 have aO:x.atom = -1:=by simpa using aO
 refine ct I ?_;intro I;by_cases aa:x.no=0;rotate_left
 ·refine ae.dK 28 C tC ?_
  refine fe ?_;rw [aw,show iH g.length j x=false from af3.2 (fun h=>by have:=(mN aO).1 h;omega),f6];skip;exact br I
 refine ae.dh 28 C tC ?_;refine ct I ?_;intro I;by_cases ad:x.yes=0;rotate_left
 ·refine ae.dK 33 C pJ ?_
  refine fe ?_;rw [aw,show iH g.length j x=false from af3.2 (fun h=>by have:=(mN aO).1 h;omega),f6];skip;exact br I
 refine ae.dh 33 C pJ ?_;refine ct I ?_;intro I;refine af.cond C (fun aj=>?_) (fun aj=>?_)
 ·rw [aw,show iH g.length j x=false from af3.2 (fun h=>by have:=(mN aO).1 h;simp at aj;omega),f6]
  refine jK ?_;exact br I
 have aj:x.ms.length≤16:=by simp at aj;omega
 refine ct I ?_;intro I;refine af.ck [0,15,16,17,3,4,40,41] C I (σ:=Nat) (fun k=>[(42,.int .i64 (k:Int))]) (fun _=>[(.own cB,.box 69 (gO x))]) (fun k=>k≤x.ms.length∧lD x.ms=mM (if k=0 then none else x.ms[k-1]?) (x.ms.drop k)) (fun k=>x.ms.length-k) 0 ⟨g9 _,LV _⟩ (cK C) (by simp only [gO];exact ba) ?_;rintro k ⟨aA,bk⟩ I
 try simp only [gO,bj] at aA bk I ⊢
 refine cf ?_;refine af.cond C (fun cT=>?_) (fun ef=>?_);rotate_left
 ·have ef:k=x.ms.length:=by simp at ef;omega
  rw [eE ag,mM] at bk;rw [(mN aO).2 ⟨aa,ad,aj,bk⟩,f5] at aw;refine ew ?_;exact bD.mk (j+1) I ⟨az,aw⟩ cA ba uU
 have cT:k<x.ms.length:=by simpa using cT
 obtain ⟨y,ax,dc⟩:=b7 (f:=bg) cT;rw [drop_cons ax] at bk;unfold bg at dc;refine eh ?_;by_cases a8:y<0
 ·refine ae.dK 49 C (g8 a8) ?_
  have bk:lD x.ms=false:=by
   rw [bk];cases (if k=0 then none else x.ms[k-1]?)<;>rw [mM,show decide (y≥0)=false by simp;omega,f6]
  rw [aw,show iH g.length j x=false from af3.2 (fun h=>by have:=((mN aO).1 h).2.2.2;rw [bk] at this;cases this),f6];refine fe ?_;exact br I
 refine ae.dh 49 C (i8 a8) ?_;have nH:decide (y≥0)=true:=by simp;omega
 cases k with
 | zero=>
  rw [f7 C,mM,nH,f5] at bk;refine bK ?_;exact bD.mk 1 I ⟨cT,by rw [d7 ag];simpa [ax] using bk⟩ Dj ba (by show x.ms.length-1<x.ms.length-0;omega)
 | succ k=>
 rw [d7 ag,aq1] at bk;obtain ⟨z,bG,q9⟩:=b7 (f:=bg) (show k<x.ms.length by omega);rw [bG,mM,nH,f5] at bk;unfold bg at q9;refine er ?_;refine ae.dK 52 C bc ?_;refine ct I ?_;intro I;refine ae.idx al k C C C C C C C C C C (by rw [ev ag ag];push_cast;omega) q9 C ?_;refine gj ?_;refine af.cond C (fun bB=>?_) (fun bB=>?_)
 ·rw [show decide (z<y)=false by simp at bB ⊢;omega,f6] at bk
  rw [aw,show iH g.length j x=false from af3.2 (fun h=>by have:=((mN aO).1 h).2.2.2;rw [bk] at this;cases this),f6];refine jK ?_;exact br I
 rw [show decide (z<y)=true by simp at bB ⊢;omega,f5] at bk;refine fV ?_;exact bD.mk (k+2) I ⟨cT,by rw [d7 ag];simpa [ax] using bk⟩ Aq ba (by show x.ms.length-(k+2)<x.ms.length-(k+1);omega)
theorem ab9 (p:bN) (aF:gx p) (n:Int):aV d0 32 [cD p,.int .i64 n] (.bool (fX p&&lf p n)):=by
 have an:=bE;refine aV.bl al Tryz.func32 C C fun s I=>?_
 have aa:=O' p aF;cases ec:fX p with
 | false=>
  rw [ec] at aa;unfold cD cI at *;refine cl ?_;exact br I
 | true=>
 rw [ec] at aa;rw [f5];unfold lf;unfold cD cI bj at *;by_cases bo:n≥0
 ·refine cl ?_
  refine ae.dK 11 C (g8 bo) ?_;rw [g8 bo,f5];refine ep ?_;exact Fin.cE I C (aZ.of_eq (ae6 ah.bool bc))
 ·refine cl ?_
  refine ae.dh 11 C (i8 bo) ?_;rw [i8 bo,f6];refine et ?_;exact br I
theorem aca (x y:bs) (ab:x.ms.length<bx) (ax:y.ms.length<bx):aV d0 57 [eR x,eR y] (.bool (x==y)):=by
 have an:=bE;refine aV.bl al Tryz.func57 C C fun s I=>?_
 have aa:=wU x.ms y.ms ab ax;have he:(x==y)=(decide (x.atom=y.atom)&&(decide (x.no=y.no)&&(decide (x.yes=y.yes)&&x.ms==y.ms))):=by
  obtain ⟨a,b,c,d⟩:=x;obtain ⟨c1,aY,ph,c4⟩:=y;rw [af0];simp
 unfold eR gO bj at *
 repeat' (first|(with_reducible first|apply af.seq|apply b0|apply af.ret)|refine cY C ?_|refine af.cH ?_|refine ae.nil ?_|refine cF C ?_|refine ae.skip C C C ?_|refine ae.dL C C C C C cp ?_|(fail_if_success refine ae.same true C ?_);(fail_if_success refine ae.same false C ?_);refine ae.gY C C (fun h=>?_) (fun h=>?_))
 all_goals (refine Fin.cE I C (aZ.of_eq (ae6 ah.bool ?_));rw [he];clear I aa he;grind)
theorem QZ:∀ l:List bs,l' (fun x y=>x==y) l l=true
 | []=>rfl
 | x::r=>by rw [l',QZ r];simp
theorem adm (p:bN) (aF:gx p) (n:Int) (g:List bs) (aq:g.length<bx):aV d0 12 [cD p,.int .i64 n,e7 g] (.bool true):=by
 have an:=bE;refine aV.bl al Tryz.func12 C C fun s I=>?_
 have da:=PS ();have bo:=PT g aq;have aa:=ab9 p aF n;cases bM:Ci g with
 | true=>
  rw [bM] at bo;unfold cD cI e7 at *;refine cl ?_;exact br I
 | false=>
 rw [bM] at bo;unfold Ci at bM;rw [Bool.or_eq_false_iff,List.any_eq_false] at bM;have ju:∀ x∈g,x.ms.length<bx:=fun x ab=>by
  have:=bM.2 x ab;simp at this;omega
 cases lP:fX p&&lf p n with
 | false=>
  rw [lP] at aa;unfold cD cI e7 at *;refine cl ?_;exact br I
 | true=>
 rw [lP] at aa;rw [f4] at lP;have aj:=Jn p aF n;unfold Cf at aj;rw [show small (bF.laid [] (tV p n))=mo p n from rfl] at aj;by_cases he:fq p n=0;rotate_left
 ·rw [d7 he,QX lP.1 lP.2 he] at aj
  have aE:=QW ();unfold cD cI e7 at *;refine cl ?_;refine ae.k5 C C C C C aE (.cons aZ.empty (.one aT)) ?_;refine c5 ?_;exact br I
 rw [f7 he,he] at aj;have a8:=EM p aF n g aq;have bB:=QY g aq ju;cases gk:fF g with
 | false=>
  rw [show j9 p n g=(false,2) by unfold j9;rw [he,gk];rfl] at a8;rw [gk] at bB;generalize mo p n=B at *;unfold cD cI e7 at *;refine cl ?_;exact br I
 | true=>
 rw [gk] at bB;cases vN:kO p n g with
 | false=>
  rw [show j9 p n g=(false,0) by unfold j9;rw [he,gk,vN];rfl] at a8;generalize mo p n=B at *;unfold cD cI e7 at *;refine cl ?_;exact br I
 | true=>
 rw [show j9 p n g=(true,0) by unfold j9;rw [he,gk,vN];rfl] at a8;have je:=JL he;have rP:=E8 gk;have sQ:=tN rP;have wV:=tN je;have Bx:=ab3 gk;have hle:=ab2 he gk vN;have lI:=ab0 gk;have lV:=QN (rJ gk);have kt:=PJ rP;have s1:=Jm g aq;have s2:=Jm (small g) ag;have Jq:=EM p aF n (small g) ag;have aep:=QY (small g) ag (fun x ab=>by have:=kt x ab;omega);have adX:=AU (mo p n) ag;have adJ:=AU g aq;have adG:=AU (small g) ag;have adU:=U8 (.func 57 [] []) (fun x y=>x==y) (small g) (small g) ag ag (fun x ab y ax=>ej.fm (first:=[]) (cap:=[]) (aca x y (by have:=kt x ab;omega) (by have:=kt y ax;omega)));rw [show j9 p n (small g)=(true,0) by unfold j9;rw [he,rP,ab1 gk vN];rfl] at Jq;rw [gk,f7 C,f7 C] at s1 adJ;rw [rP,Bx,f7 C,f7 C] at s2;rw [rP,lI,f7 C,f7 C] at adG;rw [je,f7 C,f7 C] at adX;rw [rP] at aep;rw [QZ] at adU;generalize fi (mo p n)=fT at *;generalize fi g=aS at *;generalize small g=S at *;generalize mo p n=B at *;unfold cD cI e7 at *;refine cl ?_;refine ae.dh 107 C cL ?_;refine c5 ?_;refine ae.dh 151 C cL ?_;refine gj ?_;refine af.cond C (fun h=>absurd h bc) (fun _=>?_);refine c5 ?_;exact br I
def kv (w:World):bU:=fun b _=>b<w.heap.size
theorem acb (w:World):dq w (kv w) (fun _=>none):=⟨(fun _ _ h=>by cases h),fun _ _ h=>h⟩
theorem add_add (a:Addr) (x y:Nat):(a.add x).add y=a.add (x+y):=by
 unfold Addr.add;by_cases ab:x=0
 ·subst ab;simp
 ·by_cases ax:y=0
  ·subst ax;simp [ab]
  ·simp [ab,ax,Nat.add_assoc]
theorem acd {w:World} {a:Addr} {v:Value} (h:w.cell? a=some v):a.spot=none∧a.block<w.heap.size:=by
 unfold World.cell? at h;split at h
 ·rename_i c _ _ an
  refine ⟨?_,(Array.getElem?_eq_some_iff.1 an).1⟩;cases au:a.spot with
  | none=>rfl
  | some s=>rw [au] at h;simp at h
 ·cases h
theorem Q0 {w:World} {a:Addr} {n:Nat} {cs:List Value} (h:w.cells? 0 a n=some cs):cs.length=n∧∀ i v,cs[i]? = some v→w.cell? (a.add i)=some v:=by
 unfold World.cells? at h;rw [f7 (g9 _)] at h;refine ⟨by simpa using mapM_some_length h,fun i v ar=>?_⟩;have aS:i<n:=by
  have:=mapM_some_length h;rw [List.length_range] at this;rw [← this];exact (t7.1 ar).1
 rw [mapM_some_get h i i (by rw [List.getElem?_range aS])];exact ar
section
variable {H:Type} {enc:TypeId×Value→H} {w:World}
theorem Fe {sz:Nat}:∀ {vs:List Value},(∀ v∈vs,v.cells.size=sz)→(flat vs).length=vs.length*sz
  | [],_=>by simp [flat]
  | v::vs,h=>by
    have:=Fe (vs:=vs) (fun u hu=>h u (i0 _ hu));have ar:=h v i6;simp only [flat,List.flatMap_cons,f9,i5] at this ⊢;rw [this,ae5,ar,Nat.add_mul,Nat.one_mul,Nat.add_comm]
theorem bH.iY {p:bU}:∀ {vs us:List Value} {xs ys:List ah},bH w p vs xs→bH w p us ys→bH w p (vs++us) (xs++ys)
 | _,_,_,_,.nil,h=>h
 | _,_,_,_,.cons v x vs xs h t,k => .cons _ _ _ _ h (bH.iY t k)
theorem ace (l r:List (DataW H)):Rows.uptoBulkAll (l++r)=Rows.uptoBulkAll l+Rows.uptoBulkAll r:=by
 induction l with
 | nil=>simp [Rows.uptoBulkAll]
 | cons x l aW=>simp only [ab',Rows.uptoBulkAll,aW];omega
theorem Q1 {α:Type} {t e:TypeId} {sz fuel:Nat} {cs:List Value} {x:DataW H×List MemPlace} (f:α→ah) (m:α→Nat) (aM : d0.underlying t=some (.slice e)) (aD : d0.cellsOf e=sz) (cc:0<sz)
  (dY:∀ n cs y,n<fuel→DataW.trod enc d0 w 0 (fun _=>true) true n e cs=some y→cs.length=sz→∃ (a:α) (v:Value),v.cells.toList=cs∧Rel w (kv w) v (f a)∧m a≤Rows.uptoBulk y.1)
  (h:DataW.trod enc d0 w 0 (fun _=>true) true fuel t cs=some x) :
  ∃ (c:Value) (l:List α),cs=[c]∧Rel w (kv w) c (.aG sz (l.map f) .bd)∧(l.map m).sum+1≤Rows.uptoBulk x.1:=by
 rcases DataW.trod_slice aM h with ⟨rfl,rfl⟩|⟨a,len,cap,elems,rest,n,rfl,rfl,rfl,an,aC,hm,hlen,Q2,gA,HX⟩
 ·exact ⟨_,[],rfl,.hY _ _ bc,by simp [Rows.uptoBulk]⟩
 ·rw [aD] at Q2 gA
  have key:∀ k,k≤len→∃ (l:List α) (vs:List Value),l.length=k∧bH w (kv w) vs (l.map f)∧(∀ v∈vs,v.cells.size=sz)∧(∀ i u,(flat vs)[i]? = some u→w.cell? (a.add i)=some u) ∧
    (l.map m).sum≤Rows.uptoBulkAll ((elems.take k).map (·.1)):=by
   intro k
   induction k with
   | zero=>intro _;exact ⟨[],[],rfl,.nil,by simp,by simp [flat],by simp⟩
   | succ k aW=>
    intro aA;obtain ⟨l,vs,aa,ad,aj,a8,bB⟩:=aW ag;have Ff:elems[k]? = some (elems[k]' ag):=d8 ag;have an:=Q2 k ag;rw [Ff,au1] at an;obtain ⟨cs',hG,ax⟩:=an;obtain ⟨g1,g2⟩:=Q0 hG;obtain ⟨c1,v,b6,bW,eN⟩:=dY n cs' _ (am3 n) ax g1;have eM:vs.length=k:=by rw [ad.length,f8,aa]
    refine ⟨l++[c1],vs++[v],by simp [aa],?_,?_,?_,?_⟩
    ·rw [ae1];exact bH.iY ad (.cons _ _ _ _ bW .nil)
    ·intro u hu
     rcases ae2.1 hu with hu|hu
     ·exact aj u hu
     ·simp only [t6] at hu
      subst hu;rw [← ae5,b6,g1]
    ·intro i u hu
     have aX:flat (vs++[v])=flat vs++cs':=by simp [flat,b6]
     rw [aX] at hu;by_cases aS:i<(flat vs).length
     ·rw [af9 aS] at hu;exact a8 i u hu
     ·rw [ae' ag,Fe aj,eM] at hu
      have:=g2 _ _ hu;rw [add_add] at this;rw [Fe aj,eM] at aS;rwa [show k*sz+(i-k*sz)=i by omega] at this
    ·rw [List.take_add_one,Ff]
     simp only [Option.toList_some,ae1,ae0,ag7,ace,List.sum_append,aq5,List.sum_nil,Rows.uptoBulkAll];omega
  obtain ⟨l,vs,aa,ad,aj,a8,bB⟩:=key len (g7 _);have eM:vs.length=len:=by rw [ad.length,f8,aa]
  refine ⟨_,l,rfl,?_,?_⟩
  ·have nN:maxLen=9223372036854775807:=rfl
   by_cases kD:cap=0
   ·have uJ:len=0:=by omega
    subst uJ;subst kD;have:l=[]:=List.eq_nil_of_length_eq_zero aa;subst this;exact .iA a _ _ (.inl C)
   ·have jF:∃ v,w.cell? a=some v:=by
     by_cases uJ:len=0
     ·obtain ⟨aE,jo⟩:=gA rfl
      have Ff:rest[0]? = some (rest[0]' ag):=d8 ag;have:=jo 0 ag;rw [Ff,au1] at this;obtain ⟨cs',hG,-⟩:=this;obtain ⟨g1,g2⟩:=Q0 hG;have:=g2 0 _ (d8 ag);rw [uJ,add_add] at this;simp only [aq0,Nat.zero_mul,Addr.add,ag5] at this;exact ⟨_,this⟩
     ·have:=a8 0 _ (d8 (by rw [Fe aj,eM];exact Nat.mul_pos ag cc))
      simp only [Addr.add,ag5] at this;exact ⟨_,this⟩
    obtain ⟨v,ar⟩:=jF;obtain ⟨au,az⟩:=acd ar;obtain ⟨g,off,spot⟩:=a;simp only at au az;subst au;refine .aG g off len cap sz vs _ .bd bc (by rw [f8,aa]) (fun i u hu=>⟨az,?_⟩) ad aj ag aC bc bc;have:=a8 i u hu;rwa [lr] at this
  ·simp only [Rows.uptoBulk]
   rw [List.take_of_length_le ag] at bB;omega
theorem trod_int {t:TypeId} {fuel:Nat} {cs:List Value} {y:DataW H×List MemPlace} (aM : d0.underlying t=some (.int .i64)) (h:DataW.trod enc d0 w 0 (fun _=>true) true fuel t cs=some y) :
  ∃ n:Int,bH w (kv w) cs [.int .i64 n]∧1≤Rows.uptoBulk y.1:=by
 obtain ⟨n,rfl,rfl,-⟩:=DataW.trod_int aM h;exact ⟨n,.cons _ _ _ _ (.int _ _) .nil,by simp [Rows.uptoBulk]⟩
theorem uo {α:Type} {t e:TypeId} {sz fuel:Nat} {cs:List Value} {x:DataW H×List MemPlace} (f:α→List ah) (m:α→Nat) (aM : d0.underlying t=some (.slice e)) (aD : d0.cellsOf e=sz) (cc:0<sz)
  (dY:∀ n cs y,n<fuel→DataW.trod enc d0 w 0 (fun _=>true) true n e cs=some y→∃ a:α,bH w (kv w) cs (f a)∧m a≤Rows.uptoBulk y.1)
  (h:DataW.trod enc d0 w 0 (fun _=>true) true fuel t cs=some x) :
  ∃ l:List α,bH w (kv w) cs [.aG sz (l.map fun a => .agg (f a)) .bd]∧(l.map m).sum+1≤Rows.uptoBulk x.1:=by
 obtain ⟨c,l,rfl,aa,ad⟩:=Q1 (fun a=>ah.agg (f a)) m aM aD cc (fun n cs y aB ax _=>by
  obtain ⟨a,g1,g2⟩:=dY n cs y aB ax
  exact ⟨a,.agg cs.toArray,by simp [Value.cells],.agg _ _ (by simpa using g1),g2⟩) h
 exact ⟨l,.cons _ _ _ _ aa .nil,ad⟩
theorem s7 (l:List (DataW H)):Rows.uptoBulk (.agg l)=Rows.uptoBulkAll l+1:=by simp [Rows.uptoBulk]
def fP (aen:String) (t:TypeId) (off acf:Nat):Field:={ name:=aen,type:=t,offset:=off,embedded:=false,tag := "", pkgPath := "", byteOffset:=acf }
theorem acg {t:TypeId} {fuel:Nat} {cs:List Value} {y:DataW H×List MemPlace} (aM : d0.underlying t=some (.int .i64)) (h:DataW.trod enc d0 w 0 (fun _=>true) true fuel t cs=some y) :
  ∃ (n:Int) (v:Value),v.cells.toList=cs∧Rel w (kv w) v (.int .i64 n)∧1≤Rows.uptoBulk y.1:=by
 obtain ⟨n,rfl,rfl,-⟩:=DataW.trod_int aM h;exact ⟨n,.int .i64 n,rfl,.int _ _,by simp [Rows.uptoBulk]⟩
theorem Q3:∀ l:List Int,(l.map fun _=>1).sum=l.length
 | []=>rfl
 | _::r=>by rw [ae0,aq5,Q3 r,i5];omega
theorem zA {fuel:Nat} {cs:List Value} {x:DataW H×List MemPlace} (h:DataW.trod enc d0 w 0 (fun _=>true) true fuel 23 cs=some x) :
  ∃ l:List Int,bH w (kv w) cs [bj l]∧l.length+1≤Rows.uptoBulk x.1:=by
 obtain ⟨c,l,rfl,aa,ad⟩:=Q1 (sz:=1) (fun n=>ah.int .i64 n) (fun _=>1) Tryz.underlying23 fC ag (fun _ _ _ _ h _=>acg Tryz.underlying3 h) h;rw [Q3] at ad;exact ⟨l,.cons _ _ _ _ aa .nil,ad⟩
theorem Q4 {α:Type}:∀ l:List α,l.length≤(l.map fun _=>1).sum
 | []=>g7 _
 | _::r=>by rw [ae0,aq5,i5];have:=Q4 r;omega
def bs.weight (x:bs):Nat:=x.ms.length+1
theorem ach (fuel:Nat) (cs:List Value) (y:DataW H×List MemPlace) (h:DataW.trod enc d0 w 0 (fun _=>true) true fuel 69 cs=some y):∃ x:bs,bH w (kv w) cs (gO x)∧bs.weight x≤Rows.uptoBulk y.1:=by
 obtain ⟨xs,n,rfl,rfl,aC,hlen,aX⟩:=DataW.trod_struct Tryz.underlying69 h;have Q5 : d0.cellsOf 69 = 4:=by kernel_rfl
 have mZ : d0.cellsOf 3 = 1:=by kernel_rfl
 have aci : d0.cellsOf 23 = 1:=by kernel_rfl
 rw [Q5] at aC
 match cs,aC,xs,hlen with
 | [v0,v1,v2,v3],_,[uq,ur,zB,JT],_=>
  have bo:=aX 0 (fP "Atom" 3 0 0) C;have aa:=aX 1 (fP "No" 3 1 8) C;have ad:=aX 2 (fP "Yes" 3 2 16) C;have aj:=aX 3 (fP "Methods" 23 3 24) C;simp only [fP,Q5,mZ,aci,ap6,ar8] at bo aa ad aj;obtain ⟨a,g0,pQ⟩:=trod_int Tryz.underlying3 bo;obtain ⟨no,g1,gq⟩:=trod_int Tryz.underlying3 aa;obtain ⟨JU,g2,dm⟩:=trod_int Tryz.underlying3 ad;obtain ⟨ms,g3,mB⟩:=zA aj;refine ⟨⟨a,no,JU,ms⟩,?_,?_⟩
  ·have:gO ⟨a,no,JU,ms⟩=[.int .i64 a]++([.int .i64 no]++([.int .i64 JU]++[bj ms])):=rfl
   rw [this];exact bH.iY (vs:=[v0]) g0 (bH.iY (vs:=[v1]) g1 (bH.iY (vs:=[v2]) g2 g3))
  ·simp only [s7,ae0,ag7,Rows.uptoBulkAll,bs.weight]
   omega
theorem acj:∀ g:List bs,g.length≤(g.map bs.weight).sum
 | []=>g7 _
 | x::r=>by rw [ae0,aq5,i5];have:=acj r;unfold bs.weight at *;omega
theorem adn {fuel:Nat} {cs:List Value} {x:DataW H×List MemPlace} (h:DataW.trod enc d0 w 0 (fun _=>true) true fuel 28 cs=some x) :
  ∃ g:List bs,bH w (kv w) cs [e7 g]∧(g.map bs.weight).sum+1≤Rows.uptoBulk x.1:=by
 obtain ⟨g,aa,ad⟩:=uo (sz:=4) gO bs.weight Tryz.underlying28 fC ag (fun m cs y _ ax=>ach m cs y ax) h;exact ⟨g,aa,ad⟩
end
open Go.ChangeShapes Go.WideShapes Go.ChangeAt Go.RowKit
theorem Q6 {H:Type} {enc:TypeId×Value→H} {P:Program} {W xY:World} (aC:laidOutB P=true):∀ {gu:List TypeId} {vs:List Value} {b':List (DataW H)} {ps:List MemPlace} {sp:Nat→Bool},(∀ t∈gu,P.readableRec t=true∧t<P.types.size) →
    DataW.TrodAll enc P W 0 (fun _=>true) true gu vs b' ps→(∀ p∈ps,W.sameAt xY p)→(∀ p∈ps,sp p.block=true)→DataW.TrodAll enc P xY 0 sp true gu vs b' ps
  | [],[],[],_,_,_,h,_,_=>h
  | t::gu,v::vs,d::b',ps,sp,aM,h,au,an=>by
    obtain ⟨p,q,aa,ad,rfl⟩:=h;obtain ⟨fr,gD⟩:=aM t i6
    exact ⟨p,q,WideElems.Trod_stays aC fr gD aa (fun x ab=>au x (ai7 _ ab)) (fun x ab=>an x (ai7 _ ab)),
      Q6 aC (fun t c7=>aM t (i0 _ c7)) ad (fun x ab=>au x (an8 _ ab)) (fun x ab=>an x (an8 _ ab)),rfl⟩
  | [],[],_::_,_,_,_,h,_,_=>h.elim
  | [],_::_,_,_,_,_,h,_,_=>h.elim
  | _::_,[],_,_,_,_,h,_,_=>h.elim
  | _::_,_::_,[],_,_,_,h,_,_=>h.elim
theorem ado {H:Type} {enc:TypeId×Value→H} {f:FuncId} {fn:Func} {spec:ChangeSpec} {W:World} {args:Array Value} {xs:List ah} {b' gs:List (DataW H)} {before:List MemPlace}
  (aC:laidOutB d0=true) (aF:∀ t∈fn.params.toList,d0.readableRec t=true∧t < d0.types.size) (aE:fn.resultTypes = #[4]) (ar:spec.vars=[])
  (gA:gs=[]→spec.fn H (b'++gs)={ results:=[.lit (.bool true)],args:=b' })
  (gQ:DataW.Whole enc d0 fn.params.toList spec.vars false W args.toList b' gs before) (eS:bH W (kv W) args.toList xs) (aD:hl d0 f xs (fun _=>none) (fun o ak=>o = .ret (.bool true)∧ak=fun _=>none)) :
  Calls d0 f args W fun e xY=>∃ v,e = .returned v∧spec.post enc d0 fn false true false false W args v xY:=by
 have h:=aD.2 W (kv W) args.toList (acb W) eS;rw [Array.toArray_toList] at h;refine Calls.mono h fun e xY ⟨cP,o,ak,bh,qI,⟨ai,hK⟩,hle,aA,ca⟩=>?_
 subst ai;cases e with
 | returned v=>
  have an:Rel xY bh v (.bool true):=qI;cases an;have Q7:Below W.heap.size W xY:=⟨hle.os,hle.tape,hle.output,hle.size,fun k eF=>aA.heap k eF C⟩;have az:=gQ.lt;have ack:=gQ;obtain ⟨p,q,lB,Jo,rfl,adp,ez⟩:=gQ;rw [ar] at Jo;obtain ⟨rfl,rfl⟩:=trodVars_none Jo;have za:=gA C;refine ⟨_,rfl,b',[],_,[],p,[],ack,?_,?_,?_,Q7.frame _,fun h=>by cases h⟩
  ·rw [za,aE]
   exact trodAll_cons_mk (shut_bool Tryz.underlying4 _) trodAll_mk0
  ·rw [za]
   exact Q6 aC aF lB (fun x ab=>Q7.same (az x uv)) (fun x ab=>by simpa using az x uv)
  ·rw [za,ar];exact rfl
 | panicked dx=>exact qI.elim
 | outgrown=>exact qI.elim
theorem adq {P:Program} {W:World} {r:Reach} {b:Nat} {t e:TypeId} {v:Value} (aM:P.underlying t=some (.slice e)) (h:Value.okWide P W r b t v):v.cells = #[v]:=by
 obtain ⟨a,n,c,rfl⟩:=okWide_slice aM h;rfl
theorem adr {P:Program} {W:World} {r:Reach} {b:Nat} {t:TypeId} {gJ:Array Field} {v:Value} (aM:P.underlying t=some (.struct gJ)) (h:Value.okWide P W r b t v):∃ cs,v = .agg cs:=by
 obtain ⟨cs,aa,-⟩:=okWide_struct aM h;exact ⟨cs,aa⟩
theorem ads {w:World} {p:bU} {v:Value} {x:ah} (ar:v.cells = #[v]) (h:bH w p v.cells.toList [x]):Rel w p v x:=by
 rw [ar] at h;cases h with
 | cons _ _ _ _ h _=>exact h
theorem adt {w:World} {p:bU} {v:Value} {xs:List ah} (ar:∃ cs,v = .agg cs) (h:bH w p v.cells.toList xs):Rel w p v (.agg xs):=by
 obtain ⟨cs,rfl⟩:=ar;exact .agg _ _ h
theorem adu {P:Program} {W:World} {r:Reach} {b:Nat} {t:TypeId} {v:Value} {k:IntKind} (aM:P.underlying t=some (.int k)) (h:Value.okWide P W r b t v):v.cells = #[v]:=by
 obtain ⟨n,rfl⟩:=okWide_int aM h;rfl
theorem laidOut:laidOutB d0=true:=by kernel_rfl
theorem Cn {α:Type} {m:α→Nat}:∀ {l:List α} {x:α},x∈l→m x≤(l.map m).sum
  | y::r,x,h=>by
    rw [ae0,aq5];rcases ae8.1 h with rfl|h
    · omega
    · have:=Cn (m:=m) h;omega
mutual
def av.weight:av→Nat
 | .mk _ _ p _ _ ks=>p.length+6+av.weights ks
def av.weights:List av→Nat
 | []=>0
 | k::r=>av.weight k+av.weights r
end
theorem av.Q8:∀ l:List av,av.weights l=(l.map av.weight).sum
 | []=>rfl
 | k::r=>by rw [av.weights,av.Q8 r];rfl
mutual
theorem av.Q9:∀ f:av,f.size≤av.weight f
  | .mk o a p c n ks=>by
    have h:=av.Q' ks;have e:=(av.mk o a p c n ks).size_eq;have aa:(av.mk o a p c n ks).kids=ks:=rfl;have ad:(av.mk o a p c n ks).path=p:=rfl;rw [aa,ad] at e;rw [av.weight];omega
theorem av.Q':∀ l:List av,av.iS l≤av.weights l
  | []=>g9 _
  | k::r=>by
    have aa:=av.Q9 k;have ad:=av.Q' r;rw [av.iS,av.weights];omega
end
theorem acm (ks:List av):(ks.map fun a=>ah.agg a.cells)=ks.map av.cj:=by
 congr 1;funext a;exact (av.cG a).symm
section
variable {H:Type} {enc:TypeId×Value→H} {w:World}
theorem acn:∀ (fuel:Nat) (cs:List Value) (y:DataW H×List MemPlace),DataW.trod enc d0 w 0 (fun _=>true) true fuel 58 cs=some y→∃ e:av,bH w (kv w) cs (av.cells e)∧av.weight e≤Rows.uptoBulk y.1:=by
 intro fuel
 induction fuel using Nat.strongRecOn with
 | _ fuel aW=>
 intro cs y h;obtain ⟨xs,n,rfl,rfl,aC,hlen,aX⟩:=DataW.trod_struct Tryz.underlying58 h;have Fg : d0.cellsOf 58 = 6:=by kernel_rfl
 have aco : d0.cellsOf 56 = 1:=by kernel_rfl
 have mZ : d0.cellsOf 3 = 1:=by kernel_rfl
 have xZ : d0.cellsOf 23 = 1:=by kernel_rfl
 have acp : d0.cellsOf 47 = 1:=by kernel_rfl
 rw [Fg] at aC
 match cs,aC,xs,hlen with
 | [v0,v1,v2,v3,v4,v5],_,[uq,ur,zB,JT,ad0,aee],_=>
  have bo:=aX 0 (fP "Op" 56 0 0) C;have aa:=aX 1 (fP "Arg" 3 1 8) C;have ad:=aX 2 (fP "Path" 23 2 16) C;have aj:=aX 3 (fP "Class" 3 3 40) C;have a8:=aX 4 (fP "N" 3 4 48) C;have bB:=aX 5 (fP "Kids" 47 5 56) C;simp only [fP,Fg,aco,mZ,xZ,acp,ap6,ar8] at bo aa ad aj a8 bB;obtain ⟨a0,g0,pQ⟩:=trod_int Tryz.underlying56 bo;obtain ⟨df,g1,gq⟩:=trod_int Tryz.underlying3 aa;obtain ⟨a2,g2,dm⟩:=zA ad;obtain ⟨a3,g3,mB⟩:=trod_int Tryz.underlying3 aj;obtain ⟨a4,g4,pE⟩:=trod_int Tryz.underlying3 a8;obtain ⟨a5,g5,B5⟩:=uo (sz:=6) av.cells av.weight Tryz.underlying47 fC ag (fun m cs y hm ax=>aW m ag cs y ax) bB;refine ⟨.mk a0 df a2 a3 a4 a5,?_,?_⟩
  ·have:av.cells (av.mk a0 df a2 a3 a4 a5)=[.int .i64 a0]++([.int .i64 df]++([bj a2]++([.int .i64 a3]++([.int .i64 a4]++([.aG 6 (a5.map fun a => .agg (av.cells a)) .bd]))))):=by rw [acm];rfl
   rw [this];exact bH.iY (vs:=[v0]) g0 (bH.iY (vs:=[v1]) g1 (bH.iY (vs:=[v2]) g2 (bH.iY (vs:=[v3]) g3 (bH.iY (vs:=[v4]) g4 (g5)))))
  ·simp only [s7,ae0,ag7,Rows.uptoBulkAll,av.weight,av.Q8]
   omega
def Fh (x:iT):List ah:=[.int .i64 x.slot,.int .i64 x.n]
def iT.weight (_x:iT):Nat:=2
theorem acq (fuel:Nat) (cs:List Value) (y:DataW H×List MemPlace) (h:DataW.trod enc d0 w 0 (fun _=>true) true fuel 241 cs=some y):∃ e:iT,bH w (kv w) cs (Fh e)∧iT.weight e≤Rows.uptoBulk y.1:=by
 obtain ⟨xs,n,rfl,rfl,aC,hlen,aX⟩:=DataW.trod_struct Tryz.underlying241 h;have Ra : d0.cellsOf 241 = 2:=by kernel_rfl
 have mZ : d0.cellsOf 3 = 1:=by kernel_rfl
 rw [Ra] at aC
 match cs,aC,xs,hlen with
 | [v0,v1],_,[uq,ur],_=>
  have bo:=aX 0 (fP "Slot" 3 0 0) C;have aa:=aX 1 (fP "N" 3 1 8) C;simp only [fP,Ra,mZ,ap6,ar8] at bo aa;obtain ⟨a0,g0,pQ⟩:=trod_int Tryz.underlying3 bo;obtain ⟨df,g1,gq⟩:=trod_int Tryz.underlying3 aa;refine ⟨iT.mk a0 df,?_,?_⟩
  ·have:Fh (iT.mk a0 df)=[.int .i64 a0]++([.int .i64 df]):=rfl
   rw [this];exact bH.iY (vs:=[v0]) g0 (g1)
  ·simp only [s7,ae0,ag7,Rows.uptoBulkAll,iT.weight]
   omega
def fL.weight (x:fL):Nat:=x.parents.length+x.bm.length+(x.inits.map iT.weight).sum+3
theorem acr (fuel:Nat) (cs:List Value) (y:DataW H×List MemPlace) (h:DataW.trod enc d0 w 0 (fun _=>true) true fuel 76 cs=some y):∃ e:fL,bH w (kv w) cs (nk e)∧fL.weight e≤Rows.uptoBulk y.1:=by
 obtain ⟨xs,n,rfl,rfl,aC,hlen,aX⟩:=DataW.trod_struct Tryz.underlying76 h;have Rb : d0.cellsOf 76 = 3:=by kernel_rfl
 have xZ : d0.cellsOf 23 = 1:=by kernel_rfl
 have acs : d0.cellsOf 74 = 1:=by kernel_rfl
 rw [Rb] at aC
 match cs,aC,xs,hlen with
 | [v0,v1,v2],_,[uq,ur,zB],_=>
  have bo:=aX 0 (fP "Parents" 23 0 0) C;have aa:=aX 1 (fP "Slots" 23 1 24) C;have ad:=aX 2 (fP "Inits" 74 2 48) C;simp only [fP,Rb,xZ,acs,ap6,ar8] at bo aa ad;obtain ⟨a0,g0,pQ⟩:=zA bo;obtain ⟨df,g1,gq⟩:=zA aa;obtain ⟨a2,g2,dm⟩:=uo (sz:=2) Fh iT.weight Tryz.underlying74 fC ag (fun m cs y _ ax=>acq m cs y ax) ad;refine ⟨fL.mk a0 df a2,?_,?_⟩
  ·have:nk (fL.mk a0 df a2)=[bj a0]++([bj df]++([.aG 2 (a2.map fun a => .agg (Fh a)) .bd])):=rfl
   rw [this];exact bH.iY (vs:=[v0]) g0 (bH.iY (vs:=[v1]) g1 (g2))
  ·simp only [s7,ae0,ag7,Rows.uptoBulkAll,fL.weight]
   omega
def gN.weight (x:gN):Nat:=av.weight x.fact+3
theorem acu (fuel:Nat) (cs:List Value) (y:DataW H×List MemPlace) (h:DataW.trod enc d0 w 0 (fun _=>true) true fuel 89 cs=some y):∃ e:gN,bH w (kv w) cs (oA e)∧gN.weight e≤Rows.uptoBulk y.1:=by
 obtain ⟨xs,n,rfl,rfl,aC,hlen,aX⟩:=DataW.trod_struct Tryz.underlying89 h;have Rc : d0.cellsOf 89 = 9:=by kernel_rfl
 have acv : d0.cellsOf 87 = 1:=by kernel_rfl
 have mZ : d0.cellsOf 3 = 1:=by kernel_rfl
 have Fg : d0.cellsOf 58 = 6:=by kernel_rfl
 rw [Rc] at aC
 match cs,aC,xs,hlen with
 | [v0,v1,v2,v3,v4,v5,v6,ad2,adZ],_,[uq,ur,zB,JT],_=>
  have bo:=aX 0 (fP "Kind" 87 0 0) C;have aa:=aX 1 (fP "Gen" 3 1 8) C;have ad:=aX 2 (fP "Fact" 58 2 16) C;have aj:=aX 3 (fP "Node" 3 8 96) C;simp only [fP,Rc,acv,mZ,Fg,ap6,ar8] at bo aa ad aj;obtain ⟨a0,g0,pQ⟩:=trod_int Tryz.underlying87 bo;obtain ⟨df,g1,gq⟩:=trod_int Tryz.underlying3 aa;obtain ⟨a2,g2,dm⟩:=acn _ _ _ ad;obtain ⟨a3,g3,mB⟩:=trod_int Tryz.underlying3 aj;refine ⟨gN.mk a0 df a2 a3,?_,?_⟩
  ·have:oA (gN.mk a0 df a2 a3)=[.int .i64 a0]++([.int .i64 df]++((av.cells a2)++([.int .i64 a3]))):=by simp only [oA,av.cells,ab',f0]
   rw [this];exact bH.iY (vs:=[v0]) g0 (bH.iY (vs:=[v1]) g1 (bH.iY (vs:=[v2,v3,v4,v5,v6,ad2]) g2 (g3)))
  ·simp only [s7,ae0,ag7,Rows.uptoBulkAll,gN.weight]
   omega
def iU.weight (x:iU):Nat:=x.kids.length+3
theorem acw (fuel:Nat) (cs:List Value) (y:DataW H×List MemPlace) (h:DataW.trod enc d0 w 0 (fun _=>true) true fuel 85 cs=some y):∃ e:iU,bH w (kv w) cs (k7 e)∧iU.weight e≤Rows.uptoBulk y.1:=by
 obtain ⟨xs,n,rfl,rfl,aC,hlen,aX⟩:=DataW.trod_struct Tryz.underlying85 h;have Re : d0.cellsOf 85 = 3:=by kernel_rfl
 have acx : d0.cellsOf 83 = 1:=by kernel_rfl
 have mZ : d0.cellsOf 3 = 1:=by kernel_rfl
 have xZ : d0.cellsOf 23 = 1:=by kernel_rfl
 rw [Re] at aC
 match cs,aC,xs,hlen with
 | [v0,v1,v2],_,[uq,ur,zB],_=>
  have bo:=aX 0 (fP "Op" 83 0 0) C;have aa:=aX 1 (fP "N" 3 1 8) C;have ad:=aX 2 (fP "Kids" 23 2 16) C;simp only [fP,Re,acx,mZ,xZ,ap6,ar8] at bo aa ad;obtain ⟨a0,g0,pQ⟩:=trod_int Tryz.underlying83 bo;obtain ⟨df,g1,gq⟩:=trod_int Tryz.underlying3 aa;obtain ⟨a2,g2,dm⟩:=zA ad;refine ⟨iU.mk a0 df a2,?_,?_⟩
  ·have:k7 (iU.mk a0 df a2)=[.int .i64 a0]++([.int .i64 df]++([bj a2])):=rfl
   rw [this];exact bH.iY (vs:=[v0]) g0 (bH.iY (vs:=[v1]) g1 (g2))
  ·simp only [s7,ae0,ag7,Rows.uptoBulkAll,iU.weight]
   omega
def bN.weight (x:bN):Nat:=(x.cm.map fL.weight).sum+x.dt.length+(x.methods.map gN.weight).sum+(x.nodes.map iU.weight).sum+6
theorem adv (fuel:Nat) (cs:List Value) (y:DataW H×List MemPlace) (h:DataW.trod enc d0 w 0 (fun _=>true) true fuel 27 cs=some y):∃ e:bN,bH w (kv w) cs (cI e)∧bN.weight e≤Rows.uptoBulk y.1:=by
 obtain ⟨xs,n,rfl,rfl,aC,hlen,aX⟩:=DataW.trod_struct Tryz.underlying27 h;have Rf : d0.cellsOf 27 = 6:=by kernel_rfl
 have acy : d0.cellsOf 22 = 1:=by kernel_rfl
 have mZ : d0.cellsOf 3 = 1:=by kernel_rfl
 have xZ : d0.cellsOf 23 = 1:=by kernel_rfl
 have acz : d0.cellsOf 24 = 1:=by kernel_rfl
 have acA : d0.cellsOf 25 = 1:=by kernel_rfl
 rw [Rf] at aC
 match cs,aC,xs,hlen with
 | [v0,v1,v2,v3,v4,v5],_,[uq,ur,zB,JT,ad0,aee],_=>
  have bo:=aX 0 (fP "Classes" 22 0 0) C;have aa:=aX 1 (fP "Slots" 3 1 24) C;have ad:=aX 2 (fP "Gens" 23 2 32) C;have aj:=aX 3 (fP "Methods" 24 3 56) C;have a8:=aX 4 (fP "Nodes" 25 4 80) C;have bB:=aX 5 (fP "Main" 3 5 104) C;simp only [fP,Rf,acy,mZ,xZ,acz,acA,ap6,ar8] at bo aa ad aj a8 bB;obtain ⟨a0,g0,pQ⟩:=uo (sz:=3) nk fL.weight Tryz.underlying22 fC ag (fun m cs y _ ax=>acr m cs y ax) bo;obtain ⟨df,g1,gq⟩:=trod_int Tryz.underlying3 aa;obtain ⟨a2,g2,dm⟩:=zA ad;obtain ⟨a3,g3,mB⟩:=uo (sz:=9) oA gN.weight Tryz.underlying24 fC ag (fun m cs y _ ax=>acu m cs y ax) aj;obtain ⟨a4,g4,pE⟩:=uo (sz:=3) k7 iU.weight Tryz.underlying25 fC ag (fun m cs y _ ax=>acw m cs y ax) a8;obtain ⟨a5,g5,B5⟩:=trod_int Tryz.underlying3 bB;refine ⟨bN.mk a0 df a2 a3 a4 a5,?_,?_⟩
  ·have:cI (bN.mk a0 df a2 a3 a4 a5)=[.aG 3 (a0.map fun a => .agg (nk a)) .bd]++([.int .i64 df]++([bj a2]++([.aG 9 (a3.map fun a => .agg (oA a)) .bd]++([.aG 3 (a4.map fun a => .agg (k7 a)) .bd]++([.int .i64 a5]))))):=rfl
   rw [this];exact bH.iY (vs:=[v0]) g0 (bH.iY (vs:=[v1]) g1 (bH.iY (vs:=[v2]) g2 (bH.iY (vs:=[v3]) g3 (bH.iY (vs:=[v4]) g4 (g5)))))
  ·simp only [s7,ae0,ag7,Rows.uptoBulkAll,bN.weight]
   omega
def vO (v:Int×Int):List ah:=[.int .i64 v.1,.int .i64 v.2]
def s8 (_v:Int×Int):Nat:=2
theorem Rg (fuel:Nat) (cs:List Value) (y:DataW H×List MemPlace) (h:DataW.trod enc d0 w 0 (fun _=>true) true fuel 122 cs=some y):∃ e:Int×Int,bH w (kv w) cs (vO e)∧s8 e≤Rows.uptoBulk y.1:=by
 obtain ⟨xs,n,rfl,rfl,aC,hlen,aX⟩:=DataW.trod_struct Tryz.underlying122 h;have Rh : d0.cellsOf 122 = 2:=by kernel_rfl
 have acB : d0.cellsOf 120 = 1:=by kernel_rfl
 have mZ : d0.cellsOf 3 = 1:=by kernel_rfl
 rw [Rh] at aC
 match cs,aC,xs,hlen with
 | [v0,v1],_,[uq,ur],_=>
  have bo:=aX 0 (fP "Kind" 120 0 0) C;have aa:=aX 1 (fP "N" 3 1 8) C;simp only [fP,Rh,acB,mZ,ap6,ar8] at bo aa;obtain ⟨a0,g0,pQ⟩:=trod_int Tryz.underlying120 bo;obtain ⟨df,g1,gq⟩:=trod_int Tryz.underlying3 aa;refine ⟨Prod.mk a0 df,?_,?_⟩
  ·have:vO (Prod.mk a0 df)=[.int .i64 a0]++([.int .i64 df]):=rfl
   rw [this];exact bH.iY (vs:=[v0]) g0 (g1)
  ·simp only [s7,ae0,ag7,Rows.uptoBulkAll,s8]
   omega
def Co (x:c3):List ah:=[.int .i64 x.cls,.aG 2 (x.bm.map fun v => .agg (vO v)) .bd]
def c3.weight (x:c3):Nat:=(x.bm.map s8).sum+2
theorem acC (fuel:Nat) (cs:List Value) (y:DataW H×List MemPlace) (h:DataW.trod enc d0 w 0 (fun _=>true) true fuel 198 cs=some y):∃ e:c3,bH w (kv w) cs (Co e)∧c3.weight e≤Rows.uptoBulk y.1:=by
 obtain ⟨xs,n,rfl,rfl,aC,hlen,aX⟩:=DataW.trod_struct Tryz.underlying198 h;have Ri : d0.cellsOf 198 = 2:=by kernel_rfl
 have mZ : d0.cellsOf 3 = 1:=by kernel_rfl
 have JV : d0.cellsOf 40 = 1:=by kernel_rfl
 rw [Ri] at aC
 match cs,aC,xs,hlen with
 | [v0,v1],_,[uq,ur],_=>
  have bo:=aX 0 (fP "Class" 3 0 0) C;have aa:=aX 1 (fP "Slots" 40 1 8) C;simp only [fP,Ri,mZ,JV,ap6,ar8] at bo aa;obtain ⟨a0,g0,pQ⟩:=trod_int Tryz.underlying3 bo;obtain ⟨df,g1,gq⟩:=uo (sz:=2) vO s8 Tryz.underlying40 fC ag (fun m cs y _ ax=>Rg m cs y ax) aa;refine ⟨c3.mk a0 df,?_,?_⟩
  ·have:Co (c3.mk a0 df)=[.int .i64 a0]++([.aG 2 (df.map fun a => .agg (vO a)) .bd]):=rfl
   rw [this];exact bH.iY (vs:=[v0]) g0 (g1)
  ·simp only [s7,ae0,ag7,Rows.uptoBulkAll,c3.weight]
   omega
structure Ask where
 aP:List c3
 gen:Int
 args:List (Int×Int)
def Rk (x:Ask):List ah:=[.aG 2 (x.aP.map fun o => .agg (Co o)) .bd,.int .i64 x.gen,.aG 2 (x.args.map fun v => .agg (vO v)) .bd]
def Ask.weight (x:Ask):Nat:=(x.aP.map c3.weight).sum+(x.args.map s8).sum+3
theorem adw (fuel:Nat) (cs:List Value) (y:DataW H×List MemPlace) (h:DataW.trod enc d0 w 0 (fun _=>true) true fuel 42 cs=some y):∃ e:Ask,bH w (kv w) cs (Rk e)∧Ask.weight e≤Rows.uptoBulk y.1:=by
 obtain ⟨xs,n,rfl,rfl,aC,hlen,aX⟩:=DataW.trod_struct Tryz.underlying42 h;have Rl : d0.cellsOf 42 = 3:=by kernel_rfl
 have acD : d0.cellsOf 39 = 1:=by kernel_rfl
 have mZ : d0.cellsOf 3 = 1:=by kernel_rfl
 have JV : d0.cellsOf 40 = 1:=by kernel_rfl
 rw [Rl] at aC
 match cs,aC,xs,hlen with
 | [v0,v1,v2],_,[uq,ur,zB],_=>
  have bo:=aX 0 (fP "Objs" 39 0 0) C;have aa:=aX 1 (fP "Gen" 3 1 24) C;have ad:=aX 2 (fP "Args" 40 2 32) C;simp only [fP,Rl,acD,mZ,JV,ap6,ar8] at bo aa ad;obtain ⟨a0,g0,pQ⟩:=uo (sz:=2) Co c3.weight Tryz.underlying39 fC ag (fun m cs y _ ax=>acC m cs y ax) bo;obtain ⟨df,g1,gq⟩:=trod_int Tryz.underlying3 aa;obtain ⟨a2,g2,dm⟩:=uo (sz:=2) vO s8 Tryz.underlying40 fC ag (fun m cs y _ ax=>Rg m cs y ax) ad;refine ⟨Ask.mk a0 df a2,?_,?_⟩
  ·have:Rk (Ask.mk a0 df a2)=[.aG 2 (a0.map fun a => .agg (Co a)) .bd]++([.int .i64 df]++([.aG 2 (a2.map fun a => .agg (vO a)) .bd])):=rfl
   rw [this];exact bH.iY (vs:=[v0]) g0 (bH.iY (vs:=[v1]) g1 (g2))
  ·simp only [s7,ae0,ag7,Rows.uptoBulkAll,Ask.weight]
   omega
end
theorem bN.small {p:bN} (h:bN.weight p≤1048576):gx p:=by
 have an:=bE;unfold bN.weight at h;have aa:=Q4 p.cm;have au:∀ {α:Type} (l:List α) (m:α→Nat),(∀ x,1≤m x)→l.length≤(l.map m).sum:=fun l m hm=>by
  induction l with
  | nil=>exact g9 _
  | cons x r aW=>rw [ae0,aq5,i5];have:=hm x;omega
 have cW:=au p.cm fL.weight (fun x=>by unfold fL.weight;omega);have c6:=au p.methods gN.weight (fun x=>by unfold gN.weight;omega);have eW:=au p.nodes iU.weight (fun x=>by unfold iU.weight;omega);refine ⟨by omega,fun c aD=>?_,by omega,by omega,fun m hm=>?_,by omega,fun x ab=>?_⟩
 ·have:=Cn (m:=fL.weight) aD
  unfold fL.weight at this;have:=au c.inits iT.weight (fun x=>by unfold iT.weight;omega);unfold fL.weight at *;omega
 ·have:=Cn (m:=gN.weight) hm
  have:=av.Q9 m.fact;unfold gN.weight at *;omega
 ·have:=Cn (m:=iU.weight) ab
  unfold iU.weight at *;omega
theorem Ask.small {x:Ask} (h:Ask.weight x≤1048576):x.aP.length<bx∧(∀ o∈x.aP,o.bm.length<bx)∧x.args.length<bx:=by
 have an:=bE;unfold Ask.weight at h;have au:∀ {α:Type} (l:List α) (m:α→Nat),(∀ x,1≤m x)→l.length≤(l.map m).sum:=fun l m hm=>by
  induction l with
  | nil=>exact g9 _
  | cons x r aW=>rw [ae0,aq5,i5];have:=hm x;omega
 have cW:=au x.aP c3.weight (fun x=>by unfold c3.weight;omega);have c6:=au x.args s8 (fun x=>by unfold s8;omega);refine ⟨by omega,fun o ai=>?_,by omega⟩;have:=Cn (m:=c3.weight) ai;have:=au o.bm s8 (fun x=>by unfold s8;omega);unfold c3.weight at *;omega
theorem adx:mapsRowed d0=true:=by kernel_rfl
theorem ady:(d0.stops==[])=true:=by kernel_rfl
theorem adz:(d0.stopKnobs==[])=true:=by kernel_rfl
theorem adA : d0.stopsHeard=true:=by kernel_rfl
theorem adB : d0.mayEnter=true:=by kernel_rfl
theorem adC:(Rows.treeSmallsUptoRow.lifted == d0.liftsFinal)=true:=by kernel_rfl
theorem adD:(d0.make==some Rows.treeSmallsUptoRow.make)=true:=by kernel_rfl
theorem adE:(Rows.treeSmallsUptoRow.plainKeys == d0.plainKeys)=true:=by kernel_rfl
end Go.Proofs.YtnafpeohfbglmaaGreat
