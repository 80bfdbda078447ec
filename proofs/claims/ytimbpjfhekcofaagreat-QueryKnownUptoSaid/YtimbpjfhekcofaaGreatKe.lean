import Derived.Test.YtimbpjfhekcofaaGreatKd
import Derived.WalkKit
import Derived.Defers
import Derived.Recover
import Derived.Laws.MakeOwn
import Derived.Laws.CopyRow
set_option linter.unusedVariables false
set_option linter.unusedSimpArgs false
set_option maxRecDepth 100000
set_option maxHeartbeats 4000000
open Array renaming getD_eq_getD_getElem?→ak1,getElem?_eq_some_iff→t6,getElem?_modify→aq1,toArray_toList→as1
open Bool renaming and_assoc→aG',and_eq_false_iff→ay9,and_eq_true_iff→at0,and_eq_true→d6,and_false→an3,and_self→aH7,and_true→as0,eq_false_iff→am5,eq_iff_iff→aj3,false_and→aa',false_eq_true→aj2,false_or→ak4,not_eq_false'→av5,not_eq_true'→aj7,not_false→an4,not_true→an5,or_assoc→ap3,or_eq_false_iff→ao1,or_eq_true_iff→aD6,or_eq_true→aj',or_false→ao3,or_true→au0,true_and→i8,true_or→ar'
open Int renaming le_refl→ap8,toNat_natCast→ai7,toNat_of_nonneg→av1
open Go.IntKind renaming wrap→ai'
open List renaming Perm→ap',all_append→aG5,all_cons→aq6,all_eq_true→ai4,all_nil→ax',any_append→ax2,any_cons→ak',any_eq_false→al2,any_eq_true→ai6,any_nil→ax9,append_assoc→aj0,append_nil→d7,append_of_mem→av4,contains_eq_mem→aw6,contains_iff_mem→am',ext_getElem?→ar0,filter_append→ap6,filter_cons→an1,filter_nil→az4,find?_cons→az3,find?_eq_none→aq3,find?_some→az1,findIdx?_eq_none_iff→am6,findIdx?_eq_some_iff_getElem→ak8,flatMap_append→at6,flatMap_cons→am0,foldl_append→aq',foldl_cons→ak9,getD_eq_getElem?_getD→d9,getElem?_append_left→ak3,getElem?_append_right→ak0,getElem?_eq_getElem→f8,getElem?_eq_none→am9,getElem?_eq_some_iff→ac',getElem?_map→aj6,getElem?_take→al',getElem_mem→an9,isEmpty→az0,length_append→f0,length_cons→i9,length_map→f6,length_mergeSort→ar5,length_nil→ai9,length_replicate→am3,length_singleton→ad',length_take→ah',map_append→t8,map_cons→ai2,mem_append_left→al3,mem_append_right→ap1,mem_append→ab',mem_cons_of_mem→f9,mem_cons_self→g8,mem_cons→ai1,mem_filter→aj1,mem_flatMap→aq5,mem_map→ae',mem_of_find?_eq_some→al6,mem_of_getElem?→d8,mem_of_mem_take→au4,mem_range→al4,mem_replicate→ax4,mem_singleton→i7,nil_append→d0,nodup_append→an',nodup_cons→ar3,not_any_eq_all_not→ay3,perm_append_comm_assoc→az',perm_append_comm→aw4,perm_cons→aG9,perm_middle→ar9,range_succ→au1,range→ak6,replicate→ai0,take_add_one→ay5,take_append_drop→am2,take_left'→ao9,take_left→ay2,take_length→ag',take_of_length_le→am4,take_zero→an7
open Nat renaming add_sub_cancel→aD9,blt→af',eq_of_beq_eq_true→ai3,eq_of_testBit_eq→au3,le_refl→t7,lt_or_ge→au9,lt_succ_iff_lt_or_eq→am1,lt_succ_self→ar8,min_eq_left→ar2,mul_one→am8,not_lt_zero→av2,or_lt_two_pow→ao5,pow_lt_pow_right→ao0,testBit_and→ar1,testBit_or→aq8,testBit_two_pow_sub_one→am7,testBit_two_pow→ap9,testBit_xor→ax0,zero_add→aj8,zero_le→g9,zero_testBit→au8
open Option renaming getD_some→al1,none→av7,some→ap7
open Go.Proofs.Tryz renaming prog→d4
namespace Go.Proofs.YtimbpjfhekcofaaGreat
theorem mw {p:Prop} (h:p:=by repeat (first|exact trivial|refine ⟨⟨_,rfl,aH⟩,?_⟩|refine ⟨⟨_,rfl,aR.of_eq (by (first|rw [lo (by omega)]|rw [al]))⟩,?_⟩)):p:=h
theorem N' {p:Prop} (h:p:=by repeat (first|exact trivial|refine ⟨⟨_,rfl,aH⟩,?_⟩|refine ⟨⟨_,rfl,aR.of_eq (by (rw [lo (by omega)];rfl))⟩,?_⟩)):p:=h
theorem El {p:Prop} (h:p:=by repeat (first|exact az.all _|(apply az.cons;· repeat (first|exact bm.here|apply bm.there)))):p:=h
theorem Ih {p:Prop} (h:p:=by show (σ (bt arg path)).bB.length-(j+1)<(σ (bt arg path)).bB.length-j;omega):p:=h
theorem Oa {p:Prop} (h:p:=by rw [List.take_left' (by simp),List.all_map];simp [Function.comp_def,ba,eZ]):p:=h
theorem Ii {p:Prop} (h:p:=by (first|rw [lo (by omega)]|(rw [List.map_append];rfl))):p:=h
theorem jV {p:Prop} (h:p:=by show l.length-(j+1)<l.length-j;omega):p:=h
theorem zp {p:Prop} (h:p:=by rw [List.length_replicate];omega):p:=h
theorem uj {p:Prop} (h:p:=by simpa using aw):p:=h
theorem bm.Ob {L:a6} {k:bM} {o:ds} {a b:a6} (h:L=a++(k,o)::b):bm L k o (a++b):=by
 subst h;exact bm.app a .here
theorem az.iH:∀ {K L:a6},L.Perm K→az L K []
  | [],L,h=>by
    have:L=[]:=h.eq_nil;subst this;exact .nil
  | (k,o)::K,L,h=>by
    obtain ⟨a,b,kC⟩:=av4 (h.symm.subset g8);refine .cons (bm.Ob kC) (az.iH ?_);rw [kC] at h;exact (aG9 _).1 (ar9.symm.trans h)
theorem Oc (s:ao) (L:a6):∀ (s0:a6),(∀ x∈s0,x.1 = .nil)→aT s (s0++L)=aT s L∧(Ok s L→Ok s (s0++L))
  | [],_=>⟨rfl,id⟩
  | (k,o)::s0,h=>by
    have ax:k = .nil:=h (k,o) g8;subst ax;obtain ⟨U,ad⟩:=Oc s L s0 fun x aa=>h x (f9 _ aa)
    exact ⟨U,fun I=>⟨trivial,ad I⟩⟩
theorem bs.frame {P:Program} {f:FuncId} {args:List ag} {K L R:a6} {aik D:eS→a6→Prop} (h:bs P f args K aik) (al:az L K R) (iq:∀ o aM,aik o aM→∃ s0 M,(∀ x∈s0,x.1 = .nil)∧(s0++(aM++R)).Perm M∧D o M):bs P f args L D:=
 fun s I=>(h.at I al).mono fun o an ⟨YH,e,vm,aM,Ij,Ik⟩=>by
  subst Ij;obtain ⟨s0,M,YI,aB,fI⟩:=iq o aM Ik;obtain ⟨kD,BD⟩:=Oc s (aM++R) s0 YI;obtain ⟨U,ad⟩:=(az.iH aB).perm (BD vm);rw [d7] at U ad;exact ⟨M,e.trans (kD.symm.trans U),ad,fI⟩
abbrev qS:=Option (Nat×Nat×List ag)
def gy:qS→List Int→ag
 | none,_ => .aF 0 [] .nil
 | some (g,cap,_),l=>dv g l.length cap
def gh:qS→List Int→a6
 | none,_=>[]
 | some (g,_,dJ),l=>[(.own g,.box 3 (l.map ba++dJ))]
def m':qS→List Int→Prop
 | none,l=>l=[]
 | some (_,cap,dJ),l=>l.length+dJ.length=cap
structure fS where
 sp:List Int
 b:Nat
 on:bM
 bD:qS
def iW (σ:dP) (e:fS):a6:=p3 e.b (σ e.sp) e.on (gy e.bD (σ e.sp).bB)++gh e.bD (σ e.sp).bB
def nU (es:List fS):SMap:=es.map fun e=>(e.sp,.ptr e.b 0)
def mx (σ:dP) (mb:Nat) (es:List fS):a6:=gg mb (nU es)::es.flatMap (iW σ)
structure na (n:Nat) (k:dk):Prop where
 fR:k.fR<2^64
 no:k.no<2^64
 eX:k.eX.length≤n
 bB:k.bB.length≤n
 num : -1000000000≤k.low∧k.low≤1000000000 ∧ -1000000001≤k.high∧k.high≤1000000000
structure p4 (n:Nat) (σ:dP) (es:List fS):Prop where
 four:∀ e∈es,e.sp.length=4
 nodup:(es.map fS.sp).Nodup
 rest:∀ q,q∉es.map fS.sp→σ q=jj
 bD:∀ e∈es,m' e.bD (σ e.sp).bB
 fN:∀ q,na n (σ q)
theorem YJ {es:List fS} {sp:List Int}:(nU es).find? (fun e=>e.1==sp)=none↔sp∉es.map fS.sp:=by
 unfold nU;rw [aq3];constructor
 ·intro h hm
  obtain ⟨e,he,rfl⟩:=ae'.1 hm;have:=h _ (ae'.2 ⟨e,he,rfl⟩);simp at this
 ·intro h x aa
  obtain ⟨e,he,rfl⟩:=ae'.1 aa;simp only [ao7];intro bI;exact h (ae'.2 ⟨e,he,bI⟩)
theorem YK {es:List fS} {sp:List Int} {x:List Int×ag} (h:(nU es).find? (fun e=>e.1==sp)=some x):∃ e∈es,e.sp=sp∧x=(e.sp,.ptr e.b 0):=by
 unfold nU at h;have U:=al6 h;have ad:=az1 h;obtain ⟨e,he,rfl⟩:=ae'.1 U;exact ⟨e,he,by simpa using ad,rfl⟩
theorem YL (n:Nat):na n jj:=⟨by decide,by decide,by simp [jj],by simp [jj],by simp [jj]⟩
theorem Od (w:bo) (mb n:Nat) (σ:dP) (es:List fS) (cO:p4 n σ es) (hN dF c8 du:Int) :
    bs d4 401 [ia w mb,iV [hN,dF,c8,du]] (mx σ mb es) (fun o K=>∃ pre e post,e.sp=[hN,dF,c8,du]∧o = .ret (.ptr e.b 0)∧K=mx σ mb (pre++e::post)∧p4 n σ (pre++e::post)):=by
  have h:=N4 (.aF 1 [] .nil) (.aF 0 [] .nil) (aR.nil gF) aH w mb (nU es) (fun e he=>by
    unfold nU at he
    obtain ⟨x,aa,rfl⟩:=ae'.1 he
    exact cO.four x aa) hN dF c8 du
  refine bs.frame h (R:=es.flatMap (iW σ)) (.cons .here .nil) ?_;rintro o aM (⟨x,aa,rfl,rfl⟩|⟨aZ,b,rfl,rfl⟩)
  · obtain ⟨e,he,U,rfl⟩:=YK aa
    obtain ⟨pre,post,rfl⟩:=av4 he;exact ⟨[],_,by simp,ap'.refl _,pre,e,post,U,rfl,rfl,cO⟩
  · have mP:=YJ.1 aZ
    have ug:=cO.rest _ mP;refine ⟨[(.nil,.row 3 1 0)],mx σ mb (es++[⟨[hN,dF,c8,du],b,.nil,none⟩]),by simp,?_,es,⟨[hN,dF,c8,du],b,.nil,none⟩,[],rfl,rfl,rfl,?_⟩
    · have bT:iW σ ⟨[hN,dF,c8,du],b,.nil,none⟩=[(.own b,.box 452 N3),(.nil,.row 3 1 0)]:=by
        unfold iW;rw [ug];rfl
      unfold mx;rw [at6,List.flatMap_singleton,bT];have bI:nU (es++[⟨[hN,dF,c8,du],b,.nil,none⟩])=nU es++[([hN,dF,c8,du],.ptr b 0)]:=by unfold nU;rw [t8];rfl
      rw [bI];refine (ap'.swap _ _ _).trans (ap'.cons _ ((ap'.swap _ _ _).trans ?_));exact aw4 (l₁:=[(.own b,.box 452 N3),(.nil,.row 3 1 0)]) (l₂:=es.flatMap (iW σ))
    · refine ⟨fun e he=>?_,?_,fun q bf=>cO.rest q (fun hm=>bf (by rw [t8];exact al3 _ hm)),fun e he=>?_,cO.fN⟩
      · rcases ab'.1 he with he|he
        · exact cO.four e he
        · rw [i7] at he;subst he;rfl
      · rw [t8,an']
        refine ⟨cO.nodup,by simp,fun a bp b aq=>?_⟩;rw [List.map_singleton,i7] at aq;subst aq;intro e;subst e;exact mP bp
      · rcases ab'.1 he with he|he
        · exact cO.bD e he
        · rw [i7] at he;subst he
          show (σ _).bB=[];rw [ug];rfl
def vH (g:Nat) (l:List Int) (dJ:List ag):a6:=[(.own g,.box 3 (l.map ba++dJ))]
theorem YM (g cap:Nat) (l:List Int) (dJ:List ag) (n:Int) (aE:l.length<bK):bs d4 99 [dv g l.length cap,.int .i64 n] (vH g l dJ) (fun o K=>o = .ret (.int .i64 (match l.findIdx? (· == n) with
  | some i=>(i:Int)
  | none => -1))∧K=vH g l dJ):=by
 have aq:=bx;refine bs.bj ah Tryz.func99 C C fun s I=>?_
 unfold vH at I ⊢;refine cX ?_;refine ab.oy ah C C C C C C C ?_;refine fc ?_;refine af.cc [0,1,7] C I (σ:=Nat) (fun j=>[(8,.int .i64 (j:Int))]) (fun _=>vH g l dJ) (fun j=>j≤l.length∧∀ i,i<j→l[i]? ≠ some n) (fun j=>l.length-j) 0 ⟨g9 _,fun i aQ=>absurd aQ (av2 _)⟩ (cy C) (az.all _) ?_;rintro j ⟨aK,aG⟩ I;unfold vH at I ⊢;refine cl ?_;refine af.cond C (fun au=>?_) (fun aV=>?_);rotate_left
 ·have aV:j=l.length:=by simp at aV;omega
  have aa:l.findIdx? (· == n)=none:=by
   rw [am6];intro z bO;obtain ⟨i,aQ⟩:=List.getElem?_of_mem bO;have U:=sW aQ;have ad:=aG i ak;simp only [beq_eq_false_iff_ne];intro e;subst e;exact ad aQ
  rw [aa];refine fb ?_;exact Fin.bz I C aH (az.all _) ⟨rfl,rfl⟩
 have au:j<l.length:=by simpa using au
 obtain ⟨y,ar⟩:∃ y,l[j]? = some y:=⟨_,f8 au⟩;have cf:(l.map ba++dJ)[j]? = some (.int .i64 y):=by
  rw [ak3 (by simpa using au)];simp [ar,ba]
 refine bd ?_;refine ab.lq ah j C C C C C C C C C C au ?_;refine ab.zm ah I C C C C C C aO C (by show (l.map ba++dJ)[j*1]? = _;rw [am8];exact cf) ?_;refine jQ ?_;refine af.cond C (fun av=>?_) (fun av=>?_)
 ·have av:n=y:=by simpa using av
  subst av;have aa:l.findIdx? (· == n)=some j:=by
   rw [ak8];refine ⟨au,by simpa using (ac'.1 ar).2,fun i aQ=>?_⟩;have:=aG i aQ;rw [f8 ak] at this;simpa using this
  rw [aa];refine bd ?_;exact Fin.bz I C aH (az.all _) ⟨rfl,rfl⟩
 ·have av:n≠y:=by simpa using av
  refine bd ?_;refine bA.mk (j+1) I ⟨au,fun i aQ=>?_⟩ ct (az.all _) jV;rcases am1.1 aQ with aQ|rfl
  ·exact aG i aQ
  ·rw [ar];intro e;cases e;exact av C
theorem Oe (g cap:Nat) (l:List Int) (dJ:List ag) (n:Int) (aE:l.length<bK):bs d4 40 [dv g l.length cap,.int .i64 n] (vH g l dJ) (fun o K=>o = .ret (.bool (l.contains n))∧K=vH g l dJ):=by
 rw [← Nh];have h:=YM g cap l dJ n aE;refine bs.bj ah Tryz.func40 C C fun s I=>?_
 refine cX ?_;refine ab.bL rfl rfl rfl rfl rfl h I (az.all _) ?_ (fun _ _ ⟨h,_⟩ _=>by cases h);rintro _ _ ⟨⟨⟩,rfl⟩ I;rw [d7] at I ⊢;refine eB ?_;exact Fin.bz I C aH (az.all _) ⟨rfl,rfl⟩
theorem YN (bD:qS) (l:List Int) (n:Int) (al:m' bD l) (aE:l.length<bK):bs d4 40 [gy bD l,.int .i64 n] (gh bD l) (fun o K=>o = .ret (.bool (l.contains n))∧K=gh bD l):=by
 cases bD with
 | none=>
  have:l=[]:=al;subst this;have h:=xD [] n dh;unfold br at h;have h:=aY.args (show b5 [.aF 0 [] .nil,.int .i64 n] [.aF 1 ([].map ba) .a7,.int .i64 n] from .cons aR.empty (.one aH)) h;exact fun s _=>hX.mono (h s) (fun o an ⟨U,ad⟩=>⟨[],ad,trivial,U,rfl⟩)
 | some x=>
  obtain ⟨g,cap,dJ⟩:=x;exact Oe g cap l dJ n aE
def zq (σ:dP) (mb:Nat) (pre:List fS) (e:fS) (post:List fS):a6:=gg mb (nU (pre++e::post))::(pre.flatMap (iW σ)++post.flatMap (iW σ))
theorem Em (σ:dP) (mb:Nat) (pre:List fS) (e:fS) (post:List fS):(mx σ mb (pre++e::post)).Perm (iW σ e++zq σ mb pre e post):=by
 unfold mx zq;rw [at6,am0];refine (ap'.cons _ ?_).trans ar9.symm;exact az' _ _ _
theorem YO {σ σ':dP} {mb:Nat} {pre:List fS} {e e':fS} {post:List fS} (ht:e'.sp=e.sp) (aq:e'.b=e.b) (al:∀ x∈pre++post,σ' x.sp=σ x.sp):(iW σ' e'++zq σ mb pre e post).Perm (mx σ' mb (pre++e'::post)):=by
 have U:nU (pre++e'::post)=nU (pre++e::post):=by unfold nU;simp [ht,aq]
 have ad:∀ l:List fS,(∀ x∈l,σ' x.sp=σ x.sp)→l.flatMap (iW σ')=l.flatMap (iW σ):=fun l aE=>by
  induction l with
  | nil=>rfl
  | cons x r a8=>
   rw [am0,am0,a8 (fun y ar=>aE y (f9 _ ar))];unfold iW;rw [aE x g8]
 refine ap'.trans ?_ (Em σ' mb pre e' post).symm;unfold zq;rw [U,ad pre (fun x aa=>al x (al3 _ aa)),ad post (fun x aa=>al x (ap1 _ aa))]
theorem p4.apart {n:Nat} {σ:dP} {pre:List fS} {e:fS} {post:List fS} (h:p4 n σ (pre++e::post)):∀ x∈pre++post,x.sp≠e.sp:=by
 have av:=h.nodup;rw [t8,ai2,an'] at av;obtain ⟨U,ad,aj⟩:=av;intro x aa bI;rcases ab'.1 aa with aa|aa
 ·exact aj x.sp (ae'.2 ⟨x,aa,rfl⟩) e.sp g8 bI
 ·rw [ar3] at ad
  exact ad.1 (ae'.2 ⟨x,aa,bI⟩)
theorem p4.h3 {n m:Nat} {σ:dP} {pre:List fS} {e e':fS} {post:List fS} (h:p4 n σ (pre++e::post)) (ht:e'.sp=e.sp) (En:n≤m) {k:dk} (ax:na m k) (dt:m' e'.bD k.bB):p4 m (σ.h3 e.sp k) (pre++e'::post):=by
 have bp:=h.apart;have hm:(pre++e'::post).map fS.sp=(pre++e::post).map fS.sp:=by simp [ht]
 refine ⟨fun x aa=>?_,by rw [hm];exact h.nodup,fun q bf=>?_,fun x aa=>?_,fun q=>?_⟩
 ·rcases ab'.1 aa with aa|aa
  ·exact h.four x (al3 _ aa)
  ·rcases ai1.1 aa with rfl|aa
   ·rw [ht];exact h.four e bc
   ·exact h.four x (by simp [aa])
 ·rw [hm] at bf
  unfold dP.h3;rw [f4 (fun bI=>bf (by rw [bI];simp))];exact h.rest q bf
 ·by_cases Of:x=e'
  ·subst Of
   unfold dP.h3;rw [f7 ht];exact dt
  ·have aa:x∈pre++post:=by
    rcases ab'.1 aa with aa|aa
    ·exact al3 _ aa
    ·rcases ai1.1 aa with rfl|aa
     ·exact absurd C Of
     ·exact ap1 _ aa
   unfold dP.h3;rw [f4 (bp x aa)];exact h.bD x (by rcases ab'.1 aa with aa|aa<;>simp [aa])
 ·unfold dP.h3
  split
  ·exact ax
  ·obtain ⟨fg,a2,a3,a4,a5⟩:=h.fN q
   exact ⟨fg,a2,by omega,by omega,a5⟩
theorem bm.Il {L R:a6} {k:bM} {o:ds} (h:bm L k o R):L.Perm ((k,o)::R):=by
 induction h with
 | here=>exact .refl _
 | there _ a8=>exact (ap'.cons _ a8).trans (ap'.swap _ _ _)
theorem az.Il {L K R:a6} (h:az L K R):L.Perm (K++R):=by
 induction h with
 | nil=>exact .refl _
 | cons h t a8=>exact h.Il.trans (ap'.cons _ a8)
theorem az.YP {L A B:a6} (h:az L A []) (p:A.Perm B):az L B []:=az.iH ((by have:=h.Il;rw [d7] at this;exact this:L.Perm A).trans p)
theorem YQ (arg:Int) (path:List Int) (j:Nat) (bD:Int) (aK:path[j]? = some bD) (ad:j<2) :
  aY d4 402 [iV (bt arg (path.take j)),.int .i64 bD] (iV (bt arg (path.take (j+1)))):=by
 match path,j,aK,ad with
 | a::r,0,aK,_=>
  have:a=bD:=by simpa using aK
  subst this;exact N5 arg 0 0 a
 | a::b::r,1,aK,_=>
  have:b=bD:=by simpa using aK
  subst this;exact N6 arg a 0 b
theorem YR {σ:dP} {e e':fS} {k:dk} (h:e'.sp=e.sp):iW (σ.h3 e.sp k) e'=p3 e'.b k e'.on (gy e'.bD k.bB)++gh e'.bD k.bB:=by
 unfold iW dP.h3;rw [f7 h]
theorem YS (bD:qS) (l:List Int):eZ (gy bD l)=true:=by
 cases bD with
 | none=>rfl
 | some x=>rfl
theorem YT (arg:Int):bt arg []=[arg,0,0,0]:=rfl
def k2 (bS:Nat) (sp:List Int) (σ:dP) (mb:Nat) (pre:List fS) (e:fS) (post:List fS) (kb:Nat) (k:dk) (on:bM) (bD:qS):a6:=
 (.own bS,.box 439 (sp.map (ag.int .i64)))::(.own kb,.box 452 (k1 k (.aF 1 (k.eX.map ba) on) (gy bD k.bB)))::(on,.row 3 1 k.eX.length)::(gh bD k.bB++zq σ mb pre e post)
theorem Og (bS:Nat) (sp:List Int) (σ:dP) (mb:Nat) (pre:List fS) (e:fS) (post:List fS):(mx σ mb (pre++e::post)++[((bM.own bS,ds.box 439 (sp.map (ag.int .i64))):bM×ds)]).Perm (k2 bS sp σ mb pre e post e.b (σ e.sp) e.on e.bD):=
 (aw4.trans (ap'.cons _ (Em σ mb pre e post)))
theorem Eo {bS:Nat} {sp:List Int} {σ:dP} {mb n:Nat} {pre:List fS} {e:fS} {post:List fS} (cO:p4 n σ (pre++e::post)) (k:dk) (on:bM) (bD:qS):(k2 bS sp σ mb pre e post e.b k on bD).Perm ((.own bS,.box 439 (sp.map (ag.int .i64)))::mx (σ.h3 e.sp k) mb (pre++⟨e.sp,e.b,on,bD⟩::post)):=by
 refine ap'.cons _ ?_;have h:=YO (σ:=σ) (σ':=σ.h3 e.sp k) (mb:=mb) (pre:=pre) (e:=e) (e':=⟨e.sp,e.b,on,bD⟩) (post:=post) C C (fun x aa=>by unfold dP.h3;rw [f4 (cO.apart x aa)]);rw [YR (e:=e) (e':=⟨e.sp,e.b,on,bD⟩) C] at h;exact h
theorem na.mono {n m:Nat} (h:n≤m) {k:dk} (ax:na n k):na m k:=⟨ax.fR,ax.no,by have:=ax.eX;omega,by have:=ax.bB;omega,ax.num⟩
theorem YU (s:Int) (l:List Int):(nR s l).length≤l.length+1:=by
 unfold nR;split
 ·omega
 ·rw [ar5];simp
theorem az.YV {L A B:a6} (h:L.Perm (A++B)):∃ R,az L A R:=by
 induction A generalizing L with
 | nil=>exact ⟨L,.nil⟩
 | cons x A a8=>
  obtain ⟨k,o⟩:=x;obtain ⟨a,b,kC⟩:=av4 (h.symm.subset (al3 _ g8));rw [kC] at h;have ad:(a++b).Perm (A++B):=(aG9 _).1 (ar9.symm.trans h);obtain ⟨R,e4⟩:=a8 ad;exact ⟨R,.cons (bm.Ob kC) e4⟩
theorem na.need {n:Nat} {k:dk} (h:na n k) (neg:Bool):na n (k.need neg):=⟨h.fR,h.no,h.eX,h.bB,h.num⟩
theorem na.slot {n:Nat} {k:dk} (h:na n k) (s:Int):na (n+1) (k.slot s):=⟨h.fR,h.no,by have:=h.eX;show k.eX.length≤_;omega,by have:=h.bB;have:=YU s k.bB;show (nR s k.bB).length≤_;omega,h.num⟩
theorem na.ask {n:Nat} {k:dk} (h:na n k) {w:bo} (hw:w.ps.length≤60) {x:bG} (aa:ui w x):na (n+1) (k.ask x):=by
 have iD:=By.of aa.node aa.leaf;have xN:=aa.num;obtain ⟨U,ad,aj,bk,bF⟩:=h;unfold dk.ask;split
 ·rename_i cG
  have aw:=iD.cls cG;have aB:2^x.1.cls.toNat<2^64:=ao0 ak ak;split
  ·exact ⟨U,ao5 ad aB,by simp only;omega,by simp only;omega,bF⟩
  ·exact ⟨ao5 U aB,ad,by simp only;omega,by simp only;omega,bF⟩
 ·split
  ·split
   ·exact ⟨U,ad,by simp only;omega,by simp only;omega,by simp only;omega⟩
   ·exact ⟨U,ad,by simp only;omega,by simp only;omega,by simp only;omega⟩
  ·split
   ·exact ⟨U,ad,by simp only [f0,ad'];omega,by simp only;omega,bF⟩
   ·exact ⟨U,ad,by simp only;omega,by simp only;omega,by simp only;omega⟩
theorem Oh (k:dk) (x:bG):(k.ask x).bB=k.bB:=by
 unfold dk.ask;split
 ·split<;>rfl
 ·split
  ·split<;>rfl
  ·split<;>rfl
theorem YW (w:bo) (hw:w.ps.length≤60) (mb n:Nat) (σ:dP) (es:List fS) (cO:p4 n σ es) (av:n+3<bK) (x:bG) (aa:ui w x) :
  bs d4 384 [ia w mb,et x] (mx σ mb es) (fun o K=>o = .ret (.bW [])∧∃ dE,K=mx (addLit σ x) mb dE∧p4 (n+3) (addLit σ x) dE):=by
 have aq:=bx;have iD:=By.of aa.node aa.leaf;have Im:=Od w mb n σ es cO x.1.arg 0 0 0;obtain ⟨f,neg⟩:=x;simp only at iD Im;have h8:=iD.path;refine bs.bj ah Tryz.func384 C C fun s I=>?_
 unfold ia at Im;unfold et qQ ae.cells;unfold ia
 repeat (first|(refine Mz I ?_;clear I;intro I)|refine ab.c3 ah I rfl rfl rfl rfl rfl rfl rfl (fun cu I=>?_))
 refine ab.bL rfl rfl rfl rfl rfl Im I (az.all _).there ?_ (fun _ _ ⟨_,_,_,_,h,_⟩ _=>by cases h);rintro _ _ ⟨pre,e,post,ht,⟨⟩,rfl,cO⟩ I;refine ab.run ah C (ab.nil ?_);refine cg ?_;refine af.m4 I (k2 cu (bt f.arg []) σ mb pre e post e.b (σ e.sp) e.on e.bD) (az.iH (Og cu (bt f.arg []) σ mb pre e post)) (fun ax=>?_);revert ax
 repeat clear I
 intro I;refine af.WD (σ:=Unit) (fun _=>[(0,ia w mb),(3,.bl (qQ (f,neg)) 0),(4,.ptr cu 0),(5,.ptr e.b 0) ]) (fun _=>k2 cu (bt f.arg []) σ mb pre e post e.b ((σ e.sp).need neg) e.on e.bD) (fun _=>True) ?_ ?_
 ·unfold k2 k1 dk.need
  unfold k2 k1 at I;cases eK:(σ e.sp).gx<;>rw [eK] at I<;>cases neg
  all_goals
   refine c9 I ?_;intro I;exact vn.mk () I trivial (cy C) El
 rintro _-I;refine gp ?_;refine af.cc [0,3,4,29,30] C I (σ:=Nat×List fS×fS×List fS) (fun q=>[(31,.int .i64 (q.1:Int)),(5,.ptr q.2.2.1.b 0)]) (fun q=>(.own cu,.box 439 ((bt f.arg (f.path.take q.1)).map (ag.int .i64)))::mx (gW neg f.arg f.path q.1 σ) mb (q.2.1++q.2.2.1::q.2.2.2))
  (fun q=>q.1≤f.path.length∧q.2.2.1.sp=bt f.arg (f.path.take q.1)∧p4 (n+q.1) (gW neg f.arg f.path q.1 σ) (q.2.1++q.2.2.1::q.2.2.2)) (fun q=>f.path.length-q.1) (0,pre,e,post) ⟨g9 _,ht,?_⟩ (cy C) (az.iH ?_) ?_
 ·have:=cO.h3 (e':=e) C (t7 _) ((cO.fN e.sp).need neg) (cO.bD e bc)
  rw [ht] at this;exact this
 ·have bn:gW neg f.arg f.path 0 σ=σ.h3 e.sp ((σ e.sp).need neg):=by rw [gW,YT,ht]
  show ap' _ (((bM.own cu,ds.box 439 ((bt f.arg []).map (ag.int .i64))):bM×ds)::mx (gW neg f.arg f.path 0 σ) mb (pre++e::post));rw [bn];exact Eo (mb:=mb) (bS:=cu) (sp:=bt f.arg []) cO ((σ e.sp).need neg) e.on e.bD
 rintro ⟨j,pre,e,post⟩ ⟨aK,ht,cO⟩ I;simp only at aK ht cO I ⊢;generalize cK:gW neg f.arg f.path j σ=S at cO I ⊢;have ax:=cO.fN e.sp;refine cl ?_;refine af.cond C (fun au=>?_) (fun aV=>?_);rotate_left
 ·have aV:j=f.path.length:=by simp at aV;omega
  subst aV;rw [ag'] at ht I ⊢;have aC:addLit σ (f,neg)=S.h3 e.sp ((S e.sp).ask (f,neg)):=by
   unfold addLit;simp only;rw [cK,ht]
  have Oi:=YD w hw e.b (S e.sp) ⟨ax.fR,ax.no,by have:=ax.eX;omega⟩ ax.num e.on (gy e.bD (S e.sp).bB) (YS _ _) (f,neg) aa;refine af.m4 I (k2 cu (bt f.arg f.path) S mb pre e post e.b (S e.sp) e.on e.bD) (az.iH (ap'.cons _ (Em S mb pre e post))) (fun ax=>?_);revert ax
  repeat clear I
  intro I;unfold et qQ ae.cells at Oi;unfold k2 at I ⊢;refine bd ?_;refine ab.bL rfl rfl rfl rfl rfl Oi I (.cons (.there .here) (.cons (.there .here) .nil)) ?_ (fun _ _ ⟨h,_⟩ _=>by cases h);rintro _ _ ⟨⟨⟩,xM,rfl⟩ I;refine jQ ?_;have pL:=Eo (mb:=mb) (bS:=cu) (sp:=bt f.arg f.path) cO ((S e.sp).ask (f,neg)) xM e.bD;rw [← aC] at pL;unfold k2 at pL;rw [Oh] at pL;have BF:(p3 e.b ((S e.sp).ask (f,neg)) xM (gy e.bD (S e.sp).bB)++((.own cu,.box 439 ((bt f.arg f.path).map (ag.int .i64)))::(gh e.bD (S e.sp).bB++zq S mb pre e post))).Perm (mx (addLit σ (f,neg)) mb (pre++⟨e.sp,e.b,xM,e.bD⟩::post)++[(.own cu,.box 439 ((bt f.arg f.path).map (ag.int .i64)))]):=by
   refine ap'.trans ?_ ((pL.trans ?_))
   ·exact ar9 (l₁:=p3 e.b ((S e.sp).ask (f,neg)) xM (gy e.bD (S e.sp).bB))
   ·exact aw4 (l₁:=[((bM.own cu,ds.box 439 ((bt f.arg f.path).map (ag.int .i64))):bM×ds)])
  obtain ⟨c',YX⟩:=az.YV BF;refine Fin.bz I C aH YX ⟨rfl,_,rfl,?_⟩;rw [aC];refine cO.h3 (e':=⟨e.sp,e.b,xM,e.bD⟩) C ak ((ax.ask hw aa).mono ak) ?_;rw [Oh];exact cO.bD e bc
 have au:j<f.path.length:=by simpa using au
 obtain ⟨bD,ar,cf⟩:=b' (f:=fun i=>ag.int .i64 i) au;have m0:f.path.getD j 0=bD:=by rw [d9,ar];rfl
 have xO:=cO.bD e bc;have qT:=YQ f.arg f.path j bD ar ak;have pT:=ax.bB;refine af.m4 I (k2 cu (bt f.arg (f.path.take j)) S mb pre e post e.b (S e.sp) e.on e.bD) (az.iH (ap'.cons _ (Em S mb pre e post))) (fun ax=>?_);revert ax
 repeat clear I
 intro I;unfold k2 k1 at I ⊢;refine c9 I ?_;intro I;refine ab.bL rfl rfl rfl rfl rfl (YN e.bD (S e.sp).bB bD xO ak) I (az.kA (az.all _)).there.there.there ?_ (fun _ _ ⟨h,_⟩ _=>by cases h);rintro _ _ ⟨⟨⟩,rfl⟩ I;refine ab.m4 I (k2 cu (bt f.arg (f.path.take j)) S mb pre e post e.b (S e.sp) e.on e.bD) (az.iH ((ar9 (l₁:=gh e.bD (S e.sp).bB)).trans (.cons _ ((ar9 (l₁:=gh e.bD (S e.sp).bB)).trans (.cons _ ((ar9 (l₁:=gh e.bD (S e.sp).bB)).trans (.refl _))))))) (fun ax=>?_);revert ax
 repeat clear I
 intro I;refine ab.run ah C (ab.nil ?_);refine cg ?_;refine af.Mw (σ:=qS) (fun _=>[(0,ia w mb),(3,.bl (qQ (f,neg)) 0),(4,.ptr cu 0),(5,.ptr e.b 0),(7,.int .i64 bD),(29,.aF 1 (f.path.map fun i => .int .i64 i) .a7),(30,.int .i64 ((f.path.map fun i=>ag.int .i64 i).length:Int)),(31,.int .i64 (j:Int))]) (fun xP=>k2 cu (bt f.arg (f.path.take j)) S mb pre e post e.b ((S e.sp).slot bD) e.on xP) (fun xP=>m' xP (nR bD (S e.sp).bB)) ?_ ?_
 ·cases aw:(S e.sp).bB.contains bD with
  | true=>
   have aQ:nR bD (S e.sp).bB=(S e.sp).bB:=by unfold nR;rw [f7 aw]
   unfold k2 dk.slot at *;rw [aQ];refine jR ?_;exact vn.mk e.bD I xO (cy C) (by simp only [aQ];exact az.all _)
  | false=>
   have aQ:nR bD (S e.sp).bB=((S e.sp).bB++[bD]).mergeSort (fun a b=>decide (a≤b)):=by unfold nR;rw [f4 (by rw [aw];simp)]
   have uk:(nR bD (S e.sp).bB).length=(S e.sp).bB.length+1:=by rw [aQ,ar5];simp
   rcases dt:e.bD with _|⟨g,cap,dJ⟩
   ·have bn:(S e.sp).bB=[]:=by rw [dt] at xO;exact xO
    rw [bn] at aQ uk;unfold k2 k1 dk.slot at *;rw [dt] at I;rw [bn] at I ⊢;refine c9 I ?_;intro I;refine ab.y' ah I C C C C C C C dB C C C C C C C (by show 1*8≤_;omega) (fun aW b0 cs' U ad aj I=>?_)
    obtain ⟨dJ,rfl⟩:∃ dJ,cs'=[bD].map ba++dJ:=⟨cs'.drop 1,by
     have:=am2 1 cs'
     rw [aj] at this
     exact this.symm⟩
    refine c9 I ?_;intro I;refine ab.bL rfl rfl rfl rfl rfl (Ek aW b0 [bD] dJ bc) I (.cons aO .nil) ?_ (fun _ _ ⟨h,_⟩ _=>by cases h);rintro _ _ ⟨⟨⟩,rfl⟩ I;refine jQ ?_;exact vn.mk (some (aW,b0,dJ)) I (by show (nR bD []).length+dJ.length=b0;rw [uk];simp at U ⊢;omega) (cy C) (by simp only [gy,gh,uk];rw [aQ];exact El)
   ·rw [dt] at xO
    have xO:(S e.sp).bB.length+dJ.length=cap:=xO;unfold k2 k1 dk.slot at *;rw [dt] at I;simp only [gh,List.cons_append,d0] at I ⊢;refine c9 I ?_;intro I;refine ab.za ah I C C C C C C C dB C C C C aO ez ak Oa C C C (by show _*8≤_;omega) ak (fun aW b0 cs' U ad aj I=>?_)
    obtain ⟨rU,rfl⟩:∃ rU,cs'=((S e.sp).bB++[bD]).map ba++rU:=⟨cs'.drop ((S e.sp).bB.length+1),by
     have:=am2 ((S e.sp).bB.length+1) cs'
     rw [ao9 bc] at aj
     rw [aj] at this
     rw [t8]
     exact this.symm⟩
    refine c9 I ?_;intro I;have my:=Ek aW b0 ((S e.sp).bB++[bD]) rU ez;rw [f0,ad'] at my;refine ab.bL rfl rfl rfl rfl rfl my I (.cons aO .nil) ?_ (fun _ _ ⟨h,_⟩ _=>by cases h);rintro _ _ ⟨⟨⟩,rfl⟩ I;refine jQ ?_;exact vn.mk (some (aW,b0,rU)) I (by show (nR bD _).length+rU.length=b0;rw [uk];simp at U ⊢;omega) (cy C) (by simp only [gy,gh,uk];rw [aQ];exact El)
 rintro xP xQ I;have jF:=cO.h3 (e':=⟨e.sp,e.b,e.on,xP⟩) C (Nat.le_succ (n+j)) (ax.slot bD) xQ;have Io:=Od w mb _ _ _ jF f.arg ((f.path.take (j+1)).length:Int) ((f.path.take (j+1)).getD 0 0) ((f.path.take (j+1)).getD 1 0);generalize Oj:S.h3 e.sp ((S e.sp).slot bD)=s3 at Io jF;unfold ia at Io;unfold k2 k1 at I ⊢;unfold ia;unfold iV at qT;refine c9 I ?_;intro I;refine ab.m4 I (((bM.own cu,ds.box 439 ((bt f.arg (f.path.take (j+1))).map (ag.int .i64))):bM×ds)::mx s3 mb (pre++⟨e.sp,e.b,e.on,xP⟩::post)) (az.iH (by rw [← Oj];exact Eo (mb:=mb) (bS:=cu) (sp:=bt f.arg (f.path.take (j+1))) cO ((S e.sp).slot bD) e.on xP)) (fun ax=>?_);revert ax
 repeat clear I
 intro I;refine ab.bL rfl rfl rfl rfl rfl Io I (az.all _).there ?_ (fun _ _ ⟨_,_,_,_,h,_⟩ _=>by cases h);rintro _ _ ⟨zr,bI,zs,Ol,⟨⟩,rfl,rV⟩ I;refine ab.run ah C (ab.nil ?_);refine cg ?_;refine af.m4 I (k2 cu (bt f.arg (f.path.take (j+1))) s3 mb zr bI zs bI.b (s3 bI.sp) bI.on bI.bD) (az.iH (Og cu (bt f.arg (f.path.take (j+1))) s3 mb zr bI zs)) (fun ax=>?_);revert ax
 repeat clear I
 intro I;have xi:gW neg f.arg f.path (j+1) σ=s3.h3 bI.sp ((s3 bI.sp).need neg):=by
  rw [gW]
  try simp only
  rw [cK,m0,← ht,Oj];have:bt f.arg (f.path.take (j+1))=bI.sp:=Ol.symm;rw [this]
 have BF:(k2 cu (bt f.arg (f.path.take (j+1))) s3 mb zr bI zs bI.b ((s3 bI.sp).need neg) bI.on bI.bD).Perm (((bM.own cu,ds.box 439 ((bt f.arg (f.path.take (j+1))).map (ag.int .i64))):bM×ds)::mx (gW neg f.arg f.path (j+1) σ) mb (zr++bI::zs)):=by
  rw [xi];exact Eo (mb:=mb) (bS:=cu) (sp:=bt f.arg (f.path.take (j+1))) rV ((s3 bI.sp).need neg) bI.on bI.bD
 have YY:p4 (n+(j+1)) (gW neg f.arg f.path (j+1) σ) (zr++bI::zs):=by
  have:=rV.h3 (e':=bI) C (t7 _) ((rV.fN bI.sp).need neg) (rV.bD bI bc);rw [← xi] at this;exact this
 unfold k2 k1 dk.need at BF;unfold k2 k1 at I ⊢;cases eK:(s3 bI.sp).gx<;>rw [eK] at I BF<;>cases neg
 all_goals
  refine hC I ?_;intro I;exact bA.mk (j+1,zr,bI,zs) I ⟨au,Ol,YY⟩ ct (az.YP El BF) (by show f.path.length-(j+1)<f.path.length-j;omega)
section
variable {P:Program} {Γ:cz} {N:Nat} {env:Env} {s:ao} {ops:Array Oper} {rest:List Oper} {Q:b8→Env→ao→Prop} {L R:a6}
theorem dx.Ep {B:fP} {ro:Option Nat} {a:Act} {w:World} {p:bV} (h:dx N B ro env s a w p) {kb b n cap i:Nat} {T T':TypeId} {cells cs:List ag} (cN:kb≠b) (jG:s kb=some (.box T cells)) (aw:cells[i]? = some (dv b n cap)) (al:s b=some (.box T' cs)) (cm:cs.length=cap) (av:n≤cap) (hm:n≤9223372036854775807)
  (j2:(cs.take n).all eZ=true):∃ bg,dx N B ro env ((s.del b).set kb (.box T (cells.set i (.aF 1 (cs.take n) .a7)))) a w bg∧c2 w p w bg∧Kept s ((s.del b).set kb (.box T (cells.set i (.aF 1 (cs.take n) .a7)))) w p w bg:=by
 obtain ⟨vs,U,ad,aj⟩:=h.wf.obj _ _ al;have au:b<w.heap.size:=(t6.1 U).1;have hle:c2 w p w (p.dT b True):=⟨rfl,rfl,rfl,t7 _,fun _ _ h => .inl h,fun _ _ _=>rfl,fun _ _ h=>h⟩;have dt:∀ v,Rel w p v (dv b n cap)→Rel w (p.dT b True) v (.aF 1 (cs.take n) .a7):=by
  intro v aC;cases aC;have iG:=ad.take n;have sQ:=oQ iG j2;have gd:=qL sQ;refine .aF b 0 n cap 1 (vs.toList.take n) (cs.take n) .a7 bc yE ?_ (iG.mono hle) (fun v aD=>by rw [xm (sQ v aD)];rfl) hm av (fun h=>by cases h) (fun b h=>by cases h);rw [gd];intro i v aQ;refine ⟨.inr ⟨rfl,trivial⟩,?_⟩;rw [aj8,jN U];rw [al'] at aQ;split at aQ
  ·simpa using aQ
  ·cases aQ
 have ax:Kept s ((s.del b).set kb (.box T (cells.set i (.aF 1 (cs.take n) .a7)))) w p w (p.dT b True):=⟨fun _ _ _=>rfl,fun aW aq eO=>by
  have bk:aW≠kb:=fun e=>by subst e;rw [jG] at eO;cases eO
  rw [ao.eQ _ _ bk]
  by_cases e:aW=b
  ·subst e;exact ao.ob _ _
  ·rw [ao.nE _ e];exact eO,fun aW o aq eO aB=>by
   rcases aB with aB|⟨rfl,_⟩
   ·exact aB
   ·rw [al] at eO;cases eO⟩
 have ca:dn w (p.dT b True) ((s.del b).set kb (.box T (cells.set i (.aF 1 (cs.take n) .a7)))):=by
  refine ⟨fun aW o aq=>?_,fun aW o aB=>by rcases aB with aB|⟨rfl,_⟩;exact h.wf.lt _ _ aB;exact au⟩;have fo:aW≠b→∀ o,p.dT b True aW o↔p aW o:=fun e o=>⟨fun aB=>by rcases aB with aB|⟨e',_⟩;exact aB;exact absurd e' e,.inl⟩
  by_cases js:aW=kb
  ·subst js
   rw [ao.fH] at aq;cases aq;obtain ⟨us,g1,g2,g3⟩:=h.wf.obj _ _ jG;obtain ⟨v,nF,lK⟩:=g2.get aw;have bF:=(g2.mono hle).set i (dt v lK);have fx:us.toList.set i v=us.toList:=by
    apply ar0;intro k;rw [List.getElem?_set];split
    ·rename_i e;subst e
     split
     ·rw [nF]
     ·rename_i au;rw [am9 ak]
    ·rfl
   rw [fx] at bF;exact ⟨us,g1,bF,fun o aB=>g3 o ((fo cN o).1 aB)⟩
  rw [ao.eQ _ _ js] at aq;by_cases e:aW=b
  ·subst e;rw [ao.ob] at aq;cases aq
  ·rw [ao.nE _ e] at aq
   have ai:=h.wf.obj aW o aq;have fo:=fo e;cases o with
   | box t c=>obtain ⟨us,g1,g2,g3⟩:=ai;exact ⟨us,g1,g2.mono hle,fun o aB=>g3 o ((fo o).1 aB)⟩
   | row t sz n=>obtain ⟨cur,g1,g2,g3,g4⟩:=ai;exact ⟨cur,g1,g2,g3,fun o=>(fo o).trans (g4 o)⟩
   | map es=>obtain ⟨cr,c,g1,g2,g3⟩:=ai;exact ⟨cr,c,g1,⟨g2.1.mono hle,g2.2.mono hle⟩,g3⟩
   | hz es it l c=>exact ai.qt hle C C
   | tick m=>exact ai
   | loop r env=>exact ⟨ai.1,fun t v h=>(ai.2 t v h).mono hle⟩
 exact ⟨_,h.step hle ax ca,hle,ax⟩
theorem Ip {kb b:Nat} {o o' o'':ds} {c':a6} (I:Ok s L) (U:bm L (.own kb) o R) (ad:bm R (.own b) o' c'):kb≠b∧aT s L kb=some o∧aT s L b=some o'∧((aT s L).del b).set kb o''=aT s ((.own kb,o'')::c')∧Ok s ((.own kb,o'')::c'):=by
 obtain ⟨bT,ck⟩:=U.perm I;have Om:gone (aT s R) (.own kb)∧Ok s R:=ck;obtain ⟨bI,cL⟩:=ad.perm Om.2;have On:gone (aT s c') (.own b)∧Ok s c':=cL;have eh:aT s L=((aT s c').set b o').set kb o:=by rw [bT];show mn (aT s R) (.own kb) o=_;rw [bI];rfl
 have jG:aT s R kb=none:=Om.1;rw [bI] at jG;have Er:((aT s c').set b o') kb=none:=jG;have cN:kb≠b:=fun e=>by subst e;rw [ao.fH] at Er;cases Er
 rw [ao.eQ _ _ cN] at Er;have aq:aT s c' b=none:=On.1;refine ⟨cN,U.get I,?_,?_,Er,On.2⟩
 ·rw [eh,ao.eQ _ _ (fun e=>cN e.symm),ao.fH]
 ·funext x
  show ((aT s L).del b).set kb o'' x=((aT s c').set kb o'') x;by_cases aa:x=kb
  ·subst aa;rw [ao.fH,ao.fH]
  ·rw [ao.eQ _ _ aa,ao.eQ _ _ aa]
   by_cases Iq:x=b
   ·subst Iq;rw [ao.ob,aq]
   ·rw [ao.nE _ Iq,eh,ao.eQ _ _ aa,ao.eQ _ _ Iq]
theorem af.Ep {c:Code} (I:Ok s L) {kb b n cap:Nat} (i:Nat) {T T':TypeId} {cells cs:List ag} {c':a6} (U:bm L (.own kb) (.box T cells) R) (ad:bm R (.own b) (.box T' cs) c') (aw:cells[i]? = some (dv b n cap)) (cm:cs.length=cap) (av:n≤cap) (hm:n≤9223372036854775807) (j2:(cs.take n).all eZ=true)
  (h:Ok s ((.own kb,.box T (cells.set i (.aF 1 (cs.take n) .a7)))::c')→af P N c Q env (aT s ((.own kb,.box T (cells.set i (.aF 1 (cs.take n) .a7)))::c'))):af P N c Q env (aT s L):=by
 obtain ⟨g1,g2,g3,g4,g5⟩:=Ip (o'' := .box T (cells.set i (.aF 1 (cs.take n) .a7))) I U ad;intro tU B a w p eL aI;obtain ⟨bg,aj,bk,bF⟩:=aI.Ep g1 g2 aw g3 cm av hm j2;rw [g4] at aj bF;exact mN (h g5 tU B a w bg eL aj) fun _ _ _ q=>q.after bk bF
end
abbrev lz:=List Int×Nat
def iv (σ:dP) (e:lz):bM×ds:=(.own e.2,.box 452 (k1 (σ e.1) (.aF 1 ((σ e.1).eX.map ba) .a7) (.aF 1 ((σ e.1).bB.map ba) .a7)))
def pd (es:List lz):SMap:=es.map fun e=>(e.1,.ptr e.2 0)
def nb (σ:dP) (mb:Nat) (es:List lz):a6:=gg mb (pd es)::es.map (iv σ)
theorem af.Oo {P:Program} {N:Nat} {Q:b8→Env→ao→Prop} {env:Env} {s:ao} {c:Code} (σ:dP):∀ (es:List fS) (A:a6),(∀ e∈es,m' e.bD (σ e.sp).bB∧(σ e.sp).bB.length<bK)→Ok s (A++es.flatMap (iW σ)) →
    (Ok s (A++es.map fun e=>iv σ (e.sp,e.b))→af P N c Q env (aT s (A++es.map fun e=>iv σ (e.sp,e.b))))→af P N c Q env (aT s (A++es.flatMap (iW σ)))
  | [],A,_,I,h=>h I
  | e::es,A,al,I,h=>by
    have aq:=bx;obtain ⟨oY,qx⟩:=al e g8;have YZ:Ok s ((A++[iv σ (e.sp,e.b)])++es.flatMap (iW σ))→af P N c Q env (aT s ((A++[iv σ (e.sp,e.b)])++es.flatMap (iW σ))):=fun I=>by
      refine af.Oo σ es (A++[iv σ (e.sp,e.b)]) (fun x aa=>al x (f9 _ aa)) I ?_;intro I;rw [aj0] at I ⊢;exact h I
    have lV:Ok s (iv σ (e.sp,e.b)::(A++es.flatMap (iW σ)))→af P N c Q env (aT s (iv σ (e.sp,e.b)::(A++es.flatMap (iW σ)))):=fun I=>by
      refine af.m4 I ((A++[iv σ (e.sp,e.b)])++es.flatMap (iW σ)) (az.iH ?_) YZ;rw [aj0];exact (ar9 (l₁:=A)).symm
    rw [am0] at I ⊢;refine af.m4 I (iW σ e++(A++es.flatMap (iW σ))) (az.iH (az' _ _ _)) (fun ax=>?_);clear I;have vE:b5 (k1 (σ e.sp) (.aF 1 ((σ e.sp).eX.map ba) e.on) (.aF 1 ((σ e.sp).bB.map ba) .a7)) (k1 (σ e.sp) (.aF 1 ((σ e.sp).eX.map ba) .a7) (.aF 1 ((σ e.sp).bB.map ba) .a7)) := .cons aH (.cons aH (.cons aR.a7 (b5.refl _)));unfold iW p3 at ax ⊢;rcases dt:e.bD with _|⟨g,cap,dJ⟩
    · rw [dt] at ax oY
      have bn:(σ e.sp).bB=[]:=oY;have Ir:b5 (k1 (σ e.sp) (.aF 1 ((σ e.sp).eX.map ba) e.on) (gy none (σ e.sp).bB)) (k1 (σ e.sp) (.aF 1 ((σ e.sp).eX.map ba) .a7) (.aF 1 ((σ e.sp).bB.map ba) .a7)):=by
        rw [bn];exact .cons aH (.cons aH (.cons aR.a7 (.cons aH (.cons aH (.cons aH (.cons aH (.one aR.empty)))))))
      refine af.A6 ax e.b _ .here Ir (fun ax=>?_);refine af.m4 ax (iv σ (e.sp,e.b)::(A++es.flatMap (iW σ))) (.cons .here (az.there (e:=(e.on,.row 3 1 (σ e.sp).eX.length)) (az.all (A++es.flatMap (iW σ))))) lV
    · rw [dt] at ax oY
      have kP:(σ e.sp).bB.length+dJ.length=cap:=oY;refine af.Ep ax 7 .here (.there .here) C ez ak ak Oa (fun ax=>?_);rw [ao9 bc] at ax ⊢;refine af.A6 ax e.b _ .here vE (fun ax=>?_);refine af.m4 ax (iv σ (e.sp,e.b)::(A++es.flatMap (iW σ))) (.cons .here (az.there (e:=(e.on,.row 3 1 (σ e.sp).eX.length)) (az.all (A++es.flatMap (iW σ))))) lV
structure xR (n:Nat) (E:List lz) (σ:dP) (es:List lz):Prop where
 four:∀ e∈es,e.1.length=4
 rest:∀ q,q∉es.map Prod.fst→σ q=jj
 fN:∀ q,na n (σ q)
 xS:∀ x∈E,x∈es
def Y0 (n:Nat) (σ:dP) (mb:Nat) (v:ag) (o:eS) (K:a6):Prop:=o = .ret v∧∃ es,K=nb σ mb es∧xR n [] σ es
theorem Y1 (w:bo) (hw:w.ps.length≤60) (l:List bG) (aE:3*l.length+3<bK) (aa:∀ x∈l,ui w x) :
  bs d4 352 [jT w,qR l] [] (fun o K=>∃ mb,Y0 (3*l.length) (ek l) mb (ia w mb) o K):=by
 have aq:=bx;refine bs.bj ah Tryz.func352 C C fun s I=>?_
 unfold jT gf;refine cX ?_;refine ab.ou I C C C C (fun mb I=>?_);refine bd ?_;refine af.cc [5,12,13] C I (σ:=Nat×List fS) (fun q=>[(14,.int .i64 (q.1:Int))]) (fun q=>mx (ek (l.take q.1)) mb q.2) (fun q=>q.1≤l.length∧p4 (3*q.1) (ek (l.take q.1)) q.2) (fun q=>l.length-q.1) (0,[]) ⟨g9 _,⟨by simp,by simp,fun q _=>rfl,by simp,fun q=>YL _⟩⟩ (cy C) (az.all _) ?_;rintro ⟨j,es⟩ ⟨aK,cO⟩ I;simp only at aK cO I ⊢;refine cl ?_;refine af.cond C (fun au=>?_) (fun aV=>?_);rotate_left
 ·have aV:j=l.length:=by simp at aV;omega
  subst aV;rw [ag'] at cO I ⊢;refine af.Oo (ek l) es [gg mb (nU es)] (fun e he=>⟨cO.bD e he,by have:=(cO.fN e.sp).bB;omega⟩) I (fun I=>?_);refine fb ?_;refine Fin.bz I C aH (az.all _) ⟨mb,rfl,es.map (fun e=>(e.sp,e.b)),?_,?_,?_,cO.fN,by simp⟩
  ·unfold nb pd nU
   simp [List.map_map,Function.comp_def]
  ·intro e he
   obtain ⟨x,aa,rfl⟩:=ae'.1 he;exact cO.four x aa
  ·intro q bf
   refine cO.rest q (fun hm=>bf ?_);obtain ⟨x,aa,rfl⟩:=ae'.1 hm;exact ae'.2 ⟨(x.sp,x.b),ae'.2 ⟨x,aa,rfl⟩,rfl⟩
 have au:j<l.length:=by simpa using au
 obtain ⟨x,ar,cf⟩:=b' (f:=et) au;have al:ek (l.take (j+1))=addLit (ek (l.take j)) x:=by
  unfold ek;rw [fD ar,aq'];rfl
 have bp:=YW w hw mb _ _ es cO ak x (aa x (d8 ar));unfold ia jT gf at bp;unfold et qQ ae.cells at cf bp
 repeat (first|(refine vp I ?_;clear I;intro I)|refine ab.c3 ah I rfl rfl rfl rfl rfl rfl rfl (fun cu I=>?_))
 refine ab.bL rfl rfl rfl rfl rfl bp I (az.all _).there ?_ (fun _ _ ⟨h,_⟩ _=>by cases h);rintro _ _ ⟨⟨⟩,dE,rfl,jF⟩ I;refine eF ?_;refine bA.mk (j+1,dE) I ⟨au,?_⟩ ct (by show az _ (mx (ek (l.take (j+1))) mb dE) _;rw [al];exact az.kA (az.all _)) jV;rw [al];exact jF
theorem Y2 {es:List lz} {sp:List Int}:(pd es).find? (fun e=>e.1==sp)=none↔sp∉es.map Prod.fst:=by
 unfold pd;rw [aq3];constructor
 ·intro h hm
  obtain ⟨e,he,rfl⟩:=ae'.1 hm;have:=h _ (ae'.2 ⟨e,he,rfl⟩);simp at this
 ·intro h x aa
  obtain ⟨e,he,rfl⟩:=ae'.1 aa;simp only [ao7];intro bI;exact h (ae'.2 ⟨e,he,bI⟩)
theorem Y3 {es:List lz} {sp:List Int} {x:List Int×ag} (h:(pd es).find? (fun e=>e.1==sp)=some x):∃ e∈es,e.1=sp∧x=(e.1,.ptr e.2 0):=by
 unfold pd at h;have U:=al6 h;have ad:=az1 h;obtain ⟨e,he,rfl⟩:=ae'.1 U;exact ⟨e,he,by simpa using ad,rfl⟩
theorem xT (w:bo) (mb n:Nat) (σ:dP) (es:List lz) {E:List lz} (cO:xR n E σ es) (hN dF c8 du:Int) :
  bs d4 401 [ia w mb,iV [hN,dF,c8,du]] (nb σ mb es) (fun o K=>∃ b R,o = .ret (.ptr b 0)∧(∃ dE,(iv σ ([hN,dF,c8,du],b)::R).Perm (nb σ mb dE)∧xR n E σ dE∧([hN,dF,c8,du],b)∈dE)∧K=iv σ ([hN,dF,c8,du],b)::R):=by
 have h:=N4 (.aF 1 [] .a7) (.aF 1 [] .a7) aR.empty aR.empty w mb (pd es) (fun e he=>by
  unfold pd at he
  obtain ⟨x,aa,rfl⟩:=ae'.1 he
  exact cO.four x aa) hN dF c8 du
 refine bs.frame h (R:=es.map (iv σ)) (.cons .here .nil) ?_;rintro o aM (⟨x,aa,rfl,rfl⟩|⟨aZ,b,rfl,rfl⟩)
 ·obtain ⟨⟨sp,b⟩,he,U,rfl⟩:=Y3 aa
  simp only at U;subst U;obtain ⟨pre,post,rfl⟩:=av4 he;have aB:((gg mb (pd (pre++([hN,dF,c8,du],b)::post)))::(pre++([hN,dF,c8,du],b)::post).map (iv σ)).Perm (iv σ ([hN,dF,c8,du],b)::(gg mb (pd (pre++([hN,dF,c8,du],b)::post))::(pre.map (iv σ)++post.map (iv σ)))):=by
   rw [t8,ai2];exact ((ar9).cons _).trans (ap'.swap _ _ _)
  exact ⟨[],_,by simp,aB,b,_,rfl,⟨_,aB.symm,cO,by simp⟩,rfl⟩
 ·have mP:=Y2.1 aZ
  have ug:=cO.rest _ mP;have bT:iv σ ([hN,dF,c8,du],b)=(.own b,.box 452 (k1 jj (.aF 1 [] .a7) (.aF 1 [] .a7))):=by
   unfold iv;simp only [ug];rfl
  refine ⟨[],iv σ ([hN,dF,c8,du],b)::(gg mb (pd (es++[([hN,dF,c8,du],b)]))::es.map (iv σ)),by simp,?_,b,_,rfl,⟨es++[([hN,dF,c8,du],b)],?_,?_,by simp⟩,rfl⟩
  ·rw [bT]
   have bI:pd (es++[([hN,dF,c8,du],b)])=pd es++[([hN,dF,c8,du],.ptr b 0)]:=by unfold pd;rw [t8];rfl
   rw [bI];exact ap'.swap _ _ _
  ·unfold nb
   rw [t8];refine (ap'.swap _ _ _).trans (ap'.cons _ ?_);exact aw4 (l₁:=[iv σ ([hN,dF,c8,du],b)])
  ·refine ⟨fun e he=>?_,fun q bf=>cO.rest q (fun hm=>bf (by rw [t8];exact al3 _ hm)),cO.fN,fun x aa=>al3 _ (cO.xS x aa)⟩
   rcases ab'.1 he with he|he
   ·exact cO.four e he
   ·rw [i7] at he;subst he;rfl
theorem Y4 (fv:ag) (q:Int→Bool) (aid:a6→Prop) (xs:List Int) (aE:xs.length<bK) (h:∀ x∈xs,∀ K,aid K→df d4 fv [ba x] K (fun o aM=>o = .ret (.bool (q x))∧aid aM)) (K:a6) (aG:aid K) :
  bs d4 363 [.aF 1 (xs.map ba) .a7,fv] K (fun o aM=>o = .ret (.int .i64 (match xs.findIdx? q with|some i=>(i:Int)|none => -1))∧aid aM):=by
 have aq:=bx;refine bs.bj ah Tryz.func363 C C fun s I=>?_
 refine gp ?_;refine af.cc [0,1,7] C I (σ:=Nat×a6) (fun j=>[(8,.int .i64 (j.1:Int))]) (fun j=>j.2) (fun j=>j.1≤xs.length∧aid j.2∧∀ i y,i<j.1→xs[i]? = some y→q y=false) (fun j=>xs.length-j.1) (0,K) ⟨g9 _,aG,fun i y aQ=>absurd aQ (av2 _)⟩ (cy C) (az.all _) ?_;rintro ⟨j,BG⟩ ⟨aK,Is,cU⟩ I;simp only at aK Is cU I ⊢;refine cl ?_;refine af.cond C (fun au=>?_) (fun aV=>?_)
 ·have au:j<xs.length:=by simpa using au
  obtain ⟨x,aa,bY⟩:=b' (f:=ba) au;have aD:=h x (d8 aa) BG Is;unfold ba at bY aD;refine bd ?_;refine ab.e0 rfl rfl rfl rfl rfl rfl aD I (az.all _) ?_ (fun _ _ ⟨h,_⟩ _=>by cases h);rintro _ ib ⟨⟨⟩,k3⟩ I;rw [d7] at I ⊢;cases bf:q x with
  | true=>
   rw [Ea q xs j x aa bf cU];refine bd ?_;exact Fin.bz I C aH (az.all _) ⟨rfl,k3⟩
  | false=>
   refine bd ?_
   exact bA.mk (j+1,ib) I ⟨au,k3,fun i y aQ ar=>by
    rcases am1.1 aQ with aQ|rfl
    ·exact cU i y aQ ar
    ·rw [aa] at ar;cases ar;exact bf⟩ ct (az.all _) mq
 ·have aV:j=xs.length:=by simp at aV;omega
  subst aV;rw [Eb q xs (fun i y ar=>cU i y (sW ar) ar)];refine fb ?_;exact Fin.bz I C aH (az.all _) ⟨rfl,Is⟩
theorem Y5 {α:Type} (q:α→Bool) (l:List α):decide ((match l.findIdx? q with|some i=>(i:Int)|none => -1)≥0)=l.any q:=by
 cases h:l.findIdx? q with
 | none=>
  rw [am6] at h;have:l.any q=false:=by rw [al2];intro x aa;rw [h x aa];simp
  rw [this];rfl
 | some i=>
  rw [ak8] at h;obtain ⟨aQ,U,_⟩:=h;have:l.any q=true:=ai6.2 ⟨_,an9 aQ,U⟩;rw [this];simp
theorem Y6 (fv:ag) (q:Int→Bool) (aid:a6→Prop) (xs:List Int) (aE:xs.length<bK) (h:∀ x∈xs,∀ K,aid K→df d4 fv [ba x] K (fun o aM=>o = .ret (.bool (q x))∧aid aM)) (K:a6) (aG:aid K) :
  bs d4 333 [.aF 1 (xs.map ba) .a7,fv] K (fun o aM=>o = .ret (.bool (xs.any q))∧aid aM):=by
 rw [← Y5];have aw:=Y4 fv q aid xs aE h K aG;refine bs.bj ah Tryz.func333 C C fun s I=>?_
 refine cX ?_;refine ab.bL rfl rfl rfl rfl rfl aw I (az.all _) ?_ (fun _ _ ⟨h,_⟩ _=>by cases h);rintro _ ib ⟨⟨⟩,k3⟩ I;rw [d7] at I ⊢;refine eB ?_;exact Fin.bz I C aH (az.all _) ⟨rfl,k3⟩
theorem Y7 (f:FuncId) (lU jt:List ag) (q:Int→Bool) (aid:a6→Prop) (xs:List Int) (aE:xs.length<bK) (h:∀ x∈xs,∀ K,aid K→df d4 (.func f lU jt) [ba x] K (fun o aM=>o = .ret (.bool (q x))∧aid aM)) (K:a6) (aG:aid K) :
  bs d4 292 [.aF 1 (xs.map ba) .a7,.func f lU jt] K (fun o aM=>o = .ret (.bool (xs.all q))∧aid aM):=by
 have U:∀ x∈xs,∀ K,aid K→df d4 (.func 334 [] [.bl [.func f lU jt] 0]) [ba x] K (fun o aM=>o = .ret (.bool (!q x))∧aid aM):=fun x aa K bC=>by
  refine df.ey (first:=[]) (cap:=[.bl [.func f lU jt] 0]) ?_;refine bs.bj ah Tryz.func334 C C fun s I=>?_
  have aD:=h x aa K bC;unfold ba at aD ⊢;refine cX ?_;refine ab.e0 rfl rfl rfl rfl rfl rfl aD I (az.all _) ?_ (fun _ _ ⟨h,_⟩ _=>by cases h);rintro _ ib ⟨⟨⟩,k3⟩ I;rw [d7] at I ⊢;refine eB ?_;exact Fin.bz I C aH (az.all _) ⟨rfl,k3⟩
 rw [← H2];have aw:=Y6 _ (fun x => !q x) aid xs aE U K aG;refine bs.bj ah Tryz.func292 C C fun s I=>?_
 refine cX ?_;refine ab.bL rfl rfl rfl rfl rfl aw I (az.all _) ?_ (fun _ _ ⟨h,_⟩ _=>by cases h);rintro _ ib ⟨⟨⟩,k3⟩ I;rw [d7] at I ⊢;refine eB ?_;exact Fin.bz I C aH (az.all _) ⟨rfl,k3⟩
theorem Oq (arg:Int) (path:List Int) (bD:Int) (h:path.length<2):aY d4 402 [iV (bt arg path),.int .i64 bD] (iV (bt arg (path++[bD]))):=by
 match path,h with
 | [],_=>exact N5 arg 0 0 bD
 | [a],_=>exact N6 arg a 0 bD
structure vI (n:Nat) (σ:dP):Prop where
 deep:∀ arg path,2≤path.length→(σ (bt arg path)).bB=[]
 fN:∀ q,na n (σ q)
def mz (n:Nat) (E:List lz) (σ:dP) (mb:Nat) (K:a6):Prop:=∃ es,K=nb σ mb es∧xR n E σ es
def BH (σ:dP) (arg:Int) (path:List Int):Bool:=(σ (bt arg path)).bB.all fun s => !(σ (bt arg (path++[s]))).gx
theorem Y8 (w:bo) (mb n:Nat) (σ:dP) (arg:Int) (path:List Int) (aB:path.length<2) (bD:Int) {E:List lz} (K:a6) (bC:mz n E σ mb K) :
  df d4 (.func 412 [] [.bl [ia w mb] 0,.bl ((bt arg path).map (ag.int .i64)) 0]) [ba bD] K (fun o aM=>o = .ret (.bool (!(σ (bt arg (path++[bD]))).gx))∧mz n E σ mb aM):=by
 obtain ⟨es,rfl,cO⟩:=bC;have U:=Oq arg path bD aB;have ad:=xT w mb n σ es cO arg ((path++[bD]).length:Int) ((path++[bD]).getD 0 0) ((path++[bD]).getD 1 0);refine df.ey (first:=[]) (cap:=[.bl [ia w mb] 0,.bl ((bt arg path).map (ag.int .i64)) 0]) ?_;refine bs.bj ah Tryz.func412 C C fun s I=>?_
 unfold ia at *;unfold iV m8 at U;refine Bb ?_;refine aS.H4 rfl rfl rfl rfl rfl rfl ad I (az.all _) ?_ (fun _ _ ⟨_,_,h,_⟩ _=>by cases h);rintro _ _ ⟨b,R,⟨⟩,⟨dE,fo,jF,gV⟩,rfl⟩ I;rw [d7] at I ⊢;refine c9 I ?_;intro I;exact Fin.bz I C aH (az.iH fo) ⟨rfl,dE,rfl,jF⟩
theorem Y9 (w:bo) (mb n:Nat) (av:n<bK) (σ:dP) (cK:vI n σ) (arg:Int) (path:List Int) (aB:path.length≤2) {E:List lz} (K:a6) (bC:mz n E σ mb K) :
    bs d4 411 [ia w mb,iV (bt arg path)] K (fun o aM=>o = .ret (.bool (BH σ arg path))∧mz n E σ mb aM):=by
  obtain ⟨es,rfl,cO⟩:=bC;have ad:=xT w mb n σ es cO arg (path.length:Int) (path.getD 0 0) (path.getD 1 0);have hd:=(cK.fN (bt arg path)).bB
  have aj:=Y7 412 [] [.bl [ia w mb] 0,.bl ((bt arg path).map (ag.int .i64)) 0] (fun s => !(σ (bt arg (path++[s]))).gx) (mz n E σ mb) (σ (bt arg path)).bB ak (fun x aa K bC=>by
    have h8:path.length<2:=by
      rcases au9 path.length 2 with h|h
      · exact h
      · rw [cK.deep arg path h] at aa;cases aa
    exact Y8 w mb n σ arg path h8 x K bC)
  refine bs.bj ah Tryz.func411 C C fun s I=>?_
  unfold ia at *;unfold iV m8 at *;refine cX ?_;refine ab.bL rfl rfl rfl rfl rfl ad I (az.all _) ?_ (fun _ _ ⟨_,_,h,_⟩ _=>by cases h);rintro _ _ ⟨b,R,⟨⟩,⟨dE,fo,jF,gV⟩,rfl⟩ I;rw [d7] at I ⊢;unfold iv at I ⊢;refine kh I ?_;intro I;refine ab.m4 I (nb σ mb dE) (az.iH fo) (fun I=>?_);refine ab.bL rfl rfl rfl rfl rfl (aj _ ⟨dE,rfl,jF⟩) I (az.all _) ?_ (fun _ _ ⟨h,_⟩ _=>by cases h);rintro _ ib ⟨⟨⟩,lA⟩ I;rw [d7] at I ⊢;refine eB ?_;exact Fin.bz I C aH (az.all _) ⟨rfl,lA⟩
def vJ (σ:dP) (arg:Int) (path:List Int) (c:Nat):Bool:=
 decide (mr (σ (bt arg path)).fR (1|||2^c)=0)&&(decide ((σ (bt arg path)).no &&& (1|||2^c)=0)&&BH σ arg path)
theorem BI (m:Nat):(((m:Nat):Int)==0)=decide (m=0):=by
 rw [aj3,ao7,f5];omega
theorem Ot (w:bo) (mb n:Nat) (av:n<bK) (σ:dP) (cK:vI n σ) (arg:Int) (path:List Int) (aB:path.length≤2) (c:Nat) (aw:c<3) {E:List lz} (K:a6) (bC:mz n E σ mb K) :
  bs d4 410 [ia w mb,iV (bt arg path),.int .i64 (c:Int)] K (fun o aM=>o = .ret (.bool (vJ σ arg path c))∧mz n E σ mb aM):=by
 obtain ⟨es,rfl,cO⟩:=bC;have ad:=xT w mb n σ es cO arg (path.length:Int) (path.getD 0 0) (path.getD 1 0);have hd:=cK.fN (bt arg path);have U:=H8 c ak;have lJ:1|||2^c<2^64:=ao5 dh (ao0 ak ak)
 have aj:=fun K bC=>Y9 (E:=E) w mb n av σ cK arg path aB K bC
 have hm:vJ σ arg path c=(decide (mr (σ (bt arg path)).fR (1|||2^c)=0)&&(decide ((σ (bt arg path)).no &&& (1|||2^c)=0)&&BH σ arg path)):=rfl;refine bs.bj ah Tryz.func410 C C fun s I=>?_
 unfold ia at *;unfold iV m8 at *;refine cX ?_;refine ab.bL rfl rfl rfl rfl rfl ad I (az.all _) ?_ (fun _ _ ⟨_,_,h,_⟩ _=>by cases h);rintro _ _ ⟨b,R,⟨⟩,⟨dE,fo,jF,gV⟩,rfl⟩ I;rw [d7] at I ⊢;unfold iv at I ⊢;refine c9 I ?_;intro I;refine ab.bits ((mr (σ (bt arg path)).fR (1|||2^c):Nat):Int) C C C C C C (MN hd.fR lJ) ?_;refine fB ?_;cases vF:decide (mr (σ (bt arg path)).fR (1|||2^c)=0) with
 | false=>
  refine ab.eP 21 C (by rw [BI];exact vF) ?_;refine bd ?_;rw [vF,aa'] at hm;exact Fin.bz I C aH (az.iH fo) ⟨by rw [hm],dE,rfl,jF⟩
 | true=>
  refine ab.fM 21 C (by rw [BI];exact vF) ?_;refine kh I ?_;intro I;refine ab.bits (((σ (bt arg path)).no &&& (1|||2^c):Nat):Int) C C C C C C (DW hd.no lJ) ?_;refine fB ?_;cases oX:decide ((σ (bt arg path)).no &&& (1|||2^c)=0) with
  | false=>
   refine ab.eP 30 C (by rw [BI];exact oX) ?_;refine bd ?_;rw [vF,oX,i8,aa'] at hm;exact Fin.bz I C aH (az.iH fo) ⟨by rw [hm],dE,rfl,jF⟩
  | true=>
   refine ab.fM 30 C (by rw [BI];exact oX) ?_;refine fB ?_;refine ab.m4 I (nb σ mb dE) (az.iH fo) (fun I=>?_);refine ab.bL rfl rfl rfl rfl rfl (aj _ ⟨dE,rfl,jF⟩) I (az.all _) ?_ (fun _ _ ⟨h,_⟩ _=>by cases h);rintro _ ib ⟨⟨⟩,lA⟩ I;rw [d7] at I ⊢;refine eB ?_;rw [vF,oX,i8,i8] at hm;exact Fin.bz I C aH (az.all _) ⟨by rw [hm],lA⟩
def xU (σ:dP) (arg:Int) (path:List Int):Bool := !(σ (bt arg path)).whole&&vJ σ arg path 2
theorem Y' (w:bo) (mb n:Nat) (av:n<bK) (σ:dP) (cK:vI n σ) (arg:Int) (path:List Int) (aB:path.length≤2) {E:List lz} (K:a6) (bC:mz n E σ mb K) :
  bs d4 405 [ia w mb,iV (bt arg path)] K (fun o aM=>o = .ret (.bool (xU σ arg path))∧mz n E σ mb aM):=by
 obtain ⟨es,rfl,cO⟩:=bC;have ad:=xT w mb n σ es cO arg (path.length:Int) (path.getD 0 0) (path.getD 1 0);have aj:=fun K bC=>Ot (E:=E) w mb n av σ cK arg path aB 2 ak K bC
 have hm:xU σ arg path=(!(σ (bt arg path)).whole&&vJ σ arg path 2):=rfl;refine bs.bj ah Tryz.func405 C C fun s I=>?_
 unfold ia at *;unfold iV m8 at *;refine cX ?_;refine ab.bL rfl rfl rfl rfl rfl ad I (az.all _) ?_ (fun _ _ ⟨_,_,h,_⟩ _=>by cases h);rintro _ _ ⟨b,R,⟨⟩,⟨dE,fo,jF,gV⟩,rfl⟩ I;rw [d7] at I ⊢;unfold iv at I ⊢;refine kh I ?_;intro I;cases hw:(σ (bt arg path)).whole with
 | true=>
  refine ab.eP 12 C (by show (!(σ (bt arg path)).whole)=false;rw [hw];rfl) ?_;refine bd ?_;rw [hw] at hm;exact Fin.bz I C aH (az.iH fo) ⟨by rw [hm];rfl,dE,rfl,jF⟩
 | false=>
  refine ab.fM 12 C (by show (!(σ (bt arg path)).whole)=true;rw [hw];rfl) ?_;refine fB ?_;refine ab.m4 I (nb σ mb dE) (az.iH fo) (fun I=>?_);refine ab.bL rfl rfl rfl rfl rfl (aj _ ⟨dE,rfl,jF⟩) I (az.all _) ?_ (fun _ _ ⟨h,_⟩ _=>by cases h);rintro _ ib ⟨⟨⟩,lA⟩ I;rw [d7] at I ⊢;refine eB ?_;rw [hw] at hm;exact Fin.bz I C aH (az.all _) ⟨by rw [hm];rfl,lA⟩
def nV:Nat→Int→List Int→Int
 | 0,n,_=>n
 | k+1,n,l=>if l.contains n then nV k (n+1) l else n
def xV (k:dk):Int:=nV (k.eX.length+1) k.low k.eX
def xW (σ:dP) (arg:Int) (path:List Int):Bool:=decide (xV (σ (bt arg path))≤(σ (bt arg path)).high)&&vJ σ arg path 1
def mA (n:Int) (l:List Int):Nat:=(l.filter fun x=>decide (x≥n)).length
theorem Es (n:Int) (l:List Int):mA n l≤l.length:=List.length_filter_le _ _
theorem Ou (n:Int):∀ l:List Int,mA (n+1) l≤mA n l
  | []=>t7 _
  | x::r=>by
    have a8:=Ou n r;unfold mA at *;rw [an1,an1];by_cases U:x≥n+1
    · rw [f7 (by simpa using U),f7 ez,i9,i9];omega
    · rw [f4 (by simpa using U)]
      split
      · rw [i9];omega
      · exact a8
theorem Et {n:Int}:∀ {l:List Int},n∈l→mA (n+1) l<mA n l
  | x::r,h=>by
    have bn:=Ou n r;unfold mA at *;rw [an1,an1];rcases ai1.1 h with rfl|h
    · rw [f4 ez,f7 bc,i9];omega
    · have a8:=Et h
      unfold mA at a8;by_cases U:x≥n+1
      · rw [f7 (by simpa using U),f7 ez,i9,i9];omega
      · rw [f4 (by simpa using U)]
        split
        · rw [i9];omega
        · exact a8
theorem Eu:∀ (f j6:Nat) (n:Int) (l:List Int),mA n l<f→mA n l<j6→nV f n l=nV j6 n l
  | f+1,j6+1,n,l,h,eA=>by
    rw [nV,nV];cases aw:l.contains n with
    | false=>rfl
    | true=>
      have:=Et (n:=n) (l:=l) uj;simp only [ak2];exact Eu f j6 (n+1) l ak ak
theorem Za (w:bo) (mb n:Nat) (av:n<bK) (σ:dP) (cK:vI n σ) (arg:Int) (path:List Int) (aB:path.length≤2) {E:List lz} (K:a6) (bC:mz n E σ mb K) :
  bs d4 404 [ia w mb,iV (bt arg path)] K (fun o aM=>o = .ret (.bW [.int .i64 (xV (σ (bt arg path))),.bool (xW σ arg path)])∧mz n E σ mb aM):=by
 have aq:=bx;obtain ⟨es,rfl,cO⟩:=bC;have ad:=xT w mb n σ es cO arg (path.length:Int) (path.getD 0 0) (path.getD 1 0);have aj:=fun K bC=>Ot (E:=E) w mb n av σ cK arg path aB 1 ak K bC
 have hm:xW σ arg path=(decide (xV (σ (bt arg path))≤(σ (bt arg path)).high)&&vJ σ arg path 1):=rfl;have hd:=cK.fN (bt arg path);have AU:=hd.eX;have xN:=hd.num;have It:xV (σ (bt arg path))=nV (mA (σ (bt arg path)).low (σ (bt arg path)).eX+1) (σ (bt arg path)).low (σ (bt arg path)).eX:=Eu _ _ _ _ (by have:=Es (σ (bt arg path)).low (σ (bt arg path)).eX;omega) ak;have k0:=fun v=>xD (σ (bt arg path)).eX v ak
 refine bs.bj ah Tryz.func404 C C fun s I=>?_
 unfold ia at *;unfold iV m8 at *;refine cX ?_;refine ab.bL rfl rfl rfl rfl rfl ad I (az.all _) ?_ (fun _ _ ⟨_,_,h,_⟩ _=>by cases h);rintro _ _ ⟨b,R,⟨⟩,⟨dE,fo,jF,gV⟩,rfl⟩ I;rw [d7] at I ⊢;unfold iv at I ⊢;refine c9 I ?_;intro I;refine af.cc [0,3,6] C I (σ:=Int) (fun v=>[(7,.int .i64 v)]) (fun _=>iv σ ([arg,(path.length:Int),path.getD 0 0,path.getD 1 0],b)::R) (fun v=>xV (σ (bt arg path))=nV (mA v (σ (bt arg path)).eX+1) v (σ (bt arg path)).eX∧(σ (bt arg path)).low≤v∧v≤(σ (bt arg path)).low+((σ (bt arg path)).eX.length-mA v (σ (bt arg path)).eX:Nat)) (fun v=>mA v (σ (bt arg path)).eX) (σ (bt arg path)).low ⟨It,ap8 _,by omega⟩ (cy C) (az.all _) ?_;rintro v ⟨aD,nF,lK⟩ I;unfold iv at I ⊢;have um:=k0 v;unfold br at um;cases aw:(σ (bt arg path)).eX.contains v with
 | true=>
  rw [aw] at um;have au:=Et (n:=v) (l:=(σ (bt arg path)).eX) uj;have hle:=Es v (σ (bt arg path)).eX;rw [nV,aw] at aD;simp only [ak2] at aD;have dq:ai' .i64 (v+1)=v+1:=hf ak ak;refine hC I ?_;intro I;refine bA.mk (v+1) I ⟨?_,by omega,by omega⟩ (by repeat (first|exact trivial|refine ⟨⟨_,rfl,aH⟩,?_⟩|refine ⟨⟨_,rfl,aR.of_eq (by (rw [dq]))⟩,?_⟩)) (az.all _) au;rw [aD];exact Eu _ _ _ _ ak ak
 | false=>
  rw [aw] at um;rw [nV,aw] at aD;simp only [aj2,al0] at aD;subst aD;refine c9 I ?_;intro I;cases aA:decide (xV (σ (bt arg path))≤(σ (bt arg path)).high) with
  | false=>
   refine ab.eP 33 C aA ?_;refine bd ?_;rw [aA] at hm;exact Fin.bz I C aH (az.iH fo) ⟨by rw [hm];rfl,dE,rfl,jF⟩
  | true=>
   refine ab.fM 33 C aA ?_;refine fB ?_;refine ab.m4 I (nb σ mb dE) (az.iH fo) (fun I=>?_);refine ab.bL rfl rfl rfl rfl rfl (aj _ ⟨dE,rfl,jF⟩) I (az.all _) ?_ (fun _ _ ⟨h,_⟩ _=>by cases h);rintro _ ib ⟨⟨⟩,lA⟩ I;rw [d7] at I ⊢;refine eB ?_;rw [aA] at hm;exact Fin.bz I C aH (az.all _) ⟨by rw [hm];rfl,lA⟩
def fT (w:bo) (s:Int):Nat:=(w.owner.getD s.toNat 0).toNat
def p5 (w:bo) (σ:dP) (cn:List Int→Bool) (arg:Int) (path:List Int):List Int→Nat→Nat→Option (Nat×Nat)
 | [],m,n=>some (m,n)
 | s::r,m,n=>
  if (σ (bt arg (path++[s]))).gx && !cn (path++[s]) then none
  else if (σ (bt arg (path++[s]))).gx then p5 w σ cn arg path r (m|||2^fT w s) n
  else if cn (path++[s]) then p5 w σ cn arg path r m n
  else p5 w σ cn arg path r m (n|||2^fT w s)
def uo (w:bo) (m:Nat) (i:Nat):Nat:=if m.testBit (3+i) then m|||(fK w.ps).getD (3+i) 0 else m
def rW (w:bo) (m:Nat):Nat:=(ak6 w.ps.length).foldl (uo w) m
def xX (w:bo) (σ:dP) (cn:List Int→Bool) (arg:Int) (path:List Int):Nat×Bool:=
 if (σ (bt arg path)).whole||((σ (bt arg path)).fR.testBit 1||((σ (bt arg path)).fR.testBit 2||(σ (bt arg path)).no.testBit 0)) then (0,false)
 else match p5 w σ cn arg path (σ (bt arg path)).bB (σ (bt arg path)).fR (σ (bt arg path)).no with
  | none=>(0,false)
  | some (m,n)=>(mr (rW w m) 1,decide (mr (rW w m) 1 &&& n=0))
theorem bm.Ov {o:bM} {d':ds}:∀ {L:a6},(o,d')∈L→∃ R,bm L o d' R
  | e::L,h=>by
    rcases ai1.1 h with rfl|h
    · exact ⟨_,bm.here⟩
    · obtain ⟨R,h⟩:=bm.Ov h
      exact ⟨_,bm.there h⟩
structure Ev (w:bo) (σ:dP):Prop where
 slot:∀ q,∀ x∈(σ q).bB,0≤x∧x<(w.owner.length:Int)
def Ow (w:bo) (mb n:Nat) (σ:dP) (arg:Int) (cn:List Int→Bool) (path:List Int):Prop:=
 ∀ (E:List lz) (K:a6),mz n E σ mb K→bs d4 385 [ia w mb,iV (bt arg path)] K (fun o aM=>o = .ret (.bool (cn path))∧mz n E σ mb aM)
theorem Zb (w:bo) (hw:fJ w) (mb n:Nat) (av:n<bK) (σ:dP) (cK:vI n σ) (iu:Ev w σ) (arg:Int) (path:List Int) (aB:path.length≤2) (cn:List Int→Bool) (qU:path.length<2→∀ s,Ow w mb n σ arg cn (path++[s])) {E:List lz} (K:a6) (bC:mz n E σ mb K) :
  bs d4 406 [ia w mb,iV (bt arg path)] K (fun o aM=>o = .ret (.bW [.int .u64 ((xX w σ cn arg path).1:Int),.bool (xX w σ cn arg path).2])∧mz n E σ mb aM):=by
 have aq:=bx;obtain ⟨es,rfl,cO⟩:=bC;have ad:=xT w mb n σ es cO arg (path.length:Int) (path.getD 0 0) (path.getD 1 0);have hd:=cK.fN (bt arg path);have hm:xX w σ cn arg path=if (σ (bt arg path)).whole||((σ (bt arg path)).fR.testBit 1||((σ (bt arg path)).fR.testBit 2||(σ (bt arg path)).no.testBit 0)) then (0,false)
  else match p5 w σ cn arg path (σ (bt arg path)).bB (σ (bt arg path)).fR (σ (bt arg path)).no with
   | none=>(0,false)
   | some (m,n)=>(mr (rW w m) 1,decide (mr (rW w m) 1 &&& n=0)):=rfl
 have g1:=Bv (σ (bt arg path)).fR 1 hd.fR ak;have g2:=Bv (σ (bt arg path)).fR 2 hd.fR ak;have g0:=Bv (σ (bt arg path)).no 0 hd.no ak;have qT:=fun bD h=>Oq arg path bD h
 refine bs.bj ah Tryz.func406 C C fun s I=>?_
 unfold ia at *;unfold iV m8 at *;refine cX ?_;refine ab.bL rfl rfl rfl rfl rfl ad I (az.all _) ?_ (fun _ _ ⟨_,_,h,_⟩ _=>by cases h);rintro _ _ ⟨b,R,⟨⟩,⟨dE,fo,jF,gV⟩,rfl⟩ I;rw [d7] at I ⊢;unfold iv at I ⊢;refine Hr I ?_;intro I;cases zt:(σ (bt arg path)).whole with
 | true=>
  refine ab.fM 30 C zt ?_;refine bd ?_;rw [zt,ar',f7 C] at hm;exact Fin.bz I C aH (az.iH fo) ⟨by rw [hm];rfl,dE,rfl,jF⟩
 | false=>
 refine ab.eP 30 C zt ?_;refine gw ?_;cases sE:(σ (bt arg path)).fR.testBit 1 with
 | true=>
  refine bd ?_;rw [sE,ar',au0,f7 C] at hm;exact Fin.bz I C aH (az.iH fo) ⟨by rw [hm];rfl,dE,rfl,jF⟩
 | false=>
 refine gw ?_;cases yV:(σ (bt arg path)).fR.testBit 2 with
 | true=>
  refine bd ?_;rw [yV,ar',au0,au0,f7 C] at hm;exact Fin.bz I C aH (az.iH fo) ⟨by rw [hm];rfl,dE,rfl,jF⟩
 | false=>
 refine gw ?_;cases Iu:(σ (bt arg path)).no.testBit 0 with
 | true=>
  refine bd ?_;rw [Iu,au0,au0,au0,f7 C] at hm;exact Fin.bz I C aH (az.iH fo) ⟨by rw [hm];rfl,dE,rfl,jF⟩
 | false=>
 rw [zt,sE,yV,Iu] at hm;simp only [Bool.or_self,aj2,al0] at hm;refine c9 I ?_;intro I;have agH:=hd.bB;refine af.cc [0,3,45,46] C I (σ:=Nat×Nat×Nat×List lz) (fun q=>[(47,.int .i64 (q.1:Int)),(7,.int .u64 (q.2.1:Int)),(8,.int .u64 (q.2.2.1:Int))]) (fun q=>nb σ mb q.2.2.2)
  (fun q=>q.1≤(σ (bt arg path)).bB.length∧p5 w σ cn arg path (σ (bt arg path)).bB (σ (bt arg path)).fR (σ (bt arg path)).no=p5 w σ cn arg path ((σ (bt arg path)).bB.drop q.1) q.2.1 q.2.2.1∧q.2.1<2^64∧q.2.2.1<2^64∧xR n E σ q.2.2.2)
  (fun q=>(σ (bt arg path)).bB.length-q.1) (0,(σ (bt arg path)).fR,(σ (bt arg path)).no,dE) ⟨g9 _,by rw [List.drop_zero],hd.fR,hd.no,jF⟩ (cy C) (az.iH fo) ?_
 rintro ⟨j,m,s4,lB⟩ ⟨aK,aZ,zu,zv,rV⟩ I;simp only at aK aZ zu zv rV I ⊢;refine cl ?_;refine af.cond C (fun au=>?_) (fun aV=>?_);rotate_left
 ·have aV:j=(σ (bt arg path)).bB.length:=by
   have:¬ (j<(σ (bt arg path)).bB.length):=by simpa [bt] using aV
   omega
  subst aV;rw [List.drop_length,p5] at aZ;rw [aZ] at hm;simp only at hm;refine bd ?_;refine af.cc [0,3] C I (σ:=Nat×Nat) (fun q=>[(14,.int .i64 ((3+q.1:Nat):Int)),(7,.int .u64 (q.2:Int)),(8,.int .u64 (s4:Int))]) (fun q=>nb σ mb lB)
   (fun q=>q.1≤w.ps.length∧q.2=(ak6 q.1).foldl (uo w) m∧q.2<2^64) (fun q=>w.ps.length-q.1) (0,m) ⟨g9 _,rfl,zu⟩ (cy C) (az.all _) ?_
  rintro ⟨c,jk⟩ ⟨aw,Iv,cV⟩ I;simp only at aw Iv cV I ⊢;have xY:=hw.few;have dq:ai' .i64 (3+((w.ps.map br).length:Int))=3+(w.ps.length:Int):=by rw [f6,hf ak ak]
  refine cl ?_;refine af.cond C (fun dA=>?_) (fun fE=>?_);rotate_left
  ·have fE:c=w.ps.length:=by rw [dq] at fE;simp at fE;omega
   subst fE;have rK:rW w m=jk:=Iv.symm;rw [rK] at hm;refine bd ?_;refine ab.bits ((mr jk 1:Nat):Int) C C C C C C (MN cV dh) ?_;refine iR ?_;refine ab.bits ((mr jk 1 &&& s4:Nat):Int) C C C C C C (DW (Nat.and_lt_two_pow _ (Nat.xor_lt_two_pow dh dh)) zv) ?_;refine eB ?_;exact Fin.bz I C aH (az.all _) ⟨by rw [hm];simp only [BI],lB,rfl,rV⟩
  have dA:c<w.ps.length:=by rw [dq] at dA;simp at dA;omega
  have lJ:=xy w.ps;obtain ⟨u,hu⟩:∃ u,(fK w.ps)[3+c]? = some u:=⟨_,f8 ak⟩;have Zc:(fK w.ps).getD (3+c) 0=u:=by rw [d9,hu];rfl
  have xZ:=HK xY u (d8 hu);have c4:=Bv jk (3+c) cV ak;have aI:(ak6 (c+1)).foldl (uo w) m=uo w jk c:=by rw [au1,aq',← Iv];rfl
  have o6:uo w jk c=if jk.testBit (3+c) then jk|||u else jk:=by unfold uo;rw [Zc]
  rw [o6] at aI;have ay:=H7 (w:=w) (HL hu);have AK:jk|||u<2^64:=ao5 cV xZ
  cases Ew:jk.testBit (3+c) with
  | false=>
   rw [Ew] at c4 aI;simp only [aj2,al0] at aI;refine c1 ?_;exact bA.mk (c+1,jk) I ⟨dA,aI.symm,cV⟩ N' (az.all _) (by show w.ps.length-(c+1)<w.ps.length-c;omega)
  | true=>
   rw [Ew] at c4 aI;simp only [ak2] at aI;refine dS ?_;refine ab.xt ah (3+c) C C C C C C C C C C ak ?_;refine ab.Bx ah C C C C C C C (by simpa using ay) ?_;skip;refine ab.bits ((jk|||u:Nat):Int) C C C C C C (Bi cV xZ) ?_;refine iQ ?_;exact bA.mk (c+1,jk|||u) I ⟨dA,aI.symm,AK⟩ N' (az.all _) (by show w.ps.length-(c+1)<w.ps.length-c;omega)
 have au:j<(σ (bt arg path)).bB.length:=by simpa [bt] using au
 obtain ⟨bD,ar,cf⟩:=b' (f:=ba) au;have h8:path.length<2:=by
  rcases au9 path.length 2 with h|h
  ·exact h
  ·rw [cK.deep arg path h] at au;cases au
 have agI:=iu.slot _ bD (d8 ar);obtain ⟨k,rfl⟩:∃ k:Nat,bD=(k:Int):=⟨bD.toNat,by omega⟩;have pe:k<w.owner.length:=by omega
 have agJ:=hw.own _ (an9 pe);have xY:=hw.few;have Ox:w.owner[k]? = some ((fT w (k:Int):Nat):Int):=by
  unfold fT;rw [f8 pe,ai7,d9,f8 pe];simp only [al1];congr 1;omega
 have BJ:fT w (k:Int)<64:=by
  unfold fT;rw [ai7,d9,f8 pe];simp only [al1];omega
 have Ex:(w.owner.map ba)[k]? = some (.int .i64 ((fT w (k:Int):Nat):Int)):=by simp [Ox,ba]
 have Zd:=Bw m _ zu BJ;have Ze:=Bw s4 _ zv BJ;have agK:=qT (k:Int) h8;have Zf:=qU h8 (k:Int);have aj:=xT w mb n σ lB rV arg ((path++[(k:Int)]).length:Int) ((path++[(k:Int)]).getD 0 0) ((path++[(k:Int)]).getD 1 0);have iU:(σ (bt arg path)).bB.drop j=(k:Int)::(σ (bt arg path)).bB.drop (j+1):=by
  rw [List.drop_eq_getElem_cons au];rw [f8 au] at ar;simp only [ap7.injEq] at ar;rw [ar]
 rw [iU,p5] at aZ;clear qT qU;generalize fT w (k:Int)=dV at Ox BJ Ex Zd Ze aZ;refine WJ ?_;intro dr iU cU;refine bb.runs (is:=[0,1,6,7]) C ?_;refine bb.bL 2 rfl rfl rfl rfl rfl rfl rfl aj I (az.all _) ?_ (fun _ _ ⟨_,_,h,_⟩ _=>by cases h);rintro _ _ ⟨fp,ah0,⟨⟩,⟨zw,Oy,Ey,Zg⟩,rfl⟩ I;rw [d7] at I ⊢;refine bb.runs (is:=[3,4]) C ?_;have Zh:=Zf zw _ ⟨zw,rfl,Ey.four,Ey.rest,Ey.fN,fun x aa=>aa⟩;refine bb.Ww (σ:=List lz) (fun _ => .bool (cn (path++[(k:Int)]))) (fun z=>aT s (nb σ mb z)) (fun z=>Ok s (nb σ mb z)∧xR n zw σ z) (i:=5) (j:=8) ah C C C C C C C C C C C C (bm.get bm.here I) C C C C
  (aX.bL rfl rfl Zh I (az.iH Oy)) ?_ (fun z _ h=>h) ?_ ?_ (fun _ _ ⟨_,_,_,h,_⟩=>by cases h)
 ·rintro y an ⟨aM,rfl,vm,⟨⟩,uq,rfl,vK⟩
  rw [d7] at vm ⊢;exact ⟨uq,⟨vm,vK⟩,rfl,rfl⟩
 ·rintro z ⟨zx,vK⟩ h
  have Zi:=vK.xS _ Zg;obtain ⟨ah3,Zj⟩:=bm.Ov (o := .own fp) (L:=nb σ mb z) (f9 _ (ae'.2 ⟨_,Zi,rfl⟩));refine bb.dY 5 ah zx C C C C C C C C Zj C ?_;exact bb.congr _ (fun t=>Wv _ _ _ C t) h
 rintro uq ⟨zx,vK⟩;refine bb.run C (bb.done C ?_);have Ez:xR n E σ uq:=⟨vK.four,vK.rest,vK.fN,fun x aa=>vK.xS x (Ey.xS x aa)⟩;have vL:m|||2^dV<2^64:=ao5 zu (ao0 ak BJ)
 have zy:s4|||2^dV<2^64:=ao5 zv (ao0 ak BJ)
 unfold jT gf rR fL br at *;cases pf:cn (path++[(k:Int)]) with
 | false=>
  refine fc ?_;cases eK:(σ (bt arg (path++[(k:Int)]))).gx with
  | true=>
   refine ab.fM 65 C eK ?_;refine bd ?_;rw [pf,eK] at aZ;simp only [an4,aH7,ak2] at aZ;rw [aZ] at hm;exact Fin.bz zx C aH (az.all _) ⟨by rw [hm];rfl,uq,rfl,Ez⟩
  | false=>
   refine ab.eP 65 C eK ?_;refine ab.eP 12 C eK ?_;refine c1 ?_;rw [pf,eK] at aZ;simp only [aa',aj2,al0] at aZ;exact bA.mk (j+1,m,s4|||2^dV,uq) zx ⟨au,aZ,zu,zy,Ez⟩ ct (az.all _) Ih
 | true=>
  refine fc ?_;cases eK:(σ (bt arg (path++[(k:Int)]))).gx with
  | true=>
   refine ab.fM 65 C eK ?_;refine ab.fM 12 C eK ?_;refine c1 ?_;rw [pf,eK] at aZ;simp only [an5,an3,aj2,al0,ak2] at aZ;exact bA.mk (j+1,m|||2^dV,s4,uq) zx ⟨au,aZ,vL,zv,Ez⟩ ct (az.all _) Ih
  | false=>
   refine ab.eP 65 C eK ?_;refine ab.eP 12 C eK ?_;refine bd ?_;rw [pf,eK] at aZ;simp only [aa',aj2,al0,ak2] at aZ;exact bA.mk (j+1,m,s4,uq) zx ⟨au,aZ,zu,zv,Ez⟩ ct (az.all _) Ih
def s5 (w:bo) (σ:dP) (arg:Int):Nat→List Int→Bool
 | 0,_=>false
 | k+1,p=>xW σ arg p||(xU σ arg p||(xX w σ (s5 w σ arg k) arg p).2)
theorem Oz (w:bo) (hw:fJ w) (mb n:Nat) (av:n<bK) (σ:dP) (cK:vI n σ) (iu:Ev w σ) (arg:Int):∀ (k:Nat) (path:List Int),path.length≤2→3≤k+path.length→Ow w mb n σ arg (s5 w σ arg k) path
  | 0,path,aB,aj=>by omega
  | k+1,path,aB,aj=>by
    intro E K bC;have U:=fun K bC=>Za (E:=E) w mb n av σ cK arg path aB K bC
    have ad:=fun K bC=>Y' (E:=E) w mb n av σ cK arg path aB K bC
    have bk:=fun K bC=>Zb (E:=E) w hw mb n av σ cK iu arg path aB (s5 w σ arg k) (fun aE bD=>Oz w hw mb n av σ cK iu arg k (path++[bD]) (by rw [f0];simp;omega) (by rw [f0];simp;omega)) K bC
    have hm:s5 w σ arg (k+1) path=(xW σ arg path||(xU σ arg path||(xX w σ (s5 w σ arg k) arg path).2)):=rfl;refine bs.bj ah Tryz.func385 C C fun s I=>?_
    unfold ia at *;unfold iV m8 at *;refine cX ?_;refine ab.bL rfl rfl rfl rfl rfl (U K bC) I (az.all _) ?_ (fun _ _ ⟨h,_⟩ _=>by cases h);rintro _ ib ⟨⟨⟩,lA⟩ I;rw [d7] at I ⊢;refine iR ?_;cases aQ:xW σ arg path with
    | true=>
      refine bd ?_;rw [aQ] at hm;exact Fin.bz I C aH (az.all _) ⟨by rw [hm];rfl,lA⟩
    | false=>
      refine fB ?_;refine ab.bL rfl rfl rfl rfl rfl (ad ib lA) I (az.all _) ?_ (fun _ _ ⟨h,_⟩ _=>by cases h);rintro _ BK ⟨⟨⟩,vM⟩ I;rw [d7] at I ⊢;refine jQ ?_;cases mP:xU σ arg path with
      | true=>
        refine bd ?_;rw [aQ,mP] at hm;exact Fin.bz I C aH (az.all _) ⟨by rw [hm];rfl,vM⟩
      | false=>
        refine bd ?_;refine ab.bL rfl rfl rfl rfl rfl (bk BK vM) I (az.all _) ?_ (fun _ _ ⟨h,_⟩ _=>by cases h);rintro _ aic ⟨⟨⟩,Zk⟩ I;rw [d7] at I ⊢;refine gw ?_;rw [aQ,mP] at hm;exact Fin.bz I C aH (az.all _) ⟨by rw [hm];rfl,Zk⟩
def pg (w:bo) (σ:dP):Bool:=(ak6 3).all fun a=>s5 w σ ((a:Nat):Int) 3 []
def Iw:ag := .iface 410 (.agg [])
theorem Zl (w:bo) (hw:fJ w) (mb n:Nat) (av:n<bK) (σ:dP) (cK:vI n σ) (iu:Ev w σ) {E:List lz} (K:a6) (bC:mz n E σ mb K) :
  bs d4 353 [ia w mb] K (fun o aM=>(o=if pg w σ then .ret (.bW []) else .panic Iw)∧mz n E σ mb aM):=by
 have U:=fun (a:Nat) K bC=>Oz w hw mb n av σ cK iu ((a:Nat):Int) 3 [] bc bc E K bC
 refine bs.bj ah Tryz.func353 C C fun s I=>?_
 unfold ia at *;unfold iV m8 at *;refine gp ?_;refine af.cc [0] C I (σ:=Nat×a6) (fun q=>[(3,.int .i64 (q.1:Int))]) (fun q=>q.2) (fun q=>q.1≤3∧((ak6 q.1).all fun a=>s5 w σ ((a:Nat):Int) 3 [])=true∧mz n E σ mb q.2) (fun q=>3-q.1) (0,K) ⟨by omega,rfl,bC⟩ (cy C) (az.all _) ?_;rintro ⟨j,ib⟩ ⟨aK,bp,lA⟩ I;simp only at aK bp lA I ⊢;refine cl ?_;refine af.cond C (fun au=>?_) (fun aV=>?_);rotate_left
 ·have aV:j=3:=by simp at aV;omega
  subst aV;have hm:pg w σ=true:=bp;refine ki ?_;exact Fin.bz I C aH (az.all _) ⟨by rw [hm];rfl,lA⟩
 have au:j<3:=by simp at au;omega
 refine bd ?_;refine ab.bL rfl rfl rfl rfl rfl (U j ib lA) I (az.all _) ?_ (fun _ _ ⟨h,_⟩ _=>by cases h);rintro _ BK ⟨⟨⟩,vM⟩ I;rw [d7] at I ⊢;refine jQ ?_;cases aw:s5 w σ ((j:Nat):Int) 3 [] with
 | false=>
  refine bd ?_;refine ab.panic C C C C ?_;have hm:pg w σ=false:=by
   unfold pg;rw [List.all_eq_false];exact ⟨j,by simpa using au,by rw [aw];simp⟩
  exact Fin.e1 I aH (az.all _) ⟨by rw [hm];rfl,vM⟩
 | true=>
  refine bd ?_;exact bA.mk (j+1,BK) I ⟨au,by rw [au1,aG5,bp];simp [aw],vM⟩ ct (az.all _) (by show 3-(j+1)<3-j;omega)
theorem lS.path {w:bo} {L:List bG} (h:lS w L):∀ x∈L,x.1.path.length≤2:=fun x aa=>(D3 (h x aa).1 (h x aa).2).1
theorem Zm (σ:dP) (x:bG) (q:List Int):((addLit σ x) q).core=if q=bt x.1.arg x.1.path then (σ q).core.ask x else (σ q).core:=by
 unfold addLit;rw [uc];split
 ·rename_i h;rw [XA,zk,h]
 ·rw [zk]
theorem Zn (σ:dP) (x:bG) (q:List Int):((addLit σ x) q).gx=true↔(σ q).gx=true∨x.2=false∧∃ i,i≤x.1.path.length∧q=bt x.1.arg (x.1.path.take i):=by
 rw [← Nf];unfold addLit;rw [uc];split
 ·rename_i h;rw [XB,h]
 ·rfl
theorem Zo (σ:dP) (x:bG) (q:List Int) (s:Int):s∈((addLit σ x) q).bB↔s∈(σ q).bB∨∃ i,i<x.1.path.length∧q=bt x.1.arg (x.1.path.take i)∧s=x.1.path.getD i 0:=by
 rw [← Ng x.2];unfold addLit;rw [uc];split
 ·rename_i h;rw [Na,h]
 ·rfl
theorem Ix {x:bG} {arg:Int} {path:List Int}:nS arg path x=true↔x.1.arg=arg∧path.length≤x.1.path.length∧x.1.path.take path.length=path:=by
 unfold nS sU;simp
theorem Zp {x:bG} {arg:Int} {path:List Int} (aa:x.1.path.length≤2) (aB:path.length≤2):(∃ i,i≤x.1.path.length∧bt arg path=bt x.1.arg (x.1.path.take i))↔nS arg path x=true:=by
 rw [Ix];constructor
 ·rintro ⟨i,aQ,h⟩
  obtain ⟨U,ad⟩:=HV aB wE h;have aE:path.length=i:=by rw [ad,ah'];omega
  exact ⟨U.symm,by omega,by rw [aE];exact ad.symm⟩
 ·rintro ⟨U,ad,aj⟩
  exact ⟨path.length,ad,by rw [U,aj]⟩
theorem OA:∀ (l:List Int) (i:Nat),i<l.length→l.take (i+1)=l.take i++[l.getD i 0]:=fun l i aQ=>by
 rw [ay5,d9,f8 aQ];rfl
theorem Zq {x:bG} {arg s:Int} {path:List Int} (aa:x.1.path.length≤2) (aB:path.length≤2):(∃ i,i<x.1.path.length∧bt arg path=bt x.1.arg (x.1.path.take i)∧s=x.1.path.getD i 0)↔nS arg (path++[s]) x=true:=by
 rw [Ix,f0,ad'];constructor
 ·rintro ⟨i,aQ,h,rfl⟩
  obtain ⟨U,ad⟩:=HV aB wE h;have aE:path.length=i:=by rw [ad,ah'];omega
  exact ⟨U.symm,by omega,by rw [aE,OA _ _ aQ,← ad]⟩
 ·rintro ⟨U,ad,aj⟩
  rw [OA _ _ ak] at aj;obtain ⟨bk,bF⟩:=List.append_inj' aj rfl;exact ⟨path.length,by omega,by rw [U,bk],(List.cons.inj bF).1.symm⟩
theorem exists_cons {q:bG→Prop} {x:bG} {r:List bG}:(∃ y∈x::r,q y)↔q x∨∃ y∈r,q y:=by simp
section
variable {w:bo} {arg:Int} {path:List Int} (aB:path.length≤2)
include aB
theorem OB:∀ (L:List bG) (σ:dP),lS w L→((L.foldl addLit σ) (bt arg path)).core=(eC L arg path).foldl dk.ask (σ (bt arg path)).core
  | [],σ,_=>rfl
  | x::r,σ,h=>by
    rw [ak9,OB r _ (fun y ar=>h y (f9 _ ar)),Zm];unfold eC;rw [an1];have aa:=h.path x g8;by_cases e:rO arg path x=true
    · rw [f7 e]
      unfold rO at e;simp only [d6,f5,ao7] at e;rw [f7 (by rw [e.1,e.2]),ak9]
    · rw [f4 e,f4]
      intro ad;obtain ⟨aj,bk⟩:=HV aB aa ad;exact e (by unfold rO;simp [aj,bk])
theorem OC:∀ (L:List bG) (σ:dP),lS w L→(((L.foldl addLit σ) (bt arg path)).gx=true↔(σ (bt arg path)).gx=true∨∃ x∈L,x.2=false∧nS arg path x=true)
  | [],σ,_=>by simp
  | x::r,σ,h=>by
    rw [ak9,OC r _ (fun y ar=>h y (f9 _ ar)),Zn,Zp (h.path x g8) aB,or_assoc,exists_cons]
theorem OD (s:Int):∀ (L:List bG) (σ:dP),lS w L→(s∈((L.foldl addLit σ) (bt arg path)).bB↔s∈(σ (bt arg path)).bB∨∃ x∈L,nS arg (path++[s]) x=true)
  | [],σ,_=>by simp
  | x::r,σ,h=>by
    rw [ak9,OD s r _ (fun y ar=>h y (f9 _ ar)),Zo,Zq (h.path x g8) aB,or_assoc,exists_cons]
variable {L:List bG} (bE:lS w L)
include bE
theorem OE:((ek L) (bt arg path)).gx = !hM L arg path:=by
 rw [aj3];unfold ek hM;rw [OC aB L xB bE];simp [xB,jj]
theorem EA (s:Int):s∈((ek L) (bt arg path)).bB↔o7 L arg path s=true:=by
 unfold ek o7;rw [OD aB s L xB bE];simp [xB,jj]
omit aB in
theorem s6 {s:Int} (h:o7 L arg path s=true):0≤s∧s<(w.owner.length:Int)∧(path++[s]).length≤2:=by
 unfold o7 at h;obtain ⟨x,aa,h⟩:=ai6.1 h;obtain ⟨-,ad,aj⟩:=Ix.1 h;obtain ⟨bk,bF⟩:=D3 (bE x aa).1 (bE x aa).2;have hm:s∈x.1.path:=au4 (by rw [aj];simp);have:=bF s hm;exact ⟨this.1,this.2,by omega⟩
theorem Iy {s:Int}:s∈jC w.owner.length L arg path↔s∈((ek L) (bt arg path)).bB:=by
 rw [EA aB bE];unfold jC;simp only [ae',aj1,al4];constructor
 ·rintro ⟨n,⟨-,h⟩,rfl⟩;exact h
 ·intro h
  have:=s6 bE h;exact ⟨s.toNat,⟨by omega,by rw [show ((s.toNat:Nat):Int)=s by omega];exact h⟩,by omega⟩
theorem Zr:rP w.owner.length L arg path=BH (ek L) arg path:=by
 unfold rP BH;rw [aj3,ai4,ai4];constructor <;>
 ·intro h s al
  have gU:=al
  first|rw [Iy aB bE] at al|rw [← Iy aB bE] at al
  have dc:o7 L arg path s=true:=by
   first|exact (EA aB bE s).1 al|exact (EA aB bE s).1 gU
  have ad:=OE (arg:=arg) (s6 bE dc).2.2 bE;have U:=h s al;rw [ad] at *;simpa using U
end
def vN (x:bG):Bool:=decide (x.1.op=2)&&(decide (x.1.cls>1) != x.2)
theorem OF:∀ (l:List bG) (k:dk),kZ l (k.low,k.high,k.eX)=if l.any vN then none else some ((l.foldl dk.ask k).low,(l.foldl dk.ask k).high,(l.foldl dk.ask k).eX)
  | [],k=>rfl
  | x::r,k=>by
    have a8:=OF r (k.ask x);rw [kZ,ak',ak9];by_cases ad:x.1.op=2
    · have e:vN x=(decide (x.1.cls>1) != x.2):=by unfold vN;rw [i6 ad,i8]
      rw [f7 ad,e];have bT:(k.ask x).low=k.low:=by unfold dk.ask;rw [f7 ad];split<;>rfl
      have bI:(k.ask x).high=k.high:=by unfold dk.ask;rw [f7 ad];split<;>rfl
      have eh:(k.ask x).eX=k.eX:=by unfold dk.ask;rw [f7 ad];split<;>rfl
      rw [bT,bI,eh] at a8;cases aq:(decide (x.1.cls>1) != x.2) with
      | true=>simp
      | false=>rw [ak4,f4 bc,a8]
    · have e:vN x=false:=by unfold vN;rw [M2 ad,aa']
      rw [f4 ad,e,ak4,← a8];unfold dk.ask;rw [f4 ad];split
      · split<;>rfl
      · split<;>rfl
theorem Iz:∀ (k:Nat) (n:Int) (l:List Int),o8 k n l=nV k n l
 | 0,_,_=>rfl
 | k+1,n,l=>by rw [o8,nV,Iz k]
theorem OG:∀ (l:List bG) (k:dk) (c:Nat),(l.foldl dk.ask k).fR.testBit c=(k.fR.testBit c||l.any fun x=>decide (x.1.op=2)&&(!x.2&&decide (x.1.cls.toNat=c)))
  | [],k,c=>by simp
  | x::r,k,c=>by
    rw [ak9,OG r,ak',← ap3];congr 1;unfold dk.ask;by_cases ad:x.1.op=2
    · rw [f7 ad,i6 ad,i8]
      cases x.2 with
      | true=>simp
      | false=>simp [aq8,ap9]
    · rw [f4 ad,M2 ad,aa',ao3]
      repeat' split
      all_goals rfl
theorem OH:∀ (l:List bG) (k:dk) (c:Nat),(l.foldl dk.ask k).no.testBit c=(k.no.testBit c||l.any fun x=>decide (x.1.op=2)&&(x.2&&decide (x.1.cls.toNat=c)))
  | [],k,c=>by simp
  | x::r,k,c=>by
    rw [ak9,OH r,ak',← ap3];congr 1;unfold dk.ask;by_cases ad:x.1.op=2
    · rw [f7 ad,i6 ad,i8]
      cases x.2 with
      | false=>simp
      | true=>simp [aq8,ap9]
    · rw [f4 ad,M2 ad,aa',ao3]
      repeat' split
      all_goals rfl
theorem OI:∀ (l:List bG) (k:dk),(l.foldl dk.ask k).whole=(k.whole||l.any fun x => !decide (x.1.op=2) && !x.2)
  | [],k=>by simp
  | x::r,k=>by
    rw [ak9,OI r,ak',← ap3];congr 1;unfold dk.ask;by_cases ad:x.1.op=2
    · rw [f7 ad,i6 ad]
      split<;>simp
    · rw [f4 ad,M2 ad]
      cases aa:x.2<;>by_cases aj:x.1.op=3<;>simp [aj]
theorem OJ {p q b:bG→Bool}:∀ (l:List bG),(∀ x∈l,b x=(p x||q x))→l.any b = !(l.all (fun x => !p x)&&l.all (fun x => !q x))
  | [],_=>rfl
  | x::r,h=>by
    rw [ak',aq6,aq6,OJ r (fun y ar=>h y (f9 _ ar)),h x g8];cases p x<;>cases q x<;>simp
section
variable {w:bo} (hw:fJ w) {arg:Int} {path:List Int} (aB:path.length≤2) {L:List bG} (bE:lS w L)
include aB bE
theorem EB:((ek L) (bt arg path)).core=(eC L arg path).foldl dk.ask jj:=OB aB L xB bE
theorem vO (c:Nat):((ek L) (bt arg path)).fR.testBit c=(eC L arg path).any fun x=>decide (x.1.op=2)&&(!x.2&&decide (x.1.cls.toNat=c)):=by
 have h:((ek L) (bt arg path)).fR=((eC L arg path).foldl dk.ask jj).fR:=by rw [← EB aB bE];rfl
 rw [h,OG];simp [jj]
theorem EC (c:Nat):((ek L) (bt arg path)).no.testBit c=(eC L arg path).any fun x=>decide (x.1.op=2)&&(x.2&&decide (x.1.cls.toNat=c)):=by
 have h:((ek L) (bt arg path)).no=((eC L arg path).foldl dk.ask jj).no:=by rw [← EB aB bE];rfl
 rw [h,OH];simp [jj]
theorem OK:((ek L) (bt arg path)).whole=(eC L arg path).any fun x => !decide (x.1.op=2) && !x.2:=by
 have h:((ek L) (bt arg path)).whole=((eC L arg path).foldl dk.ask jj).whole:=by rw [← EB aB bE];rfl
 rw [h,OI];simp [jj]
omit aB in
theorem rX {x:bG} (aa:x∈eC L arg path) (ad:x.1.op=2):0≤x.1.cls∧x.1.cls<3+(w.ps.length:Int):=by
 unfold eC at aa;obtain ⟨av,aE⟩:=bE x (aj1.1 aa).1;simp only [fr,aE,ak2,f7 ad,d6,f5] at av;have:=av.2.2.2.2.2.2.2;omega
theorem OL {c:Nat} (h:((ek L) (bt arg path)).fR.testBit c=true):c<3+w.ps.length:=by
 rw [vO aB bE] at h;obtain ⟨x,aa,h⟩:=ai6.1 h;simp only [d6,f5] at h;have:=rX bE aa h.1;omega
include hw
theorem OM {c:Nat} (aw:c<3):vJ (ek L) arg path c=((eC L arg path).all (fun x => !(decide (x.1.op=2)&&(!x.2 && !(decide (x.1.cls=0)||decide (x.1.cls=c)))))&&((eC L arg path).all (fun x => !(decide (x.1.op=2)&&(x.2&&(decide (x.1.cls=0)||decide (x.1.cls=c)))))&&rP w.owner.length L arg path)):=by
 have xY:=hw.few;unfold vJ;rw [Zr aB bE];have aq:∀ i,(1|||2^c:Nat).testBit i=(decide (i=0)||decide (i=c)):=fun i=>by
  rw [aq8,Bo,ap9];congr 1;rw [aj3,f5,f5];omega
 congr 1
 ·rw [aj3,f5,ai4]
  constructor
  ·intro h x aa
   cases c4:(decide (x.1.op=2)&&(!x.2 && !(decide (x.1.cls=0)||decide (x.1.cls=c)))) with
   | false=>rfl
   | true=>
    exfalso;simp only [d6,f5,aj7,ao1,decide_eq_false_iff_not] at c4;have cm:=rX bE aa c4.1;have hm:((ek L) (bt arg path)).fR.testBit x.1.cls.toNat=true:=by
     rw [vO aB bE,ai6];exact ⟨x,aa,by simp [c4.1,c4.2.1]⟩
    have:=ak5 (fun n=>n.testBit x.1.cls.toNat) h;simp only [mr,ar1,ax0,hm,aq,au8,i8] at this;rw [show (18446744073709551615:Nat)=2^64-1 by decide,am7,i6 (by omega:x.1.cls.toNat<64),M2 ak,M2 ak] at this;cases this
  ·intro h
   apply au3;intro i;rw [au8];cases hm:((ek L) (bt arg path)).fR.testBit i with
   | false=>unfold mr;rw [ar1,hm,aa']
   | true=>
    have aQ:=OL aB bE hm;rw [vO aB bE,ai6] at hm;obtain ⟨x,aa,hm⟩:=hm;simp only [d6,f5,aj7] at hm;have:=h x aa;have cm:=rX bE aa hm.1;simp only [hm.1,hm.2.1,decide_true,an4,i8,Bool.not_not,aj',f5] at this;unfold mr;rw [ar1,ax0,aq,show (18446744073709551615:Nat)=2^64-1 by decide,am7,i6 (by omega:i<64)];rcases (by omega:i=0∨i=c) with rfl|rfl
    ·simp
    ·simp
 congr 1;rw [aj3,f5,ai4];constructor
 ·intro h x aa
  cases c4:(decide (x.1.op=2)&&(x.2&&(decide (x.1.cls=0)||decide (x.1.cls=c)))) with
  | false=>rfl
  | true=>
   exfalso;simp only [d6,f5,aj'] at c4;have cm:=rX bE aa c4.1;have hm:((ek L) (bt arg path)).no.testBit x.1.cls.toNat=true:=by
    rw [EC aB bE,ai6];exact ⟨x,aa,by simp [c4.1,c4.2.1]⟩
   have:=ak5 (fun n=>n.testBit x.1.cls.toNat) h;simp only [ar1,hm,aq,au8,i8,ao1,decide_eq_false_iff_not] at this;omega
 ·intro h
  apply au3;intro i;rw [au8,ar1,aq];cases hm:((ek L) (bt arg path)).no.testBit i with
  | false=>rfl
  | true=>
   rw [EC aB bE,ai6] at hm;obtain ⟨x,aa,hm⟩:=hm;simp only [d6,f5] at hm;have:=h x aa;have cm:=rX bE aa hm.1;simp only [hm.1,hm.2.1,decide_true,i8,aj7,ao1,decide_eq_false_iff_not] at this;simp only [i8,ao1,decide_eq_false_iff_not];omega
theorem Zs:vA w.owner.length L arg path=xW (ek L) arg path:=by
 have aQ:=OF (eC L arg path) jj;have aw:=EB (arg:=arg) aB bE;have U:((ek L) (bt arg path)).low=((eC L arg path).foldl dk.ask jj).low:=by rw [← aw];rfl
 have ad:((ek L) (bt arg path)).high=((eC L arg path).foldl dk.ask jj).high:=by rw [← aw];rfl
 have aj:((ek L) (bt arg path)).eX=((eC L arg path).foldl dk.ask jj).eX:=by rw [← aw];rfl
 unfold vA xW xV;rw [OM hw aB bE ak,U,ad,aj];rw [show ((-1000000000:Int),(1000000000:Int),([]:List Int))=(jj.low,jj.high,jj.eX) from rfl,aQ];have aq:(eC L arg path).any vN = !((eC L arg path).all (fun x => !(decide (x.1.op=2)&&(!x.2 && !(decide (x.1.cls=0)||decide (x.1.cls=(1:Nat))))))&&(eC L arg path).all (fun x => !(decide (x.1.op=2)&&(x.2&&(decide (x.1.cls=0)||decide (x.1.cls=(1:Nat))))))):=by
  have e:∀ x∈eC L arg path,vN x=(decide (x.1.op=2)&&(!x.2 && !(decide (x.1.cls=0)||decide (x.1.cls=(1:Nat))))||decide (x.1.op=2)&&(x.2&&(decide (x.1.cls=0)||decide (x.1.cls=(1:Nat))))):=by
   intro x aa;unfold vN;by_cases ad:x.1.op=2
   ·have:=rX bE aa ad
    rw [i6 ad];have bT:decide (x.1.cls>1) = !(decide (x.1.cls=0)||decide (x.1.cls=(1:Nat))):=by
     rw [aj3];simp;omega
    rw [bT];cases x.2<;>simp
   ·rw [M2 ad];rfl
  exact OJ _ e
 rw [aq];cases (eC L arg path).all (fun x => !(decide (x.1.op=2)&&(!x.2 && !(decide (x.1.cls=0)||decide (x.1.cls=(1:Nat)))))) with
 | false=>simp
 | true=>
  cases (eC L arg path).all (fun x => !(decide (x.1.op=2)&&(x.2&&(decide (x.1.cls=0)||decide (x.1.cls=(1:Nat)))))) with
  | false=>simp
  | true=>simp only [aH7,an5,aj2,al0,i8,Iz]
theorem Zt:xC w.owner.length L arg path=xU (ek L) arg path:=by
 unfold xC xU;rw [OM hw aB bE ak,OK aB bE,← aG',← aG'];congr 1;rw [aj3];simp only [d6,ai4,aj7,al2];have e:∀ x∈eC L arg path,(t' x=false↔(¬(decide (x.1.op=2)=false∧x.2=false)∧(decide (x.1.op=2)&&(!x.2 && !(decide (x.1.cls=0)||decide (x.1.cls=(2:Nat)))))=false)∧(decide (x.1.op=2)&&(x.2&&(decide (x.1.cls=0)||decide (x.1.cls=(2:Nat)))))=false):=by
  intro x aa;unfold t';by_cases ad:x.1.op=2<;>cases x.2<;>simp [ad]<;>omega
 constructor
 ·intro h
  exact ⟨⟨fun x aa=>((e x aa).1 (h x aa)).1.1,fun x aa=>((e x aa).1 (h x aa)).1.2⟩,fun x aa=>((e x aa).1 (h x aa)).2⟩
 ·rintro ⟨⟨U,ad⟩,aj⟩ x aa
  exact (e x aa).2 ⟨⟨U x aa,ad x aa⟩,aj x aa⟩
end
theorem x0 {l kg:List Int} {f g:Int→Bool} (h:∀ s,s∈l↔s∈kg) (aZ:∀ s∈l,f s=g s):l.any f=kg.any g:=by
 rw [aj3,ai6,ai6];constructor
 ·rintro ⟨s,al,e⟩;exact ⟨s,(h s).1 al,by rw [← aZ s al];exact e⟩
 ·rintro ⟨s,al,e⟩;exact ⟨s,(h s).2 al,by rw [aZ s ((h s).2 al)];exact e⟩
def k4 (x:bG):Bool := !decide (x.1.op=2)||(decide (x.1.cls=1)||decide (x.1.cls=2))
theorem IA (a:Nat→Bool) (c k:Nat) (b:Bool):((if k=c then true else a k)||b)=(a k||(decide (c=k)||b)):=by
 by_cases h:k=c
 ·rw [f7 h,i6 h.symm];simp
 ·rw [f4 h,M2 (Ne.symm h)];simp
theorem BL:∀ (l:List bG) (a:(Nat→Bool)×(Nat→Bool)),qO l a=if l.any (fun x=>k4 x && !x.2) then none else
    some (fun k=>a.1 k||l.any (fun x => !k4 x&&(!x.2&&decide (x.1.cls.toNat=k))),fun k=>a.2 k||l.any (fun x => !k4 x&&(x.2&&decide (x.1.cls.toNat=k))))
  | [],a=>by rw [qO];simp
  | x::r,a=>by
    rw [qO,ak'];simp only [ak'];by_cases h:x.1.op≠2∨x.1.cls=1∨x.1.cls=2
    · have e:k4 x=true:=by unfold k4;simpa [or_assoc] using h
      rw [f7 h,e];cases x.2 with
      | true=>rw [f7 C,BL r a];simp only [an5,an3,ak4,aa']
      | false=>simp
    · have e:k4 x=false:=by
        rw [am5];intro e;apply h;unfold k4 at e;simpa [or_assoc] using e
      rw [f4 h,e];cases x.2 with
      | true=>
        rw [f7 C,BL r _];simp only [IA,an5,an4,an3,ak4,aa',i8]
      | false=>
        rw [f4 bc,BL r _];simp only [IA,an5,an4,an3,ak4,aa',i8]
theorem BM (w:bo) (L:List bG) (cn:List Int→Bool) (arg:Int) (path:List Int):∀ (l:List Int) (a:(Nat→Bool)×(Nat→Bool)),qP w L cn arg path l a=if l.any (fun s => !hM L arg (path++[s]) && !cn (path++[s])) then none else
    some (fun k=>a.1 k||l.any (fun s => !hM L arg (path++[s])&&decide (fT w s=k)),fun k=>a.2 k||l.any (fun s => !cn (path++[s])&&decide (fT w s=k)))
  | [],a=>by rw [qP];simp
  | s::r,a=>by
    rw [qP,ak'];simp only [ak'];cases aw:(!hM L arg (path++[s]) && !cn (path++[s])) with
    | true=>simp
    | false=>
      rw [f4 bc,ak4,BM w L cn arg path r _];cases hM L arg (path++[s])<;>cases cn (path++[s])<;>simp only [IA,fT,an5,an4,an3,ak4,aa',i8,ak2,al0,aj2]<;>rfl
theorem IB {w:bo} {σ:dP} {cn:List Int→Bool} {arg:Int} {path:List Int}:∀ {l:List Int} {m n:Nat},l.any (fun s=>(σ (bt arg (path++[s]))).gx && !cn (path++[s]))=true→p5 w σ cn arg path l m n=none
  | s::r,m,n,h=>by
    rw [p5];rw [ak'] at h;cases aw:((σ (bt arg (path++[s]))).gx && !cn (path++[s])) with
    | true=>rfl
    | false=>
      rw [aw,ak4] at h;rw [f4 bc];split
      · exact IB h
      · split<;>exact IB h
theorem ED {w:bo} {σ:dP} {cn:List Int→Bool} {arg:Int} {path:List Int}:∀ {l:List Int} {m n:Nat},l.any (fun s=>(σ (bt arg (path++[s]))).gx && !cn (path++[s]))=false →
    ∃ hY n',p5 w σ cn arg path l m n=some (hY,n')∧(∀ k,hY.testBit k=(m.testBit k||l.any fun s=>(σ (bt arg (path++[s]))).gx&&decide (fT w s=k)))∧∀ k,n'.testBit k=(n.testBit k||l.any fun s => !cn (path++[s])&&decide (fT w s=k))
  | [],m,n,_=>⟨m,n,rfl,fun k=>by simp,fun k=>by simp⟩
  | s::r,m,n,h=>by
    rw [ak',ao1] at h;obtain ⟨U,ad⟩:=h;rw [p5,f4 (by rw [U];simp)];simp only [ak'];by_cases av:(σ (bt arg (path++[s]))).gx=true
    · rw [av,i8,av5] at U
      obtain ⟨hY,n',e,hm,eO⟩:=ED (w:=w) (σ:=σ) (cn:=cn) (arg:=arg) (path:=path) (l:=r) (m:=m|||2^fT w s) (n:=n) ad;refine ⟨hY,n',by rw [f7 av];exact e,fun k=>?_,fun k=>?_⟩
      · rw [hm,av,aq8,ap9,i8,ap3]
      · rw [eO,U];simp
    · rw [f4 av]
      have av:(σ (bt arg (path++[s]))).gx=false:=by simpa using av
      by_cases aw:cn (path++[s])=true
      · obtain ⟨hY,n',e,hm,eO⟩:=ED (w:=w) (σ:=σ) (cn:=cn) (arg:=arg) (path:=path) (l:=r) (m:=m) (n:=n) ad
        refine ⟨hY,n',by rw [f7 aw];exact e,fun k=>?_,fun k=>?_⟩
        · rw [hm,av];simp
        · rw [eO,aw];simp
      · obtain ⟨hY,n',e,hm,eO⟩:=ED (w:=w) (σ:=σ) (cn:=cn) (arg:=arg) (path:=path) (l:=r) (m:=m) (n:=n|||2^fT w s) ad
        have o9:cn (path++[s])=false:=by simpa using aw
        refine ⟨hY,n',by rw [f4 aw];exact e,fun k=>?_,fun k=>?_⟩
        · rw [hm,av];simp
        · rw [eO,o9,aq8,ap9,an4,i8,ap3]
theorem ON {w:bo} (hw:fJ w) (m:Nat) (k:Nat):∀ i,i≤w.ps.length→(((ak6 i).foldl (uo w) m).testBit k=true↔m.testBit k=true∨∃ j,j<i∧m.testBit (3+j)=true∧((fK w.ps).getD (3+j) 0).testBit k=true)
  | 0,_=>by simp
  | i+1,aQ=>by
    have a8:=fun k=>ON hw m k i ak
    rw [au1,aq',ak9,List.foldl_nil];have aq:((ak6 i).foldl (uo w) m).testBit (3+i)=m.testBit (3+i):=by
      rw [aj3,a8 (3+i)];constructor
      · rintro (h|⟨j,aK,-,h⟩)
        · exact h
        · have:=zj hw (3+j+1) (3+j) (3+i) ak ak h;omega
      · exact .inl
    have e:∀ M,uo w M i=if M.testBit (3+i) then M|||(fK w.ps).getD (3+i) 0 else M:=fun M=>rfl
    rw [e,aq];by_cases aj:m.testBit (3+i)=true
    · rw [f7 aj,aq8,aj',a8]
      constructor
      · rintro ((h|⟨j,aK,h,eA⟩)|h)
        · exact .inl h
        · exact .inr ⟨j,by omega,h,eA⟩
        · exact .inr ⟨i,by omega,aj,h⟩
      · rintro (h|⟨j,aK,h,eA⟩)
        · exact .inl (.inl h)
        · rcases am1.1 aK with aK|rfl
          · exact .inl (.inr ⟨j,aK,h,eA⟩)
          · exact .inr eA
    · rw [f4 aj,a8]
      constructor
      · rintro (h|⟨j,aK,h,eA⟩)
        · exact .inl h
        · exact .inr ⟨j,by omega,h,eA⟩
      · rintro (h|⟨j,aK,h,eA⟩)
        · exact .inl h
        · rcases am1.1 aK with aK|rfl
          · exact .inr ⟨j,aK,h,eA⟩
          · exact absurd h aj
theorem Zu {w:bo} (hw:fJ w) {f a2:Nat→Bool} {m n:Nat} (aZ:∀ k,1≤k→f k=m.testBit k) (Zv:f 0=false) (ur:m.testBit 1=false∧m.testBit 2=false) (hm:∀ k,m.testBit k=true→k<3+w.ps.length) (bp:∀ k,3≤k→a2 k=n.testBit k) :
  ((ak6 (3+w.ps.length)).all fun k => !(fY w.ps w.ps.length f k&&a2 k))=decide (mr (rW w m) 1 &&& n=0):=by
 have xY:=hw.few;have rK:∀ k,((rW w m).testBit k=true↔m.testBit k=true∨∃ j,j<w.ps.length∧m.testBit (3+j)=true∧((fK w.ps).getD (3+j) 0).testBit k=true):=fun k=>ON hw m k w.ps.length (t7 _)
 have cm:∀ k,3≤k→fY w.ps w.ps.length f k=(rW w m).testBit k:=fun k ax=>by
  rw [aj3,HP hw _ _ _ ax (t7 _),rK,aZ k ak];constructor <;>
  ·rintro (h|⟨j,aK,h,eA⟩)
   ·exact .inl h
   ·exact .inr ⟨j,aK,by first|rw [← aZ _ ak];exact h|rw [aZ _ ak];exact h,eA⟩
 have Zw:∀ k,1≤k→k<3→(rW w m).testBit k=false:=fun k U aj=>by
  rw [am5];intro h;rcases (rK k).1 h with h|⟨j,aK,-,h⟩
  ·rcases (by omega:k=1∨k=2) with rfl|rfl
   ·rw [ur.1] at h;cases h
   ·rw [ur.2] at h;cases h
  ·have:=zj hw (3+j+1) (3+j) k ak ak h
   omega
 rw [aj3,ai4,f5];constructor
 ·intro h
  apply au3;intro i;unfold mr;rw [au8,ar1,ar1,ax0,Bo];by_cases bn:i=0
  ·subst bn
   rw [show (18446744073709551615:Nat).testBit 0=true from rfl];simp
  by_cases aj:i<3
  ·rw [Zw i ak aj];rfl
  ·cases hu:(rW w m).testBit i with
   | false=>rfl
   | true=>
    have aQ:i<3+w.ps.length:=by
     rcases (rK i).1 hu with h|⟨j,aK,-,h⟩
     ·exact hm i h
     ·have:=zj hw (3+j+1) (3+j) i ak ak h
      omega
    have:=h i (al4.2 aQ);rw [cm i ak,hu,i8,bp i ak,aj7] at this;rw [this,an3]
 ·intro h k ax
  have ax:=al4.1 ax;by_cases aj:k<3
  ·rw [HO hw _ _ _ aj (t7 _)]
   rcases (by omega:k=0∨k=1∨k=2) with rfl|rfl|rfl
   ·rw [Zv];rfl
   ·rw [aZ 1 ak,ur.1];rfl
   ·rw [aZ 2 ak,ur.2];rfl
  ·rw [cm k ak,bp k ak]
   have:=ak5 (fun n=>n.testBit k) h;unfold mr at this;simp only [au8,ar1,ax0,Bo] at this;rw [show (18446744073709551615:Nat)=2^64-1 by decide,am7,i6 (by omega:k<64),M2 (by omega:¬ k=0)] at this;cases hu:(rW w m).testBit k with
   | false=>rfl
   | true=>rw [hu] at this;simpa using this
section
variable {w:bo} (hw:fJ w) {arg:Int} {path:List Int} (aB:path.length≤2) {L:List bG} (bE:lS w L)
include aB bE hw
omit aB in
theorem IC {s:Int} (h:o7 L arg path s=true):3≤fT w s∧fT w s<3+w.ps.length:=by
 have U:=s6 bE h;have au:s.toNat<w.owner.length:=by omega
 have:=hw.own _ (an9 au);unfold fT;rw [d9,f8 au,al1];omega
theorem Zx {dK zz:List Int→Bool} (aw:∀ s,o7 L arg path s=true→dK (path++[s])=zz (path++[s])):ua w L dK arg path=(xX w (ek L) zz arg path).2:=by
 have gV:∀ s,s∈jC w.owner.length L arg path↔s∈((ek L) (bt arg path)).bB:=fun s=>Iy aB bE
 have uu:∀ s∈jC w.owner.length L arg path,o7 L arg path s=true:=fun s al=>(EA aB bE s).1 ((gV s).1 al)
 have eK:∀ s∈jC w.owner.length L arg path,(!hM L arg (path++[s]))=((ek L) (bt arg (path++[s]))).gx:=fun s al=>(OE (s6 bE (uu s al)).2.2 bE).symm
 unfold ua xX;rw [BL,OK aB bE,vO aB bE,vO aB bE,EC aB bE];by_cases aq:(eC L arg path).any (fun x=>k4 x && !x.2)=true
 ·rw [f7 aq,f7]
  obtain ⟨x,aa,h⟩:=ai6.1 aq;simp only [aj',ai6];unfold k4 at h;simp only [d6,aj',aj7,f5,decide_eq_false_iff_not] at h;obtain ⟨U,ad⟩:=h;rcases U with U|U|U
  ·exact .inl ⟨x,aa,by simp [U,ad]⟩
  ·by_cases aj:x.1.op=2
   ·exact .inr (.inl ⟨x,aa,by simp [U,ad,aj]⟩)
   ·exact .inl ⟨x,aa,by simp [aj,ad]⟩
  ·by_cases aj:x.1.op=2
   ·exact .inr (.inr (.inl ⟨x,aa,by simp [U,ad,aj]⟩))
   ·exact .inl ⟨x,aa,by simp [aj,ad]⟩
 rw [f4 aq];have dH:∀ x∈eC L arg path,x.2=false→x.1.op=2∧x.1.cls≠1∧x.1.cls≠2:=by
  intro x aa ad;have:=al2.1 (am5.2 aq) x aa;unfold k4 at this;rw [ad] at this;simpa using this
 have bT:(eC L arg path).any (fun x => !decide (x.1.op=2) && !x.2)=false:=by
  rw [al2];intro x aa h;simp only [d6,aj7,decide_eq_false_iff_not] at h;exact h.1 (dH x aa h.2).1
 have bI:∀ c:Nat,c=1∨c=2→(eC L arg path).any (fun x=>decide (x.1.op=2)&&(!x.2&&decide (x.1.cls.toNat=c)))=false:=by
  intro c ph;rw [al2];intro x aa h;simp only [d6,aj7,f5] at h;have:=dH x aa h.2.1;have:=rX bE aa h.1;omega
 rw [bT,bI 1 (.inl C),bI 2 (.inr C),ak4,ak4,ak4];simp only;rw [BM];have jW:(jC w.owner.length L arg path).any (fun s => !hM L arg (path++[s]) && !dK (path++[s]))=((ek L) (bt arg path)).bB.any (fun s=>((ek L) (bt arg (path++[s]))).gx && !zz (path++[s])):=
  x0 gV fun s al=>by rw [eK s al,aw s (uu s al)]
 rw [jW];have Zy:(eC L arg path).any (fun x => !k4 x&&(x.2&&decide (x.1.cls.toNat=0)))=(eC L arg path).any (fun x=>decide (x.1.op=2)&&(x.2&&decide (x.1.cls.toNat=0))):=by
  rw [aj3,ai6,ai6];constructor <;>
  ·rintro ⟨x,aa,h⟩
   refine ⟨x,aa,?_⟩;unfold k4 at *;by_cases ad:x.1.op=2
   ·simp only [ad,decide_true,i8,d6,f5,an5,ak4,aj7,ao1,decide_eq_false_iff_not] at h ⊢
    have:=rX bE aa ad
    first|exact h.2|(obtain ⟨bk,bF⟩:=h;exact ⟨⟨by omega,by omega⟩,bk,bF⟩)
   ·simp [ad] at h
 have Zz:(jC w.owner.length L arg path).any (fun s => !dK (path++[s])&&decide (fT w s=0))=false:=by
  rw [al2];intro s al h;have:=IC hw bE (uu s al);simp only [d6,f5] at h;omega
 by_cases bp:((ek L) (bt arg path)).bB.any (fun s=>((ek L) (bt arg (path++[s]))).gx && !zz (path++[s]))=true
 ·rw [f7 bp,IB bp]
  have:∀ z:Bool,false=(if z=true then (0,false) else ((0,false):Nat×Bool)).2:=fun z=>by cases z<;>rfl
  exact this _
 rw [f4 bp];obtain ⟨hY,n',e,hm,av⟩:=ED (w:=w) (σ:=ek L) (cn:=zz) (arg:=arg) (path:=path) (l:=((ek L) (bt arg path)).bB) (m:=((ek L) (bt arg path)).fR) (n:=((ek L) (bt arg path)).no) (by simpa using bp);rw [e];simp only [ak4,Zz,Zy,ao3];cases bO:(eC L arg path).any (fun x=>decide (x.1.op=2)&&(x.2&&decide (x.1.cls.toNat=0))) with
 | true=>simp
 | false=>
  simp only [an4,i8,aj2,al0];have oY:∀ k,(jC w.owner.length L arg path).any (fun s => !hM L arg (path++[s])&&decide (fT w s=k))=((ek L) (bt arg path)).bB.any (fun s=>((ek L) (bt arg (path++[s]))).gx&&decide (fT w s=k)):=fun k=>x0 gV fun s al=>by rw [eK s al]
  have qx:∀ k,(jC w.owner.length L arg path).any (fun s => !dK (path++[s])&&decide (fT w s=k))=((ek L) (bt arg path)).bB.any (fun s => !zz (path++[s])&&decide (fT w s=k)):=fun k=>x0 gV fun s al=>by rw [aw s (uu s al)]
  have BN:∀ k,k<3→((ek L) (bt arg path)).bB.any (fun s=>((ek L) (bt arg (path++[s]))).gx&&decide (fT w s=k))=false:=fun k ax=>by
   rw [al2];intro s al h;have:=IC hw bE (uu s ((gV s).2 al));simp only [d6,f5] at h;omega
  have aa:∀ k,1≤k→¬ (k=1∨k=2)→∀ b:bG→Bool,(eC L arg path).any (fun x => !k4 x&&(b x&&decide (x.1.cls.toNat=k)))=(eC L arg path).any (fun x=>decide (x.1.op=2)&&(b x&&decide (x.1.cls.toNat=k))):=fun k U ad b=>by
   rw [aj3,ai6,ai6];constructor <;>
   ·rintro ⟨x,aa,h⟩
    refine ⟨x,aa,?_⟩;unfold k4 at *;by_cases aj:x.1.op=2
    ·simp only [aj,decide_true,i8,d6,f5,an5,ak4,aj7,ao1,decide_eq_false_iff_not] at h ⊢
     have:=rX bE aa aj
     first|exact h.2|(obtain ⟨bk,bF⟩:=h;exact ⟨⟨by omega,by omega⟩,bk,bF⟩)
    ·simp [aj] at h
  refine Zu hw ?_ (f7 C) ⟨?_,?_⟩ ?_ ?_
  ·intro k ax
   rw [f4 ak,hm,oY,vO aB bE];by_cases ur:k=1∨k=2
   ·rw [bI k ur]
    congr 1;rw [al2];intro x aa h;unfold k4 at h;simp only [d6,aj7,ao1,decide_eq_false_iff_not,f5,av5] at h;have:=rX bE aa h.1.1;omega
   ·rw [aa k ax ur (fun x => !x.2)]
  ·rw [hm,vO aB bE,bI 1 (.inl C),BN 1 ak];rfl
  ·rw [hm,vO aB bE,bI 2 (.inr C),BN 2 ak];rfl
  ·intro k ax
   rw [hm,aj'] at ax;rcases ax with ax|ax
   ·exact OL aB bE ax
   ·obtain ⟨s,al,ax⟩:=ai6.1 ax
    have:=IC hw bE (uu s ((gV s).2 al));simp only [d6,f5] at ax;omega
  ·intro k ax
   rw [av,qx,EC aB bE,aa k ak ak (fun x=>x.2)]
omit aB in
theorem OO:∀ (k:Nat) (path:List Int),path.length≤2→sV w L arg k path=s5 w (ek L) arg k path
  | 0,_,_=>rfl
  | k+1,path,aB=>by
    rw [sV,s5,Zs hw aB bE,Zt hw aB bE,Zx hw aB bE (fun s al=>OO k _ (s6 bE al).2.2)]
omit aB in
theorem OP:ub w L=pg w (ek L):=by
 unfold ub pg;congr 1;funext a;exact OO hw bE 3 [] bc
end
def BO (arg:Int) (path:List Int) (x:bG):Bool:=decide (x.1.arg=arg)&&(decide (path.length<x.1.path.length)&&sU x.1.path path)
def s7 (arg:Int) (path:List Int) (out:List Int) (x:bG):List Int:=
 if BO arg path x && !out.contains (x.1.path.getD path.length 0) then out++[x.1.path.getD path.length 0] else out
def nc (L:List bG) (arg:Int) (path:List Int):List Int:=L.foldl (s7 arg path) []
def vP (L:List bG) (arg:Int) (path:List Int):Bool := !(nc L arg path).any fun s => !hM L arg (path++[s])
def vQ (L:List bG) (arg:Int) (path:List Int):Bool:=
 match kZ (eC L arg path) (-1000000000,1000000000,[]) with
 | none=>false
 | some a=>decide (o8 (a.2.2.length+1) a.1 a.2.2≤a.2.1)
def x1 (L:List bG) (arg:Int) (path:List Int):Bool := !(eC L arg path).any t'
def qV:List bG→List Int×List Int→Option (List Int×List Int)
 | [],a=>some a
 | x::r,a=>
  if x.1.op≠2∨x.1.cls=1∨x.1.cls=2 then (if x.2 then qV r a else none)
  else if x.2 then qV r (a.1,a.2++[x.1.cls]) else qV r (a.1++[x.1.cls],a.2)
def s8 (w:bo) (L:List bG) (cn:List Int→Bool) (arg:Int) (path:List Int):List Int→List Int×List Int→Option (List Int×List Int)
 | [],a=>some a
 | s::r,a=>
  if !hM L arg (path++[s]) && !cn (path++[s]) then none
  else s8 w L cn arg path r (if hM L arg (path++[s]) then a.1 else a.1++[w.owner.getD s.toNat 0],if cn (path++[s]) then a.2 else a.2++[w.owner.getD s.toNat 0])
def rY (ps:List (List Int)):Nat→List Int→List Int
 | 0,m=>m
 | k+1,m=>if m.contains ((k:Int)+3) then rY ps k (m++ps.getD k []) else rY ps k m
def EE (ps:List (List Int)) (a:List Int×List Int):Bool:=a.2.any fun c=>decide (c=0)||(rY ps ps.length a.1).contains c
def vR (w:bo) (L:List bG) (cn:List Int→Bool) (arg:Int) (path:List Int):Bool:=
  match qV (eC L arg path) ([],[]) with
  | none=>false
  | some a=>match s8 w L cn arg path (nc L arg path) a with
    | none=>false
    | some a => !EE w.ps a
def oC (w:bo) (L:List bG) (arg:Int):Nat→List Int→Bool
 | 0,_=>false
 | k+1,path=>(vP L arg path&&(vQ L arg path||x1 L arg path))||vR w L (oC w L arg k) arg path
def EF (w:bo) (L:List bG):Bool:=(ak6 3).all fun a=>oC w L ((a:Nat):Int) 3 []
theorem ZA (arg:Int) (path:List Int) (x:bG) (s:Int):nS arg (path++[s]) x=true↔BO arg path x=true∧x.1.path.getD path.length 0=s:=by
 unfold nS BO sU;simp only [d6,f5,ao7,f0,ad'];constructor
 ·rintro ⟨U,ad,aj⟩
  have ay:x.1.path[path.length]? = some s:=by
   have:=ak5 (fun l=>l[path.length]?) aj;simp only [al',ak0 (t7 _),Nat.sub_self] at this;rw [f7 (ar8 _)] at this;simpa using this
  refine ⟨⟨U,by omega,by omega,?_⟩,by rw [d9,ay];rfl⟩;have:=ak5 (List.take path.length) aj;rw [List.take_take,ar2 ak,ay2] at this;exact this
 ·rintro ⟨⟨U,ad,aj,bk⟩,bF⟩
  refine ⟨U,by omega,?_⟩;rw [ay5,bk,f8 ad];rw [d9,f8 ad,al1] at bF;rw [bF];rfl
theorem ID (arg:Int) (path:List Int) (s:Int):∀ (l:List bG) (out:List Int),s∈l.foldl (s7 arg path) out↔s∈out∨l.any (nS arg (path++[s]))=true
  | [],out=>by simp
  | x::r,out=>by
    rw [ak9,ID arg path s r,ak',aj',ZA];unfold s7;cases ay:BO arg path x with
    | false=>simp
    | true=>
      simp only [i8,true_and];by_cases aw:out.contains (x.1.path.getD path.length 0)=true
      · rw [aw,f4 bc]
        have aw:x.1.path.getD path.length 0∈out:=by simpa using aw
        constructor
        · rintro (h|h)
          · exact .inl h
          · exact .inr (.inr h)
        · rintro (h|h|h)
          · exact .inl h
          · rw [← h];exact .inl aw
          · exact .inr h
      · rw [f7 uj]
        simp only [ab',i7];constructor
        · rintro ((h|h)|h)
          · exact .inl h
          · exact .inr (.inl h.symm)
          · exact .inr (.inr h)
        · rintro (h|h|h)
          · exact .inl (.inl h)
          · exact .inl (.inr h.symm)
          · exact .inr h
def pj (m:List Int) (f:Nat→Bool):Prop:=(∀ k:Nat,f k=m.contains (k:Int))∧∀ c∈m,0≤c
theorem pj.put {m:List Int} {f:Nat→Bool} (h:pj m f) {c:Int} (aw:0≤c):pj (m++[c]) (fun k=>if k=c.toNat then true else f k):=by
 refine ⟨fun k=>?_,fun x aa=>?_⟩
 ·rw [aj3]
  simp only [aw6,ab',i7,f5];by_cases e:k=c.toNat
  ·rw [f7 e];simp;right;omega
  ·rw [f4 e,h.1 k]
   simp only [aw6,f5];constructor
   ·exact .inl
   ·rintro (g|g)
    ·exact g
    ·omega
 ·rcases ab'.1 aa with aa|aa
  ·exact h.2 x aa
  ·rw [i7.1 aa];exact aw
theorem IE {w:bo} (hw:fJ w):∀ (k:Nat) (m:List Int) (f:Nat→Bool),k≤w.ps.length→pj m f→pj (rY w.ps k m) (fY w.ps k f)
  | 0,m,f,_,h=>h
  | k+1,m,f,ax,h=>by
    obtain ⟨l,aE⟩:∃ l,w.ps[k]? = some l:=⟨_,f8 ak⟩;have aA:w.ps.getD k []=l:=by rw [d9,aE];rfl
    have aj:f (3+k)=m.contains ((k:Int)+3):=by rw [h.1 (3+k)];congr 1;omega
    rw [rY,fY,aA,aj];cases aw:m.contains ((k:Int)+3) with
    | false=>
      rw [f4 bc];refine IE hw k m _ ak ⟨fun j=>?_,h.2⟩;simp only [aa',ao3];exact h.1 j
    | true=>
      rw [f7 C];refine IE hw k _ _ ak ⟨fun j=>?_,fun x aa=>?_⟩
      · simp only [i8]
        rw [h.1 j,aj3];simp
      · rcases ab'.1 aa with aa|aa
        · exact h.2 x aa
        · have:=tZ hw aE aa;omega
theorem EG {w:bo} {L:List bG} (bE:lS w L):∀ (l:List bG) (m n:List Int) (f g:Nat→Bool),(∀ x∈l,x∈L)→pj m f→pj n g→(∀ c∈n,c<3+(w.ps.length:Int)) →
    (qV l (m,n)=none∧qO l (f,g)=none)∨∃ hY n' j6 nW,qV l (m,n)=some (hY,n')∧qO l (f,g)=some (j6,nW)∧pj hY j6∧pj n' nW∧∀ c∈n',c<3+(w.ps.length:Int)
  | [],m,n,f,g,_,U,ad,aj => .inr ⟨m,n,f,g,rfl,rfl,U,ad,aj⟩
  | x::r,m,n,f,g,al,U,ad,aj=>by
    have aC:=fun y ar=>al y (f9 x ar)
    obtain ⟨g1,g2⟩:=bE x (al x g8);rw [qV,qO];split
    · split
      · exact EG bE r m n f g aC U ad aj
      · exact .inl ⟨rfl,rfl⟩
    · rename_i aw
      have ai:x.1.op=2:=Classical.byContradiction fun h=>aw (.inl h)
      have cm:0≤x.1.cls∧x.1.cls<3+(w.ps.length:Int):=by
        simp only [fr,g2,ai,ak2,d6,f5,ai4] at g1;exact g1.2.2.2.2.2.2.2.2
      split
      · exact EG bE r m _ f _ aC U (ad.put cm.1) (fun c aw=>by
          rcases ab'.1 aw with aw|aw
          · exact aj c aw
          · rw [i7.1 aw];exact cm.2)
      · exact EG bE r _ n _ g aC (U.put cm.1) ad aj
theorem BP {w:bo} (hw:fJ w) {L:List bG} (cn:List Int→Bool) (arg:Int) (path:List Int):∀ (l:List Int) (m n:List Int) (f g:Nat→Bool),(∀ s∈l,s.toNat<w.owner.length)→pj m f→pj n g→(∀ c∈n,c<3+(w.ps.length:Int)) →
    (s8 w L cn arg path l (m,n)=none∧qP w L cn arg path l (f,g)=none)∨∃ hY n' j6 nW,s8 w L cn arg path l (m,n)=some (hY,n')∧qP w L cn arg path l (f,g)=some (j6,nW)∧pj hY j6∧pj n' nW∧∀ c∈n',c<3+(w.ps.length:Int)
  | [],m,n,f,g,_,U,ad,aj => .inr ⟨m,n,f,g,rfl,rfl,U,ad,aj⟩
  | s::r,m,n,f,g,al,U,ad,aj=>by
    have aC:=fun y ar=>al y (f9 s ar)
    have dt:=al s g8;have ai:3≤w.owner.getD s.toNat 0∧w.owner.getD s.toNat 0<3+(w.ps.length:Int):=by
      rw [d9,f8 dt];exact hw.own _ (an9 dt)
    have av:∀ c∈n++[w.owner.getD s.toNat 0],c<3+(w.ps.length:Int):=fun c aw=>by
      rcases ab'.1 aw with aw|aw
      · exact aj c aw
      · rw [i7.1 aw];exact ai.2
    rw [s8,qP];split
    · exact .inl ⟨rfl,rfl⟩
    · cases hM L arg (path++[s])<;>cases cn (path++[s])<;>simp only [ak2,al0,aj2]
      · exact BP hw cn arg path r _ _ _ _ aC (U.put ak) (ad.put ak) av
      · exact BP hw cn arg path r _ _ _ _ aC (U.put ak) ad aj
      · exact BP hw cn arg path r _ _ _ _ aC U (ad.put ak) av
      · exact BP hw cn arg path r _ _ _ _ aC U ad aj
theorem ZB (w:bo) (L:List bG) (cn:List Int→Bool) (arg:Int) (path:List Int) {l kg:List Int} (h:∀ s,s∈l↔s∈kg) (a:(Nat→Bool)×(Nat→Bool)):qP w L cn arg path l a=qP w L cn arg path kg a:=by
 rw [BM,BM,x0 h (fun _ _=>rfl)];split
 ·rfl
 ·congr 2
  ·funext k;rw [x0 h (fun _ _=>rfl)]
  ·funext k;rw [x0 h (fun _ _=>rfl)]
section
variable {w:bo} (hw:fJ w) {L:List bG} (bE:lS w L)
include bE
theorem IF (arg:Int) (path:List Int) (s:Int):s∈nc L arg path↔s∈jC w.owner.length L arg path:=by
 unfold nc jC;rw [ID,ae'];constructor
 ·rintro (h|h)
  ·cases h
  ·have:=s6 bE (show o7 L arg path s=true from h)
   refine ⟨s.toNat,aj1.2 ⟨al4.2 ak,?_⟩,by omega⟩;rw [av1 ak];exact h
 ·rintro ⟨k,ax,rfl⟩
  exact .inr (aj1.1 ax).2
theorem OQ (arg:Int) (path:List Int):vP L arg path=rP w.owner.length L arg path:=by
 unfold vP rP;rw [x0 (IF bE arg path) (fun _ _=>rfl),ay3];simp
include hw
theorem ZC (cn:List Int→Bool) (arg:Int) (path:List Int):vR w L cn arg path=ua w L cn arg path:=by
 have js:pj [] (fun _=>false):=⟨fun _=>rfl,fun _ h=>by cases h⟩;unfold vR ua;rcases EG bE (eC L arg path) [] [] (fun _=>false) (fun _=>false) (fun x aa=>(aj1.1 aa).1) js js (fun _ h=>by cases h) with ⟨U,ad⟩|⟨m,n,f,g,U,ad,aj,bk,bF⟩
 ·rw [U,ad]
 rw [U,ad];simp only;rw [ZB w L cn arg path (fun s=>(IF bE arg path s).symm) (f,g)]
 rcases BP hw (L:=L) cn arg path (nc L arg path) m n f g (fun s al=>by
  have al:=(IF bE arg path s).1 al
  obtain ⟨k,ax,rfl⟩:=ae'.1 al
  rw [ai7]
  exact al4.1 (aj1.1 ax).1) aj bk bF with ⟨ck,cL⟩|⟨hY,n',j6,nW,ck,cL,ev,ee,lj⟩
 ·rw [ck,cL]
 rw [ck,cL];simp only;unfold EE;simp only;have rK:=IE hw w.ps.length hY j6 (t7 _) ev;have cm:∀ k:Nat,1≤k→fY w.ps w.ps.length (fun k=>if k=0 then false else j6 k) k=(rY w.ps w.ps.length hY).contains (k:Int):=by
  have:∀ (j:Nat) (f1 f2:Nat→Bool),(∀ k,1≤k→f1 k=f2 k)→∀ k,1≤k→fY w.ps j f1 k=fY w.ps j f2 k:=by
   intro j
   induction j with
   | zero=>intro f1 f2 h k ax;exact h k ax
   | succ j a8=>
    intro f1 f2 h k ax;rw [fY,fY];refine a8 _ _ (fun i aQ=>?_) k ax;rw [h i aQ,h (3+j) ak]
  intro k ax;rw [this _ _ j6 (fun i aQ=>by rw [f4 ak]) k ax];exact rK.1 k
 rw [aj3];simp only [aj7,al2,aj',f5,d6,ai4,al4];constructor
 ·intro h
  refine ⟨?_,fun k ax=>?_⟩
  ·rw [ee.1 0,am5]
   intro aw;exact h 0 uj (.inl C)
  ·rw [ay9]
   by_cases ay:nW k=true
   ·left
    rw [ee.1 k] at ay;have ay:(k:Int)∈n':=by simpa using ay
    have:=h _ ay;have ma:1≤k:=Classical.byContradiction fun ma=>this (.inl ak)
    rw [cm k ma,am5];exact fun aw=>this (.inr aw)
   ·right;simpa using ay
 ·rintro ⟨bn,h⟩ c aw
  have AJ:=ee.2 c aw;have um:=lj c aw;have BQ:nW c.toNat=true:=by rw [ee.1];simp;rw [Int.max_eq_left AJ];exact aw
  rintro (rfl|hu)
  ·rw [show (0:Int).toNat=0 from rfl,bn] at BQ;cases BQ
  ·have bO:c.toNat≠0:=fun e=>by rw [e,bn] at BQ;cases BQ
   have:=h c.toNat ak;rw [BQ,cm _ ak,av1 AJ,hu] at this;cases this
theorem OR (arg:Int):∀ (k:Nat) (path:List Int),oC w L arg k path=sV w L arg k path
  | 0,_=>rfl
  | k+1,path=>by
    have bT:vA w.owner.length L arg path=(vQ L arg path&&vP L arg path):=by
      unfold vA vQ;rw [OQ bE arg path];cases kZ (eC L arg path) (-1000000000,1000000000,[]) with
      | none=>rfl
      | some a=>rfl
    have bI:xC w.owner.length L arg path=(x1 L arg path&&vP L arg path):=by
      unfold xC x1;rw [OQ bE arg path,ay3]
    have eh:oC w L arg k=sV w L arg k:=funext fun q=>OR arg k q
    rw [oC,sV,bT,bI,ZC hw bE,eh];cases vP L arg path<;>simp [ap3]
theorem ZD:EF w L=ub w L:=by
 unfold EF ub;congr 1;funext a;exact OR hw bE _ _ _
end
theorem IG (ps:List (List Int)):∀ (m:Nat) (f:Nat→Bool) (k:Nat),f k=true→fY ps m f k=true
  | 0,f,k,h=>h
  | m+1,f,k,h=>by
    rw [fY];exact IG ps m _ k (by simp only [h,ar'])
theorem OS {w:bo} (hw:fJ w):∀ (m:Nat) (f:Nat→Bool) (k:Nat),m≤w.ps.length→3+m≤k→fY w.ps m f k=f k
  | 0,f,k,_,_=>rfl
  | m+1,f,k,hm,ax=>by
    obtain ⟨l,aE⟩:∃ l,w.ps[m]? = some l:=⟨_,f8 ak⟩;rw [fY,OS hw m _ k ak ak,d9,aE,al1];have:l.contains (k:Int)=false:=by
      rw [am5];intro h;have:=tZ hw aE (am'.1 h);omega
    rw [this,an3,ao3]
theorem OT {w:bo} (hw:fJ w):∀ (m:Nat) (f:Nat→Bool) (j:Nat) (l:List Int) (p:Int),m≤w.ps.length→j<m→w.ps[j]? = some l→fY w.ps m f (3+j)=true→p∈l→fY w.ps m f p.toNat=true
  | m+1,f,j,l,p,hm,aK,aE,h,aB=>by
    rw [fY] at h ⊢;by_cases e:j=m
    · subst e
      rw [OS hw j _ _ ak (t7 _)] at h;have Oy:=tZ hw aE aB;have aA:w.ps.getD j []=l:=by rw [d9,aE];rfl
      rw [aA] at h;have aZ:f (3+j)=true:=by
        rcases aD6.1 h with h|h
        · exact h
        · exact (at0.1 h).1
      refine IG _ _ _ _ ?_;simp only [aA,aZ,i8,aj',am'];right;rw [av1 ak];exact aB
    · exact OT hw m _ j l p ak ak aE h aB
theorem OU {w:bo} (hw:fJ w) {S:Nat→Bool} (cK:∀ (j:Nat) (l:List Int) (p:Int),w.ps[j]? = some l→S (3+j)=true→p∈l→S p.toNat=true):∀ (m:Nat) (f:Nat→Bool) (k:Nat),m≤w.ps.length→(∀ k,f k=true→S k=true)→fY w.ps m f k=true→S k=true
  | 0,f,k,_,aZ,h=>aZ k h
  | m+1,f,k,hm,aZ,h=>by
    obtain ⟨l,aE⟩:∃ l,w.ps[m]? = some l:=⟨_,f8 ak⟩;rw [fY] at h;refine OU hw cK m _ k ak (fun i aQ=>?_) h;rw [d9,aE,al1] at aQ;rcases aD6.1 aQ with aQ|aQ
    · exact aZ i aQ
    · obtain ⟨U,ad⟩:=at0.1 aQ
      have:=cK m l (i:Int) aE (aZ _ U) (am'.1 ad);rwa [ai7] at this
inductive h5 where
 | int (n:Int)
 | none
 | obj (S:Nat→Bool) (kE:Int→h5)
namespace h5
def pk (w:bo):h5→List Int→Option h5
 | t,[]=>some t
 | .obj S kE,s::r=>if S (fT w s) then (kE s).pk w r else av7
 | .int _,_::_=>av7
 | .none,_::_=>av7
def test (x:ae):h5→Bool
 | .int n=>if x.op=2 then decide (x.cls≤1) else if x.op=3 then decide (n<x.n) else decide (n=x.n)
 | .none=>decide (x.op=2)&&(decide (x.cls=0)||decide (x.cls=2))
 | .obj S _=>decide (x.op=2)&&(decide (x.cls=0)||S x.cls.toNat)
def sat (w:bo) (t:h5) (r:List Int) (x:ae):Bool:=match t.pk w r with
 | av7=>false
 | some u=>u.test x
def ok (w:bo):h5→Prop
 | .int n => -1000000000≤n∧n≤1000000000
 | .none=>True
 | .obj S kE=>(∀ (j:Nat) (l:List Int) (p:Int),w.ps[j]? = some l→S (3+j)=true→p∈l→S p.toNat=true)∧(∀ k,S k=true→3≤k)∧∀ s,S (fT w s)=true→(kE s).ok w
end h5
def nd (w:bo) (L:List bG) (arg:Int) (path:List Int) (t:h5):Prop:=t.ok w∧∀ x∈L,x.1.arg=arg→∀ r,x.1.path=path++r→t.sat w r x.1 = !x.2
theorem OV:∀ (k:Nat) (eo n:Int) (l:List Int),eo≤n→n∉l→o8 k eo l≤n
  | 0,eo,n,l,h,_=>h
  | k+1,eo,n,l,h,av=>by
    rw [o8];split
    · rename_i aw
      have aw:eo∈l:=by simpa using aw
      have:eo≠n:=fun e=>av (e ▸ aw)
      exact OV k (eo+1) n l ak av
    · exact h
theorem OW:∀ (k:Nat) (eo:Int) (l:List Int),eo≤o8 k eo l
  | 0,eo,l=>ap8 _
  | k+1,eo,l=>by
    rw [o8];split
    · have:=OW k (eo+1) l;omega
    · exact ap8 _
theorem OX:∀ (k:Nat) (eo:Int) (l:List Int),o8 k eo l∈l→∀ i:Nat,i<k→(eo+(i:Int))∈l
  | k+1,eo,l,h,i,aQ=>by
    rw [o8] at h;split at h
    · rename_i aw
      have aw:eo∈l:=by simpa using aw
      cases i with
      | zero=>simpa using aw
      | succ i=>
        have:=OX k (eo+1) l h i ak;rwa [show eo+((i+1:Nat):Int)=eo+1+(i:Int) by omega]
    · rename_i aw
      exact absurd h uj
theorem ZE (eo:Int) (l:List Int):o8 (l.length+1) eo l∉l:=fun h=>by
 have aC:=OX _ eo l h;have al:(ak6 (l.length+1)).map (fun i:Nat=>eo+(i:Int)) ⊆ l:=fun x aa=>by
  obtain ⟨i,aQ,rfl⟩:=ae'.1 aa;exact aC i (al4.1 aQ)
 have av:((ak6 (l.length+1)).map (fun i:Nat=>eo+(i:Int))).Nodup:=by
  exact List.pairwise_map.2 (List.nodup_range.imp fun h e=>h ak)
 have:=av.length_le_of_subset al;rw [f6,List.length_range] at this;omega
theorem OY {n:Int}:∀ (l:List bG) (a:Int×Int×List Int),(∀ x∈l,x.1.op=2∨x.1.op=3∨x.1.op=4)→(∀ x∈l,(h5.int n).test x.1 = !x.2)→a.1≤n→n≤a.2.1→n∉a.2.2→∃ b,kZ l a=some b∧b.1≤n∧n≤b.2.1∧n∉b.2.2
  | [],a,_,_,U,ad,aj=>⟨a,rfl,U,ad,aj⟩
  | x::r,a,ai,al,U,ad,aj=>by
    have a8:=fun a=>OY (n:=n) r a (fun y ar=>ai y (f9 x ar)) (fun y ar=>al y (f9 x ar))
    have aa:=al x g8;have wY:=ai x g8;rw [h5.test] at aa;rw [kZ];by_cases nC:x.1.op=2
    · rw [f7 nC] at aa ⊢
      have:(decide (x.1.cls>1) != x.2)=false:=by
        cases aq:x.2<;>rw [aq] at aa<;>simp at aa ⊢ <;> omega
      rw [this,f4 bc];exact a8 a U ad aj
    · rw [f4 nC] at aa ⊢
      by_cases sv:x.1.op=3
      · rw [f7 sv] at aa ⊢
        cases aq:x.2 with
        | true=>
          rw [aq] at aa;simp at aa;rw [f7 C];exact a8 _ (by simp only;omega) ad aj
        | false=>
          rw [aq] at aa;simp at aa;rw [f4 bc];exact a8 _ U (by simp only;omega) aj
      · rw [f4 sv] at aa ⊢
        cases aq:x.2 with
        | true=>
          rw [aq] at aa;simp at aa;rw [f7 C];exact a8 _ U ad (by simp only [ab',i7,not_or];exact ⟨aj,aa⟩)
        | false=>
          rw [aq] at aa;simp at aa;rw [f4 bc];exact a8 _ (by simp only;omega) (by simp only;omega) aj
theorem OZ:∀ (l:List bG) (a b:Int×Int×List Int),(∀ x∈l,x.1.op=2∨x.1.op=3∨x.1.op=4)→kZ l a=some b→a.1≤b.1∧b.2.1≤a.2.1∧(∀ z∈a.2.2,z∈b.2.2)∧∀ n,b.1≤n→n≤b.2.1→n∉b.2.2→∀ x∈l,(h5.int n).test x.1 = !x.2
  | [],a,b,_,h=>by rw [kZ] at h;cases h;exact ⟨ap8 _,ap8 _,fun _ h=>h,fun _ _ _ _ x aa=>by cases aa⟩
  | x::r,a,b,ai,h=>by
    have a8:=fun a=>OZ r a b (fun y ar=>ai y (f9 x ar))
    have wY:=ai x g8;rw [kZ] at h;by_cases ad:x.1.op=2
    · rw [f7 ad] at h
      split at h
      · cases h
      · rename_i aw
        obtain ⟨i1,i2,i3,i4⟩:=a8 _ h;refine ⟨i1,i2,i3,fun n g1 g2 g3 y ar=>?_⟩;rcases ai1.1 ar with rfl|ar
        · rw [h5.test,f7 ad]
          cases aq:y.2<;>rw [aq] at aw<;>simp at aw ⊢ <;> omega
        · exact i4 n g1 g2 g3 y ar
    · rw [f4 ad] at h
      by_cases aj:x.1.op=3
      · rw [f7 aj] at h
        cases aq:x.2 with
        | true=>
          rw [aq,f7 C] at h;obtain ⟨i1,i2,i3,i4⟩:=a8 _ h;refine ⟨by simp only at i1;omega,i2,i3,fun n g1 g2 g3 y ar=>?_⟩;rcases ai1.1 ar with rfl|ar
          · rw [h5.test,f4 ad,f7 aj,aq]
            simp only at i1;simp;omega
          · exact i4 n g1 g2 g3 y ar
        | false=>
          rw [aq,f4 bc] at h;obtain ⟨i1,i2,i3,i4⟩:=a8 _ h;refine ⟨i1,by simp only at i2;omega,i3,fun n g1 g2 g3 y ar=>?_⟩;rcases ai1.1 ar with rfl|ar
          · rw [h5.test,f4 ad,f7 aj,aq]
            simp only at i2;simp;omega
          · exact i4 n g1 g2 g3 y ar
      · rw [f4 aj] at h
        cases aq:x.2 with
        | true=>
          rw [aq,f7 C] at h;obtain ⟨i1,i2,i3,i4⟩:=a8 _ h;refine ⟨i1,i2,fun z bO=>i3 z (by simp only;exact al3 _ bO),fun n g1 g2 g3 y ar=>?_⟩;rcases ai1.1 ar with rfl|ar
          · have:=i3 y.1.n bc
            rw [h5.test,f4 ad,f4 aj,aq];simp only [an5,decide_eq_false_iff_not];intro e;exact g3 (e ▸ this)
          · exact i4 n g1 g2 g3 y ar
        | false=>
          rw [aq,f4 bc] at h;obtain ⟨i1,i2,i3,i4⟩:=a8 _ h;refine ⟨by simp only at i1;omega,by simp only at i2;omega,i3,fun n g1 g2 g3 y ar=>?_⟩;rcases ai1.1 ar with rfl|ar
          · rw [h5.test,f4 ad,f4 aj,aq]
            simp only at i1 i2;simp;omega
          · exact i4 n g1 g2 g3 y ar
theorem BR {arg:Int} {q:List Int} {x:bG}:nS arg q x=true↔x.1.arg=arg∧∃ r,x.1.path=q++r:=by
  unfold nS sU;simp only [d6,f5,ao7];constructor
  · rintro ⟨U,-,aj⟩
    refine ⟨U,x.1.path.drop q.length,?_⟩
    have u:=ak5 List.length aj
    rw [ah'] at u
    rw [← aj,ah',ar2 (by omega)]
    exact (am2 _ _).symm
  · rintro ⟨U,r,aj⟩
    exact ⟨U,by rw [aj,f0];omega,by rw [aj,ay2]⟩
theorem x2 {L:List bG} {arg:Int} {path:List Int} {x:bG}:x∈eC L arg path↔x∈L∧x.1.arg=arg∧x.1.path=path:=by
 unfold eC rO;rw [aj1];simp
theorem O0 {w:bo} {L:List bG} (bE:lS w L):∀ x∈L,x.1.op=2∨x.1.op=3∨x.1.op=4:=fun x aa=>by
 have:=(bE x aa).2;unfold ae.c7 at this;simp only [d6,f5] at this;omega
section
variable {w:bo} (hw:fJ w) {L:List bG} (bE:lS w L) {arg:Int}
include bE
theorem O1 {path:List Int} {x:bG} {s:Int} {r:List Int} (aa:x∈L) (bp:x.1.arg=arg) (aB:x.1.path=path++s::r):s∈jC w.owner.length L arg path:=by
 have h:o7 L arg path s=true:=ai6.2 ⟨x,aa,BR.2 ⟨bp,r,by rw [aB,aj0];rfl⟩⟩;have:=s6 bE h;unfold jC;refine ae'.2 ⟨s.toNat,aj1.2 ⟨al4.2 ak,?_⟩,by omega⟩;rw [av1 ak];exact h
omit bE in
theorem O2 {path:List Int} {n:Nat} {t:h5} (aN:∀ s r,t.pk w (s::r)=none) (h:nd w L arg path t):rP n L arg path=true:=by
 unfold rP;rw [ai4];intro s al;unfold hM;rw [aj7,al2];intro x aa aw;obtain ⟨U,ad⟩:=at0.1 aw;obtain ⟨aj,r,bk⟩:=BR.1 ad;have:=h.2 x aa aj (s::r) (by rw [bk,aj0];rfl);unfold h5.sat at this;rw [aN] at this;simp only at this;rw [← this] at U;cases U
theorem O3 {path:List Int} {x:bG} {s:Int} {r:List Int} (he:rP w.owner.length L arg path=true) (aa:x∈L) (bp:x.1.arg=arg) (aB:x.1.path=path++s::r):x.2=true:=by
 unfold rP at he;rw [ai4] at he;have:=he s (O1 bE aa bp aB);unfold hM at this;rw [aj7,al2] at this;have:=this x aa;rw [BR.2 ⟨bp,r,by rw [aB,aj0];rfl⟩,as0] at this;simpa using this
omit bE in
theorem IH {path:List Int} {t:h5} (h:nd w L arg path t):∀ x∈eC L arg path,t.test x.1 = !x.2:=fun x aa=>by
 obtain ⟨U,ad,aj⟩:=x2.1 aa;have:=h.2 x U ad [] (by rw [aj,d7]);unfold h5.sat at this;have e:t.pk w []=some t:=by cases t<;>rfl
 rw [e] at this;exact this
theorem ZF {path:List Int}:vA w.owner.length L arg path=true↔∃ n,nd w L arg path (.int n):=by
 constructor
 ·intro h
  unfold vA at h;cases aQ:kZ (eC L arg path) (-1000000000,1000000000,[]) with
  | none=>rw [aQ] at h;cases h
  | some b=>
   rw [aQ] at h;simp only [d6,f5] at h;obtain ⟨i1,i2,-,i4⟩:=OZ _ _ _ (fun x aa=>O0 bE x (x2.1 aa).1) aQ;have iD:=OW (b.2.2.length+1) b.1 b.2.2;have mP:=ZE b.1 b.2.2;simp only at i1 i2;refine ⟨o8 (b.2.2.length+1) b.1 b.2.2,⟨by omega,by omega⟩,fun x aa bp r aC=>?_⟩;cases r with
   | nil=>
    rw [d7] at aC;exact i4 _ iD h.1 mP x (x2.2 ⟨aa,bp,aC⟩)
   | cons s r=>
    have:=O3 bE h.2 aa bp aC;rw [this];rfl
 ·rintro ⟨n,h⟩
  obtain ⟨b,e,g1,g2,g3⟩:=OY (n:=n) (eC L arg path) (-1000000000,1000000000,[]) (fun x aa=>O0 bE x (x2.1 aa).1) (IH h) h.1.1 h.1.2 (fun h=>by cases h);unfold vA;rw [e];simp only [d6,f5];have:=OV (b.2.2.length+1) b.1 n b.2.2 g1 g3;exact ⟨by omega,O2 (fun _ _=>rfl) h⟩
theorem ZG {path:List Int}:xC w.owner.length L arg path=true↔nd w L arg path .none:=by
 unfold xC;rw [d6,ai4];constructor
 ·rintro ⟨U,ad⟩
  refine ⟨trivial,fun x aa bp r aC=>?_⟩;cases r with
  | nil=>
   rw [d7] at aC;have:=U x (x2.2 ⟨aa,bp,aC⟩);unfold t' at this;show (decide (x.1.op=2)&&(decide (x.1.cls=0)||decide (x.1.cls=2))) = !x.2;revert this;cases (decide (x.1.op=2)&&(decide (x.1.cls=0)||decide (x.1.cls=2)))<;>cases x.2<;>simp
  | cons s r=>
   have:=O3 bE ad aa bp aC;rw [this];rfl
 ·intro h
  refine ⟨fun x aa=>?_,O2 (fun _ _=>rfl) h⟩;have:=IH h x aa;rw [h5.test] at this;unfold t';rw [this];cases x.2<;>rfl
theorem O4 (S:Nat→Bool):∀ (l:List bG) (f g:Nat→Bool),(∀ x∈l,x∈L)→(∀ x∈l,(decide (x.1.op=2)&&(decide (x.1.cls=0)||S x.1.cls.toNat)) = !x.2)→(∀ k,S k=true→3≤k)→(∀ k,f k=true→k=0∨S k=true)→(∀ k,g k=true→k≠0∧S k=false) →
    ∃ j6 nW,qO l (f,g)=some (j6,nW)∧(∀ k,j6 k=true→k=0∨S k=true)∧∀ k,nW k=true→k≠0∧S k=false
  | [],f,g,_,_,_,aZ,ay=>⟨f,g,rfl,aZ,ay⟩
  | x::r,f,g,aE,al,cK,aZ,ay=>by
    have a8:=fun f g=>O4 S r f g (fun y ar=>aE y (f9 x ar)) (fun y ar=>al y (f9 x ar)) cK
    have aa:=al x g8;have O5:=bE x (aE x g8);rw [qO];by_cases aw:x.1.op≠2∨x.1.cls=1∨x.1.cls=2
    · rw [f7 aw]
      have mP:(decide (x.1.op=2)&&(decide (x.1.cls=0)||S x.1.cls.toNat))=false:=by
        rw [am5];intro h;simp only [d6,aj',f5] at h;rcases h.2 with ad|ad
        · omega
        · have:=cK _ ad;omega
      rw [mP] at aa;have:x.2=true:=by cases aq:x.2<;>rw [aq] at aa<;>simp at aa ⊢
      rw [this,f7 C];exact a8 f g aZ ay
    · rw [f4 aw]
      have ai:x.1.op=2:=Classical.byContradiction fun h=>aw (.inl h)
      have cm:0≤x.1.cls:=by
        have g1:=O5.1;simp only [fr,O5.2,ai,ak2,d6,f5,ai4] at g1;exact g1.2.2.2.2.2.2.2.2.1
      rw [ai,i6 C,i8] at aa;cases aq:x.2 with
      | true=>
        rw [aq] at aa;simp only [an5,ao1,decide_eq_false_iff_not] at aa;rw [f7 C];refine a8 _ _ aZ (fun k ax=>?_);split at ax
        · rename_i e;rw [e];exact ⟨by omega,aa.2⟩
        · exact ay k ax
      | false=>
        rw [aq] at aa;simp only [an4,aj',f5] at aa;rw [f4 bc];refine a8 _ _ (fun k ax=>?_) ay;split at ax
        · rename_i e;rw [e]
          rcases aa with aa|aa
          · left;omega
          · exact .inr aa
        · exact aZ k ax
omit bE in
theorem O6 (S:Nat→Bool) (cn:List Int→Bool) (path:List Int) (cK:∀ k,S k=true→3≤k) (qH:∀ s∈jC w.owner.length L arg path,fT w s≠0) (U:∀ s∈jC w.owner.length L arg path,hM L arg (path++[s])=false→S (fT w s)=true) (ad:∀ s∈jC w.owner.length L arg path,S (fT w s)=true→cn (path++[s])=true):∀ (l:List Int) (f g:Nat→Bool),(∀ s∈l,s∈jC w.owner.length L arg path)→(∀ k,f k=true→k=0∨S k=true)→(∀ k,g k=true→k≠0∧S k=false) →
    ∃ j6 nW,qP w L cn arg path l (f,g)=some (j6,nW)∧(∀ k,j6 k=true→k=0∨S k=true)∧∀ k,nW k=true→k≠0∧S k=false
  | [],f,g,_,aZ,ay=>⟨f,g,rfl,aZ,ay⟩
  | s::r,f,g,aE,aZ,ay=>by
    have a8:=fun f g=>O6 S cn path cK qH U ad r f g (fun y ar=>aE y (f9 s ar))
    have al:=aE s g8;rw [qP];have aw:(!hM L arg (path++[s]) && !cn (path++[s]))=false:=by
      cases aq:hM L arg (path++[s]) with
      | true=>rfl
      | false=>rw [ad s al (U s al aq)];rfl
    rw [aw,f4 bc];refine a8 _ _ (fun k ax=>?_) (fun k ax=>?_)
    · cases aq:hM L arg (path++[s]) with
      | true=>rw [aq,f7 C] at ax;exact aZ k ax
      | false=>
        rw [aq,f4 bc] at ax;simp only at ax;split at ax
        · rename_i e;rw [e];exact .inr (U s al aq)
        · exact aZ k ax
    · cases aq:cn (path++[s]) with
      | true=>rw [aq,f7 C] at ax;exact ay k ax
      | false=>
        rw [aq,f4 bc] at ax;simp only at ax;split at ax
        · rename_i e;rw [e]
          refine ⟨qH s al,?_⟩;cases bO:S (fT w s) with
          | false=>exact bO
          | true=>rw [ad s al bO] at aq;cases aq
        · exact ay k ax
end
def gY (p:aU):List (List Int):=p.ch.map gG.parents
def gI:Nat→List gG→List Int
 | _,[]=>[]
 | i,c::r=>ai0 c.bB.length ((i:Int)+3)++gI (i+1) r
def bU (p:aU):bo:=⟨gY p,gI 0 p.ch⟩
def pn:Int→List Int→Option Int
 | n,[]=>some n
 | n,s::r=>if s=n then pn (n+1) r else none
def mB:Int→List gG→Option Int
 | n,[]=>some n
 | n,c::r=>if c.bB.length≤4 then (pn n c.bB).bind fun m=>mB m r else none
def nf (cs:List gG):Nat→List Int→List Int→List Int
 | 0,_,out=>out
 | k+1,up,out=>
  if up.contains ((k:Int)+3) then nf cs k (up++(cs.getD k default).parents) (out++(cs.getD k default).bB)
  else nf cs k up out
def hO (l:List Int):List Int:=l.mergeSort fun a b=>decide (a≤b)
def lW (p:aU) (c:Nat):List Int:=hO (nf p.ch (c+1) [(c:Int)+3] [])
def rZ (p6:List Int):List Int→List hD→Bool
 | _,[]=>true
 | seen,x::r=>p6.contains x.slot&&(!seen.contains x.slot&&(lr x.n&&rZ p6 (seen++[x.slot]) r))
def oD (p:aU) (i:Nat):List Int:=(gO (gY p) (2+(gY p).length)).getD i []
def zA (p:aU) (i:Nat) (c:gG):Bool := !(oD p (i+3)).isEmpty&&rZ (lW p i) [] c.inits
def qW (p:aU):Nat→List gG→Bool
 | _,[]=>true
 | i,c::r=>zA p i c&&qW p (i+1) r
def r0 (p:aU):Bool:=decide (p.ch.length≤10)&&((mB 0 p.ch==some p.bB)&&(o4 (gY p)&&qW p 0 p.ch))
def po (p:aU) (x:eW) (size:Int):Bool:=
 if x.op=1 then lr x.n
 else if x.op=3 then decide (x.n≥0)&&decide (x.n<size)
 else if x.op=4∨x.op=7 then decide (x.n≥0)&&decide (x.n<p.bB)
 else if x.op=6∨x.op=8 then decide (x.n≥3)&&decide (x.n<3+(p.ch.length:Int))
 else if x.op=5 then decide (x.n≥0)&&decide (x.n<(p.dX.length:Int))
 else decide (x.n≥0)&&decide (x.n<1)
def x3 (p:aU) (x:eW):Option Int:=
 if x.op=5 then some (p.dX.getD x.n.toNat 0)
 else if x.op=1∨x.op=2∨x.op=3∨x.op=6∨x.op=18 then some 0
 else if x.op=4∨x.op=8∨x.op=17 then some 1
 else if x.op=7∨x.op=9∨x.op=11∨x.op=12∨x.op=13∨x.op=14∨x.op=15∨x.op=16 then some 2
 else if x.op=10 then some 3
 else none
def lC (p:aU) (next:Bool) (x:eW) (size:Int):Bool:=po p x size&&((next||decide (x.op≠18))&&(x3 p x==some (x.kids.length:Int)))
def x4 (g:Int→Int→List Int→Option (List Int)) (isLet:Bool) (size:Int):Nat→List Int→List Int→Option (List Int)
 | _,[],out=>some out
 | i,k::r,out=>(g k (if isLet&&i==1 then size+1 else size) out).bind (x4 g isLet size (i+1) r)
def uv (p:aU) (n:Int) (out:List Int):Bool:=decide (n≥0)&&(decide (n<(p.nodes.length:Int))&&decide (out.getD n.toNat 0<0))
def visitM (p:aU) (next:Bool):Nat→Int→Int→List Int→Option (List Int)
 | 0,_,_,_=>none
 | f+1,n,size,out=>
  if uv p n out then
   if lC p next (p.nodes.getD n.toNat default) size then x4 (visitM p next f) (decide ((p.nodes.getD n.toNat default).op=9)) size 0 (p.nodes.getD n.toNat default).kids (out.set n.toNat size)
   else none
  else none
def s9 (p:aU) (m:hh):Bool:=
 decide (m.kind≥1)&&(decide (m.kind≤4)&&(decide (m.gen≥0)&&(decide (m.gen<(p.dX.length:Int))&&(hi (bU p) m.fact&&decide (zf m.fact≤p.dX.getD m.gen.toNat 0)))))
def uw (k:Int):Bool:=decide (k=1)||decide (k=4)
def ng (p:aU):List hh→List Int→Option (List Int)
 | [],out=>some out
 | m::r,out=>if s9 p m then (visitM p (uw m.kind) 12 m.node (p.dX.getD m.gen.toNat 0) out).bind (ng p r) else none
def p7 (p:aU):Bool:=
 decide (p.dX.length≤8)&&(decide (p.methods.length≤16)&&(decide (p.nodes.length≥1)&&(decide (p.nodes.length≤120)&&p.dX.all fun n=>decide (n≥1)&&decide (n≤3))))
def pq (p:aU):Option (List Int):=
 if r0 p&&p7 p then
  (ng p p.methods (ai0 p.nodes.length (-1))).bind fun out=>(visitM p false 12 p.main 0 out).bind fun out=>if out.contains (-1) then none else some out
 else none
def cS (p:aU):Bool:=(pq p).isSome
theorem O7:∀ (l:List gG) (i:Nat),(∀ c∈l,c.bB.length≤4)→(gI i l).length≤4*l.length
  | [],_,_=>t7 _
  | c::r,i,h=>by
    have U:=O7 r (i+1) (fun x aa=>h x (f9 _ aa));have ad:=h c g8;rw [gI,f0,am3,i9];omega
theorem EH:∀ (l:List gG) (i:Nat),∀ o∈gI i l,(i:Int)+3≤o∧o<3+(i:Int)+(l.length:Int)
  | [],_,o,h=>by cases h
  | c::r,i,o,h=>by
    rw [gI] at h;rcases ab'.1 h with h|h
    · obtain ⟨_,rfl⟩:=ax4.1 h
      rw [i9];omega
    · have:=EH r (i+1) o h
      rw [i9];omega
theorem EI:∀ {l:List gG} {n m:Int},mB n l=some m→∀ c∈l,c.bB.length≤4
  | c::r,n,m,h,x,aa=>by
    rw [mB] at h;split at h
    · rename_i aw
      cases av:pn n c.bB with
      | none=>rw [av] at h;cases h
      | some k=>
        rw [av] at h;rcases ai1.1 aa with rfl|aa
        · exact aw
        · exact EI (l:=r) h x aa
    · cases h
theorem II:∀ (g:List (List Int)) (i:Nat),sS i g=true→xx i g=true∧∀ l∈g,l.length≤3
  | [],_,_=>⟨rfl,fun l h=>by cases h⟩
  | x::r,i,h=>by
    rw [sS] at h;simp only [d6,f5] at h;obtain ⟨U,ad⟩:=II r (i+1) h.2.2;refine ⟨by rw [xx,h.2.1,U];rfl,fun l aE=>?_⟩;rcases ai1.1 aE with rfl|aE
    · exact h.1
    · exact ad l aE
theorem ZH {p:aU} (aw:p.ch.length≤10) {n:Int} (al:mB 0 p.ch=some n) (ay:o4 (gY p)=true):fJ (bU p):=by
 unfold o4 at ay;rw [d6] at ay;obtain ⟨g1,g2⟩:=II _ _ ay.2;have aE:(gY p).length=p.ch.length:=f6 _;have U:=O7 p.ch 0 (EI al);refine ⟨by show (gY p).length≤60;omega,g2,g1,by show (gI 0 p.ch).length≤40;omega,fun o ai=>?_⟩;have:=EH p.ch 0 o ai;show 3≤o∧o<3+((gY p).length:Int);omega
theorem O8 {p:aU} (h:r0 p=true):fJ (bU p):=by
 unfold r0 at h;simp only [d6,f5,ao7] at h;exact ZH h.1 h.2.1 h.2.2.1
mutual
def kF:ae→List ae
 | .mk o a p c n ks=>if (ae.mk o a p c n ks).c7 then [.mk o a p c n ks] else oE ks
def oE:List ae→List ae
 | []=>[]
 | x::r=>kF x++oE r
end
theorem IJ (f:ae):kF f=if f.c7 then [f] else oE f.kids:=by cases f;rw [kF];rfl
def fZ (f g:ae):Bool:=decide (f.op=g.op)&&(decide (f.arg=g.arg)&&(decide (f.cls=g.cls)&&(decide (f.n=g.n)&&f.path==g.path)))
def jl (l:List ae) (f:ae):List ae:=if l.any (fun x=>fZ x f) then l else l++[f]
def mC (gen:Int) (l:List ae) (m:hh):List ae:=if m.gen=gen then (kF m.fact).foldl jl l else l
def dG (p:aU) (gen:Int):List ae:=p.methods.foldl (mC gen) []
def vS (p:aU) (gen:Int):Bool:=decide (gen≥0)&&decide (gen<(p.dX.length:Int))
def km (p:aU) (gen:Int):Int:=if cS p&&vS p gen then (if (dG p gen).length≤7 then 0 else 3) else 2
def s':Nat→List ae→Nat→List bG
 | _,[],_=>[]
 | i,f::r,v=>(f,!v.testBit i)::s' (i+1) r v
def oF (l:List ae) (v:Nat):List bG:=s' 0 l v
def r1 (w:bo) (l:List ae) (v:Nat):Bool:=pg w (ek (oF l v))
def nX (w:bo) (l:List ae):List Nat:=(ak6 (2^l.length)).filter (r1 w l)
mutual
def ux (l:List ae) (v:Nat):ae→Bool
 | .mk o a p c n ks=>
  if o=1 then true
  else if o=5 then !(pr l v 0 ks)
  else if o=6 then pr l v 0 ks&&pr l v 1 ks
  else if o=7 then pr l v 0 ks||pr l v 1 ks
  else match l.findIdx? (fun x=>fZ x (.mk o a p c n ks)) with
   | some i=>v.testBit i
   | none=>false
def pr (l:List ae) (v:Nat):Nat→List ae→Bool
 | _,[]=>false
 | 0,x::_=>ux l v x
 | n+1,_::r=>pr l v n r
end
theorem EJ (l:List ae) (v:Nat):∀ (n:Nat) (ks:List ae) (x:ae),ks[n]? = some x→pr l v n ks=ux l v x
 | 0,y::r,x,h=>by rw [pr];simp at h;rw [h]
 | n+1,y::r,x,h=>by rw [pr];exact EJ l v n r x fG
theorem ZI (l:List ae) (v:Nat) (f:ae):ux l v f =
  if f.op=1 then true
  else if f.op=5 then !(pr l v 0 f.kids)
  else if f.op=6 then pr l v 0 f.kids&&pr l v 1 f.kids
  else if f.op=7 then pr l v 0 f.kids||pr l v 1 f.kids
  else match l.findIdx? (fun x=>fZ x f) with
   | some i=>v.testBit i
   | none=>false:=by cases f;rw [ux];rfl
def pt (gen:Int) (l:List ae) (v:Nat):Nat→List hh→List Int
 | _,[]=>[]
 | i,m::r=>if m.gen=gen&&ux l v m.fact then (i:Int)::pt gen l v (i+1) r else pt gen l v (i+1) r
def jH (p:aU) (gen:Int) (l:List ae) (v:Nat):List Int:=pt gen l v 0 p.methods
inductive vT where
 | leaf (ms:List Int)
 | test (atom:Nat) (no yes:vT)
 deriving Inhabited
namespace vT
def xw:vT→Nat
 | .leaf _=>0
 | .test _ a b=>1+max a.xw b.xw
def leaves:vT→Nat
 | .leaf _=>1
 | .test _ a b=>a.leaves+b.leaves
def before (a b:vT):Bool:=decide (a.xw<b.xw)||(decide (a.xw=b.xw)&&decide (a.leaves<b.leaves))
end vT
mutual
theorem O9:∀ (f:ae) (w:bo) (d:Nat) (k:Int),(eU w d k f).1=true→0≤(eU w d k f).2∧((kF f).length:Int)+(eU w d k f).2≤k
  | .mk o a p c n ks,w,d,k,h=>by
    rw [eU] at h ⊢;split at h
    · cases h
    · rename_i ax
      rw [f4 ax];split at h
      · rename_i av
        rw [f7 av];have ma:0≤k-1:=by
          simp only [aj',f5,not_or] at ax;omega
        obtain ⟨U,ad⟩:=O' ks w (d-1) (k-1) ma h;refine ⟨U,?_⟩;rw [kF];split
        · simp only [i9,ai9];omega
        · omega
      · cases h
theorem O':∀ (l:List ae) (w:bo) (d:Nat) (k:Int),0≤k→(gH w d k l).1=true→0≤(gH w d k l).2∧((oE l).length:Int)+(gH w d k l).2≤k
  | [],_,_,_,ax,_=>by rw [gH,oE];exact ⟨ax,by simp⟩
  | x::r,w,d,k,ax,h=>by
    rw [gH] at h ⊢;split at h
    · rename_i aa
      rw [f7 aa,oE,f0];obtain ⟨U,ad⟩:=O9 x w d k aa;obtain ⟨aj,bk⟩:=O' r w d _ U h;exact ⟨aj,by push_cast;omega⟩
    · cases h
end
theorem Pa {w:bo} {f:ae} (h:hi w f=true):(kF f).length≤24:=by
 have:=O9 f w 12 24 h;omega
mutual
theorem BS:∀ (f:ae) (w:bo),dU w f=true→∀ x∈kF f,dU w x=true∧x.c7=true
  | .mk o a p c n ks,w,h,x,aa=>by
    rw [kF] at aa;split at aa
    · rename_i aE
      rw [i7] at aa;subst aa;exact ⟨h,aE⟩
    · rw [dU,d6] at h
      exact Pb ks w h.2 x aa
theorem Pb:∀ (l:List ae) (w:bo),hK w l=true→∀ x∈oE l,dU w x=true∧x.c7=true
  | [],_,_,x,aa=>by cases aa
  | y::r,w,h,x,aa=>by
    rw [hK,d6] at h;rw [oE] at aa;rcases ab'.1 aa with aa|aa
    · exact BS y w h.1 x aa
    · exact Pb r w h.2 x aa
end
theorem BT {w:bo} {f:ae} (h:dU w f=true) (aE:f.c7=true):f.path.length≤2:=by
 rw [p0,d6] at h;have h:=h.1;unfold fr at h;rw [aE] at h;simp only [d6,ak2,f5] at h;exact h.2.2.2.2.2.1
theorem ZJ (l:List ae) (f:ae):(jl l f).length≤l.length+1:=by
 unfold jl;split
 ·omega
 ·simp
theorem Pc {l:List ae} {f x:ae} (h:x∈jl l f):x∈l∨x=f:=by
 unfold jl at h;split at h
 ·exact .inl h
 ·rcases ab'.1 h with h|h
  ·exact .inl h
  ·exact .inr (i7.1 h)
theorem EK {p:aU}:∀ {l:List hh} {out o:List Int},ng p l out=some o→∀ m∈l,s9 p m=true
  | x::r,out,o,h,m,hm=>by
    rw [ng] at h;split at h
    · rename_i aa
      cases aD:visitM p (uw x.kind) 12 x.node (p.dX.getD x.gen.toNat 0) out with
      | none=>rw [aD] at h;cases h
      | some b1=>
        rw [aD] at h;rcases ai1.1 hm with rfl|hm
        · exact aa
        · exact EK (l:=r) h m hm
    · cases h
theorem zB {p:aU} (h:cS p=true):r0 p=true∧p7 p=true∧∃ o,ng p p.methods (ai0 p.nodes.length (-1))=some o:=by
 unfold cS pq at h;split at h
 ·rename_i aw
  rw [d6] at aw;refine ⟨aw.1,aw.2,?_⟩;cases hm:ng p p.methods (ai0 p.nodes.length (-1)) with
  | none=>rw [hm] at h;cases h
  | some o=>exact ⟨o,rfl⟩
 ·cases h
theorem qX {p:aU} (h:cS p=true) {m:hh} (hm:m∈p.methods):hi (bU p) m.fact=true:=by
 obtain ⟨-,-,o,ai⟩:=zB h;have:=EK ai m hm;unfold s9 at this;simp only [d6] at this;exact this.2.2.2.2.1
theorem r2 {p:aU} (h:cS p=true):p.methods.length≤16∧p.dX.length≤8:=by
 obtain ⟨-,aE,-⟩:=zB h;unfold p7 at aE;simp only [d6,f5] at aE;exact ⟨aE.2.1,aE.1⟩
def j8 (w:bo) (l:List ae):Prop:=∀ x∈l,dU w x=true∧x.c7=true
theorem IK {w:bo} (gen:Int):∀ (cP l:List ae),j8 w l→j8 w cP→j8 w (cP.foldl jl l)∧(cP.foldl jl l).length≤l.length+cP.length
  | [],l,h,_=>⟨h,t7 _⟩
  | x::r,l,h,bp=>by
    have U:j8 w (jl l x):=fun y ar=>by
      rcases Pc ar with ar|rfl
      · exact h y ar
      · exact bp _ g8
    obtain ⟨ad,aj⟩:=IK (w:=w) gen r (jl l x) U (fun y ar=>bp y (f9 _ ar));have:=ZJ l x;exact ⟨ad,by rw [ak9,i9];omega⟩
theorem Pd {p:aU} (aB:cS p=true) (gen:Int):∀ (ms:List hh) (l:List ae),(∀ m∈ms,m∈p.methods)→j8 (bU p) l→j8 (bU p) (ms.foldl (mC gen) l)∧(ms.foldl (mC gen) l).length≤l.length+24*ms.length
  | [],l,_,h=>⟨h,t7 _⟩
  | m::r,l,hm,h=>by
    have aZ:=qX aB (hm m g8);have U:j8 (bU p) (mC gen l m)∧(mC gen l m).length≤l.length+24:=by
      unfold mC;split
      · obtain ⟨ad,aj⟩:=IK (w:=bU p) gen (kF m.fact) l h (BS m.fact _ (xz _ _ _ _ aZ))
        have:=Pa aZ;exact ⟨ad,by omega⟩
      · exact ⟨h,by omega⟩
    obtain ⟨bk,bF⟩:=Pd aB gen r (mC gen l m) (fun x aa=>hm x (f9 _ aa)) U.1;exact ⟨bk,by rw [ak9,i9];omega⟩
theorem ZK {p:aU} (aB:cS p=true) (gen:Int):j8 (bU p) (dG p gen)∧(dG p gen).length≤384:=by
 obtain ⟨U,ad⟩:=Pd aB gen p.methods [] (fun _ h=>h) (fun _ h=>by cases h);have:=(r2 aB).1;exact ⟨U,by unfold dG;simp only [ai9] at ad;omega⟩
mutual
theorem EL:∀ (f:ae) (w:bo) (b:Bool),dU w f=true→∀ l∈hL b f,∀ x∈l,dU w x.1=true∧x.1.c7=true
  | .mk o a p c n ks,w,b,ay,l,h,x,aa=>by
    have m2:=ay;rw [dU,d6] at m2;rw [hL] at h;split at h
    · split at h
      · cases h
      · rw [i7] at h;subst h;cases aa
    · split at h
      · exact zC ks w _ 0 m2.2 l h x aa
      · split at h
        · rename_i aE
          rw [i7] at h;subst h;rw [i7] at aa;subst aa;exact ⟨ay,aE⟩
        · split at h
          · rcases ab'.1 h with h|h
            · exact zC ks w _ 0 m2.2 l h x aa
            · exact zC ks w _ 1 m2.2 l h x aa
          · obtain ⟨u,hu,h⟩:=aq5.1 h
            obtain ⟨v,aD,rfl⟩:=ae'.1 h;rcases Bp v u aa with aa|aa
            · exact zC ks w _ 0 m2.2 u hu x aa
            · exact zC ks w _ 1 m2.2 v aD x aa
theorem zC:∀ (ks:List ae) (w:bo) (b:Bool) (n:Nat),hK w ks=true→∀ l∈ir b n ks,∀ x∈l,dU w x.1=true∧x.1.c7=true
  | [],_,b,n,_,l,h,_,_=>by rw [ir] at h;cases h
  | y::r,w,b,0,ay,l,h,x,aa=>by
    rw [hK,d6] at ay;rw [ir] at h;exact EL y w b ay.1 l h x aa
  | y::r,w,b,n+1,ay,l,h,x,aa=>by
    rw [hK,d6] at ay;rw [ir] at h;exact zC r w b n ay.2 l h x aa
end
theorem Pe {s s1:ao} {w dq:World} {p kD:bV} {T:TypeId} {v:Value} {b:Nat} (hle:c2 w p dq kD) (ax:Kept s s1 w p dq kD) (ca:dn dq kD s1) (BU:dq.heap[b]? = some (.cells #[v] T (0,0)))
  (aq:w.heap.size≤b) (aB:∀ o,¬ kD b o) (al:s1 b=none) (x:Value) :
  c2 w p (dq.setRow b #[x]) kD∧Kept s s1 w p (dq.setRow b #[x]) kD∧dn (dq.setRow b #[x]) kD s1∧c2 dq kD (dq.setRow b #[x]) kD∧(dq.setRow b #[x]).heap[b]? = some (.cells #[x] T (0,0)):=by
 have ln:dn dq kD (s1.set b (.box T [.any])):=by
  refine ⟨fun aW o dH=>?_,ca.lt⟩;by_cases e:aW=b
  ·subst e;rw [ao.fH] at dH;cases dH
   exact ⟨_,BU,.cons _ _ _ _ (.any v) .nil,aB⟩
  ·rw [ao.eQ _ _ e] at dH;exact ca.obj aW o dH
 obtain ⟨ck,cL,ev⟩:=u' ln (ao.fH _ _ _) (vs' := #[x]) (cs':=[.any]) (fun vs aD=>by rw [BU] at aD;cases aD;rfl) (.cons _ _ _ _ (.any x) .nil) _ C;have ZL:∀ aW,aW≠b→(dq.setRow b #[x]).heap[aW]? = dq.heap[aW]?:=by
  intro aW dH;simp only [World.setRow];rw [aq1,f4 (Ne.symm dH)]
 refine ⟨hle.trans ck,⟨fun aW dH av=>(ZL aW ak).trans (ax.heap aW dH av),ax.la,ax.lG⟩,ev.sub (fun aW=>?_),ck,?_⟩
 ·by_cases e:aW=b
  ·subst e;exact .inr al
  ·left;rw [ao.eQ _ _ e,ao.eQ _ _ e]
 ·simp only [World.setRow]
  rw [aq1,f7 C,BU];rfl
theorem Pf {w:World} {b:Nat} {v x:Value} {T:TypeId} (h:w.heap[b]? = some (.cells #[v] T (0,0))):w.setCell ⟨b,0,none⟩ x=w.setRow b #[x]:=by
 simp only [World.setCell,World.setRow];congr 1;refine Array.ext_getElem? fun i=>?_
 rw [aq1,aq1];by_cases e:b=i
 ·subst e;rw [f7 C,f7 C,h];rfl
 ·rw [f4 e,f4 e]
theorem IL:∀ {rest:List PanicEntry},(∀ e∈rest,e.goexit=false)→rest.dropWhile (fun e => !e.goexit)=[]
 | [],_=>rfl
 | e::r,h=>by rw [List.dropWhile_cons,h e g8];simp only [an4,ak2];exact IL fun e' he=>h e' (f9 _ he)
theorem af.use {P:Program} {N:Nat} {c:Code} {Q:b8→Env→ao→Prop} {env:Env} {s:ao} (h:af P N c Q env s) {b:Frame} {B:fP} {a:Act} {w:World} {p:bV} (aZ:(P.funcs[b.fn]?).isSome=true) (aI:dx N B b.roundOf env s a w p) :
  ka P b c (kx N B b.roundOf s w p Q) a w:=h b B a w p aZ aI
theorem df.frame {P:Program} {fv:ag} {args:List ag} {K L R:a6} {aik D:eS→a6→Prop} (h:df P fv args K aik) (al:az L K R) (iq:∀ o aM,aik o aM→D o (aM++R)):df P fv args L D:=
 fun s I=>(h.at I al).mono fun o an ⟨YH,e,vm,aM,Ij,Ik⟩=>by
  subst Ij;exact ⟨_,e,vm,iq o aM Ik⟩
theorem ZM {w:World} {p:bV} {s:ao} (ca:dn w p s) {vs:List Value} {xs:List ag} {sz cap:Nat} {e:TypeId} {cur:Array Value} (aC:b4 w p vs xs)
    (al:∀ v∈vs,v.cells.size=sz) (pS:cur.size=cap*sz) (wW:cur.toList.take (xs.length*sz)=flat vs) (kP:xs.length≤cap) (hm:xs.length≤9223372036854775807) :
    ∃ bg,s w.heap.size=none∧c2 w p (w.alloc (.cells cur e)) bg∧Kept s (s.set w.heap.size (.row e sz xs.length)) w p (w.alloc (.cells cur e)) bg ∧
      dn (w.alloc (.cells cur e)) bg (s.set w.heap.size (.row e sz xs.length))∧Rel (w.alloc (.cells cur e)) bg (.slice (some ⟨w.heap.size,0,none⟩) xs.length cap) (.aF sz xs (.own w.heap.size)):=by
  have av:s w.heap.size=none:=by
    cases h:s w.heap.size with
    | none=>rfl
    | some o'=>exact absurd (ca.obj _ _ h).lt ak
  let bg:bV:=fun b o=>p b o∨(b=w.heap.size∧o<xs.length*sz)
  have mU:(w.alloc (.cells cur e)).heap[w.heap.size]? = some (.cells cur e):=ss w _;have hold:∀ b,b<w.heap.size→(w.alloc (.cells cur e)).heap[b]? = w.heap[b]? := fun b aq=>l9 w _ b aq
  have hle:c2 w p (w.alloc (.cells cur e)) bg:=c2.of_heap C C C bc (fun _ _ h => .inl h) ca.lt hold;have hlen:=wV al;have hmul:xs.length*sz≤cap*sz:=Nat.mul_le_mul_right _ kP;refine ⟨bg,av,hle,⟨fun b aq _=>hold b aq,fun b aq al=>by rw [ao.eQ _ _ ak];exact al,fun b o aq _ aB=>by rcases aB with aB|⟨rfl,_⟩;exact aB;omega⟩,?_,?_⟩
  · have ay:dn (w.alloc (.cells cur e)) bg s:=ca.grow hle hold (fun b o aq aB=>by rcases aB with aB|⟨rfl,_⟩;exact aB;omega) (fun b o aB=>by
      rcases aB with aB|⟨rfl,_⟩
      · have:=ca.lt b o aB;simp;omega
      · simp)
    refine ⟨fun b o aq=>?_,ay.lt⟩;by_cases e':b=w.heap.size
    · subst e'
      rw [ao.fH] at aq;cases aq;refine ⟨cur,mU,by omega,⟨cap,pS⟩,fun o=>⟨fun aB=>?_,fun ai => .inr ⟨rfl,ai⟩⟩⟩;rcases aB with aB|⟨_,ai⟩
      · exact absurd (ca.lt _ _ aB) ak
      · exact ai
    · rw [ao.eQ _ _ e'] at aq;exact ay.obj b o aq
  · refine .aF _ 0 _ _ _ vs _ _ bc rfl ?_ (aC.mono hle) al hm kP (fun h=>by cases h) (fun b aq=>?_)
    · intro i v aD
      have aQ:i<xs.length*sz:=by
        have:=(ac'.1 aD).1;rw [hlen,aC.length] at this;exact this
      refine ⟨.inr ⟨rfl,by omega⟩,?_⟩;rw [aj8,jN mU];rw [← wW,al',f7 aQ] at aD;simpa using aD
    · cases aq
      exact ⟨rfl,rfl,e,by simp only [World.kM,mU,pS]⟩
theorem Pg {z:Value} (h:z.cells = #[z]) (n:Nat):(madeCells z.cells n).toList=ai0 n z:=by
 refine ar0 fun i=>?_
 unfold madeCells;rw [h];simp only [Array.toList_map,Array.toList_range,aj6,List.getElem?_replicate];by_cases aQ:i<n
 ·rw [List.getElem?_range aQ,f7 aQ]
  simp [Nat.mod_one]
 ·rw [am9 ez,f4 aQ];rfl
section
variable {P:Program} {Γ:cz} {N:Nat} {ops:Array Oper} {Q:b8→Env→ao→Prop} {env:Env} {s:ao} {l:List Oper} {o:Oper} {d:Nat} {L R:a6}
theorem Ph (aP:bX P Γ) {t e:TypeId} {it aJ:bQ} (aN:Γ.get? t=some it) (bw:it.bN = .aF e) (bP:Γ.get? e=some aJ) (og qY:IntKind) (n c:Nat) (r3:n≤c) (aq:c*aJ.bytes≤140737488355328) (eR:c≤9223372036854775807) (w:World) :
  (Instr.makeSlice t (.int og (n:Int)) (.int qY (c:Int))).run P w = .ok (.slice (some ⟨w.heap.size,0,none⟩) n c) (w.alloc (.cells (madeCells aJ.zero.cells (c*aJ.size)) e)):=by
 obtain ⟨info,d,g1,g2,g3,-⟩:=aP.parts aN;obtain ⟨jv,j0,ck,cL,ev,ee,lj,mg⟩:=aP.parts bP;have aA:d = .slice e:=by rw [bw] at g3;cases d<;>simp [ec] at g3;rw [g3]
 subst aA;have dH:(jv.bytes:Int)*(c:Int)≤281474976710656:=by
  rw [lj];have:((aJ.bytes*c:Nat):Int)≤281474976710656:=by rw [Nat.mul_comm];omega
  rwa [Int.natCast_mul] at this
 have:=run_make (P:=P) w t e jv aJ.zero g2 ck mg og qY (n:Int) (c:Int) ak ak dH ak;rw [ai7,ai7,ee] at this;exact this
theorem aX.IM (aP:bX P Γ) (I:Ok s L) {t e:TypeId} {x y:Operand} {it aJ:bQ} {og qY:IntKind} {z:ag} (n:Nat) (ai:o.op = .makeSlice t x y) (aN:Γ.get? t=some it) (bw:it.bN = .aF e) (bP:Γ.get? e=some aJ) (U:aJ.size=1)
  (vU:aJ.zero.oneCell'=true) (bO:ij aJ.zero=some z) (aa:aL env x=some (.int og (n:Int))) (ar:aL env y=some (.int qY (n:Int))) (aq:n*aJ.bytes≤140737488355328) (eR:n≤9223372036854775807) {X:ag→ao→Prop} :
  aX P N o env (aT s L) (fun r an=>∃ b,r=dv b n n∧an=aT s ((.own b,.box e (ai0 n z))::L)∧Ok s ((.own b,.box e (ai0 n z))::L)) X:=by
 refine aX.jZ hZ fun ro B a w p aI=>?_
 have fz:=aI.aL aa;have eH:=aI.aL ar;generalize dM:a.eval x=dy at fz;generalize fj:a.eval y=fX at eH;cases fz;cases eH;have cI:=Ph aP aN bw bP og qY n n (t7 _) aq eR w;have u6:=xm vU;have BV:=Pg u6 (n*aJ.size);rw [U,am8] at cI BV
 obtain ⟨al,hle,ax,ln⟩:=sx aI.wf (.cells (madeCells aJ.zero.cells n) e (0,0)) (.box e (ai0 n z)) (fun w' jc aD gm=>⟨_,jc,by
  rw [BV];exact b4.replicate (rn bO) n,fun o aB=>absurd (aI.wf.lt _ _ aB) ak⟩)
 refine ⟨.slice (some ⟨w.heap.size,0,none⟩) n n,_,_,p,_,?_,hle,ax,ln,⟨w.heap.size,rfl,rfl,al,I⟩,.ho _⟩;unfold execOp;rw [ai];simp only [dM,fj];exact gb cI
theorem ab.IM (aP:bX P Γ) (I:Ok s L) {t e:TypeId} {x y:Operand} {it aJ:bQ} {og qY:IntKind} {z:ag} (n:Nat) (ay:guardOf ops env o=some true) (aA:o.dst=some d) (a1:af' d N=true) (ai:o.op = .makeSlice t x y) (aN:Γ.get? t=some it) (bw:it.bN = .aF e) (bP:Γ.get? e=some aJ) (U:aJ.size=1)
  (vU:aJ.zero.oneCell'=true) (bO:ij aJ.zero=some z) (aa:aL env x=some (.int og (n:Int))) (ar:aL env y=some (.int qY (n:Int))) (aq:n*aJ.bytes≤140737488355328) (eR:n≤9223372036854775807)
  (h:∀ b,Ok s ((.own b,.box e (ai0 n z))::L)→ab P N ops l Q ((d,dv b n n)::env) (aT s ((.own b,.box e (ai0 n z))::L))):ab P N ops (o::l) Q env (aT s L):=by
 refine ab.op ay aA a1 (aX.IM aP I n ai aN bw bP U vU bO aa ar aq eR (X:=fun _ _=>False)) ?_ (fun _ _ h=>h.elim);rintro r an ⟨b,rfl,rfl,ad⟩;exact h b ad
theorem aX.IN (aP:bX P Γ) (I:Ok s L) {t e:TypeId} {x y:Operand} {it aJ:bQ} {og qY:IntKind} {z:ag} (n c:Nat) (ai:o.op = .makeSlice t x y) (aN:Γ.get? t=some it) (bw:it.bN = .aF e) (bP:Γ.get? e=some aJ) (U:aJ.size=1)
  (vU:aJ.zero.oneCell'=true) (bO:ij aJ.zero=some z) (aa:aL env x=some (.int og (n:Int))) (ar:aL env y=some (.int qY (c:Int))) (r3:n≤c) (aq:c*aJ.bytes≤140737488355328) (eR:c≤9223372036854775807) {X:ag→ao→Prop} :
  aX P N o env (aT s L) (fun r an=>∃ b,r = .aF 1 (ai0 n z) (.own b)∧an=aT s ((.own b,.row e 1 n)::L)∧Ok s ((.own b,.row e 1 n)::L)) X:=by
 refine aX.jZ hZ fun ro B a w p aI=>?_
 have fz:=aI.aL aa;have eH:=aI.aL ar;generalize dM:a.eval x=dy at fz;generalize fj:a.eval y=fX at eH;cases fz;cases eH;have cI:=Ph aP aN bw bP og qY n c r3 aq eR w;have u6:=xm vU;have BV:=Pg u6 (c*aJ.size);rw [U,am8] at cI BV
 obtain ⟨bg,dF,c8,du,lh,tM⟩:=ZM (e:=e) (sz:=1) (cap:=c) (cur:=madeCells aJ.zero.cells c) aI.wf (b4.replicate (rn (w:=w) (p:=p) bO) n) (fun v aD=>by
  obtain ⟨_,rfl⟩:=ax4.1 aD
  rw [u6];rfl) (by rw [size_madeCells,am8]) (by
  rw [BV,am3,am8,List.take_replicate,qL (fun v aD=>by obtain ⟨_,rfl⟩:=ax4.1 aD;exact vU),ar2 r3]) (by rw [am3];exact r3) zp
 rw [am3] at du lh tM;refine ⟨.slice (some ⟨w.heap.size,0,none⟩) n c,_,_,bg,_,?_,c8,du,lh,⟨w.heap.size,rfl,rfl,dF,I⟩,tM⟩;unfold execOp;rw [ai];simp only [dM,fj];exact gb cI
theorem ab.IN (aP:bX P Γ) (I:Ok s L) {t e:TypeId} {x y:Operand} {it aJ:bQ} {og qY:IntKind} {z:ag} (n c:Nat) (ay:guardOf ops env o=some true) (aA:o.dst=some d) (a1:af' d N=true) (ai:o.op = .makeSlice t x y) (aN:Γ.get? t=some it) (bw:it.bN = .aF e) (bP:Γ.get? e=some aJ) (U:aJ.size=1)
  (vU:aJ.zero.oneCell'=true) (bO:ij aJ.zero=some z) (aa:aL env x=some (.int og (n:Int))) (ar:aL env y=some (.int qY (c:Int))) (r3:n≤c) (aq:c*aJ.bytes≤140737488355328) (eR:c≤9223372036854775807)
  (h:∀ b,Ok s ((.own b,.row e 1 n)::L)→ab P N ops l Q ((d,.aF 1 (ai0 n z) (.own b))::env) (aT s ((.own b,.row e 1 n)::L))):ab P N ops (o::l) Q env (aT s L):=by
 refine ab.op ay aA a1 (aX.IN aP I n c ai aN bw bP U vU bO aa ar r3 aq eR (X:=fun _ _=>False)) ?_ (fun _ _ h=>h.elim);rintro r an ⟨b,rfl,rfl,ad⟩;exact h b ad
end
def Pj (P:Program) {α:Type} (fg a2:α→ag) (h2:α→Prop) (l:Nat) (Go:List α→a6→Prop) (fu:a6→Prop) (fC:ag→a6→Prop):Prop:=
 ∀ x rem K,Go (x::rem) K→df P (ml l) [fg x,a2 x] K (fun o aM=>(o = .ret (.bool true)∧h2 x∧Go rem aM)∨(o = .ret (.bool false)∧fu aM)∨∃ v,o = .panic v∧fC v aM)
def IP (P:Program) (f:FuncId) (first cap:List ag) (nO:a6) {α:Type} (fg a2:α→ag) (h2:α→Prop) (xs:List α):Prop:=
 ∀ (l:Nat) (Go:List α→a6→Prop) (fu:a6→Prop) (fC:ag→a6→Prop),Pj P fg a2 h2 l Go fu fC→∀ K,Go xs K →
  bs P f (first++([ml l]++cap)) (nO++K) (fun o aM=>(o = .ret (.bW [])∧(Go [] aM∨fu aM))∨∃ v,o = .panic v∧fC v aM)
section
variable {P:Program} {N:Nat} {Q:b8→Env→ao→Prop} {env:Env} {s:ao} {L R:a6}
theorem af.Pk {α:Type} {fg a2:α→ag} {h2:α→Prop} {xs:List α} {t u:Tmp} {g:Operand} {hl body:Code} {f:FuncId} {first cap:List ag} {nO:a6} (I:Ok s L) (ay:aL env g=some (.func f first cap)) (a1:t<N) (e2:u<N)
  (kX:IP P f first cap nO fg a2 h2 xs) (al:az L nO R) (aid:List α→a6→Prop) (J:Code→a6→Prop) (tW:ag→a6→Prop) (bn:aid xs R)
  (tA:∀ s x rem K,aid (x::rem) K→Ok s K→af P N hl (b8.andThen (af P N body (DH (At s (fun K=>h2 x∧aid rem K)) (fun j=>At s (J j)) (fun v=>At s (tW v)))) (fun _ _ _=>False)) ((u,a2 x)::(t,fg x)::env) (aT s K))
  (av:∀ K,aid [] K→Ok s K→Q .normal env (aT s K))
  (aK:∀ j K,J j K→Ok s K→af P N j Q env (aT s K))
  (aa:∀ v K,tW v K→Ok s K→Q (.panic v) env (aT s K)):af P N (.rangeFunc g #[t,u] hl body) Q env (aT s L):=by
 refine af.Mg ay (by intro bR dp;simp at dp;rcases dp with rfl|rfl;exact a1;exact e2) fun l r aE HC=>?_
 have HD:Ok s ((.own l,.loop r env)::L):=⟨aE,I⟩;have nP:Pj P fg a2 h2 l (fun rem K=>∃ aM,K=(.own l,.loop r env)::aM∧aid rem aM) (fun K=>∃ j aM,K=(.own l,.loop (rF r j) env)::aM∧J j aM) (fun v K=>∃ aM,K=(.own l,.loop (busy r) env)::aM∧tW v aM):=by
  rintro x rem _ ⟨K,rfl,aG⟩ an Bg;refine (HC [fg x,a2 x] _ (At an (fun K=>h2 x∧aid rem K)) (fun j=>At an (J j)) (fun v=>At an (tW v)) (ao.fH _ _ _) C ?_).less ?_
  ·have:=ao.AM (aT an K) l (.loop r env) Bg.1
   show af P N hl _ _ (((aT an K).set l (.loop r env)).del l);rw [this];exact tA an x rem K aG Bg.2
  ·have key:∀ {L K R:a6} {o:ds},aT an L l=none→Ok an L→az L K R→ao.Sub (aT an ((.own l,o)::K)) ((aT an L).set l o)∧Ok an ((.own l,o)::K):=by
    intro L K R o U ad aj;exact (az.cons bm.here aj).sub (L:=(.own l,o)::L) ⟨U,ad⟩
   rintro o eM (⟨rfl,dD,U,rfl,L,aM,R,rfl,ad,bk,aj⟩|⟨rfl,j,dD,U,rfl,L,aM,R,rfl,ad,bk,aj⟩|⟨v,dD,rfl,U,rfl,L,aM,R,rfl,ad,bk,aj⟩)
   ·obtain ⟨ck,cL⟩:=key U ad bk (o := .loop r env)
    exact ⟨_,ck,(.own l,.loop r env)::aM,rfl,cL,.inl ⟨rfl,aj.1,aM,rfl,aj.2⟩⟩
   ·obtain ⟨ck,cL⟩:=key U ad bk (o := .loop (rF r j) env)
    exact ⟨_,ck,(.own l,.loop (rF r j) env)::aM,rfl,cL,.inr (.inl ⟨rfl,j,aM,rfl,aj⟩)⟩
   ·obtain ⟨ck,cL⟩:=key U ad bk (o := .loop (busy r) env)
    exact ⟨_,ck,(.own l,.loop (busy r) env)::aM,rfl,cL,.inr (.inr ⟨v,rfl,aM,rfl,aj⟩)⟩
 have iF:=(kX l _ _ _ nP _ ⟨R,rfl,bn⟩).at HD ((al.there (e:=(.own l,.loop r env))).app (az.fQ _));refine iF.mono ?_;rintro o eM ⟨M,rfl,jg,aM,rfl,h⟩;rw [d7] at jg ⊢;rcases h with ⟨rfl,⟨m5,rfl,h⟩|⟨j,m5,rfl,h⟩⟩|⟨v,rfl,m5,rfl,h⟩
 ·exact .inl ⟨aT s m5,jg.1,rfl,av m5 h jg.2⟩
 ·exact .inr ⟨j,aT s m5,jg.1,rfl,aK j m5 h jg.2⟩
 ·exact ⟨aT s m5,_,jg.1,rfl,aa v m5 h jg.2⟩
end
section
variable {J:ao→Prop} {P:Program} {Γ:cz} {N:Nat} {l:List Oper} {i:Nat} {rest:List Oper} {Q:b8→Env→ao→Prop} {env:Env} {s:ao} {o:Oper} {d:Nat}
theorem aS.shl {t yt:TypeId} {x y:Operand} {k k':IntKind} {a b:Int} (r:Int) (ay:dO l env o) (aA:o.dst=some d) (a1:af' d N=true) (ai:o.op = .binOp .shl t x y yt) (aa:aL (cF l env o) x=some (.int k a)) (ar:aL (cF l env o) y=some (.int k' b)) (aq:0≤b) (aC:k.wrap (a*2^(min b.toNat k.bits))=r)
  (h:aS J P Γ N l (i+1) rest Q ((d,.int k r)::env) s):aS J P Γ N l i (o::rest) Q env s:=
 aS.calm ay aA a1 (fun _ _=>aX.shl ai aa ar aq aC) h
theorem aS.shr {t yt:TypeId} {x y:Operand} {k k':IntKind} {a b:Int} (r:Int) (ay:dO l env o) (aA:o.dst=some d) (a1:af' d N=true) (ai:o.op = .binOp .shr t x y yt) (aa:aL (cF l env o) x=some (.int k a)) (ar:aL (cF l env o) y=some (.int k' b)) (aq:0≤b) (aC:a.fdiv (2^(min b.toNat k.bits))=r)
  (h:aS J P Γ N l (i+1) rest Q ((d,.int k r)::env) s):aS J P Γ N l i (o::rest) Q env s:=
 aS.calm ay aA a1 (fun _ _=>aX.shr ai aa ar aq aC) h
theorem aS.bits {op:BinOp} {t yt:TypeId} {x y:Operand} {k:IntKind} {a b:Int} (r:Int) (ay:dO l env o) (aA:o.dst=some d) (a1:af' d N=true) (ai:o.op = .binOp op t x y yt) (aa:aL (cF l env o) x=some (.int k a)) (ar:aL (cF l env o) y=some (.int k b)) (aC:bitsOf op k a b=some r)
  (h:aS J P Γ N l (i+1) rest Q ((d,.int k r)::env) s):aS J P Γ N l i (o::rest) Q env s:=
 aS.calm ay aA a1 (fun _ _=>aX.bits ai aa ar aC) h
end
section
variable {J:ao→Prop} {P:Program} {Γ:cz} {N:Nat} {l:List Oper} {Q:b8→Env→ao→Prop} {env:Env} {s:ao} {o:Oper} {d m:Nat} {L R:a6}
theorem bH.kz (i:Nat) (aP:bX P Γ) (I:Ok s L) {t ei fy:TypeId} {x y z:Operand} {it ju:bQ} {b:Nat} {es dE:List (ag×ag)} {k v:ag} (aC:fA l.toArray m (idxs 0 l)=[i]) (ai:l.toArray[i]? = some o) (aA:o.dst=none)
  (ay:dO l env o) (cG:o.op = .mapUpdate t x y z∨o.op = .insert t x y z) (aN:Γ.get? t=some it) (bw:it.bN = .map ei fy) (mT:Γ.get? ei=some ju) (aa:aL (cF l env o) x=some (.map b)) (ar:aL (cF l env o) y=some k) (bO:aL (cF l env o) z=some v)
  (al:bm L (.own b) (.map es) R) (aZ:me ju.bN k=true) (aB:od es k v=some dE)
  (aK:Ok s ((.own b,.map dE)::R)→J (aT s ((.own b,.map dE)::R))∨m1 l.toArray i=true)
  (h:Ok s ((.own b,.map dE)::R)→bH J P Γ N l.toArray Q (cA (m|||2^i)) env (aT s ((.own b,.map dE)::R))):bH J P Γ N l.toArray Q (cA m) env (aT s L):=
 bH.y3 aC ai aA ay (aX.kz aP I cG aN bw mT aa ar bO al aZ aB (X:=fun _ _=>False)) (fun x an ⟨U,ad⟩=>by subst U;exact aK ad) (fun x an ⟨U,ad⟩=>by subst U;exact h ad) (fun _ _ h=>h.elim)
end
section
variable {P:Program} {b:Frame} {a:Act} {k:List Item} {cs:List Frame} {w:World}
theorem BW {c:Code}:step P (lone (b.atR a (.code (.scope c)::k)) cs w) = .next (lone (b.atR a (.code c :: .inScope c::k)) cs w):=
 step_lone_go (by simp [stepG,stepG.exec,Frame.atR])
theorem ZN {c:Code}:step P (lone (b.atR a (.inScope c::k)) cs w) = .next (lone (b.atR a k) cs w):=
 step_lone_go (by simp [stepG,stepG.exec,Frame.atR])
theorem ZO {Q:hx→Act→World→Prop} {c:Code} (h:ka P b c Q a w):ka P b (.scope c) Q a w:=by
 intro k cs;obtain ⟨e,i',w₁,bf,fW⟩:=h (.inScope c::k) cs;cases e with
 | normal=>exact ⟨.normal,i',w₁,bf,.head BW (Steps.trans fW (.one ZN))⟩
 | exit id=>
  refine ⟨.exit id,i',w₁,bf,fun k' ax => .head BW (fW.1 k' (by simpa [exitTo] using ax)),fun ax=>?_⟩;obtain ⟨k₁,U,ad⟩:=fW.2 (by simpa [exitTo] using ax);exact ⟨k₁,U,.head BW ad⟩
 | ret=>obtain ⟨k₁,al⟩:=fW;exact ⟨.ret,i',w₁,bf,k₁,.head BW al⟩
 | panic dC=>obtain ⟨k₁,al⟩:=fW;exact ⟨.panic dC,i',w₁,bf,k₁,.head BW al⟩
theorem ZP {Q:hx→Act→World→Prop} {l:Nat} (h:Q .normal a w):ka P b (.label l) Q a w:=
 fun _ _=>⟨.normal,a,w,h,.one stepR_label⟩
end
section
variable {P:Program} {N:Nat} {Q:b8→Env→ao→Prop} {env:Env} {s:ao}
theorem af.scope {c:Code} (h:af P N c Q env s):af P N (.scope c) Q env s:=fun b B a w p eL aI=>ZO (h b B a w p eL aI)
theorem af.label {l:Nat} (h:Q .normal env s):af P N (.label l) Q env s:=fun _ _ _ _ _ _ aI=>ZP (.here .normal h aI)
end
theorem ZQ (w:World):(Instr.typeAssert .nilIface 20 410 true).run d4 w = .ok (.tuple #[.agg #[],.bool false]) w:=by kernel_rfl
theorem ZR (w:World):(Instr.typeAssert (.iface 410 (.agg #[])) 20 410 true).run d4 w = .ok (.tuple #[.agg #[],.bool true]) w:=by kernel_rfl
theorem ZS (b:Nat) (w:World) :
  CallsD d4 351 #[.pointer (some ⟨b,0,none⟩)] .returning w fun e ke w'=>e = .returned (.tuple #[])∧ke = .returning∧w'=w.alloc (.cells #[] 410):=by
 refine callsD_of_wpS Tryz.func351 C fun x5 cs hu=>?_
 apply wpS_seq;apply wpS_region;simp [wpOpsS,go_sem,recoverD,hu,Tryz.ntmps351, Exit.thenS,ZQ];refine wpS_of_wp ?_;go_wp2;cases x5;simp_all [bodyPostS,results,Tryz.results351, Exit.thenS]
theorem ZT (b:Nat) (w:World) (rest:List PanicEntry) (x:Value) (aq:w.heap[b]? = some (.cells #[x] 4 (0,0))) :
  CallsD d4 351 #[.pointer (some ⟨b,0,none⟩)] (.panicking ({ v := .iface 410 (.agg #[]),recovered:=false }::rest)) w
   fun o ke w'=>o = .returned (.tuple #[])∧ke = .panicking ({ v := .iface 410 (.agg #[]),recovered:=true }::rest)∧w'=(w.alloc (.cells #[] 410)).setRow b #[.bool false]:=by
 refine callsD_of_wpS Tryz.func351 C fun x5 cs hu=>?_
 apply wpS_seq;apply wpS_region;simp [wpOpsS,go_sem,recoverD,hu,Tryz.ntmps351, Exit.thenS,ZR];have dH:=(l9 w (.cells #[] 410) b (t6.1 aq).1).trans aq;have cE:(w.alloc (.cells #[] 410)).cell? ⟨b,0,none⟩=some x:=by rw [jN dH];rfl
 have ik:(w.alloc (.cells #[] 410)).frozen? ⟨b,0,none⟩=false:=by simp [World.frozen?,dH]
 have r4:=Pf (x := .bool false) dH;generalize w.alloc (.cells #[] 410)=dq at cE ik r4 ⊢;refine wpS_of_wp ?_;go_wp2;cases x5;simp_all [bodyPostS,results,Tryz.results351, Exit.thenS]
theorem EM {w:World} {p:bV} {v:Value} {b o:Nat} (h:Rel w p v (.ptr b o)):v = .pointer (some ⟨b,o,none⟩):=by cases h;rfl
theorem ZU {w:World} {p:bV} {x:Value} (h:Rel w p x Iw):x = .iface 410 (.agg #[]):=by
 cases h with
 | iface _ y _ h=>
 cases h with
 | agg cs xs h=>
 generalize iC:cs.toList=l at h;cases h;have:cs = #[]:=by rw [← as1 (xs:=cs),iC]
 rw [this]
def ZV (uy:ao) (n:Nat) (r:Bool):b8→Env→ao→Prop
 | .ret,env,an=>env.get? 4=some (.ptr n 0)∧r=true∧∃ M,an=aT uy M∧Ok uy M∧∃ R,bm M (.own n) (.box 4 [.bool true]) R
 | .panic x,env,an=>env.get? 4=some (.ptr n 0)∧r=false∧x=Iw∧∃ M,an=aT uy M∧Ok uy M∧∃ y R,bm M (.own n) (.box 4 [y]) R
 | _,_,_=>False
theorem ZW (lp:bo) (hw:fJ lp) (l:List bG) (aE:3*l.length+3<bK) (aa:∀ x∈l,ui lp x):aY d4 302 [jT lp,qR l] (.bool (pg lp (ek l))):=by
 intro s;refine ⟨call302, fun w p vs ca eG=>?_⟩;cases eG with
 | cons v0 _ vs _ bn aN=>
 cases aN with
 | cons v1 _ vs _ U aN=>
 cases aN;unfold tw;refine MJ (T:=[{ target := .fn (.func 351) #[.pointer (some ⟨w.heap.size,0,none⟩)],args := #[] }]) Tryz.func302 C ?_;go_wp2;intro b vh eL;obtain ⟨av,hle,ax,EN⟩:=sx ca (.cells #[Value.bool false] 4) (.box 4 [.bool false]) (fun w' U ad aj=>⟨#[.bool false],U,aj _ _ (.cons _ _ _ _ (.bool _) .nil),fun o aB=>absurd (ca.lt _ _ aB) ak⟩);refine mN (af.use (N:=10) (env:=[(0,jT lp),(1,qR l),(4,.ptr w.heap.size 0)]) (s:=aT s [(.own w.heap.size,.box 4 [.bool false])]) (Q:=ZV s w.heap.size (pg lp (ek l))) (B:=(w.heap.size+1,[{ target := .fn (.func 351) #[.pointer (some ⟨w.heap.size,0,none⟩)],args := #[] }])) (p:=p) ?_ (by rw [eL];rfl) ⟨by simp,fun t v aD=>?_,EN,⟨[],by simp [marksOf],by simp,by simp⟩,fun l aE=>(by rw [vh] at aE;cases aE),by simp⟩) ?_
 ·have I:Ok s [(.own w.heap.size,.box 4 [.bool false])]:=⟨av,trivial⟩
  generalize w.heap.size=n at I ⊢;have aI:=Y1 lp hw.few l aE aa;have Pl:=Xx (w:=lp) (l:=l) (fun x h=>⟨(aa x h).node,(aa x h).leaf⟩);refine cX ?_;refine ab.bL rfl rfl rfl rfl rfl aI I .nil ?_ (fun _ _ ⟨_,h,_⟩ _=>by cases h);rintro _ _ ⟨mb,⟨⟩,es,rfl,cO⟩ I;have cK:vI (3*l.length) (ek l):=⟨fun arg path h=>(Pl (bt arg path)).1 (by show 2≤(path.length:Int);omega),cO.fN⟩;have iu:Ev lp (ek l):=⟨fun q=>(Pl q).2⟩;have zt:=Zl lp hw mb (3*l.length) ak (ek l) cK iu (E:=[]) (nb (ek l) mb es) ⟨es,rfl,cO⟩;skip;refine ab.bL C C C C C zt I (az.kA (az.all _)) ?_ ?_
  ·rintro _ aM ⟨ai,dE,rfl,jF⟩ I
   cases hm:pg lp (ek l) with
   | false=>rw [hm] at ai;cases ai
   | true=>
    have al:=bm.app (nb (ek l) mb dE) (bm.here (L:=[]) (k := .own n) (o := .box 4 [.bool false]));rw [d0] at I;refine ab.m4 I [(.own n,.box 4 [.bool false])] (.cons al .nil) (fun I=>?_);refine c9 I ?_;intro I;exact ⟨rfl,rfl,_,rfl,I,_,.here⟩
  ·rintro x aM ⟨ai,dE,rfl,jF⟩ I
   cases hm:pg lp (ek l) with
   | true=>rw [hm] at ai;cases ai
   | false=>
    rw [hm] at ai;cases ai;exact ⟨rfl,rfl,rfl,_,rfl,I,_,_,bm.app _ .here⟩
 ·simp only [Env.get?] at aD
  split at aD
  ·rename_i e;cases aD;obtain rfl:=ai3 e
   exact bn.mono hle
  split at aD
  ·rename_i e;cases aD;obtain rfl:=ai3 e
   exact U.mono hle
  split at aD
  ·rename_i e;cases aD;obtain rfl:=ai3 e
   simp [ak1];exact .ptr _ 0
  ·cases aD
 ·rintro e dm w' ⟨x,e5,an,bg,bY,bf,iM,AX,fa⟩
  obtain ⟨cb,tQ,eK,fI⟩:=iM.defs;obtain ⟨bT,bI,eh,mc⟩:=G3 cb w' iM.wf (fun d aA=>⟨_,(fI d aA).2.1⟩);have bE:c2 w p (hy w' cb) bg:=(hle.trans AX).trans bT;have vi:=ax.trans hle.size fa;have bC:Kept s s w p (hy w' cb) bg:=⟨fun aW dH eO=>(eh aW (fun hm=>by have:=(fI aW hm).1;simp only at this;omega)).trans (vi.heap aW dH eO),fun _ _ h=>h,vi.lG⟩;have fg:=u3 bI.lt (.cells #[] 410) True;have a2:=C3 (s:=s) (w:=hy w' cb) (p:=bg) (.cells #[] 410) True;cases bY with
  | exit id=>exact bf.elim
  | normal=>exact bf.elim
  | ret=>
   obtain ⟨bk,aC,M,rfl,jg,R,pv⟩:=bf;have x6:=bI.sub jg.sub;obtain ⟨cR,jU,kv,BX⟩:=bI.obj _ _ (pv.get jg);have IQ:cR = #[.bool true]:=by
    generalize aE:cR.toList=Du at kv;cases kv with
    | cons v _ vs _ aD aN=>
    cases aN;cases aD;rw [← as1 (xs:=cR),aE]
   subst IQ;have au:w.heap.size<(hy w' cb).heap.size:=(t6.1 jU).1;have BY:=(l9 (hy w' cb) (.cells #[] 410) w.heap.size au).trans jU;have ky:((hy w' cb).alloc (.cells #[] 410)).cell? ⟨w.heap.size,0,none⟩=some (.bool true):=by rw [jN BY];rfl
   refine ⟨cb,tQ,eK,fun d aA=>(fI d aA).2.1,?_⟩;refine leaves_cons (f := 351) (args := #[.pointer (some ⟨w.heap.size,0,none⟩)]) bc (by simp [go_sem]) ?_;refine (ZS w.heap.size _).mono ?_;rintro e ke mO ⟨rfl,rfl,rfl⟩;have x7:dm.tmps[4]?.getD undef = .pointer (some ⟨w.heap.size,0,none⟩):=by
    have:=iM.env 4 _ bk;rw [ak1] at this;exact EM this
   refine ⟨.bool true,by simp [results,Tryz.results302, go_sem,ky,x7],by simp,.ret (.bool true),s,_,.bool _,⟨by rw [aC],rfl⟩,bE.trans fg,bC.trans bE.size a2,AE x6 _ True⟩
  | panic v x dC jr aD=>
   obtain ⟨bk,aC,rfl,M,rfl,jg,y,R,pv⟩:=bf;obtain ⟨rest,rfl,y5⟩:=jr;obtain rfl:=ZU aD;have x6:=bI.sub jg.sub;obtain ⟨cR,jU,kv,BX⟩:=bI.obj _ _ (pv.get jg);obtain ⟨bv,rfl⟩:∃ bv,cR = #[bv]:=by
    generalize aE:cR.toList=Du at kv;cases kv with
    | cons v _ vs _ aD aN=>
    cases aN;exact ⟨v,by rw [← as1 (xs:=cR),aE]⟩
   have au:w.heap.size<(hy w' cb).heap.size:=(t6.1 jU).1;have BY:=(l9 (hy w' cb) (.cells #[] 410) w.heap.size au).trans jU;have x7:dm.tmps[4]?.getD undef = .pointer (some ⟨w.heap.size,0,none⟩):=by
    have:=iM.env 4 _ bk;rw [ak1] at this;exact EM this
   obtain ⟨dF,c8,du,lh,tM⟩:=Pe (bE.trans fg) (bC.trans bE.size a2) (AE x6 _ True) BY (t7 _) (fun o aB=>by
    rcases aB with aB|⟨e,-⟩
    ·exact BX o aB
    ·omega) av (.bool false)
   have ky:(((hy w' cb).alloc (.cells #[] 410)).setRow w.heap.size #[.bool false]).cell? ⟨w.heap.size,0,none⟩=some (.bool false):=by rw [jN tM];rfl
   refine ⟨cb,tQ,eK,fun d aA=>(fI d aA).2.1,?_⟩;refine leaves_cons (f := 351) (args := #[.pointer (some ⟨w.heap.size,0,none⟩)]) bc (by simp [go_sem]) ?_;refine (ZT w.heap.size _ rest bv jU).mono ?_;rintro e ke mO ⟨rfl,rfl,rfl⟩;have IS:=IL y5;simp only [settle,IS];refine ⟨.bool false,by simp [results,Tryz.results302, go_sem,ky,x7],by simp,.ret (.bool false),s,_,.bool _,⟨by rw [aC],rfl⟩,dF,c8,du⟩
theorem ZX (w:bo) (f:ae) (aZ:f.size<bK) (ay:dU w f=true) (b:Bool):vu d4 346 [] [.bl f.cells 0,.bl [.bool b] 0] [] qR (hL b f):=by
 intro l Go fu fC nP K bC;have dR:∀ dQ,BA dQ (ml l) (fun xs K=>∃ aM,K=aM++[(.own dQ,sY dQ)]∧Go xs aM) (fun K=>∃ aM,K=aM++[(.own dQ,sY dQ)]∧fu aM) (fun v K=>∃ aM,K=aM++[(.own dQ,sY dQ)]∧fC v aM):=fun dQ=>by
  refine ⟨rfl,fun x rem K ⟨aM,e,ay⟩=>?_,fun xs K ⟨aM,e,_⟩=>⟨aM++[],by subst e;exact bm.app aM .here⟩,fun K ⟨aM,e,_⟩=>⟨aM++[],by subst e;exact bm.app aM .here⟩⟩;subst e;refine df.frame (R:=[(.own dQ,sY dQ)]) (nP x rem aM ay) (az.kA (az.fQ aM)) ?_;rintro o lX (⟨rfl,h⟩|⟨rfl,h⟩|⟨v,rfl,h⟩)
  ·exact .inl ⟨rfl,lX,rfl,h⟩
  ·exact .inr (.inl ⟨rfl,lX,rfl,h⟩)
  ·exact .inr (.inr ⟨v,rfl,lX,rfl,h⟩)
 have hw:=fun dQ=>df.ey (first:=[]) (args:=[f.bh,.bool b,ml l]) (cap:=[.ptr dQ 0]) (Yx w dQ f.size f (t7 _) aZ ay b (ml l) _ _ _ (dR dQ) [] (K++[(.own dQ,sY dQ)]) ⟨K,rfl,by rw [d7];exact bC⟩)
 rw [ae.bJ] at hw;refine bs.bj ah Tryz.func346 C C fun s I=>?_
 rw [d0] at I ⊢;unfold ae.cells;unfold ae.cells at hw
 repeat (first|(refine MA I ?_;clear I;intro I)|refine ab.c3 ah I rfl rfl rfl rfl rfl rfl rfl (fun cu I=>?_))
 refine ab.e0 C C C C C C (hw cu) I (az.iH (List.perm_append_singleton _ _).symm) ?_ ?_
 ·rintro x _ (⟨⟨⟩,lX,rfl,h⟩|⟨⟨⟩,lX,rfl,h⟩|⟨_,⟨⟩,_⟩) I
  all_goals rw [d7] at I ⊢
  ·refine jQ ?_
   exact Fin.bz I C aH (az.kA (az.fQ lX)) (.inl ⟨rfl,.inl h⟩)
  ·refine jQ ?_
   exact Fin.bz I C aH (az.kA (az.fQ lX)) (.inl ⟨rfl,.inr h⟩)
 ·rintro x _ (⟨h,_⟩|⟨h,_⟩|⟨v,⟨⟩,lX,rfl,h⟩) I
  ·cases h
  ·cases h
  rw [d7] at I ⊢;exact Fin.e1 I aH (az.kA (az.fQ lX)) (.inr ⟨_,rfl,h⟩)
theorem ZY (f:ae) (b:Bool):aY d4 301 [f.bh,.bool b] (.func 346 [] [.bl f.cells 0,.bl [.bool b] 0]):=by
 have aq:=bx;refine aY.bj ah Tryz.func301 C C fun s I=>?_
 rw [ae.bJ];unfold ae.cells;refine nM ?_;exact b2 I
def ta (w:bo) (f:ae):Bool:=(hL false f).any fun l=>pg w (ek l)
theorem Pm (w:bo) (hw:fJ w) (f:ae) (aZ:3*f.size+3<bK) (ay:dU w f=true):aY d4 241 [jT w,f.bh] (.bool (ta w f)):=by
 have aq:=bx;refine aY.bj ah Tryz.func241 C C fun s I=>?_
 have aw:=ZY f false;have kX:=ZX w f ak ay false;have EO:=fun (l:List bG) (h:l∈hL false f)=>ZW w hw l (by have:=(HS f false l h).1;omega) (fun x aa=>⟨(EL f w false ay l h x aa).1,(EL f w false ay l h x aa).2⟩)
 rw [ae.bJ] at aw ⊢;unfold ae.cells at *;unfold jT gf at *
 repeat (first|(refine WK I ?_;clear I;intro I)|refine ab.c3 ah I rfl rfl rfl rfl rfl rfl rfl (fun cu I=>?_)|(refine qJ ?_))
 refine af.zb I C dh kX .nil (fun rem K=>(∀ l∈rem,l∈hL false f)∧ta w f=(rem.any fun l=>pg w (ek l))∧K=[(.own cu,.box 4 [.bool false])]) (fun j K=>j = .exit 0∧ta w f=true∧K=[(.own cu,.box 4 [.bool true])]) (fun _ _=>False) ⟨fun _ h=>h,rfl,rfl⟩ ?_ ?_ ?_ (fun _ _ h=>h.elim)
 ·rintro s₁ l rem K ⟨hm,aC,rfl⟩ I
  have Pn:=EO l (hm l g8);rw [ak'] at aC;cases EP:pg w (ek l) with
  | true=>
   rw [EP] at Pn;rw [EP,ar'] at aC;refine hC I ?_;intro I;exact At.mk _ I (az.fQ _) ⟨rfl,aC,rfl⟩
  | false=>
   rw [EP] at Pn;rw [EP,ak4] at aC;refine c1 ?_;exact At.mk _ I (az.fQ _) ⟨fun l h=>hm l (f9 _ h),aC,rfl⟩
 ·rintro K ⟨_,aC,rfl⟩ I
  have aC:ta w f=false:=aC;rw [aC];refine c9 I ?_;intro I;exact b2 I
 ·rintro j K ⟨rfl,aC,rfl⟩ I
  rw [aC];refine c9 I ?_;intro I;exact b2 I
theorem ZZ (w:bo) (hw:fJ w) (f:ae) (aZ:3*f.size+3<bK):aY d4 202 [jD w,f.bh] (.bW [.bool (hi w f&&ta w f),.int .i64 (if hi w f then 0 else 2)]):=by
 have aq:=bx;refine aY.bj ah Tryz.func202 C C fun s I=>?_
 have U:=H' w hw [f] ez (by intro g ay;rw [i7] at ay;subst ay;omega);rw [ai2,List.map_nil,ae.bJ] at U;rw [aq6,ax',as0] at U;cases lY:hi w f with
 | false=>
  rw [lY] at U;rw [ae.bJ];unfold jD fL fk br at *;unfold jT gf at *;refine c1 ?_;exact b2 I
 | true=>
  rw [lY] at U;have ad:=Pm w hw f aZ (xz f w 12 24 lY);rw [ae.bJ] at ad ⊢;unfold jD fL fk br at *;unfold jT gf at *;refine c1 ?_;exact b2 I
theorem Po (f:ae):fZ f f=true:=by unfold fZ;simp
theorem Z0 {l:List ae} (f:ae) (h:l.Nodup):(jl l f).Nodup:=by
 unfold jl;split
 ·exact h
 ·rename_i av
  rw [an'];refine ⟨h,by simp,fun a bp b aq=>?_⟩;rw [i7.1 aq];rintro rfl;exact av (ai6.2 ⟨a,bp,Po a⟩)
theorem Pp:∀ (cP l:List ae),l.Nodup→(cP.foldl jl l).Nodup
 | [],_,h=>h
 | x::r,l,h=>Pp r _ (Z0 x h)
theorem Pq (gen:Int):∀ (ms:List hh) (l:List ae),l.Nodup→(ms.foldl (mC gen) l).Nodup
 | [],_,h=>h
 | m::r,l,h=>Pq gen r _ (by unfold mC;split;exact Pp _ _ h;exact h)
theorem Z1 (p:aU) (gen:Int):(dG p gen).Nodup:=Pq gen _ _ List.nodup_nil
def tb (f:ae) (b:Bool):ae:=if b then f else f.not
def tc (v:Nat):Nat→List ae→ae→ae
 | _,[],a=>a
 | i,f::r,a=>tc v (i+1) r (if i=0 then tb f (v.testBit i) else a.and (tb f (v.testBit i)))
def x8 (l:List ae) (v:Nat):ae:=tc v 0 l (.mk 1 0 [] 0 0 [])
theorem zD {w:bo} {f:ae} (ay:dU w f=true) (aE:f.c7=true):f.kids=[]:=by
 rw [p0,d6] at ay;rcases Ef ay.1 with ⟨_,h⟩|⟨_,h,_⟩|⟨h,_⟩|⟨h,_⟩
 ·exact h
 ·exact h
 ·unfold ae.c7 at aE;rw [h] at aE;cases aE
 ·unfold ae.c7 at aE;rcases h with h|h<;>(rw [h] at aE;cases aE)
theorem Z2 {f:ae} (aE:f.c7=true):f.op=2∨f.op=3∨f.op=4:=by unfold ae.c7 at aE;simp at aE;omega
theorem Pr {f:ae} (aE:f.c7=true) (b:Bool):hL b f=[[(f,b)]]:=by
 have:=Z2 aE;rw [HR,f4 ak,f4 ak,f7 aE]
theorem Z3 {f:ae} (aE:f.c7=true) (b:Bool):hL false (tb f b)=[[(f,!b)]]:=by
 cases b with
 | true=>exact Pr aE false
 | false=>
  show hL false f.not=_;unfold ae.not;rw [hL,f4 dh,f7 C,ir];exact Pr aE true
theorem Z4 {a x:ae} {nY Ps:List bG} (bp:hL false a=[nY]) (aa:hL false x=[Ps]):hL false (a.and x)=[iT nY Ps]:=by
 unfold ae.and;rw [hL,f4 dh,f4 dh,f4 (by simp [ae.c7,ae.op]),f4 dh,ir,ir,ir,bp,aa];rfl
theorem Z5 {nY:List bG} {x:bG} (h:∀ y∈nY,y.1≠x.1):iT nY [x]=nY++[x]:=by
 show nQ nY x=_;unfold nQ;rw [f4];intro av;obtain ⟨y,ar,ad⟩:=ai6.1 av;exact h y ar (by rw [(D2 x y).1 ad])
theorem Pt (v:Nat):∀ (l:List ae) (i:Nat) (a:ae) (nY:List bG),(∀ x∈l,x.c7=true)→l.Nodup→(∀ y∈nY,y.1∉l)→(i=0→nY=[])→hL false a=[nY]→hL false (tc v i l a)=[nY++s' i l v]
  | [],i,a,nY,_,_,_,_,h=>by rw [tc,s',d7];exact h
  | f::r,i,a,nY,aE,av,aA,bn,h=>by
    rw [ar3] at av;have cH:∀ y∈nY++[(f,!v.testBit i)],y.1∉r:=fun y ar=>by
      rcases ab'.1 ar with ar|ar
      · exact fun hm=>aA y ar (f9 _ hm)
      · rw [i7.1 ar];exact av.1
    have e:=Z3 (aE f g8) (v.testBit i);have al:hL false (if i=0 then tb f (v.testBit i) else a.and (tb f (v.testBit i)))=[nY++[(f,!v.testBit i)]]:=by
      split
      · rename_i aQ;rw [bn aQ,e];rfl
      · rw [Z4 h e,Z5]
        intro y ar he;refine aA y ar ?_;rw [he];exact g8
    rw [tc,s',Pt v r (i+1) _ _ (fun x aa=>aE x (f9 _ aa)) av.2 cH ak al,aj0];rfl
theorem Z6 {l:List ae} (aE:∀ x∈l,x.c7=true) (av:l.Nodup) (v:Nat):hL false (x8 l v)=[oF l v]:=
 Pt v l 0 _ [] aE av (fun _ h=>by cases h) (fun _=>rfl) (by rw [hL];simp)
theorem Pu {w:bo} {f:ae} (ay:dU w f=true) (aE:f.c7=true) {d:Nat} {k:Int} (aA:1≤d) (ax:1≤k):eU w d k f=(true,k-1):=by
 have Z7:=zD ay aE;rw [p0,d6] at ay;obtain ⟨o,a,p,c,n,ks⟩:=f;rw [eU,f4 ez,f7 ay.1];have:ks=[]:=Z7;rw [this,gH]
theorem Z8 {w:bo} {f:ae} {d:Nat} {k m:Int} (h:eU w d (k-1) f=(true,m)) (ax:1≤k):eU w (d+1) k f.not=(true,m):=by
 unfold ae.not;rw [eU,f4 ez,f7 (by rfl),aD9,gH,h,f7 C,gH]
theorem Z9 {w:bo} {f g:ae} {d:Nat} {k m r:Int} (h:eU w d (k-1) f=(true,m)) (ad:eU w d m g=(true,r)) (ax:1≤k):eU w (d+1) k (f.and g)=(true,r):=by
 unfold ae.and;rw [eU,f4 ez,f7 (by rfl),aD9,gH,h,f7 C,gH,ad,f7 C,gH]
theorem Pv {w:bo} {f:ae} (ay:dU w f=true) (aE:f.c7=true) (b:Bool) {d:Nat} {k:Int} (aA:2≤d) (ax:2≤k):∃ m,eU w d k (tb f b)=(true,m)∧k-2≤m:=by
 cases b with
 | true=>exact ⟨k-1,Pu ay aE ak ak,by omega⟩
 | false=>
  obtain ⟨e,rfl⟩:∃ e,d=e+1:=⟨d-1,by omega⟩;exact ⟨k-1-1,Z8 (Pu ay aE ak ak) ak,by omega⟩
def BZ (w:bo) (i:Nat) (a:ae):Prop:=∀ (d:Nat) (k:Int),i+1≤d→3*(i:Int)≤k→1≤k→∃ m,eU w d k a=(true,m)∧k-(if i=0 then 1 else 3*(i:Int)-1)≤m
theorem BZ.next {w:bo} {i:Nat} {a f:ae} {b:Bool} (h:BZ w i a) (ay:dU w f=true) (aE:f.c7=true):BZ w (i+1) (if i=0 then tb f b else a.and (tb f b)):=by
 intro d k aA ax ma;split
 ·rename_i bn
  subst bn;obtain ⟨m,U,ad⟩:=Pv ay aE b (d:=d) (k:=k) ak ak;exact ⟨m,U,by simp;omega⟩
 ·rename_i bn
  obtain ⟨e,rfl⟩:∃ e,d=e+1:=⟨d-1,by omega⟩;obtain ⟨m,U,ad⟩:=h e (k-1) ak ak ak;rw [f4 bn] at ad;obtain ⟨r,aj,bk⟩:=Pv ay aE b (d:=e) (k:=m) ak ak;exact ⟨r,Z9 U aj ak,by rw [f4 ak];push_cast;omega⟩
theorem Pw {w:bo} (v:Nat):∀ (l:List ae) (i:Nat) (a:ae),j8 w l→BZ w i a→BZ w (i+l.length) (tc v i l a)
  | [],i,a,_,h=>h
  | f::r,i,a,gZ,h=>by
    have U:=gZ f g8;have:=Pw (w:=w) v r (i+1) _ (fun x aa=>gZ x (f9 _ aa)) (h.next (b:=v.testBit i) U.1 U.2);rw [tc,i9,show i+(r.length+1)=i+1+r.length by omega];exact this
theorem Z' {w:bo} {l:List ae} (gZ:j8 w l) (gL:l.length≤7) (v:Nat):hi w (x8 l v)=true:=by
 have:=Pw (w:=w) v l 0 (.mk 1 0 [] 0 0 []) gZ (fun d k aA _ ma=>⟨k-1,by
  rw [eU,f4 ez,f7 (by rfl),gH],by simp⟩)
 obtain ⟨m,U,-⟩:=this 12 24 ak ak ak;unfold hi;show (eU w 12 24 (x8 l v)).1=true;unfold x8;rw [U]
theorem aaa {w:bo} {l:List ae} (gZ:j8 w l) (gL:l.length≤7) (av:l.Nodup) (v:Nat):(hi w (x8 l v)&&ta w (x8 l v))=r1 w l v:=by
 rw [Z' gZ gL,i8];unfold ta r1;rw [Z6 (fun x aa=>(gZ x aa).2) av];simp
def fl (a c:Int):ae := .mk 2 a [] c 0 []
def j9 (w:bo) (f g:ae):Bool := !ta w (f.and g.not)
def oG (arg:Int) (x:ae):Bool:=(decide (x.op=3)||decide (x.op=4))&&(decide (x.arg=arg)&&decide (x.path.length=0))
def qZ (arg:Int) (l:List ae) (x:ae):List ae:=if oG arg x && !l.any (fun y=>decide (y.op=x.op)&&decide (y.n=x.n)) then l++[.mk x.op arg [] 0 x.n []] else l
mutual
def fO (arg:Int) (l:List ae):ae→List ae
 | .mk o a p c n ks=>dw arg (qZ arg l (.mk o a p c n ks)) ks
def dw (arg:Int) (l:List ae):List ae→List ae
 | []=>l
 | x::r=>dw arg (fO arg l x) r
end
def td (f:ae) (arg:Int):List ae:=[fl arg 1,fl arg 2]++((kF f).foldl jl []).filter (oG arg)
def k5 (w:bo) (f:ae) (arg:Int):List ae:=(td f arg).filterMap fun x=>if j9 w f x then some x else if j9 w f x.not then some x.not else none
theorem zE {arg:Int} {x:ae} (h:oG arg x=true):(x.op=3∨x.op=4)∧x.arg=arg∧x.path=[]:=by
 unfold oG at h;simp only [d6,aj',f5] at h;exact ⟨h.1,h.2.1,List.eq_nil_of_length_eq_zero h.2.2⟩
theorem IT {w:bo} {f:ae} (h:dU w f=true∧f.c7=true):f.kids=[]∧(f.op≠2→f.cls=0):=by
 obtain ⟨U,ad⟩:=h;refine ⟨zD U ad,fun ai=>?_⟩;rw [p0,d6] at U;have av:=U.1;simp only [fr,ad,ak2,d6,f5,ai4] at av;have:=av.2.2.2.2.2.2.2;rw [f4 ai] at this;simp only [d6,f5] at this;exact this.1
theorem Px {w:bo} {arg:Int} {x:ae} (aa:dU w x=true∧x.c7=true) (h:oG arg x=true):ae.mk x.op arg [] 0 x.n []=x:=by
 obtain ⟨U,ad,aj⟩:=zE h;obtain ⟨ck,cL⟩:=IT aa;have cL:=cL ak;obtain ⟨o,a,p,c,n,ks⟩:=x;simp only [ae.op,ae.arg,ae.path,ae.cls,ae.n,ae.kids] at *;subst ad;subst aj;subst ck;subst cL;rfl
theorem Py {w:bo} {arg:Int} {x y:ae} (aa:dU w x=true∧x.c7=true) (ar:dU w y=true∧y.c7=true) (h:oG arg x=true):(oG arg y&&(decide (y.op=x.op)&&decide (y.n=x.n)))=fZ y x:=by
 obtain ⟨U,ad,aj⟩:=zE h;have cL:=(IT aa).2 ak;have vG:=(IT ar).2;rw [aj3];unfold fZ;simp only [d6,f5,ao7];constructor
 ·rintro ⟨g,g1,g2⟩
  obtain ⟨g3,g4,g5⟩:=zE g;exact ⟨g1,by rw [g4,ad],by rw [vG ak,cL],g2,by rw [g5,aj]⟩
 ·rintro ⟨g1,g2,g3,g4,g5⟩
  refine ⟨?_,g1,g4⟩;unfold oG;rw [g1,g2,g5,ad,aj];simp only [ai9,decide_true,as0,aj',f5];exact U
theorem Pz {w:bo} (arg:Int):∀ (cP acc:List ae),j8 w cP→j8 w acc→cP.foldl (qZ arg) ([fl arg 1,fl arg 2]++acc.filter (oG arg))=[fl arg 1,fl arg 2]++(cP.foldl jl acc).filter (oG arg)
  | [],acc,_,_=>rfl
  | x::r,acc,h,bp=>by
    have aa:=h x g8;have aC:=fun y ar=>h y (f9 x ar)
    have U:j8 w (jl acc x):=fun y ar=>by
      rcases Pc ar with ar|rfl
      · exact bp y ar
      · exact aa
    rw [ak9,ak9,← Pz arg r (jl acc x) aC U];congr 1;unfold qZ jl;cases aq:oG arg x with
    | false=>
      rw [aa',f4 bc];split
      · rfl
      · rw [ap6,List.filter_cons_of_neg (by rw [aq];simp),az4,d7]
    | true=>
      have he:([fl arg 1,fl arg 2]++acc.filter (oG arg)).any (fun y=>decide (y.op=x.op)&&decide (y.n=x.n))=acc.any fun y=>fZ y x:=by
        have ai:=(zE aq).1;rw [ax2,ak',ak',ax9];have bT:decide ((fl arg 1).op=x.op)=false:=M2 (by show ¬ (2:Int)=x.op;omega);have bI:decide ((fl arg 2).op=x.op)=false:=M2 (by show ¬ (2:Int)=x.op;omega);rw [bT,bI,aa',aa',ak4,ak4,ak4,List.any_filter];rw [aj3,ai6,ai6];constructor
        · rintro ⟨y,ar,e⟩;exact ⟨y,ar,by rw [← Py aa (bp y ar) aq];exact e⟩
        · rintro ⟨y,ar,e⟩;exact ⟨y,ar,by rw [Py aa (bp y ar) aq];exact e⟩
      rw [he,i8];cases aw:acc.any fun y=>fZ y x with
      | true=>rw [f4 bc,f7 C]
      | false=>
        rw [f7 bc,f4 bc,ap6,List.filter_cons_of_pos aq,az4,Px aa aq,aj0]
mutual
theorem PA {w:bo} (arg:Int):∀ (f:ae) (l:List ae),dU w f=true→fO arg l f=(kF f).foldl (qZ arg) l
  | .mk o a p c n ks,l,h=>by
    have ay:=h;rw [dU,d6] at h;rw [fO,kF];split
    · rename_i aE
      have ax:ks=[]:=zD ay aE;subst ax;rw [dw];rfl
    · rename_i aE
      have mP:qZ arg l (.mk o a p c n ks)=l:=by
        unfold qZ;have:oG arg (.mk o a p c n ks)=false:=by
          rw [am5];intro aq;have ai:o=3∨o=4:=(zE aq).1;apply aE;show (decide (o≥2)&&decide (o≤4))=true;simp;omega
        rw [this,aa',f4 bc]
      rw [mP];exact PB arg ks l h.2
theorem PB {w:bo} (arg:Int):∀ (ks:List ae) (l:List ae),hK w ks=true→dw arg l ks=(oE ks).foldl (qZ arg) l
  | [],l,_=>rfl
  | x::r,l,h=>by
    rw [hK,d6] at h;rw [dw,oE,aq',PA arg x l h.1,PB arg r _ h.2]
end
theorem IU {w:bo} {f:ae} (h:dU w f=true) (arg:Int):fO arg [fl arg 1,fl arg 2] f=td f arg:=by
 rw [PA arg f _ h];have:=Pz (w:=w) arg (kF f) [] (BS f w h) (fun _ h=>by cases h);rwa [az4,d7] at this
section
variable {w:bo} (hw:fJ w) {L:List bG} (bE:lS w L) {arg:Int}
include hw in
theorem PC {path:List Int} {s:Int} (al:s∈jC w.owner.length L arg path):3≤fT w s∧fT w s<3+w.ps.length:=by
 obtain ⟨k,ax,rfl⟩:=ae'.1 al;have ax:=al4.1 (aj1.1 ax).1;have:=hw.own _ (an9 ax);unfold fT;rw [ai7,d9,f8 ax,al1];omega
include hw bE
theorem aab {path:List Int} {cn:List Int→Bool} {S:Nat→Bool} {kE:Int→h5} (h:nd w L arg path (.obj S kE)) (pf:∀ s∈jC w.owner.length L arg path,nd w L arg (path++[s]) (kE s)→cn (path++[s])=true):ua w L cn arg path=true:=by
  have bn:=h;obtain ⟨⟨ck,cL,ev⟩,al⟩:=h;have gC:∀ s r x,h5.sat w (.obj S kE) (s::r) x=if S (fT w s) then (kE s).sat w r x else false:=fun s r x=>by
    unfold h5.sat;show (match (if S (fT w s) then (kE s).pk w r else av7) with|av7=>false|some u=>u.test x)=_;cases S (fT w s)<;>rfl
  obtain ⟨f,g,bT,aZ,ay⟩:=O4 bE S (eC L arg path) (fun _=>false) (fun _=>false) (fun x aa=>(x2.1 aa).1) (fun x aa=>IH bn x aa) cL (fun k h=>by cases h) (fun k h=>by cases h)
  obtain ⟨j6,nW,bI,aac,m2⟩:=O6 S cn path cL (fun s gU=>by have:=PC hw gU;omega) (fun s gU aq=>by
    unfold hM at aq
    rw [av5,ai6] at aq
    obtain ⟨x,aa,aw⟩:=aq
    obtain ⟨cx,cE⟩:=at0.1 aw
    obtain ⟨dz,r,ik⟩:=BR.1 cE
    have:=al x aa dz (s::r) (by rw [ik,aj0];rfl)
    rw [gC] at this
    cases bO:S (fT w s) with
    | true=>rfl
    | false=>
      rw [bO,f4 bc] at this
      rw [← this] at cx;cases cx) (fun s gU bO=>pf s gU ⟨ev s bO,fun x aa bp r aC=>by
    have:=al x aa bp (s::r) (by rw [aC,aj0];rfl)
    rw [gC,bO,f7 C] at this
    exact this⟩) (jC w.owner.length L arg path) f g (fun _ h=>h) aZ ay
  unfold ua;rw [bT];simp only;rw [bI];simp only [d6,aj7,ai4,al4];refine ⟨?_,fun k _=>?_⟩
  · rw [am5];intro h;exact (m2 0 h).1 C
  · rw [ay9]
    by_cases bO:nW k=true
    · left
      obtain ⟨ahW,z2⟩:=m2 k bO;rw [am5];intro aw
      have:=OU hw ck w.ps.length _ k (t7 _) (fun i aQ=>by
        split at aQ
        · cases aQ
        · rename_i bn
          rcases aac i aQ with h|h
          · exact absurd h bn
          · exact h) aw
      rw [z2] at this;cases this
    · right;simpa using bO
theorem aad {path:List Int} {cn:List Int→Bool} (h:ua w L cn arg path=true) (pf:∀ s∈jC w.owner.length L arg path,cn (path++[s])=true→∃ t,nd w L arg (path++[s]) t):∃ t,nd w L arg path t:=by
 classical
 unfold ua at h;rw [BL] at h;split at h
 ·cases h
 rename_i a bp;split at bp
 ·cases bp
 rename_i ur;simp only [ap7.injEq] at bp;split at h
 ·cases h
 rename_i b aq;rw [BM] at aq;split at aq
 ·cases aq
 rename_i B0;simp only [ap7.injEq] at aq;have aae:∀ k,a.1 k=(eC L arg path).any (fun x => !k4 x&&(!x.2&&decide (x.1.cls.toNat=k))):=fun k=>by rw [← bp];simp
 have aaf:∀ k,a.2 k=(eC L arg path).any (fun x => !k4 x&&(x.2&&decide (x.1.cls.toNat=k))):=fun k=>by rw [← bp];simp
 have PD:∀ k,b.1 k=(a.1 k||(jC w.owner.length L arg path).any (fun s => !hM L arg (path++[s])&&decide (fT w s=k))):=fun k=>by rw [← aq]
 have rV:∀ k,b.2 k=(a.2 k||(jC w.owner.length L arg path).any (fun s => !cn (path++[s])&&decide (fT w s=k))):=fun k=>by rw [← aq]
 simp only [d6,aj7,ai4,al4] at h;obtain ⟨bO,cm⟩:=h;generalize iq:fY w.ps w.ps.length (fun k=>if k=0 then false else b.1 k)=aik at cm;have PE:∀ k,k≠0→b.1 k=true→aik k=true:=fun k ax aq=>by
  rw [← iq];exact IG _ _ _ _ (by simp only [f4 ax];exact aq)
 have PF:∀ k,k<3+w.ps.length→aik k=true→b.2 k=false:=fun k ax h=>by
  have:=cm k ax;rw [h,i8] at this;exact this
 let S:Nat→Bool:=fun k=>decide (3≤k)&&aik k
 let kE:Int→h5:=fun s=>if h:∃ t,nd w L arg (path++[s]) t then h.choose else .none
 have uf:∀ s,(∃ t,nd w L arg (path++[s]) t)→nd w L arg (path++[s]) (kE s):=fun s h=>by
  show nd w L arg (path++[s]) (if h:∃ t,nd w L arg (path++[s]) t then h.choose else .none);rw [dif_pos h];exact h.choose_spec
 have aag:∀ s,(kE s).ok w:=fun s=>by
  show (if h:∃ t,nd w L arg (path++[s]) t then h.choose else h5.none).ok w;split
  ·rename_i h;exact h.choose_spec.1
  ·trivial
 have cK:∀ k,S k=true↔3≤k∧aik k=true:=fun k=>by simp [S]
 refine ⟨.obj S kE,⟨fun j l p aE al aB=>?_,fun k ax=>((cK k).1 ax).1,fun s _=>aag s⟩,fun x aa zF r aC=>?_⟩
 ·have aj:=tZ hw aE aB
  have aK:=(ac'.1 aE).1;refine (cK _).2 ⟨by omega,?_⟩;have:=((cK _).1 al).2;rw [← iq] at this ⊢;exact OT hw _ _ j l p (t7 _) aK aE this aB
 cases r with
 | nil=>
  rw [d7] at aC;have zy:=x2.2 ⟨aa,zF,aC⟩;show (decide (x.1.op=2)&&(decide (x.1.cls=0)||S x.1.cls.toNat)) = !x.2;have av:=ur;rw [Bool.not_eq_true,al2] at av;have av:=av x zy;by_cases aw:k4 x=true
  ·rw [aw,i8] at av
   have sH:x.2=true:=by simpa using av
   rw [sH];unfold k4 at aw;simp only [aj',aj7,f5,decide_eq_false_iff_not] at aw;rw [an5,ay9];rcases aw with aw|aw|aw
   ·left;simpa using aw
   ·right;rw [aw];simp [S]
   ·right;rw [aw];simp [S]
  ·have aw:k4 x=false:=by simpa using aw
   have o9:=aw;unfold k4 at aw;simp only [ao1,av5,f5,decide_eq_false_iff_not] at aw;obtain ⟨ai,U,ad⟩:=aw;have agL:=rX bE zy ai;rw [ai,i6 C,i8];cases sH:x.2 with
   | true=>
    have ay:b.2 x.1.cls.toNat=true:=by
     rw [rV,aaf,aj'];left;refine ai6.2 ⟨x,zy,?_⟩;rw [o9,sH];simp
    have bn:x.1.cls≠0:=fun e=>by rw [e] at ay;rw [show (0:Int).toNat=0 from rfl,bO] at ay;cases ay
    rw [M2 bn,ak4,an5,am5];intro al;have:=PF _ ak ((cK _).1 al).2;rw [ay] at this;cases this
   | false=>
    have aZ:b.1 x.1.cls.toNat=true:=by
     rw [PD,aae,aj'];left;refine ai6.2 ⟨x,zy,?_⟩;rw [o9,sH];simp
    by_cases bn:x.1.cls=0
    ·rw [i6 bn];rfl
    ·rw [M2 bn,ak4,an4]
     exact (cK _).2 ⟨by omega,PE _ ak aZ⟩
 | cons s r=>
  have dt:=O1 bE aa zF aC;have qH:=PC hw dt;have gC:h5.sat w (.obj S kE) (s::r) x.1=if S (fT w s) then (kE s).sat w r x.1 else false:=by
   unfold h5.sat;show (match (if S (fT w s) then (kE s).pk w r else av7) with|av7=>false|some u=>u.test x.1)=_;cases S (fT w s)<;>rfl
  rw [gC];cases al:S (fT w s) with
  | true=>
   rw [f7 C];have ay:=PF _ qH.2 ((cK _).1 al).2;have aw:cn (path++[s])=true:=by
    cases aw:cn (path++[s]) with
    | true=>rfl
    | false=>
     exfalso;rw [rV,ao1,al2] at ay;have:=ay.2 s dt;rw [aw] at this;simp at this
   exact (uf s (pf s dt aw)).2 x aa zF r (by rw [aC,aj0];rfl)
  | false=>
   rw [f4 bc];cases sH:x.2 with
   | true=>rfl
   | false=>
    exfalso;have dH:hM L arg (path++[s])=false:=by
     unfold hM;rw [av5,ai6];exact ⟨x,aa,by rw [sH,BR.2 ⟨zF,r,by rw [aC,aj0];rfl⟩];rfl⟩
    have:b.1 (fT w s)=true:=by
     rw [PD,aj'];right;exact ai6.2 ⟨s,dt,by rw [dH];simp⟩
    have:=(cK _).2 ⟨qH.1,PE _ ak this⟩;rw [al] at this;cases this
theorem IV:∀ (k:Nat) (path:List Int),path.length+k=3→path.length≤2→(sV w L arg k path=true↔∃ t,nd w L arg path t)
  | 0,path,U,ad=>by omega
  | k+1,path,U,ad=>by
    have uf:∀ s∈jC w.owner.length L arg path,(sV w L arg k (path++[s])=true↔∃ t,nd w L arg (path++[s]) t):=fun s al=>by
      obtain ⟨i,aQ,rfl⟩:=ae'.1 al;have:=s6 bE (aj1.1 aQ).2;exact IV k _ (by rw [f0,ad'];omega) this.2.2
    rw [sV,aj',aj',ZF bE,ZG bE];constructor
    · rintro (⟨n,h⟩|h|h)
      · exact ⟨_,h⟩
      · exact ⟨_,h⟩
      · exact aad hw bE h (fun s al aw=>(uf s al).1 aw)
    · rintro ⟨t,h⟩
      cases t with
      | int n=>exact .inl ⟨n,h⟩
      | none=>exact .inr (.inl h)
      | obj S kE=>exact .inr (.inr (aab hw bE h (fun s al aN=>(uf s al).2 ⟨_,aN⟩)))
end
def Model (w:bo) (M:Int→h5):Prop:=∀ a,(M a).ok w
def vV (w:bo) (M:Int→h5) (x:ae):Bool:=(M x.arg).sat w x.path x
theorem PG {w:bo} (hw:fJ w) {L:List bG} (bE:lS w L):ub w L=true↔∃ M,Model w M∧∀ x∈L,vV w M x.1 = !x.2:=by
 unfold ub;rw [ai4];have aah:∀ x∈L,0≤x.1.arg∧x.1.arg<3:=fun x aa=>by
  obtain ⟨U,ad⟩:=bE x aa;simp only [fr,ad,ak2,d6,f5] at U;omega
 constructor
 ·intro h
  have aw:∀ a:Nat,∃ t,h5.ok w t∧(a<3→nd w L (a:Int) [] t):=fun a=>by
   by_cases bp:a<3
   ·obtain ⟨t,aN⟩:=(IV hw bE (arg:=(a:Int)) 3 [] rfl bc).1 (h a (al4.2 bp))
    exact ⟨t,aN.1,fun _=>aN⟩
   ·exact ⟨.none,trivial,fun h=>absurd h bp⟩
  refine ⟨fun a=>(aw a.toNat).choose,fun a=>(aw a.toNat).choose_spec.1,fun x aa=>?_⟩;obtain ⟨U,ad⟩:=aah x aa;have:=((aw x.1.arg.toNat).choose_spec.2 ak).2 x aa ak x.1.path C;exact this
 ·rintro ⟨M,e2,al⟩ a bp
  refine (IV hw bE 3 [] C bc).2 ⟨M a,e2 a,fun x aa zF r aC=>?_⟩;have:=al x aa;unfold vV at this;rw [zF] at this;rw [show r=x.1.path from aC.symm];exact this
mutual
def kn (τ:ae→Bool):ae→Bool
 | .mk o a p c n ks=>
  if o=1 then true
  else if o=5 then !(mD τ 0 ks)
  else if o=6 then mD τ 0 ks&&mD τ 1 ks
  else if o=7 then mD τ 0 ks||mD τ 1 ks
  else τ (.mk o a p c n ks)
def mD (τ:ae→Bool):Nat→List ae→Bool
 | _,[]=>false
 | 0,x::_=>kn τ x
 | n+1,_::r=>mD τ n r
end
theorem ER (τ:ae→Bool):∀ (n:Nat) (l:List ae) (x:ae),l[n]? = some x→mD τ n l=kn τ x
 | 0,y::r,x,h=>by rw [mD];simp at h;rw [h]
 | n+1,y::r,x,h=>by rw [mD];exact ER τ n r x fG
theorem aai (τ:ae→Bool) (f:ae):kn τ f=if f.op=1 then true
  else if f.op=5 then !(mD τ 0 f.kids)
  else if f.op=6 then mD τ 0 f.kids&&mD τ 1 f.kids
  else if f.op=7 then mD τ 0 f.kids||mD τ 1 f.kids
  else τ f:=by cases f;rw [kn];rfl
theorem IW {y:bG}:∀ (b a:List bG),y∈a∨y∈b→y∈iT a b
  | [],a,h=>by
    rcases h with h|h
    · exact h
    · cases h
  | x::r,a,h=>by
    refine IW r (nQ a x) ?_;have aa:x∈nQ a x:=by
      unfold nQ;split
      · rename_i aw
        obtain ⟨z,bO,e⟩:=ai6.1 aw;rw [(D2 x z).1 e];exact bO
      · exact ap1 _ (i7.2 C)
    have bp:∀ z∈a,z∈nQ a x:=fun z bO=>by
      unfold nQ;split
      · exact bO
      · exact al3 _ bO
    rcases h with h|h
    · exact .inl (bp _ h)
    · rcases ai1.1 h with rfl|h
      · exact .inl aa
      · exact .inr h
def q0 (τ:ae→Bool) (l:List bG):Bool:=l.all fun x=>τ x.1 == !x.2
theorem PH (τ:ae→Bool) (a b:List bG):q0 τ (iT a b)=(q0 τ a&&q0 τ b):=by
 rw [aj3];unfold q0;rw [d6,ai4,ai4,ai4];constructor
 ·exact fun h=>⟨fun x aa=>h x (IW b a (.inl aa)),fun x aa=>h x (IW b a (.inr aa))⟩
 ·rintro ⟨U,ad⟩ x aa
  rcases Bp b a aa with aa|aa
  ·exact U x aa
  ·exact ad x aa
theorem PI (τ:ae→Bool) (l m:List (List bG)):(l.flatMap fun x=>m.map (iT x)).any (q0 τ)=(l.any (q0 τ)&&m.any (q0 τ)):=by
 rw [aj3,d6,ai6,ai6,ai6];constructor
 ·rintro ⟨z,bO,h⟩
  obtain ⟨x,aa,bO⟩:=aq5.1 bO;obtain ⟨y,ar,rfl⟩:=ae'.1 bO;rw [PH,d6] at h;exact ⟨⟨x,aa,h.1⟩,⟨y,ar,h.2⟩⟩
 ·rintro ⟨⟨x,aa,U⟩,⟨y,ar,ad⟩⟩
  exact ⟨iT x y,aq5.2 ⟨x,aa,ae'.2 ⟨y,ar,rfl⟩⟩,by rw [PH,U,ad];rfl⟩
theorem B1 {w:bo} (τ:ae→Bool):∀ (n:Nat) (f:ae) (c:Bool),f.size≤n→dU w f=true→(hL c f).any (q0 τ)=(kn τ f != c)
  | 0,f,c,h,_=>by have:=f.size_eq;omega
  | n+1,f,c,h,ay=>by
    have o6:=f.size_eq;rw [p0,d6] at ay;rw [HR,aai];rcases Ef ay.1 with ⟨U,ad⟩|⟨aE,ad,U⟩|⟨U,x,ad⟩|⟨U,x,y,ad⟩
    · rw [f7 U,f7 U]
      cases c<;>simp [q0]
    · rw [f4 ak,f4 ak,f7 aE,f4 ak,f4 ak,f4 ak,f4 ak]
      simp only [ak',ax9,ao3,q0,aq6,ax',as0];cases τ f<;>cases c<;>rfl
    · have aa:=ae.hg (l:=f.kids) (x:=x) qK
      have zG:=o5 ay.2 (by rw [ad];exact g8:x∈f.kids);rw [f4 ak,f7 U,f4 ak,f7 U,ad,qN _ 0 [x] x C,ER _ 0 [x] x C,B1 τ n x _ ak zG];cases kn τ x<;>cases c<;>rfl
    · have aa:=ae.hg (l:=f.kids) (x:=x) qK
      have ar:=ae.hg (l:=f.kids) (x:=y) (by rw [ad];simp);have zG:=o5 ay.2 (by rw [ad];exact g8:x∈f.kids);have zH:=o5 ay.2 (by rw [ad];simp:y∈f.kids);have pT:¬ f.c7=true:=by
        unfold ae.c7;simp;omega
      have ES:=fun c=>B1 τ n x c ak zG
      have ET:=fun c=>B1 τ n y c ak zH
      have bT:¬ f.op=1:=by omega
      have qD:¬ f.op=5:=by omega
      simp only [f4 bT,f4 qD,f4 pT];rw [ad,qN _ 0 [x,y] x C,qN _ 1 [x,y] y C,ER _ 0 [x,y] x C,ER _ 1 [x,y] y C];rcases U with U|U
      · rw [f7 U]
        cases c with
        | true=>
          rw [f7 (by simp [U]),ax2,ES,ET];cases kn τ x<;>cases kn τ y<;>rfl
        | false=>
          rw [f4 (by simp [U]),PI,ES,ET];cases kn τ x<;>cases kn τ y<;>rfl
      · have ahO:¬ f.op=6:=by omega
        simp only [f4 ahO,f7 U];cases c with
        | true=>
          rw [f4 (by simp [U]),PI,ES,ET];cases kn τ x<;>cases kn τ y<;>rfl
        | false=>
          rw [f7 (by simp [U]),ax2,ES,ET];cases kn τ x<;>cases kn τ y<;>rfl
theorem PJ {w:bo} {f:ae} {c:Bool} (ay:dU w f=true) {l:List bG} (aE:l∈hL c f):lS w l:=fun x aa=>by
 have:=EL f w c ay l aE x aa;rw [p0,d6] at this;exact ⟨this.1.1,this.2⟩
theorem PK {w:bo} (hw:fJ w) {f:ae} (ay:dU w f=true):ta w f=true↔∃ M,Model w M∧kn (vV w M) f=true:=by
 unfold ta;rw [ai6];constructor
 ·rintro ⟨l,aE,h⟩
  have bE:=PJ ay aE;rw [← OP hw bE] at h;obtain ⟨M,e2,al⟩:=(PG hw bE).1 h;refine ⟨M,e2,?_⟩;have:=B1 (w:=w) (vV w M) f.size f false (t7 _) ay
  rw [ai6.2 ⟨l,aE,by
   unfold q0
   rw [ai4]
   intro x aa
   rw [al x aa];simp⟩] at this
  simpa using this.symm
 ·rintro ⟨M,e2,h⟩
  have:=B1 (w:=w) (vV w M) f.size f false (t7 _) ay;rw [h,Bool.bne_false,ai6] at this;obtain ⟨l,aE,al⟩:=this;have bE:=PJ ay aE;refine ⟨l,aE,?_⟩;rw [← OP hw bE];refine (PG hw bE).2 ⟨M,e2,fun x aa=>?_⟩;unfold q0 at al;rw [ai4] at al;simpa using al x aa
theorem PL {w:bo} {f g:ae} (aZ:dU w f=true) (ay:dU w g=true):dU w (f.and g.not)=true:=by
 unfold ae.and ae.not;rw [dU,hK,hK,hK,aZ,dU,hK,hK,ay];rfl
theorem PM (τ:ae→Bool) (f g:ae):kn τ (f.and g.not)=(kn τ f && !kn τ g):=by
 unfold ae.and ae.not;rw [kn,f4 dh,f4 dh,f7 C,mD,mD,mD,kn,f4 dh,f7 C,mD]
theorem IX {w:bo} (hw:fJ w) {f g:ae} (aZ:dU w f=true) (ay:dU w g=true):j9 w f g=true↔∀ M,Model w M→kn (vV w M) f=true→kn (vV w M) g=true:=by
 unfold j9;rw [aj7];constructor
 ·intro h M e2 IY
  cases aaj:kn (vV w M) g with
  | true=>rfl
  | false=>
   rw [(PK hw (PL aZ ay)).2 ⟨M,e2,by rw [PM,IY,aaj];rfl⟩] at h;cases h
 ·intro h
  rw [am5];intro aw;obtain ⟨M,e2,he⟩:=(PK hw (PL aZ ay)).1 aw;rw [PM,d6] at he;have:=h M e2 he.1;rw [this] at he;cases he.2
theorem imp_trans {w:bo} (hw:fJ w) {f g h:ae} (aZ:dU w f=true) (ay:dU w g=true) (c4:dU w h=true) (U:j9 w f g=true) (ad:j9 w g h=true):j9 w f h=true:=
 (IX hw aZ c4).2 fun M e2 IY=>(IX hw ay c4).1 ad M e2 ((IX hw aZ ay).1 U M e2 IY)
abbrev g':=List (Int×ag)
def e9 (l:g'):List (ag×ag):=l.map fun e=>(.int .i64 e.1,e.2)
def ko (l:g') (n:Int):Option ag:=(l.find? fun e=>n==e.1).map (·.2)
def mE:g'→Int→ag→g'
 | [],n,v=>[(n,v)]
 | e::r,n,v=>if n==e.1 then (n,v)::r else e::mE r n v
theorem EU:∀ (l:g') (n m:Int) (v:ag),ko (mE l n v) m=if m=n then some v else ko l m
  | [],n,m,v=>by
    unfold mE ko;by_cases h:m=n
    · subst h;simp
    · have:(m==n)=false:=by simpa using h
      simp [h,this]
  | (k,x)::r,n,m,v=>by
    have a8:=EU r n m v;rw [mE];by_cases h:n=k
    · subst h
      rw [f7 bc];unfold ko;by_cases ad:m=n
      · subst ad;simp
      · have:(m==n)=false:=by simpa using ad
        simp [ad,this]
    · rw [f4 fG]
      unfold ko at a8 ⊢;by_cases ad:m=k
      · subst ad
        have:¬ m=n:=fun e=>h e.symm
        simp [this]
      · have aj:(m==k)=false:=by simpa using ad
        simp only [az3,aj];exact a8
theorem r5 (n:Int):∀ l:g',kc (e9 l) (.int .i64 n)=some (ko l n)
  | []=>rfl
  | (k,x)::r=>by
    have a8:=r5 n r;unfold e9 ko at *;rw [ai2,kc];by_cases h:n=k
    · subst h;simp [lI]
    · have aj:(n==k)=false:=by simpa using h
      simp only [lI,aj,az3];simpa using a8
theorem mF (n:Int) (v:ag):∀ l:g',od (e9 l) (.int .i64 n) v=some (e9 (mE l n v))
  | []=>rfl
  | (k,x)::r=>by
    have a8:=mF n v r;unfold e9 at *;rw [ai2,od,mE];by_cases h:n=k
    · subst h;simp [lI]
    · have aj:(n==k)=false:=by simpa using h
      simp only [lI,aj];simp [a8]
def pw (m:Nat):ag := .agg [.int .u64 (m:Int)]
theorem PN (m c:Nat) (hm:m<2^64) (aw:c<64):aY d4 338 [pw m,.int .i64 (c:Int)] (pw (m|||2^c)):=by
 have aq:=bx;refine aY.bj ah Tryz.func338 C C fun s I=>?_
 unfold pw
 repeat (first|(refine sM ?_)|refine ab.h0 I C C C C C C (fun b I=>?_)|refine ab.c3 ah I C C C C C C C (fun cu I=>?_)|(refine WL ?_))
 refine aS.arr ah 0 C C C C C C C C C C ak ?_;refine sN I ?_;intro I;refine aS.shl ((2^c:Nat):Int) C C C C C C ak (MO aw) ?_;refine aS.bits ((m|||2^c:Nat):Int) C C C C C C (Bi hm (NJ aw)) ?_;refine aS.arr ah 0 C C C C C C C C C C ak ?_;refine c9 I ?_;intro I;exact Fin.cZ I (iS C C (bm.get aO I) C) aH
theorem aak (m n:Nat) (hm:m<2^64) (av:n<2^64):aY d4 339 [pw m,pw n] (pw (m|||n)):=by
 have aq:=bx;refine aY.bj ah Tryz.func339 C C fun s I=>?_
 unfold pw
 repeat (first|(refine sM ?_)|refine ab.h0 I C C C C C C (fun b I=>?_)|refine ab.c3 ah I C C C C C C C (fun cu I=>?_)|(refine WM ?_))
 refine ab.arr ah 0 C C C C C C C C C C ak ?_;refine kh I ?_;intro I;refine ab.arr ah 0 C C C C C C C C C C ak ?_;refine kh I ?_;intro I;refine ab.bits ((m|||n:Nat):Int) C C C C C C (Bi hm av) ?_;refine ab.arr ah 0 C C C C C C C C C C ak ?_;refine c9 I ?_;intro I;exact Fin.cZ I (iS C C (bm.get aO I) C) aH
theorem aal (h y:Int):cY d4 (.func 399 [] [.bl [.int .i64 h] 0]) [.int .i64 y] (.bool (y != h)):=by
 have aq:=bx;refine cY.ey (first:=[]) (cap:=[.bl [.int .i64 h] 0]) ?_;refine aY.bj ah Tryz.func399 C C fun s I=>?_
 refine nM ?_;exact b2 I
theorem aam {all:List (List Int)} {c:Int} {k:Nat} {m:List Int} (h:all[k]? = some m):free (all.drop k) c=(!(m.drop 1).contains c&&free (all.drop (k+1)) c):=by
 rw [drop_cons h];rfl
theorem aan (n b:Nat) (nH:n<1000∧b<1000) (all:List (List Int)) (hm:ud n b all):aY d4 378 [fk all] (.bW [br (merged all).1,.bool (merged all).2]):=by
 have aq:=bx;refine aY.bj ah Tryz.func378 C C fun s I=>?_
 unfold fk;have EV:total all≤n*b:=Nk hm;have agM:n*b≤1000*1000:=Nat.mul_le_mul ak ak;refine c1 ?_;refine af.hv I 3 1 0 fun I=>?_
 refine af.cc [] C I (σ:=Nat×List (List Int)×List Int×bM) (fun q=>[(0,.aF 1 (q.2.1.map br) .a7),(4,.aF 1 (q.2.2.1.map ba) q.2.2.2)]) (fun q=>[(q.2.2.2,.row 3 1 q.2.2.1.length)])
  (fun q=>merge q.1 q.2.1 q.2.2.1=merged all∧total q.2.1<q.1∧ud n b q.2.1∧q.2.2.1.length+total q.2.1≤total all) (fun q=>q.1) (total all+1,all,[],.nil) ⟨rfl,ar8 _,hm,by simp⟩ ⟨⟨_,rfl,aH⟩,⟨_,rfl,aR.nil gF⟩,trivial⟩ (az.fQ _) ?_
 rintro ⟨f,cur,acc,own⟩ ⟨e4,iG,hm,y2⟩ I;simp only at e4 iG hm y2 I ⊢;have cm:=hm.len;refine c1 ?_;refine af.cc [0,4,14,15] C I (σ:=Nat×Bool) (fun z=>[(5,.bool z.2),(16,.int .i64 (z.1:Int))]) (fun _=>[(own,.row 3 1 acc.length)])
  (fun z=>z.1≤cur.length∧pick cur cur=pick cur (cur.drop z.1)∧(!z.2)=(cur.take z.1).all az0) (fun z=>cur.length-z.1) (0,false) ⟨g9 _,rfl,rfl⟩ (cy C) (az.fQ _) ?_
 rintro ⟨j,EW⟩ ⟨aK,aG,mv⟩ I;simp only at aK aG mv I ⊢;refine cl ?_;refine af.cond C (fun au=>?_) (fun aV=>?_);rotate_left
 ·have aV:j=cur.length:=by simp at aV;omega
  subst aV;rw [fe (t7 _)] at aG;rw [ag'] at mv;cases f with
  | zero=>omega
  | succ f=>
   rw [merge,aG] at e4;have e4:(acc,cur.all az0)=merged all:=e4;rw [← e4,← mv];refine bd ?_;exact Fin.cZ I C (aR.bW (.cons aR.a7 (.one aH)))
 have au:j<cur.length:=by simpa using au
 obtain ⟨l,ar,cf⟩:=b' (f:=br) au;have B2:=hm.each l (d8 ar);have PO:(cur.take (j+1)).all az0=((cur.take j).all az0&&l.isEmpty):=by rw [fD ar,aG5];simp
 unfold br at cf;refine bd ?_;cases l with
 | nil=>
  rw [XH ar] at aG;refine af.hA C ?_;refine fb ?_;exact bA.mk (j+1,EW) I ⟨au,aG,by rw [PO,← mv];simp⟩ ct (az.fQ _) (by show cur.length-(j+1)<cur.length-j;omega)
 | cons c r=>
 rw [XI ar] at aG;refine af.cond C (fun h=>absurd h ez) (fun _=>?_);refine bd ?_;refine af.cc [0,4,5,7,14,15,16,23,24] C I (σ:=Nat) (fun k=>[(25,.int .i64 (k:Int))]) (fun _=>[(own,.row 3 1 acc.length)]) (fun k=>k≤cur.length∧free cur c=free (cur.drop k) c) (fun k=>cur.length-k) 0 ⟨g9 _,rfl⟩ (cy C) (az.fQ _) ?_;rintro k ⟨ax,bC⟩ I;refine cl ?_;refine af.cond C (fun dA=>?_) (fun fE=>?_)
 ·have dA:k<cur.length:=by simpa using dA
  obtain ⟨m,PQ,aao⟩:=b' (f:=br) dA;have jI:=hm.each m (d8 PQ);rw [aam PQ] at bC;have k0:=xD (m.drop 1) c (by rw [List.length_drop];omega);unfold br at k0 aao;rw [List.map_drop] at k0;have aap:((c::r).map ba)[0]? = some (.int .i64 c):=rfl;cases m with
  | nil=>
   have bC:free cur c=free (cur.drop (k+1)) c:=bC;refine c1 ?_;exact bA.mk (k+1) I ⟨dA,bC⟩ ct (az.fQ _) (by show cur.length-(k+1)<cur.length-k;omega)
  | cons x q=>
   refine vq ?_;refine aS.m3 C C (fun _=>?_) (fun h=>absurd h bc);refine kV ?_;refine aS.slice 1 ((x::q).map ba).length C C C C C C C C (.inr C) (.inr ⟨_,_,rfl,rfl⟩) (.inl ⟨rfl,rfl,rfl⟩) (.inl ⟨rfl,rfl⟩) bc (t7 _) ?_;rw [ag'];refine dS ?_;cases bF:((x::q).drop 1).contains c with
   | true=>
    rw [bF,an5,aa'] at bC;rw [bC,f4 bc] at aG;refine bd ?_;exact bA.mk (j+1,true) I ⟨au,aG,by rw [PO];simp⟩ ct (az.fQ _) (by show cur.length-(j+1)<cur.length-j;omega)
   | false=>
    rw [bF,an4,i8] at bC;refine bd ?_;exact bA.mk (k+1) I ⟨dA,bC⟩ ct (az.fQ _) (by show cur.length-(k+1)<cur.length-k;omega)
 have fE:k=cur.length:=by simp at fE;omega
 subst fE;rw [fe (t7 _)] at bC;have bC:free cur c=true:=bC;rw [f7 bC] at aG;cases f with
 | zero=>omega
 | succ f=>
 have agN:=MP (ze aG);rw [merge,aG] at e4;simp only at e4;have aap:((c::r).map ba)[0]? = some (.int .i64 c):=rfl;refine ej ?_;refine ab.gn ah I C C C C C C C dB C C C C C C C C aO h' lP ak (fun b1 I=>?_);refine bd ?_;obtain ⟨xs,fi⟩:∃ xs:Nat→List ag,∀ j,xs j=((cur.take j).map (jh c)).map br:=⟨_,fun _=>rfl⟩;have bn:xs 0=[]:=by rw [fi];rfl
 have j1:∀ j,(xs j).length≤cur.length:=fun j=>by
  rw [fi,f6,f6];exact List.length_take_le' _ _
 refine af.hv I 23 1 0 fun I=>?_
 refine af.cc [4,10,48,49] C I (σ:=Nat×bM) (fun q=>[(50,.int .i64 (q.1:Int)),(11,.aF 1 (xs q.1) q.2)]) (fun q=>[(q.2,.row 23 1 (xs q.1).length),(.own b1,.row 3 1 (acc.length+1))]) (fun q=>q.1≤cur.length) (fun q=>cur.length-q.1) (0,.nil) (g9 _) ⟨⟨_,rfl,aH⟩,⟨_,rfl,by rw [bn];exact aR.nil gF⟩,trivial⟩ (by rw [bn];exact (by simp only [f6,ai9];exact a')) ?_;rintro ⟨i,zI⟩ aQ I;simp only at aQ I ⊢;refine cl ?_;refine af.cond C (fun p8=>?_) (fun zJ=>?_)
 ·have p8:i<cur.length:=by simpa using p8
  obtain ⟨l,ar,cf⟩:=b' (f:=br) p8;have al:=fi (i+1);rw [fD ar,t8,t8,← fi] at al;have al:xs (i+1)=xs i++[.aF 1 ((jh c l).map ba) .a7]:=al;have dt:(xs (i+1)).length=(xs i).length+1:=by rw [al];simp
  have mh:=j1 i;have hw:=Ni (.func 399 [] [.bl [.int .i64 c] 0]) (fun y=>y != c) (fun y=>aal c y) l (by have:=(hm.each l (d8 ar)).1;omega);have hw:aY d4 398 [.aF 1 (l.map ba) .a7,.func 399 [] [.bl [.int .i64 c] 0]] (.aF 1 ((jh c l).map ba) .a7):=hw;unfold br at cf;refine dS ?_;refine ab.gn ah I C C C C C C C dB C C C C C C C C aO h' (by show (_+1)*24≤_;omega) ak (fun nh I=>?_);refine iQ ?_;exact bA.mk (i+1,.own nh) I p8 mw (by show az _ [(_,.row _ _ (xs (i+1)).length),_] _;rw [dt];exact az.fQ _) (by show cur.length-(i+1)<cur.length-i;omega)
 ·have zJ:i=cur.length:=by
   have:cur.length≤i:=by simpa using zJ
   omega
  subst zJ;have he:xs cur.length=(cur.map (jh c)).map br:=by rw [fi,ag']
  rw [he] at I ⊢;refine bd ?_;exact bA.mk (f,cur.map (jh c),acc++[c],.own b1) I ⟨e4,by show total (cur.map (jh c))<f;omega,hm.jh c,by show (acc++[c]).length+total (cur.map (jh c))≤total all;rw [f0,ad'];omega⟩ ⟨⟨_,rfl,aR.a7⟩,⟨_,rfl,aR.of_eq (by simp [ba])⟩,trivial⟩ (by show az _ [(_,.row _ _ (acc++[c]).length)] _;rw [f0,ad'];exact (az.fQ _).there) (by show f<f+1;omega)
def jX (ps:List (List Int)) (iw:bM) (us:List Nat) (hj:bM) (mb:Nat):List ag:=[.aF 1 (ps.map br) iw,.aF 1 (us.map pw) hj,.map mb]
def gJ (di:Nat) (ps:List (List Int)) (iw:bM) (us:List Nat) (hj:bM) (mb:Nat) (da:g'):a6:=
 [(.own di,.box 365 (jX ps iw us hj mb)),(iw,.row 23 1 ps.length),(hj,.row 400 1 us.length),(.own mb,.map (e9 da))]
def aaq (o:Option ag) (l:List Int):Prop:=match l with
 | []=>o=none
 | x::r=>∃ v,o=some v∧aR v (.aF 1 ((x::r).map ba) .a7)
def r6 (da:g') (os:List (List Int)):Prop:=∀ c:Nat,aaq (ko da (c:Int)) (os.getD c [])
def r7 (os:List (List Int)) (l:List Int):Option (List (List Int)):=(kj os l).map fun r=>r++[l]
theorem aar (di:Nat) (ps:List (List Int)) (iw:bM) (us:List Nat) (hj:bM) (mb:Nat) (da:g') (os:List (List Int)) (dr:r6 da os) (IZ:∀ l∈os,l.length<1000) (c:Nat) (l:List Int) (aE:ps[c]? = some l) (lx:l.length≤3) (B3:∀ p∈l,0≤p) :
  bs d4 377 [.ptr di 0,.int .i64 (c:Int)] (gJ di ps iw us hj mb da) (fun o K=>o = .ret (D7 (r7 os l))∧K=gJ di ps iw us hj mb da):=by
 have aq:=bx;have tR:(ps.map br)[c]? = some (.aF 1 (l.map ba) .a7):=by rw [aj6,aE];rfl
 refine bs.bj ah Tryz.func377 C C fun s I=>?_
 unfold gJ jX at I ⊢;refine hC I ?_;intro I;refine af.hv I 23 1 0 fun I=>?_
 refine af.cc [0,1,15,16] C I (σ:=Nat×List (List Int)×bM) (fun q=>[(17,.int .i64 (q.1:Int)),(6,.aF 1 (q.2.1.map br) q.2.2)]) (fun q=>(q.2.2,.row 23 1 q.2.1.length)::gJ di ps iw us hj mb da) (fun q=>q.1≤l.length∧q.2.1.length=q.1∧kj os l=pre (kj os (l.drop q.1)) q.2.1) (fun q=>l.length-q.1) (0,[],.nil) ⟨g9 _,rfl,(XJ _).symm⟩ ⟨⟨_,rfl,aH⟩,⟨_,rfl,aR.nil gF⟩,trivial⟩ (by simp only [gJ,jX];exact a') ?_;rintro ⟨j,acc,own⟩ ⟨aK,oZ,aG⟩ I;simp only [gJ,jX] at aK oZ aG I ⊢;refine cl ?_;refine af.cond C (fun au=>?_) (fun aV=>?_);rotate_left
 ·have aV:l.length≤j:=by simpa using aV
  rw [fe aV] at aG;have aG:kj os l=some (acc++[]):=aG;have k3:r7 os l=some (acc++[l]):=by unfold r7;rw [aG];simp
  rw [k3];have gz:D7 (some (acc++[l])) = .bW [.aF 1 (acc.map br++[.aF 1 (l.map ba) .a7]) .a7,.bool true]:=by
   show ag.bW [.aF 1 ((acc++[l]).map br) .a7,.bool true]=_;rw [t8];rfl
  rw [gz];refine c9 I ?_;intro I;refine ab.gn ah I C C C C C C C dB C C C C C C C C aO h' (by show (_+1)*24≤_;omega) ak (fun b1 I=>?_);refine eB ?_;exact Fin.bz (K:=gJ di ps iw us hj mb da) I C (aR.bW (.cons aR.a7 (.one aH))) (by simp only [gJ,jX];exact a') ⟨rfl,rfl⟩
 have au:j<l.length:=by simpa using au
 obtain ⟨p,ar,cf⟩:=b' (f:=ba) au;rw [drop_cons ar,XK] at aG;have aas:=B3 p (d8 ar);have q1:=dr p.toNat;rw [av1 aas] at q1;have aat:(os.getD p.toNat []).length<1000:=by
  rw [d9];cases h:os[p.toNat]? with
  | none=>simp
  | some x=>exact IZ x (d8 h)
 generalize os.getD p.toNat []=ol at aG q1 aat;have hw:=XG ol ak;unfold ba at cf;unfold br at hw;refine c9 I ?_;intro I;cases ol with
 | nil=>
  have aG:kj os l=none:=aG;have k3:r7 os l=none:=by unfold r7;rw [aG];rfl
  rw [k3];have q1:ko da p=none:=q1;refine ab.j7 ah I C C C C C C C C C C aO C (by rw [r5,q1]) C ?_;refine bd ?_;exact Fin.bz (K:=gJ di ps iw us hj mb da) I C (aR.bW (.cons (aR.nil gF) (.one aH))) (by simp only [gJ,jX];exact a') ⟨rfl,rfl⟩
 | cons x r=>
  obtain ⟨v,q1,B4⟩:∃ v,ko da p=some v∧aR v (.aF 1 ((x::r).map ba) .a7):=q1;refine ab.j7 ah I C C C C C C C C C C aO C (by rw [r5,q1]) C ?_;refine ab.rH 26 _ C B4 ?_;refine c9 I ?_;intro I;refine ab.j7 ah I C C C C C C C C C C aO C (by rw [r5,q1]) C ?_;refine ab.rH 35 _ C B4 ?_;refine gw ?_;refine ab.gn ah I C C C C C C C dB C C C C C C C C aO h' (by show (_+1)*24≤_;omega) ak (fun b1 I=>?_);refine iQ ?_;exact bA.mk (j+1,acc++[jh 0 (x::r)],.own b1) I ⟨au,by rw [f0,oZ];rfl,aG⟩ (by repeat (first|exact trivial|refine ⟨⟨_,rfl,aH⟩,?_⟩|refine ⟨⟨_,rfl,aR.of_eq Ii⟩,?_⟩)) (by show az _ ((_,.row _ _ (acc++[jh 0 (x::r)]).length)::gJ di ps iw us hj mb da) _;rw [f0,ad'];exact (by simp only [gJ,jX];exact a')) jV
def B5 (os:List (List Int)) (l:List Int) (c:Nat):List Int:=if c=0 then [0] else match r7 os l with
 | none=>[]
 | some all=>if (merged all).2 then (c:Int)::(merged all).1++[0] else []
theorem PR {os:List (List Int)} {v:List Int} (c:Nat):(os++[v]).getD c []=if c=os.length then v else os.getD c []:=by
 rw [d9,d9];by_cases e:c=os.length
 ·subst e
  rw [f7 C,ak0 (t7 _)];simp
 ·rw [f4 e]
  rcases au9 c os.length with h|h
  ·rw [ak3 h]
  ·rw [am9 ez,am9 h]
theorem r6.xS {da:g'} {os:List (List Int)} (h:r6 da os):r6 da (os++[[]]):=fun c=>by
 rw [PR];by_cases e:c=os.length
 ·have:=h c
  rw [f7 e];rw [e,d9,am9 (t7 _)] at this;rw [e];exact this
 ·rw [f4 e];exact h c
theorem r6.put {da:g'} {os:List (List Int)} (h:r6 da os) {v:ag} (x:Int) (r:List Int) (aD:aR v (.aF 1 ((x::r).map ba) .a7)):r6 (mE da (os.length:Int) v) (os++[x::r]):=fun c=>by
 rw [PR,EU];by_cases e:c=os.length
 ·subst e;rw [f7 C,f7 C];exact ⟨v,rfl,aD⟩
 ·rw [f4 e,f4 ak];exact h c
theorem aau (di:Nat) (ps:List (List Int)) (iw:bM) (us:List Nat) (hj:bM) (mb:Nat) (da:g') (os:List (List Int)) (dr:r6 da os) (IZ:∀ l∈os,l.length<1000) (l:List Int) (aE:ps[os.length]? = some l) (lx:l.length≤3) (B3:∀ p∈l,0≤p) (PS:∀ all,r7 os l=some all→ud 4 21 all) (agO:os.length<100) :
  bs d4 340 [.ptr di 0,.int .i64 (os.length:Int)] (gJ di ps iw us hj mb da) (fun o K=>o = .ret (.bW [])∧∃ EX,K=gJ di ps iw us hj mb EX∧r6 EX (os++[B5 os l os.length])):=by
 have aq:=bx;have q2:=aar di ps iw us hj mb da os dr IZ os.length l aE lx B3;unfold B5;refine bs.bj ah Tryz.func340 C C fun s I=>?_
 unfold gJ jX at I;refine cl ?_;refine af.cond C (fun h=>?_) (fun h=>?_)
 ·have bn:os.length=0:=by have:=ao4 h;omega
  rw [f7 bn];refine c9 I ?_;intro I;refine ab.kz ah I C C (.inl C) C C C C C C aO C (mF _ _ _) (fun I=>?_);refine bd ?_;have av:=dr.put (v := .aF 1 [.int .i64 0] .clip) 0 [] aR.a7;rw [bn] at av;exact Fin.bz (K:=gJ di ps iw us hj mb (mE da 0 (.aF 1 [.int .i64 0] .clip))) I C aH (by simp only [gJ,jX];exact a') ⟨rfl,_,rfl,av⟩
 have bn:os.length≠0:=by have:=of_decide_eq_false h;omega
 rw [f4 bn];cases EY:r7 os l with
 | none=>
  rw [EY] at q2;unfold D7 fk gJ jX at q2;refine fc ?_;refine ab.bL rfl rfl rfl rfl rfl q2 I (az.all _) ?_ (fun _ _ ⟨h,_⟩ _=>by cases h);rintro _ _ ⟨⟨⟩,rfl⟩ I;rw [d7] at I ⊢;refine bd ?_;exact Fin.bz (K:=gJ di ps iw us hj mb da) I C aH (by simp only [gJ,jX];exact a') ⟨rfl,_,rfl,dr.xS⟩
 | some all=>
  rw [EY] at q2;have hm:=aan 4 21 ak all (PS all EY);unfold D7 fk gJ jX at q2;unfold fk at hm;simp only;refine fc ?_;refine ab.bL rfl rfl rfl rfl rfl q2 I (az.all _) ?_ (fun _ _ ⟨h,_⟩ _=>by cases h);rintro _ _ ⟨⟨⟩,rfl⟩ I;rw [d7] at I ⊢;cases PT:(merged all).2 with
  | false=>
   rw [PT] at hm;simp only [aj2,al0];refine c1 ?_;exact Fin.bz (K:=gJ di ps iw us hj mb da) I C aH (by simp only [gJ,jX];exact a') ⟨rfl,_,rfl,dr.xS⟩
  | true=>
   rw [PT] at hm;simp only [ak2];have jI:=No (total all+1) all [];have EV:=Nk (PS all EY);have aav:(merged all).1.length≤84:=by
    have:(merged all).1.length≤0+total all:=jI;omega
   generalize (merged all).1=zK at hm aav ⊢;unfold br at hm;refine dS ?_;refine af.D8 I 3 1 1 fun I=>?_
   refine af.sK (e6 [(di,_)]) ah mixed C (bH.run (e6.one (bm.get aO I)) C ?_);refine bH.vo 3 ah (e6.one (bm.get aO I)) C C C C C C C C (fun _ h=>e6.fst h) bZ ?_;refine bH.run (e6.one (bm.get aO I)) C ?_;refine bH.lN 8 ah I rfl rfl rfl rfl rfl rfl rfl rfl rfl dB rfl rfl rfl rfl (.inr rfl) rfl (fun y ar=>by obtain ⟨z,-,rfl⟩:=ae'.1 ar;rfl) C .here C (n':=zK.length+1) ez ez ez (fun pb I => .inl (e6.one (bm.get aO I))) (fun pb I=>?_);refine bH.run (e6.one (bm.get aO I)) C ?_;refine bH.gn 10 ah I C C C C C C C C C dB C C C C C C C C .here bc lP ak (fun zI I => .inl (e6.one (bm.get aO I))) (fun zI I=>?_);refine bH.run (e6.one (bm.get aO I)) C ?_;refine bH.kz 11 ah I C C C C (.inl C) C C C C C C aO C (mF _ _ _) (fun _ => .inr C) (fun I=>?_);refine bb.done C ?_;skip;refine Fin.bz (K:=gJ di ps iw us hj mb (mE da (os.length:Int) (.aF 1 ([ag.int .i64 (os.length:Int)]++zK.map ba++[ag.int .i64 0]) zI))) I C aH (by simp only [gJ,jX];exact a') ⟨rfl,_,rfl,dr.put _ _ ?_⟩;have:((os.length:Int)::(zK++[0])).map ba=[ag.int .i64 (os.length:Int)]++zK.map ba++[ag.int .i64 0]:=by simp [ba]
   rw [show zK.append [0]=zK++[0] from rfl,this];exact aR.a7
def q3 (g:List (List Int)):List (List Int):=[[],[],[]]++g
theorem PU {g:List (List Int)} {c:Nat} (h:c<3+g.length):(q3 g)[c]? = some (parents g c):=by
 unfold q3 parents;by_cases aw:c<3
 ·rw [f7 aw,ak3 uj]
  rcases c with _|_|_|c
  ·rfl
  ·rfl
  ·rfl
  ·omega
 ·rw [f4 aw,ak0 ez,d9]
  simp only [i9,ai9];rw [f8 ak];rfl
theorem aaw (g:List (List Int)) (os:List (List Int)) (c:Nat) (aw:c≠0):B5 os (parents g c) c=order g os c:=by
 unfold B5 order r7 lists;rw [f4 aw];cases kj os (parents g c)<;>rfl
theorem B6 (g:List (List Int)):∀ (n k:Nat),k≤n→(gO g n).take (k+1)=gO g k
  | 0,k,h=>by
    have:k=0:=by omega
    subst this;rfl
  | n+1,k,h=>by
    by_cases e:k=n+1
    · subst e
      rw [am4 (by rw [zd];exact t7 _)]
    · rw [gO,List.take_append_of_le_length (by rw [zd];omega)]
      exact B6 g n k ak
theorem aax (g:List (List Int)) {j:Nat} (aK:j<3+g.length):(gO g (2+g.length)).take (j+1)=(gO g (2+g.length)).take j++[B5 ((gO g (2+g.length)).take j) (parents g j) j]:=by
 cases j with
 | zero=>rw [B6 g _ 0 ak,an7];rfl
 | succ k=>
  rw [B6 g _ (k+1) ak,B6 g _ k ak,aaw g _ _ ak,gO]
theorem aay {g:List (List Int)} (ay:xE g) {j:Nat} (aK:j<3+g.length):(∀ l∈(gO g (2+g.length)).take j,l.length<1000)∧∀ all,r7 ((gO g (2+g.length)).take j) (parents g j)=some all→ud 4 21 all:=by
 have p1:=ay.len;have ai:=Bt ay (2+g.length) ak;refine ⟨fun l aE=>by have:=ai.len l (au4 aE);omega,fun all h=>?_⟩;cases j with
 | zero=>
  have:parents g 0=[]:=rfl;rw [this] at h;have:r7 ((gO g (2+g.length)).take 0) []=some [[]]:=rfl;rw [this] at h;cases h;exact ⟨by simp,fun l aE=>by rw [i7] at aE;subst aE;exact ⟨by simp,fun c aw=>by cases aw⟩⟩
 | succ k=>
  rw [B6 g _ k ak] at h;exact XN ay (Bt ay k ak) (c:=k+1) h
theorem aaz (g:List (List Int)) (ay:o4 g=true) (dK:List Int) (cm:dK.length<bK) (pP:∀ c∈dK,0≤c∧c<3+(g.length:Int)) :
  bs d4 296 [fk g,.aF 1 (dK.map ba) .a7] [] (fun o K=>∃ di iw us hj mb da,o = .ret (.bW [.ptr di 0,.bool true])∧K=gJ di (q3 g) iw us hj mb da∧r6 da (gO g (2+g.length))):=by
 have aq:=bx;have kd:=D6 ay;have p1:=kd.len;have aaA:=Nj g ak;rw [ay] at aaA;refine bs.bj ah Tryz.func296 C C fun s I=>?_
 unfold fk at *;have dq:ai' .i64 (3+((g.map br).length:Int))=3+(g.length:Int):=by rw [f6,hf ak ak]
 refine dS ?_;refine af.cc [0,4,5,18,19] C I (σ:=Nat) (fun j=>[(20,.int .i64 (j:Int))]) (fun _=>[]) (fun j=>j≤dK.length) (fun j=>dK.length-j) 0 (g9 _) (cy C) a' ?_;rintro j aK I;refine iR ?_;refine af.cond C (fun au=>?_) (fun aV=>?_)
 ·have au:j<dK.length:=by simpa using au
  obtain ⟨c,ar,cf⟩:=b' (f:=ba) au;obtain ⟨cx,cE⟩:=pP c (d8 ar);unfold ba at cf;refine fc ?_;refine ab.eP 26 C (M2 ak) ?_;refine jQ ?_;refine af.cond C (fun h=>by rw [dq] at h;simp at h;omega) (fun _=>?_);refine dS ?_;exact bA.mk (j+1) I au ct a' (by show dK.length-(j+1)<dK.length-j;omega)
 clear aK aV;refine dS ?_;refine ab.IN ah I 3 (3+g.length) C C C C C C C C C C C (ak5 (fun z=>some (ag.int .i64 z)) (dq.trans ak)) ak (by show _*24≤_;omega) ak (fun p9 I=>?_);skip;refine ab.ou I C C C C (fun mb I=>?_)
 repeat (first|(refine sM ?_)|refine ab.h0 I C C C C C C (fun b I=>?_)|(refine Bc I ?_;clear I;intro I))
 refine ab.lN ah I rfl rfl rfl rfl rfl rfl rfl dB rfl rfl rfl rfl (.inr rfl) rfl (fun y ar=>by obtain ⟨z,-,rfl⟩:=ae'.1 ar;rfl) C aO C (n':=3+g.length) bc ez ez (fun iw I=>?_);refine ab.rH 47 (.aF 1 ((q3 g).map br) iw) C (aR.XM (.cons aR.empty (.cons aR.empty (.cons aR.empty (b5.refl _))))) ?_;refine c9 I ?_;intro I;have h8:(q3 g).length=3+g.length:=by unfold q3;simp;omega
 refine af.A6 I b (jX (q3 g) iw [] .nil mb) aO (.cons aH (.cons (aR.nil gF) (b5.refl _))) (fun I=>?_);refine af.hv I 400 1 0 fun I=>?_
 refine af.cc [8,53,54] C I (σ:=Nat×List Nat×bM) (fun q=>[(55,.int .i64 (q.1:Int))]) (fun q=>gJ b (q3 g) iw q.2.1 q.2.2 mb []) (fun q=>q.1≤3+g.length∧q.2.1.length=q.1∧∀ m∈q.2.1,m<2^64) (fun q=>3+g.length-q.1) (0,[],.nil) ⟨g9 _,rfl,by simp⟩ (cy C) (by rw [← h8] at I ⊢;exact (by simp only [gJ,jX];exact a')) ?_;rintro ⟨j,us,hj⟩ ⟨aK,lJ,xZ⟩ I;simp only [gJ,jX] at aK lJ xZ I ⊢;refine iR ?_;refine af.cond C (fun au=>?_) (fun aV=>?_)
 ·have au:j<3+g.length:=by rw [f6,h8] at au;simp at au;omega
  have ar:=PU au;have cf:((q3 g).map br)[j]? = some (.aF 1 ((parents g j).map ba) .a7):=by rw [aj6,ar];rfl
  obtain ⟨zL,x9⟩:=kd.parents j;generalize parents g j=l at ar cf zL x9;have U:=PN 0 j dh ak;have ad:=PN (0|||2^j) 0 (ao5 dh (ao0 ak ak)) ak;unfold pw at U ad
  repeat (first|(refine vr I ?_;clear I;intro I)|refine ab.c3 ah I rfl rfl rfl rfl rfl rfl rfl (fun cu I=>?_)|(refine qJ ?_))
  refine af.cc [8,9,11,53,54,55,64,65] C I (σ:=Nat×Nat) (fun q=>[(66,.int .i64 (q.1:Int))]) (fun q=>(.own cu,.box 400 [.int .u64 (q.2:Int)])::gJ b (q3 g) iw us hj mb []) (fun q=>q.1≤l.length∧q.2<2^64) (fun q=>l.length-q.1) (0,0|||2^j|||2^0) ⟨g9 _,ao5 (ao5 dh (ao0 ak ak)) dh⟩ (cy C) (by simp only [gJ,jX];exact a') ?_;rintro ⟨k,m⟩ ⟨ax,hm⟩ I;simp only [gJ,jX] at ax hm I ⊢;refine iR ?_;refine af.cond C (fun dA=>?_) (fun fE=>?_)
  ·have dA:k<l.length:=by simpa using dA
   obtain ⟨p,aw,o9⟩:=b' (f:=ba) dA;have agP:=x9 p (d8 aw);obtain ⟨q,rfl⟩:∃ q:Nat,p=q:=⟨p.toNat,by omega⟩;obtain ⟨u,hu,aaB⟩:=b' (f:=pw) (l:=us) (j:=q) ak;have AK:=aak m u hm (xZ u (d8 hu));unfold ba at o9;unfold pw at AK aaB;refine Hr I ?_;intro I;exact bA.mk (k+1,m|||u) I ⟨dA,ao5 hm (xZ u (d8 hu))⟩ ct (by simp only [gJ,jX];exact a') (by show l.length-(k+1)<l.length-k;omega)
  ·refine jR ?_
   refine af.sK (e6 [(b,_),(cu,_)]) ah mixed C (bH.run (e6.two (bm.get aO I) (bm.get aO I)) C ?_);refine bH.vo 4 ah (e6.two (bm.get aO I) (bm.get aO I)) C C C C C C C C (fun _ h=>e6.fst h) bZ ?_;refine bH.vo 5 ah (e6.two (bm.get aO I) (bm.get aO I)) C C C C C C C C (fun _ h=>e6.snd h) bZ ?_;refine bH.run (e6.two (bm.get aO I) (bm.get aO I)) C ?_;refine bH.gn 7 ah I C C C C C C C C C dB C C C C C C C C aO bc lP ak (fun zI I => .inl (e6.two (bm.get aO I) (bm.get aO I))) (fun aaC I=>?_);refine bH.run (e6.two (bm.get aO I) (bm.get aO I)) C ?_;refine bH.cC 10 ah I C C C C C C C C C C C aO bZ (fun _ => .inr C) (fun I=>?_);refine bb.done C ?_;refine dS ?_;have lM:∀ x∈us++[m],x<2^64:=fun x aa=>by
    rcases ab'.1 aa with aa|aa
    ·exact xZ x aa
    ·rw [i7] at aa;subst aa;exact hm
   have jI:(us++[m]).length=us.length+1:=by simp
   have aaD:(us++[m]).map pw=us.map pw++[.agg [.int .u64 (m:Int)]]:=by simp [pw]
   exact bA.mk (j+1,us++[m],aaC) I ⟨au,by rw [jI,lJ],lM⟩ ct (by simp only [gJ,jX,jI,aaD];exact a') (by show 3+g.length-(j+1)<3+g.length-j;omega)
 have aV:j=3+g.length:=by rw [f6,h8] at aV;simp at aV;omega
 subst aV;refine c9 I ?_;intro I;refine af.cc [8,94,95] C I (σ:=Nat×g') (fun q=>[(96,.int .i64 (q.1:Int))]) (fun q=>gJ b (q3 g) iw us hj mb q.2) (fun q=>q.1≤3+g.length∧r6 q.2 ((gO g (2+g.length)).take q.1)) (fun q=>3+g.length-q.1) (0,[]) ⟨g9 _,fun c=>by rw [an7];rfl⟩ (cy C) (by simp only [gJ,jX];exact a') ?_;rintro ⟨j,da⟩ ⟨aK,dr⟩ I;simp only [gJ,jX] at aK dr I ⊢;refine iR ?_;refine af.cond C (fun au=>?_) (fun aV=>?_)
 ·have au:j<3+g.length:=by rw [f6,h8] at au;simp at au;omega
  obtain ⟨oR,lg⟩:=aay kd au;obtain ⟨zL,x9⟩:=kd.parents j;have EV:((gO g (2+g.length)).take j).length=j:=by rw [ah',zd];omega
  have PV:=aau b (q3 g) iw us hj mb da _ dr oR (parents g j) (by rw [EV];exact PU au) zL (fun p aB=>by have:=x9 p aB;omega) lg ak;rw [EV,← aax g au] at PV;refine fc ?_;refine ab.bL C C C C C PV I (by simp only [gJ,jX];exact a') ?_ (fun _ _ ⟨h,_⟩ _=>by cases h);rintro _ _ ⟨⟨⟩,EX,rfl,aaE⟩ I;rw [d7] at I ⊢;refine dS ?_;exact bA.mk (j+1,EX) I ⟨au,aaE⟩ ct (az.fQ _) (by show 3+g.length-(j+1)<3+g.length-j;omega)
 have aV:j=3+g.length:=by rw [f6,h8] at aV;simp at aV;omega
 subst aV;rw [am4 (by rw [zd];omega)] at dr;refine dS ?_;exact Fin.bz I C aH (az.fQ _) ⟨b,iw,us,hj,mb,da,rfl,rfl,dr⟩
theorem aaF (g:List (List Int)) (ay:g.length<bK):aY d4 327 [fk g] (.int .i64 (if o4 g then 0 else 2)):=by
 have aq:=bx;refine aY.bj ah Tryz.func327 C C fun s I=>?_
 have U:=Nj g ay;unfold fk at *
 repeat' (first|(with_reducible first|apply af.seq|apply cg|apply jA|apply af.ret|apply af.skip)|refine e7 C ?_|refine af.cv ?_|refine ab.nil ?_|refine cq C ?_|refine ab.eT C C C C C cD ?_|refine af.cond C (fun h=>?_) (fun h=>?_))
 all_goals exact Fin.cZ I C (aR.of_eq xl)
def EZ (l:List Int):ag:=if l.isEmpty then .bW [.aF 0 [] .nil,.int .i64 7] else .bW [br l,.int .i64 0]
theorem PW (g:List (List Int)) (ay:o4 g=true) (c:Nat) (aw:c<3+g.length):aY d4 237 [fk g,.int .i64 (c:Int)] (EZ ((gO g (2+g.length)).getD c [])):=by
 have aq:=bx;refine aY.bj ah Tryz.func237 C C fun s I=>?_
 have U:=aaz g ay [(c:Int)] ez (by intro x aa;rw [i7] at aa;subst aa;omega);have kd:=D6 ay;have p1:=kd.len;have ai:=Bt kd (2+g.length) ak;unfold fk at *;have U:=bs.args (show b5 [.aF 1 (g.map br) .a7,.aF 1 [.int .i64 (c:Int)] .clip] [.aF 1 (g.map br) .a7,.aF 1 ([(c:Int)].map ba) .a7] from .cons aH (.one aR.a7)) U;refine cX ?_;refine ab.bL rfl rfl rfl rfl rfl U I .nil ?_ (fun _ _ ⟨_,_,_,_,_,_,h,_⟩ _=>by cases h);rintro _ _ ⟨di,iw,us,hj,mb,da,⟨⟩,rfl,dr⟩ I;rw [d7] at I ⊢;have B7:=dr c;have gq:((gO g (2+g.length)).getD c []).length<bK:=by
  rw [d9];cases h:(gO g (2+g.length))[c]? with
  | none=>simp;omega
  | some x=>have:=ai.len x (d8 h);show x.length<bK;omega
 generalize (gO g (2+g.length)).getD c []=l at B7 gq;unfold gJ jX at I ⊢;cases l with
 | nil=>
  have B7:ko da (c:Int)=none:=B7;refine hC I ?_;intro I;refine ab.j7 ah I C C C C C C C C C C aO C (by rw [r5,B7]) C ?_;refine bd ?_;exact b2 I
 | cons x r=>
  obtain ⟨v,q1,B4⟩:∃ v,ko da (c:Int)=some v∧aR v (.aF 1 ((x::r).map ba) .a7):=B7;have cm:=vB (x::r) .a7 gq;unfold br at cm;refine hC I ?_;intro I;refine ab.j7 ah I C C C C C C C C C C aO C (by rw [r5,q1]) C ?_;refine ab.rH 22 _ C B4 ?_;refine c9 I ?_;intro I;refine ab.j7 ah I C C C C C C C C C C aO C (by rw [r5,q1]) C ?_;refine ab.rH 30 _ C B4 ?_;refine gw ?_;exact b2 I
end Go.Proofs.YtimbpjfhekcofaaGreat
