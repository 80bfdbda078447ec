import Derived.Test.YtimbpjfhekcofaaGreatKh
import Derived.Shelf.Slices.Reverse
import Derived.DeepKeys
import Derived.Test.YtimbpjfhekcofaaGreatRows
import Derived.ProofKit
import Derived.OpenShut
import Derived.WalkKit
import Derived.JoinedCond
set_option linter.unusedVariables false
set_option linter.unusedSimpArgs false
set_option maxRecDepth 100000
set_option maxHeartbeats 4000000
open Bool renaming and_eq_true→d6,false_or→ak4,or_false→ao3,true_and→i8,true_or→ar'
open Int renaming toNat_natCast→ai7
open List renaming all_eq_true→ai4,any_cons→ak',append_assoc→aj0,append_nil→d7,cons_append→d5,drop_replicate→aw',eq_nil_of_length_eq_zero→ak7,filter_append→ap6,filter_cons→an1,find?_eq_none→aq3,foldl_append→aq',getD_eq_getElem?_getD→d9,getElem?_append_right→ak0,getElem?_eq_getElem→f8,getElem?_eq_none→am9,getElem?_map→aj6,getElem?_replicate→as2,getElem?_take→al',length_append→f0,length_cons→i9,length_eq_zero_iff→ay4,length_filter_le→al8,length_filter_lt_length_iff_exists→al9,length_map→f6,length_mergeSort→ar5,length_nil→ai9,length_range→aq0,length_replicate→am3,length_reverse→aD4,length_singleton→ad',length_take→ah',map_append→t8,map_cons→ai2,map_drop→ay8,map_id'→aI6,map_map→ax7,map_nil→aj5,map_set→ax6,map_take→at2,mem_append_left→al3,mem_append_right→ap1,mem_cons_of_mem→f9,mem_cons_self→g8,mem_cons→ai1,mem_filter→aj1,mem_flatMap→aq5,mem_map→ae',mem_of_find?_eq_some→al6,mem_of_getElem?→d8,mem_singleton→i7,nil_append→d0,nodup_append→an',not_mem_nil→aB5,range_succ→au1,range→ak6,replicate→ai0,set_append_right→ap0,set_cons_succ→az9,set_cons_zero→ax3,sum_append_nat→aD2,sum_cons→aA5,take_left'→ao9,take_length→ag',take_zero→an7
open Nat renaming add_assoc→at1,add_zero→as8,blt→af',le_refl→t7,le_trans→al7,mul_le_mul_right→ao8,mul_one→am8,sub_self→aw3,zero_add→aj8,zero_le→g9
open Option renaming map_none→aq2
open Go.Sem renaming run_bind→H1
open Go.Proofs.Tryz renaming prog→d4
namespace Go.Proofs.YtimbpjfhekcofaaGreat
theorem S2 {p:Prop} (h:p:=by repeat (first|exact az.all _|exact az.there (az.all _)|exact az.there (az.there (az.all _))|exact az.there (az.there (az.there (az.all _)))|exact az.there (az.there (az.there (az.there (az.all _))))|exact az.there (az.there (az.there (az.there (az.there (az.all _)))))|exact az.there (az.there (az.there (az.there (az.there (az.there (az.all _))))))|(apply az.cons;· repeat (first|exact bm.here|apply bm.there)))):p:=h
theorem F4 {p:Prop} (h:p:=by simp only [l',ld,oj,om,List.map_append,List.map_cons,List.map_nil,List.length_append,List.length_cons,List.length_nil];exact a'):p:=h
theorem S3 {p:Prop} (h:p:=by repeat (first|exact trivial|refine ⟨⟨_,rfl,aH⟩,?_⟩|refine ⟨⟨_,rfl,aR.of_eq (by (first|rw [lo (by omega)]|(rw [al];done)|(rw [al];rfl)))⟩,?_⟩)):p:=h
theorem S4 {p:Prop} (h:p:=by repeat (first|exact trivial|refine ⟨⟨_,rfl,aH⟩,?_⟩|refine ⟨⟨_,rfl,aR.of_eq (by (simp only [gy,List.length_append,List.length_singleton]))⟩,?_⟩)):p:=h
theorem KM {p:Prop} (h:p:=by repeat (first|exact trivial|refine ⟨⟨_,rfl,aH⟩,?_⟩|refine ⟨⟨_,rfl,aR.of_eq (by (first|rw [lo (by omega)]|(rw [has];done)))⟩,?_⟩)):p:=h
theorem An {p:Prop} (h:p:=by simp only [gh];exact a'):p:=h
theorem KN {p:Prop} (h:p:=by simp only [List.length_map,List.length_singleton];show _*8≤_;omega):p:=h
theorem KO {p:Prop} (h:p:=by show p.methods.length-(i+1)<p.methods.length-i;omega):p:=h
theorem CP {p:Prop} (h:p:=by show p.nodes.length-(j+1)<p.nodes.length-j;omega):p:=h
theorem CQ {p:Prop} (h:p:=by rw [List.take_left' (by simp)];exact te _):p:=h
theorem F5 {p:Prop} (h:p:=by have:=uS 3;have:=gq 3;omega):p:=h
open Go.Shelf Go.Sort Go.Proofs
def aeX:Go.Shelf.Ren:=⟨fun|112=>322|n=>n,fun|28=>23|3=>3|4=>4|0=>0|n=>n,fun n=>n⟩
theorem aeY:Lays.n112 d4 aeX where
 mixed:=by kernel_rfl
 f112 := Tryz.func322.trans (ak5 some gN)
 t0 := Tryz.underlying0
 a0 := Tryz.isAgg0
 z0 := Tryz.sizeOf0
 v0 := Tryz.zeroValue0
 t3 := Tryz.underlying3
 a3 := Tryz.isAgg3
 z3 := Tryz.sizeOf3
 v3 := Tryz.zeroValue3
 t4 := Tryz.underlying4
 a4 := Tryz.isAgg4
 z4 := Tryz.sizeOf4
 v4 := Tryz.zeroValue4
 t28 := Tryz.underlying23
 a28 := Tryz.isAgg23
 z28 := Tryz.sizeOf23
 v28 := Tryz.zeroValue23
theorem aeZ (kW off cap:Nat) (aO:List Int) (w:World) (lQ:Holds (Value.int .i64) w kW off aO.toArray) (N8:kW<w.heap.size) (b6:aO.length<4611686018427387904) :
  Calls d4 322 #[.slice (some ⟨kW,off,none⟩) aO.length cap] w fun e w'=>
   e = .returned (.tuple #[])∧∃ n os,w'=grow (putRow (Value.int .i64) (Sort.ahead w n) kW off aO.reverse.toArray) os:=
 (Any.slices_Reverse_int aeY kW off cap aO w lQ ak).mono fun e w' ⟨h,n,hw⟩=>⟨h,n,#[],by rw [grow_empty];exact hw⟩
theorem S5 (b cap:Nat) (l:List Int) (rest:List ag) (aE:l.length<4611686018427387904) :
  bs d4 322 [dv b l.length cap] [(.own b,.box 3 (l.map ba++rest))] (fun o K=>o = .ret (.bW [])∧K=[(.own b,.box 3 (l.reverse.map ba++rest))]):=
 bs.inPlace (α:=Int) (enc:=Value.int .i64) (encA:=ba) (g:=List.reverse) (fun l=>aD4) call322 N9 (fun w p a => .int _ _) aeZ b cap l rest aE
abbrev KP:=Option (Nat×List ag)
def yx:KP→List Int→ag
 | none,_ => .aF 1 [] .clip
 | some (b,_),l=>dv b l.length l.length
def yy:KP→List Int→a6
 | none,_=>[]
 | some (b,dJ),l=>[(.own b,.box 3 (l.map ba++dJ))]
def ae0:KP→List Int→Prop
 | none,l=>l=[]
 | some _,_=>True
theorem S6 (b n cap:Nat) (h:n≤cap):aY d4 295 [dv b n cap] (dv b n n):=by
 refine aY.bj ah Tryz.func295 C C fun s I=>?_
 refine cX ?_;refine ab.oy ah C C C C C C C ?_;refine fB ?_;refine ab.oy ah C C C C C C C ?_;refine ab.JY ah n C C C C C C C C C C h ?_;refine eB ?_;exact b2 I
def KQ (p:aU) (mb:Nat) (m:Int):ag := .func 365 [] [.bl [.bl (lE p mb) 0] 0,.bl [.int .i64 m] 0]
theorem ae1 (p:aU) (bu:cS p=true) (mb:Nat) (m n:Int) (hm:hG p m) (av:hG p n) (K:a6) (bC:yn p mb K):df d4 (KQ p mb m) [.int .i64 n] K (fun o aM=>o = .ret (.bool (fF p n m))∧yn p mb aM):=by
 obtain ⟨es,eg,rfl⟩:=bC;unfold hG at hm av;obtain ⟨m,rfl⟩:∃ k:Nat,m=k:=⟨m.toNat,by omega⟩;obtain ⟨n,rfl⟩:∃ k:Nat,n=k:=⟨n.toNat,by omega⟩;have U:=Rw p bu mb es eg n m ak ak;refine df.ey (first:=[]) (cap:=[.bl [.bl (lE p mb) 0] 0,.bl [.int .i64 (m:Int)] 0]) ?_;refine bs.bj ah Tryz.func365 C C fun s I=>?_
 refine cX ?_;refine ab.bL rfl rfl rfl rfl rfl U I (az.all _) ?_ (fun _ _ ⟨h,_⟩ _=>by cases h);rintro _ _ ⟨⟨⟩,lB,nm,rfl⟩ I;rw [d7] at I ⊢;refine eB ?_;exact Fin.bz I C aH (az.all _) ⟨rfl,lB,nm,rfl⟩
def CR (p:aU) (mb eN:Nat):ag := .func 364 [] [.ptr eN 0,.bl [.bl (lE p mb) 0] 0]
def F6 (p:aU) (mb eN:Nat) (l:List Int) (K:a6):Prop:=∃ es,lF p es∧K=[(.own eN,.box 23 [br l]),gg mb es]
theorem S7 (p:aU) (bu:cS p=true) (mb eN:Nat) (l:List Int) (aE:∀ m∈l,hG p m) (jL:l.length<bK) (m:Int) (hm:hG p m) (K:a6) (bC:F6 p mb eN l K):df d4 (CR p mb eN) [.int .i64 m] K (fun o aM=>o = .ret (.bool (oH (fF p) l m))∧F6 p mb eN l aM):=by
 obtain ⟨es,eg,rfl⟩:=bC;have U:=acf (KQ p mb m) (fun n=>fF p n m) l (yn p mb) jL (fun n av K bC=>ae1 p bu mb m n hm (aE n av) K bC) [gg mb es] ⟨es,eg,rfl⟩;refine df.ey (first:=[]) (cap:=[.ptr eN 0,.bl [.bl (lE p mb) 0] 0]) ?_;refine bs.bj ah Tryz.func364 C C fun s I=>?_
 unfold KQ at U;unfold gg br at *;refine hC I ?_;intro I;refine ab.bL rfl rfl rfl rfl rfl U I a' ?_ (fun _ _ ⟨h,_⟩ _=>by cases h);rintro _ _ ⟨⟨⟩,lB,nm,rfl⟩ I;unfold gg at I ⊢;simp only [d5,d0] at I ⊢;refine eB ?_;exact Fin.bz I C aH (.cons (.there .here) (.cons .here .nil)) ⟨rfl,lB,nm,rfl⟩
theorem S8 (q:Int→Bool) (xs:List Int) {m:Int} (h:xs.find? q=some m):∃ i,xs.findIdx? q=some i∧xs[i]? = some m:=by
 obtain ⟨U,i,aQ,ad,aj⟩:=List.find?_eq_some_iff_getElem.1 h;refine ⟨i,List.findIdx?_eq_some_iff_getElem.2 ⟨aQ,by rw [ad];exact U,fun j aK=>by have:=aj j aK;simpa using this⟩,by rw [f8 aQ,ad]⟩
theorem S9 (dj:Int→Int→Bool):∀ (k k':Nat) (l out:List Int),l.length<k→l.length<k'→lD dj k l out=lD dj k' l out
  | 0,_,_,_,h,_=>by omega
  | _+1,0,_,_,_,h=>by omega
  | k+1,k'+1,l,out,h,eA=>by
    rw [lD,lD];split
    · rfl
    · cases aZ:l.find? (oH dj l) with
      | none=>rfl
      | some m=>
        have hm:=al6 aZ;have:(l.filter fun x=>x != m).length<l.length:=by
          rw [al9];exact ⟨m,hm,by simp⟩
        exact S9 dj k k' _ _ ak ak
theorem S' (dj:Int→Int→Bool) (l out:List Int) {m:Int} (h:l.find? (oH dj l)=some m):lD dj (l.length+1) l out=lD dj ((l.filter fun x=>x != m).length+1) (l.filter fun x=>x != m) (out++[m]):=by
 have hm:=al6 h;have cN:l.isEmpty=false:=by cases l with|nil=>cases hm|cons _ _=>rfl
 have:(l.filter fun x=>x != m).length<l.length:=by
  rw [al9];exact ⟨m,hm,by simp⟩
 rw [lD,cN,f4 bc,h];exact S9 dj _ _ _ _ ak ak
theorem ae2 (p:aU) (bu:cS p=true) (mb:Nat) (es:SMap) (eg:lF p es) (iO:List Int) (KL:∀ m∈iO,hG p m) (jL:iO.length<bK) :
  bs d4 321 [.bl (lE p mb) 0,br iO] [gg mb es] (fun o K=>∃ dE KR,lF p dE∧ae0 KR (nj (fF p) iO)∧o = .ret (yx KR (nj (fF p) iO))∧K=gg mb dE::yy KR (nj (fF p) iO)):=by
 have aq:=bx;have F2:=aeT iO;have my:=aeW _ _ iO jL (valuesIter iO jL);have dt:(hO iO).length=iO.length:=ar5 _;have sj:∀ m∈hO iO,hG p m:=fun m hm=>KL m ((List.mergeSort_perm iO _).mem_iff.1 hm)
 have BN:=fun l=>abv bu l
 refine bs.bj ah Tryz.func321 C C fun s I=>?_
 unfold nj;rw [← dt];generalize gz:lD (fF p) ((hO iO).length+1) (hO iO) []=res;generalize hO iO=l₁ at *;unfold gg br at *
 repeat (first|(with_reducible first|apply af.seq|apply af.block)|refine af.cv ?_)
 refine cq C ?_;refine ab.h0 I C C C C C C (fun eN I=>?_);refine c9 I ?_;intro I;refine ab.bL rfl rfl rfl rfl rfl my I .nil ?_ (fun _ _ h _=>by obtain ⟨_,_,h,_⟩:=h;cases h);rintro _ _ ⟨bD,U,⟨⟩,rfl⟩ I;cases bD with
 | none=>
  have bn:l₁=[]:=U;simp only [gy,gh,d0] at I ⊢;refine hC I ?_;intro I;refine af.ig I [.aF 1 (l₁.map ba) .a7] (kb:=eN) aO (.one (by rw [bn];exact aR.empty)) (fun I=>?_);skip;refine af.cc [2,3] C I (σ:=List Int×List Int×qS×SMap) (fun q=>[(5,gy q.2.2.1 q.2.1)]) (fun q=>(.own eN,.box 23 [.aF 1 (q.1.map ba) .a7])::(.own mb,.map (jE .i64 q.2.2.2))::gh q.2.2.1 q.2.1) (fun q=>(∀ m∈q.1,hG p m)∧q.1.length+q.2.1.length≤l₁.length∧lD (fF p) (q.1.length+1) q.1 q.2.1=res∧lF p q.2.2.2∧m' q.2.2.1 q.2.1) (fun q=>q.1.length) (l₁,[],none,es) ⟨sj,by simp,gz,eg,rfl⟩ (cy C) An ?_;clear gz eg;rintro ⟨l,out,bD,es⟩ ⟨dc,iD,gz,eg,sk⟩ I;simp only at dc iD gz eg sk I ⊢;refine c9 I ?_;intro I;refine af.cond C (fun w0=>?_) (fun hzero=>?_);rotate_left
  ·obtain rfl:l=[]:=by
    have:l.length=0:=by simp at hzero;simpa using hzero
    exact ak7 this
   rw [lD] at gz;have gz:out=res:=by simpa using gz
   subst gz;cases bD with
   | none=>
    have bn:out=[]:=sk;subst bn;have cm:=aY.args (.one (aR.nil (sz:=0) gF)) (vC [] .nil);simp only [gy,gh] at I ⊢;refine dS ?_;exact Fin.bz I C aH (.cons (.there .here) .nil) ⟨es,none,eg,rfl,rfl,rfl⟩
   | some q=>
    obtain ⟨gD,oM,dJ⟩:=q;obtain ⟨ck,cL,ev⟩:=CO sk;have cm:=S6 gD out.length oM cL;simp only [gy,gh] at I ⊢;refine dS ?_;exact Fin.bz I C aH (.cons (.there .here) (.cons (.there .here) .nil)) ⟨es,some (gD,dJ),eg,trivial,rfl,rfl⟩
  have cN:l≠[]:=by intro e;subst e;simp at w0
  obtain ⟨KS,Cr,KT⟩:=BN l cN dc;obtain ⟨m,aZ⟩:∃ m,l.find? (oH (fF p) l)=some m:=by
   cases aZ:l.find? (oH (fF p) l) with
   | some m=>exact ⟨m,rfl⟩
   | none=>have:=aq3.1 aZ KS Cr;rw [KT] at this;exact absurd C this
  have lM:=al6 aZ;obtain ⟨i,KU,KV⟩:=S8 _ _ aZ;have ae3:(l.map ba)[i]? = some (.int .i64 m):=by rw [aj6,KV];rfl
  rw [S' _ _ _ aZ] at gz;have kL:=J0 (CR p mb eN) (oH (fF p) l) l (F6 p mb eN l) ak (fun x aa K bC=>S7 p bu mb eN l dc ak x (dc x aa) K bC) [(.own eN,.box 23 [br l]),gg mb es] ⟨es,eg,rfl⟩;rw [KU] at kL;have uI:=KK l ak m;have gd:(l.filter fun x=>x != m).length<l.length:=by
   rw [al9];exact ⟨m,lM,by simp⟩
  unfold CR at kL;unfold gg br at *;refine c9 I ?_;intro I;refine ab.bL rfl rfl rfl rfl rfl kL I a' ?_ (fun _ _ ⟨h,_⟩ _=>by cases h);rintro _ _ ⟨⟨⟩,lB,nm,rfl⟩ I;unfold gg br at I ⊢;simp only [d5,d0] at I ⊢;cases bD with
  | none=>
   have bn:out=[]:=sk;subst bn;simp only [gy,gh] at I ⊢;refine c9 I ?_;intro I;refine ab.y' ah I C C C C C C C dB C C C C C C C dh (fun aW b0 cs' cx cE dz I=>?_);have ik:=Am (b:=aW) (l:=[m]) cx cE dz;rw [ik.2] at I ⊢;refine c9 I ?_;intro I;exact bA.mk (l.filter (fun x=>x != m),[m],some (aW,b0,cs'.drop 1),lB) I ⟨fun x aa=>dc x (aj1.1 aa).1,by show (l.filter fun x=>x != m).length+1≤_;omega,gz,nm,ik.1⟩ (cy C) An gd
  | some q=>
   obtain ⟨gD,oM,dJ⟩:=q;obtain ⟨ck,cL,ev⟩:=CO sk;simp only [gy,gh] at I ⊢;refine c9 I ?_;intro I;refine ab.za ah I C C C C C C C dB C C C C aO ck cL (by rw [ev];exact te _) C C C lP ak (fun aW b0 cs' cx cE dz I=>?_);have ik:=Am (b:=aW) (l:=out++[m]) cx (by simpa using cE) Kx;rw [f0,ad'] at ik;rw [ik.2] at I ⊢;refine c9 I ?_;intro I;exact bA.mk (l.filter (fun x=>x != m),out++[m],some (aW,b0,cs'.drop (out.length+1)),lB) I ⟨fun x aa=>dc x (aj1.1 aa).1,by show (l.filter fun x=>x != m).length+(out++[m]).length≤_;rw [f0,ad'];omega,gz,nm,ik.1⟩ S4 An gd
 | some q=>
  obtain ⟨gD,oM,dJ⟩:=q;have U:l₁.length+dJ.length=oM:=U;simp only [gy,gh,d5,d0] at I ⊢;refine c9 I ?_;intro I;refine af.Ep I 0 aO aO C ez ak ak CQ (fun I=>?_);rw [ao9 bc] at I ⊢
  try simp only [ax3] at I ⊢
  skip;refine af.cc [2,3] C I (σ:=List Int×List Int×qS×SMap) (fun q=>[(5,gy q.2.2.1 q.2.1)]) (fun q=>(.own eN,.box 23 [.aF 1 (q.1.map ba) .a7])::(.own mb,.map (jE .i64 q.2.2.2))::gh q.2.2.1 q.2.1) (fun q=>(∀ m∈q.1,hG p m)∧q.1.length+q.2.1.length≤l₁.length∧lD (fF p) (q.1.length+1) q.1 q.2.1=res∧lF p q.2.2.2∧m' q.2.2.1 q.2.1) (fun q=>q.1.length) (l₁,[],none,es) ⟨sj,by simp,gz,eg,rfl⟩ (cy C) An ?_;clear gz eg;rintro ⟨l,out,bD,es⟩ ⟨dc,iD,gz,eg,sk⟩ I;simp only at dc iD gz eg sk I ⊢;refine c9 I ?_;intro I;refine af.cond C (fun w0=>?_) (fun hzero=>?_);rotate_left
  ·obtain rfl:l=[]:=by
    have:l.length=0:=by simp at hzero;simpa using hzero
    exact ak7 this
   rw [lD] at gz;have gz:out=res:=by simpa using gz
   subst gz;cases bD with
   | none=>
    have bn:out=[]:=sk;subst bn;have cm:=aY.args (.one (aR.nil (sz:=0) gF)) (vC [] .nil);simp only [gy,gh] at I ⊢;refine dS ?_;exact Fin.bz I C aH (.cons (.there .here) .nil) ⟨es,none,eg,rfl,rfl,rfl⟩
   | some q=>
    obtain ⟨gD,oM,dJ⟩:=q;obtain ⟨ck,cL,ev⟩:=CO sk;have cm:=S6 gD out.length oM cL;simp only [gy,gh] at I ⊢;refine dS ?_;exact Fin.bz I C aH (.cons (.there .here) (.cons (.there .here) .nil)) ⟨es,some (gD,dJ),eg,trivial,rfl,rfl⟩
  have cN:l≠[]:=by intro e;subst e;simp at w0
  obtain ⟨KS,Cr,KT⟩:=BN l cN dc;obtain ⟨m,aZ⟩:∃ m,l.find? (oH (fF p) l)=some m:=by
   cases aZ:l.find? (oH (fF p) l) with
   | some m=>exact ⟨m,rfl⟩
   | none=>have:=aq3.1 aZ KS Cr;rw [KT] at this;exact absurd C this
  have lM:=al6 aZ;obtain ⟨i,KU,KV⟩:=S8 _ _ aZ;have ae3:(l.map ba)[i]? = some (.int .i64 m):=by rw [aj6,KV];rfl
  rw [S' _ _ _ aZ] at gz;have kL:=J0 (CR p mb eN) (oH (fF p) l) l (F6 p mb eN l) ak (fun x aa K bC=>S7 p bu mb eN l dc ak x (dc x aa) K bC) [(.own eN,.box 23 [br l]),gg mb es] ⟨es,eg,rfl⟩;rw [KU] at kL;have uI:=KK l ak m;have gd:(l.filter fun x=>x != m).length<l.length:=by
   rw [al9];exact ⟨m,lM,by simp⟩
  unfold CR at kL;unfold gg br at *;refine c9 I ?_;intro I;refine ab.bL rfl rfl rfl rfl rfl kL I a' ?_ (fun _ _ ⟨h,_⟩ _=>by cases h);rintro _ _ ⟨⟨⟩,lB,nm,rfl⟩ I;unfold gg br at I ⊢;simp only [d5,d0] at I ⊢;cases bD with
  | none=>
   have bn:out=[]:=sk;subst bn;simp only [gy,gh] at I ⊢;refine c9 I ?_;intro I;refine ab.y' ah I C C C C C C C dB C C C C C C C dh (fun aW b0 cs' cx cE dz I=>?_);have ik:=Am (b:=aW) (l:=[m]) cx cE dz;rw [ik.2] at I ⊢;refine c9 I ?_;intro I;exact bA.mk (l.filter (fun x=>x != m),[m],some (aW,b0,cs'.drop 1),lB) I ⟨fun x aa=>dc x (aj1.1 aa).1,by show (l.filter fun x=>x != m).length+1≤_;omega,gz,nm,ik.1⟩ (cy C) An gd
  | some q=>
   obtain ⟨gD,oM,dJ⟩:=q;obtain ⟨ck,cL,ev⟩:=CO sk;simp only [gy,gh] at I ⊢;refine c9 I ?_;intro I;refine ab.za ah I C C C C C C C dB C C C C aO ck cL (by rw [ev];exact te _) C C C lP ak (fun aW b0 cs' cx cE dz I=>?_);have ik:=Am (b:=aW) (l:=out++[m]) cx (by simpa using cE) Kx;rw [f0,ad'] at ik;rw [ik.2] at I ⊢;refine c9 I ?_;intro I;exact bA.mk (l.filter (fun x=>x != m),out++[m],some (aW,b0,cs'.drop (out.length+1)),lB) I ⟨fun x aa=>dc x (aj1.1 aa).1,by show (l.filter fun x=>x != m).length+(out++[m]).length≤_;rw [f0,ad'];omega,gz,nm,ik.1⟩ S4 An gd
def F7 (x:wb):List ag:=[br x.pz,.bool x.zS,br x.mH,br x.oI,.bool x.Jp,br x.nk]
theorem ae4 {p:aU} (h:cS p=true) {m:hh} (hm:m∈p.methods):m.kind=1∨m.kind=2∨m.kind=3∨m.kind=4:=by
 obtain ⟨-,-,o,ai⟩:=zB h;have:=EK ai m hm;unfold s9 at this;simp only [d6,f5] at this;have U:=this.1;have ad:=this.2.1;omega
theorem Ta (dj:Int→Int→Bool):∀ (k:Nat) (l out:List Int),(lD dj k l out).length≤out.length+l.length
  | 0,l,out=>by rw [lD];omega
  | k+1,l,out=>by
    rw [lD];split
    · omega
    · cases aZ:l.find? (oH dj l) with
      | none=>show out.length≤_;omega
      | some m=>
        have hm:=al6 aZ;have U:(l.filter fun x=>x != m).length<l.length:=by
          rw [al9];exact ⟨m,hm,by simp⟩
        have ad:=Ta dj k (l.filter fun x=>x != m) (out++[m]);rw [f0,ad'] at ad;show (lD dj k (l.filter fun x=>x != m) (out++[m])).length≤_;omega
theorem Tb (dj:Int→Int→Bool) (l:List Int):(nj dj l).length≤l.length:=by
 have:=Ta dj (l.length+1) (hO l) [];unfold nj;have h:(hO l).length=l.length:=ar5 _;simp at this;omega
theorem Tc (_u:Unit):aY d4 322 [.aF 1 [] .clip] (.bW []):=by
 have aq:=bx;refine aY.bj ah Tryz.func322 C C fun s I=>?_
 refine gp ?_;refine af.cc [0] C I (σ:=Unit) (fun _=>[(2,.int .i64 0),(3,.int .i64 (-1))]) (fun _=>[]) (fun _=>True) (fun _=>0) () trivial (cy C) a' ?_;rintro _ _ I;refine bd ?_;exact b2 I
def Afx:ag := .agg [.aF 0 [] .nil,.bool false,.aF 0 [] .nil,.aF 0 [] .nil,.bool false,.aF 0 [] .nil]
def KW (p:aU) (l:List Int) (o:eS):Prop:=match qb p (fF p) l with
 | none=>o = .ret (.bW [Afx,.bool false])
 | some x=>o = .ret (.bW [.agg (F7 x),.bool true])
theorem ae5 (p:aU) (bu:cS p=true) (mb:Nat) (es:SMap) (eg:lF p es) (l:List Int) (aE:∀ m∈l,hG p m) (jL:l.length<bK) :
  bs d4 268 [.bl (lE p mb) 0,br l] [gg mb es] (fun o K=>KW p l o∧yn p mb K):=by
 have aq:=bx;have gq:∀ k,(hF p l k).length≤l.length:=fun k=>al8 _ _
 have Ex:∀ k,∀ m∈hF p l k,hG p m:=fun k m hm=>aE m (aj1.1 hm).1
 have jr:=fun es eg k (o:bM)=>bs.args (.cons aH (.one (aR.a7 (own:=o)))) (aeR p bu mb es eg (hF p l k) (Ex k) (by have:=gq k;omega))
 have zX:=fun es eg k (o:bM)=>bs.args (.cons aH (.one (aR.a7 (own:=o)))) (ae2 p bu mb es eg (hF p l k) (Ex k) (by have:=gq k;omega))
 have uS:=fun k=>Tb (fF p) (hF p l k)
 refine bs.bj ah Tryz.func268 C C fun s I=>?_
 obtain ⟨xs,fi⟩:∃ xs:Nat→Int→List Int,∀ j k,xs j k=hF p (l.take j) k:=⟨_,fun _ _=>rfl⟩;have Jt:∀ k,xs 0 k=[]:=fun k=>by rw [fi];rfl
 have j1:∀ j k,(xs j k).length≤l.length:=fun j k=>by
  rw [fi];refine al7 (al8 _ _) ?_;rw [ah'];omega
 have wy:∀ k,hF p l k=xs l.length k:=fun k=>by rw [fi,ag']
 have ae6:∀ (j:Nat) (m:Int) (k:Int),l[j]? = some m→xs (j+1) k=xs j k++(if tf p m=k then [m] else []):=fun j m k hm=>by
  rw [fi,fi,fD hm];unfold hF;rw [ap6];congr 1;by_cases e:tf p m=k
  ·rw [f7 e,an1,f7 (by simpa using e)];rfl
  ·rw [f4 e,an1,f4 (by simpa using e)];rfl
 unfold KW qb;unfold gg at I;unfold br;unfold lE cj fL at *;unfold br at *
 repeat (first|(with_reducible first|apply af.seq|apply af.block)|refine af.cv ?_)
 refine ab.c3 ah I C C C C C C C (fun pH I=>?_)
 repeat (first|(with_reducible first|apply cg|apply af.seq)|refine af.cv ?_|refine ab.nil ?_|refine cq C ?_)
 refine ab.c3 ah I C C C C C C C (fun kb I=>?_);refine bd ?_;refine af.ig I [.aF 0 [] .nil,.aF 1 [] .nil,.aF 1 [] .nil,.aF 1 [] .nil,.aF 1 [] .nil] (kb:=kb) aO (.cons aH (.cons (aR.nil gF) (.cons (aR.nil gF) (.cons (aR.nil gF) (.one (aR.nil gF)))))) (fun I=>?_);refine af.hv I 3 1 0 fun I=>?_
 refine af.hv I 3 1 0 fun I=>?_
 refine af.hv I 3 1 0 fun I=>?_
 refine af.hv I 3 1 0 fun I=>?_
 refine af.cc [0,4,5,6,11,12] C I (σ:=Nat×bM×bM×bM×bM) (fun q=>[(13,.int .i64 (q.1:Int))]) (fun q=>[(.own pH,.box 223 [.aF 0 [] .nil,.bool false,.aF 0 [] .nil,.aF 0 [] .nil,.bool false,.aF 0 [] .nil]),(.own mb,.map (jE .i64 es)),(.own kb,.box 389 [.aF 0 [] .nil,.aF 1 ((xs q.1 1).map ba) q.2.1,.aF 1 ((xs q.1 2).map ba) q.2.2.1,.aF 1 ((xs q.1 3).map ba) q.2.2.2.1,.aF 1 ((xs q.1 4).map ba) q.2.2.2.2]),(q.2.1,.row 3 1 (xs q.1 1).length),(q.2.2.1,.row 3 1 (xs q.1 2).length),(q.2.2.2.1,.row 3 1 (xs q.1 3).length),(q.2.2.2.2,.row 3 1 (xs q.1 4).length)]) (fun q=>q.1≤l.length) (fun q=>l.length-q.1) (0,.nil,.nil,.nil,.nil) (g9 _) (cy C) (by simp only [Jt,aj5,ai9];exact a') ?_;rintro ⟨j,kp,b1,nh,rh⟩ aK I;simp only at aK I ⊢;refine cl ?_;refine af.cond C (fun au=>?_) (fun aV=>?_)
 ·have au:j<l.length:=by simpa using au
  obtain ⟨m,hm,mZ⟩:=b' (f:=ba) au;have lM:=aE m (d8 hm);unfold hG at lM;obtain ⟨CN,rfl⟩:∃ k:Nat,m=k:=⟨m.toNat,by omega⟩;obtain ⟨x,aa,bY,-,aih,-⟩:=ra (p:=p) (m:=CN) ak;have jy:=ae4 bu (d8 aa);have av:=fun k=>ae6 j CN k hm
  have bf:=j1 j;simp only [aih] at av;unfold hE lT at bY;unfold ba at mZ;rcases jy with ax|ax|ax|ax
  ·have l':=av 1
   have ld:=av 2;have oj:=av 3;have om:=av 4;have bf:=bf 1;rw [ax] at l' ld oj om bY;simp only [ak2,d7,show ¬ ((1:Int)=2) by decide,show ¬ ((1:Int)=3) by decide,show ¬ ((1:Int)=4) by decide,show ¬ ((2:Int)=1) by decide,show ¬ ((2:Int)=3) by decide,show ¬ ((2:Int)=4) by decide,show ¬ ((3:Int)=1) by decide,show ¬ ((3:Int)=2) by decide,show ¬ ((3:Int)=4) by decide,show ¬ ((4:Int)=1) by decide,show ¬ ((4:Int)=2) by decide,show ¬ ((4:Int)=3) by decide,al0] at l' ld oj om;refine fc ?_;refine ab.arr ah 1 C C C C C C C C C C ak ?_;refine kh I ?_;intro I;refine ab.gn ah I C C C C C C C dB C C C C C C C C aO h' lP ak (fun q I=>?_);skip;refine ab.arr ah 1 C C C C C C C C C C ak ?_;refine hC I ?_;intro I;exact bA.mk (j+1,(.own q),b1,nh,rh) I au ct F4 jV
  ·have l':=av 1
   have ld:=av 2;have oj:=av 3;have om:=av 4;have bf:=bf 2;rw [ax] at l' ld oj om bY;simp only [ak2,d7,show ¬ ((1:Int)=2) by decide,show ¬ ((1:Int)=3) by decide,show ¬ ((1:Int)=4) by decide,show ¬ ((2:Int)=1) by decide,show ¬ ((2:Int)=3) by decide,show ¬ ((2:Int)=4) by decide,show ¬ ((3:Int)=1) by decide,show ¬ ((3:Int)=2) by decide,show ¬ ((3:Int)=4) by decide,show ¬ ((4:Int)=1) by decide,show ¬ ((4:Int)=2) by decide,show ¬ ((4:Int)=3) by decide,al0] at l' ld oj om;refine fc ?_;refine ab.arr ah 2 C C C C C C C C C C ak ?_;refine kh I ?_;intro I;refine ab.gn ah I C C C C C C C dB C C C C C C C C aO h' lP ak (fun q I=>?_);skip;refine ab.arr ah 2 C C C C C C C C C C ak ?_;refine hC I ?_;intro I;exact bA.mk (j+1,kp,(.own q),nh,rh) I au ct F4 jV
  ·have l':=av 1
   have ld:=av 2;have oj:=av 3;have om:=av 4;have bf:=bf 3;rw [ax] at l' ld oj om bY;simp only [ak2,d7,show ¬ ((1:Int)=2) by decide,show ¬ ((1:Int)=3) by decide,show ¬ ((1:Int)=4) by decide,show ¬ ((2:Int)=1) by decide,show ¬ ((2:Int)=3) by decide,show ¬ ((2:Int)=4) by decide,show ¬ ((3:Int)=1) by decide,show ¬ ((3:Int)=2) by decide,show ¬ ((3:Int)=4) by decide,show ¬ ((4:Int)=1) by decide,show ¬ ((4:Int)=2) by decide,show ¬ ((4:Int)=3) by decide,al0] at l' ld oj om;refine fc ?_;refine ab.arr ah 3 C C C C C C C C C C ak ?_;refine kh I ?_;intro I;refine ab.gn ah I C C C C C C C dB C C C C C C C C aO h' lP ak (fun q I=>?_);skip;refine ab.arr ah 3 C C C C C C C C C C ak ?_;refine hC I ?_;intro I;exact bA.mk (j+1,kp,b1,(.own q),rh) I au ct F4 jV
  ·have l':=av 1
   have ld:=av 2;have oj:=av 3;have om:=av 4;have bf:=bf 4;rw [ax] at l' ld oj om bY;simp only [ak2,d7,show ¬ ((1:Int)=2) by decide,show ¬ ((1:Int)=3) by decide,show ¬ ((1:Int)=4) by decide,show ¬ ((2:Int)=1) by decide,show ¬ ((2:Int)=3) by decide,show ¬ ((2:Int)=4) by decide,show ¬ ((3:Int)=1) by decide,show ¬ ((3:Int)=2) by decide,show ¬ ((3:Int)=4) by decide,show ¬ ((4:Int)=1) by decide,show ¬ ((4:Int)=2) by decide,show ¬ ((4:Int)=3) by decide,al0] at l' ld oj om;refine fc ?_;refine ab.arr ah 4 C C C C C C C C C C ak ?_;refine kh I ?_;intro I;refine ab.gn ah I C C C C C C C dB C C C C C C C C aO h' lP ak (fun q I=>?_);skip;refine ab.arr ah 4 C C C C C C C C C C ak ?_;refine hC I ?_;intro I;exact bA.mk (j+1,kp,b1,nh,(.own q)) I au ct F4 jV
 have aV:j=l.length:=by simp at aV;omega
 subst aV;rw [← wy 1,← wy 2,← wy 3,← wy 4] at I ⊢
 repeat (first|(refine DS ?_)|refine ab.c3 ah I C C C C C C C (fun cu I=>?_))
 obtain ⟨p9,rfl⟩:∃ x,x=cu:=⟨_,rfl⟩;refine ab.arr ah 1 C C C C C C C C C C ak ?_;refine jB I ?_;intro I;refine af.cond C (fun bn=>?_) (fun bn=>?_)
 ·have bn:(hF p l 1).isEmpty=true:=by simpa using bn
  rw [f7 bn];refine c9 I ?_;intro I;exact Fin.bz (K:=[(.own mb,.map (jE .i64 es))]) I (sR C C (bm.get aO I) C C) aH a' ⟨rfl,es,eg,rfl⟩
 have bn:¬ (hF p l 1).isEmpty=true:=by simpa using bn
 rw [f4 bn];refine fc ?_;refine ab.arr ah 4 C C C C C C C C C C ak ?_;refine kh I ?_;intro I;refine ab.bL rfl rfl rfl rfl rfl (jr _ eg 4 rh) I a' ?_ (fun _ _ ⟨h,_⟩ _=>by cases h);rintro _ _ ⟨⟨⟩,lB,nm,rfl⟩ I;unfold gg at I ⊢;simp only [d5,d0] at I ⊢;refine c9 I ?_;intro I;refine ab.arr ah 2 C C C C C C C C C C ak ?_;refine kh I ?_;intro I;refine ab.bL rfl rfl rfl rfl rfl (zX _ nm 2 b1) I a' ?_ (fun _ _ h _=>by obtain ⟨_,_,_,_,h,_⟩:=h;cases h);rintro _ _ ⟨zw,ae7,Fy,ae8,⟨⟩,rfl⟩ I;unfold gg at I ⊢;cases ae7 with
 | none=>
  have ph:nj (fF p) (hF p l 2)=[]:=ae8;simp only [yx,yy,d5,d0] at I ⊢;refine c9 I ?_;intro I;refine ab.arr ah 1 C C C C C C C C C C ak ?_;refine kh I ?_;intro I;refine ab.bL rfl rfl rfl rfl rfl (jr _ Fy 1 kp) I a' ?_ (fun _ _ ⟨h,_⟩ _=>by cases h);rintro _ _ ⟨⟨⟩,uq,KX,rfl⟩ I;unfold gg at I ⊢;simp only [d5,d0] at I ⊢;refine c9 I ?_;intro I;refine ab.arr ah 3 C C C C C C C C C C ak ?_;refine kh I ?_;intro I;refine ab.bL rfl rfl rfl rfl rfl (zX _ KX 3 nh) I a' ?_ (fun _ _ h _=>by obtain ⟨_,_,_,_,h,_⟩:=h;cases h);rintro _ _ ⟨uT,KY,CS,KZ,⟨⟩,rfl⟩ I;unfold gg at I ⊢;cases KY with
  | none=>
   have K0:nj (fF p) (hF p l 3)=[]:=KZ;simp only [yx,yy,d5,d0] at I ⊢;refine c9 I ?_;intro I;refine ab.eT C C C C C (Tc ()) ?_
   with_reducible apply ab.nil
   with_reducible apply cg
   skip;skip;refine c9 I ?_;intro I;exact Fin.bz (K:=[(.own mb,.map (jE .i64 uT))]) I (sR C C (bm.get aO I) C C) (aR.bW (.cons (aR.agg (.cons aR.a7 (.cons aH (.cons (aR.a7.trans (aR.of_eq (by rw [ph];rfl))) (.cons aR.a7 (.cons aH (.one (aR.a7.trans (aR.of_eq (by rw [K0];rfl))))))))) ) (.one aH))) a' ⟨rfl,uT,CS,rfl⟩
  | some q=>
   obtain ⟨fp,K1⟩:=q;have oN:=S5 fp (nj (fF p) (hF p l 3)).length (nj (fF p) (hF p l 3)) K1 F5;simp only [yx,yy,d5,d0] at I ⊢;refine c9 I ?_;intro I;refine ab.DR C C C C C oN I a' (fun I=>?_);simp only [d5,d0] at I ⊢
   with_reducible apply ab.nil
   with_reducible apply cg
   skip;refine af.ym I (kb:=p9) (b:=fp) 5 aO aO C bc (t7 _) F5 CQ (fun I=>?_);rw [ao9 bc] at I ⊢;refine c9 I ?_;intro I;exact Fin.bz (K:=[(.own mb,.map (jE .i64 uT))]) I (sR C C (bm.get aO I) C C) (aR.bW (.cons (aR.agg (.cons aR.a7 (.cons aH (.cons (aR.a7.trans (aR.of_eq (by rw [ph];rfl))) (.cons aR.a7 (.cons aH (.one aR.a7)))))) ) (.one aH))) a' ⟨rfl,uT,CS,rfl⟩
 | some q=>
  obtain ⟨gD,ahc⟩:=q;simp only [yx,yy,d5,d0] at I ⊢;refine c9 I ?_;intro I;refine ab.arr ah 1 C C C C C C C C C C ak ?_;refine kh I ?_;intro I;refine ab.bL rfl rfl rfl rfl rfl (jr _ Fy 1 kp) I a' ?_ (fun _ _ ⟨h,_⟩ _=>by cases h);rintro _ _ ⟨⟨⟩,uq,KX,rfl⟩ I;unfold gg at I ⊢;simp only [d5,d0] at I ⊢;refine c9 I ?_;intro I;refine ab.arr ah 3 C C C C C C C C C C ak ?_;refine kh I ?_;intro I;refine ab.bL rfl rfl rfl rfl rfl (zX _ KX 3 nh) I a' ?_ (fun _ _ h _=>by obtain ⟨_,_,_,_,h,_⟩:=h;cases h);rintro _ _ ⟨uT,KY,CS,KZ,⟨⟩,rfl⟩ I;unfold gg at I ⊢;cases KY with
  | none=>
   have K0:nj (fF p) (hF p l 3)=[]:=KZ;simp only [yx,yy,d5,d0] at I ⊢;refine c9 I ?_;intro I;refine ab.eT C C C C C (Tc ()) ?_
   with_reducible apply ab.nil
   with_reducible apply cg
   refine af.ym I (kb:=p9) (b:=gD) 2 aO aO C bc (t7 _) (by have:=uS 2;have:=gq 2;omega) CQ (fun I=>?_);rw [ao9 bc] at I ⊢;skip;refine c9 I ?_;intro I;exact Fin.bz (K:=[(.own mb,.map (jE .i64 uT))]) I (sR C C (bm.get aO I) C C) (aR.bW (.cons (aR.agg (.cons aR.a7 (.cons aH (.cons aR.a7 (.cons aR.a7 (.cons aH (.one (aR.a7.trans (aR.of_eq (by rw [K0];rfl))))))))) ) (.one aH))) a' ⟨rfl,uT,CS,rfl⟩
  | some q=>
   obtain ⟨fp,K1⟩:=q;have oN:=S5 fp (nj (fF p) (hF p l 3)).length (nj (fF p) (hF p l 3)) K1 F5;simp only [yx,yy,d5,d0] at I ⊢;refine c9 I ?_;intro I;refine ab.DR C C C C C oN I a' (fun I=>?_);simp only [d5,d0] at I ⊢
   with_reducible apply ab.nil
   with_reducible apply cg
   refine af.ym I (kb:=p9) (b:=gD) 2 aO aO C bc (t7 _) (by have:=uS 2;have:=gq 2;omega) CQ (fun I=>?_);rw [ao9 bc] at I ⊢;refine af.ym I (kb:=p9) (b:=fp) 5 aO aO C bc (t7 _) F5 CQ (fun I=>?_);rw [ao9 bc] at I ⊢;refine c9 I ?_;intro I;exact Fin.bz (K:=[(.own mb,.map (jE .i64 uT))]) I (sR C C (bm.get aO I) C C) (aR.bW (.cons (aR.agg (.cons aR.a7 (.cons aH (.cons aR.a7 (.cons aR.a7 (.cons aH (.one aR.a7)))))) ) (.one aH))) a' ⟨rfl,uT,CS,rfl⟩
def K2 (p:aU) (l:List Int):ag:=match qb p (fF p) l with
 | none => .bW [Afx,.int .i64 5]
 | some x => .bW [.agg (F7 x),.int .i64 0]
theorem ae9 (p:aU) (aB:e3 p) (bu:cS p=true) (l:List Int) (aE:F3 p l):aY d4 210 [cQ p,br l] (K2 p l):=by
 have aq:=bx;refine aY.bj ah Tryz.func210 C C fun s I=>?_
 have U:=acb p aB bu;unfold cQ K2 at *
 repeat (first|(refine W1 ?_)|refine ab.c3 ah I C C C C C C C (fun cu I=>?_))
 refine ab.bL rfl rfl rfl rfl rfl U I .nil ?_ (fun _ _ h _=>by obtain ⟨_,h,_⟩:=h;cases h);rintro _ _ ⟨mb,⟨⟩,rfl⟩ I;simp only [d5,d0] at I ⊢;have ad:=aeN p aB.ya mb l aE;have aj:=ae5 p bu mb [] (fun _ h=>by cases h) l aE.sc aE.len;unfold KW at aj;refine dS ?_;cases e2:qb p (fF p) l with
 | none=>
  rw [e2] at aj;unfold Afx at *;refine ab.bL rfl rfl rfl rfl rfl aj I a' ?_ (fun _ _ ⟨h,_⟩ _=>by cases h);rintro _ _ ⟨⟨⟩,es,eg,rfl⟩ I;unfold gg at I ⊢;simp only [d5,d0] at I ⊢;refine DT I ?_;intro I;exact Fin.cZ I (sR C C (bm.get aO I) C C) aH
 | some x=>
  rw [e2] at aj;unfold F7 at *;refine ab.bL rfl rfl rfl rfl rfl aj I a' ?_ (fun _ _ ⟨h,_⟩ _=>by cases h);rintro _ _ ⟨⟨⟩,es,eg,rfl⟩ I;unfold gg at I ⊢;simp only [d5,d0] at I ⊢;refine DT I ?_;intro I;exact Fin.cZ I (sR C C (bm.get aO I) C C) aH
def sl (xs:List Bool):Value := .agg (xs.map Value.bool).toArray
def CT (xs:List Bool):ag := .agg (xs.map ag.bool)
structure F8 (P:Program) (ei:TypeId) (n:Nat):Prop where
 eq:∀ xs ys,xs.length=n→ys.length=n→∀ w,(Op.equal ei (sl xs) (sl ys)).run P w = .ok (xs==ys) w
theorem Td {w:World} {p:bV} {v:Value}:∀ {xs:List Bool},Rel w p v (CT xs)→v=sl xs:=by
 intro xs h;cases h with
 | agg cs _ aC=>
 have:∀ {l:List Value} {xs:List Bool},b4 w p l (xs.map ag.bool)→l=xs.map Value.bool:=by
  intro l
  induction l with
  | nil=>intro xs h;cases xs with|nil=>rfl|cons x r=>cases h
  | cons v l a8=>
   intro xs h;cases xs with
   | nil=>cases h
   | cons x r=>
    cases h with
    | cons _ _ _ _ U ad=>
    cases U;rw [a8 ad];rfl
 unfold sl;rw [← this aC]
theorem afa {P:Program} {t:TypeId} {n m:Nat} (D:Nat) (hm:m≤10000) (ax:P.keyTypeAt m t=true) (aE:∀ xs:List Bool,xs.length=n→(sl xs).formed P t=true∧P.keyLits D t (xs.map Value.bool)=some (xs.map Lit.bool)):F8 P t n:=by
 refine ⟨fun xs ys aa ar w=>?_⟩;obtain ⟨f1,ck⟩:=aE xs aa;obtain ⟨f2,cL⟩:=aE ys ar;have e:∀ xs:List Bool,(sl xs).cells.toList=xs.map Value.bool:=fun xs=>by unfold sl;simp [Value.cells]
 obtain ⟨r,aC,aQ⟩:=run_equalIn_deep (P:=P) (10000-m) m t ax w D D (sl xs) (sl ys) _ _ f1 f2 (by rw [e];exact ck) (by rw [e];exact cL);rw [show 10000-m+m=10000 by omega] at aC;have afb:(xs.map Lit.bool=ys.map Lit.bool)↔xs=ys:=by
  constructor
  ·intro h
   exact List.map_inj_right (fun a b h=>by cases h;rfl) |>.1 h
  ·intro h;rw [h]
 have:r=(xs==ys):=by
  rw [Bool.eq_iff_iff,aQ,afb,ao7]
 rw [← this];exact aC
section
variable {P:Program} {N:Nat} {env:Env} {s:ao} {o:Oper}
theorem aX.F9 {t yt:TypeId} {x y:Operand} {n:Nat} {xs ys:List Bool} (iu:F8 P t n) (bf:P.eqGuardType P.depth t=false) (ai:o.op = .binOp .eql t x y yt) (aa:aL env x=some (CT xs)) (ar:aL env y=some (CT ys)) (U:xs.length=n) (ad:ys.length=n) :
  aX P N o env s (fun v an=>v = .bool (xs==ys)∧an=s) (fun _ _=>False):=by
 refine aX.mR hZ fun ro B dm w p aI=>?_
 have bT:=Td (aI.aL aa);have bI:=Td (aI.aL ar);refine w2 (v := .bool (xs==ys)) ai ?_ ?_ (.bool _)
 ·rw [bT,bI]
  unfold eqGuard sl;simp [H1,bf]
 ·rw [bT,bI]
  have:=iu.eq xs ys U ad w;unfold sl at this ⊢;simp only [binOp,H1,this,Result.andThen_ok,Sem.run_pure]
end
section
variable {J:ao→Prop} {P:Program} {Γ:cz} {N:Nat} {ops:Array Oper} {Q:b8→Env→ao→Prop} {env:Env} {s:ao} {l rest:List Oper} {o:Oper} {d i:Nat}
theorem ab.F9 {t yt:TypeId} {x y:Operand} {n:Nat} {xs ys:List Bool} (iu:F8 P t n) (bf:P.eqGuardType P.depth t=false) (ay:guardOf ops env o=some true) (aA:o.dst=some d) (a1:af' d N=true) (ai:o.op = .binOp .eql t x y yt) (aa:aL env x=some (CT xs)) (ar:aL env y=some (CT ys)) (U:xs.length=n) (ad:ys.length=n)
  (h:ab P N ops l Q ((d,.bool (xs==ys))::env) s):ab P N ops (o::l) Q env s:=
 ab.op ay aA a1 (aX.F9 iu bf ai aa ar U ad) (fun x an ⟨U,ad⟩=>by subst U;subst ad;exact h) (fun _ _ h=>h.elim)
end
theorem K3 {g:Int→Bool}:∀ (j:Nat) (l:List Int),(∀ m∈l.take j,g m=true)→jn g l=(l.take j++(jn g (l.drop j)).1,(jn g (l.drop j)).2)
  | 0,l,_=>by simp
  | j+1,[],_=>by simp [jn]
  | j+1,m::r,h=>by
    rw [List.take_succ_cons] at h;rw [jn,f7 (h m g8),K3 j r (fun x aa=>h x (f9 _ aa))];rfl
theorem afc {g:Int→Bool} {l:List Int} (h:∀ m∈l,g m=true):jn g l=(l,true):=by
 have:=K3 (g:=g) l.length l (by rw [ag'];exact h);rw [this,ag',List.drop_length];simp [jn]
theorem afd {g:Int→Bool} {l:List Int} {j:Nat} {m:Int} (h:∀ m∈l.take j,g m=true) (hm:l[j]? = some m) (ay:g m=false):jn g l=(l.take (j+1),false):=by
 rw [K3 j l h,drop_cons hm,jn,f4 (by rw [ay];simp),fD hm]
def eb (t:bq):List ag:=t.jK.map ag.bool
def hI (o:Int) (t:bq):List ag := .int .i64 o::eb t
theorem nt (t:bq):(eb t).length=32:=by unfold eb;rw [f6,bq.Ci]
theorem wB (o:Int) (t:bq):(hI o t).length=33:=by unfold hI;rw [i9,nt]
theorem Te {t:bq} {m:Nat} (h:m<16):(eb t)[m]? = some (.bool (t.a m)):=by
 unfold eb;rw [aj6,bq.abF h];rfl
theorem F' {t:bq} {m:Nat} (h:m<16):(eb t)[16+m]? = some (.bool (t.r m)):=by
 unfold eb;rw [aj6,bq.abG h];rfl
theorem afe (t:bq) {m:Nat} (h:m<16) (b:Bool):t.jK.set m b=bq.jK ⟨fun i=>if i=m then b else t.a i,t.r⟩:=by
 unfold bq.jK;rw [List.set_append_left _ _ (by rw [bq.qh];exact h),bq.JG]
theorem aff (t:bq) {m:Nat} (b:Bool):t.jK.set (16+m) b=bq.jK ⟨t.a,fun i=>if i=m then b else t.r i⟩:=by
 unfold bq.jK;rw [ap0 _ _ (by rw [bq.qh];omega),bq.qh,show 16+m-16=m by omega,bq.JG]
theorem Tf (t:bq) {m:Nat} (h:m<16) (b:Bool):(eb t).set m (.bool b)=eb ⟨fun i=>if i=m then b else t.a i,t.r⟩:=by
 unfold eb;rw [← ax6,afe t h]
theorem Tg (t:bq) {m:Nat} (b:Bool):(eb t).set (16+m) (.bool b)=eb ⟨t.a,fun i=>if i=m then b else t.r i⟩:=by
 unfold eb;rw [← ax6,aff t]
theorem afg (t:bq) (m:Nat):(⟨fun i=>if i=m then true else t.a i,t.r⟩:bq)=t.kr [(m:Int)]:=by
 refine bq.ext' (fun i=>?_) (fun _=>rfl);simp only [bq.kr];by_cases e:i=m
 ·subst e;simp
 ·rw [f4 e]
  have:([(m:Int)]:List Int).contains (i:Int)=false:=by simp;omega
  rw [this,ao3]
theorem afh (t:bq) (m:Nat):(⟨t.a,fun i=>if i=m then true else t.r i⟩:bq)=t.hQ [(m:Int)]:=by
 refine bq.ext' (fun _=>rfl) (fun i=>?_);simp only [bq.hQ];by_cases e:i=m
 ·subst e;simp
 ·rw [f4 e]
  have:([(m:Int)]:List Int).contains (i:Int)=false:=by simp;omega
  rw [this,ao3]
theorem Th (o:Int) (t:bq) {m:Nat} (h:m<16):c5 (1+m) [.bool true] (hI o t)=hI o (t.kr [(m:Int)]):=by
 rw [ue];unfold hI;rw [Nat.add_comm,az9,Tf t h,afg]
theorem Ga (o:Int) (t:bq) {m:Nat}:c5 (17+m) [.bool true] (hI o t)=hI o (t.hQ [(m:Int)]):=by
 rw [ue];unfold hI;rw [show 17+m=(16+m)+1 by omega,az9,Tg t,afh]
theorem sm {i:bQ} (U:Cn i=true) (ad:i.size=32) (t:bq):hB i (eb t) 0=some (.agg (eb t)):=by
 have:=JS (a:=[]) (z:=[]) U (ys:=eb t) (by rw [nt,ad]) (off:=0) C;rwa [d0,d7] at this
theorem afi {i:bQ} (U:Cn i=true) (ad:i.size=33) (o:Int) (t:bq):hB i (hI o t) 0=some (.agg (hI o t)):=by
 have:=JS (a:=[]) (z:=[]) U (ys:=hI o t) (by rw [wB,ad]) (off:=0) C;rwa [d0,d7] at this
theorem Cox:∀ (us a w z:List ag),w.length=us.length→c5 a.length us (a++(w++z))=a++(us++z)
  | [],a,w,z,h=>by
    have:w=[]:=ay4.1 h;subst this;rfl
  | u::us,a,[],z,h=>by cases h
  | u::us,a,x::w,z,h=>by
    rw [c5,d5,ap0 _ _ (t7 _),aw3,ax3];have:=Cox us (a++[u]) w z fG;rw [f0,ad',aj0,aj0] at this;exact this
theorem Ti {us cs:List ag} (h:cs.length=us.length):c5 0 us cs=us:=by
 have:=Cox us [] cs [] h;rwa [d7,d7] at this
theorem Ao (t u:bq):c5 0 (eb t) (eb u)=eb t:=Ti (by rw [nt,nt])
def nu (t u:bq) (j:Nat):bq:=⟨fun m=>if m<j then (t.a m||u.a m||(t.r m||u.r m)) else t.a m,fun m=>if m<j then t.r m||u.r m else t.r m⟩
def tt (t u:bq) (j:Nat):bq:=⟨(nu t u j).a,fun i=>if i=j then (t.r j||u.r j) else (nu t u j).r i⟩
theorem afj (t u:bq):nu t u 0=t:=bq.ext' (fun _=>by simp [nu]) (fun _=>by simp [nu])
theorem afk (t u:bq) (j:Nat):(⟨fun i=>if i=j then (t.a j||u.a j||(t.r j||u.r j)) else (tt t u j).a i,(tt t u j).r⟩:bq)=nu t u (j+1):=by
 refine bq.ext' (fun i=>?_) (fun i=>?_)
 ·simp only [tt,nu]
  by_cases e:i=j
  ·subst e;rw [f7 C,f7 ak]
  ·rw [f4 e]
   by_cases h:i<j
   ·rw [f7 h,f7 ak]
   ·rw [f4 h,f4 ak]
 ·simp only [tt,nu]
  by_cases e:i=j
  ·subst e;rw [f7 C,f7 ak]
  ·rw [f4 e]
   by_cases h:i<j
   ·rw [f7 h,f7 ak]
   ·rw [f4 h,f4 ak]
theorem Tj {t u:bq} (U:∀ m,m<16→t.a m=u.a m) (ad:∀ m,m<16→t.r m=u.r m):eb t=eb u:=by
 unfold eb bq.jK;rw [bq.QO U,bq.QO ad]
theorem afl (t u:bq):eb (nu t u 16)=eb (t.with u):=
 Tj (fun m h=>by simp only [nu,bq.with];rw [f7 h]) (fun m h=>by simp only [nu,bq.with];rw [f7 h])
theorem Tk (t u:bq):aY d4 150 [.agg (eb t),.agg (eb u)] (.agg (eb (t.with u))):=by
 refine aY.bj ah Tryz.func150 C C fun s I=>?_
 repeat (first|(with_reducible first|apply af.seq|apply af.block)|refine af.cv ?_)
 refine ab.h0 I C C C C C C (fun eN I=>?_);refine cq C ?_;refine ab.c3 ah I C C C C C C C (fun pH I=>?_);refine bd ?_;refine af.cc [2,3,4] C I (σ:=Nat) (fun j=>[(6,.int .i64 (j:Int))]) (fun j=>[(.own eN,.box 145 (eb (nu t u j))),(.own pH,.box 145 (eb bq.no))]) (fun j=>j≤16) (fun j=>16-j) 0 (g9 _) (cy C) (by rw [afj];exact a') ?_;rintro j aK I
 try simp only at aK I ⊢
 refine cl ?_;refine af.cond C (fun au=>?_) (fun aV=>?_);rotate_left
 ·have aV:j=16:=by simp at aV;omega
  subst aV;rw [afl] at I ⊢;refine jR ?_;refine af.cv ?_;refine ab.dY ah I C C C C C C aO (sm C C _) ?_;refine ab.lv ah I _ C C C C C C C C C aO (by rw [nt,nt];omega) (Ao _ _) (fun I=>?_);refine eB ?_;exact Fin.cZ I (iS C C (bm.get aO I) (sm C C _)) aH
 have au:j<16:=by simp at au;omega
 have eD:(eb (nu t u j))[16+j*1]? = some (.bool (t.r j)):=by rw [am8,F' au];simp [nu]
 have fh:(eb u)[16+j*1]? = some (.bool (u.r j)):=by rw [am8,F' au]
 have bT:c5 (16+j*1) [.bool (t.r j||u.r j)] (eb (nu t u j))=eb (tt t u j):=by
  rw [am8,ue,Tg];rfl
 have fg:(eb (tt t u j))[0+j*1]? = some (.bool (t.a j)):=by rw [am8,aj8,Te au];simp [tt,nu]
 have a2:(eb u)[0+j*1]? = some (.bool (u.a j)):=by rw [am8,aj8,Te au]
 have gv:(eb (tt t u j))[16+j*1]? = some (.bool (t.r j||u.r j)):=by rw [am8,F' au];simp [tt]
 have bI:c5 (0+j*1) [.bool (t.a j||u.a j||(t.r j||u.r j))] (eb (tt t u j))=eb (nu t u (j+1)):=by
  rw [am8,aj8,ue,Tf _ au,afk]
 cases U:t.r j<;>cases ad:u.r j<;>cases aj:t.a j<;>cases bk:u.a j
 all_goals
  rw [U] at eD;rw [ad] at fh;rw [aj] at fg;rw [bk] at a2;rw [U,ad] at bT gv;rw [U,ad,aj,bk] at bI;simp only [Bool.or_true,ao3,ar',ak4] at bT gv bI;refine bd ?_;refine ab.arr ah j C C C C C C C C C C au ?_;refine ab.zm ah I C C C C C C aO C eD ?_;refine nN ?_
  try (refine ab.xt ah j C C C C C C C C C C au ?_;refine ab.Bx ah C C C C C C C fh ?_)
  refine fB ?_;refine ab.arr ah j C C C C C C C C C C au ?_;refine ab.lv ah I _ C C C C C C C C C aO (by rw [nt];show 16+j*1+1≤32;omega) bT (fun I=>?_);refine iR ?_;refine ab.arr ah j C C C C C C C C C C au ?_;refine ab.zm ah I C C C C C C aO C fg ?_;refine nN ?_
  try (refine ab.xt ah j C C C C C C C C C C au ?_;refine ab.Bx ah C C C C C C C a2 ?_)
  refine nN ?_
  try (refine ab.arr ah j C C C C C C C C C C au ?_;refine ab.zm ah I C C C C C C aO C gv ?_)
  refine fB ?_;refine ab.arr ah j C C C C C C C C C C au ?_;refine ab.lv ah I _ C C C C C C C C C aO (by rw [nt];show 0+j*1+1≤32;omega) bI (fun I=>?_);refine eF ?_;exact bA.mk (j+1) I au ct a' (by show 16-(j+1)<16-j;omega)
def Ap (s:Int×bq):ag := .agg (hI s.1 s.2)
def yz (l:List (Int×bq)):ag := .aF 33 (l.map Ap) .a7
def ri (t:bq) (l:List (Int×bq)) (j:Nat):bq:=wg t (l.take j)
theorem afm {t:bq} {l:List (Int×bq)} {j:Nat} {s:Int×bq} (h:l[j]? = some s):ri t l (j+1)=if pB t s.1 then (ri t l j).with s.2 else ri t l j:=by
 unfold ri wg;rw [fD h,aq'];rfl
theorem Tl (t:bq) (l:List (Int×bq)) (aE:l.length<bK) (ai:∀ s∈l,s.1 = -1∨∃ k:Nat,s.1=k∧k<16):aY d4 86 [.agg (eb t),yz l] (.agg (eb (wg t l))):=by
 have aq:=bx;have Ir:=Tk t bq.no;refine aY.bj ah Tryz.func86 C C fun s I=>?_
 unfold yz
 repeat (first|(with_reducible first|apply af.seq|apply af.block)|refine af.cv ?_)
 refine cq C ?_;refine ab.c3 ah I C C C C C C C (fun pH I=>?_)
 repeat (first|(with_reducible first|apply cg|apply af.seq)|refine af.cv ?_|refine ab.nil ?_)
 refine ab.op C C C (aX.zl ah C C C (sm C C _)) ?_ (fun _ _ h=>h.elim);rintro x an ⟨rfl,rfl⟩;refine cq C ?_;refine ab.mo C C C C C Ir (.cons aH (.one (aR.of_eq C))) ?_;refine ab.c3 ah I C C C C C C C (fun d' I=>?_);refine ab.lv ah I _ C C C C C C C C C aO (by rw [nt];exact t7 _) (Ao _ bq.no) (fun I=>?_);refine bd ?_;have bn:ri t l 0=t.with bq.no:=rfl
 rw [← bn] at I ⊢;refine af.cc [2,4,5,11,12] C I (σ:=Nat) (fun j=>[(13,.int .i64 (j:Int))]) (fun j=>[(.own d',.box 145 (eb (ri t l j))),(.own pH,.box 145 (eb bq.no))]) (fun j=>j≤l.length) (fun j=>l.length-j) 0 (g9 _) (cy C) a' ?_;rintro j aK I
 try simp only at aK I ⊢
 refine cl ?_;refine af.cond C (fun au=>?_) (fun aV=>?_);rotate_left
 ·have aV:j=l.length:=by simp at aV;omega
  subst aV;have e:ri t l l.length=wg t l:=by unfold ri;rw [ag']
  rw [e] at I ⊢;refine jR ?_;refine af.cv ?_;refine ab.dY ah I C C C C C C aO (sm C C _) ?_;refine ab.lv ah I _ C C C C C C C C C aO (by rw [nt,nt];exact t7 _) (Ao _ _) (fun I=>?_);refine eB ?_;exact Fin.cZ I (iS C C (bm.get aO I) (sm C C _)) aH
 have au:j<l.length:=by simpa using au
 obtain ⟨⟨o,u⟩,al,gU⟩:=b' (f:=Ap) au;have vL:=ai _ (d8 al);have av:=afm (t:=t) al;have hw:=Tk (ri t l j) u;unfold Ap at gU
 try simp only at gU vL av
 rcases vL with rfl|⟨k,rfl,ax⟩
 ·rw [show pB t (-1)=true from rfl,f7 C] at av
  refine DT I ?_;intro I;rw [Ao] at I ⊢;exact bA.mk (j+1) I au ct (by show az _ [(_,.box _ (eb (ri t l (j+1)))),_] _;rw [av];exact a') jV
 have eD:(eb t)[16+k*1]? = some (.bool (t.r k)):=by rw [am8,F' ax]
 have aI:pB t (k:Int)=t.r k:=by unfold pB;rw [M2 ak,ak4,ai7]
 rw [aI] at av;refine ej ?_;refine ab.xt ah k C C C C C C C C C C ax ?_;refine ab.Bx ah C C C C C C C eD ?_;cases aC:t.r k with
 | true=>
  rw [aC,f7 C] at av;refine hC I ?_;intro I;rw [Ao] at I ⊢;exact bA.mk (j+1) I au ct (by show az _ [(_,.box _ (eb (ri t l (j+1)))),_] _;rw [av];exact a') jV
 | false=>
  rw [aC,f4 bc] at av;refine bd ?_;exact bA.mk (j+1) I au ct (by show az _ [(_,.box _ (eb (ri t l (j+1)))),_] _;rw [av];exact a') jV
theorem K4 {p:aU} (bu:cS p=true) {j:Nat} {x:hh} (aa:p.methods[j]? = some x):eY p 12 x.node=true∧∀ k∈fU p 12 x.node,fw p k=true:=by
 have aC:x.node∈mI p:=by unfold mI;exact al3 _ (ae'.2 ⟨x,d8 aa,rfl⟩)
 exact ⟨(tg bu).fits _ aC,fun k ax=>(tg bu).sc k (aq5.2 ⟨_,aC,ax⟩)⟩
theorem afn (p:aU) (aB:e3 p) (bu:cS p=true) (dV:List Int) (mb m:Nat) (hm:m<p.methods.length):aY d4 269 [.bl (gR p dV mb) 0,.int .i64 (m:Int)] (.bool (kI p m)):=by
 have aq:=bx;obtain ⟨x,aa,bY⟩:=b' (f:=hE) hm;obtain ⟨pF,dc⟩:=K4 bu aa;have kX:=FF p aB 12 x.node pF;have jU:=Kg p x.node;have aA:kI p m=(fU p 12 x.node).any fun n=>decide ((b7 p n).op=18):=by
  unfold kI;rw [ai7,d9,aa];rfl
 refine aY.bj ah Tryz.func269 C C fun s I=>?_
 unfold cQ at jU;unfold gR;unfold cj at *;unfold hE lT at bY
 repeat (first|(with_reducible first|apply af.seq|apply af.block)|refine af.cv ?_)
 refine cq C ?_;refine ab.c3 ah I C C C C C C C (fun pH I=>?_);refine vq ?_;refine af.zb I C dh kX .nil (fun rem K=>(∀ k∈rem,fw p k=true)∧kI p m=(rem.any fun n=>decide ((b7 p n).op=18))∧K=[(.own pH,.box 4 [.bool false])]) (fun c K=>c = .ret∧kI p m=true∧K=[(.own pH,.box 4 [.bool true])]) (fun _ _=>False) ⟨dc,aA,rfl⟩ ?_ ?_ ?_ (fun _ _ h=>h.elim)
 ·rintro s₁ k rem K ⟨aQ,aC,rfl⟩ I
  have ax:=aQ k g8;unfold fw at ax;simp only [d6,f5] at ax;obtain ⟨fN,rfl⟩:∃ fN:Nat,k=fN:=⟨k.toNat,by omega⟩;obtain ⟨y,ar,cf⟩:=b' (f:=ff) (l:=p.nodes) (j:=fN) ak;have e:b7 p (fN:Int)=y:=by unfold b7;rw [ai7,d9,ar];rfl
  rw [ak',e] at aC;unfold ff h4 at cf;unfold ba;refine bd ?_;refine af.cond C (fun h=>?_) (fun h=>?_)
  ·rw [i6 fG,ar'] at aC
   refine c9 I ?_;intro I;exact At.mk _ I a' ⟨rfl,aC,rfl⟩
  ·rw [M2 fG,ak4] at aC
   refine jR ?_;exact At.mk _ I a' ⟨fun k h=>aQ k (f9 _ h),aC,rfl⟩
 ·rintro K ⟨_,aC,rfl⟩ I
  have aC:kI p m=false:=aC;rw [aC];refine c9 I ?_;intro I;exact Fin.cZ I (iS C C (bm.get aO I) C) aH
 ·rintro c K ⟨rfl,aC,rfl⟩ I
  rw [aC];refine jR ?_;exact Fin.cZ I (iS C C (bm.get aO I) C) aH
def nv (h7:Nat) (o:Int) (t:bq):a6:=[(.own h7,.box 214 (hI o t))]
theorem K5 {t:bq} {l:List Int} {j:Nat} {m:Int} (hm:l[j]? = some m):(t.hQ (l.take j)).hQ [m]=t.hQ (l.take (j+1)):=by
 rw [bq.Cl,fD hm]
theorem afo {t:bq} {l:List Int} {j:Nat} {m:Int} (hm:l[j]? = some m):(t.kr (l.take j)).kr [m]=t.kr (l.take (j+1)):=by
 rw [bq.abL,fD hm]
theorem Tm (p:aU) (aB:e3 p) (bu:cS p=true) (dV:List Int) (mb h7:Nat) (o:Int) (t:bq) (l:List Int) (aE:∀ m∈l,hG p m) (lx:l.length<bK) :
  bs d4 211 [.bl (gR p dV mb) 0,.ptr h7 1,br l] (nv h7 o t) (fun out K=>out = .ret (.bool (jn (kI p) l).2)∧K=nv h7 o (t.hQ (jn (kI p) l).1)):=by
 have aq:=bx;have q5:=(r2 bu).1;have y0:=fun (m:Nat) hm=>afn p aB bu dV mb m hm
 refine bs.bj ah Tryz.func211 C C fun s I=>?_
 unfold br;unfold nv at I;refine gp ?_;refine af.cc [0,1,9,10] rfl I (σ:=Nat) (fun j=>[(11,.int .i64 (j:Int))]) (fun j=>nv h7 o (t.hQ (l.take j))) (fun j=>j≤l.length∧∀ m∈l.take j,kI p m=true) (fun j=>l.length-j) 0 ⟨g9 _,fun _ h=>by cases h⟩ (cy rfl) (by rw [an7,bq.Fo];exact az.all _) ?_;rintro j ⟨aK,ay⟩ I
 try simp only at aK ay I ⊢
 refine cl ?_;refine af.cond C (fun au=>?_) (fun aV=>?_);rotate_left
 ·have aV:j=l.length:=by simp at aV;omega
  subst aV;rw [ag'] at ay I ⊢;rw [afc ay];refine fb ?_;exact Fin.bz I C aH (az.all _) ⟨rfl,rfl⟩
 have au:j<l.length:=by simpa using au
 obtain ⟨m,hm,mZ⟩:=b' (f:=ba) au;have lM:=aE m (d8 hm);unfold hG at lM;obtain ⟨k,rfl⟩:∃ k:Nat,m=k:=⟨m.toNat,by omega⟩;have Gb:=y0 k ak;have he:c5 (17+k*1) [.bool true] (hI o (t.hQ (l.take j)))=hI o (t.hQ (l.take (j+1))):=by
  rw [am8,Ga,K5 hm]
 unfold ba at mZ;unfold nv at I ⊢;refine fc ?_;refine ab.arr ah k C C C C C C C C C C ak ?_;refine ab.lv ah I _ C C C C C C C C C aO (by rw [wB];show 17+k*1+1≤33;omega) he (fun I=>?_);cases Gc:kI p k with
 | true=>
  rw [Gc] at Gb;refine c1 ?_
  exact bA.mk (j+1) I ⟨au,fun m h=>by
   rw [fD hm] at h
   rcases List.mem_append.1 h with h|h
   ·exact ay m h
   ·rw [i7.1 h];exact Gc⟩ ct (by show az _ (nv h7 o (t.hQ (l.take (j+1)))) _;unfold nv;exact a') jV
 | false=>
  rw [Gc] at Gb;rw [afd ay hm Gc];refine c1 ?_;exact Fin.bz I C aH (az.all _) ⟨rfl,rfl⟩
theorem Tn (dj:Int→Int→Bool):∀ (k:Nat) (l out:List Int),(mG dj k l out).1.length≤out.length+l.length
  | 0,l,out=>by rw [mG];show out.length≤_;omega
  | k+1,l,out=>by
    rw [mG];split
    · show out.length≤_;omega
    · cases aZ:l.find? (wa dj l) with
      | none=>show out.length≤_;omega
      | some m=>
        have hm:=al6 aZ;have U:(l.filter fun x=>x != m).length<l.length:=by
          rw [al9];exact ⟨m,hm,by simp⟩
        have ad:=Tn dj k (l.filter fun x=>x != m) (out++[m]);rw [f0,ad'] at ad;show (mG dj k (l.filter fun x=>x != m) (out++[m])).1.length≤_;omega
theorem afp {p:aU} {dj:Int→Int→Bool} {l:List Int} {x:wb} (h:qb p dj l=some x):x.pz.length≤l.length∧x.mH.length≤l.length∧x.oI.length≤l.length∧x.nk.length≤l.length:=by
 have gq:∀ k,(hF p l k).length≤l.length:=fun k=>al8 _ _
 unfold qb at h;split at h
 ·cases h
 ·cases h
  have U:=fun k=>Tn dj ((hF p l k).length+1) (hF p l k) []
  have ad:=fun k=>Tb dj (hF p l k)
  simp only [ai9,aj8] at U;refine ⟨?_,?_,?_,?_⟩
  ·exact al7 (U 4) (gq 4)
  ·exact al7 (ad 2) (gq 2)
  ·exact al7 (U 1) (gq 1)
  ·show (nj dj (hF p l 3)).reverse.length≤_
   rw [aD4];exact al7 (ad 3) (gq 3)
theorem afq {p:aU} {dj:Int→Int→Bool} {l:List Int} {x:wb} (h:qb p dj l=some x):l.length≠0:=by
 intro e;rw [ay4.1 e] at h;simp [qb,hF] at h
theorem afr (p:aU) (aB:e3 p) (bu:cS p=true) (dV:List Int) (mb h7:Nat) (o:Int) (t:bq) (l:List Int) (aE:F3 p l) :
  bs d4 149 [.bl (gR p dV mb) 0,.ptr h7 1,br l] (nv h7 o t) (fun out K=>out = .ret (.bW [])∧K=nv h7 o (t.hQ (se p l))):=by
 have aq:=bx;have q5:=(r2 bu).1;have uB:=ae9 p aB bu l aE;have Bs:=aE.len;unfold K2 at uB;cases e2:qb p (fF p) l with
 | none=>
  have aC:se p l=[]:=by unfold se;rw [e2]
  rw [e2] at uB;rw [aC,bq.Fo];refine bs.bj ah Tryz.func149 C C fun s I=>?_
  unfold Afx at uB;unfold cQ br at *;unfold gR;unfold cj at *;refine ej ?_;by_cases bn:l.length=0
  ·refine ab.fM 24 C (by simpa using bn) ?_
   refine bd ?_;exact Fin.bz I C aH (az.all _) ⟨rfl,rfl⟩
  ·refine ab.eP 24 C (by simpa using bn) ?_
   refine bd ?_;exact Fin.bz I C aH (az.all _) ⟨rfl,rfl⟩
 | some x=>
  rw [e2] at uB
  try simp only at uB
  obtain ⟨l',ld,oj,om⟩:=afp e2;have cN:=afq e2;have gV:=Q0 e2;have dc:∀ m,m∈x.pz∨m∈x.mH∨m∈x.oI∨m∈x.nk→hG p m:=fun m h=>aE.sc m (gV m h)
  have zL:=Tm p aB bu dV mb h7 o t x.pz (fun m h=>dc m (.inl h)) ak;have oN:se p l=if !(jn (kI p) x.pz).2||x.zS then (jn (kI p) x.pz).1
    else (jn (kI p) x.pz).1++x.mH++(if x.oI.isEmpty then [] else (jn (kI p) x.oI).1++x.nk):=by unfold se;rw [e2]
  obtain ⟨t1,oR⟩:∃ t1,t1=t.hQ (jn (kI p) x.pz).1:=⟨_,rfl⟩;rw [← oR] at zL;obtain ⟨t2,lg⟩:∃ t2,t2=t1.hQ x.mH:=⟨_,rfl⟩;have x9:=Tm p aB bu dV mb h7 o t2 x.oI (fun m h=>dc m (.inr (.inr (.inl h)))) ak;obtain ⟨t3,To⟩:∃ t3,t3=t2.hQ (jn (kI p) x.oI).1:=⟨_,rfl⟩;rw [← To] at x9;refine bs.bj ah Tryz.func149 C C fun s I=>?_
  unfold nv at I;unfold F7 at uB;unfold cQ br at *;unfold gR at *;unfold cj at *;refine ej ?_;refine ab.eP 24 C (by simpa using cN) ?_;refine bd ?_;refine ab.bL rfl rfl rfl rfl rfl zL I (az.all _) ?_ (fun _ _ ⟨h,_⟩ _=>by cases h);rintro _ _ ⟨⟨⟩,rfl⟩ I;rw [d7] at I ⊢;cases mS:(jn (kI p) x.pz).2 with
  | false=>
   rw [mS] at oN;rw [f7 (by rfl)] at oN;rw [oN,← oR];refine bd ?_;exact Fin.bz I C aH (az.all _) ⟨rfl,rfl⟩
  | true=>
  cases EO:x.zS with
  | true=>
   rw [mS,EO] at oN;rw [f7 (by rfl)] at oN;rw [oN,← oR];refine bd ?_;exact Fin.bz I C aH (az.all _) ⟨rfl,rfl⟩
  | false=>
  rw [mS,EO,f4 bc] at oN;have js:t1=t1.hQ (x.mH.take 0):=by rw [an7,bq.Fo]
  refine bd ?_;unfold nv at I ⊢;refine af.cc [0,1,6,39,40] C I (σ:=Nat) (fun j=>[(41,.int .i64 (j:Int))]) (fun j=>nv h7 o (t1.hQ (x.mH.take j))) (fun j=>j≤x.mH.length) (fun j=>x.mH.length-j) 0 (g9 _) (cy C) (by rw [← js];exact az.all _) ?_;rintro j aK I
  try simp only at aK I ⊢
  refine cl ?_;refine af.cond C (fun au=>?_) (fun aV=>?_)
  ·have au:j<x.mH.length:=by simpa using au
   obtain ⟨m,hm,mZ⟩:=b' (f:=ba) au;have lM:=dc m (.inr (.inl (d8 hm)));unfold hG at lM;obtain ⟨k,rfl⟩:∃ k:Nat,m=k:=⟨m.toNat,by omega⟩;have he:c5 (17+k*1) [.bool true] (hI o (t1.hQ (x.mH.take j)))=hI o (t1.hQ (x.mH.take (j+1))):=by
    rw [am8,Ga,K5 hm]
   unfold ba at mZ;unfold nv at I ⊢;refine fc ?_;refine ab.arr ah k C C C C C C C C C C ak ?_;refine ab.lv ah I _ C C C C C C C C C aO (by rw [wB];show 17+k*1+1≤33;omega) he (fun I=>?_);refine eF ?_;exact bA.mk (j+1) I au ct a' (by show x.mH.length-(j+1)<x.mH.length-j;omega)
  have aV:j=x.mH.length:=by simp at aV;omega
  subst aV;rw [ag',← lg] at I ⊢;unfold nv at I ⊢;refine fb ?_;by_cases CU:x.oI.length=0
  ·have yR:x.oI.isEmpty=true:=by rw [List.isEmpty_iff];exact ay4.1 CU
   rw [yR,f7 C,d7] at oN;refine af.cond C (fun _=>?_) (fun h=>absurd CU fG);rw [oN,← bq.Cl,← oR,← lg];refine o3 ?_;exact Fin.bz I C aH (az.all _) ⟨rfl,rfl⟩
  have yR:x.oI.isEmpty=false:=by
   cases aw:x.oI with
   | nil=>rw [aw] at CU;exact absurd C CU
   | cons _ _=>rfl
  rw [yR,f4 bc,← aj0] at oN;refine af.cond C (fun h=>absurd fG CU) (fun _=>?_);refine fc ?_;refine ab.bL rfl rfl rfl rfl rfl x9 I (az.all _) ?_ (fun _ _ ⟨h,_⟩ _=>by cases h);rintro _ _ ⟨⟨⟩,rfl⟩ I;rw [d7] at I ⊢;have eh:t3=t3.hQ (x.nk.take 0):=by rw [an7,bq.Fo]
  refine bd ?_;refine af.cc [0,1,61,62] C I (σ:=Nat) (fun j=>[(63,.int .i64 (j:Int))]) (fun j=>nv h7 o (t3.hQ (x.nk.take j))) (fun j=>j≤x.nk.length) (fun j=>x.nk.length-j) 0 (g9 _) (cy C) (by rw [← eh];exact az.all _) ?_;rintro j aK I
  try simp only at aK I ⊢
  refine cl ?_;refine af.cond C (fun au=>?_) (fun aV=>?_)
  ·have au:j<x.nk.length:=by simpa using au
   obtain ⟨m,hm,mZ⟩:=b' (f:=ba) au;have lM:=dc m (.inr (.inr (.inr (d8 hm))));unfold hG at lM;obtain ⟨k,rfl⟩:∃ k:Nat,m=k:=⟨m.toNat,by omega⟩;have he:c5 (17+k*1) [.bool true] (hI o (t3.hQ (x.nk.take j)))=hI o (t3.hQ (x.nk.take (j+1))):=by
    rw [am8,Ga,K5 hm]
   unfold ba at mZ;unfold nv at I ⊢;refine fc ?_;refine ab.arr ah k C C C C C C C C C C ak ?_;refine ab.lv ah I _ C C C C C C C C C aO (by rw [wB];show 17+k*1+1≤33;omega) he (fun I=>?_);refine eF ?_;exact bA.mk (j+1) I au ct a' (by show x.nk.length-(j+1)<x.nk.length-j;omega)
  have aV:j=x.nk.length:=by simp at aV;omega
  subst aV;rw [ag'] at I ⊢;rw [oN,← bq.Cl,← bq.Cl,← bq.Cl,← oR,← lg,← To];refine ki ?_;exact Fin.bz I C aH (az.all _) ⟨rfl,rfl⟩
theorem afs {p:aU} (bu:cS p=true) {n:Nat} (av:n<p.nodes.length) (bF:(b7 p n).op=5):vS p (b7 p n).n=true∧(b7 p n).kids.length≤3:=by
 obtain ⟨n6,sz,I⟩:=z1 bu (n:=(n:Int)) (by unfold fw;simp;omega);obtain ⟨g1,g2,g3⟩:=Ka I bF;have:=Cs bu (p.dX.getD (b7 p n).n.toNat 0) Su;refine ⟨?_,by omega⟩;unfold vS;simp only [d6,f5];omega
theorem aft {p:aU} {g:Int} (bu:cS p=true) (ay:vS p g=true):km p g=if qe p g then 3 else 0:=by
 unfold km qe;rw [bu,ay];by_cases h:(dG p g).length≤7
 ·rw [f7 (by rfl),f7 h,M2 ak];rfl
 ·rw [f7 (by rfl),f4 h,i6 ak];rfl
theorem Tp (p:aU) (aB:e3 p) (bu:cS p=true) (mb n:Nat) (av:n<p.nodes.length) (bF:(b7 p n).op=5) :
  ∃ (vs:List Nat) (few:Bool),bs d4 66 [.bl (gR p (l3 p) mb) 0,.int .i64 (n:Int)] (gK mb) (rb mb (.bW [.aF 1 (iK vs) .a7,.bool few])) ∧
   l2 p n=vs.foldl (uC p (b7 p n).n (dG p (b7 p n).n)) (if few then bq.no else Cj p (b7 p n).n)∧(∀ v∈vs,Aa p (b7 p n).n v=0∧v<128)∧vs.length≤128∧few = !qe p (b7 p n).n∧(few=true→vs=qd p n):=by
 obtain ⟨ay,ax⟩:=afs bu av bF;have bp:=aft bu ay;cases hm:qe p (b7 p n).n with
 | true=>
  rw [hm,f7 C] at bp;exact ⟨[],false,SM p aB mb n av ak,by rw [f4 bc];exact abK hm,fun _ h=>nA,by simp,rfl,fun h=>nA⟩
 | false=>
  rw [hm,f4 bc] at bp;have gL:=(FW bp).2.1;have FP:2^(dG p (b7 p n).n).length≤2^7:=Nat.pow_le_pow_right ak gL;refine ⟨qd p n,true,SX p aB bu mb n av ax bp,by rw [f7 C];exact abJ hm,fun v aD=>?_,?_,rfl,fun _=>rfl⟩
  ·have nF:v∈nX (bU p) (dG p (b7 p n).n):=by
    unfold qd at aD;exact (aj1.1 aD).1
   have au:=Se nF;refine ⟨?_,by omega⟩;unfold Aa;rw [f7 bp];have aq:CG p (b7 p n).n (v:Int)=true:=by
    unfold nX at nF;have aw:=(aj1.1 nF).2;unfold CG;rw [ai7,aw,i6 ak,i6 (by exact_mod_cast au)];rfl
   rw [aq,f7 C]
  ·unfold qd nX
   refine al7 (al8 _ _) (al7 (al8 _ _) ?_);rw [aq0];omega
theorem Tq {p:aU} (aB:e3 p) (g:Int) (cP:List ae) (v:Nat):F3 p (jH p g cP v):=by
 refine ⟨fun m h=>(Ck h).1,abI p g cP v,fun m h n eA=>(Ck h).2.trans (Ck eA).2.symm,?_⟩;have:=R4 g cP v p.methods 0;have:=aB.ya;unfold jH;omega
def K6 (p:aU) (g:Int) (j:Nat):bq:=⟨fun m=>decide (m<j)&&decide (jY p m=g),fun m=>decide (m<j)&&decide (jY p m=g)⟩
def uU (p:aU) (g:Int) (few:Bool) (j:Nat):bq:=if few then bq.no else K6 p g j
theorem afu (p:aU) (g:Int) (few:Bool):uU p g few 0=bq.no:=by
 unfold uU;cases few
 ·exact bq.ext' (fun m=>by simp [K6,bq.no]) (fun m=>by simp [K6,bq.no])
 ·rfl
theorem afv (p:aU) (g:Int) (few:Bool):uU p g few p.methods.length=if few then bq.no else Cj p g:=rfl
theorem Tr {p:aU} {g:Int} {few:Bool} {j:Nat} (h:few=true∨jY p j≠g):uU p g few (j+1)=uU p g few j:=by
 unfold uU;cases few with
 | true=>rfl
 | false=>
  have h:jY p j≠g:=by simpa using h
  have e:∀ m:Nat,(decide (m<j+1)&&decide (jY p m=g))=(decide (m<j)&&decide (jY p m=g)):=fun m=>by
   by_cases hm:m=j
   ·subst hm;rw [M2 h];simp
   ·congr 1
    rw [decide_eq_decide];omega
  exact bq.ext' (fun m=>e m) (fun m=>e m)
theorem afw {p:aU} {g:Int} {j:Nat} (h:jY p j=g):((uU p g false j).kr [(j:Int)]).hQ [(j:Int)]=uU p g false (j+1):=by
 have e:∀ m:Nat,((decide (m<j)&&decide (jY p m=g))||([(j:Int)]:List Int).contains (m:Int))=(decide (m<j+1)&&decide (jY p m=g)):=fun m=>by
  by_cases hm:m=j
  ·subst hm;simp [h]
  ·have:([(j:Int)]:List Int).contains (m:Int)=false:=by simp;omega
   rw [this,ao3];congr 1;rw [decide_eq_decide];omega
 exact bq.ext' (fun m=>e m) (fun m=>e m)
def mM (p:aU) (j:Nat):List (Int×bq):=((ak6 j).filter fun n:Nat=>decide ((b7 p n).op=5)).map fun n:Nat=>(n1 p n,l2 p n)
theorem afx (p:aU) (j:Nat):mM p (j+1)=mM p j++if (b7 p j).op=5 then [(n1 p j,l2 p j)] else []:=by
 unfold mM;rw [au1,ap6,t8];by_cases h:(b7 p j).op=5
 ·rw [f7 h,an1,f7 fG];rfl
 ·rw [f4 h,an1,f4 fG];rfl
theorem K7 (p:aU) (j:Nat):(mM p j).length≤j:=by
 unfold mM;rw [f6];refine al7 (al8 _ _) ?_;rw [aq0];exact t7 _
theorem Ts {p:aU} (bu:cS p=true):∀ s∈pA p,s.1 = -1∨∃ k:Nat,s.1=k∧k<16:=fun s al=>by
 unfold pA at al;obtain ⟨n,-,rfl⟩:=ae'.1 al;have q5:=(r2 bu).1;rcases Cv p n with h|⟨k,U,ad⟩
 ·exact .inl h
 ·exact .inr ⟨k,U,by omega⟩
theorem afy (dV:Int) (aO:List ag) (bO:aO.length=33) (U:c5 0 [.int .i64 dV] aO=hI dV bq.no):b5 (c5 0 (c5 0 [.int .i64 dV] aO) aO) (hI dV bq.no):=by
 rw [U,Ti (by rw [bO,wB])];exact b5.refl _
theorem Tt (p:aU) (aB:e3 p) (bu:cS p=true) (mb:Nat) :
  bs d4 85 [.bl (gR p (l3 p) mb) 0] (gK mb) (rb mb (yz (pA p))):=by
 have aq:=bx;have q5:=(r2 bu).1;have a1:p.nodes.length≤120:=FD bu;have Tu:=fun (g:Int) (v:Nat)=>Sh p aB g v
 have cI:=fun (h7:Nat) (o:Int) (t:bq) (l:List Int) aE=>afr p aB bu (l3 p) mb h7 o t l aE
 refine bs.bj ah Tryz.func85 C C fun s I=>?_
 unfold FV at Tu;unfold yz cQ br at *;unfold gK at I;unfold gR at *;unfold cj at *;refine gp ?_;refine af.hv I 214 33 0 fun I=>?_
 refine af.cc [0,21,22] C I (σ:=Nat×bM) (fun q=>[(23,.int .i64 (q.1:Int)),(3,.aF 33 ((mM p q.1).map Ap) q.2)]) (fun q=>[(q.2,.row 214 33 (mM p q.1).length),(.own mb,.map (e9 nn))]) (fun q=>q.1≤p.nodes.length) (fun q=>p.nodes.length-q.1) (0,.nil) (g9 _) ⟨⟨_,rfl,aH⟩,⟨_,rfl,aR.nil gF⟩,trivial⟩ a' ?_;rintro ⟨j,own⟩ aK I
 try simp only at aK I ⊢
 refine cl ?_;refine af.cond C (fun au=>?_) (fun aV=>?_);rotate_left
 ·have aV:j=p.nodes.length:=by simp at aV;omega
  subst aV;have e:mM p p.nodes.length=pA p:=rfl;rw [e];refine fb ?_;exact Fin.bz I C aR.a7 (az.there (az.all _)) ⟨rfl,rfl⟩
 have au:j<p.nodes.length:=by simpa using au
 obtain ⟨y,ar,cf⟩:=b' (f:=ff) au;have e:b7 p (j:Int)=y:=by unfold b7;rw [ai7,d9,ar];rfl
 have wC:=afx p j;rw [e] at wC;have rA:=RP au;have dt:=K7 p j;obtain ⟨np,gA,FG⟩:=y
 try simp only at wC
 unfold ff h4 at cf;unfold ba at rA;by_cases bF:np=5;rotate_left
 ·repeat (first|(refine vp I ?_;clear I;intro I)|refine ab.c3 ah I rfl rfl rfl rfl rfl rfl rfl (fun cu I=>?_))
  refine af.im I 5 _ C aO (fun I=>?_);refine af.cond C (fun _=>?_) (fun h=>absurd fG bF);rw [f4 bF,d7] at wC;rw [← wC] at I ⊢;refine fb ?_;exact bA.mk (j+1,own) I au ct a' CP
 repeat (first|(refine vp I ?_;clear I;intro I)|refine ab.c3 ah I rfl rfl rfl rfl rfl rfl rfl (fun cu I=>?_))
 refine af.im I 5 _ C aO (fun I=>?_);refine af.cond C (fun h=>absurd bF fG) (fun _=>?_);rw [f7 bF] at wC;have wR:(b7 p (j:Int)).op=5:=by rw [e];exact bF
 obtain ⟨vs,few,aD,Gd,yA,gm,-,-⟩:=Tp p aB bu mb j au wR;rw [e] at Gd yA
 try simp only at Gd yA
 unfold gR gK at aD;unfold cj br at aD;obtain ⟨dV,afz⟩:∃ o,o=n1 p j:=⟨_,rfl⟩;rw [← afz] at rA wC
 repeat (first|(refine W2 I ?_;clear I;intro I)|refine ab.c3 ah I rfl rfl rfl rfl rfl rfl rfl (fun cu I=>?_))
 refine ab.bL rfl rfl rfl rfl rfl aD I a' ?_ (fun _ _ ⟨h,_⟩ _=>by cases h);rintro _ _ ⟨⟨⟩,rfl⟩ I;simp only [d5,d0] at I ⊢;refine bd ?_;obtain ⟨h7,tI⟩:∃ b,b=cu:=⟨_,rfl⟩;rw [← tI] at I ⊢;refine af.ig I (hI dV bq.no) (kb:=h7) aO (afy dV _ C C) (fun I=>?_);obtain ⟨T,dR⟩:∃ T:Nat→bq,∀ i,T i=uU p gA few i:=⟨_,fun _=>rfl⟩;have K8:T 0=bq.no:=by rw [dR,afu]
 refine af.cc [0,3,4,5,6,7,8,21,22,23,49,50] C I (σ:=Nat) (fun i=>[(51,.int .i64 (i:Int))]) (fun i=>[(.own h7,.box 214 (hI dV (T i))),(own,.row 214 33 (mM p j).length),(.own mb,.map (e9 nn))]) (fun i=>i≤p.methods.length) (fun i=>p.methods.length-i) 0 (g9 _) (cy C) (by rw [K8];exact a') ?_;rintro i aQ I
 try simp only at aQ I ⊢
 refine cl ?_;refine af.cond C (fun dA=>?_) (fun aV=>?_)
 ·have dA:i<p.methods.length:=by simpa using dA
  obtain ⟨x,aa,bY,-,-,f3⟩:=ra dA;unfold hE lT at bY;cases few with
  | true=>
   have CV:=Tr (p:=p) (g:=gA) (few:=true) (j:=i) (.inl C);rw [← dR,← dR] at CV
   repeat (first|(refine W3 I ?_;clear I;intro I)|refine ab.c3 ah I rfl rfl rfl rfl rfl rfl rfl (fun cu I=>?_))
   exact bA.mk (i+1) I dA ct (by show az _ [(_,.box _ (hI dV (T (i+1)))),_,_] _;rw [CV];exact a') KO
  | false=>
   repeat (first|(refine vp I ?_;clear I;intro I)|refine ab.c3 ah I rfl rfl rfl rfl rfl rfl rfl (fun cu I=>?_))
   by_cases ay:x.gen=gA;rotate_left
   ·refine af.cond C (fun h=>absurd fG ay) (fun _=>?_)
    have CV:=Tr (p:=p) (g:=gA) (few:=false) (j:=i) (.inr (by rw [f3];exact ay));rw [← dR,← dR] at CV;refine bd ?_;exact bA.mk (i+1) I dA ct (by show az _ [(_,.box _ (hI dV (T (i+1)))),_,_] _;rw [CV];exact a') KO
   refine af.cond C (fun _=>?_) (fun h=>absurd ay fG);have Tv:=afw (p:=p) (g:=gA) (j:=i) (by rw [f3];exact ay);rw [← dR,← dR] at Tv;have AO:c5 (1+i*1) [.bool true] (hI dV (T i))=hI dV ((T i).kr [(i:Int)]):=by rw [am8,Th _ _ ak]
   have GM:c5 (17+i*1) [.bool true] (hI dV ((T i).kr [(i:Int)]))=hI dV (T (i+1)):=by rw [am8,Ga,Tv]
   refine cX ?_;refine ab.arr ah i C C C C C C C C C C ak ?_;refine ab.lv ah I _ C C C C C C C C C aO (by rw [wB];show 1+i*1+1≤33;omega) AO (fun I=>?_);refine fB ?_;refine ab.arr ah i C C C C C C C C C C ak ?_;refine ab.lv ah I _ C C C C C C C C C aO (by rw [wB];show 17+i*1+1≤33;omega) GM (fun I=>?_);refine eF ?_;exact bA.mk (i+1) I dA ct a' KO
 have aV:i=p.methods.length:=by simp at aV;omega
 subst aV;have Tw:=dR p.methods.length;rw [afv] at Tw;rw [← Tw] at Gd;obtain ⟨V,kt⟩:∃ V:Nat→bq,∀ k,V k=(vs.take k).foldl (uC p gA (dG p gA)) (T p.methods.length):=⟨_,fun _=>rfl⟩;have afA:V 0=T p.methods.length:=by rw [kt];rfl
 have afB:V vs.length=l2 p j:=by rw [kt,ag',Gd]
 have oV:(iK vs).length=vs.length:=by unfold iK;rw [f6]
 refine bd ?_;refine af.cc [0,3,4,5,6,21,22,23,74,75] C I (σ:=Nat) (fun k=>[(76,.int .i64 (k:Int))]) (fun k=>[(.own h7,.box 214 (hI dV (V k))),(own,.row 214 33 (mM p j).length),(.own mb,.map (e9 nn))]) (fun k=>k≤vs.length) (fun k=>vs.length-k) 0 (g9 _) (cy C) (by rw [afA];exact a') ?_;rintro k ax I
 try simp only at ax I ⊢
 refine cl ?_;refine af.cond C (fun p8=>?_) (fun aV=>?_);rotate_left
 ·have aV:k=vs.length:=by simp [iK] at aV;omega
  subst aV;rw [afB] at I ⊢;have vW:(mM p (j+1)).length=(mM p j).length+1:=by rw [wC,f0];rfl
  have sj:(mM p (j+1)).map Ap=(mM p j).map Ap++[.agg (hI dV (l2 p j))]:=by rw [wC,t8];rfl
  refine jR ?_;refine af.cv ?_;refine cq C ?_;refine ab.dY ah I C C C C C C aO (afi C C _ _) ?_;refine cq C ?_;refine ab.gn ah I C C C C C C C dB C C C C C C C C aO (f6 _).symm (by show (_+1)*40≤_;omega) ak (fun b1 I=>?_);refine iQ ?_;exact bA.mk (j+1,.own b1) I au (by repeat (first|exact trivial|refine ⟨⟨_,rfl,aH⟩,?_⟩|refine ⟨⟨_,rfl,aR.of_eq (by (first|rw [lo ak]|(rw [sj];done)))⟩,?_⟩)) (by show az _ [(_,.row _ _ (mM p (j+1)).length),_] _;rw [vW];exact a') CP
 have p8:k<vs.length:=by simpa [iK] using p8
 obtain ⟨v,lK,qv⟩:=b' (f:=fun v:Nat=>ag.int .i64 (v:Int)) p8;have nF:(iK vs)[k]? = some (.int .i64 (v:Int)):=qv;obtain ⟨LM,GV⟩:=yA v (d8 lK);have Tx:V (k+1)=uC p gA (dG p gA) (V k) v:=by rw [kt,kt,fD lK,aq'];rfl
 have yv:=Tu gA v;rw [LM,f7 C,ai7] at yv;have Aq:=Tq aB gA (dG p gA) v;unfold uC at Tx;generalize jH p gA (dG p gA) v=ms at *;have aC:=cI h7 dV ((V k).kr ms) ms Aq;rw [← Tx] at aC;have jI:=Aq.len;have js:V k=(V k).kr (ms.take 0):=by rw [an7,bq.abM]
 refine c1 ?_;refine af.cc [0,3,4,5,6,13,21,22,23,74,75,76,91,92] C I (σ:=Nat) (fun r=>[(93,.int .i64 (r:Int))]) (fun r=>[(.own h7,.box 214 (hI dV ((V k).kr (ms.take r)))),(own,.row 214 33 (mM p j).length),(.own mb,.map (e9 nn))]) (fun r=>r≤ms.length) (fun r=>ms.length-r) 0 (g9 _) (cy C) (by rw [← js];exact a') ?_;rintro r Hc I
 try simp only at Hc I ⊢
 refine cl ?_;refine af.cond C (fun Ge=>?_) (fun aV=>?_)
 ·have Ge:r<ms.length:=by simpa using Ge
  obtain ⟨m,hm,mZ⟩:=b' (f:=ba) Ge;have lM:=Aq.sc m (d8 hm);unfold hG at lM;obtain ⟨z,rfl⟩:∃ z:Nat,m=z:=⟨m.toNat,by omega⟩;have he:c5 (1+z*1) [.bool true] (hI dV ((V k).kr (ms.take r)))=hI dV ((V k).kr (ms.take (r+1))):=by
   rw [am8,Th _ _ ak,afo hm]
  unfold ba at mZ;refine fc ?_;refine ab.arr ah z C C C C C C C C C C ak ?_;refine ab.lv ah I _ C C C C C C C C C aO (by rw [wB];show 1+z*1+1≤33;omega) he (fun I=>?_);refine eF ?_;exact bA.mk (r+1) I Ge ct a' (by show ms.length-(r+1)<ms.length-r;omega)
 have aV:r=ms.length:=by simp at aV;omega
 subst aV;rw [ag'] at I ⊢;unfold nv at aC;refine bd ?_;refine ab.bL rfl rfl rfl rfl rfl aC I a' ?_ (fun _ _ ⟨h,_⟩ _=>by cases h);rintro _ _ ⟨⟨⟩,rfl⟩ I;simp only [d5,d0] at I ⊢;refine eF ?_;exact bA.mk (k+1) I p8 ct a' (by show vs.length-(k+1)<vs.length-k;omega)
section
variable {P:Program} {Γ:cz} {N:Nat} {env:Env} {s:ao} {o:Oper} {L R:a6}
theorem aX.Ty (aP:bX P Γ) (I:Ok s L) {t bR e T:TypeId} {x y:Operand} {it aJ:bQ} {b off dl q4 b9:Nat} {cs ys:List ag} {dW:bM}
  (ai:o.op = .call { callee := .builtin .copy,args := #[x,y],argTypes := #[t,bR] }) (aN:Γ.get? t=some it) (bw:it.bN = .aF e) (bP:Γ.get? e=some aJ) (U:aJ.size=1) (aa:aL env x=some (sa b off dl q4)) (al:bm L (.own b) (.box T cs) R)
  (ar:aL env y=some (.aF b9 ys dW)) (dN:b9=1) (ew:ys.all eZ=true) (aA:ys.length≤dl) (er:off+ys.length≤cs.length) {X:ag→ao→Prop} :
  aX P N o env (aT s L) (fun r an=>r = .int .i64 ys.length∧an=aT s ((.own b,.box T (cs.take off++ys++cs.drop (off+ys.length)))::R)∧Ok s ((.own b,.box T (cs.take off++ys++cs.drop (off+ys.length)))::R)) X:=by
 refine aX.jZ hZ fun ro B a w p aI=>?_
 have fz:=aI.aL aa;have eH:=aI.aL ar;have ef:=fun val w'=>Jd (P:=P) (a:=a) (val:=val) (w:=w) (w':=w') ai
 generalize dM:a.eval x=dy at fz ef;generalize fj:a.eval y=fX at eH ef;cases fz;obtain ⟨info,d,g1,g2,g3,-⟩:=aP.parts aN;obtain ⟨jv,j0,ck,cL,ev,ee,lj,mg⟩:=aP.parts bP;have cH:d = .slice e:=by rw [bw] at g3;cases d<;>simp [ec] at g3;rw [g3]
 subst cH;subst dN;obtain ⟨us,hq,oT,jw,jd,sA,sB,sC⟩:=pU (sz':=1) eH (.inr rfl);have mV:=hq.length;have ox:∀ x∈us,x.oneCell'=true:=oQ hq ew;have rJ:flat us=us:=qL ox;obtain ⟨vs,cx,cE,dz⟩:=aI.wf.obj _ _ (al.get I);have sD:=cE.length;rw [Array.length_toList] at sD;have aE:=jw P;have aZ:=jd P w (fun _ _ _=>rfl);rw [rJ] at aZ;have sL:=run_storeCells_at P b off T us 0 vs w cx ak ox;simp only [as8] at sL;have Jg:Nat.min ys.length dl=ys.length:=Nat.min_eq_left aA;have cI:(Builtin.copy_ #[t,bR] o.type #[.slice (some ⟨b,off,none⟩) dl q4,fX]).run P w = .ok (.int .i64 ys.length) (w.setRow b (vs.toList.take off++us++vs.toList.drop (off+us.length)).toArray):=by
  simp [Builtin.copy_,run_underlying g2,sizeOf,typeInfo,ck,ee,U,aE,Jg,aZ,sL,goInt]
 obtain ⟨dF,c8,du,lh⟩:=Je I aI.wf al cx cE hq er;exact ⟨_,_,_,p,_,ef _ _ cI,dF,c8,du,⟨rfl,rfl,lh⟩,.int _ _⟩
theorem aX.Gf (aP:bX P Γ) {t e:TypeId} {x:Operand} {it aJ:bQ} {b off len:Nat} (ai:o.op = .slice t x none none none) (aN:Γ.get? t=some it) (bw:it.bN = .arr len e) (bP:Γ.get? e=some aJ) (aa:aL env x=some (.ptr b off)) :
  aX P N o env s (fun x an=>x=sa b off len len∧an=s) (fun _ _=>False):=by
 obtain ⟨info,tX,U,ad,aj,-⟩:=aP.parts aN;obtain ⟨jv,j0,ck,cL,ev,ee,-⟩:=aP.parts bP;obtain rfl:=wM (aj.trans bw);refine aX.mR hZ fun ro B a w p aI=>?_
 have aC:=aI.aL aa;generalize dM:a.eval x=dy at aC;cases aC;refine .same (val := .slice (some ⟨b,off,none⟩) len len) ?_ (.ho _);unfold execOp;rw [ai];simp only [dM,aq2];refine gb ?_;simp [Instr.sliceAt,Instr.sliceBounds,run_underlying ad,sizeOf,typeInfo,ck,Instr.sureAddr,lf]
theorem aX.Gg (aP:bX P Γ) {t e:TypeId} {x y:Operand} {it aJ:bQ} {off len k:Nat} {cs:List ag} {kY:IntKind} (ai:o.op = .slice t x none (some y) none) (aN:Γ.get? t=some it) (bw:it.bN = .arr len e) (bP:Γ.get? e=some aJ) (U:aJ.size=1) (aa:aL env x=some (.bl cs off)) (ar:aL env y=some (.int kY (k:Int))) (ax:k≤len) (er:off+k≤cs.length) (ew:((cs.drop off).take k).all eZ=true) (hm:k≤9223372036854775807) :
  aX P N o env s (fun x an=>x = .aF 1 ((cs.drop off).take k) .a7∧an=s) (fun _ _=>False):=by
 obtain ⟨info,tX,g1,g2,g3,-⟩:=aP.parts aN;obtain ⟨jv,j0,ck,cL,ev,ee,-⟩:=aP.parts bP;obtain rfl:=wM (g3.trans bw);refine aX.mR hZ fun ro B a w p aI=>?_
 have aC:=aI.aL aa;have eH:=aI.aL ar;generalize dM:a.eval x=dy at aC;generalize fj:a.eval y=fX at eH;cases eH;cases aC with
 | bl b base o' _ vs _ cW aw aC=>
 subst cW;have qu:=(aC.drop off).take k;have hlen:=aC.length;have j2:=oQ qu ew;have gd:flat ((vs.drop off).take k)=(vs.drop off).take k:=qL j2;have FR:u2 w p b (base+off) (flat ((vs.drop off).take k)):=by
  rw [gd];intro i v aD;rw [al'] at aD;split at aD
  ·rw [List.getElem?_drop] at aD
   have:=aw (off+i) v aD;rw [show base+off+i=base+(off+i) by omega];exact this
  ·cases aD
 refine .same (val := .slice (some ⟨b,base+off,none⟩) k len) ?_ (.aF b (base+off) k len 1 ((vs.drop off).take k) _ .a7 bc (by rw [ah',List.length_drop];omega) FR qu (fun v aD=>by rw [xm (j2 v aD)];rfl) hm ax bc bc);unfold execOp;rw [ai];simp only [dM,aq2,Option.map_some,fj];refine gb ?_;have pe:(k:Int)≤(len:Int):=by omega
 simp [Instr.sliceAt,Instr.sliceBounds,run_sliceBound,pe,run_underlying g2,sizeOf,typeInfo,ck,Instr.sureAddr,lf]
end
section
variable {J:ao→Prop} {P:Program} {Γ:cz} {N:Nat} {ops:Array Oper} {Q:b8→Env→ao→Prop} {env:Env} {s:ao} {l rest:List Oper} {o:Oper} {d i:Nat}
theorem aS.Gf (aP:bX P Γ) {t e:TypeId} {x:Operand} {it aJ:bQ} {b off len:Nat} (ay:dO l env o) (aA:o.dst=some d) (a1:af' d N=true) (ai:o.op = .slice t x none none none) (aN:Γ.get? t=some it) (bw:it.bN = .arr len e) (bP:Γ.get? e=some aJ) (aa:aL (cF l env o) x=some (.ptr b off))
  (h:aS J P Γ N l (i+1) rest Q ((d,sa b off len len)::env) s):aS J P Γ N l i (o::rest) Q env s:=
 aS.calm ay aA a1 (fun _ _=>aX.Gf aP ai aN bw bP aa) h
theorem aS.Gg (aP:bX P Γ) {t e:TypeId} {x y:Operand} {it aJ:bQ} {off len:Nat} (k:Nat) {cs:List ag} {kY:IntKind} (ay:dO l env o) (aA:o.dst=some d) (a1:af' d N=true) (ai:o.op = .slice t x none (some y) none) (aN:Γ.get? t=some it) (bw:it.bN = .arr len e) (bP:Γ.get? e=some aJ) (U:aJ.size=1) (aa:aL (cF l env o) x=some (.bl cs off)) (ar:aL (cF l env o) y=some (.int kY (k:Int))) (ax:k≤len) (er:off+k≤cs.length) (ew:((cs.drop off).take k).all eZ=true) (hm:k≤9223372036854775807)
  (h:aS J P Γ N l (i+1) rest Q ((d,.aF 1 ((cs.drop off).take k) .a7)::env) s):aS J P Γ N l i (o::rest) Q env s:=
 aS.calm ay aA a1 (fun _ _=>aX.Gg aP ai aN bw bP U aa ar ax er ew hm) h
end
theorem Tz:F8 d4 145 32:=by
 refine afa (m:=4) 4 dh gN fun xs aa=>?_
 match xs,aa with
 | [AR,gD,fp,qz,ahM,FO,aie,aib,aii,ah4,ahd,ahe,ahf,R1,ahg,ahh,ahi,ahj,ahk,ahl,ahm,ahn,aho,ahp,ahq,ahr,ahs,aht,ahu,ahv,ahw,ahx],_=>exact ⟨by kernel_rfl,by kernel_rfl⟩
theorem TA:(d4).eqGuardType (d4).depth 145 = false:=by kernel_rfl
theorem afC (l:List Bool):∀ y∈l.map ag.bool,mf 1 y=true:=by
 intro y ar;obtain ⟨z,-,rfl⟩:=ae'.1 ar;rfl
theorem TB (l:List Bool) (own:bM) (aE:l.length<bK):aY d4 87 [.aF 1 (l.map ag.bool) own] (.aF 1 (l.map ag.bool) .a7):=by
 have aq:=bx;refine aY.bj ah Tryz.func87 C C fun s I=>?_
 refine cX ?_;refine ab.op C C C (aX.Bu ah C C C C (X:=fun _ _=>False)) ?_ (fun _ _ h=>False.elim h);rintro r an ⟨rfl,⟨rfl,av⟩|rfl⟩
 ·refine bd ?_
  refine Fin.cZ I C ?_;rw [av];exact aR.empty
 ·refine bd ?_
  refine ab.y9 ah C C C C C C C dB C C C (.inl C) (.inr C) C (afC _) (by simp only [ai9,aj8,f6];show _*1≤_;omega) Bd (.inr C) ?_;refine eB ?_;exact b2 I
def pI (t:en):ag := .agg [.aF 1 (t.hk.map ag.bool) .a7,.aF 1 (t.runs.map ag.bool) .a7]
theorem afD {t:en} {n:Nat} (U:t.hk.length=n) (ad:t.runs.length=n) (av:n≤16):((eb t.iI).drop 0).take n=t.hk.map ag.bool∧((eb t.iI).drop 16).take n=t.runs.map ag.bool:=by
 unfold eb bq.jK;have bT:=QR (l:=t.hk) ak;have bI:=QR (l:=t.runs) ak;rw [U] at bT;rw [ad] at bI;rw [List.drop_zero,← ay8,← at2,← at2,List.take_append_of_le_length (by rw [bq.qh];exact av),List.drop_left' (bq.qh _)];exact ⟨ak5 _ bT,ak5 _ bI⟩
theorem afE (p:aU):eb (kJ p).iI=eb bq.no:=by
 refine Tj (fun m _=>?_) (fun m _=>?_)
 all_goals
  simp only [en.iI,kJ,bq.no];rw [d9,as2];split<;>rfl
theorem Gh (l:List Bool):(l.map ag.bool).all eZ=true:=by
 rw [ai4];intro x aa;obtain ⟨z,-,rfl⟩:=ae'.1 aa;rfl
theorem TC (p:aU) (aB:e3 p) (bu:cS p=true):aY d4 30 [cQ p] (.bW [pI (qg p),.int .i64 0]):=by
 have aq:=bx;have q5:=(r2 bu).1;have bf:=z7 p aB bu;have aI:=fun mb=>Tt p aB bu mb
 have dt:(pA p).length<bK:=by
  have U:=K7 p p.nodes.length;have ad:=aB.nodes;show (mM p p.nodes.length).length<bK;omega
 obtain ⟨T,dR⟩:∃ T:Nat→en,∀ k,T k=iX p k (kJ p):=⟨_,fun _=>rfl⟩;have Gi:∀ k,iY p (T k)=true:=fun k=>by rw [dR];exact Ch p k _ (Fl p)
 have K9:∀ k,T (k+1)=ic p (T k):=fun k=>by rw [dR,dR,Jz]
 have kd:=fun k=>Tl (T k).iI (pA p) dt (Ts bu)
 have kd:∀ k,aY d4 86 [.agg (eb (T k).iI),yz (pA p)] (.agg (eb (T (k+1)).iI)):=fun k=>by
  have:=kd k;rw [QT (Gi k),← K9] at this;exact this
 have pF:iY p (qg p)=true:=Ch p _ _ (Fl p);unfold iY at pF;simp only [d6,f5] at pF;obtain ⟨eD,fh⟩:=afD pF.1 pF.2 q5;have jI:(p.methods.map hE).length=p.methods.length:=f6 _;rw [← jI] at eD fh;have cx:=TB (qg p).hk .a7 ak;have cE:=TB (qg p).runs .a7 ak;refine aY.bj ah Tryz.func30 C C fun s I=>?_
 unfold cQ at *;unfold cj at bf ⊢;unfold yz at *
 repeat (first|(with_reducible first|apply af.seq|apply af.block)|refine af.cv ?_)
 refine cq C ?_;refine ab.c3 ah I C C C C C C C (fun pH I=>?_);refine iR ?_;refine ab.bL rfl rfl rfl rfl rfl bf I .nil ?_ (fun _ _ ⟨_,h,_⟩ _=>by cases h);rintro _ _ ⟨mb,⟨⟩,rfl⟩ I;unfold gK at I ⊢;simp only [d5,d0] at I ⊢;refine bd ?_;refine ab.bL C C C C C (aI mb) I (by unfold gK;exact a') ?_ (fun _ _ ⟨h,_⟩ _=>by cases h);rintro _ _ ⟨⟨⟩,rfl⟩ I;unfold gK at I ⊢;simp only [d5,d0] at I ⊢
 repeat (first|(refine W4 ?_)|refine ab.c3 ah I C C C C C C C (fun cu I=>?_))
 obtain ⟨eN,Ew⟩:∃ b,b=cu:=⟨_,rfl⟩;rw [← Ew] at I ⊢;have K8:eb (T 0).iI=eb bq.no:=by rw [dR];exact afE p
 refine af.cc [1,2,6,7] C I (σ:=Nat) (fun _=>[]) (fun k=>[(.own eN,.box 145 (eb (T k).iI)),(.own pH,.box 45 [.aF 0 [] .nil,.aF 0 [] .nil])]) (fun k=>k≤2*p.methods.length+1) (fun k=>2*p.methods.length+1-k) 0 (g9 _) (cy C) (by rw [K8];exact a') ?_;rintro k ax I
 try simp only at ax I ⊢
 have Gb:=kd k;refine jR ?_;refine af.cv ?_;refine ab.dY ah I C C C C C C aO (sm C C _) ?_;refine cq C ?_;refine ab.eT C C C C C Gb ?_;refine ab.vj ah C C C C C C C (fun _=>rfl) C C (fun _=>rfl) C C C C ?_;refine ab.nil ?_;refine sP ?_;refine af.cv ?_;refine ab.op C C C (aX.zl ah C C C (sm C C _)) ?_ (fun _ _ h=>h.elim);rintro x an ⟨rfl,rfl⟩;refine ab.dY ah I C C C C C C aO (sm C C _) ?_;refine ab.F9 (xs:=(T (k+1)).iI.jK) (ys:=(T k).iI.jK) Tz TA C C C C C C (bq.Ci _) (bq.Ci _) ?_;rw [QQ q5 (Gi (k+1)) (Gi k),K9 k];refine ab.nil ?_;refine sP ?_;refine af.cond C (fun h=>?_) (fun h=>?_);rotate_left
 ·have cN:ic p (T k)≠T k:=by simpa using h
  have afF:=JE (p:=p) k (by rw [← dR];exact cN);have jL:=QM (Gi k);rw [← dR] at afF;rw [← K9 k];refine jR ?_;refine af.cv ?_;refine ab.op C C C (aX.zl ah C C C (sm C C _)) ?_ (fun _ _ h=>h.elim);rintro x an ⟨rfl,rfl⟩;refine ab.lv ah I _ C C C C C C C C C aO (by rw [nt,nt];exact t7 _) (Ao _ _) (fun I=>?_);refine eF ?_;exact bA.mk (k+1) I (by show k+1≤2*p.methods.length+1;omega) (cy C) a' (by show 2*p.methods.length+1-(k+1)<2*p.methods.length+1-k;omega)
 have afG:ic p (T k)=T k:=by simpa using h
 have afH:T k=qg p:=by
  rw [dR];exact JF (by rw [← dR];exact afG)
 rw [afH] at I ⊢;refine jR ?_;refine af.im I 7 _ C aO (fun I=>?_);refine af.cv ?_
 repeat (first|refine cq C ?_|refine ab.nil ?_)
 refine sP ?_;refine af.tT ah mixed C ?_;refine kV ?_;refine aS.Gg ah (p.methods.map hE).length C C C C C C C C C C (by rw [jI];exact q5) (by rw [nt];omega) (by rw [eD];exact Gh _) ak ?_;rw [eD];refine kU ?_;refine aS.Gg ah (p.methods.map hE).length C C C C C C C C C C (by rw [jI];exact q5) (by rw [nt];show 16+_≤32;omega) (by rw [fh];exact Gh _) ak ?_;rw [fh];refine sN I ?_;intro I;refine eB ?_;exact Fin.cZ I (sR C C (bm.get aO I) C C) aH
theorem afI (p:aU) (m:Int) (hm:hG p m):cY d4 (.func 72 [] [.bl (cj p) 0]) [ba m] (.bool (decide (tf p m=1))):=by
 have aq:=bx;refine cY.ey (first:=[]) (cap:=[.bl (cj p) 0]) ?_;refine aY.bj ah Tryz.func72 C C fun s I=>?_
 unfold hG at hm;obtain ⟨k,rfl⟩:∃ k:Nat,m=k:=⟨m.toNat,by omega⟩;obtain ⟨x,aa,bY,-,f2,-⟩:=ra (p:=p) (m:=k) ak;rw [f2];unfold hE lT at bY;unfold cj ba;refine bd ?_;exact Fin.cZ I C (aR.of_eq C)
def yB (p:aU) (l:List Int):Bool:=l.any fun m=>decide (tf p m=1)
theorem afJ (p:aU) (aB:e3 p) (x:eW) (v:Nat) (aD:Aa p x.n v=0):cY d4 (.func 70 [] [.bl (cj p) 0,.bl (h4 x) 0]) [.int .i64 (v:Int)] (.bool (!yB p (jH p x.n (dG p x.n) v))):=by
 have aq:=bx;refine cY.ey (first:=[]) (cap:=[.bl (cj p) 0,.bl (h4 x) 0]) ?_;refine aY.bj ah Tryz.func70 C C fun s I=>?_
 have yv:=Sh p aB x.n v;unfold FV at yv;rw [aD,f7 C,ai7] at yv;have Aq:=Tq aB x.n (dG p x.n) v;generalize jH p x.n (dG p x.n) v=ms at *;have my:=JO (.func 72 [] [.bl (cj p) 0]) (fun m=>decide (tf p m=1)) ms Aq.len (fun m hm=>afI p m (Aq.sc m hm));have e:(ms.any fun m=>decide (tf p m=1))=yB p ms:=rfl;rw [e] at my;unfold cQ at yv;unfold h4;unfold cj br at *;refine gw ?_;exact b2 I
theorem afK (p:aU) (l:List Int):(!(hF p l 1).isEmpty)=yB p l:=by
 unfold hF yB
 induction l with
 | nil=>rfl
 | cons m r a8=>
  rw [an1,ak'];by_cases h:tf p m=1
  ·rw [f7 fG,i6 h];rfl
  ·rw [f4 fG,M2 h,ak4];exact a8
theorem afL {p:aU} {n:Nat} {few:Bool} {vs:List Nat} (bF:(b7 p n).op=5) (aZ:few = !qe p (b7 p n).n) (aD:few=true→vs=qd p n):yh p n=(few && !(vs.map fun v:Nat=>(v:Int)).any fun v => !yB p (jH p (b7 p n).n (dG p (b7 p n).n) v.toNat)):=by
 unfold yh;rw [i6 bF,i8,← aZ];cases few with
 | false=>rfl
 | true=>
  rw [aD C,i8,i8,List.any_map];simp only [afK,Function.comp_def,ai7];rw [List.not_any_eq_all_not];simp
def uV (p:aU) (j:Nat):List ag:=((ak6 j).map (yh p)).map ag.bool
theorem afM (p:aU) (j:Nat):uV p (j+1)=uV p j++[.bool (yh p j)]:=by
 unfold uV;rw [au1,t8,t8];rfl
theorem afN (p:aU) (j:Nat):(uV p j).length=j:=by unfold uV;simp
theorem afO (p:aU) (aB:e3 p) (bu:cS p=true):aY d4 23 [cQ p] (.bW [.aF 1 (uV p p.nodes.length) .a7,.int .i64 0]):=by
  have aq:=bx;have bf:=z7 p aB bu;have a1:p.nodes.length≤120:=FD bu;have afP:=fun (x:eW) (v:Nat) aD=>afJ p aB x v aD
  refine aY.bj ah Tryz.func23 C C fun s I=>?_
  unfold cQ at *;unfold cj at bf ⊢;refine cX ?_;refine ab.bL rfl rfl rfl rfl rfl bf I .nil ?_ (fun _ _ ⟨_,h,_⟩ _=>by cases h);rintro _ _ ⟨mb,⟨⟩,rfl⟩ I;unfold gK at I ⊢;simp only [d5,d0] at I ⊢;refine bd ?_;refine af.hv I 4 1 0 fun I=>?_
  refine af.cc [1,4,19,20] C I (σ:=Nat×bM) (fun q=>[(21,.int .i64 (q.1:Int)),(6,.aF 1 (uV p q.1) q.2)]) (fun q=>[(q.2,.row 4 1 q.1),(.own mb,.map (e9 nn))]) (fun q=>q.1≤p.nodes.length) (fun q=>p.nodes.length-q.1) (0,.nil) (g9 _) ⟨⟨_,rfl,aH⟩,⟨_,rfl,aR.nil gF⟩,trivial⟩ a' ?_;rintro ⟨j,own⟩ aK I
  try simp only at aK I ⊢
  refine cl ?_;refine af.cond C (fun au=>?_) (fun aV=>?_);rotate_left
  · have aV:j=p.nodes.length:=by simp at aV;omega
    subst aV;refine fb ?_;exact Fin.cZ I C (aR.bW (.cons aR.a7 (.one aH)))
  have au:j<p.nodes.length:=by simpa using au
  obtain ⟨y,ar,cf⟩:=b' (f:=ff) au;have e:b7 p (j:Int)=y:=by unfold b7;rw [ai7,d9,ar];rfl
  have oZ:=afN p j;have has:=afM p j;obtain ⟨np,gA,FG⟩:=y;unfold ff h4 at cf;by_cases bF:np=5;rotate_left
  · have bn:yh p j=false:=by
      unfold yh;rw [e,M2 bF];rfl
    rw [bn] at has
    repeat (first|(refine vp I ?_;clear I;intro I)|refine ab.c3 ah I rfl rfl rfl rfl rfl rfl rfl (fun cu I=>?_))
    refine af.im I 8 _ C aO (fun I=>?_);refine af.cond C (fun _=>?_) (fun h=>absurd fG bF);refine cX ?_;refine ab.gn ah I C C C C C C C dB C C C C C C C C aO oZ.symm (by show (_+1)*1≤_;omega) ak (fun b1 I=>?_);refine bd ?_;exact bA.mk (j+1,.own b1) I au KM a' CP
  repeat (first|(refine vp I ?_;clear I;intro I)|refine ab.c3 ah I rfl rfl rfl rfl rfl rfl rfl (fun cu I=>?_))
  refine af.im I 8 _ C aO (fun I=>?_);refine af.cond C (fun h=>absurd bF fG) (fun _=>?_);have wR:(b7 p (j:Int)).op=5:=by rw [e];exact bF
  obtain ⟨vs,few,aD,-,yA,gm,aZ,afQ⟩:=Tp p aB bu mb j au wR;have K':=afL wR aZ afQ;rw [e] at yA K'
  try simp only at yA K'
  rw [K'] at has
  have my:=JO (.func 70 [] [.bl (cj p) 0,.bl (h4 ⟨np,gA,FG⟩) 0]) (fun v => !yB p (jH p gA (dG p gA) v.toNat)) (vs.map fun v:Nat=>(v:Int)) zM (fun m hm=>by
    obtain ⟨v,lK,rfl⟩:=ae'.1 hm
    exact afP ⟨np,gA,FG⟩ v (yA v lK).1)
  have F2:(vs.map fun v:Nat=>(v:Int)).map ba=iK vs:=by
    unfold iK;rw [ax7];rfl
  rw [F2] at my;unfold h4 cj at my;unfold gK at aD;refine fc ?_;refine ab.bL rfl rfl rfl rfl rfl aD I a' ?_ (fun _ _ ⟨h,_⟩ _=>by cases h);rintro _ _ ⟨⟨⟩,rfl⟩ I;unfold gK at I ⊢;simp only [d5,d0] at I ⊢;cases few with
  | false=>
    rw [Bool.false_and] at has;refine bd ?_;refine ab.gn ah I C C C C C C C dB C C C C C C C C aO oZ.symm (by show (_+1)*1≤_;omega) ak (fun b1 I=>?_);refine iQ ?_;exact bA.mk (j+1,.own b1) I au KM a' CP
  | true=>
    rw [i8] at has;generalize ((vs.map fun v:Nat=>(v:Int)).any fun v => !yB p (jH p gA (dG p gA) v.toNat))=res at *;refine gw ?_;refine ab.gn ah I C C C C C C C dB C C C C C C C C aO oZ.symm (by show (_+1)*1≤_;omega) ak (fun b1 I=>?_);refine iQ ?_;exact bA.mk (j+1,.own b1) I au KM a' CP
theorem afR (fv:ag) (g:ae→ae) (xs:List ae) (aE:xs.length<bK) (h:∀ x∈xs,cY d4 fv [ae.bh x] (ae.bh (g x))):aY d4 143 [.aF 6 (xs.map ae.bh) .a7,fv] (.aF 6 ((xs.map g).map ae.bh) .a7):=by
 have aq:=bx;refine aY.bj ah Tryz.func143 C C fun s I=>?_
 refine gp ?_;refine af.hv I 57 6 0 fun I=>?_
 refine af.cc [1,8,9] C I (σ:=Nat×bM) (fun q=>[(10,.int .i64 (q.1:Int)),(5,.aF 6 (((xs.take q.1).map g).map ae.bh) q.2)]) (fun q=>[(q.2,.row 57 6 (xs.take q.1).length)]) (fun q=>q.1≤xs.length) (fun q=>xs.length-q.1) (0,.nil) (g9 _) ⟨⟨_,rfl,aH⟩,⟨_,rfl,aR.nil gF⟩,trivial⟩ a' ?_;rintro ⟨j,own⟩ aK I
 try simp only at aK I ⊢
 refine cl ?_;refine af.cond C (fun au=>?_) (fun aV=>?_);rotate_left
 ·have aV:j=xs.length:=by simp at aV;omega
  subst aV;rw [ag'];refine fb ?_;exact Fin.cZ I C aR.a7
 have au:j<xs.length:=by simpa using au
 obtain ⟨x,aa,bY⟩:=b' (f:=ae.bh) au;have aD:=h x (d8 aa);have al:((xs.take (j+1)).map g).map ae.bh=((xs.take j).map g).map ae.bh++[ae.bh (g x)]:=by rw [fD aa,t8,t8];rfl
 have mh:(xs.take (j+1)).length=(xs.take j).length+1:=by rw [fD aa];simp
 have fs:(xs.take j).length≤xs.length:=by rw [ah'];omega
 rw [ae.bJ] at aD al
 try rw [ae.bJ] at aD bY
 try unfold ae.cells at aD bY
 refine ej ?_;refine ab.gn ah I C C C C C C C dB C C C C C C C C aO h' q' ak (fun b1 I=>?_);refine iQ ?_;exact bA.mk (j+1,.own b1) I au S3 (by show az _ [(_,.row _ _ (xs.take (j+1)).length)] _;rw [mh];exact a') mq
theorem afS (fv:ag) (g:gG→gG) (xs:List gG) (aE:xs.length<bK) (h:∀ x∈xs,cY d4 fv [gX x] (gX (g x))):aY d4 76 [.aF 3 (xs.map gX) .a7,fv] (.aF 3 ((xs.map g).map gX) .a7):=by
 have aq:=bx;refine aY.bj ah Tryz.func76 C C fun s I=>?_
 refine gp ?_;refine af.hv I 88 3 0 fun I=>?_
 refine af.cc [1,8,9] C I (σ:=Nat×bM) (fun q=>[(10,.int .i64 (q.1:Int)),(5,.aF 3 (((xs.take q.1).map g).map gX) q.2)]) (fun q=>[(q.2,.row 88 3 (xs.take q.1).length)]) (fun q=>q.1≤xs.length) (fun q=>xs.length-q.1) (0,.nil) (g9 _) ⟨⟨_,rfl,aH⟩,⟨_,rfl,aR.nil gF⟩,trivial⟩ a' ?_;rintro ⟨j,own⟩ aK I
 try simp only at aK I ⊢
 refine cl ?_;refine af.cond C (fun au=>?_) (fun aV=>?_);rotate_left
 ·have aV:j=xs.length:=by simp at aV;omega
  subst aV;rw [ag'];refine fb ?_;exact Fin.cZ I C aR.a7
 have au:j<xs.length:=by simpa using au
 obtain ⟨x,aa,bY⟩:=b' (f:=gX) au;have aD:=h x (d8 aa);have al:((xs.take (j+1)).map g).map gX=((xs.take j).map g).map gX++[gX (g x)]:=by rw [fD aa,t8,t8];rfl
 have mh:(xs.take (j+1)).length=(xs.take j).length+1:=by rw [fD aa];simp
 have fs:(xs.take j).length≤xs.length:=by rw [ah'];omega
 rw [gX] at aD al
 try rw [gX] at aD bY
 try unfold gX at aD bY
 refine ej ?_;refine ab.gn ah I C C C C C C C dB C C C C C C C C aO h' (by show (_+1)*72≤_;omega) ak (fun b1 I=>?_);refine iQ ?_;exact bA.mk (j+1,.own b1) I au S3 (by show az _ [(_,.row _ _ (xs.take (j+1)).length)] _;rw [mh];exact a') mq
theorem afT (l:List hD):∀ y∈l.map kB,mf 2 y=true:=by
 intro y ar;obtain ⟨z,-,rfl⟩:=ae'.1 ar;first|rfl|(rw [kB];rfl)
theorem afU (l:List hD) (own:bM) (aE:l.length<bK):aY d4 78 [.aF 2 (l.map kB) own] (.aF 2 (l.map kB) .a7):=by
 have aq:=bx;refine aY.bj ah Tryz.func78 C C fun s I=>?_
 refine cX ?_;refine ab.op C C C (aX.Bu ah C C C C (X:=fun _ _=>False)) ?_ (fun _ _ h=>False.elim h);rintro r an ⟨rfl,⟨rfl,av⟩|rfl⟩
 ·refine bd ?_
  refine Fin.cZ I C ?_;rw [av];exact aR.empty
 ·refine bd ?_
  refine ab.y9 ah C C C C C C C dB C C C (.inl C) (.inr C) C (afT _) (by simp only [ai9,aj8,f6];show _*16≤_;omega) Bd (.inr C) ?_;refine eB ?_;exact b2 I
theorem La:∀ (k:Nat) (f:ae),f.size≤k→f.size<bK→aY d4 81 [f.bh] f.bh
  | 0,f,h,_=>by have:=ae.size_eq f;omega
  | k+1,f,h,vF=>by
    have aq:=bx;have b6:=ae.size_eq f;have lR:=ae.vy f.kids;have cm:=vB f.path .a7 ak
    have afV:=afR (.func 81 [] []) (fun y=>y) f.kids ak (fun y ar=>cY.ey (first:=[]) (cap:=[]) (by
      have:=ae.hg ar
      exact La k y ak ak))
    rw [aI6] at afV;clear La;refine aY.bj ah Tryz.func81 C C fun s I=>?_
    rw [ae.bJ];unfold ae.cells;change aY _ _ [.aF 1 (f.path.map fun i=>ag.int .i64 i) .a7] (.aF 1 (f.path.map fun i=>ag.int .i64 i) .a7) at cm
    repeat (first|(with_reducible first|apply af.seq|apply af.block)|refine af.cv ?_)
    refine ab.h0 I C C C C C C (fun dL I=>?_);refine ab.c3 ah I C C C C C C C (fun pH I=>?_);refine c9 I ?_;intro I;exact Fin.cZ I (iS C C (bm.get aO I) C) aH
theorem afW (c:gG) (U:c.parents.length<bK) (ad:c.bB.length<bK) (aj:c.inits.length<bK):cY d4 (.func 77 [] []) [gX c] (gX c):=by
 have aq:=bx;refine cY.ey (first:=[]) (cap:=[]) ?_;refine aY.bj ah Tryz.func77 C C fun s I=>?_
 have cx:=vB c.parents .a7 U;have cE:=vB c.bB .a7 ad;have dz:=afU c.inits .a7 aj;unfold gX sX br at *
 repeat (first|(refine W5 ?_)|refine ab.c3 ah I C C C C C C C (fun cu I=>?_)|(refine W6 I ?_;clear I;intro I))
 exact Fin.cZ I (iS C C (bm.get aO I) C) aH
section
variable {J:ao→Prop} {P:Program} {Γ:cz} {N:Nat} {Q:b8→Env→ao→Prop} {env:Env} {s:ao} {l rest:List Oper} {o:Oper} {d i:Nat}
theorem aS.Lb (aP:bX P Γ) {t T:TypeId} {x:Operand} {eu:bQ} {b off:Nat} {cs:List ag} {v:ag} (cU:∀ an,J an→an b=some (.box T cs)) (ay:dO l env o) (aA:o.dst=some d) (a1:af' d N=true)
  (cG:o.op = .load t x) (aN:Γ.get? t=some eu) (aa:aL (cF l env o) x=some (.ptr b off)) (aD:hB eu cs off=some v) (h:aS J P Γ N l (i+1) rest Q ((d,v)::env) s):aS J P Γ N l i (o::rest) Q env s:=
 aS.calm ay aA a1 (fun an aK=>aX.u9 aP cG aN aa (cU an aK) aD) h
theorem af.afX (J:ao→Prop) {L:a6} (aK:J (aT s L)) (aP:bX P Γ) (hm:P.follows .mixedOrders=true) {id:Nat} (dr:rC l.toArray=true) (h:aS J P Γ N l 0 l Q env (aT s L)):af P N (.region id l.toArray true) Q env (aT s L):=
 af.sK _ aP hm dr (h dr C aK)
end
abbrev uW:=Option (Nat×Nat×List ag)
def qo:uW→Nat→ag
 | none,_ => .aF 0 [] .nil
 | some (g,cap,_),k=>dv g k cap
def qp:uW→a6
 | none=>[]
 | some (g,_,cs)=>[(.own g,.box 62 cs)]
def iZ:uW→Nat→List ag→Prop
 | none,k,r=>k=0∧r=[]
 | some (_,cap,cs),k,r=>cs.length=cap*3∧k≤cap∧cs.take (k*3)=r
structure Ar where
 CM:ag
 cx:ag
 cE:ag
 dz:ag
 r4:ag
 Lc:ag
def nw (x:Ar) (v:ag):List ag:=[x.CM,x.cx,x.cE,x.dz,v,x.r4,x.Lc]
def nx (gk:Nat) (x:Ar) (k8:uW) (k:Nat):a6:=(.own gk,.box 128 (nw x (qo k8 k)))::qp k8
def wD (o n:Int):List ag:=[.int .i64 o,.int .i64 n,.aF 0 [] .nil]
theorem TD (gk:Nat) (x:Ar) (k8:uW) (k:Nat) (r:List ag) (vY:iZ k8 k r) (ax:k<1000000) (o n:Int) :
  bs d4 80 [.ptr gk 0,.agg (wD o n)] (nx gk x k8 k) (fun out K=>out = .ret (.int .i64 (k:Int))∧∃ g cap cs,iZ (some (g,cap,cs)) (k+1) (r++wD o n)∧K=nx gk x (some (g,cap,cs)) (k+1)):=by
 have aq:=bx;have lV:IntKind.wrap .i64 (((k+1:Nat):Int)-1)=(k:Int):=by rw [show ((k+1:Nat):Int)-1=(k:Int) by omega];exact hf ak ak
 cases k8 with
 | none=>
  obtain ⟨rfl,rfl⟩:=vY;refine bs.bj ah Tryz.func80 C C fun s I=>?_
  simp only [nx,nw,qo,qp,wD] at I ⊢
  repeat (first|(with_reducible first|apply af.seq|apply af.block)|refine af.cv ?_|refine cq C ?_|refine ab.nil ?_|with_reducible apply cg)
  refine af.m7 I gk aO ah mixed C ?_;refine kU ?_;refine aS.oz rfl rfl rfl rfl (aX.yj ah I rfl rfl rfl rfl dB rfl rfl rfl rfl rfl rfl rfl dh (X:=fun _ _=>False)) (fun x an h=>by obtain ⟨_,_,_,_,U,ad,_⟩:=h;subst U;exact bm.get aO ad) ?_ (fun _ _ h=>h.elim);rintro _ _ ⟨g,cap,cs,rfl,rfl,I,cx,cE,dz⟩;refine sN I ?_;intro I;refine jB I ?_;intro I;refine ab.oy ah C C C C C C C ?_;refine eB ?_;exact Fin.bz I C (aR.of_eq (ak5 _ lV)) a' ⟨rfl,g,cap,cs,⟨cx,cE,dz⟩,rfl⟩
 | some z=>
  obtain ⟨g0,wj,uH⟩:=z;obtain ⟨eD,fh,gv⟩:=vY;refine bs.bj ah Tryz.func80 C C fun s I=>?_
  simp only [nx,nw,qo,qp,wD] at I ⊢
  repeat (first|(with_reducible first|apply af.seq|apply af.block)|refine af.cv ?_|refine cq C ?_|refine ab.nil ?_|with_reducible apply cg)
  refine af.m7 I gk aO ah mixed C ?_;refine kU ?_;refine aS.oz C C C C (aX.uF ah I C C C C dB C C C C aO eD fh C C C C (by show (k+1)*40≤_;omega) ak (X:=fun _ _=>False)) (fun x an h=>by obtain ⟨_,_,_,_,U,ad,_⟩:=h;subst U;exact bm.get aO ad) ?_ (fun _ _ h=>h.elim);rintro _ _ ⟨g,cap,cs,rfl,rfl,I,cx,cE,dz⟩;rw [gv] at dz;refine sN I ?_;intro I;refine jB I ?_;intro I;refine ab.oy ah C C C C C C C ?_;refine eB ?_;exact Fin.bz I C (aR.of_eq (ak5 _ lV)) a' ⟨rfl,g,cap,cs,⟨cx,cE,dz⟩,rfl⟩
theorem TE (g:Int→Nat):∀ (l:List Int) (b:Nat) (y:Int),q6 g b (l++[y])=q6 g b l++[((b+(l.map g).sum:Nat):Int)]
  | [],b,y=>by simp [q6]
  | x::l,b,y=>by
    rw [d5,q6,q6,TE g l (b+g x) y,ai2,aA5,d5,at1]
theorem TF (h:Int→Nat→List eW) (g:Int→Nat):∀ (l:List Int) (b:Nat) (y:Int),q7 h g b (l++[y])=q7 h g b l++h y (b+(l.map g).sum)
  | [],b,y=>by simp [q7]
  | x::l,b,y=>by
    rw [d5,q7,q7,TF h g l (b+g x) y,ai2,aA5,aj0,at1]
theorem TG (g:Int→Nat):∀ (l:List Int) (b:Nat),(q6 g b l).length=l.length
 | [],b=>rfl
 | x::l,b=>by rw [q6,i9,i9,TG g l]
def l4 (l:List eW):List ag:=(l.map h4).flatten
theorem afY (l:List eW):(l4 l).length=l.length*3:=by
 unfold l4;rw [List.length_flatten,ax7];have:(l.map (List.length ∘ h4))=ai0 l.length 3:=by
  rw [List.eq_replicate_iff];refine ⟨f6 _,fun x aa=>?_⟩;obtain ⟨y,-,rfl⟩:=ae'.1 aa;rfl
 rw [this,List.sum_replicate_nat]
theorem iZ.len {k8:uW} {k:Nat} {r:List ag} (h:iZ k8 k r):r.length=k*3:=by
 cases k8 with
 | none=>obtain ⟨rfl,rfl⟩:=h;rfl
 | some z=>
  obtain ⟨g,cap,cs⟩:=z;obtain ⟨U,ad,aj⟩:=h;have bk:k*3≤cap*3:=ao8 _ ad;rw [← aj,ah'];omega
theorem iZ.get {g cap k:Nat} {cs a b:List ag} {u:ag} (h:iZ (some (g,cap,cs)) k (a++u::b)) {i:Nat} (aQ:i=a.length):cs[i]? = some u∧i<cs.length:=by
 subst aQ;have aE:=h.len;obtain ⟨U,ad,aj⟩:=h;rw [f0,i9] at aE;have bk:k*3≤cap*3:=ao8 _ ad;have e:(cs.take (k*3))[a.length]? = some u:=by rw [aj,ak0 (t7 _),aw3];rfl
 rw [al',f7 ak] at e;exact ⟨e,by omega⟩
theorem iZ.set {g cap k:Nat} {cs a b:List ag} {u:ag} (h:iZ (some (g,cap,cs)) k (a++u::b)) {i:Nat} (aQ:i=a.length) (v:ag):iZ (some (g,cap,cs.set i v)) k (a++v::b):=by
 subst aQ;obtain ⟨U,ad,aj⟩:=h;refine ⟨by rw [List.length_set,U],ad,?_⟩;rw [List.take_set,aj,ap0 _ _ (t7 _),aw3,ax3]
theorem b5.Ld {cs:List ag} {i:Nat} {u v:ag} (h:cs[i]? = some u) (aD:aR u v):b5 cs (cs.set i v):=by
 obtain ⟨aQ,rfl⟩:=List.getElem?_eq_some_iff.1 h;have:=b5.JX (i:=i) (b5.refl cs) aD;rwa [List.set_getElem_self] at this
def pJ (p:aU) (dI gk:Nat):ag := .func 79 [] [.bl (cj p) 0,.bl [.ptr gk 0] 0,.ptr dI 0]
def ny (p:aU) (dI gk:Nat) (x:Ar) (k8:uW) (k:Nat):a6:=(.own dI,.box 135 [pJ p dI gk])::nx gk x k8 k
def rj (r:List ag) (o n:Int) (ps:ag) (l:List eW):List ag:=(r++[.int .i64 o,.int .i64 n])++ps::l4 l
theorem TH (r:List ag) (o n:Int):r++wD o n=rj r o n (.aF 0 [] .nil) []:=by unfold rj wD l4;simp
theorem TI (r:List ag) (o n:Int) (ks:List Int) (l:List eW):rj r o n (br ks) l=r++l4 (⟨o,n,ks⟩::l):=by unfold rj l4 h4;simp
theorem afZ (r:List ag) (o n:Int) (ps:ag) (l m:List eW):rj r o n ps l++l4 m=rj r o n ps (l++m):=by unfold rj l4;simp
theorem Gj (p:aU) (aB:e3 p) (dI gk:Nat) (x:Ar):∀ (f:Nat) (n:Int),eY p f n=true→∀ (k8:uW) (k:Nat) (r:List ag),iZ k8 k r→k+ie p f n<1000000 →
    df d4 (pJ p dI gk) [.int .i64 n] (ny p dI gk x k8 k) (fun o K=>o = .ret (.int .i64 (k:Int))∧∃ TJ,iZ TJ (k+ie p f n) (r++l4 (qi p f n k))∧K=ny p dI gk x TJ (k+ie p f n))
  | 0,n,h,_,_,_,_,_=>by rw [eY] at h;cases h
  | f+1,n,h,k8,k,r,vY,ax=>by
    have aq:=bx;have a8:=Gj p aB dI gk x f;clear Gj;have er:=h;rw [eY,d6,ai4] at h;obtain ⟨av,lR⟩:=h;have b6:=JK (p:=p) (f:=f) av;rw [b6] at ax ⊢;rw [qi];unfold fw at av;simp only [d6,f5] at av;obtain ⟨i,rfl⟩:∃ i:Nat,n=i:=⟨n.toNat,by omega⟩;obtain ⟨y,ar,cf⟩:=b' (f:=ff) (l:=p.nodes) (j:=i) ak;have e:b7 p (i:Int)=y:=by unfold b7;rw [ai7,d9,ar];rfl
    have pe:=aB.kids _ (d8 ar);rw [e] at lR ax ⊢;obtain ⟨np,gA,ys⟩:=y
    try simp only at lR ax pe ⊢
    have As:=TD gk x k8 k r vY ak np gA;have hc:=vY.len;refine df.ey (first:=[]) (cap:=[.bl (cj p) 0,.bl [.ptr gk 0] 0,.ptr dI 0]) ?_;refine bs.bj ah Tryz.func79 C C fun s I=>?_
    unfold ff h4 br at cf;unfold wD at As;unfold ny pJ at I;unfold cj at I ⊢;refine ej ?_;refine ab.bL rfl rfl rfl rfl rfl As I (az.there (az.all _)) ?_ (fun _ _ ⟨h,_⟩ _=>by cases h);rintro _ _ ⟨⟨⟩,g0,wj,uH,Gk,rfl⟩ I;have Gk:iZ (some (g0,wj,uH)) (k+1) (rj r np gA (.aF 0 [] .nil) []):=by rw [← TH];exact Gk
    have kL:k*3+2=(r++[ag.int .i64 np,ag.int .i64 gA]).length:=by rw [f0,hc];rfl
    have af0:=iZ.get (i:=k*3+2) Gk kL;have af1:iZ (some (g0,wj,uH.set (k*3+2) (.aF 1 [] .nil))) (k+1) (rj r np gA (.aF 1 [] .nil) []):=iZ.set Gk kL _;simp only [nx,nw,qo,qp,d5,d0] at I ⊢;refine bd ?_;refine af.ig I (uH.set (k*3+2) (.aF 1 [] .nil)) (kb:=g0) aO (b5.Ld af0.1 (aR.nil gF)) (fun I=>?_);refine af.hv I 3 1 0 fun I=>?_
    obtain ⟨M,e2⟩:∃ M:Nat→Nat,∀ j,M j=k+1+((ys.take j).map (ie p f)).sum:=⟨_,fun _=>rfl⟩;obtain ⟨j',CW⟩:∃ j':Nat→List Int,∀ j,j' j=q6 (ie p f) (k+1) (ys.take j):=⟨_,fun _=>rfl⟩;obtain ⟨D,fI⟩:∃ D:Nat→List eW,∀ j,D j=q7 (qi p f) (ie p f) (k+1) (ys.take j):=⟨_,fun _=>rfl⟩;have TK:M 0=k+1:=by rw [e2];rfl
    have TL:j' 0=[]:=by rw [CW];rfl
    have af2:D 0=[]:=by rw [fI];rfl
    have TM:M ys.length=k+(1+(ys.map (ie p f)).sum):=by rw [e2,ag'];omega
    have af3:∀ j,(j' j).length≤j:=fun j=>by rw [CW,TG,ah'];omega
    have af4:∀ j,M j≤M ys.length:=fun j=>by
      rw [e2,e2,ag'];have U:((ys.take j).map (ie p f)).sum+((ys.drop j).map (ie p f)).sum=(ys.map (ie p f)).sum:=by
        rw [← aD2,← t8,List.take_append_drop]
      omega
    refine af.cc [1,2,3,7,24,25] C I (σ:=Nat×(Nat×Nat×List ag)×bM) (fun q=>[(26,.int .i64 (q.1:Int))]) (fun q=>[(.own dI,.box 135 [pJ p dI gk]),(.own gk,.box 128 [x.CM,x.cx,x.cE,x.dz,dv q.2.1.1 (M q.1) q.2.1.2.1,x.r4,x.Lc]),(.own q.2.1.1,.box 62 q.2.1.2.2),(q.2.2,.row 3 1 (j' q.1).length)])
      (fun q=>q.1≤ys.length∧iZ (some q.2.1) (M q.1) (rj r np gA (.aF 1 ((j' q.1).map ba) q.2.2) (D q.1))) (fun q=>ys.length-q.1) (0,(g0,wj,uH.set (k*3+2) (.aF 1 [] .nil)),.nil) ⟨g9 _,by show iZ _ (M 0) (rj r np gA (.aF 1 ((j' 0).map ba) _) (D 0));rw [TK,TL,af2];exact af1⟩ (cy C) (by show az _ [_,(_,.box _ [_,_,_,_,dv _ (M 0) _,_,_]),_,(_,.row _ _ (j' 0).length)] _;rw [TK,TL];unfold pJ cj;exact a') ?_
    rintro ⟨j,⟨g,cap,cs⟩,own⟩ ⟨aK,aG⟩ I
    try simp only at aK aG I ⊢
    have rq:=iZ.get (i:=k*3+2) aG kL;unfold pJ cj at I ⊢;refine cl ?_;refine af.cond C (fun au=>?_) (fun aV=>?_);rotate_left
    · have aV:j=ys.length:=by simp at aV;omega
      subst aV;have so:=iZ.set (i:=k*3+2) aG kL (br (j' ys.length));have pL:iZ (some (g,cap,cs.set (k*3+2) (br (j' ys.length)))) (k+(1+(ys.map (ie p f)).sum)) (r++l4 (⟨np,gA,q6 (ie p f) (k+1) ys⟩::q7 (qi p f) (ie p f) (k+1) ys)):=by
        rw [← TI,← TM];have bT:q6 (ie p f) (k+1) ys=j' ys.length:=by rw [CW,ag']
        have bI:q7 (qi p f) (ie p f) (k+1) ys=D ys.length:=by rw [fI,ag']
        rw [bT,bI];exact so
      rw [TM] at I ⊢;refine af.ig I (cs.set (k*3+2) (br (j' ys.length))) (kb:=g) aO (b5.Ld rq.1 aR.a7) (fun I=>?_);refine fb ?_;exact Fin.bz (K:=ny p dI gk x (some (g,cap,cs.set (k*3+2) (br (j' ys.length)))) (k+(1+(ys.map (ie p f)).sum))) I C aH (by unfold ny pJ cj;simp only [nx,nw,qo,qp];exact a') ⟨rfl,_,pL,rfl⟩
    have au:j<ys.length:=by simpa using au
    obtain ⟨Gl,jy,af5⟩:=b' (f:=ba) au;have af6:M (j+1)=M j+ie p f Gl:=by rw [e2,e2,fD jy,t8,aD2];simp;omega
    have TN:j' (j+1)=j' j++[(M j:Int)]:=by rw [CW,CW,fD jy,TE,e2]
    have af7:D (j+1)=D j++qi p f Gl (M j):=by rw [fI,fI,fD jy,TF,e2]
    have ahy:=af4 (j+1);have ahz:=af3 j;have cw:=a8 Gl (lR Gl (d8 jy)) (some (g,cap,cs)) (M j) _ aG ak;rw [afZ,← af7,← af6] at cw;unfold ny pJ cj at cw;simp only [nx,nw,qo,qp] at cw;unfold ba at af5;refine jB I ?_;intro I;refine ab.e0 rfl rfl rfl rfl rfl rfl cw I a' ?_ (fun _ _ ⟨h,_⟩ _=>by cases h);rintro _ _ ⟨⟨⟩,CX,n5,rfl⟩ I;cases CX with
    | none=>
      have:=n5.1;have:=e2 (j+1);omega
    | some z=>
    obtain ⟨g2,iz,hV⟩:=z;simp only [nx,nw,qo,qp,d5,d0] at I ⊢;have TO:=iZ.get (i:=k*3+2) n5 kL;have af8:=fun wA=>iZ.set (i:=k*3+2) n5 kL (.aF 1 ((j' (j+1)).map ba) wA)
    have TP:k<M (j+1):=by rw [e2];omega
    have Gm:(j' (j+1)).map ba=(j' j).map ba++[.int .i64 (M j:Int)]:=by rw [TN,t8];rfl
    have h8:(j' (j+1)).length=(j' j).length+1:=by rw [TN,f0];rfl
    repeat (first|(with_reducible first|apply af.seq|apply cg)|refine ab.nil ?_|refine cq C ?_)
    refine af.afX (fun an=>an gk=some (.box 128 [x.CM,x.cx,x.cE,x.dz,dv g2 (M (j+1)) iz,x.r4,x.Lc])∧an g2=some (.box 62 hV)) ⟨bm.get aO I,bm.get aO I⟩ ah mixed C ?_;refine kV ?_;refine aS.Lb ah (fun _ h=>h.1) C C C C C C C ?_;refine kV ?_;refine aS.Lb ah (fun _ h=>h.1) C C C C C C C ?_;refine kV ?_;refine aS.lq ah k C C C C C C C C C C TP ?_;refine kV ?_;refine aS.Lb ah (fun _ h=>h.2) C C C C C C (H6 C TO.1) ?_;refine kV ?_;refine aS.oz rfl rfl rfl rfl (aX.lN ah I rfl rfl rfl rfl dB rfl rfl rfl rfl (.inr rfl) rfl Ad KN Ac (f6 _).symm (n':=(j' j).length+1) x' rfl aO (X:=fun _ _=>False)) (fun l7 an h=>by obtain ⟨_,_,_,_,U,ad⟩:=h;subst U;exact ⟨bm.get aO ad,bm.get aO ad⟩) ?_ (fun _ _ h=>h.elim);rintro _ _ ⟨wA,-,-,rfl,rfl,I⟩;rw [← Gm];skip;refine aS.lq ah k C C C C C C C C C C TP ?_;refine kV ?_;refine aS.lv ah I (hV.set (k*3+2) (.aF 1 ((j' (j+1)).map ba) wA)) C C C C C C C C C C aO (by show k*3+2+1≤_;exact TO.2) ue (fun I=>?_);refine eF ?_;exact bA.mk (j+1,(g2,iz,hV.set (k*3+2) (.aF 1 ((j' (j+1)).map ba) wA)),wA) I ⟨au,af8 wA⟩ ct (by show az _ [_,_,_,(_,.row _ _ (j' (j+1)).length)] _;rw [h8];exact a') JU
theorem TQ {l:List Bool} (h:l.length≤16):bq.row (fun m=>l.getD m false)=l++ai0 (16-l.length) false:=by
 refine List.ext_getElem? fun i=>?_
 by_cases aQ:i<16
 ·rw [bq.zV aQ]
  by_cases ad:i<l.length
  ·rw [List.getElem?_append_left ad,d9,f8 ad];rfl
  ·rw [ak0 ak,getD_none ak,as2,f7 ak]
 ·rw [am9 (by rw [bq.qh];omega),am9 (by rw [f0,am3];omega)]
theorem TR:bq.row (fun _=>false)=ai0 16 false:=rfl
theorem af9 {l:List Bool} (h:l.length≤16) (r:Nat→Bool):(eb ⟨fun _=>false,r⟩).take 0++l.map ag.bool++(eb ⟨fun _=>false,r⟩).drop (0+(l.map ag.bool).length)=eb ⟨fun m=>l.getD m false,r⟩:=by
 unfold eb bq.jK;simp only;rw [TQ h,TR,an7,d0,f6,aj8,← ay8,← t8,List.drop_append_of_le_length (by rw [am3];exact h),aw',aj0]
theorem aga {l:List Bool} (h:l.length≤16) (a:Nat→Bool):(eb ⟨a,fun _=>false⟩).take 16++l.map ag.bool++(eb ⟨a,fun _=>false⟩).drop (16+(l.map ag.bool).length)=eb ⟨a,fun m=>l.getD m false⟩:=by
 unfold eb bq.jK;simp only;have aE:(bq.row a).length=16:=bq.qh a;rw [TQ h,TR,f6,← at2,← ay8,← t8,← t8,ao9 aE,List.drop_append,aE,Nat.add_sub_cancel_left,List.drop_eq_nil_of_le (by rw [aE];omega),d0,aw',aj0]
theorem TS (p:aU) (aB:e3 p) (bu:cS p=true) (t:en) (aN:iY p t=true) :
  bs d4 74 [cQ p,pI t] [] (fun o K=>∃ mb,o = .ret (.bW [.bl (gR p (l3 p) mb) 0,.bool (zT p t),.int .i64 0])∧K=gK mb):=by
 have aq:=bx;have q5:=(r2 bu).1;have bf:=z7 p aB bu;have aI:=fun mb=>Tt p aB bu mb
 have dt:(pA p).length<bK:=by
  have U:=K7 p p.nodes.length;have ad:=aB.nodes;show (mM p p.nodes.length).length<bK;omega
 have kd:=Tl t.iI (pA p) dt (Ts bu);rw [QT aN] at kd;have lg:=aN;unfold iY at lg;simp only [d6,f5] at lg;obtain ⟨Le,cp⟩:=lg;have bT:=af9 (l:=t.hk) ak (fun _=>false);have bI:=aga (l:=t.runs) ak (fun m=>t.hk.getD m false);have heq:(eb ⟨fun m=>t.hk.getD m false,fun m=>t.runs.getD m false⟩)=eb t.iI:=rfl;rw [heq] at bI;have jI:(p.methods.map hE).length=p.methods.length:=f6 _;refine bs.bj ah Tryz.func74 C C fun s I=>?_
 unfold cQ pI at *;unfold cj at bf ⊢;unfold yz at *;refine cX ?_;refine ab.bL rfl rfl rfl rfl rfl bf I .nil ?_ (fun _ _ ⟨_,h,_⟩ _=>by cases h);rintro _ _ ⟨mb,⟨⟩,rfl⟩ I;unfold gK at I ⊢;simp only [d5,d0] at I ⊢;refine iR ?_;refine ab.eP 26 C ez ?_;refine jQ ?_;refine af.cond C (fun h=>by simp at h;omega) (fun _=>?_);refine jR ?_;refine af.cv ?_;refine ab.c3 ah I C C C C C C C (fun eN I=>?_);refine ab.nil ?_;refine sP ?_;refine af.ig I (eb ⟨fun _=>false,fun _=>false⟩) (kb:=eN) aO (b5.refl _) (fun I=>?_);refine af.lO ah mixed C ?_;refine kV ?_;refine aS.Gf ah C C C C C C C C ?_;refine kV ?_;refine aS.last C C C C (aX.Ty ah I C C C C C C aO C C (Gh _) zM (by rw [f6,nt];omega) (X:=fun _ _=>False)) ?_ (fun _ _ h=>h.elim);rintro _ _ ⟨rfl,rfl,I⟩;rw [bT] at I ⊢;refine sP ?_;refine af.lO ah mixed C ?_;refine kV ?_;refine aS.Gf ah C C C C C C C C ?_;refine kV ?_;refine aS.last C C C C (aX.Ty ah I C C C C C C aO C C (Gh _) zM (by rw [f6,nt];omega) (X:=fun _ _=>False)) ?_ (fun _ _ h=>h.elim);rintro _ _ ⟨rfl,rfl,I⟩;rw [bI] at I ⊢;refine sP ?_;refine af.im I 9 _ C aO (fun I=>?_);refine af.oW ah mixed C ?_;refine bb.pure 0 C C C C C (.a C) ?_;refine bb.calm (i:=1) C C C C C (fun _=>aX.zl ah C C C (sm C C _)) ?_;refine bb.pure 2 C C C C C (.a C) ?_;refine bb.calm (i:=5) C C C C C (fun _=>aX.zl ah C C C (sm C C _)) ?_;refine bb.one (i:=3) C C C C C (aX.bL C C (aI mb) I (by unfold gK;exact a')) ?_ (fun _ _ h=>by obtain ⟨_,_,_,h,_⟩:=h;cases h);rintro _ _ ⟨aM,rfl,I,⟨⟨⟩,rfl⟩⟩;refine bb.WE (i:=4) C C C C C C C kd ?_;refine bb.calm (i:=6) C C C C C (fun _=>aX.F9 (xs:=(ic p t).iI.jK) (ys:=t.iI.jK) Tz TA C C C (bq.Ci _) (bq.Ci _)) ?_;rw [QQ q5 (JC p t) aN];refine bb.run C (bb.done C ?_);refine jR ?_;exact Fin.bz I C aH (az.all _) ⟨mb,rfl,by simp [gK]⟩
theorem Lf (p:aU) (t:en):∀ (k m:Nat) (a:List hh×List eW×List Int),mJ p t (k+1) m a=(if t.hk.getD (m+k) false then
      ((mJ p t k m a).1++[⟨(p.methods.getD (m+k) default).kind,(p.methods.getD (m+k) default).gen,(p.methods.getD (m+k) default).fact,((mJ p t k m a).2.1.length:Int)⟩],(mJ p t k m a).2.1++tl p t (m+k) (mJ p t k m a).2.1.length,(mJ p t k m a).2.2++[((m+k:Nat):Int)])
    else mJ p t k m a)
  | 0,m,a=>by
    rw [mJ];simp only [mJ,as8]
  | k+1,m,a=>by
    rw [mJ];split
    · rename_i h
      rw [Lf p t k (m+1)];rw [show m+1+k=m+(k+1) by omega];rw [show mJ p t (k+1) m a=_ from by rw [mJ,f7 h]]
    · rename_i h
      rw [Lf p t k (m+1)];rw [show m+1+k=m+(k+1) by omega];rw [show mJ p t (k+1) m a=_ from by rw [mJ,f4 h]]
def qq (p:aU) (t:en) (j:Nat):List hh×List eW×List Int:=mJ p t j 0 ([],[],[])
theorem TT (p:aU) (t:en) (j:Nat):qq p t (j+1)=(if t.hk.getD j false then
   ((qq p t j).1++[⟨(p.methods.getD j default).kind,(p.methods.getD j default).gen,(p.methods.getD j default).fact,((qq p t j).2.1.length:Int)⟩],(qq p t j).2.1++tl p t j (qq p t j).2.1.length,(qq p t j).2.2++[(j:Int)])
  else qq p t j):=by
 unfold qq;rw [Lf,aj8]
theorem Lg {p:aU} (bu:cS p=true) {n:Int} (av:n∈mI p):ie p 12 n≤120:=by
 have aq:=tg bu;have a1:p.nodes.length≤120:=FD bu;unfold ie;have eK:(fU p 12 n).Nodup:=by
  have h:=aq.nodup;obtain ⟨a,b,kC⟩:=List.append_of_mem av;rw [kC,List.flatMap_append,List.flatMap_cons] at h;exact (an'.1 (an'.1 h).2.1).1
 have gC:fU p 12 n ⊆ (ak6 p.nodes.length).map fun i:Nat=>(i:Int):=fun k ax=>by
  have:=aq.sc k (aq5.2 ⟨n,av,ax⟩);unfold fw at this;simp only [d6,f5] at this;exact ae'.2 ⟨k.toNat,List.mem_range.2 ak,by omega⟩
 have:=eK.length_le_of_subset gC;rw [f6,aq0] at this;omega
theorem TU {p:aU} {j:Nat} {x:hh} (aa:p.methods[j]? = some x):x.node∈mI p:=by
 unfold mI;exact al3 _ (ae'.2 ⟨x,d8 aa,rfl⟩)
theorem TV (p:aU):p.main∈mI p:=by unfold mI;simp
theorem TW {p:aU} (bu:cS p=true) (t:en):∀ j,j≤p.methods.length→(qq p t j).2.1.length≤j*120∧(qq p t j).1.length≤j∧(qq p t j).2.2.length≤j
  | 0,_=>⟨g9 _,g9 _,g9 _⟩
  | j+1,aK=>by
    obtain ⟨U,ad,aj⟩:=TW bu t j ak;rw [TT];split;rotate_left
    · exact ⟨by omega,by omega,by omega⟩
    obtain ⟨x,aa⟩:∃ x,p.methods[j]? = some x:=⟨_,f8 ak⟩;have aA:p.methods.getD j default=x:=by rw [d9,aa];rfl
    have al:=Lg bu (TU aa);have pF:=(K4 bu aa).1;have jL:(tl p t j (qq p t j).2.1.length).length≤120:=by
      unfold tl;rw [aA];split
      · rw [Fp 12 _ _ pF];exact al
      · simp
    simp only [f0,ad'];exact ⟨by omega,by omega,by omega⟩
theorem Lh (a b:List eW):l4 (a++b)=l4 a++l4 b:=by unfold l4;simp
theorem TX {Γ:cz} {env:Env} {s:ao} {a b c d:Nat} {t T:TypeId} {i:bQ} {cs:List ag} {v u w:ag} (he:env.get? a=some (.ptr b 0)) (aQ:Γ.get? t=some i) (al:s b=some (.box T cs)) (aE:hB i cs 0=some v) (aw:env.get? c=some u) (aA:env.get? d=some w) :
  nI Γ env s [.cell a t,.tmp c,.tmp d]=some (.bW [v,u,w]):=by simp [nI,vb,yW,he,aQ,al,aE,aw,aA]
def Li:ag := .agg [.aF 0 [] .nil,.int .i64 0,.aF 0 [] .nil,.aF 0 [] .nil,.aF 0 [] .nil,.int .i64 0]
theorem agb (p:aU) (aB:e3 p) (bu:cS p=true) (t:en) (aN:iY p t=true) (aw:zT p t=false):aY d4 26 [cQ p,pI t] (.bW [Li,.aF 0 [] .nil,.int .i64 7]):=by
 have aq:=bx;refine aY.bj ah Tryz.func26 C C fun s I=>?_
 have bf:=TS p aB bu t aN;rw [aw] at bf;unfold Li;unfold cQ pI at *;unfold cj at bf ⊢
 repeat (first|(with_reducible first|apply af.seq|apply af.block)|refine af.cv ?_|refine cq C ?_)
 refine ab.c3 ah I C C C C C C C (fun pH I=>?_);refine iR ?_;refine ab.bL rfl rfl rfl rfl rfl bf I .nil ?_ (fun _ _ ⟨_,h,_⟩ _=>by cases h);rintro _ _ ⟨mb,⟨⟩,rfl⟩ I;unfold gK at I ⊢;simp only [d5,d0] at I ⊢;refine hC I ?_;intro I;exact Fin.cZ I (TX C C (bm.get aO I) C C C) aH
theorem TY {p:aU} {f:Nat} {n:Int} (h:eY p (f+1) n=true):1≤ie p (f+1) n:=by
 rw [eY,d6] at h;rw [JK h.1];omega
def nz (p:aU) (ms:List hh) (ol:List Int) (kp b1:bM):Ar:=⟨.aF 3 (p.ch.map gX) .a7,.int .i64 p.bB,br p.dX,.aF 9 (ms.map hE) kp,.int .i64 0,.aF 1 (ol.map ba) b1⟩
theorem agc (p:aU) (aB:e3 p) (bu:cS p=true) (t:en) (aN:iY p t=true) (aw:zT p t=true):aY d4 26 [cQ p,pI t] (.bW [cQ (Fq p t),br (Q2 p t),.int .i64 0]):=by
 have aq:=bx;have q5:=(r2 bu).1;have bf:=TS p aB bu t aN;rw [aw] at bf;have cm:=vB p.dX .a7 aB.dX;have agd:=afS (.func 77 [] []) (fun c=>c) p.ch (by have:=(py bu).few;have e:(bU p).ps.length=p.ch.length:=(by unfold bU gY;simp);omega) (fun c h=>afW c (aB.each c h).1 (aB.each c h).2.1 (aB.each c h).2.2);rw [aI6] at agd;have lg:=aN;unfold iY at lg;simp only [d6,f5] at lg;obtain ⟨Le,cp⟩:=lg;refine aY.bj ah Tryz.func26 C C fun s I=>?_
 unfold cQ pI at *;unfold cj br at bf ⊢
 repeat (first|(with_reducible first|apply af.seq|apply af.block)|refine af.cv ?_|refine cq C ?_)
 refine ab.c3 ah I C C C C C C C (fun pH I=>?_);refine iR ?_;refine ab.bL rfl rfl rfl rfl rfl bf I .nil ?_ (fun _ _ ⟨_,h,_⟩ _=>by cases h);rintro _ _ ⟨mb,⟨⟩,rfl⟩ I;unfold gK at I ⊢;simp only [d5,d0] at I ⊢
 repeat (first|refine cq C ?_|refine ab.nil ?_|with_reducible apply af.seq|with_reducible apply cg|with_reducible apply af.skip|refine af.hp C ?_)
 refine af.cv ?_
 repeat (first|refine cq C ?_|refine ab.nil ?_|with_reducible apply af.seq|with_reducible apply cg|with_reducible apply af.skip|refine af.hp C ?_)
 refine af.cv ?_
 repeat (first|refine cq C ?_|refine ab.nil ?_|with_reducible apply af.seq|with_reducible apply cg|with_reducible apply af.skip|refine af.hp C ?_)
 refine af.cv ?_;refine cq C ?_;refine ab.h0 I C C C C C C (fun gk I=>?_);refine ab.vj ah C C C C C C C (fun _=>rfl) C C (fun _=>rfl) C C C C ?_;refine ab.nil ?_
 repeat (first|(refine W7 I ?_;clear I;intro I)|refine ab.c3 ah I rfl rfl rfl rfl rfl rfl rfl (fun cu I=>?_)|(refine W8 I ?_;clear I;intro I))
 obtain ⟨dI,Bs⟩:∃ b,b=cu:=⟨_,rfl⟩;rw [← Bs] at I ⊢;refine af.ig I [pJ p dI gk] (kb:=dI) aO (b5.refl _) (fun I=>?_);refine af.ig I (nw (nz p [] [] .nil .nil) (qo none 0)) (kb:=gk) aO (.cons aH (.cons aH (.cons aH (.cons (aR.nil gF) (.cons aH (.cons aH (.one (aR.nil gF)))))))) (fun I=>?_);refine af.hv I 59 9 0 fun I=>?_
 refine af.hv I 3 1 0 fun I=>?_
 obtain ⟨Q,wc⟩:∃ Q:Nat→List hh×List eW×List Int,∀ j,Q j=qq p t j:=⟨_,fun _=>rfl⟩;have TZ:Q 0=([],[],[]):=by rw [wc];rfl
 refine af.cc [2,3,4,10,11,52,53] C I (σ:=Nat×uW×bM×bM) (fun q=>[(54,.int .i64 (q.1:Int))]) (fun q=>(.own pH,.box 27 [.aF 0 [] .nil,.int .i64 0,.aF 0 [] .nil,.aF 0 [] .nil,.aF 0 [] .nil,.int .i64 0])::(q.2.2.1,.row 59 9 (Q q.1).1.length)::(q.2.2.2,.row 3 1 (Q q.1).2.2.length)::ny p dI gk (nz p (Q q.1).1 (Q q.1).2.2 q.2.2.1 q.2.2.2) q.2.1 (Q q.1).2.1.length)
  (fun q=>q.1≤p.methods.length∧iZ q.2.1 (Q q.1).2.1.length (l4 (Q q.1).2.1)) (fun q=>p.methods.length-q.1) (0,none,.nil,.nil) ⟨g9 _,by show iZ none (Q 0).2.1.length (l4 (Q 0).2.1);rw [TZ];exact ⟨rfl,rfl⟩⟩ (cy C) (by show az _ (_::(_,.row _ _ (Q 0).1.length)::(_,.row _ _ (Q 0).2.2.length)::ny p dI gk (nz p (Q 0).1 (Q 0).2.2 _ _) none (Q 0).2.1.length) _;rw [TZ];simp only [ny,nx,qp];exact a') ?_
 rintro ⟨j,k8,kp,b1⟩ ⟨aK,aG⟩ I
 try simp only at aK aG I ⊢
 obtain ⟨gD,fp,qz⟩:=TW bu t j aK;rw [← wc] at gD fp qz;simp only [ny,nx,nw,nz] at I ⊢;unfold pJ cj at I ⊢;refine cl ?_;refine af.cond C (fun au=>?_) (fun aV=>?_);rotate_left
 ·have aV:j=p.methods.length:=by simp at aV;omega
  subst aV;have age:Q p.methods.length=qj p t:=wc _;rw [age] at aG I gD ⊢;obtain ⟨k,ax⟩:∃ k,k=(qj p t).2.1.length:=⟨_,rfl⟩;rw [← ax] at aG I gD ⊢;have lY:eY p 12 p.main=true:=(tg bu).fits _ (TV p);have b6:=Lg bu (TV p);have ht:1≤ie p 12 p.main:=TY lY;obtain ⟨Au,Lj⟩:∃ Au,Au=(qj p t).2.1++qi p 12 p.main k:=⟨_,rfl⟩;have agf:Au.length=k+ie p 12 p.main:=by rw [Lj,f0,← ax,Fp 12 _ _ lY]
  have cw:=Gj p aB dI gk (nz p (qj p t).1 (qj p t).2.2 kp b1) 12 p.main lY k8 k _ aG ak;rw [← Lh,← Lj] at cw;simp only [ny,nx,nw,nz] at cw;unfold pJ cj at cw;have En:(Au.map h4).map ag.agg=Au.map ff:=by rw [ax7];rfl
  refine jR ?_;refine af.m7 I dI aO ah mixed C ?_;refine kU ?_;refine aS.zn C C C C C C C cw I (by repeat (first|exact az.all _|exact az.there (az.all _)|exact az.there (az.there (az.all _))|exact az.there (az.there (az.there (az.all _)))|exact az.there (az.there (az.there (az.there (az.all _))))|(apply az.cons;· repeat (first|exact bm.here|apply bm.there)))) (fun _ _ h=>by obtain ⟨_,_,_,rfl⟩:=h;exact ⟨_,bm.here⟩) ?_ (fun _ _ ⟨h,_⟩ _=>by cases h);rintro _ _ ⟨⟨⟩,CX,n5,rfl⟩ I;cases CX with
  | none=>
   have U:=n5.1;omega
  | some z=>
  obtain ⟨g2,iz,hV⟩:=z;simp only [qo,qp,d5,d0] at I ⊢;refine sN I ?_;intro I;refine sP ?_;refine af.ig I [.aF 3 (p.ch.map gX) .a7,.int .i64 p.bB,br p.dX,.aF 9 ((qj p t).1.map hE) .a7,dv g2 (k+ie p 12 p.main) iz,.int .i64 (k:Int),.aF 1 ((qj p t).2.2.map ba) .a7] (kb:=gk) aO (.cons aH (.cons aH (.cons aH (.cons aR.a7 (.cons aH (.cons aH (.one aR.a7))))))) (fun I=>?_);refine af.Cp I (kb:=gk) (b:=g2) (sz:=3) 4 aO aO C (xss:=Au.map h4) n5.2.2 (by rw [f6];exact agf) (fun c aw=>by obtain ⟨y,-,rfl⟩:=ae'.1 aw;rfl) n5.2.1 ak (fun I=>?_);rw [En] at I ⊢;refine af.m7 I gk aO ah mixed C ?_;refine kU ?_;refine aS.adu ah I _ C C C C C C C C C C aO (by show 0+6≤6;omega) C aO (fun I=>?_);refine kU ?_;refine jR ?_;exact Fin.cZ I (TX C C (bm.get aO I) C C C) (aR.of_eq (by rw [Lj,ax];rfl))
 have au:j<p.methods.length:=by simpa using au
 obtain ⟨y,ar,cf⟩:=b' (f:=hE) au;have aA:p.methods.getD j default=y:=by rw [d9,ar];rfl
 have T0:(t.hk.map ag.bool)[j]? = some (.bool (t.hk.getD j false)):=by
  rw [aj6,d9,f8 ak];rfl
 have T1:(t.runs.map ag.bool)[j]? = some (.bool (t.runs.getD j false)):=by
  rw [aj6,d9,f8 ak];rfl
 have tu:Q (j+1)=_:=(wc (j+1)).trans (TT p t j);rw [← wc,aA] at tu;unfold hE lT at cf;cases bp:t.hk.getD j false with
 | false=>
  rw [bp] at T0;rw [bp,f4 bc] at tu;rw [← tu] at aG I ⊢
  repeat (first|(refine W9 I ?_;clear I;intro I)|refine ab.c3 ah I rfl rfl rfl rfl rfl rfl rfl (fun cu I=>?_))
  exact bA.mk (j+1,k8,kp,b1) I ⟨au,aG⟩ ct (by simp only [ny,nx,nw,nz];exact (by repeat (first|exact az.all _|exact az.there (az.all _)|exact az.there (az.there (az.all _))|(apply az.cons;· repeat (first|exact bm.here|apply bm.there))))) r8
 | true=>
 rw [bp] at T0;rw [bp,f7 C] at tu;obtain ⟨pF,-⟩:=K4 bu ar;have b6:=Lg bu (TU ar);have eJ:=d8 ar;have hw:=La y.fact.size y.fact (t7 _) (by have:=aB.facts y eJ;omega);rw [ae.bJ] at hw;unfold ae.cells at hw;obtain ⟨k,ax⟩:∃ k,k=(Q j).2.1.length:=⟨_,rfl⟩;rw [← ax] at tu aG I ⊢;have Gm:(Q (j+1)).1.map hE=(Q j).1.map hE++[.agg (lT ⟨y.kind,y.gen,y.fact,(k:Int)⟩)]:=by rw [tu,t8];rfl
 have T2:(Q (j+1)).2.2.map ba=(Q j).2.2.map ba++[.int .i64 (j:Int)]:=by rw [tu,t8];rfl
 have B2:(Q (j+1)).1.length=(Q j).1.length+1:=by rw [tu,f0];rfl
 have iD:(Q (j+1)).2.2.length=(Q j).2.2.length+1:=by rw [tu,f0];rfl
 have eK:(Q (j+1)).2.1=(Q j).2.1++tl p t j k:=by rw [tu]
 cases aC:t.runs.getD j false with
 | true=>
  rw [aC] at T1;have uS:tl p t j k=qi p 12 y.node k:=by unfold tl;rw [aC,f7 C,aA]
  have hd:k+ie p 12 y.node=(Q (j+1)).2.1.length:=by rw [eK,f0,← ax,uS,Fp 12 _ _ pF]
  have cw:=Gj p aB dI gk (nz p (Q j).1 (Q j).2.2 kp b1) 12 y.node pF k8 k _ aG ak;rw [← uS,← Lh,← eK] at cw;simp only [ny,nx,nw,nz] at cw;unfold pJ cj at cw
  repeat (first|(refine W' I ?_;clear I;intro I)|refine ab.c3 ah I rfl rfl rfl rfl rfl rfl rfl (fun cu I=>?_)|(refine qJ ?_))
  refine ab.e0 rfl rfl rfl rfl rfl rfl cw I S2 ?_ (fun _ _ ⟨h,_⟩ _=>by cases h);rintro _ _ ⟨⟨⟩,CX,n5,rfl⟩ I;cases CX with
  | none=>
   have U:=n5.1;have ad:1≤ie p 12 y.node:=TY pF;omega
  | some z=>
  obtain ⟨g2,iz,hV⟩:=z;simp only [qo,qp,d5,d0] at I ⊢;rw [hd] at n5;refine c9 I ?_;intro I;rw [hd] at I ⊢;refine af.ig I (lT ⟨y.kind,y.gen,y.fact,(k:Int)⟩) (kb:=cu) aO (b5.refl _) (fun I=>?_);refine af.im I 13 _ C aO (fun I=>?_);refine af.m7 I gk aO ah mixed C ?_;refine kU ?_;refine aS.oz C C C C (aX.lN ah I C C C C dB C C C C (.inr C) C Ad (by simp only [f6,ad'];show _*104≤_;omega) Ac (f6 _).symm (n':=(Q j).1.length+1) x' rfl aO (X:=fun _ _=>False)) (fun l7 an h=>by obtain ⟨_,_,_,_,U,ad⟩:=h;subst U;exact bm.get aO ad) ?_ (fun _ _ h=>h.elim);rintro _ _ ⟨nh,-,-,rfl,rfl,I⟩;refine sN I ?_;intro I;refine sP ?_;refine af.m7 I gk aO ah mixed C ?_;refine kU ?_;refine aS.oz rfl rfl rfl rfl (aX.lN ah I rfl rfl rfl rfl dB rfl rfl rfl rfl (.inr rfl) rfl Ad KN Ac (f6 _).symm (n':=(Q j).2.2.length+1) x' rfl aO (X:=fun _ _=>False)) (fun l7 an h=>by obtain ⟨_,_,_,_,U,ad⟩:=h;subst U;exact bm.get aO ad) ?_ (fun _ _ h=>h.elim);rintro _ _ ⟨rh,-,-,rfl,rfl,I⟩;refine sN I ?_;intro I;refine jR ?_;refine af.ig I (nw (nz p (Q (j+1)).1 (Q (j+1)).2.2 nh rh) (qo (some (g2,iz,hV)) (Q (j+1)).2.1.length)) (kb:=gk) aO (by unfold nz nw;rw [Gm,T2];exact b5.refl _) (fun I=>?_);refine cl ?_;exact bA.mk (j+1,some (g2,iz,hV),nh,rh) I ⟨au,n5⟩ ct (by show az _ (_::(_,.row _ _ (Q (j+1)).1.length)::(_,.row _ _ (Q (j+1)).2.2.length)::ny p dI gk (nz p (Q (j+1)).1 (Q (j+1)).2.2 nh rh) (some (g2,iz,hV)) (Q (j+1)).2.1.length) _;rw [B2,iD];simp only [ny,nx,qp];unfold pJ cj;exact a') r8
 | false=>
  rw [aC] at T1;have uS:tl p t j k=[⟨2,0,[]⟩]:=by unfold tl;rw [aC,f4 bc]
  have hd:k+1=(Q (j+1)).2.1.length:=by rw [eK,f0,← ax,uS];rfl
  have As:=TD gk (nz p (Q j).1 (Q j).2.2 kp b1) k8 k _ aG ak 2 0;simp only [nx,nw,nz] at As;unfold wD at As
  repeat (first|(refine Xa I ?_;clear I;intro I)|refine ab.c3 ah I rfl rfl rfl rfl rfl rfl rfl (fun cu I=>?_)|(refine qJ ?_))
  refine ab.bL rfl rfl rfl rfl rfl As I S2 ?_ (fun _ _ ⟨h,_⟩ _=>by cases h);rintro _ _ ⟨⟨⟩,g2,iz,hV,n5,rfl⟩ I;simp only [qo,qp,d5,d0] at I ⊢;have n5:iZ (some (g2,iz,hV)) (k+1) (rj (l4 (Q j).2.1) 2 0 (.aF 0 [] .nil) []):=by rw [← TH];exact n5
  have kL:k*3+2=(l4 (Q j).2.1++[ag.int .i64 2,ag.int .i64 0]).length:=by rw [f0,afY,← ax];rfl
  have uh:=iZ.get (i:=k*3+2) n5 kL;have agh:iZ (some (g2,iz,hV.set (k*3+2) (br []))) (Q (j+1)).2.1.length (l4 (Q (j+1)).2.1):=by
   have:=iZ.set (i:=k*3+2) n5 kL (br []);rw [eK,uS,Lh,← TI,f0,← ax];exact this
  refine c9 I ?_;intro I;refine af.ig I (hV.set (k*3+2) (br [])) (kb:=g2) aO (b5.Ld uh.1 aR.empty) (fun I=>?_);rw [hd] at I ⊢;refine af.ig I (lT ⟨y.kind,y.gen,y.fact,(k:Int)⟩) (kb:=cu) aO (b5.refl _) (fun I=>?_);refine af.im I 13 _ C aO (fun I=>?_);refine af.m7 I gk aO ah mixed C ?_;refine kU ?_;refine aS.oz C C C C (aX.lN ah I C C C C dB C C C C (.inr C) C Ad (by simp only [f6,ad'];show _*104≤_;omega) Ac (f6 _).symm (n':=(Q j).1.length+1) x' rfl aO (X:=fun _ _=>False)) (fun l7 an h=>by obtain ⟨_,_,_,_,U,ad⟩:=h;subst U;exact bm.get aO ad) ?_ (fun _ _ h=>h.elim);rintro _ _ ⟨nh,-,-,rfl,rfl,I⟩;refine sN I ?_;intro I;refine sP ?_;refine af.m7 I gk aO ah mixed C ?_;refine kU ?_;refine aS.oz rfl rfl rfl rfl (aX.lN ah I rfl rfl rfl rfl dB rfl rfl rfl rfl (.inr rfl) rfl Ad KN Ac (f6 _).symm (n':=(Q j).2.2.length+1) x' rfl aO (X:=fun _ _=>False)) (fun l7 an h=>by obtain ⟨_,_,_,_,U,ad⟩:=h;subst U;exact bm.get aO ad) ?_ (fun _ _ h=>h.elim);rintro _ _ ⟨rh,-,-,rfl,rfl,I⟩;refine sN I ?_;intro I;refine jR ?_;refine af.ig I (nw (nz p (Q (j+1)).1 (Q (j+1)).2.2 nh rh) (qo (some (g2,iz,(hV.set (k*3+2) (br [])))) (Q (j+1)).2.1.length)) (kb:=gk) aO (by unfold nz nw;rw [Gm,T2];exact b5.refl _) (fun I=>?_);refine cl ?_;exact bA.mk (j+1,some (g2,iz,(hV.set (k*3+2) (br []))),nh,rh) I ⟨au,agh⟩ ct (by show az _ (_::(_,.row _ _ (Q (j+1)).1.length)::(_,.row _ _ (Q (j+1)).2.2.length)::ny p dI gk (nz p (Q (j+1)).1 (Q (j+1)).2.2 nh rh) (some (g2,iz,(hV.set (k*3+2) (br [])))) (Q (j+1)).2.1.length) _;rw [B2,iD];simp only [ny,nx,qp];unfold pJ cj;exact a') r8
theorem T3 (l:List ae) (av:l.length<bK) (h:∀ x∈l,aY d4 47 [x.bh,x.bh] (.bool true)):aY d4 18 [ih l,ih l] (.bool true):=by
 have aq:=bx;refine aY.bj ah Tryz.func18 C C fun s I=>?_
 unfold ih;refine cl ?_;refine af.cond C (fun h=>by simp at h) (fun _=>?_);refine bd ?_;refine af.cc [0,1] C I (σ:=Nat) (fun j=>[(5,.int .i64 (j:Int))]) (fun _=>[]) (fun j=>j≤l.length) (fun j=>l.length-j) 0 (g9 _) (cy C) a' ?_;rintro j aK I
 try simp only at aK I ⊢
 refine cl ?_;refine af.cond C (fun au=>?_) (fun aV=>?_);rotate_left
 ·refine fb ?_
  exact b2 I
 have au:j<l.length:=by simpa using au
 obtain ⟨x,aa,bY⟩:=b' (f:=ae.bh) au;have sj:=h x (d8 aa);rw [ae.bJ] at bY sj;unfold ae.cells at bY sj;refine c1 ?_;exact bA.mk (j+1) I au ct a' jV
theorem Gn (x:bG) (aa:CH x):aY d4 47 [(Br x).bh,(Br x).bh] (.bool true):=by
 have h:=Sp x x aa aa;rwa [show rL x x=true from (D2 x x).2 C] at h
theorem agi (t:en) (U:t.hk.length<bK) (ad:t.runs.length<bK):aY d4 51 [pI t,pI t] (.bool true):=by
 have aq:=bx;refine aY.bj ah Tryz.func51 C C fun s I=>?_
 unfold pI;refine cX ?_;refine ab.eP 14 C bc ?_;refine jQ ?_;refine af.cond C (fun h=>by simp at h) (fun _=>?_);refine bd ?_;refine af.cc [2,3] C I (σ:=Nat) (fun j=>[(5,.int .i64 (j:Int))]) (fun _=>[]) (fun j=>j≤t.hk.length) (fun j=>t.hk.length-j) 0 (g9 _) (cy C) a' ?_;rintro j aK I
 try simp only at aK I ⊢
 refine cl ?_;refine af.cond C (fun au=>?_) (fun aV=>?_)
 ·have au:j<t.hk.length:=by simpa using au
  obtain ⟨x,aa,bY⟩:=b' (f:=ag.bool) au;cases x with
  | true=>
   refine c1 ?_;exact bA.mk (j+1) I au ct a' (by show t.hk.length-(j+1)<t.hk.length-j;omega)
  | false=>
   refine c1 ?_;exact bA.mk (j+1) I au ct a' (by show t.hk.length-(j+1)<t.hk.length-j;omega)
 refine bd ?_;refine af.cc [2,3] C I (σ:=Nat) (fun j=>[(6,.int .i64 (j:Int))]) (fun _=>[]) (fun j=>j≤t.runs.length) (fun j=>t.runs.length-j) 0 (g9 _) (cy C) a' ?_;rintro j aK I
 try simp only at aK I ⊢
 refine cl ?_;refine af.cond C (fun au=>?_) (fun aV=>?_)
 ·have au:j<t.runs.length:=by simpa using au
  obtain ⟨x,aa,bY⟩:=b' (f:=ag.bool) au;cases x with
  | true=>
   refine c1 ?_;exact bA.mk (j+1) I au ct a' (by show t.runs.length-(j+1)<t.runs.length-j;omega)
  | false=>
   refine c1 ?_;exact bA.mk (j+1) I au ct a' (by show t.runs.length-(j+1)<t.runs.length-j;omega)
 refine fb ?_;exact b2 I
theorem Av (c:Int):aY d4 46 [.int .i64 c] ((iJ c).bh):=by
 have aq:=bx;refine aY.bj ah Tryz.func46 C C fun s I=>?_
 rw [ae.bJ];unfold iJ ae.cells
 repeat (first|(refine sO I ?_;clear I;intro I)|refine ab.c3 ah I rfl rfl rfl rfl rfl rfl rfl (fun cu I=>?_))
 refine Fin.cZ I (iS C C (bm.get aO I) C) ?_
 repeat (first|exact aH|exact aR.empty|exact aR.a7|refine aR.agg ?_|refine aR.aF ?_|exact b5.nil|refine b5.cons ?_ ?_)
theorem Lk (n:Int):aY d4 65 [.int .i64 n] ((uM n).bh):=by
 have aq:=bx;refine aY.bj ah Tryz.func65 C C fun s I=>?_
 rw [ae.bJ];unfold uM ae.cells
 repeat (first|(refine sO I ?_;clear I;intro I)|refine ab.c3 ah I rfl rfl rfl rfl rfl rfl rfl (fun cu I=>?_))
 refine Fin.cZ I (iS C C (bm.get aO I) C) ?_
 repeat (first|exact aH|exact aR.empty|exact aR.a7|refine aR.agg ?_|refine aR.aF ?_|exact b5.nil|refine b5.cons ?_ ?_)
theorem Ll (f:ae):aY d4 45 [f.bh] (f.not.bh):=by
 have aq:=bx;refine aY.bj ah Tryz.func45 C C fun s I=>?_
 unfold ae.not;rw [ae.bJ,ae.bJ];simp only [ae.cells,ae.op,ae.arg,ae.path,ae.cls,ae.n,ae.kids,ai2,aj5];rw [ae.bJ];unfold ae.cells
 repeat (first|(refine sO I ?_;clear I;intro I)|refine ab.c3 ah I rfl rfl rfl rfl rfl rfl rfl (fun cu I=>?_))
 refine Fin.cZ I (iS C C (bm.get aO I) C) ?_
 repeat (first|exact aH|exact aR.empty|exact aR.a7|refine aR.agg ?_|refine aR.aF ?_|exact b5.nil|refine b5.cons ?_ ?_)
theorem agj (u:Unit):aY d4 64 [] (ff ⟨1,4,[]⟩):=by
 have aq:=bx;refine aY.bj ah Tryz.func64 C C fun s I=>?_
 unfold ff h4 br
 repeat (first|(refine sO I ?_;clear I;intro I)|refine ab.c3 ah I rfl rfl rfl rfl rfl rfl rfl (fun cu I=>?_))
 refine Fin.cZ I (iS C C (bm.get aO I) C) ?_;simp only [aj5]
 repeat (first|exact aH|exact aR.empty|exact aR.a7|refine aR.agg ?_|refine aR.aF ?_|exact b5.nil|refine b5.cons ?_ ?_)
theorem T4 (u:Unit):aY d4 43 [] (pI kK):=by
 have aq:=bx;refine aY.bj ah Tryz.func43 C C fun s I=>?_
 unfold pI kK
 repeat (first|(refine sO I ?_;clear I;intro I)|refine ab.c3 ah I rfl rfl rfl rfl rfl rfl rfl (fun cu I=>?_))
 refine Fin.cZ I (iS C C (bm.get aO I) C) ?_;simp only [ai2,aj5]
 repeat (first|exact aH|exact aR.empty|exact aR.a7|refine aR.agg ?_|refine aR.aF ?_|exact b5.nil|refine b5.cons ?_ ?_)
theorem T5 (x:eW):aY d4 42 [ff x] (cQ (FH x)):=by
 have aq:=bx;refine aY.bj ah Tryz.func42 C C fun s I=>?_
 have U:=Av 1;have aj:=Av 3;have bF:=Lk 5;have oB:=Lk 9;rw [ae.bJ] at U aj bF oB;unfold ae.cells at U aj bF oB;unfold ff h4
 repeat (first|(refine Xb ?_)|refine ab.c3 ah I C C C C C C C (fun cu I=>?_)|(refine Xc I ?_;clear I;intro I))
 skip;refine Fin.cZ I (iS C C (bm.get aO I) C) ?_;unfold FH cQ cj;simp only [ai2,aj5,hE,lT,gX,sX,ff,h4,br,ba,ae.path,ae.op,ae.arg,ae.cls,ae.n,ae.kids,ae.bJ,ae.cells,iJ,uM]
 repeat (first|exact aH|exact aR.empty|exact aR.a7|refine aR.agg ?_|refine aR.aF ?_|exact b5.nil|refine b5.cons ?_ ?_)
theorem yC:e3 fV:=⟨by decide,by decide,by decide,by decide,by decide,by decide,by decide⟩
theorem CY:e3 iy:=⟨by decide,by decide,by decide,by decide,by decide,by decide,by decide⟩
theorem agk:uR fV 6=0:=by kernel_rfl
theorem agl:iY fV kK=true:=by kernel_rfl
theorem Aw (f:ae) (U:f.kids=[]) (ad:f.op≠5) (aj:f.path=[]) (c:Bool):CH (f,c):=⟨U,ad,by show f.path.length<bK;rw [aj];decide⟩
theorem agm:∀ x∈[iJ 1,(iJ 2).not,uM 5],aY d4 47 [x.bh,x.bh] (.bool true):=fun x aa=>by
 simp only [ai1,aB5,or_false] at aa;rcases aa with rfl|rfl|rfl
 ·exact Gn (iJ 1,false) (Aw _ C dh C _)
 ·exact Gn (iJ 2,true) (Aw _ C dh C _)
 ·exact Gn (uM 5,false) (Aw _ C dh C _)
theorem agn:∀ x∈[ae.mk 4 0 [] 0 4 []],aY d4 47 [x.bh,x.bh] (.bool true):=fun x aa=>by
 rw [i7] at aa;subst aa;exact Gn (ae.mk 4 0 [] 0 4 [],false) (Aw _ C dh C _)
theorem ago:uV fV fV.nodes.length=[.bool false,.bool true,.bool false,.bool false,.bool false,.bool false,.bool true,.bool false]:=by
 have h:=adk;unfold uV;rw [show fV.nodes.length=8 from rfl,h];rfl
theorem agp:∃ a b c,(Fq fV kK).methods=[a,b,c]:=by
 have h:(Fq fV kK).methods.length=3:=RX.1;generalize (Fq fV kK).methods=l at h
 match l,h with
 | [a,b,c],_=>exact ⟨a,b,c,rfl⟩
theorem agq (u:Unit):aY d4 19 [] (.bool true):=by
  have aq:=bx;have bn:=agj ();have U:aY d4 42 [ff ⟨1,4,[]⟩] (cQ fV):=T5 ⟨1,4,[]⟩;have ad:=TC fV yC Kj;rw [adi] at ad;have aj:aY d4 14 [cQ fV,.int .i64 1,.int .i64 0] (.bW [ih (k5 (bU fV) (kH fV 1) 0),.int .i64 0]):=Ki fV yC 1 0 ac8;rw [ac7] at aj;have bk:=Kh fV yC 6;rw [adb,f7 C,ac9] at bk;have bF:=Kh fV yC 1;rw [ade,f7 C,ada] at bF;have fx:=afO fV yC Kj;rw [ago] at fx;have gL:=agc fV yC Kj kK agl adj;rw [RX.2] at gL;have pa:=aeK fV yC 6;rw [agk,f7 C,adf] at pa;have cx:=Av 1;have cE:=Av 2;have dz:=Ll (iJ 2);have ik:=Lk 5;have r4:=T4 ();have bT:=agi kK dh dh;have bI:=T3 _ dh agm;have eh:=T3 _ dh agn;have mc:=D5 [1,2,3] [1,2,3] dh dh;have qD:=D5 [6] [6] dh dh;rw [show (([1,2,3]:List Int)==[1,2,3])=true from rfl] at mc;rw [show (([6]:List Int)==[6])=true from rfl] at qD;obtain ⟨uA,jk,Cd,hm⟩:=agp;unfold cQ at gL;unfold cj at gL;rw [hm] at gL;have Jr:(iJ 2).not.bh = .agg [.int .i64 5,.int .i64 0,.aF 1 [] .a7,.int .i64 0,.int .i64 0,.aF 6 [(iJ 2).bh] .a7]:=oJ _;unfold ih at *;unfold pI kK at *;unfold br ba iK at *;simp only [ai2,aj5,Jr] at ad aj bk bF gL pa dz r4 bT bI eh mc qD;refine aY.bj ah Tryz.func19 C C fun s I=>?_
  refine ej ?_;refine aS.mo C C C C C bI (.cons aH (.one aR.a7)) ?_;refine kV ?_;rw [ae.bJ] at eh;unfold ae.cells at eh
  refine aS.mo C C C C C eh (.cons (aR.of_eq (by rw [ae.bJ];rfl)) (.one (by
    repeat (first|exact aH|exact aR.empty|exact aR.a7|refine aR.agg ?_|refine aR.aF ?_|exact b5.nil|refine b5.cons ?_ ?_)))) ?_
  refine kV ?_;refine aS.mo C C C C C bI (.cons aH (.one aR.a7)) ?_;refine kU ?_;refine dS ?_;refine af.tT ah mixed C ?_
  repeat (first|(refine Hs ?_)|refine aS.Ed ah I C C C C C C C C (fun cu I=>?_)|(refine Ht I ?_;clear I;intro I))
  refine gw ?_;refine ab.idx ah 1 C C C C C C C C C C C bZ C ?_;refine fB ?_;refine ab.idx ah 6 C C C C C C C C C C C bZ C ?_;refine fB ?_;refine ab.idx ah 0 C C C C C C C C C C C bZ C ?_;refine kh I ?_;intro I;refine ab.mo C C C C C mc (.cons aH (.one aR.a7)) ?_;refine dS ?_;skip;exact b2 I
theorem T6 (l:List Bool) (av:l.length<bK):aY d4 41 [.aF 1 (l.map ag.bool) .a7,.aF 1 (l.map ag.bool) .a7] (.bool true):=by
 have aq:=bx;refine aY.bj ah Tryz.func41 C C fun s I=>?_
 refine cl ?_;refine af.cond C (fun h=>by simp at h) (fun _=>?_);refine bd ?_;refine af.cc [0,1,12] C I (σ:=Nat) (fun j=>[(13,.int .i64 (j:Int))]) (fun _=>[]) (fun j=>j≤l.length) (fun j=>l.length-j) 0 (g9 _) (cy C) a' ?_;rintro j aK I
 try simp only at aK I ⊢
 refine cl ?_;refine af.cond C (fun au=>?_) (fun aV=>?_);rotate_left
 ·refine fb ?_
  exact b2 I
 have au:j<l.length:=by simpa using au
 obtain ⟨x,aa,bY⟩:=b' (f:=ag.bool) au;cases x with
 | true=>
  refine c1 ?_;exact bA.mk (j+1) I au ct a' jV
 | false=>
  refine c1 ?_;exact bA.mk (j+1) I au ct a' jV
def Lm (x y:ae):Bool:=rL (hP x) (hP y)
def uX:List ae:=[(iJ 1).not,(iJ 2).not]
theorem agr:∀ x∈uX,∀ y∈uX,cY d4 (.func 47 [] []) [x.bh,y.bh] (.bool (Lm x y)):=fun x aa y ar=>by
 have h:∀ x∈uX,(Br (hP x))=x∧CH (hP x):=fun x aa=>by
  simp only [uX,ai1,aB5,or_false] at aa;rcases aa with rfl|rfl
  ·exact ⟨rfl,Aw (iJ 1) C dh C true⟩
  ·exact ⟨rfl,Aw (iJ 2) C dh C true⟩
 obtain ⟨bT,Le⟩:=h x aa;obtain ⟨bI,cp⟩:=h y ar;have aj:=Sp (hP x) (hP y) Le cp;rw [bT,bI] at aj;exact cY.ey (first:=[]) (cap:=[]) aj
theorem ags:iY iy kK=true:=by kernel_rfl
theorem ahA (u:Unit):aY d4 10 [] (.bool true):=by
 have aq:=bx;have w:=agq ();have U:aY d4 42 [ff ⟨6,3,[]⟩] (cQ iy):=T5 ⟨6,3,[]⟩;have ad:=TC iy CY RV;rw [adn] at ad;have aj:aY d4 14 [cQ iy,.int .i64 0,.int .i64 0] (.bW [ih (k5 (bU iy) (kH iy 0) 0),.int .i64 0]):=Ki iy CY 0 0 adq;rw [ado] at aj;have bk:aY d4 14 [cQ iy,.int .i64 2,.int .i64 0] (.bW [ih (k5 (bU iy) (kH iy 2) 0),.int .i64 0]):=Ki iy CY 2 0 adr;rw [adp] at bk;have bF:=Kh iy CY 0;rw [ads,f4 dh] at bF;have fx:=agb iy CY RV kK ags adt;have cx:=Av 1;have cE:=Av 2;have dz:=Ll (iJ 1);have ik:=Ll (iJ 2);have r4:=T4 ();have bT:=T6 [true,false,true,false,false] dh;have bI:=T6 [true,false,false,false,false] dh;have eh:=Ny (.func 47 [] []) Lm uX uX dh dh agr;rw [show p2 Lm uX uX=true from by kernel_rfl] at eh;unfold uX at eh;have sE:(iJ 1).not.bh = .agg [.int .i64 5,.int .i64 0,.aF 1 [] .a7,.int .i64 0,.int .i64 0,.aF 6 [(iJ 1).bh] .a7]:=oJ _;have yV:(iJ 2).not.bh = .agg [.int .i64 5,.int .i64 0,.aF 1 [] .a7,.int .i64 0,.int .i64 0,.aF 6 [(iJ 2).bh] .a7]:=oJ _;unfold Li at fx;unfold ih at *;unfold pI z8 kK at *;simp only [ai2,aj5,sE,yV] at ad aj bk bF fx dz ik r4 bT bI eh;refine aY.bj ah Tryz.func10 C C fun s I=>?_
 refine cX ?_;refine ab.mo C C C C C U (.one (aR.agg (.cons aH (.cons aH (.one aR.empty))))) ?_
 repeat (first|(refine MA I ?_;clear I;intro I)|refine ab.c3 ah I rfl rfl rfl rfl rfl rfl rfl (fun cu I=>?_)|(refine qJ ?_))
 refine af.im I 1 _ C aO (fun I=>?_);refine af.im I 2 _ C aO (fun I=>?_);refine af.tT ah mixed C ?_
 repeat (first|(refine Hs ?_)|refine aS.Ed ah I C C C C C C C C (fun cu I=>?_)|(refine Ht I ?_;clear I;intro I))
 refine bd ?_;refine ab.mo C C C C C bT (.cons aH (.one aR.a7)) ?_;refine dS ?_;skip;exact b2 I
def Ln (w:World):bV:=fun b _=>b<w.heap.size
theorem agt (w:World):dn w (Ln w) (fun _=>none):=⟨(fun _ _ h=>by cases h),fun _ _ h=>h⟩
section
variable {H:Type} {enc:TypeId×Value→H} {w:World}
end
open Go.ChangeShapes Go.WideShapes Go.ChangeAt Go.RowKit
theorem T7 {H:Type} {enc:TypeId×Value→H} {P:Program} {W yD:World} (aE:laidOutB P=true):∀ {hr:List TypeId} {vs:List Value} {cb:List (DataW H)} {ps:List MemPlace} {sp:Nat→Bool},(∀ t∈hr,P.readableRec t=true∧t<P.types.size) →
    DataW.TrodAll enc P W 0 (fun _=>true) true hr vs cb ps→(∀ p∈ps,W.sameAt yD p)→(∀ p∈ps,sp p.block=true)→DataW.TrodAll enc P yD 0 sp true hr vs cb ps
  | [],[],[],_,_,_,h,_,_=>h
  | t::hr,v::vs,d::cb,ps,sp,aN,h,al,aq=>by
    obtain ⟨p,q,U,ad,rfl⟩:=h;obtain ⟨eD,fh⟩:=aN t g8
    exact ⟨p,q,WideElems.Trod_stays aE eD fh U (fun x aa=>al x (al3 _ aa)) (fun x aa=>aq x (al3 _ aa)),
      T7 aE (fun t dp=>aN t (f9 _ dp)) ad (fun x aa=>al x (ap1 _ aa)) (fun x aa=>aq x (ap1 _ aa)),rfl⟩
  | [],[],_::_,_,_,_,h,_,_=>h.elim
  | [],_::_,_,_,_,_,h,_,_=>h.elim
  | _::_,[],_,_,_,_,h,_,_=>h.elim
  | _::_,_::_,[],_,_,_,h,_,_=>h.elim
theorem ahB {H:Type} {enc:TypeId×Value→H} {f:FuncId} {fn:Func} {spec:ChangeSpec} {W:World} {args:Array Value} {xs:List ag} {cb gs:List (DataW H)} {before:List MemPlace}
  (aE:laidOutB d4=true) (aB:∀ t∈fn.params.toList,d4.readableRec t=true∧t < d4.types.size) (aC:fn.resultTypes = #[4]) (aD:spec.vars=[])
  (ht:gs=[]→spec.fn H (cb++gs)={ results:=[.lit (.bool true)],args:=cb })
  (iu:DataW.Whole enc d4 fn.params.toList spec.vars false W args.toList cb gs before) (eG:b4 W (Ln W) args.toList xs) (aw:hX d4 f xs (fun _=>none) (fun o an=>o = .ret (.bool true)∧an=fun _=>none)) :
  Calls d4 f args W fun e yD=>∃ v,e = .returned v∧spec.post enc d4 fn false true false false W args v yD:=by
 have h:=aw.2 W (Ln W) args.toList (agt W) eG;rw [Array.toArray_toList] at h;refine Calls.mono h fun e yD ⟨cN,o,an,bg,rp,⟨ai,gU⟩,hle,ax,ca⟩=>?_
 subst ai;cases e with
 | returned v=>
  have aq:Rel yD bg v (.bool true):=rp;cases aq;have T8:Below W.heap.size W yD:=⟨hle.os,hle.tape,hle.output,hle.size,fun k fa=>ax.heap k fa C⟩;have au:=iu.lt;have agu:=iu;obtain ⟨p,q,vk,kt,rfl,ahC,eK⟩:=iu;rw [aD] at kt;obtain ⟨rfl,rfl⟩:=trodVars_none kt;have yq:=ht C;refine ⟨_,rfl,cb,[],_,[],p,[],agu,?_,?_,?_,T8.frame _,fun h=>by cases h⟩
  ·rw [yq,aC]
   exact trodAll_cons_mk (shut_bool Tryz.underlying4 _) trodAll_mk0
  ·rw [yq]
   exact T7 aE aB vk (fun x aa=>T8.same (au x uY)) (fun x aa=>by simpa using au x uY)
  ·rw [yq,aD];exact rfl
 | panicked dC=>exact rp.elim
 | outgrown=>exact rp.elim
theorem laidOut:laidOutB d4=true:=by kernel_rfl
theorem ahD:mapsRowed d4=true:=by kernel_rfl
theorem ahE:(d4.stops==[])=true:=by kernel_rfl
theorem ahF:(d4.stopKnobs==[])=true:=by kernel_rfl
theorem ahG : d4.stopsHeard=true:=by kernel_rfl
theorem ahH : d4.mayEnter=true:=by kernel_rfl
theorem ahI:(Rows.queryKnownUptoRow.lifted == d4.liftsFinal)=true:=by kernel_rfl
theorem ahJ:(d4.make==some Rows.queryKnownUptoRow.make)=true:=by kernel_rfl
theorem ahK:(Rows.queryKnownUptoRow.plainKeys == d4.plainKeys)=true:=by kernel_rfl
end Go.Proofs.YtimbpjfhekcofaaGreat
