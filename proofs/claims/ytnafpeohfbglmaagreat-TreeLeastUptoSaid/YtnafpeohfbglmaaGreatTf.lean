import Derived.Test.YtnafpeohfbglmaaGreatTe
import Derived.Shelf.Sort.Plain
import Derived.KernelRfl
set_option linter.unusedVariables false
set_option linter.unusedSimpArgs false
set_option maxRecDepth 100000
set_option maxHeartbeats 4000000
open Array renaming getD_eq_getD_getElem?→ag1,getElem?_eq_some_iff→t8,length_toList→ae5,toArray_toList→ao1
open Bool renaming and_eq_true→f4,eq_iff_iff→af0,false_and→f6,false_eq_true→af7,not_false→aj6,not_true→aj',or_eq_false_iff→ak2,or_true→ao3,true_and→f5,true_or→am1
open Int renaming toNat_natCast→i9
open Go.IntKind renaming wrap→ac'
open List renaming Perm→am4,all_append→ax',all_eq_false→aw7,any_eq_false→ak8,any_eq_true→af4,append_assoc→ag',append_nil→d9,append_of_mem→au0,cons_append→ab',ext_getElem?→ap5,filter_cons→al5,find?_cons→ax9,find?_eq_none→aw1,find?_some→ax8,findIdx?_eq_none_iff→ai0,findIdx?_eq_some_iff_getElem→ag9,flatMap_append→av7,flatMap_cons→aj5,flatten_cons→as2,foldl_append→as1,foldl_cons→ah4,getD_eq_getElem?_getD→d5,getElem?_append_left→af9,getElem?_append_right→ae',getElem?_eq_getElem→d8,getElem?_eq_none→ak4,getElem?_eq_some_iff→t7,getElem?_map→ae7,getElem?_of_mem→af',getElem?_set_self→an1,getElem?_set→au4,getElem?_take→ai2,getElem_mem→aj4,isEmpty_iff_length_eq_zero→au8,isEmpty→aq3,length_append→f9,length_cons→i5,length_drop→ai8,length_eq_zero_iff→ax7,length_map→f8,length_mergeSort→as5,length_nil→ag0,length_set→ag4,length_singleton→ag8,length_take_le'→ak',length_take→ae9,map_append→ae1,map_cons→ae0,map_set→aq2,mem_append_left→ai7,mem_append_right→an8,mem_append→ae2,mem_cons_of_mem→i0,mem_cons_self→i6,mem_cons→ae8,mem_filter→ag3,mem_map→af8,mem_of_find?_eq_some→at3,mem_of_getElem?→d6,mem_or_eq_of_mem_set→ak9,mem_singleton→t6,nil_append→f0,nodup_append→ap4,perm_append_comm_assoc→av',perm_append_comm→as4,perm_cons→aB',perm_middle→an9,range_succ→at2,range→ah8,replicate→H1,set_append_right→al6,set_set→ax0,take_append_drop→ah',take_append_of_le_length→ah3,take_left'→aq4,take_length→af1,take_of_length_le→ah1,take_zero→al3
open Nat renaming add_comm→ar3,add_sub_cancel_left→ar5,beq→af2,blt→z2,eq_of_beq_eq_true→ad',le_refl→g7,le_succ→aA5,lt_of_lt_of_le→aj7,lt_or_ge→ap0,lt_succ_iff_lt_or_eq→ah7,mul_le_mul_right→am9,not_lt_zero→an6,or_lt_two_pow→aj0,pow_le_pow_right→ah6,pow_lt_pow_right→ai6,sub_self→am',succ_mul→aw9,testBit_lt_two_pow→al0,zero_add→af6,zero_le→g9
open Option renaming getD_some→ae4
open Go.Result renaming andThen_ok→i7
open Go.Sem renaming run_bind→aa',run_pure→ae3
open Go.Proofs.Tryz renaming prog→d0
namespace Go.Proofs.YtnafpeohfbglmaaGreat
theorem yN {p:Prop} (h:p:=by repeat (first|exact trivial|refine ⟨⟨_,rfl,aT⟩,?_⟩|refine ⟨⟨_,rfl,aZ.of_eq (by (first|rw [kF (by omega)]|(rw [jy aA,G4,hb,hb];congr 1;split<;>omega)))⟩,?_⟩)):p:=h
theorem yO {p:Prop} (h:p:=by repeat (first|exact trivial|refine ⟨⟨_,rfl,aT⟩,?_⟩|refine ⟨⟨_,rfl,aZ.of_eq (by (first|rfl|(rw [aC];simp [hb,aO aC])|(rw [aC];simp [hb])))⟩,?_⟩)):p:=h
theorem MN {p:Prop} (h:p:=by repeat (first|exact trivial|refine ⟨⟨_,rfl,aT⟩,?_⟩|refine ⟨⟨_,rfl,aZ.of_eq (by (rw [kF (by omega)];rfl))⟩,?_⟩)):p:=h
theorem DN {p:Prop} (h:p:=by repeat (first|exact trivial|refine ⟨⟨_,rfl,aT⟩,?_⟩|refine ⟨⟨_,rfl,aZ.of_eq (by (rw [j1]))⟩,?_⟩)):p:=h
theorem DO {p:Prop} (h:p:=by repeat (first|exact aJ.all _|(apply aJ.cons;· repeat (first|exact bp.here|apply bp.there)))):p:=h
theorem Hq {p:Prop} (h:p:=by show (σ (bu arg path)).bm.length-(j+1)<(σ (bu arg path)).bm.length-j;omega):p:=h
theorem Hr {p:Prop} (h:p:=by rw [List.take_left' (by simp),List.all_map];simp [Function.comp_def,bg,fb]):p:=h
theorem Hs {p:Prop} (h:p:=by show dJ.parents.length-(k+1)<dJ.parents.length-k;omega):p:=h
theorem yP {p:Prop} (h:p:=by show p.cm.length-(j+1)<p.cm.length-j;omega):p:=h
theorem DP {p:Prop} (h:p:=by show c.bm.length-(k+1)<c.bm.length-k;omega):p:=h
theorem rn {p:Prop} (h:p:=by show l.length-(j+1)<l.length-j;omega):p:=h
theorem ve {p:Prop} (h:p:=by rw [List.length_map];omega):p:=h
theorem sy {p:Prop} (h:p:=by simpa using aB):p:=h
theorem vf {p:Prop} (h:p:=by simpa using c6):p:=h
open Go.Shelf Go.Sort Go.Proofs
def V6:Go.Shelf.Ren:=⟨fun|189=>276|125=>290|257=>289|128=>303|129=>304|294=>294|295=>295|296=>296|297=>297|298=>298|299=>299|216=>300|300=>301|301=>302|328=>309|329=>310|330=>311|331=>312|332=>313|215=>314|343=>317|n=>n,fun|28=>23|3=>3|46=>303|0=>0|51=>329|53=>104|4=>4|183=>356|182=>355|131=>164|5=>5|9=>9|218=>363|222=>251|228=>368|229=>126|n=>n,fun n=>n⟩
theorem V7:Lays.n189 d0 V6 where
 mixed:=by kernel_rfl
 f125 := Tryz.func290.trans (ae6 some fC)
 f128 := Tryz.func303.trans (ae6 some fC)
 f129 := Tryz.func304.trans (ae6 some fC)
 f189 := Tryz.func276.trans (ae6 some fC)
 f215 := Tryz.func314.trans (ae6 some fC)
 f216 := Tryz.func300.trans (ae6 some fC)
 f257 := Tryz.func289.trans (ae6 some fC)
 f294 := Tryz.func294.trans (ae6 some fC)
 f295 := Tryz.func295.trans (ae6 some fC)
 f296 := Tryz.func296.trans (ae6 some fC)
 f297 := Tryz.func297.trans (ae6 some fC)
 f298 := Tryz.func298.trans (ae6 some fC)
 f299 := Tryz.func299.trans (ae6 some fC)
 f300 := Tryz.func301.trans (ae6 some fC)
 f301 := Tryz.func302.trans (ae6 some fC)
 f328 := Tryz.func309.trans (ae6 some fC)
 f329 := Tryz.func310.trans (ae6 some fC)
 f330 := Tryz.func311.trans (ae6 some fC)
 f331 := Tryz.func312.trans (ae6 some fC)
 f332 := Tryz.func313.trans (ae6 some fC)
 f343 := Tryz.func317.trans (ae6 some fC)
 t0 := Tryz.underlying0
 a0 := Tryz.isAgg0
 z0 := Tryz.sizeOf0
 v0 := Tryz.zeroValue0
 t3 := Tryz.underlying3
 a3 := Tryz.isAgg3
 z3 := Tryz.sizeOf3
 v3 := Tryz.zeroValue3
 t4 := Tryz.underlying4
 a4 := Tryz.isAgg4
 z4 := Tryz.sizeOf4
 v4 := Tryz.zeroValue4
 t5 := Tryz.underlying5
 a5 := Tryz.isAgg5
 z5 := Tryz.sizeOf5
 v5 := Tryz.zeroValue5
 t9 := Tryz.underlying9
 a9 := Tryz.isAgg9
 z9 := Tryz.sizeOf9
 v9 := Tryz.zeroValue9
 t28 := Tryz.underlying23
 a28 := Tryz.isAgg23
 z28 := Tryz.sizeOf23
 v28 := Tryz.zeroValue23
 t46 := Tryz.underlying303
 a46 := Tryz.isAgg303
 z46 := Tryz.sizeOf303
 v46 := Tryz.zeroValue303
 t51 := Tryz.underlying329
 a51 := Tryz.isAgg329
 z51 := Tryz.sizeOf329
 v51 := Tryz.zeroValue329
 t53 := Tryz.underlying104
 a53 := Tryz.isAgg104
 z53 := Tryz.sizeOf104
 v53 := Tryz.zeroValue104
 t131 := Tryz.underlying164
 a131 := Tryz.isAgg164
 z131 := Tryz.sizeOf164
 v131 := Tryz.zeroValue164
 t182 := Tryz.underlying355
 a182 := Tryz.isAgg355
 z182 := Tryz.sizeOf355
 v182 := Tryz.zeroValue355
 t183 := Tryz.underlying356
 a183 := Tryz.isAgg356
 z183 := Tryz.sizeOf356
 v183 := Tryz.zeroValue356
 t218 := Tryz.underlying363
 a218 := Tryz.isAgg363
 z218 := Tryz.sizeOf363
 v218 := Tryz.zeroValue363
 t222 := Tryz.underlying251
 a222 := Tryz.isAgg251
 z222 := Tryz.sizeOf251
 v222 := Tryz.zeroValue251
 t228 := Tryz.underlying368
 a228 := Tryz.isAgg368
 z228 := Tryz.sizeOf368
 v228 := Tryz.zeroValue368
 t229 := Tryz.underlying126
 a229 := Tryz.isAgg126
 z229 := Tryz.sizeOf126
 v229 := Tryz.zeroValue126
theorem V8 (sc off cap:Nat) (a':List Int) (w:World) (Gt:Holds (Value.int .i64) w sc off a'.toArray) (V9:sc<w.heap.size) (cc:a'.length<4611686018427387904) :
  Calls d0 276 #[.slice (some ⟨sc,off,none⟩) a'.length cap] w fun e w'=>
   e = .returned (.tuple #[])∧∃ n os,w'=grow (putRow (Value.int .i64) (Sort.ahead w n) sc off (a'.mergeSort fun x y=>decide (x≤y)).toArray) os:=
 Any.slices_Sort_int V7 sc off cap a' w Gt V9 cc
theorem V' (w:World) (p:bU) (v:Value) (a:Int) (h:Rel w p v (.int .i64 a)):v = .int .i64 a:=by cases h;rfl
theorem Ht (b cap:Nat) (l:List Int) (rest:List ah) (aC:l.length<4611686018427387904) :
  bI d0 276 [ee b l.length cap] [(.own b,.box 3 (l.map bg++rest))] (fun o K=>o = .ret (.cr [])∧K=[(.own b,.box 3 ((l.mergeSort fun x y=>decide (x≤y)).map bg++rest))]):=
 bI.sort (α:=Int) (enc:=Value.int .i64) (encA:=bg) (le:=fun x y=>decide (x≤y)) call276 V' (fun w p a => .int _ _) V8 b cap l rest aC
theorem bp.MO {L:bb} {k:bV} {o:dy} {a b:bb} (h:L=a++(k,o)::b):bp L k o (a++b):=by
 subst h;exact bp.app a .here
theorem aJ.ix:∀ {K L:bb},L.Perm K→aJ L K []
  | [],L,h=>by
    have:L=[]:=h.eq_nil;subst this;exact .nil
  | (k,o)::K,L,h=>by
    obtain ⟨a,b,iw⟩:=au0 (h.symm.subset i6);refine .cons (bp.MO iw) (aJ.ix ?_);rw [iw] at h;exact (aB' _).1 (an9.symm.trans h)
theorem MP (s:ao) (L:bb):∀ (sA:bb),(∀ x∈sA,x.1 = .nil)→aU s (sA++L)=aU s L∧(Ok s L→Ok s (sA++L))
  | [],_=>⟨rfl,id⟩
  | (k,o)::sA,h=>by
    have aA:k = .nil:=h (k,o) i6;subst aA;obtain ⟨aa,ad⟩:=MP s L sA fun x ab=>h x (i0 _ ab)
    exact ⟨aa,fun I=>⟨trivial,ad I⟩⟩
theorem bI.frame {P:Program} {f:FuncId} {args:List ah} {K L R:bb} {aeb D:eB→bb→Prop} (h:bI P f args K aeb) (au:aJ L K R) (gi:∀ o aQ,aeb o aQ→∃ sA M,(∀ x∈sA,x.1 = .nil)∧(sA++(aQ++R)).Perm M∧D o M):bI P f args L D:=
 fun s I=>(h.at I au).mono fun o ak ⟨UO,e,yz,aQ,GP,GQ⟩=>by
  subst GP;obtain ⟨sA,M,Wa,aF,dk⟩:=gi o aQ GQ;obtain ⟨jN,vd⟩:=MP s (aQ++R) sA Wa;obtain ⟨aa,ad⟩:=(aJ.ix aF).perm (vd yz);rw [d9] at aa ad;exact ⟨M,e.trans (jN.symm.trans aa),ad,dk⟩
abbrev rp:=Option (Nat×Nat×List ah)
def la:rp→List Int→ah
 | none,_ => .aG 0 [] .nil
 | some (g,cap,_),l=>ee g l.length cap
def j6:rp→List Int→bb
 | none,_=>[]
 | some (g,_,dT),l=>[(.own g,.box 3 (l.map bg++dT))]
def sB:rp→List Int→Prop
 | none,l=>l=[]
 | some (_,cap,dT),l=>l.length+dT.length=cap
structure fZ where
 sp:List Int
 b:Nat
 on:bV
 bt:rp
def iJ (σ:dP) (e:fZ):bb:=pw e.b (σ e.sp) e.on (la e.bt (σ e.sp).bm)++j6 e.bt (σ e.sp).bm
def nu (es:List fZ):SMap:=es.map fun e=>(e.sp,.ptr e.b 0)
def mc (σ:dP) (mb:Nat) (es:List fZ):bb:=rm mb (nu es)::es.flatMap (iJ σ)
structure mR (n:Nat) (k:dn):Prop where
 fY:k.fY<2^64
 no:k.no<2^64
 e3:k.e3.length≤n
 bm:k.bm.length≤n
 num : -1000000000≤k.low∧k.low≤1000000000 ∧ -1000000001≤k.high∧k.high≤1000000000
structure px (n:Nat) (σ:dP) (es:List fZ):Prop where
 four:∀ e∈es,e.sp.length=4
 nodup:(es.map fZ.sp).Nodup
 rest:∀ q,q∉es.map fZ.sp→σ q=iW
 bt:∀ e∈es,sB e.bt (σ e.sp).bm
 mS:∀ q,mR n (σ q)
theorem Wb {es:List fZ} {sp:List Int}:(nu es).find? (fun e=>e.1==sp)=none↔sp∉es.map fZ.sp:=by
 unfold nu;rw [aw1];constructor
 ·intro h hm
  obtain ⟨e,he,rfl⟩:=af8.1 hm;have:=h _ (af8.2 ⟨e,he,rfl⟩);simp at this
 ·intro h x ab
  obtain ⟨e,he,rfl⟩:=af8.1 ab;simp only [am5];intro bW;exact h (af8.2 ⟨e,he,bW⟩)
theorem Wc {es:List fZ} {sp:List Int} {x:List Int×ah} (h:(nu es).find? (fun e=>e.1==sp)=some x):∃ e∈es,e.sp=sp∧x=(e.sp,.ptr e.b 0):=by
 unfold nu at h;have aa:=at3 h;have ad:=ax8 h;obtain ⟨e,he,rfl⟩:=af8.1 aa;exact ⟨e,he,by simpa using ad,rfl⟩
theorem Wd (n:Nat):mR n iW:=⟨by decide,by decide,by simp [iW],by simp [iW],by simp [iW]⟩
theorem MQ (w:bz) (mb n:Nat) (σ:dP) (es:List fZ) (cM:px n σ es) (hN ea dr dG:Int) :
    bI d0 280 [h8 w mb,iI [hN,ea,dr,dG]] (mc σ mb es) (fun o K=>∃ pre e post,e.sp=[hN,ea,dr,dG]∧o = .ret (.ptr e.b 0)∧K=mc σ mb (pre++e::post)∧px n σ (pre++e::post)):=by
  have h:=MJ (.aG 1 [] .nil) (.aG 0 [] .nil) (aZ.nil h4) aT w mb (nu es) (fun e he=>by
    unfold nu at he
    obtain ⟨x,ab,rfl⟩:=af8.1 he
    exact cM.four x ab) hN ea dr dG
  refine bI.frame h (R:=es.flatMap (iJ σ)) (.cons .here .nil) ?_;rintro o aQ (⟨x,ab,rfl,rfl⟩|⟨aX,b,rfl,rfl⟩)
  · obtain ⟨e,he,aa,rfl⟩:=Wc ab
    obtain ⟨pre,post,rfl⟩:=au0 he;exact ⟨[],_,by simp,am4.refl _,pre,e,post,aa,rfl,rfl,cM⟩
  · have h':=Wb.1 aX
    have w5:=cM.rest _ h';refine ⟨[(.nil,.row 3 1 0)],mc σ mb (es++[⟨[hN,ea,dr,dG],b,.nil,none⟩]),by simp,?_,es,⟨[hN,ea,dr,dG],b,.nil,none⟩,[],rfl,rfl,rfl,?_⟩
    · have b6:iJ σ ⟨[hN,ea,dr,dG],b,.nil,none⟩=[(.own b,.box 340 MI),(.nil,.row 3 1 0)]:=by
        unfold iJ;rw [w5];rfl
      unfold mc;rw [av7,List.flatMap_singleton,b6];have bW:nu (es++[⟨[hN,ea,dr,dG],b,.nil,none⟩])=nu es++[([hN,ea,dr,dG],.ptr b 0)]:=by unfold nu;rw [ae1];rfl
      rw [bW];refine (am4.swap _ _ _).trans (am4.cons _ ((am4.swap _ _ _).trans ?_));exact as4 (l₁:=[(.own b,.box 340 MI),(.nil,.row 3 1 0)]) (l₂:=es.flatMap (iJ σ))
    · refine ⟨fun e he=>?_,?_,fun q bn=>cM.rest q (fun hm=>bn (by rw [ae1];exact ai7 _ hm)),fun e he=>?_,cM.mS⟩
      · rcases ae2.1 he with he|he
        · exact cM.four e he
        · rw [t6] at he;subst he;rfl
      · rw [ae1,ap4]
        refine ⟨cM.nodup,by simp,fun a aO b an=>?_⟩;rw [List.map_singleton,t6] at an;subst an;intro e;subst e;exact h' aO
      · rcases ae2.1 he with he|he
        · exact cM.bt e he
        · rw [t6] at he;subst he
          show (σ _).bm=[];rw [w5];rfl
def vg (g:Nat) (l:List Int) (dT:List ah):bb:=[(.own g,.box 3 (l.map bg++dT))]
theorem We (g cap:Nat) (l:List Int) (dT:List ah) (n:Int) (aC:l.length<bx):bI d0 92 [ee g l.length cap,.int .i64 n] (vg g l dT) (fun o K=>o = .ret (.int .i64 (match l.findIdx? (· == n) with
  | some i=>(i:Int)
  | none => -1))∧K=vg g l dT):=by
 have an:=bE;refine bI.bl al Tryz.func92 C C fun s I=>?_
 unfold vg at I ⊢;refine dS ?_;refine ae.tI al C C C C C C C ?_;refine eh ?_;refine af.ck [0,1,7] C I (σ:=Nat) (fun j=>[(8,.int .i64 (j:Int))]) (fun _=>vg g l dT) (fun j=>j≤l.length∧∀ i,i<j→l[i]? ≠ some n) (fun j=>l.length-j) 0 ⟨g9 _,fun i aS=>absurd aS (an6 _)⟩ (cK C) (aJ.all _) ?_;rintro j ⟨aI,aw⟩ I;unfold vg at I ⊢;refine cf ?_;refine af.cond C (fun az=>?_) (fun a7=>?_);rotate_left
 ·have a7:j=l.length:=by simp at a7;omega
  have ab:l.findIdx? (· == n)=none:=by
   rw [ai0];intro z bG;obtain ⟨i,aS⟩:=af' bG;have aa:=se aS;have ad:=aw i ag;simp only [beq_eq_false_iff_ne];intro e;subst e;exact ad aS
  rw [ab];refine ew ?_;exact Fin.bC I C aT (aJ.all _) ⟨rfl,rfl⟩
 have az:j<l.length:=by simpa using az
 obtain ⟨y,ax⟩:∃ y,l[j]? = some y:=⟨_,d8 az⟩;have dc:(l.map bg++dT)[j]? = some (.int .i64 y):=by
  rw [af9 (by simpa using az)];simp [ax,bg]
 refine bK ?_;refine ae.gF al j C C C C C C C C C C az ?_;refine ae.lF al I C C C C C C a' C (by show (l.map bg++dT)[j*1]? = _;rw [Nat.mul_one];exact dc) ?_;refine gj ?_;refine af.cond C (fun aB=>?_) (fun aB=>?_)
 ·have aB:n=y:=by simpa using aB
  subst aB;have ab:l.findIdx? (· == n)=some j:=by
   rw [ag9];refine ⟨az,by simpa using (t7.1 ax).2,fun i aS=>?_⟩;have:=aw i aS;rw [d8 ag] at this;simpa using this
  rw [ab];refine jK ?_;exact Fin.bC I C aT (aJ.all _) ⟨rfl,rfl⟩
 ·have aB:n≠y:=by simpa using aB
  refine fV ?_;refine bD.mk (j+1) I ⟨az,fun i aS=>?_⟩ cA (aJ.all _) rn;rcases ah7.1 aS with aS|rfl
  ·exact aw i aS
  ·rw [ax];intro e;cases e;exact aB C
theorem MR (g cap:Nat) (l:List Int) (dT:List ah) (n:Int) (aC:l.length<bx):bI d0 43 [ee g l.length cap,.int .i64 n] (vg g l dT) (fun o K=>o = .ret (.bool (l.contains n))∧K=vg g l dT):=by
 rw [← Li];have h:=We g cap l dT n aC;refine bI.bl al Tryz.func43 C C fun s I=>?_
 refine dS ?_;refine ae.b4 rfl rfl rfl rfl rfl h I (aJ.all _) ?_ (fun _ _ ⟨h,_⟩ _=>by cases h);rintro _ _ ⟨⟨⟩,rfl⟩ I;rw [d9] at I ⊢;refine ep ?_;exact Fin.bC I C aT (aJ.all _) ⟨rfl,rfl⟩
theorem Wf (bt:rp) (l:List Int) (n:Int) (au:sB bt l) (aC:l.length<bx):bI d0 43 [la bt l,.int .i64 n] (j6 bt l) (fun o K=>o = .ret (.bool (l.contains n))∧K=j6 bt l):=by
 cases bt with
 | none=>
  have:l=[]:=au;subst this;have h:=yw [] n dV;unfold bj at h;have h:=aV.args (show cS [.aG 0 [] .nil,.int .i64 n] [.aG 1 ([].map bg) .bd,.int .i64 n] from .cons aZ.empty (.one aT)) h;exact fun s _=>hl.mono (h s) (fun o ak ⟨aa,ad⟩=>⟨[],ad,trivial,aa,rfl⟩)
 | some x=>
  obtain ⟨g,cap,dT⟩:=x;exact MR g cap l dT n aC
def yQ (σ:dP) (mb:Nat) (pre:List fZ) (e:fZ) (post:List fZ):bb:=rm mb (nu (pre++e::post))::(pre.flatMap (iJ σ)++post.flatMap (iJ σ))
theorem DQ (σ:dP) (mb:Nat) (pre:List fZ) (e:fZ) (post:List fZ):(mc σ mb (pre++e::post)).Perm (iJ σ e++yQ σ mb pre e post):=by
 unfold mc yQ;rw [av7,aj5];refine (am4.cons _ ?_).trans an9.symm;exact av' _ _ _
theorem Wg {σ σ':dP} {mb:Nat} {pre:List fZ} {e e':fZ} {post:List fZ} (gA:e'.sp=e.sp) (an:e'.b=e.b) (au:∀ x∈pre++post,σ' x.sp=σ x.sp):(iJ σ' e'++yQ σ mb pre e post).Perm (mc σ' mb (pre++e'::post)):=by
 have aa:nu (pre++e'::post)=nu (pre++e::post):=by unfold nu;simp [gA,an]
 have ad:∀ l:List fZ,(∀ x∈l,σ' x.sp=σ x.sp)→l.flatMap (iJ σ')=l.flatMap (iJ σ):=fun l aC=>by
  induction l with
  | nil=>rfl
  | cons x r aW=>
   rw [aj5,aj5,aW (fun y ax=>aC y (i0 _ ax))];unfold iJ;rw [aC x i6]
 refine am4.trans ?_ (DQ σ' mb pre e' post).symm;unfold yQ;rw [aa,ad pre (fun x ab=>au x (ai7 _ ab)),ad post (fun x ab=>au x (an8 _ ab))]
theorem px.apart {n:Nat} {σ:dP} {pre:List fZ} {e:fZ} {post:List fZ} (h:px n σ (pre++e::post)):∀ x∈pre++post,x.sp≠e.sp:=by
 have aB:=h.nodup;rw [ae1,ae0,ap4] at aB;obtain ⟨aa,ad,aj⟩:=aB;intro x ab bW;rcases ae2.1 ab with ab|ab
 ·exact aj x.sp (af8.2 ⟨x,ab,rfl⟩) e.sp i6 bW
 ·rw [List.nodup_cons] at ad
  exact ad.1 (af8.2 ⟨x,ab,bW⟩)
theorem px.hW {n m:Nat} {σ:dP} {pre:List fZ} {e e':fZ} {post:List fZ} (h:px n σ (pre++e::post)) (gA:e'.sp=e.sp) (acS:n≤m) {k:dn} (aA:mR m k) (db:sB e'.bt k.bm):px m (σ.hW e.sp k) (pre++e'::post):=by
 have aO:=h.apart;have hm:(pre++e'::post).map fZ.sp=(pre++e::post).map fZ.sp:=by simp [gA]
 refine ⟨fun x ab=>?_,by rw [hm];exact h.nodup,fun q bn=>?_,fun x ab=>?_,fun q=>?_⟩
 ·rcases ae2.1 ab with ab|ab
  ·exact h.four x (ai7 _ ab)
  ·rcases ae8.1 ab with rfl|ab
   ·rw [gA];exact h.four e bc
   ·exact h.four x (by simp [ab])
 ·rw [hm] at bn
  unfold dP.hW;rw [d7 (fun bW=>bn (by rw [bW];simp))];exact h.rest q bn
 ·by_cases MS:x=e'
  ·subst MS
   unfold dP.hW;rw [f7 gA];exact db
  ·have ab:x∈pre++post:=by
    rcases ae2.1 ab with ab|ab
    ·exact ai7 _ ab
    ·rcases ae8.1 ab with rfl|ab
     ·exact absurd C MS
     ·exact an8 _ ab
   unfold dP.hW;rw [d7 (aO x ab)];exact h.bt x (by rcases ae2.1 ab with ab|ab<;>simp [ab])
 ·unfold dP.hW
  split
  ·exact aA
  ·obtain ⟨df,a2,a3,a4,a5⟩:=h.mS q
   exact ⟨df,a2,by omega,by omega,a5⟩
theorem bp.Hu {L R:bb} {k:bV} {o:dy} (h:bp L k o R):L.Perm ((k,o)::R):=by
 induction h with
 | here=>exact .refl _
 | there _ aW=>exact (am4.cons _ aW).trans (am4.swap _ _ _)
theorem aJ.Hu {L K R:bb} (h:aJ L K R):L.Perm (K++R):=by
 induction h with
 | nil=>exact .refl _
 | cons h t aW=>exact h.Hu.trans (am4.cons _ aW)
theorem aJ.Wh {L A B:bb} (h:aJ L A []) (p:A.Perm B):aJ L B []:=aJ.ix ((by have:=h.Hu;rw [d9] at this;exact this:L.Perm A).trans p)
theorem Wi (arg:Int) (path:List Int) (j:Nat) (bt:Int) (aI:path[j]? = some bt) (ad:j<2) :
  aV d0 281 [iI (bu arg (path.take j)),.int .i64 bt] (iI (bu arg (path.take (j+1)))):=by
 match path,j,aI,ad with
 | a::r,0,aI,_=>
  have:a=bt:=by simpa using aI
  subst this;exact MK arg 0 0 a
 | a::b::r,1,aI,_=>
  have:b=bt:=by simpa using aI
  subst this;exact ML arg a 0 b
theorem Wj {σ:dP} {e e':fZ} {k:dn} (h:e'.sp=e.sp):iJ (σ.hW e.sp k) e'=pw e'.b k e'.on (la e'.bt k.bm)++j6 e'.bt k.bm:=by
 unfold iJ dP.hW;rw [f7 h]
theorem Wk (bt:rp) (l:List Int):fb (la bt l)=true:=by
 cases bt with
 | none=>rfl
 | some x=>rfl
theorem Wl (arg:Int):bu arg []=[arg,0,0,0]:=rfl
def kM (bS:Nat) (sp:List Int) (σ:dP) (mb:Nat) (pre:List fZ) (e:fZ) (post:List fZ) (kb:Nat) (k:dn) (on:bV) (bt:rp):bb:=
 (.own bS,.box 319 (sp.map (ah.int .i64)))::(.own kb,.box 340 (kL k (.aG 1 (k.e3.map bg) on) (la bt k.bm)))::(on,.row 3 1 k.e3.length)::(j6 bt k.bm++yQ σ mb pre e post)
theorem MT (bS:Nat) (sp:List Int) (σ:dP) (mb:Nat) (pre:List fZ) (e:fZ) (post:List fZ):(mc σ mb (pre++e::post)++[((bV.own bS,dy.box 319 (sp.map (ah.int .i64))):bV×dy)]).Perm (kM bS sp σ mb pre e post e.b (σ e.sp) e.on e.bt):=
 (as4.trans (am4.cons _ (DQ σ mb pre e post)))
theorem DR {bS:Nat} {sp:List Int} {σ:dP} {mb n:Nat} {pre:List fZ} {e:fZ} {post:List fZ} (cM:px n σ (pre++e::post)) (k:dn) (on:bV) (bt:rp):(kM bS sp σ mb pre e post e.b k on bt).Perm ((.own bS,.box 319 (sp.map (ah.int .i64)))::mc (σ.hW e.sp k) mb (pre++⟨e.sp,e.b,on,bt⟩::post)):=by
 refine am4.cons _ ?_;have h:=Wg (σ:=σ) (σ':=σ.hW e.sp k) (mb:=mb) (pre:=pre) (e:=e) (e':=⟨e.sp,e.b,on,bt⟩) (post:=post) C C (fun x ab=>by unfold dP.hW;rw [d7 (cM.apart x ab)]);rw [Wj (e:=e) (e':=⟨e.sp,e.b,on,bt⟩) C] at h;exact h
theorem mR.mono {n m:Nat} (h:n≤m) {k:dn} (aA:mR n k):mR m k:=⟨aA.fY,aA.no,by have:=aA.e3;omega,by have:=aA.bm;omega,aA.num⟩
theorem Wm (s:Int) (l:List Int):(nn s l).length≤l.length+1:=by
 unfold nn;split
 ·omega
 ·rw [as5];simp
theorem aJ.Wn {L A B:bb} (h:L.Perm (A++B)):∃ R,aJ L A R:=by
 induction A generalizing L with
 | nil=>exact ⟨L,.nil⟩
 | cons x A aW=>
  obtain ⟨k,o⟩:=x;obtain ⟨a,b,iw⟩:=au0 (h.symm.subset (ai7 _ i6));rw [iw] at h;have ad:(a++b).Perm (A++B):=(aB' _).1 (an9.symm.trans h);obtain ⟨R,dW⟩:=aW ad;exact ⟨R,.cons (bp.MO iw) dW⟩
theorem mR.need {n:Nat} {k:dn} (h:mR n k) (neg:Bool):mR n (k.need neg):=⟨h.fY,h.no,h.e3,h.bm,h.num⟩
theorem mR.slot {n:Nat} {k:dn} (h:mR n k) (s:Int):mR (n+1) (k.slot s):=⟨h.fY,h.no,by have:=h.e3;show k.e3.length≤_;omega,by have:=h.bm;have:=Wm s k.bm;show (nn s k.bm).length≤_;omega,h.num⟩
theorem mR.ask {n:Nat} {k:dn} (h:mR n k) {w:bz} (hw:w.ps.length≤60) {x:cv} (ab:tT w x):mR (n+1) (k.ask x):=by
 have hJ:=w7.of ab.node ab.leaf;have oF:=ab.num;obtain ⟨aa,ad,aj,a8,bB⟩:=h;unfold dn.ask;split
 ·rename_i b1
  have aD:=hJ.cls b1;have aF:2^x.1.cls.toNat<2^64:=ai6 ag ag;split
  ·exact ⟨aa,aj0 ad aF,by simp only;omega,by simp only;omega,bB⟩
  ·exact ⟨aj0 aa aF,ad,by simp only;omega,by simp only;omega,bB⟩
 ·split
  ·split
   ·exact ⟨aa,ad,by simp only;omega,by simp only;omega,by simp only;omega⟩
   ·exact ⟨aa,ad,by simp only;omega,by simp only;omega,by simp only;omega⟩
  ·split
   ·exact ⟨aa,ad,by simp only [f9,ag8];omega,by simp only;omega,bB⟩
   ·exact ⟨aa,ad,by simp only;omega,by simp only;omega,by simp only;omega⟩
theorem MU (k:dn) (x:cv):(k.ask x).bm=k.bm:=by
 unfold dn.ask;split
 ·split<;>rfl
 ·split
  ·split<;>rfl
  ·split<;>rfl
theorem Wo (w:bz) (hw:w.ps.length≤60) (mb n:Nat) (σ:dP) (es:List fZ) (cM:px n σ es) (aB:n+3<bx) (x:cv) (ab:tT w x) :
  bI d0 269 [h8 w mb,h7 x] (mc σ mb es) (fun o K=>o = .ret (.cr [])∧∃ dv,K=mc (addLit σ x) mb dv∧px (n+3) (addLit σ x) dv):=by
 have an:=bE;have hJ:=w7.of ab.node ab.leaf;have Hv:=MQ w mb n σ es cM x.1.arg 0 0 0;obtain ⟨f,neg⟩:=x;simp only at hJ Hv;have gX:=hJ.path;refine bI.bl al Tryz.func269 C C fun s I=>?_
 unfold h8 at Hv;unfold h7 p7 av.cells;unfold h8
 repeat (first|(refine K5 I ?_;clear I;intro I)|refine ae.dZ al I rfl rfl rfl rfl rfl rfl rfl (fun cB I=>?_))
 refine ae.b4 rfl rfl rfl rfl rfl Hv I (aJ.all _).there ?_ (fun _ _ ⟨_,_,_,_,h,_⟩ _=>by cases h);rintro _ _ ⟨pre,e,post,gA,⟨⟩,rfl,cM⟩ I;refine ae.run al C (ae.nil ?_);refine b0 ?_;refine af.mF I (kM cB (bu f.arg []) σ mb pre e post e.b (σ e.sp) e.on e.bt) (aJ.ix (MT cB (bu f.arg []) σ mb pre e post)) (fun aA=>?_);revert aA
 repeat clear I
 intro I;refine af.TI (σ:=Unit) (fun _=>[(0,h8 w mb),(3,.bA (p7 (f,neg)) 0),(4,.ptr cB 0),(5,.ptr e.b 0) ]) (fun _=>kM cB (bu f.arg []) σ mb pre e post e.b ((σ e.sp).need neg) e.on e.bt) (fun _=>True) ?_ ?_
 ·unfold kM kL dn.need
  unfold kM kL at I;cases ez:(σ e.sp).gz<;>rw [ez] at I<;>cases neg
  all_goals
   refine ct I ?_;intro I;exact l3.mk () I trivial (cK C) DO
 rintro _-I;refine hp ?_;refine af.ck [0,3,4,29,30] C I (σ:=Nat×List fZ×fZ×List fZ) (fun q=>[(31,.int .i64 (q.1:Int)),(5,.ptr q.2.2.1.b 0)]) (fun q=>(.own cB,.box 319 ((bu f.arg (f.path.take q.1)).map (ah.int .i64)))::mc (hd neg f.arg f.path q.1 σ) mb (q.2.1++q.2.2.1::q.2.2.2))
  (fun q=>q.1≤f.path.length∧q.2.2.1.sp=bu f.arg (f.path.take q.1)∧px (n+q.1) (hd neg f.arg f.path q.1 σ) (q.2.1++q.2.2.1::q.2.2.2)) (fun q=>f.path.length-q.1) (0,pre,e,post) ⟨g9 _,gA,?_⟩ (cK C) (aJ.ix ?_) ?_
 ·have:=cM.hW (e':=e) C (g7 _) ((cM.mS e.sp).need neg) (cM.bt e bc)
  rw [gA] at this;exact this
 ·have bo:hd neg f.arg f.path 0 σ=σ.hW e.sp ((σ e.sp).need neg):=by rw [hd,Wl,gA]
  show am4 _ (((bV.own cB,dy.box 319 ((bu f.arg []).map (ah.int .i64))):bV×dy)::mc (hd neg f.arg f.path 0 σ) mb (pre++e::post));rw [bo];exact DR (mb:=mb) (bS:=cB) (sp:=bu f.arg []) cM ((σ e.sp).need neg) e.on e.bt
 rintro ⟨j,pre,e,post⟩ ⟨aI,gA,cM⟩ I;simp only at aI gA cM I ⊢;generalize b8:hd neg f.arg f.path j σ=S at cM I ⊢;have aA:=cM.mS e.sp;refine cf ?_;refine af.cond C (fun az=>?_) (fun a7=>?_);rotate_left
 ·have a7:j=f.path.length:=by simp at a7;omega
  subst a7;rw [af1] at gA I ⊢;have aE:addLit σ (f,neg)=S.hW e.sp ((S e.sp).ask (f,neg)):=by
   unfold addLit;simp only;rw [b8,gA]
  have MV:=V5 w hw e.b (S e.sp) ⟨aA.fY,aA.no,by have:=aA.e3;omega⟩ aA.num e.on (la e.bt (S e.sp).bm) (Wk _ _) (f,neg) ab;refine af.mF I (kM cB (bu f.arg f.path) S mb pre e post e.b (S e.sp) e.on e.bt) (aJ.ix (am4.cons _ (DQ S mb pre e post))) (fun aA=>?_);revert aA
  repeat clear I
  intro I;unfold h7 p7 av.cells at MV;unfold kM at I ⊢;refine bK ?_;refine ae.b4 rfl rfl rfl rfl rfl MV I (.cons (.there .here) (.cons (.there .here) .nil)) ?_ (fun _ _ ⟨h,_⟩ _=>by cases h);rintro _ _ ⟨⟨⟩,xc,rfl⟩ I;refine gj ?_;have qA:=DR (mb:=mb) (bS:=cB) (sp:=bu f.arg f.path) cM ((S e.sp).ask (f,neg)) xc e.bt;rw [← aE] at qA;unfold kM at qA;rw [MU] at qA;have Bd:(pw e.b ((S e.sp).ask (f,neg)) xc (la e.bt (S e.sp).bm)++((.own cB,.box 319 ((bu f.arg f.path).map (ah.int .i64)))::(j6 e.bt (S e.sp).bm++yQ S mb pre e post))).Perm (mc (addLit σ (f,neg)) mb (pre++⟨e.sp,e.b,xc,e.bt⟩::post)++[(.own cB,.box 319 ((bu f.arg f.path).map (ah.int .i64)))]):=by
   refine am4.trans ?_ ((qA.trans ?_))
   ·exact an9 (l₁:=pw e.b ((S e.sp).ask (f,neg)) xc (la e.bt (S e.sp).bm))
   ·exact as4 (l₁:=[((bV.own cB,dy.box 319 ((bu f.arg f.path).map (ah.int .i64))):bV×dy)])
  obtain ⟨du,Wp⟩:=aJ.Wn Bd;refine Fin.bC I C aT Wp ⟨rfl,_,rfl,?_⟩;rw [aE];refine cM.hW (e':=⟨e.sp,e.b,xc,e.bt⟩) C ag ((aA.ask hw ab).mono ag) ?_;rw [MU];exact cM.bt e bc
 have az:j<f.path.length:=by simpa using az
 obtain ⟨bt,ax,dc⟩:=b7 (f:=fun i=>ah.int .i64 i) az;have k1:f.path.getD j 0=bt:=by rw [d5,ax];rfl
 have xd:=cM.bt e bc;have sf:=Wi f.arg f.path j bt ax ag;have pO:=aA.bm;refine af.mF I (kM cB (bu f.arg (f.path.take j)) S mb pre e post e.b (S e.sp) e.on e.bt) (aJ.ix (am4.cons _ (DQ S mb pre e post))) (fun aA=>?_);revert aA
 repeat clear I
 intro I;unfold kM kL at I ⊢;refine ct I ?_;intro I;refine ae.b4 rfl rfl rfl rfl rfl (Wf e.bt (S e.sp).bm bt xd ag) I (aJ.jx (aJ.all _)).there.there.there ?_ (fun _ _ ⟨h,_⟩ _=>by cases h);rintro _ _ ⟨⟨⟩,rfl⟩ I;refine ae.mF I (kM cB (bu f.arg (f.path.take j)) S mb pre e post e.b (S e.sp) e.on e.bt) (aJ.ix ((an9 (l₁:=j6 e.bt (S e.sp).bm)).trans (.cons _ ((an9 (l₁:=j6 e.bt (S e.sp).bm)).trans (.cons _ ((an9 (l₁:=j6 e.bt (S e.sp).bm)).trans (.refl _))))))) (fun aA=>?_);revert aA
 repeat clear I
 intro I;refine ae.run al C (ae.nil ?_);refine b0 ?_;refine af.yq (σ:=rp) (fun _=>[(0,h8 w mb),(3,.bA (p7 (f,neg)) 0),(4,.ptr cB 0),(5,.ptr e.b 0),(7,.int .i64 bt),(29,.aG 1 (f.path.map fun i => .int .i64 i) .bd),(30,.int .i64 ((f.path.map fun i=>ah.int .i64 i).length:Int)),(31,.int .i64 (j:Int))]) (fun rq=>kM cB (bu f.arg (f.path.take j)) S mb pre e post e.b ((S e.sp).slot bt) e.on rq) (fun rq=>sB rq (nn bt (S e.sp).bm)) ?_ ?_
 ·cases aD:(S e.sp).bm.contains bt with
  | true=>
   have aS:nn bt (S e.sp).bm=(S e.sp).bm:=by unfold nn;rw [f7 aD]
   unfold kM dn.slot at *;rw [aS];refine ki ?_;exact l3.mk e.bt I xd (cK C) (by simp only [aS];exact aJ.all _)
  | false=>
   have aS:nn bt (S e.sp).bm=((S e.sp).bm++[bt]).mergeSort (fun a b=>decide (a≤b)):=by unfold nn;rw [d7 (by rw [aD];simp)]
   have me:(nn bt (S e.sp).bm).length=(S e.sp).bm.length+1:=by rw [aS,as5];simp
   rcases db:e.bt with _|⟨g,cap,dT⟩
   ·have bo:(S e.sp).bm=[]:=by rw [db] at xd;exact xd
    rw [bo] at aS me;unfold kM kL dn.slot at *;rw [db] at I;rw [bo] at I ⊢;refine ct I ?_;intro I;refine ae.Dk al I C C C C C C C eH C C C C C C C (by show 1*8≤_;omega) (fun aY cb cs' aa ad aj I=>?_)
    obtain ⟨dT,rfl⟩:∃ dT,cs'=[bt].map bg++dT:=⟨cs'.drop 1,by
     have:=ah' 1 cs'
     rw [aj] at this
     exact this.symm⟩
    refine ct I ?_;intro I;refine ae.b4 rfl rfl rfl rfl rfl (Ht aY cb [bt] dT bc) I (.cons a' .nil) ?_ (fun _ _ ⟨h,_⟩ _=>by cases h);rintro _ _ ⟨⟨⟩,rfl⟩ I;refine gj ?_;exact l3.mk (some (aY,cb,dT)) I (by show (nn bt []).length+dT.length=cb;rw [me];simp at aa ⊢;omega) (cK C) (by simp only [la,j6,me];rw [aS];exact DO)
   ·rw [db] at xd
    have xd:(S e.sp).bm.length+dT.length=cap:=xd;unfold kM kL dn.slot at *;rw [db] at I;simp only [j6,ab',f0] at I ⊢;refine ct I ?_;intro I;refine ae.Dl al I C C C C C C C eH C C C C a' cL ag Hr C C C (by show _*8≤_;omega) ag (fun aY cb cs' aa ad aj I=>?_)
    obtain ⟨nv,rfl⟩:∃ nv,cs'=((S e.sp).bm++[bt]).map bg++nv:=⟨cs'.drop ((S e.sp).bm.length+1),by
     have:=ah' ((S e.sp).bm.length+1) cs'
     rw [aq4 bc] at aj
     rw [aj] at this
     rw [ae1]
     exact this.symm⟩
    refine ct I ?_;intro I;have MW:=Ht aY cb ((S e.sp).bm++[bt]) nv cL;rw [f9,ag8] at MW;refine ae.b4 rfl rfl rfl rfl rfl MW I (.cons a' .nil) ?_ (fun _ _ ⟨h,_⟩ _=>by cases h);rintro _ _ ⟨⟨⟩,rfl⟩ I;refine gj ?_;exact l3.mk (some (aY,cb,nv)) I (by show (nn bt _).length+nv.length=cb;rw [me];simp at aa ⊢;omega) (cK C) (by simp only [la,j6,me];rw [aS];exact DO)
 rintro rq xe I;have jj:=cM.hW (e':=⟨e.sp,e.b,e.on,rq⟩) C (aA5 (n+j)) (aA.slot bt) xe;have Hw:=MQ w mb _ _ _ jj f.arg ((f.path.take (j+1)).length:Int) ((f.path.take (j+1)).getD 0 0) ((f.path.take (j+1)).getD 1 0);generalize MX:S.hW e.sp ((S e.sp).slot bt)=sC at Hw jj;unfold h8 at Hw;unfold kM kL at I ⊢;unfold h8;unfold iI at sf;refine ct I ?_;intro I;refine ae.mF I (((bV.own cB,dy.box 319 ((bu f.arg (f.path.take (j+1))).map (ah.int .i64))):bV×dy)::mc sC mb (pre++⟨e.sp,e.b,e.on,rq⟩::post)) (aJ.ix (by rw [← MX];exact DR (mb:=mb) (bS:=cB) (sp:=bu f.arg (f.path.take (j+1))) cM ((S e.sp).slot bt) e.on rq)) (fun aA=>?_);revert aA
 repeat clear I
 intro I;refine ae.b4 rfl rfl rfl rfl rfl Hw I (aJ.all _).there ?_ (fun _ _ ⟨_,_,_,_,h,_⟩ _=>by cases h);rintro _ _ ⟨yR,bW,yS,MY,⟨⟩,rfl,vh⟩ I;refine ae.run al C (ae.nil ?_);refine b0 ?_;refine af.mF I (kM cB (bu f.arg (f.path.take (j+1))) sC mb yR bW yS bW.b (sC bW.sp) bW.on bW.bt) (aJ.ix (MT cB (bu f.arg (f.path.take (j+1))) sC mb yR bW yS)) (fun aA=>?_);revert aA
 repeat clear I
 intro I;have wJ:hd neg f.arg f.path (j+1) σ=sC.hW bW.sp ((sC bW.sp).need neg):=by
  rw [hd]
  try simp only
  rw [b8,k1,← gA,MX];have:bu f.arg (f.path.take (j+1))=bW.sp:=MY.symm;rw [this]
 have Bd:(kM cB (bu f.arg (f.path.take (j+1))) sC mb yR bW yS bW.b ((sC bW.sp).need neg) bW.on bW.bt).Perm (((bV.own cB,dy.box 319 ((bu f.arg (f.path.take (j+1))).map (ah.int .i64))):bV×dy)::mc (hd neg f.arg f.path (j+1) σ) mb (yR++bW::yS)):=by
  rw [wJ];exact DR (mb:=mb) (bS:=cB) (sp:=bu f.arg (f.path.take (j+1))) vh ((sC bW.sp).need neg) bW.on bW.bt
 have Wq:px (n+(j+1)) (hd neg f.arg f.path (j+1) σ) (yR++bW::yS):=by
  have:=vh.hW (e':=bW) C (g7 _) ((vh.mS bW.sp).need neg) (vh.bt bW bc);rw [← wJ] at this;exact this
 unfold kM kL dn.need at Bd;unfold kM kL at I ⊢;cases ez:(sC bW.sp).gz<;>rw [ez] at I Bd<;>cases neg
 all_goals
  refine hq I ?_;intro I;exact bD.mk (j+1,yR,bW,yS) I ⟨az,MY,Wq⟩ cA (aJ.Wh DO Bd) (by show f.path.length-(j+1)<f.path.length-j;omega)
section
variable {P:Program} {Γ:cw} {N:Nat} {env:Env} {s:ao} {ops:Array Oper} {rest:List Oper} {Q:b3→Env→ao→Prop} {L R:bb}
theorem dw.Hx {B:fQ} {ro:Option Nat} {a:Act} {w:World} {p:bU} (h:dw N B ro env s a w p) {kb b n cap i:Nat} {T xf:TypeId} {cells cs:List ah} (cP:kb≠b) (j7:s kb=some (.box T cells)) (aD:cells[i]? = some (ee b n cap)) (au:s b=some (.box xf cs)) (b9:cs.length=cap) (aB:n≤cap) (hm:n≤9223372036854775807)
  (iD:(cs.take n).all fb=true):∃ bh,dw N B ro env ((s.del b).set kb (.box T (cells.set i (.aG 1 (cs.take n) .bd)))) a w bh∧de w p w bh∧Kept s ((s.del b).set kb (.box T (cells.set i (.aG 1 (cs.take n) .bd)))) w p w bh:=by
 obtain ⟨vs,aa,ad,aj⟩:=h.wf.obj _ _ au;have az:b<w.heap.size:=(t8.1 aa).1;have hle:de w p w (p.dX b True):=⟨rfl,rfl,rfl,g7 _,fun _ _ h => .inl h,fun _ _ _=>rfl,fun _ _ h=>h⟩;have db:∀ v,Rel w p v (ee b n cap)→Rel w (p.dX b True) v (.aG 1 (cs.take n) .bd):=by
  intro v aE;cases aE;have hL:=ad.take n;have wR:=qJ hL iD;have kz:=tD wR;refine .aG b 0 n cap 1 (vs.toList.take n) (cs.take n) .bd bc x0 ?_ (hL.mono hle) (fun v ar=>by rw [Aw (wR v ar)];rfl) hm aB (fun h=>by cases h) (fun b h=>by cases h);rw [kz];intro i v aS;refine ⟨.inr ⟨rfl,trivial⟩,?_⟩;rw [af6,jH aa];rw [ai2] at aS;split at aS
  ·simpa using aS
  ·cases aS
 have aA:Kept s ((s.del b).set kb (.box T (cells.set i (.aG 1 (cs.take n) .bd)))) w p w (p.dX b True):=⟨fun _ _ _=>rfl,fun aY an gL=>by
  have a8:aY≠kb:=fun e=>by subst e;rw [j7] at gL;cases gL
  rw [ao.fA _ _ a8]
  by_cases e:aY=b
  ·subst e;exact ao.nL _ _
  ·rw [ao.m3 _ e];exact gL,fun aY o an gL aF=>by
   rcases aF with aF|⟨rfl,_⟩
   ·exact aF
   ·rw [au] at gL;cases gL⟩
 have ca:dq w (p.dX b True) ((s.del b).set kb (.box T (cells.set i (.aG 1 (cs.take n) .bd)))):=by
  refine ⟨fun aY o an=>?_,fun aY o aF=>by rcases aF with aF|⟨rfl,_⟩;exact h.wf.lt _ _ aF;exact az⟩;have fa:aY≠b→∀ o,p.dX b True aY o↔p aY o:=fun e o=>⟨fun aF=>by rcases aF with aF|⟨e',_⟩;exact aF;exact absurd e' e,.inl⟩
  by_cases jG:aY=kb
  ·subst jG
   rw [ao.gr] at an;cases an;obtain ⟨us,g1,g2,g3⟩:=h.wf.obj _ _ j7;obtain ⟨v,uI,m5⟩:=g2.get aD;have bB:=(g2.mono hle).set i (db v m5);have gp:us.toList.set i v=us.toList:=by
    apply ap5;intro k;rw [au4];split
    ·rename_i e;subst e
     split
     ·rw [uI]
     ·rename_i az;rw [ak4 ag]
    ·rfl
   rw [gp] at bB;exact ⟨us,g1,bB,fun o aF=>g3 o ((fa cP o).1 aF)⟩
  rw [ao.fA _ _ jG] at an;by_cases e:aY=b
  ·subst e;rw [ao.nL] at an;cases an
  ·rw [ao.m3 _ e] at an
   have ai:=h.wf.obj aY o an;have fa:=fa e;cases o with
   | box t c=>obtain ⟨us,g1,g2,g3⟩:=ai;exact ⟨us,g1,g2.mono hle,fun o aF=>g3 o ((fa o).1 aF)⟩
   | row t sz n=>obtain ⟨cur,g1,g2,g3,g4⟩:=ai;exact ⟨cur,g1,g2,g3,fun o=>(fa o).trans (g4 o)⟩
   | map es=>obtain ⟨cQ,c,g1,g2,g3⟩:=ai;exact ⟨cQ,c,g1,⟨g2.1.mono hle,g2.2.mono hle⟩,g3⟩
   | lp es it l c=>exact ai.qD hle C C
   | tick m=>exact ai
   | loop r env=>exact ⟨ai.1,fun t v h=>(ai.2 t v h).mono hle⟩
 exact ⟨_,h.step hle aA ca,hle,aA⟩
theorem MZ {kb b:Nat} {o o' o'':dy} {du:bb} (I:Ok s L) (aa:bp L (.own kb) o R) (ad:bp R (.own b) o' du):kb≠b∧aU s L kb=some o∧aU s L b=some o'∧((aU s L).del b).set kb o''=aU s ((.own kb,o'')::du)∧Ok s ((.own kb,o'')::du):=by
 obtain ⟨b6,cu⟩:=aa.perm I;have M0:gone (aU s R) (.own kb)∧Ok s R:=cu;obtain ⟨bW,c2⟩:=ad.perm M0.2;have M1:gone (aU s du) (.own b)∧Ok s du:=c2;have eN:aU s L=((aU s du).set b o').set kb o:=by rw [b6];show l1 (aU s R) (.own kb) o=_;rw [bW];rfl
 have j7:aU s R kb=none:=M0.1;rw [bW] at j7;have DS:((aU s du).set b o') kb=none:=j7;have cP:kb≠b:=fun e=>by subst e;rw [ao.gr] at DS;cases DS
 rw [ao.fA _ _ cP] at DS;have an:aU s du b=none:=M1.1;refine ⟨cP,aa.get I,?_,?_,DS,M1.2⟩
 ·rw [eN,ao.fA _ _ (fun e=>cP e.symm),ao.gr]
 ·funext x
  show ((aU s L).del b).set kb o'' x=((aU s du).set kb o'') x;by_cases ab:x=kb
  ·subst ab;rw [ao.gr,ao.gr]
  ·rw [ao.fA _ _ ab,ao.fA _ _ ab]
   by_cases Hy:x=b
   ·subst Hy;rw [ao.nL,an]
   ·rw [ao.m3 _ Hy,eN,ao.fA _ _ ab,ao.fA _ _ Hy]
theorem af.Hx {c:Code} (I:Ok s L) {kb b n cap:Nat} (i:Nat) {T xf:TypeId} {cells cs:List ah} {du:bb} (aa:bp L (.own kb) (.box T cells) R) (ad:bp R (.own b) (.box xf cs) du) (aD:cells[i]? = some (ee b n cap)) (b9:cs.length=cap) (aB:n≤cap) (hm:n≤9223372036854775807) (iD:(cs.take n).all fb=true)
  (h:Ok s ((.own kb,.box T (cells.set i (.aG 1 (cs.take n) .bd)))::du)→af P N c Q env (aU s ((.own kb,.box T (cells.set i (.aG 1 (cs.take n) .bd)))::du))):af P N c Q env (aU s L):=by
 obtain ⟨g1,g2,g3,g4,g5⟩:=MZ (o'' := .box T (cells.set i (.aG 1 (cs.take n) .bd))) I aa ad;intro tG B a w p eZ aK;obtain ⟨bh,aj,a8,bB⟩:=aK.Hx g1 g2 aD g3 b9 aB hm iD;rw [g4] at aj bB;exact mq (h g5 tG B a w bh eZ aj) fun _ _ _ q=>q.after a8 bB
end
abbrev lb:=List Int×Nat
def ij (σ:dP) (e:lb):bV×dy:=(.own e.2,.box 340 (kL (σ e.1) (.aG 1 ((σ e.1).e3.map bg) .bd) (.aG 1 ((σ e.1).bm.map bg) .bd)))
def oG (es:List lb):SMap:=es.map fun e=>(e.1,.ptr e.2 0)
def mT (σ:dP) (mb:Nat) (es:List lb):bb:=rm mb (oG es)::es.map (ij σ)
theorem af.M3 {P:Program} {N:Nat} {Q:b3→Env→ao→Prop} {env:Env} {s:ao} {c:Code} (σ:dP):∀ (es:List fZ) (A:bb),(∀ e∈es,sB e.bt (σ e.sp).bm∧(σ e.sp).bm.length<bx)→Ok s (A++es.flatMap (iJ σ)) →
    (Ok s (A++es.map fun e=>ij σ (e.sp,e.b))→af P N c Q env (aU s (A++es.map fun e=>ij σ (e.sp,e.b))))→af P N c Q env (aU s (A++es.flatMap (iJ σ)))
  | [],A,_,I,h=>h I
  | e::es,A,au,I,h=>by
    have an:=bE;obtain ⟨k4,kZ⟩:=au e i6;have Wr:Ok s ((A++[ij σ (e.sp,e.b)])++es.flatMap (iJ σ))→af P N c Q env (aU s ((A++[ij σ (e.sp,e.b)])++es.flatMap (iJ σ))):=fun I=>by
      refine af.M3 σ es (A++[ij σ (e.sp,e.b)]) (fun x ab=>au x (i0 _ ab)) I ?_;intro I;rw [ag'] at I ⊢;exact h I
    have kj:Ok s (ij σ (e.sp,e.b)::(A++es.flatMap (iJ σ)))→af P N c Q env (aU s (ij σ (e.sp,e.b)::(A++es.flatMap (iJ σ)))):=fun I=>by
      refine af.mF I ((A++[ij σ (e.sp,e.b)])++es.flatMap (iJ σ)) (aJ.ix ?_) Wr;rw [ag'];exact (an9 (l₁:=A)).symm
    rw [aj5] at I ⊢;refine af.mF I (iJ σ e++(A++es.flatMap (iJ σ))) (aJ.ix (av' _ _ _)) (fun aA=>?_);clear I;have qa:cS (kL (σ e.sp) (.aG 1 ((σ e.sp).e3.map bg) e.on) (.aG 1 ((σ e.sp).bm.map bg) .bd)) (kL (σ e.sp) (.aG 1 ((σ e.sp).e3.map bg) .bd) (.aG 1 ((σ e.sp).bm.map bg) .bd)) := .cons aT (.cons aT (.cons aZ.bd (cS.refl _)));unfold iJ pw at aA ⊢;rcases db:e.bt with _|⟨g,cap,dT⟩
    · rw [db] at aA k4
      have bo:(σ e.sp).bm=[]:=k4;have Ws:cS (kL (σ e.sp) (.aG 1 ((σ e.sp).e3.map bg) e.on) (la none (σ e.sp).bm)) (kL (σ e.sp) (.aG 1 ((σ e.sp).e3.map bg) .bd) (.aG 1 ((σ e.sp).bm.map bg) .bd)):=by
        rw [bo];exact .cons aT (.cons aT (.cons aZ.bd (.cons aT (.cons aT (.cons aT (.cons aT (.one aZ.empty)))))))
      refine af.wM aA e.b _ .here Ws (fun aA=>?_);refine af.mF aA (ij σ (e.sp,e.b)::(A++es.flatMap (iJ σ))) (.cons .here (aJ.there (e:=(e.on,.row 3 1 (σ e.sp).e3.length)) (aJ.all (A++es.flatMap (iJ σ))))) kj
    · rw [db] at aA k4
      have kD:(σ e.sp).bm.length+dT.length=cap:=k4;refine af.Hx aA 7 .here (.there .here) C cL ag ag Hr (fun aA=>?_);rw [aq4 bc] at aA ⊢;refine af.wM aA e.b _ .here qa (fun aA=>?_);refine af.mF aA (ij σ (e.sp,e.b)::(A++es.flatMap (iJ σ))) (.cons .here (aJ.there (e:=(e.on,.row 3 1 (σ e.sp).e3.length)) (aJ.all (A++es.flatMap (iJ σ))))) kj
structure xg (n:Nat) (E:List lb) (σ:dP) (es:List lb):Prop where
 four:∀ e∈es,e.1.length=4
 rest:∀ q,q∉es.map Prod.fst→σ q=iW
 mS:∀ q,mR n (σ q)
 tA:∀ x∈E,x∈es
def Wt (n:Nat) (σ:dP) (mb:Nat) (v:ah) (o:eB) (K:bb):Prop:=o = .ret v∧∃ es,K=mT σ mb es∧xg n [] σ es
theorem Wu (w:bz) (hw:w.ps.length≤60) (l:List cv) (aC:3*l.length+3<bx) (ab:∀ x∈l,tT w x) :
  bI d0 248 [gl w,qc l] [] (fun o K=>∃ mb,Wt (3*l.length) (ek l) mb (h8 w mb) o K):=by
 have an:=bE;refine bI.bl al Tryz.func248 C C fun s I=>?_
 unfold gl e6;refine dS ?_;refine ae.r8 I C C C C (fun mb I=>?_);refine bK ?_;refine af.ck [5,12,13] C I (σ:=Nat×List fZ) (fun q=>[(14,.int .i64 (q.1:Int))]) (fun q=>mc (ek (l.take q.1)) mb q.2) (fun q=>q.1≤l.length∧px (3*q.1) (ek (l.take q.1)) q.2) (fun q=>l.length-q.1) (0,[]) ⟨g9 _,⟨by simp,by simp,fun q _=>rfl,by simp,fun q=>Wd _⟩⟩ (cK C) (aJ.all _) ?_;rintro ⟨j,es⟩ ⟨aI,cM⟩ I;simp only at aI cM I ⊢;refine cf ?_;refine af.cond C (fun az=>?_) (fun a7=>?_);rotate_left
 ·have a7:j=l.length:=by simp at a7;omega
  subst a7;rw [af1] at cM I ⊢;refine af.M3 (ek l) es [rm mb (nu es)] (fun e he=>⟨cM.bt e he,by have:=(cM.mS e.sp).bm;omega⟩) I (fun I=>?_);refine ew ?_;refine Fin.bC I C aT (aJ.all _) ⟨mb,rfl,es.map (fun e=>(e.sp,e.b)),?_,?_,?_,cM.mS,by simp⟩
  ·unfold mT oG nu
   simp [List.map_map,Function.comp_def]
  ·intro e he
   obtain ⟨x,ab,rfl⟩:=af8.1 he;exact cM.four x ab
  ·intro q bn
   refine cM.rest q (fun hm=>bn ?_);obtain ⟨x,ab,rfl⟩:=af8.1 hm;exact af8.2 ⟨(x.sp,x.b),af8.2 ⟨x,ab,rfl⟩,rfl⟩
 have az:j<l.length:=by simpa using az
 obtain ⟨x,ax,dc⟩:=b7 (f:=h7) az;have au:ek (l.take (j+1))=addLit (ek (l.take j)) x:=by
  unfold ek;rw [jy ax,as1];rfl
 have aO:=Wo w hw mb _ _ es cM ag x (ab x (d6 ax));unfold h8 gl e6 at aO;unfold h7 p7 av.cells at dc aO
 repeat (first|(refine An I ?_;clear I;intro I)|refine ae.dZ al I rfl rfl rfl rfl rfl rfl rfl (fun cB I=>?_))
 refine ae.b4 rfl rfl rfl rfl rfl aO I (aJ.all _).there ?_ (fun _ _ ⟨h,_⟩ _=>by cases h);rintro _ _ ⟨⟨⟩,dv,rfl,jj⟩ I;refine hC ?_;refine bD.mk (j+1,dv) I ⟨az,?_⟩ cA (by show aJ _ (mc (ek (l.take (j+1))) mb dv) _;rw [au];exact aJ.jx (aJ.all _)) rn;rw [au];exact jj
theorem Wv {es:List lb} {sp:List Int}:(oG es).find? (fun e=>e.1==sp)=none↔sp∉es.map Prod.fst:=by
 unfold oG;rw [aw1];constructor
 ·intro h hm
  obtain ⟨e,he,rfl⟩:=af8.1 hm;have:=h _ (af8.2 ⟨e,he,rfl⟩);simp at this
 ·intro h x ab
  obtain ⟨e,he,rfl⟩:=af8.1 ab;simp only [am5];intro bW;exact h (af8.2 ⟨e,he,bW⟩)
theorem Ww {es:List lb} {sp:List Int} {x:List Int×ah} (h:(oG es).find? (fun e=>e.1==sp)=some x):∃ e∈es,e.1=sp∧x=(e.1,.ptr e.2 0):=by
 unfold oG at h;have aa:=at3 h;have ad:=ax8 h;obtain ⟨e,he,rfl⟩:=af8.1 aa;exact ⟨e,he,by simpa using ad,rfl⟩
theorem xh (w:bz) (mb n:Nat) (σ:dP) (es:List lb) {E:List lb} (cM:xg n E σ es) (hN ea dr dG:Int) :
  bI d0 280 [h8 w mb,iI [hN,ea,dr,dG]] (mT σ mb es) (fun o K=>∃ b R,o = .ret (.ptr b 0)∧(∃ dv,(ij σ ([hN,ea,dr,dG],b)::R).Perm (mT σ mb dv)∧xg n E σ dv∧([hN,ea,dr,dG],b)∈dv)∧K=ij σ ([hN,ea,dr,dG],b)::R):=by
 have h:=MJ (.aG 1 [] .bd) (.aG 1 [] .bd) aZ.empty aZ.empty w mb (oG es) (fun e he=>by
  unfold oG at he
  obtain ⟨x,ab,rfl⟩:=af8.1 he
  exact cM.four x ab) hN ea dr dG
 refine bI.frame h (R:=es.map (ij σ)) (.cons .here .nil) ?_;rintro o aQ (⟨x,ab,rfl,rfl⟩|⟨aX,b,rfl,rfl⟩)
 ·obtain ⟨⟨sp,b⟩,he,aa,rfl⟩:=Ww ab
  simp only at aa;subst aa;obtain ⟨pre,post,rfl⟩:=au0 he;have aF:((rm mb (oG (pre++([hN,ea,dr,dG],b)::post)))::(pre++([hN,ea,dr,dG],b)::post).map (ij σ)).Perm (ij σ ([hN,ea,dr,dG],b)::(rm mb (oG (pre++([hN,ea,dr,dG],b)::post))::(pre.map (ij σ)++post.map (ij σ)))):=by
   rw [ae1,ae0];exact ((an9).cons _).trans (am4.swap _ _ _)
  exact ⟨[],_,by simp,aF,b,_,rfl,⟨_,aF.symm,cM,by simp⟩,rfl⟩
 ·have h':=Wv.1 aX
  have w5:=cM.rest _ h';have b6:ij σ ([hN,ea,dr,dG],b)=(.own b,.box 340 (kL iW (.aG 1 [] .bd) (.aG 1 [] .bd))):=by
   unfold ij;simp only [w5];rfl
  refine ⟨[],ij σ ([hN,ea,dr,dG],b)::(rm mb (oG (es++[([hN,ea,dr,dG],b)]))::es.map (ij σ)),by simp,?_,b,_,rfl,⟨es++[([hN,ea,dr,dG],b)],?_,?_,by simp⟩,rfl⟩
  ·rw [b6]
   have bW:oG (es++[([hN,ea,dr,dG],b)])=oG es++[([hN,ea,dr,dG],.ptr b 0)]:=by unfold oG;rw [ae1];rfl
   rw [bW];exact am4.swap _ _ _
  ·unfold mT
   rw [ae1];refine (am4.swap _ _ _).trans (am4.cons _ ?_);exact as4 (l₁:=[ij σ ([hN,ea,dr,dG],b)])
  ·refine ⟨fun e he=>?_,fun q bn=>cM.rest q (fun hm=>bn (by rw [ae1];exact ai7 _ hm)),cM.mS,fun x ab=>ai7 _ (cM.tA x ab)⟩
   rcases ae2.1 he with he|he
   ·exact cM.four e he
   ·rw [t6] at he;subst he;rfl
theorem Wx (fv:ah) (q:Int→Bool) (aeo:bb→Prop) (xs:List Int) (aC:xs.length<bx) (h:∀ x∈xs,∀ K,aeo K→ds d0 fv [bg x] K (fun o aQ=>o = .ret (.bool (q x))∧aeo aQ)) (K:bb) (aw:aeo K) :
  bI d0 90 [.aG 1 (xs.map bg) .bd,fv] K (fun o aQ=>o = .ret (.int .i64 (match xs.findIdx? q with|some i=>(i:Int)|none => -1))∧aeo aQ):=by
 have an:=bE;refine bI.bl al Tryz.func90 C C fun s I=>?_
 refine hp ?_;refine af.ck [0,1,7] C I (σ:=Nat×bb) (fun j=>[(8,.int .i64 (j.1:Int))]) (fun j=>j.2) (fun j=>j.1≤xs.length∧aeo j.2∧∀ i y,i<j.1→xs[i]? = some y→q y=false) (fun j=>xs.length-j.1) (0,K) ⟨g9 _,aw,fun i y aS=>absurd aS (an6 _)⟩ (cK C) (aJ.all _) ?_;rintro ⟨j,Be⟩ ⟨aI,Hz,c9⟩ I;simp only at aI Hz c9 I ⊢;refine cf ?_;refine af.cond C (fun az=>?_) (fun a7=>?_)
 ·have az:j<xs.length:=by simpa using az
  obtain ⟨x,ab,ch⟩:=b7 (f:=bg) az;have ar:=h x (d6 ab) Be Hz;unfold bg at ch ar;refine bK ?_;refine ae.gM rfl rfl rfl rfl rfl rfl ar I (aJ.all _) ?_ (fun _ _ ⟨h,_⟩ _=>by cases h);rintro _ iK ⟨⟨⟩,kN⟩ I;rw [d9] at I ⊢;cases bn:q x with
  | true=>
   rw [LF q xs j x ab bn c9];refine fe ?_;exact Fin.bC I C aT (aJ.all _) ⟨rfl,kN⟩
  | false=>
   refine bK ?_
   exact bD.mk (j+1,iK) I ⟨az,kN,fun i y aS ax=>by
    rcases ah7.1 aS with aS|rfl
    ·exact c9 i y aS ax
    ·rw [ab] at ax;cases ax;exact bn⟩ cA (aJ.all _) sb
 ·have a7:j=xs.length:=by simp at a7;omega
  subst a7;rw [LG q xs (fun i y ax=>c9 i y (se ax) ax)];refine ew ?_;exact Fin.bC I C aT (aJ.all _) ⟨rfl,Hz⟩
theorem Wy {α:Type} (q:α→Bool) (l:List α):decide ((match l.findIdx? q with|some i=>(i:Int)|none => -1)≥0)=l.any q:=by
 cases h:l.findIdx? q with
 | none=>
  rw [ai0] at h;have:l.any q=false:=by rw [ak8];intro x ab;rw [h x ab];simp
  rw [this];rfl
 | some i=>
  rw [ag9] at h;obtain ⟨aS,aa,_⟩:=h;have:l.any q=true:=af4.2 ⟨_,aj4 aS,aa⟩;rw [this];simp
theorem Wz (fv:ah) (q:Int→Bool) (aeo:bb→Prop) (xs:List Int) (aC:xs.length<bx) (h:∀ x∈xs,∀ K,aeo K→ds d0 fv [bg x] K (fun o aQ=>o = .ret (.bool (q x))∧aeo aQ)) (K:bb) (aw:aeo K) :
  bI d0 40 [.aG 1 (xs.map bg) .bd,fv] K (fun o aQ=>o = .ret (.bool (xs.any q))∧aeo aQ):=by
 rw [← Wy];have aD:=Wx fv q aeo xs aC h K aw;refine bI.bl al Tryz.func40 C C fun s I=>?_
 refine dS ?_;refine ae.b4 rfl rfl rfl rfl rfl aD I (aJ.all _) ?_ (fun _ _ ⟨h,_⟩ _=>by cases h);rintro _ iK ⟨⟨⟩,kN⟩ I;rw [d9] at I ⊢;refine ep ?_;exact Fin.bC I C aT (aJ.all _) ⟨rfl,kN⟩
theorem WA (f:FuncId) (iv hA:List ah) (q:Int→Bool) (aeo:bb→Prop) (xs:List Int) (aC:xs.length<bx) (h:∀ x∈xs,∀ K,aeo K→ds d0 (.func f iv hA) [bg x] K (fun o aQ=>o = .ret (.bool (q x))∧aeo aQ)) (K:bb) (aw:aeo K) :
  bI d0 198 [.aG 1 (xs.map bg) .bd,.func f iv hA] K (fun o aQ=>o = .ret (.bool (xs.all q))∧aeo aQ):=by
 have aa:∀ x∈xs,∀ K,aeo K→ds d0 (.func 233 [] [.bA [.func f iv hA] 0]) [bg x] K (fun o aQ=>o = .ret (.bool (!q x))∧aeo aQ):=fun x ab K bk=>by
  refine ds.fm (first:=[]) (cap:=[.bA [.func f iv hA] 0]) ?_;refine bI.bl al Tryz.func233 C C fun s I=>?_
  have ar:=h x ab K bk;unfold bg at ar ⊢;refine dS ?_;refine ae.gM rfl rfl rfl rfl rfl rfl ar I (aJ.all _) ?_ (fun _ _ ⟨h,_⟩ _=>by cases h);rintro _ iK ⟨⟨⟩,kN⟩ I;rw [d9] at I ⊢;refine ep ?_;exact Fin.bC I C aT (aJ.all _) ⟨rfl,kN⟩
 rw [← AY];have aD:=Wz _ (fun x => !q x) aeo xs aC aa K aw;refine bI.bl al Tryz.func198 C C fun s I=>?_
 refine dS ?_;refine ae.b4 rfl rfl rfl rfl rfl aD I (aJ.all _) ?_ (fun _ _ ⟨h,_⟩ _=>by cases h);rintro _ iK ⟨⟨⟩,kN⟩ I;rw [d9] at I ⊢;refine ep ?_;exact Fin.bC I C aT (aJ.all _) ⟨rfl,kN⟩
theorem M4 (arg:Int) (path:List Int) (bt:Int) (h:path.length<2):aV d0 281 [iI (bu arg path),.int .i64 bt] (iI (bu arg (path++[bt]))):=by
 match path,h with
 | [],_=>exact MK arg 0 0 bt
 | [a],_=>exact ML arg a 0 bt
structure vi (n:Nat) (σ:dP):Prop where
 deep:∀ arg path,2≤path.length→(σ (bu arg path)).bm=[]
 mS:∀ q,mR n (σ q)
def mf (n:Nat) (E:List lb) (σ:dP) (mb:Nat) (K:bb):Prop:=∃ es,K=mT σ mb es∧xg n E σ es
def Bf (σ:dP) (arg:Int) (path:List Int):Bool:=(σ (bu arg path)).bm.all fun s => !(σ (bu arg (path++[s]))).gz
theorem WB (w:bz) (mb n:Nat) (σ:dP) (arg:Int) (path:List Int) (aF:path.length<2) (bt:Int) {E:List lb} (K:bb) (bk:mf n E σ mb K) :
  ds d0 (.func 315 [] [.bA [h8 w mb] 0,.bA ((bu arg path).map (ah.int .i64)) 0]) [bg bt] K (fun o aQ=>o = .ret (.bool (!(σ (bu arg (path++[bt]))).gz))∧mf n E σ mb aQ):=by
 obtain ⟨es,rfl,cM⟩:=bk;have aa:=M4 arg path bt aF;have ad:=xh w mb n σ es cM arg ((path++[bt]).length:Int) ((path++[bt]).getD 0 0) ((path++[bt]).getD 1 0);refine ds.fm (first:=[]) (cap:=[.bA [h8 w mb] 0,.bA ((bu arg path).map (ah.int .i64)) 0]) ?_;refine bI.bl al Tryz.func315 C C fun s I=>?_
 unfold h8 at *;unfold iI ko at aa;refine pe ?_;refine aL.kH rfl rfl rfl rfl rfl rfl ad I (aJ.all _) ?_ (fun _ _ ⟨_,_,h,_⟩ _=>by cases h);rintro _ _ ⟨b,R,⟨⟩,⟨dv,fa,jj,fs⟩,rfl⟩ I;rw [d9] at I ⊢;refine ct I ?_;intro I;exact Fin.bC I C aT (aJ.ix fa) ⟨rfl,dv,rfl,jj⟩
theorem WC (w:bz) (mb n:Nat) (aB:n<bx) (σ:dP) (b8:vi n σ) (arg:Int) (path:List Int) (aF:path.length≤2) {E:List lb} (K:bb) (bk:mf n E σ mb K) :
    bI d0 305 [h8 w mb,iI (bu arg path)] K (fun o aQ=>o = .ret (.bool (Bf σ arg path))∧mf n E σ mb aQ):=by
  obtain ⟨es,rfl,cM⟩:=bk;have ad:=xh w mb n σ es cM arg (path.length:Int) (path.getD 0 0) (path.getD 1 0);have lx:=(b8.mS (bu arg path)).bm
  have aj:=WA 315 [] [.bA [h8 w mb] 0,.bA ((bu arg path).map (ah.int .i64)) 0] (fun s => !(σ (bu arg (path++[s]))).gz) (mf n E σ mb) (σ (bu arg path)).bm ag (fun x ab K bk=>by
    have gX:path.length<2:=by
      rcases ap0 path.length 2 with h|h
      · exact h
      · rw [b8.deep arg path h] at ab;cases ab
    exact WB w mb n σ arg path gX x K bk)
  refine bI.bl al Tryz.func305 C C fun s I=>?_
  unfold h8 at *;unfold iI ko at *;refine dS ?_;refine ae.b4 rfl rfl rfl rfl rfl ad I (aJ.all _) ?_ (fun _ _ ⟨_,_,h,_⟩ _=>by cases h);rintro _ _ ⟨b,R,⟨⟩,⟨dv,fa,jj,fs⟩,rfl⟩ I;rw [d9] at I ⊢;unfold ij at I ⊢;refine ct I ?_;intro I;refine ae.mF I (mT σ mb dv) (aJ.ix fa) (fun I=>?_);refine ae.b4 rfl rfl rfl rfl rfl (aj _ ⟨dv,rfl,jj⟩) I (aJ.all _) ?_ (fun _ _ ⟨h,_⟩ _=>by cases h);rintro _ iK ⟨⟨⟩,oH⟩ I;rw [d9] at I ⊢;refine ep ?_;exact Fin.bC I C aT (aJ.all _) ⟨rfl,oH⟩
def vj (σ:dP) (arg:Int) (path:List Int) (c:Nat):Bool:=
 decide (k6 (σ (bu arg path)).fY (1|||2^c)=0)&&(decide ((σ (bu arg path)).no &&& (1|||2^c)=0)&&Bf σ arg path)
theorem Bg (m:Nat):(((m:Nat):Int)==0)=decide (m=0):=by
 rw [af0,am5,g6];omega
theorem M5 (w:bz) (mb n:Nat) (aB:n<bx) (σ:dP) (b8:vi n σ) (arg:Int) (path:List Int) (aF:path.length≤2) (c:Nat) (aD:c<3) {E:List lb} (K:bb) (bk:mf n E σ mb K) :
  bI d0 291 [h8 w mb,iI (bu arg path),.int .i64 (c:Int)] K (fun o aQ=>o = .ret (.bool (vj σ arg path c))∧mf n E σ mb aQ):=by
 obtain ⟨es,rfl,cM⟩:=bk;have ad:=xh w mb n σ es cM arg (path.length:Int) (path.getD 0 0) (path.getD 1 0);have lx:=b8.mS (bu arg path);have aa:=Hf c ag;have kE:1|||2^c<2^64:=aj0 dV (ai6 ag ag)
 have aj:=fun K bk=>WC (E:=E) w mb n aB σ b8 arg path aF K bk
 have hm:vj σ arg path c=(decide (k6 (σ (bu arg path)).fY (1|||2^c)=0)&&(decide ((σ (bu arg path)).no &&& (1|||2^c)=0)&&Bf σ arg path)):=rfl;refine bI.bl al Tryz.func291 C C fun s I=>?_
 unfold h8 at *;unfold iI ko at *;refine dS ?_;refine ae.b4 rfl rfl rfl rfl rfl ad I (aJ.all _) ?_ (fun _ _ ⟨_,_,h,_⟩ _=>by cases h);rintro _ _ ⟨b,R,⟨⟩,⟨dv,fa,jj,fs⟩,rfl⟩ I;rw [d9] at I ⊢;unfold ij at I ⊢;refine ct I ?_;intro I;refine ae.bits ((k6 (σ (bu arg path)).fY (1|||2^c):Nat):Int) C C C C C C (Dr lx.fY kE) ?_;refine er ?_;cases sr:decide (k6 (σ (bu arg path)).fY (1|||2^c)=0) with
 | false=>
  refine ae.dh 21 C (by rw [Bg];exact sr) ?_;refine et ?_;rw [sr,f6] at hm;exact Fin.bC I C aT (aJ.ix fa) ⟨by rw [hm],dv,rfl,jj⟩
 | true=>
  refine ae.dK 21 C (by rw [Bg];exact sr) ?_;refine ct I ?_;intro I;refine ae.bits (((σ (bu arg path)).no &&& (1|||2^c):Nat):Int) C C C C C C (uZ lx.no kE) ?_;refine er ?_;cases mD:decide ((σ (bu arg path)).no &&& (1|||2^c)=0) with
  | false=>
   refine ae.dh 30 C (by rw [Bg];exact mD) ?_;refine et ?_;rw [sr,mD,f5,f6] at hm;exact Fin.bC I C aT (aJ.ix fa) ⟨by rw [hm],dv,rfl,jj⟩
  | true=>
   refine ae.dK 30 C (by rw [Bg];exact mD) ?_;refine er ?_;refine ae.mF I (mT σ mb dv) (aJ.ix fa) (fun I=>?_);refine ae.b4 rfl rfl rfl rfl rfl (aj _ ⟨dv,rfl,jj⟩) I (aJ.all _) ?_ (fun _ _ ⟨h,_⟩ _=>by cases h);rintro _ iK ⟨⟨⟩,oH⟩ I;rw [d9] at I ⊢;refine ep ?_;rw [sr,mD,f5,f5] at hm;exact Fin.bC I C aT (aJ.all _) ⟨by rw [hm],oH⟩
def xi (σ:dP) (arg:Int) (path:List Int):Bool := !(σ (bu arg path)).whole&&vj σ arg path 2
theorem WD (w:bz) (mb n:Nat) (aB:n<bx) (σ:dP) (b8:vi n σ) (arg:Int) (path:List Int) (aF:path.length≤2) {E:List lb} (K:bb) (bk:mf n E σ mb K) :
  bI d0 284 [h8 w mb,iI (bu arg path)] K (fun o aQ=>o = .ret (.bool (xi σ arg path))∧mf n E σ mb aQ):=by
 obtain ⟨es,rfl,cM⟩:=bk;have ad:=xh w mb n σ es cM arg (path.length:Int) (path.getD 0 0) (path.getD 1 0);have aj:=fun K bk=>M5 (E:=E) w mb n aB σ b8 arg path aF 2 ag K bk
 have hm:xi σ arg path=(!(σ (bu arg path)).whole&&vj σ arg path 2):=rfl;refine bI.bl al Tryz.func284 C C fun s I=>?_
 unfold h8 at *;unfold iI ko at *;refine dS ?_;refine ae.b4 rfl rfl rfl rfl rfl ad I (aJ.all _) ?_ (fun _ _ ⟨_,_,h,_⟩ _=>by cases h);rintro _ _ ⟨b,R,⟨⟩,⟨dv,fa,jj,fs⟩,rfl⟩ I;rw [d9] at I ⊢;unfold ij at I ⊢;refine ct I ?_;intro I;cases hw:(σ (bu arg path)).whole with
 | true=>
  refine ae.dh 12 C (by show (!(σ (bu arg path)).whole)=false;rw [hw];rfl) ?_;refine et ?_;rw [hw] at hm;exact Fin.bC I C aT (aJ.ix fa) ⟨by rw [hm];rfl,dv,rfl,jj⟩
 | false=>
  refine ae.dK 12 C (by show (!(σ (bu arg path)).whole)=true;rw [hw];rfl) ?_;refine er ?_;refine ae.mF I (mT σ mb dv) (aJ.ix fa) (fun I=>?_);refine ae.b4 rfl rfl rfl rfl rfl (aj _ ⟨dv,rfl,jj⟩) I (aJ.all _) ?_ (fun _ _ ⟨h,_⟩ _=>by cases h);rintro _ iK ⟨⟨⟩,oH⟩ I;rw [d9] at I ⊢;refine ep ?_;rw [hw] at hm;exact Fin.bC I C aT (aJ.all _) ⟨by rw [hm];rfl,oH⟩
def qe:Nat→Int→List Int→Int
 | 0,n,_=>n
 | k+1,n,l=>if l.contains n then qe k (n+1) l else n
def xj (k:dn):Int:=qe (k.e3.length+1) k.low k.e3
def xk (σ:dP) (arg:Int) (path:List Int):Bool:=decide (xj (σ (bu arg path))≤(σ (bu arg path)).high)&&vj σ arg path 1
def oI (n:Int) (l:List Int):Nat:=(l.filter fun x=>decide (x≥n)).length
theorem M6 (n:Int) (l:List Int):oI n l≤l.length:=List.length_filter_le _ _
theorem M7 (n:Int):∀ l:List Int,oI (n+1) l≤oI n l
  | []=>g7 _
  | x::r=>by
    have aW:=M7 n r;unfold oI at *;rw [al5,al5];by_cases aa:x≥n+1
    · rw [f7 tC,f7 cL,i5,i5];omega
    · rw [d7 tC]
      split
      · rw [i5];omega
      · exact aW
theorem HA {n:Int}:∀ {l:List Int},n∈l→oI (n+1) l<oI n l
  | x::r,h=>by
    have bo:=M7 n r;unfold oI at *;rw [al5,al5];rcases ae8.1 h with rfl|h
    · rw [d7 cL,f7 bc,i5];omega
    · have aW:=HA h
      unfold oI at aW;by_cases aa:x≥n+1
      · rw [f7 tC,f7 cL,i5,i5];omega
      · rw [d7 tC]
        split
        · rw [i5];omega
        · exact aW
theorem HB:∀ (f nc:Nat) (n:Int) (l:List Int),oI n l<f→oI n l<nc→qe f n l=qe nc n l
  | f+1,nc+1,n,l,h,eY=>by
    rw [qe,qe];cases aD:l.contains n with
    | false=>rfl
    | true=>
      have:=HA (n:=n) (l:=l) (by simpa using aD);simp only [ag5];exact HB f nc (n+1) l ag ag
theorem WE (w:bz) (mb n:Nat) (aB:n<bx) (σ:dP) (b8:vi n σ) (arg:Int) (path:List Int) (aF:path.length≤2) {E:List lb} (K:bb) (bk:mf n E σ mb K) :
  bI d0 283 [h8 w mb,iI (bu arg path)] K (fun o aQ=>o = .ret (.cr [.int .i64 (xj (σ (bu arg path))),.bool (xk σ arg path)])∧mf n E σ mb aQ):=by
 have an:=bE;obtain ⟨es,rfl,cM⟩:=bk;have ad:=xh w mb n σ es cM arg (path.length:Int) (path.getD 0 0) (path.getD 1 0);have aj:=fun K bk=>M5 (E:=E) w mb n aB σ b8 arg path aF 1 ag K bk
 have hm:xk σ arg path=(decide (xj (σ (bu arg path))≤(σ (bu arg path)).high)&&vj σ arg path 1):=rfl;have lx:=b8.mS (bu arg path);have FQ:=lx.e3;have oF:=lx.num;have WG:xj (σ (bu arg path))=qe (oI (σ (bu arg path)).low (σ (bu arg path)).e3+1) (σ (bu arg path)).low (σ (bu arg path)).e3:=HB _ _ _ _ (by have:=M6 (σ (bu arg path)).low (σ (bu arg path)).e3;omega) ag;have ie:=fun v=>yw (σ (bu arg path)).e3 v ag
 refine bI.bl al Tryz.func283 C C fun s I=>?_
 unfold h8 at *;unfold iI ko at *;refine dS ?_;refine ae.b4 rfl rfl rfl rfl rfl ad I (aJ.all _) ?_ (fun _ _ ⟨_,_,h,_⟩ _=>by cases h);rintro _ _ ⟨b,R,⟨⟩,⟨dv,fa,jj,fs⟩,rfl⟩ I;rw [d9] at I ⊢;unfold ij at I ⊢;refine ct I ?_;intro I;refine af.ck [0,3,6] C I (σ:=Int) (fun v=>[(7,.int .i64 v)]) (fun _=>ij σ ([arg,(path.length:Int),path.getD 0 0,path.getD 1 0],b)::R) (fun v=>xj (σ (bu arg path))=qe (oI v (σ (bu arg path)).e3+1) v (σ (bu arg path)).e3∧(σ (bu arg path)).low≤v∧v≤(σ (bu arg path)).low+((σ (bu arg path)).e3.length-oI v (σ (bu arg path)).e3:Nat)) (fun v=>oI v (σ (bu arg path)).e3) (σ (bu arg path)).low ⟨WG,Int.le_refl _,by omega⟩ (cK C) (aJ.all _) ?_;rintro v ⟨ar,uI,m5⟩ I;unfold ij at I ⊢;have sD:=ie v;unfold bj at sD;cases aD:(σ (bu arg path)).e3.contains v with
 | true=>
  rw [aD] at sD;have az:=HA (n:=v) (l:=(σ (bu arg path)).e3) (by simpa using aD);have hle:=M6 v (σ (bu arg path)).e3;rw [qe,aD] at ar;simp only [ag5] at ar;have da:ac' .i64 (v+1)=v+1:=ev ag ag;refine hq I ?_;intro I;refine bD.mk (v+1) I ⟨?_,by omega,by omega⟩ (by repeat (first|exact trivial|refine ⟨⟨_,rfl,aT⟩,?_⟩|refine ⟨⟨_,rfl,aZ.of_eq (by (rw [da]))⟩,?_⟩)) (aJ.all _) az;rw [ar];exact HB _ _ _ _ ag ag
 | false=>
  rw [aD] at sD;rw [qe,aD] at ar;simp only [af7,ah9] at ar;subst ar;refine ct I ?_;intro I;cases ay:decide (xj (σ (bu arg path))≤(σ (bu arg path)).high) with
  | false=>
   refine ae.dh 33 C ay ?_;refine et ?_;rw [ay] at hm;exact Fin.bC I C aT (aJ.ix fa) ⟨by rw [hm];rfl,dv,rfl,jj⟩
  | true=>
   refine ae.dK 33 C ay ?_;refine er ?_;refine ae.mF I (mT σ mb dv) (aJ.ix fa) (fun I=>?_);refine ae.b4 rfl rfl rfl rfl rfl (aj _ ⟨dv,rfl,jj⟩) I (aJ.all _) ?_ (fun _ _ ⟨h,_⟩ _=>by cases h);rintro _ iK ⟨⟨⟩,oH⟩ I;rw [d9] at I ⊢;refine ep ?_;rw [ay] at hm;exact Fin.bC I C aT (aJ.all _) ⟨by rw [hm];rfl,oH⟩
def jP (w:bz) (s:Int):Nat:=(w.owner.getD s.toNat 0).toNat
def py (w:bz) (σ:dP) (cn:List Int→Bool) (arg:Int) (path:List Int):List Int→Nat→Nat→Option (Nat×Nat)
 | [],m,n=>some (m,n)
 | s::r,m,n=>
  if (σ (bu arg (path++[s]))).gz && !cn (path++[s]) then none
  else if (σ (bu arg (path++[s]))).gz then py w σ cn arg path r (m|||2^jP w s) n
  else if cn (path++[s]) then py w σ cn arg path r m n
  else py w σ cn arg path r m (n|||2^jP w s)
def tU (w:bz) (m:Nat) (i:Nat):Nat:=if m.testBit (3+i) then m|||(dM w.ps).getD (3+i) 0 else m
def rr (w:bz) (m:Nat):Nat:=(ah8 w.ps.length).foldl (tU w) m
def xl (w:bz) (σ:dP) (cn:List Int→Bool) (arg:Int) (path:List Int):Nat×Bool:=
 if (σ (bu arg path)).whole||((σ (bu arg path)).fY.testBit 1||((σ (bu arg path)).fY.testBit 2||(σ (bu arg path)).no.testBit 0)) then (0,false)
 else match py w σ cn arg path (σ (bu arg path)).bm (σ (bu arg path)).fY (σ (bu arg path)).no with
  | none=>(0,false)
  | some (m,n)=>(k6 (rr w m) 1,decide (k6 (rr w m) 1 &&& n=0))
theorem bp.M8 {o:bV} {dA:dy}:∀ {L:bb},(o,dA)∈L→∃ R,bp L o dA R
  | e::L,h=>by
    rcases ae8.1 h with rfl|h
    · exact ⟨_,bp.here⟩
    · obtain ⟨R,h⟩:=bp.M8 h
      exact ⟨_,bp.there h⟩
structure DT (w:bz) (σ:dP):Prop where
 slot:∀ q,∀ x∈(σ q).bm,0≤x∧x<(w.owner.length:Int)
def M9 (w:bz) (mb n:Nat) (σ:dP) (arg:Int) (cn:List Int→Bool) (path:List Int):Prop:=
 ∀ (E:List lb) (K:bb),mf n E σ mb K→bI d0 270 [h8 w mb,iI (bu arg path)] K (fun o aQ=>o = .ret (.bool (cn path))∧mf n E σ mb aQ)
theorem WH (w:bz) (hw:fw w) (mb n:Nat) (aB:n<bx) (σ:dP) (b8:vi n σ) (gQ:DT w σ) (arg:Int) (path:List Int) (aF:path.length≤2) (cn:List Int→Bool) (xm:path.length<2→∀ s,M9 w mb n σ arg cn (path++[s])) {E:List lb} (K:bb) (bk:mf n E σ mb K) :
  bI d0 285 [h8 w mb,iI (bu arg path)] K (fun o aQ=>o = .ret (.cr [.int .u64 ((xl w σ cn arg path).1:Int),.bool (xl w σ cn arg path).2])∧mf n E σ mb aQ):=by
 have an:=bE;obtain ⟨es,rfl,cM⟩:=bk;have ad:=xh w mb n σ es cM arg (path.length:Int) (path.getD 0 0) (path.getD 1 0);have lx:=b8.mS (bu arg path);have hm:xl w σ cn arg path=if (σ (bu arg path)).whole||((σ (bu arg path)).fY.testBit 1||((σ (bu arg path)).fY.testBit 2||(σ (bu arg path)).no.testBit 0)) then (0,false)
  else match py w σ cn arg path (σ (bu arg path)).bm (σ (bu arg path)).fY (σ (bu arg path)).no with
   | none=>(0,false)
   | some (m,n)=>(k6 (rr w m) 1,decide (k6 (rr w m) 1 &&& n=0)):=rfl
 have g1:=yK (σ (bu arg path)).fY 1 lx.fY ag;have g2:=yK (σ (bu arg path)).fY 2 lx.fY ag;have g0:=yK (σ (bu arg path)).no 0 lx.no ag;have sf:=fun bt h=>M4 arg path bt h
 refine bI.bl al Tryz.func285 C C fun s I=>?_
 unfold h8 at *;unfold iI ko at *;refine dS ?_;refine ae.b4 rfl rfl rfl rfl rfl ad I (aJ.all _) ?_ (fun _ _ ⟨_,_,h,_⟩ _=>by cases h);rintro _ _ ⟨b,R,⟨⟩,⟨dv,fa,jj,fs⟩,rfl⟩ I;rw [d9] at I ⊢;unfold ij at I ⊢;refine tB I ?_;intro I;cases yT:(σ (bu arg path)).whole with
 | true=>
  refine ae.dK 30 C yT ?_;refine et ?_;rw [yT,am1,f7 C] at hm;exact Fin.bC I C aT (aJ.ix fa) ⟨by rw [hm];rfl,dv,rfl,jj⟩
 | false=>
 refine ae.dh 30 C yT ?_;refine c5 ?_;cases qN:(σ (bu arg path)).fY.testBit 1 with
 | true=>
  refine et ?_;rw [qN,am1,ao3,f7 C] at hm;exact Fin.bC I C aT (aJ.ix fa) ⟨by rw [hm];rfl,dv,rfl,jj⟩
 | false=>
 refine c5 ?_;cases mC:(σ (bu arg path)).fY.testBit 2 with
 | true=>
  refine et ?_;rw [mC,am1,ao3,ao3,f7 C] at hm;exact Fin.bC I C aT (aJ.ix fa) ⟨by rw [hm];rfl,dv,rfl,jj⟩
 | false=>
 refine c5 ?_;cases yy:(σ (bu arg path)).no.testBit 0 with
 | true=>
  refine et ?_;rw [yy,ao3,ao3,ao3,f7 C] at hm;exact Fin.bC I C aT (aJ.ix fa) ⟨by rw [hm];rfl,dv,rfl,jj⟩
 | false=>
 rw [yT,qN,mC,yy] at hm;simp only [Bool.or_self,af7,ah9] at hm;refine ct I ?_;intro I;have acT:=lx.bm;refine af.ck [0,3,45,46] C I (σ:=Nat×Nat×Nat×List lb) (fun q=>[(47,.int .i64 (q.1:Int)),(7,.int .u64 (q.2.1:Int)),(8,.int .u64 (q.2.2.1:Int))]) (fun q=>mT σ mb q.2.2.2)
  (fun q=>q.1≤(σ (bu arg path)).bm.length∧py w σ cn arg path (σ (bu arg path)).bm (σ (bu arg path)).fY (σ (bu arg path)).no=py w σ cn arg path ((σ (bu arg path)).bm.drop q.1) q.2.1 q.2.2.1∧q.2.1<2^64∧q.2.2.1<2^64∧xg n E σ q.2.2.2)
  (fun q=>(σ (bu arg path)).bm.length-q.1) (0,(σ (bu arg path)).fY,(σ (bu arg path)).no,dv) ⟨g9 _,by rw [List.drop_zero],lx.fY,lx.no,jj⟩ (cK C) (aJ.ix fa) ?_
 rintro ⟨j,m,xn,HC⟩ ⟨aI,aX,yU,yV,vh⟩ I;simp only at aI aX yU yV vh I ⊢;refine cf ?_;refine af.cond C (fun az=>?_) (fun a7=>?_);rotate_left
 ·have a7:j=(σ (bu arg path)).bm.length:=by
   have:¬ (j<(σ (bu arg path)).bm.length):=by simpa [bu] using a7
   omega
  subst a7;rw [List.drop_length,py] at aX;rw [aX] at hm;simp only at hm;refine bK ?_;refine af.ck [0,3] C I (σ:=Nat×Nat) (fun q=>[(14,.int .i64 ((3+q.1:Nat):Int)),(7,.int .u64 (q.2:Int)),(8,.int .u64 (xn:Int))]) (fun q=>mT σ mb HC)
   (fun q=>q.1≤w.ps.length∧q.2=(ah8 q.1).foldl (tU w) m∧q.2<2^64) (fun q=>w.ps.length-q.1) (0,m) ⟨g9 _,rfl,yU⟩ (cK C) (aJ.all _) ?_
  rintro ⟨c,gP⟩ ⟨aD,HD,eQ⟩ I;simp only at aD HD eQ I ⊢;have sE:=hw.ji;have da:ac' .i64 (3+((w.ps.map bj).length:Int))=3+(w.ps.length:Int):=by rw [f8,ev ag ag]
  refine cf ?_;refine af.cond C (fun cT=>?_) (fun ef=>?_);rotate_left
  ·have ef:c=w.ps.length:=by rw [da] at ef;simp at ef;omega
   subst ef;have sF:rr w m=gP:=HD.symm;rw [sF] at hm;refine bK ?_;refine ae.bits ((k6 gP 1:Nat):Int) C C C C C C (Dr eQ dV) ?_;refine h3 ?_;refine ae.bits ((k6 gP 1 &&& xn:Nat):Int) C C C C C C (uZ (Nat.and_lt_two_pow _ (Nat.xor_lt_two_pow dV dV)) yV) ?_;refine ep ?_;exact Fin.bC I C aT (aJ.all _) ⟨by rw [hm];simp only [Bg],HC,rfl,vh⟩
  have cT:c<w.ps.length:=by rw [da] at cT;simp at cT;omega
  have kE:=tO w.ps;obtain ⟨u,hu⟩:∃ u,(dM w.ps)[3+c]? = some u:=⟨_,d8 ag⟩;have WI:(dM w.ps).getD (3+c) 0=u:=by rw [d5,hu];rfl
  have xo:=yF sE u (d6 hu);have cN:=yK gP (3+c) eQ ag;have aK:(ah8 (c+1)).foldl (tU w) m=tU w gP c:=by rw [at2,as1,← HD];rfl
  have iu:tU w gP c=if gP.testBit (3+c) then gP|||u else gP:=by unfold tU;rw [WI]
  rw [iu] at aK;have aq:=A1 (w:=w) (yG hu);have zN:gP|||u<2^64:=aj0 eQ xo
  cases M':gP.testBit (3+c) with
  | false=>
   rw [M'] at cN aK;simp only [af7,ah9] at aK;refine cl ?_;exact bD.mk (c+1,gP) I ⟨cT,aK.symm,eQ⟩ MN (aJ.all _) (by show w.ps.length-(c+1)<w.ps.length-c;omega)
  | true=>
   rw [M'] at cN aK;simp only [ag5] at aK;refine c5 ?_;refine ae.l7 al (3+c) C C C C C C C C C C ag ?_;refine ae.AO al C C C C C C C (by simpa using aq) ?_;skip;refine ae.bits ((gP|||u:Nat):Int) C C C C C C (wS eQ xo) ?_;refine hC ?_;exact bD.mk (c+1,gP|||u) I ⟨cT,aK.symm,zN⟩ MN (aJ.all _) (by show w.ps.length-(c+1)<w.ps.length-c;omega)
 have az:j<(σ (bu arg path)).bm.length:=by simpa [bu] using az
 obtain ⟨bt,ax,dc⟩:=b7 (f:=bg) az;have gX:path.length<2:=by
  rcases ap0 path.length 2 with h|h
  ·exact h
  ·rw [b8.deep arg path h] at az;cases az
 have acU:=gQ.slot _ bt (d6 ax);obtain ⟨k,rfl⟩:∃ k:Nat,bt=(k:Int):=⟨bt.toNat,by omega⟩;have sG:k<w.owner.length:=by omega
 have acV:=hw.own _ (aj4 sG);have sE:=hw.ji;have Na:w.owner[k]? = some ((jP w (k:Int):Nat):Int):=by
  unfold jP;rw [d8 sG,i9,d5,d8 sG];simp only [ae4];congr 1;omega
 have Bh:jP w (k:Int)<64:=by
  unfold jP;rw [i9,d5,d8 sG];simp only [ae4];omega
 have WJ:(w.owner.map bg)[k]? = some (.int .i64 ((jP w (k:Int):Nat):Int)):=by simp [Na,bg]
 have WK:=A0 m _ yU Bh;have WL:=A0 xn _ yV Bh;have acW:=sf (k:Int) gX;have WM:=xm gX (k:Int);have aj:=xh w mb n σ HC vh arg ((path++[(k:Int)]).length:Int) ((path++[(k:Int)]).getD 0 0) ((path++[(k:Int)]).getD 1 0);have jz:(σ (bu arg path)).bm.drop j=(k:Int)::(σ (bu arg path)).bm.drop (j+1):=by
  rw [List.drop_eq_getElem_cons az];rw [d8 az] at ax;simp only [Option.some.injEq] at ax;rw [ax]
 rw [jz,py] at aX;clear sf xm;generalize jP w (k:Int)=nr at Na Bh WJ WK WL aX;refine TO ?_;intro dB jz c9;refine bf.runs (is:=[0,1,6,7]) C ?_;refine bf.b4 2 rfl rfl rfl rfl rfl rfl rfl aj I (aJ.all _) ?_ (fun _ _ ⟨_,_,h,_⟩ _=>by cases h);rintro _ _ ⟨dm,adN,⟨⟩,⟨HE,Lx,DU,WN⟩,rfl⟩ I;rw [d9] at I ⊢;refine bf.runs (is:=[3,4]) C ?_;have WO:=WM HE _ ⟨HE,rfl,DU.four,DU.rest,DU.mS,fun x ab=>ab⟩;refine bf.TC (σ:=List lb) (fun _ => .bool (cn (path++[(k:Int)]))) (fun z=>aU s (mT σ mb z)) (fun z=>Ok s (mT σ mb z)∧xg n HE σ z) (i:=5) (j:=8) al C C C C C C C C C C C C (bp.get bp.here I) C C C C
  (a6.b4 rfl rfl WO I (aJ.ix Lx)) ?_ (fun z _ h=>h) ?_ ?_ (fun _ _ ⟨_,_,_,h,_⟩=>by cases h)
 ·rintro y ak ⟨aQ,rfl,yz,⟨⟩,xp,rfl,vk⟩
  rw [d9] at yz ⊢;exact ⟨xp,⟨yz,vk⟩,rfl,rfl⟩
 ·rintro z ⟨yW,vk⟩ h
  have WQ:=vk.tA _ WN;obtain ⟨adK,WR⟩:=bp.M8 (o := .own dm) (L:=mT σ mb z) (i0 _ (af8.2 ⟨_,WQ,rfl⟩));refine bf.eC 5 al yW C C C C C C C C WR C ?_;exact bf.congr _ (fun t=>TA _ _ _ C t) h
 rintro xp ⟨yW,vk⟩;refine bf.run C (bf.done C ?_);have DV:xg n E σ xp:=⟨vk.four,vk.rest,vk.mS,fun x ab=>vk.tA x (DU.tA x ab)⟩;have Nb:m|||2^nr<2^64:=aj0 yU (ai6 ag Bh)
 have WS:xn|||2^nr<2^64:=aj0 yV (ai6 ag Bh)
 unfold gl e6 p8 eX bj at *;cases xq:cn (path++[(k:Int)]) with
 | false=>
  refine eh ?_;cases ez:(σ (bu arg (path++[(k:Int)]))).gz with
  | true=>
   refine ae.dK 65 C ez ?_;refine fe ?_;rw [xq,ez] at aX;simp only [aj6,Bool.and_self,ag5] at aX;rw [aX] at hm;exact Fin.bC yW C aT (aJ.all _) ⟨by rw [hm];rfl,xp,rfl,DV⟩
  | false=>
   refine ae.dh 65 C ez ?_;refine ae.dh 12 C ez ?_;refine cl ?_;rw [xq,ez] at aX;simp only [f6,af7,ah9] at aX;exact bD.mk (j+1,m,xn|||2^nr,xp) yW ⟨az,aX,yU,WS,DV⟩ cA (aJ.all _) Hq
 | true=>
  refine eh ?_;cases ez:(σ (bu arg (path++[(k:Int)]))).gz with
  | true=>
   refine ae.dK 65 C ez ?_;refine ae.dK 12 C ez ?_;refine cl ?_;rw [xq,ez] at aX;simp only [aj',Bool.and_false,af7,ah9,ag5] at aX;exact bD.mk (j+1,m|||2^nr,xn,xp) yW ⟨az,aX,Nb,yV,DV⟩ cA (aJ.all _) Hq
  | false=>
   refine ae.dh 65 C ez ?_;refine ae.dh 12 C ez ?_;refine bK ?_;rw [xq,ez] at aX;simp only [f6,af7,ah9,ag5] at aX;exact bD.mk (j+1,m,xn,xp) yW ⟨az,aX,yU,yV,DV⟩ cA (aJ.all _) Hq
def sH (w:bz) (σ:dP) (arg:Int):Nat→List Int→Bool
 | 0,_=>false
 | k+1,p=>xk σ arg p||(xi σ arg p||(xl w σ (sH w σ arg k) arg p).2)
theorem Nc (w:bz) (hw:fw w) (mb n:Nat) (aB:n<bx) (σ:dP) (b8:vi n σ) (gQ:DT w σ) (arg:Int):∀ (k:Nat) (path:List Int),path.length≤2→3≤k+path.length→M9 w mb n σ arg (sH w σ arg k) path
  | 0,path,aF,aj=>by omega
  | k+1,path,aF,aj=>by
    intro E K bk;have aa:=fun K bk=>WE (E:=E) w mb n aB σ b8 arg path aF K bk
    have ad:=fun K bk=>WD (E:=E) w mb n aB σ b8 arg path aF K bk
    have a8:=fun K bk=>WH (E:=E) w hw mb n aB σ b8 gQ arg path aF (sH w σ arg k) (fun aC bt=>Nc w hw mb n aB σ b8 gQ arg k (path++[bt]) (by rw [f9];simp;omega) (by rw [f9];simp;omega)) K bk
    have hm:sH w σ arg (k+1) path=(xk σ arg path||(xi σ arg path||(xl w σ (sH w σ arg k) arg path).2)):=rfl;refine bI.bl al Tryz.func270 C C fun s I=>?_
    unfold h8 at *;unfold iI ko at *;refine dS ?_;refine ae.b4 rfl rfl rfl rfl rfl (aa K bk) I (aJ.all _) ?_ (fun _ _ ⟨h,_⟩ _=>by cases h);rintro _ iK ⟨⟨⟩,oH⟩ I;rw [d9] at I ⊢;refine h3 ?_;cases aS:xk σ arg path with
    | true=>
      refine et ?_;rw [aS] at hm;exact Fin.bC I C aT (aJ.all _) ⟨by rw [hm];rfl,oH⟩
    | false=>
      refine er ?_;refine ae.b4 rfl rfl rfl rfl rfl (ad iK oH) I (aJ.all _) ?_ (fun _ _ ⟨h,_⟩ _=>by cases h);rintro _ HF ⟨⟨⟩,Bi⟩ I;rw [d9] at I ⊢;refine gj ?_;cases h':xi σ arg path with
      | true=>
        refine et ?_;rw [aS,h'] at hm;exact Fin.bC I C aT (aJ.all _) ⟨by rw [hm];rfl,Bi⟩
      | false=>
        refine bK ?_;refine ae.b4 rfl rfl rfl rfl rfl (a8 HF Bi) I (aJ.all _) ?_ (fun _ _ ⟨h,_⟩ _=>by cases h);rintro _ aeg ⟨⟨⟩,WT⟩ I;rw [d9] at I ⊢;refine et ?_;rw [aS,h'] at hm;exact Fin.bC I C aT (aJ.all _) ⟨by rw [hm];rfl,WT⟩
def oJ (w:bz) (σ:dP):Bool:=(ah8 3).all fun a=>sH w σ ((a:Nat):Int) 3 []
def HG:ah := .iface 291 (.agg [])
theorem WU (w:bz) (hw:fw w) (mb n:Nat) (aB:n<bx) (σ:dP) (b8:vi n σ) (gQ:DT w σ) {E:List lb} (K:bb) (bk:mf n E σ mb K) :
  bI d0 249 [h8 w mb] K (fun o aQ=>(o=if oJ w σ then .ret (.cr []) else .panic HG)∧mf n E σ mb aQ):=by
 have aa:=fun (a:Nat) K bk=>Nc w hw mb n aB σ b8 gQ ((a:Nat):Int) 3 [] bc bc E K bk
 refine bI.bl al Tryz.func249 C C fun s I=>?_
 unfold h8 at *;unfold iI ko at *;refine hp ?_;refine af.ck [0] C I (σ:=Nat×bb) (fun q=>[(3,.int .i64 (q.1:Int))]) (fun q=>q.2) (fun q=>q.1≤3∧((ah8 q.1).all fun a=>sH w σ ((a:Nat):Int) 3 [])=true∧mf n E σ mb q.2) (fun q=>3-q.1) (0,K) ⟨by omega,rfl,bk⟩ (cK C) (aJ.all _) ?_;rintro ⟨j,iK⟩ ⟨aI,aO,oH⟩ I;simp only at aI aO oH I ⊢;refine cf ?_;refine af.cond C (fun az=>?_) (fun a7=>?_);rotate_left
 ·have a7:j=3:=by simp at a7;omega
  subst a7;have hm:oJ w σ=true:=aO;refine ew ?_;exact Fin.bC I C aT (aJ.all _) ⟨by rw [hm];rfl,oH⟩
 have az:j<3:=by simp at az;omega
 refine bK ?_;refine ae.b4 rfl rfl rfl rfl rfl (aa j iK oH) I (aJ.all _) ?_ (fun _ _ ⟨h,_⟩ _=>by cases h);rintro _ HF ⟨⟨⟩,Bi⟩ I;rw [d9] at I ⊢;refine gj ?_;cases aD:sH w σ ((j:Nat):Int) 3 [] with
 | false=>
  refine bK ?_;refine ae.panic C C C C ?_;have hm:oJ w σ=false:=by
   unfold oJ;rw [aw7];exact ⟨j,by simpa using az,by rw [aD];simp⟩
  exact Fin.fc I aT (aJ.all _) ⟨by rw [hm];rfl,Bi⟩
 | true=>
  refine ki ?_;exact bD.mk (j+1,HF) I ⟨az,by rw [at2,ax',aO];simp [aD],Bi⟩ cA (aJ.all _) (by show 3-(j+1)<3-j;omega)
mutual
def kp:av→List av
 | .mk o a p c n ks=>if (av.mk o a p c n ks).cU then [.mk o a p c n ks] else mU ks
def mU:List av→List av
 | []=>[]
 | x::r=>kp x++mU r
end
theorem Bj (f:av):kp f=if f.cU then [f] else mU f.kids:=by cases f;rw [kp];rfl
def hv (f g:av):Bool:=decide (f.op=g.op)&&(decide (f.arg=g.arg)&&(decide (f.cls=g.cls)&&(decide (f.n=g.n)&&f.path==g.path)))
def j8 (l:List av) (f:av):List av:=if l.any (fun x=>hv x f) then l else l++[f]
def ld (gen:Int) (l:List av) (m:gN):List av:=if m.gen=gen then (kp m.fact).foldl j8 l else l
def cy (p:bN) (gen:Int):List av:=p.methods.foldl (ld gen) []
def lf (p:bN) (gen:Int):Bool:=decide (gen≥0)&&decide (gen<(p.dt.length:Int))
def fq (p:bN) (gen:Int):Int:=if fX p&&lf p gen then (if (cy p gen).length≤7 then 0 else 3) else 2
def sI:Nat→List av→Nat→List cv
 | _,[],_=>[]
 | i,f::r,v=>(f,!v.testBit i)::sI (i+1) r v
def yX (l:List av) (v:Nat):List cv:=sI 0 l v
def pz (w:bz) (l:List av) (v:Nat):Bool:=oJ w (ek (yX l v))
def h9 (w:bz) (l:List av):List Nat:=(ah8 (2^l.length)).filter (pz w l)
mutual
def ru (l:List av) (v:Nat):av→Bool
 | .mk o a p c n ks=>
  if o=1 then true
  else if o=5 then !(n3 l v 0 ks)
  else if o=6 then n3 l v 0 ks&&n3 l v 1 ks
  else if o=7 then n3 l v 0 ks||n3 l v 1 ks
  else match l.findIdx? (fun x=>hv x (.mk o a p c n ks)) with
   | some i=>v.testBit i
   | none=>false
def n3 (l:List av) (v:Nat):Nat→List av→Bool
 | _,[]=>false
 | 0,x::_=>ru l v x
 | n+1,_::r=>n3 l v n r
end
theorem Bk (l:List av) (v:Nat):∀ (n:Nat) (ks:List av) (x:av),ks[n]? = some x→n3 l v n ks=ru l v x
 | 0,y::r,x,h=>by rw [n3];simp at h;rw [h]
 | n+1,y::r,x,h=>by rw [n3];exact Bk l v n r x hx
theorem Nd (l:List av) (v:Nat) (f:av):ru l v f =
  if f.op=1 then true
  else if f.op=5 then !(n3 l v 0 f.kids)
  else if f.op=6 then n3 l v 0 f.kids&&n3 l v 1 f.kids
  else if f.op=7 then n3 l v 0 f.kids||n3 l v 1 f.kids
  else match l.findIdx? (fun x=>hv x f) with
   | some i=>v.testBit i
   | none=>false:=by cases f;rw [ru];rfl
def pA (gen:Int) (l:List av) (v:Nat):Nat→List gN→List Int
 | _,[]=>[]
 | i,m::r=>if m.gen=gen&&ru l v m.fact then (i:Int)::pA gen l v (i+1) r else pA gen l v (i+1) r
def dp (p:bN) (gen:Int) (l:List av) (v:Nat):List Int:=pA gen l v 0 p.methods
inductive bF where
 | leaf (ms:List Int)
 | test (atom:Nat) (no yes:bF)
 deriving Inhabited
namespace bF
def fi:bF→Nat
 | .leaf _=>0
 | .test _ a b=>1+max a.fi b.fi
def leaves:bF→Nat
 | .leaf _=>1
 | .test _ a b=>a.leaves+b.leaves
def before (a b:bF):Bool:=decide (a.fi<b.fi)||(decide (a.fi=b.fi)&&decide (a.leaves<b.leaves))
def laid:List bs→bF→List bs
 | l,.leaf ms=>l++[⟨-1,0,0,ms⟩]
 | l,.test i a b=>
  let sJ:=laid (l++[⟨i,0,0,[]⟩]) a
  let fH:=laid sJ b
  fH.set l.length ⟨i,(l.length:Int)+1,(sJ.length:Int),[]⟩
end bF
def mV (have':Nat→List Int):List Nat→Bool
 | []=>true
 | v::r=>r.all fun u=>have' u==have' v
def firstM (have':Nat→List Int):List Nat→List Int
 | []=>[]
 | v::_=>have' v
def qf (out:Option bF) (t:bF):Option bF:=match out with
 | none=>some t
 | some o=>if t.before o then some t else some o
def e8 (i:Nat) (vs:List Nat):List Nat:=vs.filter fun v=>v.testBit i
def e9 (i:Nat) (vs:List Nat):List Nat:=vs.filter fun v => !v.testBit i
def jQ (g:List Nat→bF) (vs:List Nat) (out:Option bF) (i:Nat):Option bF:=
 if (e8 i vs).isEmpty||(e9 i vs).isEmpty then out else qf out (.test i (g (e9 i vs)) (g (e8 i vs)))
def nw (A:Nat) (have':Nat→List Int):Nat→List Nat→bF
 | 0,vs => .leaf (firstM have' vs)
 | f+1,vs=>if mV have' vs then .leaf (firstM have' vs) else ((ah8 A).foldl (jQ (nw A have' f) vs) none).getD (.leaf [])
def tV (p:bN) (gen:Int):bF:=
 let l:=cy p gen
 let vs:=h9 (bY p) l
 nw l.length (dp p gen l) vs.length vs
def rv (g:List bs) (v:Nat):Nat→Int→Nat→Int×Nat
 | 0,eD,n=>(eD,n)
 | f+1,eD,n=>
  if (g.getD eD.toNat default).atom≥0 then rv g v f (if v.testBit (g.getD eD.toNat default).atom.toNat then (g.getD eD.toNat default).yes else (g.getD eD.toNat default).no) (n+1)
  else (eD,n)
def leads (g:List bs) (v:Nat):Int×Nat:=rv g v g.length 0 0
def kO (p:bN) (gen:Int) (g:List bs):Bool:=
 let l:=cy p gen
 g.all (fun x=>decide (x.atom<(l.length:Int)))&&(h9 (bY p) l).all fun v=>(g.getD (leads g v).1.toNat default).ms==dp p gen l v
def j9 (p:bN) (gen:Int) (g:List bs):Bool×Int:=
 if fq p gen=2 || !fF g then (false,2) else if fq p gen=0 then (kO p gen g,0) else (false,fq p gen)
theorem DW (v c:Nat):(((v >>> c &&& 1:Nat):Int)==1)=v.testBit c:=by
 rw [show (((v >>> c &&& 1:Nat):Int)==1)=decide (((v >>> c &&& 1:Nat):Int)=1) from rfl,Nat.and_one_is_mod,Nat.testBit_eq_decide_div_mod_eq,Nat.shiftRight_eq_div_pow];apply decide_eq_decide.2;omega
theorem Nf (g:List bs) (aq:fF g=true) (v:Nat) (ar:v<2^63):aV d0 75 [e7 g,.int .i64 (v:Int)] (.cr [.int .i64 (leads g v).1,.int .i64 ((leads g v).2:Int)]):=by
 have an:=bE;refine aV.bl al Tryz.func75 C C fun s I=>?_
 obtain ⟨oh,eQ⟩:=tN aq;unfold e7;refine hp ?_;refine af.ck [0,1] C I (σ:=Nat×Nat×Nat) (fun q=>[(4,.int .i64 (q.1:Int)),(5,.int .i64 (q.2.1:Int))]) (fun _=>[]) (fun q=>q.1<g.length∧leads g v=rv g v q.2.2 (q.1:Int) q.2.1∧g.length≤q.1+q.2.2∧q.2.1≤q.1) (fun q=>g.length-q.1) (0,0,g.length) ⟨oh,rfl,by simp,g7 _⟩ (cK C) ba ?_;rintro ⟨j,n,f⟩ ⟨aI,aw,aX,aB⟩ I
 try simp only at aI aw aX aB I ⊢
 obtain ⟨x,ab,ch⟩:=b7 (f:=eR) aI;have a1:=tM aq ab;obtain ⟨f,rfl⟩:∃ k,f=k+1:=⟨f-1,by omega⟩;rw [rv,i9,show g.getD j default=x by rw [d5,ab];rfl] at aw;unfold eR gO bj at ch;refine eh ?_;refine af.cond C (fun aO=>?_) (fun aO=>?_);rotate_left
 ·rw [d7 (by simpa using aO)] at aw
  rw [aw];refine ew ?_;exact br I
 have aO:x.atom≥0:=by simpa using aO
 rw [f7 aO] at aw;have di:=(kk ag).1 a1;obtain ⟨a,Ng⟩:∃ a:Nat,x.atom=a:=⟨x.atom.toNat,by omega⟩;rw [Ng,i9] at aw;rw [Ng] at ch;refine bK ?_;refine ae.shr _ C C C C C C ag (u0 ag) ?_;refine ae.bits _ C C C C C C (Dq (n:=1) (Nat.lt_of_le_of_lt (Nat.shiftRight_le v a) ar) ag) ?_;refine gj ?_;have an:=DW v a;refine af.cond C (fun aD=>?_) (fun aD=>?_)
 ·rw [aD] at an
  rw [← an,f7 C] at aw;obtain ⟨y,ax⟩:∃ y:Nat,x.yes=y:=⟨x.yes.toNat,by omega⟩;rw [ax] at aw ch;refine bK ?_;exact bD.mk (y,n+1,f) I ⟨by show y<g.length;omega,by rw [aw],by show g.length≤y+f;omega,by show n+1≤y;omega⟩ cA ba (by show g.length-y<g.length-j;omega)
 ·rw [aD] at an
  rw [← an,d7 bc] at aw;obtain ⟨y,ax⟩:∃ y:Nat,x.no=y:=⟨x.no.toNat,by omega⟩;rw [ax] at aw ch;refine bK ?_;exact bD.mk (y,n+1,f) I ⟨by show y<g.length;omega,by rw [aw],by show g.length≤y+f;omega,by show n+1≤y;omega⟩ cA ba (by show g.length-y<g.length-j;omega)
theorem Nh {g:List bs} (aq:fF g=true) (v:Nat):∃ j x,(leads g v).1=(j:Nat)∧g[j]? = some x∧¬ x.atom≥0:=by
 obtain ⟨oh,eQ⟩:=tN aq;suffices h:∀ (f j n:Nat),j<g.length→g.length≤j+f→∃ k x,(rv g v f (j:Int) n).1=(k:Nat)∧g[k]? = some x∧¬ x.atom≥0 from h g.length 0 0 oh bc
 intro f
 induction f with
 | zero=>intro j n aa ad;omega
 | succ f aW=>
  intro j n aa ad;obtain ⟨x,ab,-⟩:=b7 (f:=eR) aa;have a1:=tM aq ab;rw [rv,i9,show g.getD j default=x by rw [d5,ab];rfl];by_cases aO:x.atom≥0
  ·rw [f7 aO]
   have di:=(kk ag).1 a1;split
   ·obtain ⟨y,ax⟩:∃ y:Nat,x.yes=y:=⟨x.yes.toNat,by omega⟩
    rw [ax];exact aW y (n+1) ag ag
   ·obtain ⟨y,ax⟩:∃ y:Nat,x.no=y:=⟨x.no.toNat,by omega⟩
    rw [ax];exact aW y (n+1) ag ag
  ·rw [d7 aO];exact ⟨j,x,rfl,ab,aO⟩
theorem WV (fv:ah) (Go:List av→bb→Prop) (fD:bb→Prop) (fK:ah→bb→Prop) (di:∀ x rem K,Go (x::rem) K→ds d0 fv [x.cj] K (A6 Go fD fK rem)) :
  ∀ (n:Nat) (f:av),f.size≤n→n<bx→∀ (rest:List av) (K:bb),Go (kp f++rest) K→bI d0 149 [f.cj,fv] K (A6 Go fD fK rest):=by
 have an:=bE;intro n
 induction n with
 | zero=>intro x h;have:=x.size_eq;omega
 | succ n aW=>
  intro f aB jc rest K dj;have iu:=f.size_eq;have lL:=av.q5 f.kids;rw [Bj] at dj;refine bI.bl al Tryz.func149 C C fun s I=>?_
  cases aC:f.cU with
  | true=>
   rw [aC,f7 C] at dj;have aj:=di f rest K dj;rw [av.cG] at aj ⊢;unfold av.cells at aj ⊢;have b1:f.op=2∨f.op=3∨f.op=4:=by unfold av.cU at aC;simp at aC;omega
   rcases b1 with h|h|h
   all_goals
    rw [h] at aj ⊢;refine bK ?_;refine ae.gM C C C C C C aj I (aJ.all _) ?_ ?_
    ·rintro x aQ (⟨⟨⟩,aq⟩|⟨⟨⟩,ay⟩|⟨_,⟨⟩,_⟩) I
     all_goals rw [d9] at I ⊢
     ·refine et ?_
      exact Fin.bC I C aT (aJ.all _) (.inl ⟨rfl,aq⟩)
     ·refine et ?_
      exact Fin.bC I C aT (aJ.all _) (.inr (.inl ⟨rfl,ay⟩))
    ·rintro x aQ (⟨h,_⟩|⟨h,_⟩|⟨v,⟨⟩,aF⟩) I
     ·cases h
     ·cases h
     rw [d9] at I ⊢;exact Fin.fc I aT (aJ.all _) (.inr (.inr ⟨_,rfl,aF⟩))
  | false=>
   rw [aC,d7 bc] at dj;have b1:f.op≠2∧f.op≠3∧f.op≠4:=by unfold av.cU at aC;simp at aC;omega
   rw [av.cG];unfold av.cells;refine dS ?_;refine ae.dh 10 C cL ?_;refine er ?_;refine ae.dh 15 C cL ?_;refine gj ?_;refine af.cond C (fun h=>by simp at h;omega) (fun _=>?_);refine jL ?_;refine af.ck [1,24,25] C I (σ:=Nat×bb) (fun q=>[(26,.int .i64 (q.1:Int))]) (fun q=>q.2) (fun q=>q.1≤f.kids.length∧Go (mU (f.kids.drop q.1)++rest) q.2) (fun q=>f.kids.length-q.1) (0,K) ⟨g9 _,dj⟩ (cK C) (aJ.all _) ?_;rintro ⟨j,iK⟩ ⟨aI,dj⟩ I
   try simp only at aI dj I ⊢
   refine cf ?_;refine af.cond C (fun az=>?_) (fun a7=>?_);rotate_left
   ·have a7:j=f.kids.length:=by simp at a7;omega
    rw [eE ag,mU,f0] at dj;refine ew ?_;exact Fin.bC I C aT (aJ.all _) (.inl ⟨rfl,dj⟩)
   have az:j<f.kids.length:=by simpa using az
   obtain ⟨x,ab,ch⟩:=b7 (f:=av.cj) az;have d':=av.h5 (d6 ab);rw [drop_cons ab,mU,ag'] at dj;have i1:=aW x ag ag _ iK dj;rw [av.cG] at i1 ch;unfold av.cells at i1 ch;refine ft ?_;refine ae.b4 C C C C C i1 I (aJ.all _) ?_ ?_
   ·rintro y aQ (⟨⟨⟩,aq⟩|⟨⟨⟩,ay⟩|⟨_,⟨⟩,_⟩) I
    all_goals rw [d9] at I ⊢
    ·refine bK ?_
     exact bD.mk (j+1,aQ) I ⟨az,aq⟩ cA (aJ.all _) pr
    ·refine fe ?_
     exact Fin.bC I C aT (aJ.all _) (.inr (.inl ⟨rfl,ay⟩))
   ·rintro y aQ (⟨h,_⟩|⟨h,_⟩|⟨v,⟨⟩,aF⟩) I
    ·cases h
    ·cases h
    rw [d9] at I ⊢;exact Fin.fc I aT (aJ.all _) (.inr (.inr ⟨_,rfl,aF⟩))
theorem WW (f:av) (aX:f.size<bx):yu d0 148 [] [.bA f.cells 0] [] av.cj (kp f):=by
 intro l Go fD fK pf K bk;have hw:=WV (lY l) Go fD fK (fun x rem K aq=>pf x rem K aq) f.size f (g7 _) aX [] K (by rw [d9];exact bk);rw [av.cG] at hw;refine bI.bl al Tryz.func148 C C fun s I=>?_
 rw [f0] at I ⊢;unfold av.cells at *;refine kG ?_;refine ae.b4 C C C C C hw I (aJ.all _) ?_ ?_
 ·rintro x aQ (⟨⟨⟩,h⟩|⟨⟨⟩,h⟩|⟨_,⟨⟩,_⟩) I
  all_goals rw [d9] at I ⊢
  ·refine gj ?_
   exact Fin.bC I C aT (aJ.all _) (.inl ⟨rfl,.inl h⟩)
  ·refine gj ?_
   exact Fin.bC I C aT (aJ.all _) (.inl ⟨rfl,.inr h⟩)
 ·rintro x aQ (⟨h,_⟩|⟨h,_⟩|⟨v,⟨⟩,h⟩) I
  ·cases h
  ·cases h
  rw [d9] at I ⊢;exact Fin.fc I aT (aJ.all _) (.inr ⟨_,rfl,h⟩)
theorem WX (f:av):aV d0 101 [f.cj] (.func 148 [] [.bA f.cells 0]):=by
 have an:=bE;refine aV.bl al Tryz.func101 C C fun s I=>?_
 rw [av.cG];unfold av.cells;refine gE ?_;exact br I
section
variable {P:Program} {Γ:cw} {N:Nat} {ops:Array Oper} {Q:b3→Env→ao→Prop} {env:Env} {s:ao} {l:List Oper} {o:Oper} {d:Nat} {L R:bb}
def HH (s:ao) (R:bb) (e:TypeId) (sz n:Nat) (xs:List ah) (r:ah) (ak:ao):Prop:=
 ∃ aY cb cs',r=ee aY n cb∧ak=aU s ((.own aY,.box e cs')::R)∧Ok s ((.own aY,.box e cs')::R)∧cs'.length=cb*sz∧n≤cb∧cs'.take (n*sz)=xs
theorem Ni (z:Array Value) (k:Nat):(Builtin.zeroCells z k).toList.length=k*z.size:=by
 rw [ae5];simp [Builtin.zeroCells]
theorem Nj (aR:bR P Γ) {w:World} {p:bU} {S:ao} (ca:dq w p S) {t bP e ty:TypeId} {it cJ aH:bQ} {bZ sz:Nat} {olds:List Value} {xs ys:List ah} {dD:bV} {base:Option Addr} {n cap:Nat} {q1:Value}
  (aM:Γ.get? t=some it) (bw:it.bL = .aG e) (c7:Γ.get? bP=some cJ) (dH:∀ k,cJ.bL ≠ .int k) (bO:Γ.get? e=some aH) (aa:aH.size=sz) (ed:af2 aH.zero.cells.size aH.size=true)
  (aE:bH w p olds xs) (aB:n*sz=xs.length) (tm:(Builtin.firstCells sz n (.slice base n cap)).run P w.drew = .ok olds.toArray w.drew) (ax:Rel w p q1 (.aG bZ [.agg ys] dD)) (dg:bZ=sz) (iq:ys.length=sz)
  (az:cap<n+1) (an:(n+1)*aH.bytes≤140737488355328) (eA:n+1≤9223372036854775807) :
  ∃ aY cb cs' w',(Builtin.append_ #[t,bP] ty #[.slice base n cap,q1]).run P w = .ok (.slice (some ⟨aY,0,none⟩) (n+1) cb) w'∧S aY=none∧de w p w' p∧Kept S (S.set aY (.box e cs')) w p w' p∧dq w' p (S.set aY (.box e cs')) ∧
   cs'.length=cb*sz∧n+1≤cb∧cs'.take ((n+1)*sz)=xs++ys:=by
 obtain ⟨info,d,g1,g2,g3,-⟩:=aR.parts aM;obtain ⟨m0,c4,ea,dr,dG,-⟩:=aR.parts c7;obtain ⟨jT,kB,cu,c2,fg,eG,jU,jq⟩:=aR.parts bO;have ay:d = .slice e:=by rw [bw] at g3;cases d<;>simp [en] at g3;rw [g3]
 subst ay;have cg:∀ k,c4 ≠ .int k:=fun k e'=>by subst e';exact dH k dG.symm
 obtain ⟨us,im,pR,jV,kg,tp,tq,tr⟩:=qK ax (.inr dg);subst dg;have tW:bH w p (flat us) ys:=by
  cases im with
  | cons u _ wg _ hu wP=>
  cases wP;cases hu with
  | agg c _ aD=>simpa [flat,Value.cells] using aD
 have m6:=tW.length;have fB:=growslice_fits (need:=n+1) (old:=cap) (bytes:=aH.bytes) az an;have cR:=zV (ty:=ty) w g2 dr cg cu jq (base:=base) (sLen:=n) (sCap:=cap) (m:=1) (olds:=olds) (news:=flat us) (jV P)
  (by rw [eG,aa];exact tm) (by rw [eG,aa];exact kg P w.drew (fun _ _ _=>rfl)) az ag (by rw [jU];exact fB)
 have nM:n+1≤grownCap w (n+1) cap e:=by simp [grownCap,Question.cut]
 have gd:olds.length=n*bZ:=by rw [aE.length,aB]
 have oZ:=ad' ed;generalize tn:(Builtin.zeroCells aH.zero.cells (grownCap w (n+1) cap e-(n+1))).toList=a' at cR;have mx:a'.length=(grownCap w (n+1) cap e-(n+1))*bZ:=by
  rw [← tn,Ni,oZ,aa]
 generalize grownCap w (n+1) cap e=G at cR nM mx;have wQ:=x7 ca
 obtain ⟨au,hle,aA,k3⟩:=rY wQ (.cells (olds++flat us++a').toArray e (0,0)) (.box e (xs++ys++a'.map fun _ => .any)) (fun w' iO ar fz=>⟨_,iO,by
  refine bH.append (bH.append (fz _ _ (show bH w.drew p olds xs from aE.mono kX)) (fz _ _ (tW.mono kX))) (bH.Av a'),fun o aF=>absurd (ca.lt _ _ aF) (by show ¬ w.heap.size<w.heap.size;omega)⟩)
 rw [show w.drew.heap.size=w.heap.size from rfl] at au aA k3;have hm:(n+1)*bZ=n*bZ+bZ:=aw9 n bZ;refine ⟨w.heap.size,G,xs++ys++a'.map (fun _=>ah.any),_,cR,au,kX.trans hle,(vW (w:=w) (p:=p)).trans (kX (w:=w) (p:=p)).size aA,k3,?_,nM,?_⟩
 ·simp only [f9,f8,mx]
  rw [← aB,iq,← hm,← Nat.add_mul];congr 1;omega
 ·rw [ah3 cL,ah1 cL]
theorem a6.sK (aR:bR P Γ) (I:Ok s L) {t bP e:TypeId} {x y:Operand} {it cJ aH:bQ} {eg bZ sz:Nat} {ys:List ah} {dD:bV}
    (ai:o.op = .call { callee := .builtin .append,args := #[x,y],argTypes := #[t,bP] }) (aM:Γ.get? t=some it) (bw:it.bL = .aG e) (c7:Γ.get? bP=some cJ) (dH:∀ k,cJ.bL ≠ .int k)
    (bO:Γ.get? e=some aH) (aa:aH.size=sz) (ed:af2 aH.zero.cells.size aH.size=true) (ab:aN env x=some (.aG eg [] .nil)) (ax:aN env y=some (.aG bZ [.agg ys] dD)) (dg:bZ=sz) (iq:ys.length=sz) (an:1*aH.bytes≤140737488355328)
    {X:ah→ao→Prop}:a6 P N o env (aU s L) (fun r ak=>HH s L e sz 1 ys r ak) X:=by
  refine a6.kA jd fun ro B a w p aK=>?_
  have gh:=aK.aN ab;have fl:=aK.aN ax;have eO:=fun val w'=>uW (P:=P) (a:=a) (val:=val) (w:=w) (w':=w') ai
  generalize eo:a.eval x=dN at gh eO;generalize fh:a.eval y=gb at fl eO;have tF:dN = .slice none 0 0:=by
    cases gh with
    | hY=>rfl
    | iA a _ _ h=>rcases h with h|h<;>cases h
    | aG g off n cap _ vs _ _ aB=>exact absurd C aB
  subst tF
  obtain ⟨aY,cb,cs',w',fr,gD,hB,ja,my,mz,nf,ng⟩:=Nj (ty:=o.type) aR aK.wf (base:=none) (n:=0) (cap:=0) (olds:=[]) (xs:=[]) aM bw c7 dH bO aa ed .nil bc (by
    have:=run_firstCells_none (P:=P) w.drew sz 0 0 0
    simpa using this) fl dg iq ag uu ag
  rw [af6] at fr nf ng;exact ⟨_,w',_,p,_,eO _ _ fr,hB,ja,my,⟨aY,cb,cs',rfl,rfl,⟨gD,I⟩,mz,nf,by simpa using ng⟩,.hE _⟩
theorem a6.sL (aR:bR P Γ) (I:Ok s L) {t bP e:TypeId} {x y:Operand} {it cJ aH:bQ} {b n cap bZ sz:Nat} {cs ys:List ah} {dD:bV}
    (ai:o.op = .call { callee := .builtin .append,args := #[x,y],argTypes := #[t,bP] }) (aM:Γ.get? t=some it) (bw:it.bL = .aG e) (c7:Γ.get? bP=some cJ) (dH:∀ k,cJ.bL ≠ .int k)
    (bO:Γ.get? e=some aH) (aa:aH.size=sz) (ed:af2 aH.zero.cells.size aH.size=true) (ab:aN env x=some (ee b n cap)) (au:bp L (.own b) (.box e cs) R) (b9:cs.length=cap*sz) (aB:n≤cap)
    (ax:aN env y=some (.aG bZ [.agg ys] dD)) (dg:bZ=sz) (iq:ys.length=sz) (dY:ys.all fb=true) (an:(n+1)*aH.bytes≤140737488355328) (eA:n+1≤9223372036854775807)
    {X:ah→ao→Prop}:a6 P N o env (aU s L) (fun r ak=>HH s R e sz (n+1) (cs.take (n*sz)++ys) r ak) X:=by
  obtain ⟨b6,bW,eN⟩:=au.perm I;refine a6.kA jd fun ro B a w p aK=>?_
  have gh:=aK.aN ab;have fl:=aK.aN ax;have eO:=fun val w'=>uW (P:=P) (a:=a) (val:=val) (w:=w) (w':=w') ai
  generalize eo:a.eval x=dN at gh eO;generalize fh:a.eval y=gb at fl eO;cases gh;obtain ⟨vs,cW,c6,eW⟩:=aK.wf.obj _ _ (au.get I);have fz:vs.toList.length=cap*sz:=by rw [c6.length,b9]
  have tL:n*sz≤cap*sz:=am9 _ aB;have hL:=c6.take (n*sz);have pT:∀ w':World,(∀ j,w'.cell? ⟨b,j,none⟩=w.cell? ⟨b,j,none⟩)→(Builtin.firstCells sz n (.slice (some ⟨b,0,none⟩) n cap)).run P w' = .ok (vs.toList.take (n*sz)).toArray w':=by
    intro w' iO;refine run_firstCells_some (P:=P) w' sz n ⟨b,0,none⟩ n cap (vs.toList.take (n*sz)) (by rw [ae9,fz];omega) (fun j u hu=>?_);rw [lr,af6,iO,jH cW];rw [ai2] at hu;split at hu
    · simpa using hu
    · cases hu
  by_cases az:cap<n+1
  · obtain ⟨aY,cb,cs',w',fr,gD,hB,ja,my,mz,nf,ng⟩:=Nj (ty:=o.type) aR aK.wf (base:=some ⟨b,0,none⟩) (n:=n) (cap:=cap) (olds:=vs.toList.take (n*sz)) (xs:=cs.take (n*sz)) aM bw c7 dH bO aa ed hL x0
      (pT w.drew fun _=>rfl) fl dg iq az an eA
    have fR:ao.Sub ((aU s R).set aY (.box e cs')) ((aU s L).set aY (.box e cs')):=by
      refine Df (k := .own aY) ?_;rw [b6];exact yo (k := .own b) (ao.o1 _) bW
    have aq:aU s R aY=none:=by
      have h:=gD;rw [b6] at h;exact (ao.uG h).2
    exact ⟨_,w',_,p,_,eO _ _ fr,hB,ja.sub fR,my.sub fR,⟨aY,cb,cs',rfl,rfl,⟨aq,eN⟩,mz,nf,ng⟩,.hE _⟩
  · obtain ⟨info,d,g1,g2,g3,-⟩:=aR.parts aM
    obtain ⟨m0,c4,ea,dr,dG,-⟩:=aR.parts c7;obtain ⟨jT,kB,cu,c2,fg,eG,jU,jq⟩:=aR.parts bO;have ay:d = .slice e:=by rw [bw] at g3;cases d<;>simp [en] at g3;rw [g3]
    subst ay;have cg:∀ k,c4 ≠ .int k:=fun k e'=>by subst e';exact dH k dG.symm
    subst dg;obtain ⟨us,im,pR,jV,kg,tp,tq,tr⟩:=qK (sz':=bZ) fl (.inr rfl);have tW:bH w p (flat us) ys:=by
      cases im with
      | cons u _ wg _ hu wP=>
      cases wP;cases hu with
      | agg c _ aD=>simpa [flat,Value.cells] using aD
    have m6:=tW.length;have j0:∀ x∈flat us,x.oneCell'=true:=qJ tW dY;have eM:vs.size=cap*bZ:=by rw [← ae5];exact fz
    have hm:(n+1)*bZ=n*bZ+bZ:=aw9 n bZ;have acX:(n+1)*bZ≤cap*bZ:=am9 _ ag;have cR:=CO (ty:=o.type) (P:=P) w g2 dr cg cu b n cap vs cW (xv:=gb) (m:=1) (news:=flat us) (jV P) (by rw [eG,aa];exact kg P w (fun _ _ _=>rfl)) j0 ag (by rw [eG,aa,eM];omega);rw [eG,aa] at cR;have hk:bH w p (vs.toList.take (n*bZ)++flat us++vs.toList.drop (n*bZ+(flat us).length)) (cs.take (n*bZ)++ys++cs.drop (n*bZ+(flat us).length)):=bH.append (bH.append hL tW) (c6.drop _);have b8:(aU s L) b=some (.box e cs):=au.get I
    obtain ⟨da,j1,ic⟩:=we aK.wf b8 (vs':=(vs.toList.take (n*bZ)++flat us++vs.toList.drop (n*bZ+(flat us).length)).toArray) (cs':=cs.take (n*bZ)++ys++cs.drop (n*bZ+(flat us).length)) (fun Ax bo=>by
      rw [cW] at bo;cases bo
      simp only [List.size_toArray,f9,ae9,ai8,fz]
      rw [eM];omega) (by simpa using hk) _ C
    obtain ⟨f1,f2⟩:=au.put (.box e (cs.take (n*bZ)++ys++cs.drop (n*bZ+(flat us).length))) I;refine ⟨_,_,_,p,_,eO _ _ cR,da,j1,ic,⟨b,cap,cs.take (n*bZ)++ys++cs.drop (n*bZ+(flat us).length),rfl,f1,f2,?_,by omega,?_⟩,.hE _⟩
    · simp only [f9,ae9,ai8,b9];omega
    · have:(cs.take (n*bZ)++ys).length=(n+1)*bZ:=by rw [f9,ae9,b9];omega
      rw [ah3 ag,ah1 ag]
theorem ae.sK (aR:bR P Γ) (I:Ok s L) {t bP e:TypeId} {x y:Operand} {it cJ aH:bQ} {eg bZ sz:Nat} {ys:List ah} {dD:bV} (aq:guardOf ops env o=some true) (ay:o.dst=some d) (a1:z2 d N=true)
  (ai:o.op = .call { callee := .builtin .append,args := #[x,y],argTypes := #[t,bP] }) (aM:Γ.get? t=some it) (bw:it.bL = .aG e) (c7:Γ.get? bP=some cJ) (dH:∀ k,cJ.bL ≠ .int k)
  (bO:Γ.get? e=some aH) (aa:aH.size=sz) (ed:af2 aH.zero.cells.size aH.size=true) (ab:aN env x=some (.aG eg [] .nil)) (ax:aN env y=some (.aG bZ [.agg ys] dD)) (dg:bZ=sz) (iq:ys.length=sz) (an:1*aH.bytes≤140737488355328)
  (h:∀ aY cb cs',cs'.length=cb*sz→1≤cb→cs'.take (1*sz)=ys→Ok s ((.own aY,.box e cs')::L)→ae P N ops l Q ((d,ee aY 1 cb)::env) (aU s ((.own aY,.box e cs')::L))):ae P N ops (o::l) Q env (aU s L):=by
 refine ae.op aq ay a1 (a6.sK aR I ai aM bw c7 dH bO aa ed ab ax dg iq an (X:=fun _ _=>False)) ?_ (fun _ _ h=>h.elim);rintro r ak ⟨aY,cb,cs',rfl,rfl,ad,aj,a8,bB⟩;exact h aY cb cs' aj a8 bB ad
theorem ae.sL (aR:bR P Γ) (I:Ok s L) {t bP e:TypeId} {x y:Operand} {it cJ aH:bQ} {b n cap bZ sz:Nat} {cs ys:List ah} {dD:bV} (aq:guardOf ops env o=some true) (ay:o.dst=some d) (a1:z2 d N=true)
  (ai:o.op = .call { callee := .builtin .append,args := #[x,y],argTypes := #[t,bP] }) (aM:Γ.get? t=some it) (bw:it.bL = .aG e) (c7:Γ.get? bP=some cJ) (dH:∀ k,cJ.bL ≠ .int k)
  (bO:Γ.get? e=some aH) (aa:aH.size=sz) (ed:af2 aH.zero.cells.size aH.size=true) (ab:aN env x=some (ee b n cap)) (au:bp L (.own b) (.box e cs) R) (b9:cs.length=cap*sz) (aB:n≤cap)
  (ax:aN env y=some (.aG bZ [.agg ys] dD)) (dg:bZ=sz) (iq:ys.length=sz) (dY:ys.all fb=true) (an:(n+1)*aH.bytes≤140737488355328) (eA:n+1≤9223372036854775807)
  (h:∀ aY cb cs',cs'.length=cb*sz→n+1≤cb→cs'.take ((n+1)*sz)=cs.take (n*sz)++ys→Ok s ((.own aY,.box e cs')::R)→ae P N ops l Q ((d,ee aY (n+1) cb)::env) (aU s ((.own aY,.box e cs')::R))):ae P N ops (o::l) Q env (aU s L):=by
 refine ae.op aq ay a1 (a6.sL aR I ai aM bw c7 dH bO aa ed ab au b9 aB ax dg iq dY an eA (X:=fun _ _=>False)) ?_ (fun _ _ h=>h.elim);rintro r ak ⟨aY,cb,cs',rfl,rfl,ad,aj,a8,bB⟩;exact h aY cb cs' aj a8 bB ad
end
section
variable {J:ao→Prop} {P:Program} {Γ:cw} {N:Nat} {Q:b3→Env→ao→Prop} {env:Env} {s:ao} {l:List Oper} {o:Oper} {d m:Nat} {L R:bb}
theorem bq.sK (i:Nat) (aR:bR P Γ) (I:Ok s L) {t bP e:TypeId} {x y:Operand} {it cJ aH:bQ} {eg bZ sz:Nat} {ys:List ah} {dD:bV} (aE:eP l.toArray m (idxs 0 l)=[i]) (aS:l.toArray[i]? = some o) (ay:o.dst=some d) (a1:z2 d N=true)
  (aq:c8 l env o)
  (ai:o.op = .call { callee := .builtin .append,args := #[x,y],argTypes := #[t,bP] }) (aM:Γ.get? t=some it) (bw:it.bL = .aG e) (c7:Γ.get? bP=some cJ) (dH:∀ k,cJ.bL ≠ .int k)
  (bO:Γ.get? e=some aH) (aa:aH.size=sz) (ed:af2 aH.zero.cells.size aH.size=true) (ab:aN (b2 l env o) x=some (.aG eg [] .nil)) (ax:aN (b2 l env o) y=some (.aG bZ [.agg ys] dD)) (dg:bZ=sz) (iq:ys.length=sz) (an:1*aH.bytes≤140737488355328)
  (aI:∀ aY cb cs',Ok s ((.own aY,.box e cs')::L)→cs'.length=cb*sz→J (aU s ((.own aY,.box e cs')::L)))
  (h:∀ aY cb cs',cs'.length=cb*sz→1≤cb→cs'.take (1*sz)=ys→Ok s ((.own aY,.box e cs')::L)→bq J P Γ N l.toArray Q (bX (m|||2^i)) ((d,ee aY 1 cb)::env) (aU s ((.own aY,.box e cs')::L))):bq J P Γ N l.toArray Q (bX m) env (aU s L):=by
 refine bq.one aE aS ay a1 aq (a6.sK aR I ai aM bw c7 dH bO aa ed ab ax dg iq an (X:=fun _ _=>False)) ?_ ?_ (fun _ _ h=>h.elim)
 ·rintro r ak ⟨aY,cb,cs',rfl,rfl,ad,aj,a8,bB⟩
  exact .inl (aI aY cb cs' ad aj)
 ·rintro r ak ⟨aY,cb,cs',rfl,rfl,ad,aj,a8,bB⟩
  exact h aY cb cs' aj a8 bB ad
theorem bq.sL (i:Nat) (aR:bR P Γ) (I:Ok s L) {t bP e:TypeId} {x y:Operand} {it cJ aH:bQ} {b n cap bZ sz:Nat} {cs ys:List ah} {dD:bV} (aE:eP l.toArray m (idxs 0 l)=[i]) (aS:l.toArray[i]? = some o) (ay:o.dst=some d) (a1:z2 d N=true)
  (aq:c8 l env o)
  (ai:o.op = .call { callee := .builtin .append,args := #[x,y],argTypes := #[t,bP] }) (aM:Γ.get? t=some it) (bw:it.bL = .aG e) (c7:Γ.get? bP=some cJ) (dH:∀ k,cJ.bL ≠ .int k)
  (bO:Γ.get? e=some aH) (aa:aH.size=sz) (ed:af2 aH.zero.cells.size aH.size=true) (ab:aN (b2 l env o) x=some (ee b n cap)) (au:bp L (.own b) (.box e cs) R) (b9:cs.length=cap*sz) (aB:n≤cap)
  (ax:aN (b2 l env o) y=some (.aG bZ [.agg ys] dD)) (dg:bZ=sz) (iq:ys.length=sz) (dY:ys.all fb=true) (an:(n+1)*aH.bytes≤140737488355328) (eA:n+1≤9223372036854775807)
  (aI:∀ aY cb cs',Ok s ((.own aY,.box e cs')::R)→cs'.length=cb*sz→J (aU s ((.own aY,.box e cs')::R)))
  (h:∀ aY cb cs',cs'.length=cb*sz→n+1≤cb→cs'.take ((n+1)*sz)=cs.take (n*sz)++ys→Ok s ((.own aY,.box e cs')::R)→bq J P Γ N l.toArray Q (bX (m|||2^i)) ((d,ee aY (n+1) cb)::env) (aU s ((.own aY,.box e cs')::R))):bq J P Γ N l.toArray Q (bX m) env (aU s L):=by
 refine bq.one aE aS ay a1 aq (a6.sL aR I ai aM bw c7 dH bO aa ed ab au b9 aB ax dg iq dY an eA (X:=fun _ _=>False)) ?_ ?_ (fun _ _ h=>h.elim)
 ·rintro r ak ⟨aY,cb,cs',rfl,rfl,ad,aj,a8,bB⟩
  exact .inl (aI aY cb cs' ad aj)
 ·rintro r ak ⟨aY,cb,cs',rfl,rfl,ad,aj,a8,bB⟩
  exact h aY cb cs' aj a8 bB ad
end
section
variable {P:Program} {Γ:cw} {N:Nat} {env:Env} {s:ao} {ops:Array Oper} {rest:List Oper} {Q:b3→Env→ao→Prop} {L R:bb}
theorem Nk:∀ (ys r:List ah),uC ys.length (ys++r)=some ys
 | [],r=>by cases r<;>rfl
 | y::ys,r=>by rw [i5,ab',uC,Nk ys r]
theorem Nl:∀ (a r:List ah),qG a.length (a++r)=some r
 | [],r=>rfl
 | y::ys,r=>by rw [i5,ab',qG];exact Nl ys r
def HI (i:bQ):Bool:=match i.bL with
 | .struct _=>true
 | _=>false
theorem WY {i:bQ} {a ys z:List ah} (aa:HI i=true) (aC:ys.length=i.size) {off:Nat} (aO:a.length=off):hP i (a++(ys++z)) off=some (.agg ys):=by
 unfold hP HI at *;subst aO;rw [Nl];simp only;split at aa
 ·rename_i h;rw [h];simp only;rw [← aC,Nk]
 ·cases aa
theorem DX {xss:List (List ah)} {sz:Nat} (cc:∀ c∈xss,c.length=sz):∀ {j:Nat} {ys:List ah},xss[j]? = some ys→∃ a z,xss.flatten=a++(ys++z)∧a.length=j*sz∧∀ ys',(xss.set j ys').flatten=a++(ys'++z):=by
 induction xss with
 | nil=>intro j ys h;cases h
 | cons x r aW=>
  intro j ys h;cases j with
  | zero=>
   simp at h;subst h;exact ⟨[],r.flatten,by simp,by simp,fun ys'=>by simp⟩
  | succ j=>
   obtain ⟨a,z,aa,ad,aj⟩:=aW (fun c aD=>cc c (i0 _ aD)) hx;refine ⟨x++a,z,by rw [as2,aa,ag'],by rw [f9,cc x i6,ad,aw9,ar3],fun ys'=>?_⟩;rw [List.set_cons_succ,as2,aj,ag']
theorem WZ {xss:List (List ah)} {sz:Nat} (cc:∀ c∈xss,c.length=sz):xss.flatten.length=xss.length*sz:=by
 induction xss with
 | nil=>simp
 | cons x r aW=>rw [as2,f9,cc x i6,aW (fun c aD=>cc c (i0 _ aD)),i5,aw9,ar3]
theorem Nn {i:bQ} {cs:List ah} {xss:List (List ah)} {n j:Nat} {ys:List ah} (aa:HI i=true) (cc:∀ c∈xss,c.length=i.size) (ab:cs.take (n*i.size)=xss.flatten) (aI:xss[j]? = some ys):hP i cs (j*i.size)=some (.agg ys):=by
 obtain ⟨a,z,ad,aj,-⟩:=DX cc aI;have:cs=a++(ys++(z++cs.drop (n*i.size))):=by
  conv=>lhs;rw [← ah' (n*i.size) cs,ab,ad]
  simp
 rw [this];exact WY aa (cc ys (d6 aI)) aj
theorem HJ:∀ (ys ys' a z:List ah),ys'.length=ys.length→eV a.length ys' (a++(ys++z))=a++(ys'++z)
  | [],[],a,z,_=>by simp [eV]
  | y::ys,No::ys',a,z,h=>by
    have:=HJ ys ys' (a++[No]) z hx;rw [f9,ag',ag'] at this;rw [eV,al6 _ _ (g7 _),am'];exact this
theorem Np {sz:Nat} {cs:List ah} {xss:List (List ah)} {n j:Nat} {ys ys':List ah} (cc:∀ c∈xss,c.length=sz) (ab:cs.take (n*sz)=xss.flatten) (aI:xss[j]? = some ys) (aC:ys'.length=sz) :
  (eV (j*sz) ys' cs).length=cs.length∧(eV (j*sz) ys' cs).take (n*sz)=(xss.set j ys').flatten:=by
 obtain ⟨a,z,ad,aj,a8⟩:=DX cc aI;have iq:=cc ys (d6 aI);have aD:cs=a++(ys++(z++cs.drop (n*sz))):=by
  conv=>lhs;rw [← ah' (n*sz) cs,ab,ad]
  simp
 have hlen:(xss.flatten).length≤n*sz:=by rw [← ab,ae9];omega
 have bB:eV (j*sz) ys' cs=a++(ys'++(z++cs.drop (n*sz))):=by
  conv=>lhs;rw [aD,← aj]
  exact HJ ys ys' a _ ag
 refine ⟨by rw [bB];(conv=>rhs;rw [aD]);simp;omega,?_⟩;rw [bB,a8];by_cases ay:cs.length≤n*sz
 ·rw [List.drop_eq_nil_of_le ay,d9,ah1]
  have:(a++(ys'++z)).length=(a++(ys++z)).length:=by simp;omega
  rw [this,← ad];exact hlen
 ·have gp:(xss.flatten).length=n*sz:=by rw [← ab,ae9];omega
  have ia:(a++(ys'++z)).length=n*sz:=by rw [← gp,ad];simp;omega
  rw [show a++(ys'++(z++cs.drop (n*sz)))=(a++(ys'++z))++cs.drop (n*sz) by simp,ah3 ag,ah1 ag]
theorem dw.Bl {B:fQ} {ro:Option Nat} {a:Act} {w:World} {p:bU} (h:dw N B ro env s a w p) {kb b n cap sz i:Nat} {T xf:TypeId} {cells cs:List ah} {xss:List (List ah)} (cP:kb≠b) (j7:s kb=some (.box T cells)) (aD:cells[i]? = some (ee b n cap)) (au:s b=some (.box xf cs)) (ab:cs.take (n*sz)=xss.flatten) (hH:xss.length=n)
  (cc:∀ c∈xss,c.length=sz) (aB:n≤cap) (hm:n≤9223372036854775807):∃ bh,dw N B ro env ((s.del b).set kb (.box T (cells.set i (.aG sz (xss.map ah.agg) .bd)))) a w bh∧de w p w bh∧Kept s ((s.del b).set kb (.box T (cells.set i (.aG sz (xss.map ah.agg) .bd)))) w p w bh:=by
 obtain ⟨vs,aa,ad,aj⟩:=h.wf.obj _ _ au;have az:b<w.heap.size:=(t8.1 aa).1;have hle:de w p w (p.dX b True):=⟨rfl,rfl,rfl,g7 _,fun _ _ h => .inl h,fun _ _ _=>rfl,fun _ _ h=>h⟩;have db:∀ v,Rel w p v (ee b n cap)→Rel w (p.dX b True) v (.aG sz (xss.map ah.agg) .bd):=by
  intro v aE;cases aE;have hL:=ad.take (n*sz);rw [ab] at hL;obtain ⟨us,b6,bW,eN⟩:=Gz hL cc;refine .aG b 0 n cap sz us (xss.map ah.agg) .bd bc (by rw [f8,hH]) ?_ (b6.mono hle) eN hm aB (fun h=>by cases h) (fun b h=>by cases h);rw [bW];intro i v aS;refine ⟨.inr ⟨rfl,trivial⟩,?_⟩;rw [af6,jH aa];rw [ai2] at aS;split at aS
  ·simpa using aS
  ·cases aS
 have aA:Kept s ((s.del b).set kb (.box T (cells.set i (.aG sz (xss.map ah.agg) .bd)))) w p w (p.dX b True):=⟨fun _ _ _=>rfl,fun aY an gL=>by
  have a8:aY≠kb:=fun e=>by subst e;rw [j7] at gL;cases gL
  rw [ao.fA _ _ a8]
  by_cases e:aY=b
  ·subst e;exact ao.nL _ _
  ·rw [ao.m3 _ e];exact gL,fun aY o an gL aF=>by
   rcases aF with aF|⟨rfl,_⟩
   ·exact aF
   ·rw [au] at gL;cases gL⟩
 have ca:dq w (p.dX b True) ((s.del b).set kb (.box T (cells.set i (.aG sz (xss.map ah.agg) .bd)))):=by
  refine ⟨fun aY o an=>?_,fun aY o aF=>by rcases aF with aF|⟨rfl,_⟩;exact h.wf.lt _ _ aF;exact az⟩;have fa:aY≠b→∀ o,p.dX b True aY o↔p aY o:=fun e o=>⟨fun aF=>by rcases aF with aF|⟨e',_⟩;exact aF;exact absurd e' e,.inl⟩
  by_cases jG:aY=kb
  ·subst jG
   rw [ao.gr] at an;cases an;obtain ⟨us,g1,g2,g3⟩:=h.wf.obj _ _ j7;obtain ⟨v,uI,m5⟩:=g2.get aD;have bB:=(g2.mono hle).set i (db v m5);have gp:us.toList.set i v=us.toList:=by
    apply ap5;intro k;rw [au4];split
    ·rename_i e;subst e
     split
     ·rw [uI]
     ·rename_i az;rw [ak4 ag]
    ·rfl
   rw [gp] at bB;exact ⟨us,g1,bB,fun o aF=>g3 o ((fa cP o).1 aF)⟩
  rw [ao.fA _ _ jG] at an;by_cases e:aY=b
  ·subst e;rw [ao.nL] at an;cases an
  ·rw [ao.m3 _ e] at an
   have ai:=h.wf.obj aY o an;have fa:=fa e;cases o with
   | box t c=>obtain ⟨us,g1,g2,g3⟩:=ai;exact ⟨us,g1,g2.mono hle,fun o aF=>g3 o ((fa o).1 aF)⟩
   | row t sz n=>obtain ⟨cur,g1,g2,g3,g4⟩:=ai;exact ⟨cur,g1,g2,g3,fun o=>(fa o).trans (g4 o)⟩
   | map es=>obtain ⟨cQ,c,g1,g2,g3⟩:=ai;exact ⟨cQ,c,g1,⟨g2.1.mono hle,g2.2.mono hle⟩,g3⟩
   | lp es it l c=>exact ai.qD hle C C
   | tick m=>exact ai
   | loop r env=>exact ⟨ai.1,fun t v h=>(ai.2 t v h).mono hle⟩
 exact ⟨_,h.step hle aA ca,hle,aA⟩
theorem af.Bl {c:Code} (I:Ok s L) {kb b n cap sz:Nat} (i:Nat) {T xf:TypeId} {cells cs:List ah} {xss:List (List ah)} {du:bb} (aa:bp L (.own kb) (.box T cells) R) (ad:bp R (.own b) (.box xf cs) du) (aD:cells[i]? = some (ee b n cap)) (ab:cs.take (n*sz)=xss.flatten) (hH:xss.length=n) (cc:∀ c∈xss,c.length=sz) (aB:n≤cap) (hm:n≤9223372036854775807)
  (h:Ok s ((.own kb,.box T (cells.set i (.aG sz (xss.map ah.agg) .bd)))::du)→af P N c Q env (aU s ((.own kb,.box T (cells.set i (.aG sz (xss.map ah.agg) .bd)))::du))):af P N c Q env (aU s L):=by
 obtain ⟨g1,g2,g3,g4,g5⟩:=MZ (o'' := .box T (cells.set i (.aG sz (xss.map ah.agg) .bd))) I aa ad;intro tG B a w p eZ aK;obtain ⟨bh,aj,a8,bB⟩:=aK.Bl g1 g2 aD g3 ab hH cc aB hm;rw [g4] at aj bB;exact mq (h g5 tG B a w bh eZ aj) fun _ _ _ q=>q.after a8 bB
end
abbrev yY:=Option (Nat×Nat×List ah)
def ry:yY→List av→ah
 | none,_ => .aG 0 [] .nil
 | some (g,cap,_),l=>ee g l.length cap
def qg:yY→bb
 | none=>[]
 | some (g,_,cs)=>[(.own g,.box 58 cs)]
def HK:yY→List av→Prop
 | none,l=>l=[]
 | some (_,cap,cs),l=>cs.length=cap*6∧l.length≤cap∧cs.take (l.length*6)=(l.map av.cells).flatten
theorem HL (l:List av):∀ c∈l.map av.cells,c.length=6:=fun c aD=>by obtain ⟨x,-,rfl⟩:=af8.1 aD;rfl
def oK (cC:Nat) (f:av):bV×dy:=(.own cC,.box 58 f.cells)
theorem W0 (cC:Nat) (x f:av) (ab:x.path.length<bx) (aX:f.path.length<bx):ds d0 (.func 103 [] [.ptr cC 0]) [x.cj] [oK cC f] (fun o K=>o = .ret (.bool (hv x f))∧K=[oK cC f]):=by
 have aa:=Ml x f ab aX;have aa:aV d0 104 [x.cj,f.cj] (.bool (hv x f)):=aa;refine ds.fm (first:=[]) (cap:=[.ptr cC 0]) ?_;refine bI.bl al Tryz.func103 C C fun s I=>?_
 unfold oK at I ⊢;rw [av.cG,av.cG] at aa;rw [av.cG];unfold av.cells at *;refine hq I ?_;intro I;exact Fin.bC I C aT (aJ.all _) ⟨rfl,rfl⟩
theorem W1 (g cap:Nat) (cs:List ah) (l:List av) (aC:l.length<bx) (aa:cs.length=cap*6) (ad:l.length≤cap) (aj:cs.take (l.length*6)=(l.map av.cells).flatten) (cC:Nat) (f:av) (aX:f.path.length<bx) (aF:∀ x∈l,x.path.length<bx) :
  bI d0 150 [ee g l.length cap,.func 103 [] [.ptr cC 0]] [(.own g,.box 58 cs),oK cC f]
   (fun o K=>o = .ret (.int .i64 (match l.findIdx? (fun x=>hv x f) with
    | some i=>(i:Int)
    | none => -1))∧K=[(.own g,.box 58 cs),oK cC f]):=by
 have an:=bE;refine bI.bl al Tryz.func150 C C fun s I=>?_
 unfold oK at I ⊢;refine dS ?_;refine ae.tI al C C C C C C C ?_;refine eh ?_;refine af.ck [0,1,7] C I (σ:=Nat) (fun j=>[(8,.int .i64 (j:Int))]) (fun _=>[(.own g,.box 58 cs),oK cC f]) (fun j=>j≤l.length∧∀ i x,i<j→l[i]? = some x→hv x f=false) (fun j=>l.length-j) 0 ⟨g9 _,fun i x aS=>absurd aS (an6 _)⟩ (cK C) (aJ.all _) ?_;rintro j ⟨aI,aw⟩ I;unfold oK at I ⊢;refine cf ?_;refine af.cond C (fun az=>?_) (fun a7=>?_);rotate_left
 ·have a7:j=l.length:=by simp at a7;omega
  have ab:l.findIdx? (fun x=>hv x f)=none:=by
   rw [ai0];intro z bG;obtain ⟨i,aS⟩:=af' bG;have aa:=se aS;exact aw i z ag aS
  rw [ab];refine ew ?_;exact Fin.bC I C aT (aJ.all _) ⟨rfl,rfl⟩
 have az:j<l.length:=by simpa using az
 obtain ⟨y,ax⟩:∃ y,l[j]? = some y:=⟨_,d8 az⟩;have c0:=W0 cC y f (aF y (d6 ax)) aX;rw [av.cG] at c0;unfold oK at c0;refine bK ?_;refine ae.gF al j C C C C C C C C C C az ?_;refine ae.eC al I C C C C C C .here (Nn C (HL l) aj (by rw [ae7,ax];rfl)) ?_;skip;refine ae.gM rfl rfl rfl rfl rfl rfl c0 I ba ?_ (fun _ _ ⟨h,_⟩ _=>by cases h);rintro _ _ ⟨⟨⟩,rfl⟩ I;rw [ab',f0] at I ⊢;cases aB:hv y f with
 | true=>
  have ab:l.findIdx? (fun x=>hv x f)=some j:=by
   rw [ag9];refine ⟨az,by rw [(t7.1 ax).2];exact aB,fun i aS=>?_⟩;have:=aw i l[i] aS (d8 ag);simpa using this
  rw [ab];refine fe ?_;exact Fin.bC I C aT (.cons (.there .here) (.cons .here .nil)) ⟨rfl,rfl⟩
 | false=>
  refine bK ?_;refine bD.mk (j+1) I ⟨az,fun i x aS ab=>?_⟩ cA (.cons (.there .here) (.cons .here .nil)) rn;rcases ah7.1 aS with aS|rfl
  ·exact aw i x aS ab
  ·rw [ax] at ab;cases ab;exact aB
theorem W2 {α:Type} (q:α→Bool) (l:List α):(decide ((match l.findIdx? q with
  | some i=>(i:Int)
  | none => -1)≥0))=l.any q:=by
 cases h:l.findIdx? q with
 | none=>
  rw [ai0] at h;have:l.any q=false:=by rw [ak8];intro x ab;rw [h x ab];simp
  rw [this];rfl
 | some i=>
  rw [ag9] at h;obtain ⟨aa,ad,-⟩:=h;have:l.any q=true:=af4.2 ⟨_,aj4 aa,ad⟩;rw [this];simp
theorem W3 (bt:yY) (l:List av) (aC:l.length<bx) (au:HK bt l) (cC:Nat) (f:av) (aX:f.path.length<bx) (aF:∀ x∈l,x.path.length<bx) :
  bI d0 102 [ry bt l,.func 103 [] [.ptr cC 0]] (qg bt++[oK cC f]) (fun o K=>o = .ret (.bool (l.any fun x=>hv x f))∧K=qg bt++[oK cC f]):=by
 cases bt with
 | none=>
  have:l=[]:=au;subst this;have h:=GN (.func 103 [] [.ptr cC 0]) [] (fun _=>[oK cC f]) (fun _=>false) dV (fun j x h=>by cases h);refine bI.mono (bI.args (show cS [.aG 0 [] .nil,.func 103 [] [.ptr cC 0]] [.aG 6 ([].map av.cj) .bd,.func 103 [] [.ptr cC 0]] from .cons aZ.empty (.one aT)) h) ?_;rintro o K (⟨rfl,rfl,-⟩|⟨j,h,-⟩)
  ·exact ⟨rfl,rfl⟩
  ·exact absurd h (an6 _)
 | some q=>
  obtain ⟨g,cap,cs⟩:=q;obtain ⟨aa,ad,aj⟩:=au;rw [← W2];have h:=W1 g cap cs l aC aa ad aj cC f aX aF;show bI d0 102 [ee g l.length cap,.func 103 [] [.ptr cC 0]] [(.own g,.box 58 cs),oK cC f] _;refine bI.bl al Tryz.func102 C C fun s I=>?_
  refine dS ?_;refine ae.b4 rfl rfl rfl rfl rfl h I (aJ.all _) ?_ (fun _ _ ⟨h,_⟩ _=>by cases h);rintro _ _ ⟨⟨⟩,rfl⟩ I;rw [d9] at I ⊢;refine ep ?_;exact Fin.bC I C aT (aJ.all _) ⟨rfl,rfl⟩
theorem DY (i:Nat):∀ vs:List Nat,(e8 i vs).length+(e9 i vs).length=vs.length
  | []=>rfl
  | v::r=>by
    have:=DY i r;unfold e8 e9 at *;cases h:v.testBit i<;>simp [al5,h]<;>omega
theorem yZ {i:Nat} {vs:List Nat} (h:((e8 i vs).isEmpty||(e9 i vs).isEmpty)=false):(e8 i vs).length<vs.length∧(e9 i vs).length<vs.length:=by
 have:=DY i vs;rw [ak2] at h;have aa:(e8 i vs).length≠0:=by intro aB;rw [au8.2 aB] at h;simp at h
 have ad:(e9 i vs).length≠0:=by intro aB;rw [au8.2 aB] at h;simp at h
 omega
theorem W4 {g g':List Nat→bF} {vs:List Nat} (h:∀ l:List Nat,l.length<vs.length→g l=g' l) (out:Option bF) (i:Nat):jQ g vs out i=jQ g' vs out i:=by
 unfold jQ;cases he:(e8 i vs).isEmpty||(e9 i vs).isEmpty with
 | true=>rfl
 | false=>
  have:=yZ he;rw [d7 bc,d7 bc,h _ this.1,h _ this.2]
theorem HM {g g':List Nat→bF} {vs:List Nat} (h:∀ l:List Nat,l.length<vs.length→g l=g' l):∀ (is:List Nat) (out:Option bF),is.foldl (jQ g vs) out=is.foldl (jQ g' vs) out
 | [],_=>rfl
 | i::r,out=>by rw [ah4,ah4,W4 h,HM h r]
theorem HN (A:Nat) (h:Nat→List Int):∀ (f nc:Nat) (vs:List Nat),vs.length≤f→vs.length≤nc→nw A h f vs=nw A h nc vs
  | 0,nc,vs,aa,_=>by
    have:vs=[]:=ax7.1 ag;subst this;cases nc with
    | zero=>rfl
    | succ nc=>rw [nw,nw,mV,f7 C]
  | f+1,0,vs,_,ad=>by
    have:vs=[]:=ax7.1 ag;subst this;rw [nw,nw,mV,f7 C]
  | f+1,nc+1,vs,aa,ad=>by
    rw [nw,nw,HM (g:=nw A h f) (g':=nw A h nc) (fun l aC=>HN A h f nc l ag ag)]
def fN (A:Nat) (h:Nat→List Int) (vs:List Nat):bF:=nw A h vs.length vs
theorem vl (A:Nat) (h:Nat→List Int) (vs:List Nat):fN A h vs=if mV h vs then .leaf (firstM h vs) else ((ah8 A).foldl (jQ (fN A h) vs) none).getD (.leaf []):=by
 have e:fN A h vs=nw A h (vs.length+1) vs:=HN A h _ _ vs (g7 _) (aA5 _);rw [e,nw,HM (g:=nw A h vs.length) (g':=fN A h) (fun l aC=>HN A h _ _ l ag (g7 _))]
theorem Bm (p:bN) (gen:Int):tV p gen=fN (cy p gen).length (dp p gen (cy p gen)) (h9 (bY p) (cy p gen)):=rfl
theorem bF.pB:∀ t:bF,1≤t.leaves
 | .leaf _=>g7 1
 | .test _ a b=>by have:=a.pB;have:=b.pB;rw [bF.leaves];omega
theorem bF.DZ:∀ t:bF,t.fi<t.leaves
  | .leaf _=>Nat.one_pos
  | .test _ a b=>by
    have:=a.DZ;have:=b.DZ;have:=a.pB;have:=b.pB;rw [bF.fi,bF.leaves];omega
theorem W5 {Pr:bF→Prop} {out:Option bF} {t:bF} (aa:∀ o,out=some o→Pr o) (ad:Pr t):∀ o,qf out t=some o→Pr o:=by
 intro o h;unfold qf at h;cases out with
 | none=>cases h;exact ad
 | some x=>
  simp only at h;split at h
  ·cases h;exact ad
  ·cases h;exact aa _ C
theorem W6 {Pr:bF→Prop} {g:List Nat→bF} {vs:List Nat} {out:Option bF} {i:Nat} (aa:∀ o,out=some o→Pr o) (ad:((e8 i vs).isEmpty||(e9 i vs).isEmpty)=false→Pr (.test i (g (e9 i vs)) (g (e8 i vs)))):∀ o,jQ g vs out i=some o→Pr o:=by
 unfold jQ;cases he:(e8 i vs).isEmpty||(e9 i vs).isEmpty with
 | true=>rw [f7 C];exact aa
 | false=>rw [d7 bc];exact W5 aa (ad he)
theorem HO {Pr:bF→Prop} {g:List Nat→bF} {vs:List Nat}:∀ (is:List Nat) (out:Option bF),(∀ o,out=some o→Pr o)→(∀ i∈is,((e8 i vs).isEmpty||(e9 i vs).isEmpty)=false→Pr (.test i (g (e9 i vs)) (g (e8 i vs))))→∀ o,is.foldl (jQ g vs) out=some o→Pr o
  | [],_,aa,_=>aa
  | i::r,out,aa,ad=>by
    rw [ah4];exact HO r _ (W6 aa (ad i i6)) (fun j aI=>ad j (i0 _ aI))
theorem HP {Pr:bF→Prop} {g:List Nat→bF} {vs:List Nat} {is:List Nat} {out:Option bF} {d:bF} (ay:Pr d) (aa:∀ o,out=some o→Pr o) (ad:∀ i∈is,((e8 i vs).isEmpty||(e9 i vs).isEmpty)=false→Pr (.test i (g (e9 i vs)) (g (e8 i vs)))):Pr ((is.foldl (jQ g vs) out).getD d):=by
 cases h:is.foldl (jQ g vs) out with
 | none=>exact ay
 | some o=>exact HO is out aa ad o h
theorem xr (A:Nat) (h:Nat→List Int):∀ (n:Nat) (vs:List Nat),vs.length≤n→(fN A h vs).leaves≤max 1 vs.length
  | n,vs,aB=>by
    rw [vl];split
    · rw [bF.leaves];omega
    · refine HP (Pr:=fun t=>t.leaves≤max 1 vs.length) (by rw [bF.leaves];omega) (fun _ h=>by cases h) (fun i _ he=>?_)
      have aC:=yZ he;have ax:=DY i vs;cases n with
      | zero=>omega
      | succ n=>
        have aa:=xr A h n (e9 i vs) ag;have ad:=xr A h n (e8 i vs) ag;rw [bF.leaves];omega
theorem W7 (out:Option bF) (t:bF):∃ o,qf out t=some o:=by
 unfold qf;cases out with
 | none=>exact ⟨_,rfl⟩
 | some o=>simp only;split<;>exact ⟨_,rfl⟩
theorem Nq {g:List Nat→bF} {vs:List Nat}:∀ (is:List Nat) (out:Option bF),(out≠none∨∃ i∈is,((e8 i vs).isEmpty||(e9 i vs).isEmpty)=false)→∃ o,is.foldl (jQ g vs) out=some o
  | [],out,h=>by
    rcases h with h|⟨i,aS,_⟩
    · cases out with
      | none=>exact absurd C h
      | some o=>exact ⟨o,rfl⟩
    · cases aS
  | i::r,out,h=>by
    rw [ah4];refine Nq r _ ?_;unfold jQ;cases he:(e8 i vs).isEmpty||(e9 i vs).isEmpty with
    | true=>
      rw [f7 C];rcases h with h|⟨j,aI,h⟩
      · exact .inl h
      · rcases ae8.1 aI with rfl|aI
        · rw [he] at h;cases h
        · exact .inr ⟨j,aI,h⟩
    | false=>
      rw [d7 bc];obtain ⟨o,ai⟩:=W7 out (.test i (g (e9 i vs)) (g (e8 i vs)));exact .inl (by rw [ai];simp)
theorem D0 {α:Type} {l:List α} {x:α} (h:x∈l):l.isEmpty=false:=by cases l with|nil=>cases h|cons=>rfl
theorem W8 {A u v:Nat} {vs:List Nat} (hu:u∈vs) (ar:v∈vs) (aa:u<2^A) (ad:v<2^A) (cP:u≠v):∃ i∈ah8 A,((e8 i vs).isEmpty||(e9 i vs).isEmpty)=false:=by
 have hex:∃ i,u.testBit i≠v.testBit i:=Classical.byContradiction fun aB=>cP (Nat.eq_of_testBit_eq fun i=>Classical.byContradiction fun h=>aB ⟨i,h⟩)
 obtain ⟨i,aS⟩:=hex
 have W9:i<A:=Nat.lt_of_not_le fun a7=>aS (by
  rw [al0 (aj7 aa (ah6 ag a7)),al0 (aj7 ad (ah6 ag a7))])
 refine ⟨i,List.mem_range.2 W9,?_⟩;rw [ak2];cases an:u.testBit i with
 | true=>
  have mD:v.testBit i=false:=by cases h:v.testBit i with|false=>rfl|true=>exact absurd (an.trans h.symm) aS
  exact ⟨D0 (ag3.2 ⟨hu,an⟩),D0 (ag3.2 ⟨ar,by rw [mD];rfl⟩)⟩
 | false=>
  have mD:v.testBit i=true:=by cases h:v.testBit i with|true=>rfl|false=>exact absurd (an.trans h.symm) aS
  exact ⟨D0 (ag3.2 ⟨ar,mD⟩),D0 (ag3.2 ⟨hu,by rw [an];rfl⟩)⟩
theorem W' {h:Nat→List Int}:∀ {vs:List Nat},mV h vs=false→∃ u∈vs,∃ v∈vs,u≠v
  | v::r,aX=>by
    rw [mV] at aX;have:=aw7.1 aX;obtain ⟨u,hu,cP⟩:=this;exact ⟨u,i0 _ hu,v,i6,by rintro rfl;simp at cP⟩
theorem Nr {A:Nat} {h:Nat→List Int} {vs:List Nat} (lB:∀ v∈vs,v<2^A) (aX:mV h vs=false) (g:List Nat→bF):∃ o,(ah8 A).foldl (jQ g vs) none=some o:=by
 obtain ⟨u,hu,v,ar,cP⟩:=W' aX;exact Nq _ _ (.inr (W8 hu ar (lB u hu) (lB v ar) cP))
section
variable {P:Program} {Γ:cw} {N:Nat} {env:Env} {s:ao} {ops:Array Oper} {rest:List Oper} {Q:b3→Env→ao→Prop} {L R:bb}
theorem dw.rz {B:fQ} {ro:Option Nat} {a:Act} {w:World} {p:bU} (h:dw N B ro env s a w p) {kb:Nat} {T:TypeId} {cells sM:List ah} (j7:s kb=some (.box T cells)) (hle:cS cells sM) :
  dw N B ro env (s.set kb (.box T sM)) a w p∧Kept s (s.set kb (.box T sM)) w p w p:=by
 have aA:Kept s (s.set kb (.box T sM)) w p w p:=⟨fun _ _ _=>rfl,fun aY an gL=>by
  have a8:aY≠kb:=fun e=>by subst e;rw [j7] at gL;cases gL
  rw [ao.fA _ _ a8];exact gL,fun aY o an gL aF=>aF⟩
 have ca:dq w p (s.set kb (.box T sM)):=by
  refine ⟨fun aY o an=>?_,h.wf.lt⟩;by_cases jG:aY=kb
  ·subst jG
   rw [ao.gr] at an;cases an;obtain ⟨us,g1,g2,g3⟩:=h.wf.obj _ _ j7;exact ⟨us,g1,hle.rel g2,g3⟩
  ·rw [ao.fA _ _ jG] at an
   exact h.wf.obj aY o an
 exact ⟨h.step (.refl w p) aA ca,aA⟩
theorem af.rz {c:Code} (I:Ok s L) {kb:Nat} {T:TypeId} {cells:List ah} (sM:List ah) (aa:bp L (.own kb) (.box T cells) R) (hle:cS cells sM)
  (h:Ok s ((.own kb,.box T sM)::R)→af P N c Q env (aU s ((.own kb,.box T sM)::R))):af P N c Q env (aU s L):=by
 obtain ⟨g1,g2⟩:=aa.put (.box T sM) I;intro tG B a w p eZ aK;obtain ⟨aj,bB⟩:=aK.rz (aa.get I) hle;rw [g1] at aj bB;exact mq (h g2 tG B a w p eZ aj) fun _ _ _ q=>q.after (.refl w p) bB
end
section
variable {P:Program} {Γ:cw} {N:Nat} {ops:Array Oper} {Q:b3→Env→ao→Prop} {env:Env} {s:ao} {l:List Oper} {o:Oper} {d:Nat}
theorem a6.D1 (aR:bR P Γ) {t e:TypeId} {v:Value} {it aH:bQ} {x:ah} (ai:o.op = .buildSlice t 1 #[(0,.const v)]) (aM:Γ.get? t=some it) (bw:it.bL = .aG e) (he:Γ.get? e=some aH) (CH:Nat.ble (1*aH.size) 16777216=true) (aD:hF v=some x) (cc:af2 v.cells.size aH.size=true) :
  a6 P N o env s (fun r ak=>r = .aG aH.size [x] .clip∧ak=s) (fun _ _=>False):=by
 refine a6.nI jd fun ro B a w p aK=>?_
 obtain ⟨info,d,aa,ad,aj,-⟩:=aR.parts aM;obtain ⟨m0,c4,od,oe,v7,nH,Kf,CG⟩:=aR.parts he;have ay:d = .slice e:=by rw [bw] at aj;cases d<;>simp [en] at aj;rw [aj]
 subst ay;have au:=ad' cc;have hm:=Nat.le_of_ble_eq_true CH;have bW:bH w p [v] [x] := .cons _ _ _ _ (qH aD) .nil;have eN:∀ u∈[v],u.cells.size=aH.size:=fun u hu=>by rw [t6.1 hu];exact au
 have kz:(flat [v]).length=1*aH.size:=by simp [flat,au]
 have ti:∀ tj:Array Value,tj.size=1*aH.size→Instr.fill (fun i=>some (i*aH.size,aH.size)) tj ((#[(0,Operand.const v)]:Array (Nat×Operand)).map fun x=>(x.1,a.eval x.2)).toList=some (flat [v]).toArray:=by
  intro tj oZ;have:=Ka aH.size [v] 0 [] tj.toList bc (by rw [ae5,oZ];rfl) eN;simp only [f0] at this;simpa [Act.eval] using this
 refine gV.alloc (flat [v]).toArray e aK.wf.lt (val := .slice (some ⟨w.heap.size,0,none⟩) 1 1) ?_ ?_
 ·unfold execOp
  rw [ai];refine gW ?_;have o0:¬ (1*aH.size>2^24):=by omega
  unfold Instr.buildSlice;simp only [aa',run_underlying ad,i7,sizeOf,typeInfo,run_program,od,ae3,nH,d7 o0];by_cases bo:1*aH.size=0
  ·rw [f7 bo,aa',ae3,i7,ti _ bc]
   rfl
  ·rw [d7 bo]
   simp only [zeroValue,typeInfo,aa',run_program,od,CG,ae3,i7];rw [ti _ bc];rfl
 ·refine .aG _ 0 _ _ _ [v] _ _ bc rfl ?_ (bW.mono (uB aK.wf.lt _ _)) eN ?_ (g7 _) (fun _=>rfl) (fun b an=>by cases an)
  ·exact Fp (w:=w) (p:=p) (flat [v]) e
  ·omega
theorem ae.D1 (aR:bR P Γ) {t e:TypeId} {v:Value} {it aH:bQ} {x:ah} (aq:guardOf ops env o=some true) (ay:o.dst=some d) (a1:z2 d N=true) (ai:o.op = .buildSlice t 1 #[(0,.const v)]) (aM:Γ.get? t=some it) (bw:it.bL = .aG e) (he:Γ.get? e=some aH) (CH:Nat.ble (1*aH.size) 16777216=true) (aD:hF v=some x) (cc:af2 v.cells.size aH.size=true)
  (h:ae P N ops l Q ((d,.aG aH.size [x] .clip)::env) s):ae P N ops (o::l) Q env s:=
 ae.op aq ay a1 (a6.D1 aR ai aM bw he CH aD cc) (fun x ak ⟨aa,ad⟩=>by subst aa;subst ad;exact h) (fun _ _ h=>h.elim)
end
section
variable {P:Program} {Γ:cw} {N:Nat} {l:List Oper} {i:Nat} {rest:List Oper} {Q:b3→Env→ao→Prop} {env:Env} {s:ao} {o:Oper} {d:Nat}
theorem aL.sN {L R K:bb} {aeb:eB→bb→Prop} {b:Nat} {dA:dy} {f:FuncId} {fW:Array Operand} {cZ:Array TypeId} {xs:List ah} (aq:c8 l env o) (ay:o.dst=some d) (a1:z2 d N=true) (aE:eP l.toArray (2^i-1) (idxs 0 l)=[i])
  (b1:o.op = .call { callee := .value (.func f),args:=fW,argTypes:=cZ }) (aO:fS (b2 l env o) fW.toList=some xs) (h:bI P f xs K aeb) (I:Ok s L) (au:aJ L K R)
  (aI:∀ x aQ,aeb (.ret x) aQ→∃ du,bp (aQ++R) (.own b) dA du)
  (aA:∀ x aQ,aeb (.ret x) aQ→Ok s (aQ++R)→aL (fun ak=>ak b=some dA) P Γ N l (i+1) rest Q ((d,x)::env) (aU s (aQ++R))) (ab:∀ x aQ,aeb (.panic x) aQ→Ok s (aQ++R)→Q (.panic x) [] (aU s (aQ++R))):aL (fun ak=>ak b=some dA) P Γ N l i (o::rest) Q env (aU s L):=
 aL.yA aq ay a1 aE (a6.b4 b1 aO h I au) (fun x ak ⟨aQ,aa,ad,aj⟩=>by subst aa;obtain ⟨du,hK⟩:=aI x aQ aj;exact hK.get ad) (fun x ak ⟨aQ,aa,ad,aj⟩=>by subst aa;exact aA x aQ aj ad) (fun x ak ⟨aQ,aa,ad,aj⟩=>by subst aa;exact ab x aQ aj ad)
end
section
variable {P:Program} {N:Nat} {ops:Array Oper} {Q:b3→Env→ao→Prop} {env:Env} {s:ao} {l:List Oper} {o:Oper} {d:Nat}
theorem ae.sk {g:Operand} {name:String} {fW:Array Operand} {cZ:Array TypeId} {t:TypeId} {v:ah} {f:FuncId} {xs:List ah} {r:ah} (aq:guardOf ops env o=some true) (ay:o.dst=some d) (a1:z2 d N=true)
  (ai:o.op = .call { callee := .invoke g name,args:=fW,argTypes:=cZ }) (ar:aN env g=some (.iface t v)) (aO:fS env fW.toList=some xs) (hm:pU P t name f) (h:aV P f (v::xs) r)
  (aA:ae P N ops l Q ((d,r)::env) s):ae P N ops (o::l) Q env s:=
 ae.invoke aq ay a1 ai ar aO hm (h s) (fun x ak ⟨aa,ad⟩=>by cases aa;subst ad;exact aA) (fun x ak ⟨aa,_⟩=>by cases aa)
end
section
variable {P:Program} {Γ:cw} {N:Nat} {l:List Oper} {i:Nat} {rest:List Oper} {Q:b3→Env→ao→Prop} {env:Env} {s:ao} {o:Oper} {d:Nat} {L R:bb}
theorem aL.jv (aR:bR P Γ) (I:Ok s L) {t dO e1:TypeId} {x y:Operand} {ok:Bool} {it gK aH:bQ} {m:Nat} {es:List (ah×ah)} {k z:ah} {r:Option ah} (aq:c8 l env o) (ay:o.dst=some d) (a1:z2 d N=true)
  (ai:o.op = .lookup t x y ok) (aM:Γ.get? t=some it) (bw:it.bL = .map dO e1) (h1:Γ.get? dO=some gK) (bO:Γ.get? e1=some aH) (ab:aN (b2 l env o) x=some (.map m)) (ax:aN (b2 l env o) y=some k) (au:bp L (.own m) (.map es) R)
  (aX:kf gK.bL k=true) (aE:i' es k=some r) (bG:hF aH.zero=some z) (h:aL (fun ak=>ak=aU s L) P Γ N l (i+1) rest Q ((d,lU ok z r)::env) (aU s L)):aL (fun ak=>ak=aU s L) P Γ N l i (o::rest) Q env (aU s L):=
 aL.calm aq ay a1 (fun _ e=>by subst e;exact a6.jv aR I ai aM bw h1 bO ab ax au aX aE bG) h
end
section
variable {J:ao→Prop} {P:Program} {Γ:cw} {N:Nat} {l:List Oper} {i:Nat} {Q:b3→Env→ao→Prop} {env:Env} {s:ao} {o:Oper} {L R:bb}
theorem aL.nd (aR:bR P Γ) (I:Ok s L) {t dO e1:TypeId} {x y z:Operand} {it gK:bQ} {b:Nat} {es:List (ah×ah)} (dv:List (ah×ah)) {k v:ah} (aq:c8 l env o) (ay:o.dst=none) (kj:k2 l.toArray i=true)
  (b1:o.op = .mapUpdate t x y z∨o.op = .insert t x y z) (aM:Γ.get? t=some it) (bw:it.bL = .map dO e1) (h1:Γ.get? dO=some gK) (ab:aN (b2 l env o) x=some (.map b)) (ax:aN (b2 l env o) y=some k) (bG:aN (b2 l env o) z=some v)
  (au:bp L (.own b) (.map es) R) (aX:kf gK.bL k=true) (aF:lT es k v=some dv)
  (h:Ok s ((.own b,.map dv)::R)→Q .normal env (aU s ((.own b,.map dv)::R))):aL J P Γ N l i [o] Q env (aU s L):=
 aL.GU aq ay kj (a6.nd aR I b1 aM bw h1 ab ax bG au aX aF (X:=fun _ _=>False)) (fun x ak ⟨aa,ad⟩=>by subst aa;exact h ad) (fun _ _ h=>h.elim)
end
def lg:bF→ah
 | .leaf ms => .iface 154 (.agg [bj ms])
 | .test i a b => .iface 156 (.agg [.int .i64 (i:Int),lg a,lg b])
theorem Xa:pU d0 154 "consort/tree.size" 333 := Db fC
theorem Xb:pU d0 156 "consort/tree.size" 334 := Db fC
theorem Xc (ms:List Int):aV d0 333 [.agg [bj ms]] (.cr [.int .i64 0,.int .i64 1]):=by
 have an:=bE;refine aV.bl al Tryz.func333 C C fun s I=>?_
 unfold bj;refine gE ?_;exact br I
theorem tX:∀ t:bF,∃ ty v f,lg t = .iface ty v∧pU d0 ty "consort/tree.size" f∧(t.leaves<2^40→aV d0 f [v] (.cr [.int .i64 (t.fi:Int),.int .i64 (t.leaves:Int)]))
  | .leaf ms=>⟨_,_,_,rfl,Xa,fun _=>Xc ms⟩
  | .test i a b=>by
    obtain ⟨t1,v1,f1,b6,k9,cW⟩:=tX a;obtain ⟨t2,v2,f2,bW,gP,c6⟩:=tX b;refine ⟨_,_,_,rfl,Xb,fun aC=>?_⟩;rw [bF.leaves] at aC;have cW:=cW ag;have c6:=c6 ag;have aa:=a.DZ;have ad:=b.DZ;rw [b6,bW,bF.fi,bF.leaves];refine aV.bl al Tryz.func334 C C fun s I=>?_
    refine dS ?_;refine ae.sk C C C C C C k9 cW ?_;refine h3 ?_;refine ae.sk C C C C C C gP c6 ?_;refine bK ?_;refine Fin.cE I C (aZ.of_eq ?_);rw [ev (by split<;>omega) (by split<;>omega),ev ag ag];congr 3
    · congr 1
      split<;>omega
theorem Xd (a b:bF) (aO:a.leaves<2^40) (dU:b.leaves<2^40):aV d0 108 [lg a,lg b] (.bool (a.before b)):=by
 have an:=bE;refine aV.bl al Tryz.func108 C C fun s I=>?_
 obtain ⟨t1,v1,f1,b6,k9,cW⟩:=tX a;obtain ⟨t2,v2,f2,bW,gP,c6⟩:=tX b;have cW:=cW aO;have c6:=c6 dU;rw [b6,bW];unfold bF.before;refine dS ?_;refine ae.sk C C C C C C k9 cW ?_;refine h3 ?_;refine ae.sk C C C C C C gP c6 ?_;by_cases aa:a.fi<b.fi
 ·rw [g8 aa,am1]
  refine h3 ?_;refine ae.dK 22 C (g8 ag) ?_;refine et ?_;exact br I
 ·rw [i8 aa,Bool.false_or]
  refine h3 ?_;refine ae.dh 22 C (i8 ag) ?_;by_cases ad:a.fi=b.fi
  ·rw [g8 ad,f5]
   refine er ?_;refine ae.dK 26 C cL ?_;refine ep ?_;refine Fin.cE I C (aZ.of_eq (ae6 ah.bool ?_));rw [af0];simp
  ·rw [i8 ad,f6]
   refine er ?_;refine ae.dh 26 C cL ?_;refine et ?_;exact br I
theorem y0 {sz:Nat} {cs:List ah} {xss:List (List ah)} {n j k:Nat} {ys:List ah} {v:ah} (cc:∀ c∈xss,c.length=sz) (ab:cs.take (n*sz)=xss.flatten) (aI:xss[j]? = some ys) (aA:k<sz) :
  (eV (j*sz+k) [v] cs).length=cs.length∧(eV (j*sz+k) [v] cs).take (n*sz)=(xss.set j (ys.set k v)).flatten:=by
 have iq:=cc ys (d6 aI);have h:=Np (ys':=ys.set k v) cc ab aI (by rw [ag4];exact iq);obtain ⟨a,z,ad,aj,-⟩:=DX cc aI;have aD:cs=a++(ys++(z++cs.drop (n*sz))):=by
  conv=>lhs;rw [← ah' (n*sz) cs,ab,ad]
  simp
 have e:eV (j*sz) (ys.set k v) cs=eV (j*sz+k) [v] cs:=by
  rw [si]
  conv=>lhs;rw [aD,← aj]
  conv=>rhs;rw [aD,← aj]
  rw [HJ ys _ a _ (ag4 ..),al6 _ _ ag,ar5,List.set_append_left _ _ ag]
 rw [e] at h;exact h
theorem Ns {sz:Nat} {cs:List ah} {xss:List (List ah)} {n j k:Nat} {ys:List ah} {v:ah} (cc:∀ c∈xss,c.length=sz) (ab:cs.take (n*sz)=xss.flatten) (aI:xss[j]? = some ys) (aA:ys[k]? = some v):cs[j*sz+k]? = some v:=by
 obtain ⟨a,z,ad,aj,-⟩:=DX cc aI;have aD:cs=a++(ys++(z++cs.drop (n*sz))):=by
  conv=>lhs;rw [← ah' (n*sz) cs,ab,ad]
  simp
 have sG:=(t7.1 aA).1;rw [aD,← aj,ae' ag,ar5,af9 sG];exact aA
abbrev Bn:=Option (Nat×Nat×List ah)
def j':Bn→List bs→ah
 | none,_ => .aG 0 [] .nil
 | some (g,cap,_),l=>ee g l.length cap
def jC:Bn→bb
 | none=>[]
 | some (g,_,cs)=>[(.own g,.box 69 cs)]
def y1:Bn→List bs→Prop
 | none,l=>l=[]
 | some (_,cap,cs),l=>cs.length=cap*4∧l.length≤cap∧cs.take (l.length*4)=(l.map gO).flatten
theorem pC (l:List bs):∀ c∈l.map gO,c.length=4:=fun c aD=>by obtain ⟨x,-,rfl⟩:=af8.1 aD;rfl
theorem y2 (l:List bs) (x:bs):((l++[x]).map gO).flatten=(l.map gO).flatten++gO x:=by simp
theorem qh:∀ (t:bF) (L:List bs),(bF.laid L t).length+1=L.length+2*t.leaves
  | .leaf ms,L=>by rw [bF.laid,bF.leaves,f9];rfl
  | .test i a b,L=>by
    have aa:=qh a (L++[⟨i,0,0,[]⟩]);have ad:=qh b (bF.laid (L++[⟨i,0,0,[]⟩]) a);rw [bF.laid,bF.leaves,ag4];rw [f9,i5,ag0] at aa;omega
theorem y3:∀ (t:bF) (L:List bs) (j:Nat),j<L.length→(bF.laid L t)[j]? = L[j]?
  | .leaf ms,L,j,h=>by rw [bF.laid,af9 h]
  | .test i a b,L,j,h=>by
    rw [bF.laid];rw [List.getElem?_set_ne ag,y3 b _ j (by have aa:=qh a (L++[⟨i,0,0,[]⟩]);have ad:=a.pB;rw [f9,i5,ag0] at aa;omega),y3 a _ j (by rw [f9];omega),af9 h]
theorem Xe:∀ (t:bF) (L:List bs) (bt:Bn),y1 bt L→L.length+2*t.leaves<2^31 →
  bI d0 61 [j' bt L,lg t] (jC bt) (fun o K=>∃ rq,y1 rq (bF.laid L t)∧o = .ret (.cr [j' rq (bF.laid L t),.int .i64 (L.length:Int)])∧K=jC rq):=by
 have oo:bx=1099511627776:=rfl;intro t
 induction t with
 | leaf ms=>
  intro L bt db bM;rw [bF.leaves] at bM;refine bI.bl al Tryz.func61 C C fun s I=>?_
  rw [bF.laid];rcases bt with _|⟨g,cap,cs⟩
  ·have bo:L=[]:=db
   subst bo;unfold j' jC lg at *;refine ft ?_;refine ae.sK al I C C C C C C C eH C C C C C C C dV (fun dm gw gg cW c6 eW I=>?_);refine bK ?_;exact Fin.bC I C aT (by simp only [jC];exact ba) ⟨some (dm,gw,gg),⟨cW,c6,eW.trans (by simp;rfl)⟩,rfl,rfl⟩
  ·obtain ⟨aa,ad,aj⟩:=db
   unfold j' jC lg at *;refine dS ?_;refine ae.tI al C C C C C C C ?_;refine ft ?_;refine ae.sL al I C C C C C C C eH C C C C a' aa ad C C C C (by show (L.length+1)*48≤_;omega) ag (fun dm gw gg cW c6 eW I=>?_);refine bK ?_;exact Fin.bC I C (aZ.of_eq (by simp [ee,j'])) (by simp only [jC];exact ba) ⟨some (dm,gw,gg),⟨cW,vf,by rw [y2,f9,i5,ag0,← aj];exact eW⟩,rfl,rfl⟩
 | test i a b rA Bo=>
  intro L bt db bM;rw [bF.leaves] at bM;have acY:=a.pB;have ec:=b.pB;have Xf:=qh a (L++[⟨i,0,0,[]⟩]);have wV:=qh b (bF.laid (L++[⟨i,0,0,[]⟩]) a);have D2:(L++[(⟨i,0,0,[]⟩:bs)]).length=L.length+1:=by simp
  rw [D2] at Xf;have pP:(bF.laid (bF.laid (L++[⟨i,0,0,[]⟩]) a) b)[L.length]? = some ⟨i,0,0,[]⟩:=by
   rw [y3 b _ _ ag,y3 a _ _ ag,ae' (g7 _),am'];rfl
  have rA:=fun bt h=>rA (L++[⟨i,0,0,[]⟩]) bt h ag
  have Bo:=fun bt h=>Bo (bF.laid (L++[⟨i,0,0,[]⟩]) a) bt h ag
  have mg:bF.laid L (.test i a b)=(bF.laid (bF.laid (L++[⟨i,0,0,[]⟩]) a) b).set L.length ⟨i,(L.length:Int)+1,((bF.laid (L++[⟨i,0,0,[]⟩]) a).length:Int),[]⟩:=rfl;rw [mg];obtain ⟨adR,Bp,wb,wu,-,-⟩:=tX a;obtain ⟨R8,zX,cC,HQ,-,-⟩:=tX b;simp only [wu] at rA;simp only [HQ] at Bo;generalize fj:bF.laid (L++[⟨i,0,0,[]⟩]) a=sJ at *;generalize sO:bF.laid sJ b=fH at *;refine bI.bl al Tryz.func61 C C fun s I=>?_
  rcases bt with _|⟨g,cap,cs⟩
  ·have bo:L=[]:=db
   subst bo;unfold j' lg;rw [wu,HQ];unfold jC at I ⊢;refine ft ?_;refine ae.ot 30 (.aG 4 [.agg (gO ⟨i,0,0,[]⟩)] .bd) C (aZ.aG (.one (aZ.agg (.cons aT (.cons aT (.cons aT (.one aZ.empty))))))) ?_;refine ae.sK al I C C C C C C C eH C C C C C C C dV (fun dm gw gg cW c6 eW I=>?_);have rA:=rA (some (dm,gw,gg)) ⟨cW,c6,eW.trans bc⟩;simp only [j',D2] at rA;refine bK ?_;refine ae.b4 C C C C C rA I (by simp only [jC];exact ba) ?_ (fun _ _ ⟨_,_,h,_⟩ _=>by cases h);rintro _ _ ⟨HR,k4,⟨⟩,rfl⟩ I;rw [d9] at I ⊢;refine h3 ?_;refine ae.b4 rfl rfl rfl rfl rfl (Bo HR k4) I (aJ.all _) ?_ (fun _ _ ⟨_,_,h,_⟩ _=>by cases h);rintro _ _ ⟨rB,kZ,⟨⟩,rfl⟩ I;rw [d9] at I ⊢;rcases rB with _|⟨g2,xt,Xg⟩
   ·have bo:fH=[]:=kZ
    rw [bo] at pP;cases pP
   obtain ⟨g1,g3,g4⟩:=kZ;have jt:=y0 (k:=1) (v := .int .i64 (((([]:List bs)).length+1:Nat):Int)) (pC fH) g4 (by rw [ae7,pP];rfl) ag
   have qR:=y0 (k:=2) (v := .int .i64 ((sJ.length:Nat):Int)) (fun c aD=>by
    rcases ak9 aD with aD|rfl
    ·exact pC fH c aD
    ·rfl) jt.2 (an1 ve) ag
   unfold jC at I ⊢;unfold j';refine h3 ?_;refine ae.gF al (([]:List bs)).length C C C C C C C C C C ag ?_;refine er ?_;refine ae.mK al I _ C C C C C C C C C a' (by rw [g1];show (([]:List bs)).length*4+1+1≤xt*4;omega) C (fun I=>?_);refine ae.gF al (([]:List bs)).length C C C C C C C C C C ag ?_;refine er ?_;refine ae.mK al I _ C C C C C C C C C a' (by rw [jt.1,g1];show (([]:List bs)).length*4+2+1≤xt*4;omega) C (fun I=>?_);refine bK ?_;refine Fin.bC I C aT (by simp only [jC];exact ba) ⟨some (g2,xt,_),⟨qR.1.trans (jt.1.trans g1),(by rw [ag4];exact g3),?_⟩,?_,rfl⟩
   ·rw [ag4]
    refine qR.2.trans ?_;rw [ax0,aq2];rfl
   ·simp only [ag4]
    try rfl
  ·obtain ⟨aa,ad,aj⟩:=db
   unfold j' lg;rw [wu,HQ];unfold jC at I ⊢;refine dS ?_;refine ae.tI al C C C C C C C ?_;refine ft ?_;refine ae.ot 30 (.aG 4 [.agg (gO ⟨i,0,0,[]⟩)] .bd) C (aZ.aG (.one (aZ.agg (.cons aT (.cons aT (.cons aT (.one aZ.empty))))))) ?_;refine ae.sL al I C C C C C C C eH C C C C a' aa ad C C C C (by show (L.length+1)*48≤_;omega) ag (fun dm gw gg cW c6 eW I=>?_);have rA:=rA (some (dm,gw,gg)) ⟨cW,vf,by rw [y2,D2,← aj];exact eW⟩;simp only [j',D2] at rA;refine bK ?_;refine ae.b4 C C C C C rA I (by simp only [jC];exact ba) ?_ (fun _ _ ⟨_,_,h,_⟩ _=>by cases h);rintro _ _ ⟨HR,k4,⟨⟩,rfl⟩ I;rw [d9] at I ⊢;refine h3 ?_;refine ae.b4 rfl rfl rfl rfl rfl (Bo HR k4) I (aJ.all _) ?_ (fun _ _ ⟨_,_,h,_⟩ _=>by cases h);rintro _ _ ⟨rB,kZ,⟨⟩,rfl⟩ I;rw [d9] at I ⊢;rcases rB with _|⟨g2,xt,Xg⟩
   ·have bo:fH=[]:=kZ
    rw [bo] at pP;cases pP
   obtain ⟨g1,g3,g4⟩:=kZ;have jt:=y0 (k:=1) (v := .int .i64 (((L).length+1:Nat):Int)) (pC fH) g4 (by rw [ae7,pP];rfl) ag
   have qR:=y0 (k:=2) (v := .int .i64 ((sJ.length:Nat):Int)) (fun c aD=>by
    rcases ak9 aD with aD|rfl
    ·exact pC fH c aD
    ·rfl) jt.2 (an1 ve) ag
   unfold jC at I ⊢;unfold j';refine h3 ?_;refine ae.gF al (L).length C C C C C C C C C C ag ?_;refine er ?_;refine ae.mK al I _ C C C C C C C C C a' (by rw [g1];show (L).length*4+1+1≤xt*4;omega) C (fun I=>?_);refine ae.gF al (L).length C C C C C C C C C C ag ?_;refine er ?_;refine ae.mK al I _ C C C C C C C C C a' (by rw [jt.1,g1];show (L).length*4+2+1≤xt*4;omega) C (fun I=>?_);refine bK ?_;refine Fin.bC I C aT (by simp only [jC];exact ba) ⟨some (g2,xt,_),⟨qR.1.trans (jt.1.trans g1),(by rw [ag4];exact g3),?_⟩,?_,rfl⟩
   ·rw [ag4]
    refine qR.2.trans ?_;rw [ax0,aq2];rfl
   ·simp only [ag4]
    try rfl
abbrev kq:=List (Int×ah)
def qi (l:kq):List (ah×ah):=l.map fun e=>(.int .i64 e.1,e.2)
def oL (l:kq) (n:Int):Option ah:=(l.find? fun e=>n==e.1).map (·.2)
def sP:kq→Int→ah→kq
 | [],n,v=>[(n,v)]
 | e::r,n,v=>if n==e.1 then (n,v)::r else e::sP r n v
theorem HS:∀ (l:kq) (n m:Int) (v:ah),oL (sP l n v) m=if m=n then some v else oL l m
  | [],n,m,v=>by
    unfold sP oL;by_cases h:m=n
    · subst h;simp
    · have:(m==n)=false:=by simpa using h
      simp [h,this]
  | (k,x)::r,n,m,v=>by
    have aW:=HS r n m v;rw [sP];by_cases h:n=k
    · subst h
      rw [f7 bc];unfold oL;by_cases ad:m=n
      · subst ad;simp
      · have:(m==n)=false:=by simpa using ad
        simp [ad,this]
    · rw [d7 hx]
      unfold oL at aW ⊢;by_cases ad:m=k
      · subst ad
        have:¬ m=n:=fun e=>h e.symm
        simp [this]
      · have aj:(m==k)=false:=by simpa using ad
        simp only [ax9,aj];exact aW
theorem vm (n:Int):∀ l:kq,i' (qi l) (.int .i64 n)=some (oL l n)
  | []=>rfl
  | (k,x)::r=>by
    have aW:=vm n r;unfold qi oL at *;rw [ae0,i'];by_cases h:n=k
    · subst h;simp [ke]
    · have aj:(n==k)=false:=by simpa using h
      simp only [ke,aj,ax9];simpa using aW
theorem vn (n:Int) (v:ah):∀ l:kq,lT (qi l) (.int .i64 n) v=some (qi (sP l n v))
  | []=>rfl
  | (k,x)::r=>by
    have aW:=vn n v r;unfold qi at *;rw [ae0,lT,sP];by_cases h:n=k
    · subst h;simp [ke]
    · have aj:(n==k)=false:=by simpa using h
      simp only [ke,aj];simp [aW]
def oM (m:Nat):ah := .agg [.int .u64 (m:Int)]
theorem Nt (m c:Nat) (hm:m<2^64) (aD:c<64):aV d0 286 [oM m,.int .i64 (c:Int)] (oM (m|||2^c)):=by
 have an:=bE;refine aV.bl al Tryz.func286 C C fun s I=>?_
 unfold oM
 repeat (first|(refine sa ?_)|refine ae.jJ I C C C C C C (fun b I=>?_)|refine ae.dZ al I C C C C C C C (fun cB I=>?_)|(refine TP ?_))
 refine aL.arr al 0 C C C C C C C C C C ag ?_;refine ct I ?_;intro I;refine aL.shl ((2^c:Nat):Int) C C C C C C ag (Ds aD) ?_;refine aL.bits ((m|||2^c:Nat):Int) C C C C C C (wS hm (Mm aD)) ?_;refine aL.arr al 0 C C C C C C C C C C ag ?_;refine ct I ?_;intro I;exact Fin.cE I (p3 C C (bp.get a' I) C) aT
theorem Xh (m n:Nat) (hm:m<2^64) (aB:n<2^64):aV d0 287 [oM m,oM n] (oM (m|||n)):=by
 have an:=bE;refine aV.bl al Tryz.func287 C C fun s I=>?_
 unfold oM
 repeat (first|(refine sa ?_)|refine ae.jJ I C C C C C C (fun b I=>?_)|refine ae.dZ al I C C C C C C C (fun cB I=>?_)|(refine TQ ?_))
 refine ae.arr al 0 C C C C C C C C C C ag ?_;refine ct I ?_;intro I;refine ae.arr al 0 C C C C C C C C C C ag ?_;refine ct I ?_;intro I;refine ae.bits ((m|||n:Nat):Int) C C C C C C (wS hm aB) ?_;refine ae.arr al 0 C C C C C C C C C C ag ?_;refine ct I ?_;intro I;exact Fin.cE I (p3 C C (bp.get a' I) C) aT
theorem Xi (h y:Int):ej d0 (.func 308 [] [.bA [.int .i64 h] 0]) [.int .i64 y] (.bool (y != h)):=by
 have an:=bE;refine ej.fm (first:=[]) (cap:=[.bA [.int .i64 h] 0]) ?_;refine aV.bl al Tryz.func308 C C fun s I=>?_
 refine gE ?_;exact br I
theorem Xj {all:List (List Int)} {c:Int} {k:Nat} {m:List Int} (h:all[k]? = some m):free (all.drop k) c=(!(m.drop 1).contains c&&free (all.drop (k+1)) c):=by
 rw [drop_cons h];rfl
theorem Xk (n b:Nat) (jc:n<1000∧b<1000) (all:List (List Int)) (hm:q4 n b all):aV d0 293 [dd all] (.cr [bj (merged all).1,.bool (merged all).2]):=by
 have an:=bE;refine aV.bl al Tryz.func293 C C fun s I=>?_
 unfold dd;have yx:total all≤n*b:=Dv hm;have Uv:n*b≤1000*1000:=Nat.mul_le_mul ag ag;refine cl ?_;refine af.jw I 3 1 0 fun I=>?_
 refine af.ck [] C I (σ:=Nat×List (List Int)×List Int×bV) (fun q=>[(0,.aG 1 (q.2.1.map bj) .bd),(4,.aG 1 (q.2.2.1.map bg) q.2.2.2)]) (fun q=>[(q.2.2.2,.row 3 1 q.2.2.1.length)])
  (fun q=>merge q.1 q.2.1 q.2.2.1=merged all∧total q.2.1<q.1∧q4 n b q.2.1∧q.2.2.1.length+total q.2.1≤total all) (fun q=>q.1) (total all+1,all,[],.nil) ⟨rfl,Nat.lt_succ_self _,hm,by simp⟩ ⟨⟨_,rfl,aT⟩,⟨_,rfl,aZ.nil h4⟩,trivial⟩ (aJ.eb _) ?_
 rintro ⟨f,cur,acc,own⟩ ⟨dW,hL,hm,uN⟩ I;simp only at dW hL hm uN I ⊢;have b9:=hm.len;refine cl ?_;refine af.ck [0,4,14,15] C I (σ:=Nat×Bool) (fun z=>[(5,.bool z.2),(16,.int .i64 (z.1:Int))]) (fun _=>[(own,.row 3 1 acc.length)])
  (fun z=>z.1≤cur.length∧pick cur cur=pick cur (cur.drop z.1)∧(!z.2)=(cur.take z.1).all aq3) (fun z=>cur.length-z.1) (0,false) ⟨g9 _,rfl,rfl⟩ (cK C) (aJ.eb _) ?_
 rintro ⟨j,GC⟩ ⟨aI,aw,hr⟩ I;simp only at aI aw hr I ⊢;refine cf ?_;refine af.cond C (fun az=>?_) (fun a7=>?_);rotate_left
 ·have a7:j=cur.length:=by simp at a7;omega
  subst a7;rw [eE (g7 _)] at aw;rw [af1] at hr;cases f with
  | zero=>omega
  | succ f=>
   rw [merge,aw] at dW;have dW:(acc,cur.all aq3)=merged all:=dW;rw [← dW,← hr];refine bK ?_;exact Fin.cE I C (aZ.cr (.cons aZ.bd (.one aT)))
 have az:j<cur.length:=by simpa using az
 obtain ⟨l,ax,dc⟩:=b7 (f:=bj) az;have Lp:=hm.each l (d6 ax);have AE:(cur.take (j+1)).all aq3=((cur.take j).all aq3&&l.isEmpty):=by rw [jy ax,ax'];simp
 unfold bj at dc;refine bK ?_;cases l with
 | nil=>
  rw [Ln ax] at aw;refine af.fx C ?_;refine ew ?_;exact bD.mk (j+1,GC) I ⟨az,aw,by rw [AE,← hr];simp⟩ cA (aJ.eb _) (by show cur.length-(j+1)<cur.length-j;omega)
 | cons c r=>
 rw [Lo ax] at aw;refine af.cond C (fun h=>absurd h cL) (fun _=>?_);refine jL ?_;refine af.ck [0,4,5,7,14,15,16,23,24] C I (σ:=Nat) (fun k=>[(25,.int .i64 (k:Int))]) (fun _=>[(own,.row 3 1 acc.length)]) (fun k=>k≤cur.length∧free cur c=free (cur.drop k) c) (fun k=>cur.length-k) 0 ⟨g9 _,rfl⟩ (cK C) (aJ.eb _) ?_;rintro k ⟨aA,bk⟩ I;refine cf ?_;refine af.cond C (fun cT=>?_) (fun ef=>?_)
 ·have cT:k<cur.length:=by simpa using cT
  obtain ⟨m,pD,Xl⟩:=b7 (f:=bj) cT;have hV:=hm.each m (d6 pD);rw [Xj pD] at bk;have ie:=yw (m.drop 1) c (by rw [ai8];omega);unfold bj at ie Xl;rw [List.map_drop] at ie;have Lq:((c::r).map bg)[0]? = some (.int .i64 c):=rfl;cases m with
  | nil=>
   have bk:free cur c=free (cur.drop (k+1)) c:=bk;refine cl ?_;exact bD.mk (k+1) I ⟨cT,bk⟩ cA (aJ.eb _) (by show cur.length-(k+1)<cur.length-k;omega)
  | cons x q=>
   refine pd ?_;refine aL.gY C C (fun _=>?_) (fun h=>absurd h bc);refine l5 ?_;refine aL.slice 1 ((x::q).map bg).length C C C C C C C C (.inr C) (.inr ⟨_,_,rfl,rfl⟩) (.inl ⟨rfl,rfl,rfl⟩) (.inl ⟨rfl,rfl⟩) bc (g7 _) ?_;rw [af1];refine c5 ?_;cases bB:((x::q).drop 1).contains c with
   | true=>
    rw [bB,aj',f6] at bk;rw [bk,d7 bc] at aw;refine bK ?_;exact bD.mk (j+1,true) I ⟨az,aw,by rw [AE];simp⟩ cA (aJ.eb _) (by show cur.length-(j+1)<cur.length-j;omega)
   | false=>
    rw [bB,aj6,f5] at bk;refine ki ?_;exact bD.mk (k+1) I ⟨cT,bk⟩ cA (aJ.eb _) (by show cur.length-(k+1)<cur.length-k;omega)
 have ef:k=cur.length:=by simp at ef;omega
 subst ef;rw [eE (g7 _)] at bk;have bk:free cur c=true:=bk;rw [f7 bk] at aw;cases f with
 | zero=>omega
 | succ f=>
 have Lr:=Dt (u1 aw);rw [merge,aw] at dW;simp only at dW;have Lq:((c::r).map bg)[0]? = some (.int .i64 c):=rfl;refine ft ?_;refine ae.ho al I C C C C C C C eH C C C C C C C C a' ir lC ag (fun bT I=>?_);refine bK ?_;obtain ⟨xs,d'⟩:∃ xs:Nat→List ah,∀ j,xs j=((cur.take j).map (fu c)).map bj:=⟨_,fun _=>rfl⟩;have bo:xs 0=[]:=by rw [d'];rfl
 have hH:∀ j,(xs j).length≤cur.length:=fun j=>by
  rw [d',f8,f8];exact ak' _ _
 refine af.jw I 23 1 0 fun I=>?_
 refine af.ck [4,10,48,49] C I (σ:=Nat×bV) (fun q=>[(50,.int .i64 (q.1:Int)),(11,.aG 1 (xs q.1) q.2)]) (fun q=>[(q.2,.row 23 1 (xs q.1).length),(.own bT,.row 3 1 (acc.length+1))]) (fun q=>q.1≤cur.length) (fun q=>cur.length-q.1) (0,.nil) (g9 _) ⟨⟨_,rfl,aT⟩,⟨_,rfl,by rw [bo];exact aZ.nil h4⟩,trivial⟩ Gm ?_;rintro ⟨i,u3⟩ aS I;simp only at aS I ⊢;refine cf ?_;refine af.cond C (fun lE=>?_) (fun l9=>?_)
 ·have lE:i<cur.length:=by simpa using lE
  obtain ⟨l,ax,dc⟩:=b7 (f:=bj) lE;have au:=d' (i+1);rw [jy ax,ae1,ae1,← d'] at au;have au:xs (i+1)=xs i++[.aG 1 ((fu c l).map bg) .bd]:=au;have db:(xs (i+1)).length=(xs i).length+1:=by rw [au];simp
  have lV:=hH i;have hw:=Ll (.func 308 [] [.bA [.int .i64 c] 0]) (fun y=>y != c) (fun y=>Xi c y) l (by have:=(hm.each l (d6 ax)).1;omega);have hw:aV d0 307 [.aG 1 (l.map bg) .bd,.func 308 [] [.bA [.int .i64 c] 0]] (.aG 1 ((fu c l).map bg) .bd):=hw;unfold bj at dc;refine c5 ?_;refine ae.ho al I C C C C C C C eH C C C C C C C C a' ir p1 ag (fun e5 I=>?_);refine hC ?_;exact bD.mk (i+1,.own e5) I lE ow (by show aJ _ [(_,.row _ _ (xs (i+1)).length),_] _;rw [db];exact aJ.eb _) Gq
 ·have l9:i=cur.length:=by
   have:cur.length≤i:=by simpa using l9
   omega
  subst l9;have he:xs cur.length=(cur.map (fu c)).map bj:=by rw [d',af1]
  rw [he] at I ⊢;refine bK ?_;exact bD.mk (f,cur.map (fu c),acc++[c],.own bT) I ⟨dW,by show total (cur.map (fu c))<f;omega,hm.fu c,by show (acc++[c]).length+total (cur.map (fu c))≤total all;rw [f9,ag8];omega⟩ ⟨⟨_,rfl,aZ.bd⟩,⟨_,rfl,aZ.of_eq (by simp [bg])⟩,trivial⟩ (by show aJ _ [(_,.row _ _ (acc++[c]).length)] _;rw [f9,ag8];exact (aJ.eb _).there) (by show f<f+1;omega)
def jD (ps:List (List Int)) (ik:bV) (us:List Nat) (gm:bV) (mb:Nat):List ah:=[.aG 1 (ps.map bj) ik,.aG 1 (us.map oM) gm,.map mb]
def gG (cd:Nat) (ps:List (List Int)) (ik:bV) (us:List Nat) (gm:bV) (mb:Nat) (fk:kq):bb:=
 [(.own cd,.box 327 (jD ps ik us gm mb)),(ik,.row 23 1 ps.length),(gm,.row 346 1 us.length),(.own mb,.map (qi fk))]
def Xm (o:Option ah) (l:List Int):Prop:=match l with
 | []=>o=none
 | x::r=>∃ v,o=some v∧aZ v (.aG 1 ((x::r).map bg) .bd)
def rC (fk:kq) (os:List (List Int)):Prop:=∀ c:Nat,Xm (oL fk (c:Int)) (os.getD c [])
def rD (os:List (List Int)) (l:List Int):Option (List (List Int)):=(iR os l).map fun r=>r++[l]
theorem Xn (cd:Nat) (ps:List (List Int)) (ik:bV) (us:List Nat) (gm:bV) (mb:Nat) (fk:kq) (os:List (List Int)) (dB:rC fk os) (AG:∀ l∈os,l.length<1000) (c:Nat) (l:List Int) (aC:ps[c]? = some l) (q3:l.length≤3) (pg:∀ p∈l,0≤p) :
  bI d0 292 [.ptr cd 0,.int .i64 (c:Int)] (gG cd ps ik us gm mb fk) (fun o K=>o = .ret (u4 (rD os l))∧K=gG cd ps ik us gm mb fk):=by
 have an:=bE;have pX:(ps.map bj)[c]? = some (.aG 1 (l.map bg) .bd):=by rw [ae7,aC];rfl
 refine bI.bl al Tryz.func292 C C fun s I=>?_
 unfold gG jD at I ⊢;refine hq I ?_;intro I;refine af.jw I 23 1 0 fun I=>?_
 refine af.ck [0,1,15,16] C I (σ:=Nat×List (List Int)×bV) (fun q=>[(17,.int .i64 (q.1:Int)),(6,.aG 1 (q.2.1.map bj) q.2.2)]) (fun q=>(q.2.2,.row 23 1 q.2.1.length)::gG cd ps ik us gm mb fk) (fun q=>q.1≤l.length∧q.2.1.length=q.1∧iR os l=pre (iR os (l.drop q.1)) q.2.1) (fun q=>l.length-q.1) (0,[],.nil) ⟨g9 _,rfl,(Lv _).symm⟩ ⟨⟨_,rfl,aT⟩,⟨_,rfl,aZ.nil h4⟩,trivial⟩ (by simp only [gG,jD];exact ba) ?_;rintro ⟨j,acc,own⟩ ⟨aI,jM,aw⟩ I;simp only [gG,jD] at aI jM aw I ⊢;refine cf ?_;refine af.cond C (fun az=>?_) (fun a7=>?_);rotate_left
 ·have a7:l.length≤j:=by simpa using a7
  rw [eE a7] at aw;have aw:iR os l=some (acc++[]):=aw;have kN:rD os l=some (acc++[l]):=by unfold rD;rw [aw];simp
  rw [kN];have AH:u4 (some (acc++[l])) = .cr [.aG 1 (acc.map bj++[.aG 1 (l.map bg) .bd]) .bd,.bool true]:=by
   show ah.cr [.aG 1 ((acc++[l]).map bj) .bd,.bool true]=_;rw [ae1];rfl
  rw [AH];refine ct I ?_;intro I;refine ae.ho al I C C C C C C C eH C C C C C C C C a' ir p1 ag (fun bT I=>?_);refine ep ?_;exact Fin.bC (K:=gG cd ps ik us gm mb fk) I C (aZ.cr (.cons aZ.bd (.one aT))) (by simp only [gG,jD];exact ba) ⟨rfl,rfl⟩
 have az:j<l.length:=by simpa using az
 obtain ⟨p,ax,dc⟩:=b7 (f:=bg) az;rw [drop_cons ax,Lw] at aw;have Xo:=pg p (d6 ax);have qj:=dB p.toNat;rw [Int.toNat_of_nonneg Xo] at qj;have jf:(os.getD p.toNat []).length<1000:=by
  rw [d5];cases h:os[p.toNat]? with
  | none=>simp
  | some x=>exact AG x (d6 h)
 generalize os.getD p.toNat []=ol at aw qj jf;have hw:=Ur ol ag;unfold bg at dc;unfold bj at hw;refine ct I ?_;intro I;cases ol with
 | nil=>
  have aw:iR os l=none:=aw;have kN:rD os l=none:=by unfold rD;rw [aw];rfl
  rw [kN];have qj:oL fk p=none:=qj;refine ae.jv al I C C C C C C C C C C a' C (by rw [vm,qj]) C ?_;refine fe ?_;exact Fin.bC (K:=gG cd ps ik us gm mb fk) I C (aZ.cr (.cons (aZ.nil h4) (.one aT))) (by simp only [gG,jD];exact ba) ⟨rfl,rfl⟩
 | cons x r=>
  obtain ⟨v,qj,Bq⟩:∃ v,oL fk p=some v∧aZ v (.aG 1 ((x::r).map bg) .bd):=qj;refine ae.jv al I C C C C C C C C C C a' C (by rw [vm,qj]) C ?_;refine ae.ot 26 _ C Bq ?_;refine ct I ?_;intro I;refine ae.jv al I C C C C C C C C C C a' C (by rw [vm,qj]) C ?_;refine ae.ot 35 _ C Bq ?_;refine c5 ?_;refine ae.ho al I C C C C C C C eH C C C C C C C C a' ir p1 ag (fun bT I=>?_);refine hC ?_;exact bD.mk (j+1,acc++[fu 0 (x::r)],.own bT) I ⟨az,by rw [f9,jM];rfl,aw⟩ yr (by show aJ _ ((_,.row _ _ (acc++[fu 0 (x::r)]).length)::gG cd ps ik us gm mb fk) _;rw [f9,ag8];exact (by simp only [gG,jD];exact ba)) rn
def Br (os:List (List Int)) (l:List Int) (c:Nat):List Int:=if c=0 then [0] else match rD os l with
 | none=>[]
 | some all=>if (merged all).2 then (c:Int)::(merged all).1++[0] else []
theorem Nu {os:List (List Int)} {v:List Int} (c:Nat):(os++[v]).getD c []=if c=os.length then v else os.getD c []:=by
 rw [d5,d5];by_cases e:c=os.length
 ·subst e
  rw [f7 C,ae' (g7 _)];simp
 ·rw [d7 e]
  rcases ap0 c os.length with h|h
  ·rw [af9 h]
  ·rw [ak4 cL,ak4 h]
theorem rC.tA {fk:kq} {os:List (List Int)} (h:rC fk os):rC fk (os++[[]]):=fun c=>by
 rw [Nu];by_cases e:c=os.length
 ·have:=h c
  rw [f7 e];rw [e,d5,ak4 (g7 _)] at this;rw [e];exact this
 ·rw [d7 e];exact h c
theorem rC.put {fk:kq} {os:List (List Int)} (h:rC fk os) {v:ah} (x:Int) (r:List Int) (ar:aZ v (.aG 1 ((x::r).map bg) .bd)):rC (sP fk (os.length:Int) v) (os++[x::r]):=fun c=>by
 rw [Nu,HS];by_cases e:c=os.length
 ·subst e;rw [f7 C,f7 C];exact ⟨v,rfl,ar⟩
 ·rw [d7 e,d7 ag];exact h c
theorem Xp (cd:Nat) (ps:List (List Int)) (ik:bV) (us:List Nat) (gm:bV) (mb:Nat) (fk:kq) (os:List (List Int)) (dB:rC fk os) (AG:∀ l∈os,l.length<1000) (l:List Int) (aC:ps[os.length]? = some l) (q3:l.length≤3) (pg:∀ p∈l,0≤p) (Nv:∀ all,rD os l=some all→q4 4 21 all) (acZ:os.length<100) :
  bI d0 288 [.ptr cd 0,.int .i64 (os.length:Int)] (gG cd ps ik us gm mb fk) (fun o K=>o = .ret (.cr [])∧∃ D3,K=gG cd ps ik us gm mb D3∧rC D3 (os++[Br os l os.length])):=by
 have an:=bE;have sQ:=Xn cd ps ik us gm mb fk os dB AG os.length l aC q3 pg;unfold Br;refine bI.bl al Tryz.func288 C C fun s I=>?_
 unfold gG jD at I;refine cf ?_;refine af.cond C (fun h=>?_) (fun h=>?_)
 ·have bo:os.length=0:=by have:=aj1 h;omega
  rw [f7 bo];refine ct I ?_;intro I;refine ae.nd al I C C (.inl C) C C C C C C a' C (vn _ _ _) (fun I=>?_);refine et ?_;have aB:=dB.put (v := .aG 1 [.int .i64 0] .clip) 0 [] aZ.bd;rw [bo] at aB;exact Fin.bC (K:=gG cd ps ik us gm mb (sP fk 0 (.aG 1 [.int .i64 0] .clip))) I C aT (by simp only [gG,jD];exact ba) ⟨rfl,_,rfl,aB⟩
 have bo:os.length≠0:=by have:=of_decide_eq_false h;omega
 rw [d7 bo];cases D4:rD os l with
 | none=>
  rw [D4] at sQ;unfold u4 dd gG jD at sQ;refine eh ?_;refine ae.b4 rfl rfl rfl rfl rfl sQ I (aJ.all _) ?_ (fun _ _ ⟨h,_⟩ _=>by cases h);rintro _ _ ⟨⟨⟩,rfl⟩ I;rw [d9] at I ⊢;refine et ?_;exact Fin.bC (K:=gG cd ps ik us gm mb fk) I C aT (by simp only [gG,jD];exact ba) ⟨rfl,_,rfl,dB.tA⟩
 | some all=>
  rw [D4] at sQ;have hm:=Xk 4 21 ag all (Nv all D4);unfold u4 dd gG jD at sQ;unfold dd at hm;simp only;refine eh ?_;refine ae.b4 rfl rfl rfl rfl rfl sQ I (aJ.all _) ?_ (fun _ _ ⟨h,_⟩ _=>by cases h);rintro _ _ ⟨⟨⟩,rfl⟩ I;rw [d9] at I ⊢;cases wW:(merged all).2 with
  | false=>
   rw [wW] at hm;simp only [af7,ah9];refine cl ?_;exact Fin.bC (K:=gG cd ps ik us gm mb fk) I C aT (by simp only [gG,jD];exact ba) ⟨rfl,_,rfl,dB.tA⟩
  | true=>
   rw [wW] at hm;simp only [ag5];have hV:=GD (total all+1) all [];have yx:=Dv (Nv all D4);have GL:(merged all).1.length≤84:=by
    have:(merged all).1.length≤0+total all:=hV;omega
   generalize (merged all).1=y4 at hm GL ⊢;unfold bj at hm;refine c5 ?_;refine af.AJ I 3 1 1 fun I=>?_
   refine af.qV (dE [(cd,_)]) al mixed C (bq.run (dE.one (bp.get a' I)) C ?_);refine bq.ov 3 al (dE.one (bp.get a' I)) C C C C C C C C (fun _ h=>dE.fst h) b5 ?_;refine bq.run (dE.one (bp.get a' I)) C ?_;refine bq.qZ 8 al I rfl rfl rfl rfl rfl rfl rfl rfl rfl eH rfl rfl rfl rfl (.inr rfl) rfl (fun y ax=>by obtain ⟨z,-,rfl⟩:=af8.1 ax;rfl) C .here C (n':=y4.length+1) cL cL cL (fun tK I => .inl (dE.one (bp.get a' I))) (fun tK I=>?_);refine bq.run (dE.one (bp.get a' I)) C ?_;refine bq.ho 10 al I C C C C C C C C C eH C C C C C C C C .here bc lC ag (fun u3 I => .inl (dE.one (bp.get a' I))) (fun u3 I=>?_);refine bq.run (dE.one (bp.get a' I)) C ?_;refine bq.nd 11 al I C C C C (.inl C) C C C C C C a' C (vn _ _ _) (fun _ => .inr C) (fun I=>?_);refine bf.done C ?_;skip;refine Fin.bC (K:=gG cd ps ik us gm mb (sP fk (os.length:Int) (.aG 1 ([ah.int .i64 (os.length:Int)]++y4.map bg++[ah.int .i64 0]) u3))) I C aT (by simp only [gG,jD];exact ba) ⟨rfl,_,rfl,dB.put _ _ ?_⟩;have:((os.length:Int)::(y4++[0])).map bg=[ah.int .i64 (os.length:Int)]++y4.map bg++[ah.int .i64 0]:=by simp [bg]
   rw [show y4.append [0]=y4++[0] from rfl,this];exact aZ.bd
def qk (g:List (List Int)):List (List Int):=[[],[],[]]++g
theorem Nw {g:List (List Int)} {c:Nat} (h:c<3+g.length):(qk g)[c]? = some (parents g c):=by
 unfold qk parents;by_cases aD:c<3
 ·rw [f7 aD,af9 (by simpa using aD)]
  rcases c with _|_|_|c
  ·rfl
  ·rfl
  ·rfl
  ·omega
 ·rw [d7 aD,ae' cL,d5]
  simp only [i5,ag0];rw [d8 ag];rfl
theorem Xq (g:List (List Int)) (os:List (List Int)) (c:Nat) (aD:c≠0):Br os (parents g c) c=order g os c:=by
 unfold Br order rD lists;rw [d7 aD];cases iR os (parents g c)<;>rfl
theorem Bs (g:List (List Int)):∀ (n k:Nat),k≤n→(fE g n).take (k+1)=fE g k
  | 0,k,h=>by
    have:k=0:=by omega
    subst this;rfl
  | n+1,k,h=>by
    by_cases e:k=n+1
    · subst e
      rw [ah1 (by rw [tJ];exact g7 _)]
    · rw [fE,ah3 (by rw [tJ];omega)]
      exact Bs g n k ag
theorem Xr (g:List (List Int)) {j:Nat} (aI:j<3+g.length):(fE g (2+g.length)).take (j+1)=(fE g (2+g.length)).take j++[Br ((fE g (2+g.length)).take j) (parents g j) j]:=by
 cases j with
 | zero=>rw [Bs g _ 0 ag,al3];rfl
 | succ k=>
  rw [Bs g _ (k+1) ag,Bs g _ k ag,Xq g _ _ ag,fE]
theorem Xs {g:List (List Int)} (aq:sg g) {j:Nat} (aI:j<3+g.length):(∀ l∈(fE g (2+g.length)).take j,l.length<1000)∧∀ all,rD ((fE g (2+g.length)).take j) (parents g j)=some all→q4 4 21 all:=by
 have j2:=aq.len;have ai:=AK aq (2+g.length) ag;refine ⟨fun l aC=>by have:=ai.len l (List.mem_of_mem_take aC);omega,fun all h=>?_⟩;cases j with
 | zero=>
  have:parents g 0=[]:=rfl;rw [this] at h;have:rD ((fE g (2+g.length)).take 0) []=some [[]]:=rfl;rw [this] at h;cases h;exact ⟨by simp,fun l aC=>by rw [t6] at aC;subst aC;exact ⟨by simp,fun c aD=>by cases aD⟩⟩
 | succ k=>
  rw [Bs g _ k ag] at h;exact GK aq (AK aq k ag) (c:=k+1) h
theorem Xt (g:List (List Int)) (aq:mI g=true) (dJ:List Int) (b9:dJ.length<bx) (nK:∀ c∈dJ,0≤c∧c<3+(g.length:Int)) :
  bI d0 275 [dd g,.aG 1 (dJ.map bg) .bd] [] (fun o K=>∃ cd ik us gm mb fk,o = .ret (.cr [.ptr cd 0,.bool true])∧K=gG cd (qk g) ik us gm mb fk∧rC fk (fE g (2+g.length))):=by
 have an:=bE;have mA:=AF aq;have j2:=mA.len;have Xu:=Lm g ag;rw [aq] at Xu;refine bI.bl al Tryz.func275 C C fun s I=>?_
 unfold dd at *;have da:ac' .i64 (3+((g.map bj).length:Int))=3+(g.length:Int):=by rw [f8,ev ag ag]
 refine c5 ?_;refine af.ck [0,4,5,18,19] C I (σ:=Nat) (fun j=>[(20,.int .i64 (j:Int))]) (fun _=>[]) (fun j=>j≤dJ.length) (fun j=>dJ.length-j) 0 (g9 _) (cK C) ba ?_;rintro j aI I;refine h3 ?_;refine af.cond C (fun az=>?_) (fun a7=>?_)
 ·have az:j<dJ.length:=by simpa using az
  obtain ⟨c,ax,dc⟩:=b7 (f:=bg) az;obtain ⟨cW,c6⟩:=nK c (d6 ax);unfold bg at dc;refine eh ?_;refine ae.dh 26 C (i8 ag) ?_;refine gj ?_;refine af.cond C (fun h=>by rw [da] at h;simp at h;omega) (fun _=>?_);refine c5 ?_;exact bD.mk (j+1) I az cA ba (by show dJ.length-(j+1)<dJ.length-j;omega)
 clear aI a7;refine c5 ?_;refine ae.GV al I 3 (3+g.length) C C C C C C C C C C C (ae6 (fun z=>some (ah.int .i64 z)) (da.trans ag)) ag (by show _*24≤_;omega) ag (fun ad9 I=>?_);skip;refine ae.r8 I C C C C (fun mb I=>?_)
 repeat (first|(refine sa ?_)|refine ae.jJ I C C C C C C (fun b I=>?_)|(refine Gi I ?_;clear I;intro I))
 refine ae.qZ al I rfl rfl rfl rfl rfl rfl rfl eH rfl rfl rfl rfl (.inr rfl) rfl (fun y ax=>by obtain ⟨z,-,rfl⟩:=af8.1 ax;rfl) C a' C (n':=3+g.length) bc cL cL (fun ik I=>?_);refine ae.ot 47 (.aG 1 ((qk g).map bj) ik) C (aZ.AL (.cons aZ.empty (.cons aZ.empty (.cons aZ.empty (cS.refl _))))) ?_;refine ct I ?_;intro I;have gX:(qk g).length=3+g.length:=by unfold qk;simp;omega
 refine af.wM I b (jD (qk g) ik [] .nil mb) a' (.cons aT (.cons (aZ.nil h4) (cS.refl _))) (fun I=>?_);refine af.jw I 346 1 0 fun I=>?_
 refine af.ck [8,53,54] C I (σ:=Nat×List Nat×bV) (fun q=>[(55,.int .i64 (q.1:Int))]) (fun q=>gG b (qk g) ik q.2.1 q.2.2 mb []) (fun q=>q.1≤3+g.length∧q.2.1.length=q.1∧∀ m∈q.2.1,m<2^64) (fun q=>3+g.length-q.1) (0,[],.nil) ⟨g9 _,rfl,by simp⟩ (cK C) (by rw [← gX] at I ⊢;exact (by simp only [gG,jD];exact ba)) ?_;rintro ⟨j,us,gm⟩ ⟨aI,kE,xo⟩ I;simp only [gG,jD] at aI kE xo I ⊢;refine h3 ?_;refine af.cond C (fun az=>?_) (fun a7=>?_)
 ·have az:j<3+g.length:=by rw [f8,gX] at az;simp at az;omega
  have ax:=Nw az;have dc:((qk g).map bj)[j]? = some (.aG 1 ((parents g j).map bg) .bd):=by rw [ae7,ax];rfl
  obtain ⟨sh,oz⟩:=mA.parents j;generalize parents g j=l at ax dc sh oz;have aa:=Nt 0 j dV ag;have ad:=Nt (0|||2^j) 0 (aj0 dV (ai6 ag ag)) ag;unfold oM at aa ad
  repeat (first|(refine wO I ?_;clear I;intro I)|refine ae.dZ al I rfl rfl rfl rfl rfl rfl rfl (fun cB I=>?_)|(refine p0 ?_))
  refine af.ck [8,9,11,53,54,55,64,65] C I (σ:=Nat×Nat) (fun q=>[(66,.int .i64 (q.1:Int))]) (fun q=>(.own cB,.box 346 [.int .u64 (q.2:Int)])::gG b (qk g) ik us gm mb []) (fun q=>q.1≤l.length∧q.2<2^64) (fun q=>l.length-q.1) (0,0|||2^j|||2^0) ⟨g9 _,aj0 (aj0 dV (ai6 ag ag)) dV⟩ (cK C) (by simp only [gG,jD];exact ba) ?_;rintro ⟨k,m⟩ ⟨aA,hm⟩ I;simp only [gG,jD] at aA hm I ⊢;refine h3 ?_;refine af.cond C (fun cT=>?_) (fun ef=>?_)
  ·have cT:k<l.length:=by simpa using cT
   obtain ⟨p,aD,nj⟩:=b7 (f:=bg) cT;have ac0:=oz p (d6 aD);obtain ⟨q,rfl⟩:∃ q:Nat,p=q:=⟨p.toNat,by omega⟩;obtain ⟨u,hu,Xv⟩:=b7 (f:=oM) (l:=us) (j:=q) ag;have zN:=Xh m u hm (xo u (d6 hu));unfold bg at nj;unfold oM at zN Xv;refine tB I ?_;intro I;exact bD.mk (k+1,m|||u) I ⟨cT,aj0 hm (xo u (d6 hu))⟩ cA (by simp only [gG,jD];exact ba) (by show l.length-(k+1)<l.length-k;omega)
  ·refine uT ?_
   refine af.qV (dE [(b,_),(cB,_)]) al mixed C (bq.run (dE.two (bp.get a' I) (bp.get a' I)) C ?_);refine bq.ov 4 al (dE.two (bp.get a' I) (bp.get a' I)) C C C C C C C C (fun _ h=>dE.fst h) b5 ?_;refine bq.ov 5 al (dE.two (bp.get a' I) (bp.get a' I)) C C C C C C C C (fun _ h=>dE.snd h) b5 ?_;refine bq.run (dE.two (bp.get a' I) (bp.get a' I)) C ?_;refine bq.ho 7 al I C C C C C C C C C eH C C C C C C C C a' bc lC ag (fun u3 I => .inl (dE.two (bp.get a' I) (bp.get a' I))) (fun Xw I=>?_);refine bq.run (dE.two (bp.get a' I) (bp.get a' I)) C ?_;refine bq.cX 10 al I C C C C C C C C C C C a' b5 (fun _ => .inr C) (fun I=>?_);refine bf.done C ?_;refine c5 ?_;have FY:∀ x∈us++[m],x<2^64:=fun x ab=>by
    rcases ae2.1 ab with ab|ab
    ·exact xo x ab
    ·rw [t6] at ab;subst ab;exact hm
   have hV:(us++[m]).length=us.length+1:=by simp
   have Xx:(us++[m]).map oM=us.map oM++[.agg [.int .u64 (m:Int)]]:=by simp [oM]
   exact bD.mk (j+1,us++[m],Xw) I ⟨az,by rw [hV,kE],FY⟩ cA (by simp only [gG,jD,hV,Xx];exact ba) (by show 3+g.length-(j+1)<3+g.length-j;omega)
 have a7:j=3+g.length:=by rw [f8,gX] at a7;simp at a7;omega
 subst a7;refine ct I ?_;intro I;refine af.ck [8,94,95] C I (σ:=Nat×kq) (fun q=>[(96,.int .i64 (q.1:Int))]) (fun q=>gG b (qk g) ik us gm mb q.2) (fun q=>q.1≤3+g.length∧rC q.2 ((fE g (2+g.length)).take q.1)) (fun q=>3+g.length-q.1) (0,[]) ⟨g9 _,fun c=>by rw [al3];rfl⟩ (cK C) (by simp only [gG,jD];exact ba) ?_;rintro ⟨j,fk⟩ ⟨aI,dB⟩ I;simp only [gG,jD] at aI dB I ⊢;refine h3 ?_;refine af.cond C (fun az=>?_) (fun a7=>?_)
 ·have az:j<3+g.length:=by rw [f8,gX] at az;simp at az;omega
  obtain ⟨pN,oi⟩:=Xs mA az;obtain ⟨sh,oz⟩:=mA.parents j;have yx:((fE g (2+g.length)).take j).length=j:=by rw [ae9,tJ];omega
  have tY:=Xp b (qk g) ik us gm mb fk _ dB pN (parents g j) (by rw [yx];exact Nw az) sh (fun p aF=>by have:=oz p aF;omega) oi ag;rw [yx,← Xr g az] at tY;refine eh ?_;refine ae.b4 C C C C C tY I (by simp only [gG,jD];exact ba) ?_ (fun _ _ ⟨h,_⟩ _=>by cases h);rintro _ _ ⟨⟨⟩,D3,rfl,Xy⟩ I;rw [d9] at I ⊢;refine c5 ?_;exact bD.mk (j+1,D3) I ⟨az,Xy⟩ cA (aJ.eb _) (by show 3+g.length-(j+1)<3+g.length-j;omega)
 have a7:j=3+g.length:=by rw [f8,gX] at a7;simp at a7;omega
 subst a7;rw [ah1 (by rw [tJ];omega)] at dB;refine c5 ?_;exact Fin.bC I C aT (aJ.eb _) ⟨b,ik,us,gm,mb,fk,rfl,rfl,dB⟩
theorem Xz (g:List (List Int)) (aq:g.length<bx):aV d0 254 [dd g] (.int .i64 (if mI g then 0 else 2)):=by
 have an:=bE;refine aV.bl al Tryz.func254 C C fun s I=>?_
 have aa:=Lm g aq;unfold dd at *
 repeat' (first|(with_reducible first|apply af.seq|apply b0|apply fU|apply af.ret|apply af.skip)|refine cY C ?_|refine af.cH ?_|refine ae.nil ?_|refine cF C ?_|refine ae.dL C C C C C cp ?_|refine af.cond C (fun h=>?_) (fun h=>?_))
 all_goals exact Fin.cE I C (aZ.of_eq rh)
def Nx (l:List Int):ah:=if l.isEmpty then .cr [.aG 0 [] .nil,.int .i64 7] else .cr [bj l,.int .i64 0]
theorem XA (g:List (List Int)) (aq:mI g=true) (c:Nat) (aD:c<3+g.length):aV d0 255 [dd g,.int .i64 (c:Int)] (Nx ((fE g (2+g.length)).getD c [])):=by
 have an:=bE;refine aV.bl al Tryz.func255 C C fun s I=>?_
 have aa:=Xt g aq [(c:Int)] cL (by intro x ab;rw [t6] at ab;subst ab;omega);have mA:=AF aq;have j2:=mA.len;have ai:=AK mA (2+g.length) ag;unfold dd at *;have aa:=bI.args (show cS [.aG 1 (g.map bj) .bd,.aG 1 [.int .i64 (c:Int)] .clip] [.aG 1 (g.map bj) .bd,.aG 1 ([(c:Int)].map bg) .bd] from .cons aT (.one aZ.bd)) aa;refine dS ?_;refine ae.b4 rfl rfl rfl rfl rfl aa I .nil ?_ (fun _ _ ⟨_,_,_,_,_,_,h,_⟩ _=>by cases h);rintro _ _ ⟨cd,ik,us,gm,mb,fk,⟨⟩,rfl,dB⟩ I;rw [d9] at I ⊢;have Bt:=dB c;have gd:((fE g (2+g.length)).getD c []).length<bx:=by
  rw [d5];cases h:(fE g (2+g.length))[c]? with
  | none=>simp;omega
  | some x=>have:=ai.len x (d6 h);show x.length<bx;omega
 generalize (fE g (2+g.length)).getD c []=l at Bt gd;unfold gG jD at I ⊢;cases l with
 | nil=>
  have Bt:oL fk (c:Int)=none:=Bt;refine hq I ?_;intro I;refine ae.jv al I C C C C C C C C C C a' C (by rw [vm,Bt]) C ?_;refine et ?_;exact br I
 | cons x r=>
  obtain ⟨v,qj,Bq⟩:∃ v,oL fk (c:Int)=some v∧aZ v (.aG 1 ((x::r).map bg) .bd):=Bt;have b9:=AZ (x::r) .bd gd;unfold bj at b9;refine hq I ?_;intro I;refine ae.jv al I C C C C C C C C C C a' C (by rw [vm,qj]) C ?_;refine ae.ot 22 _ C Bq ?_;refine ct I ?_;intro I;refine ae.jv al I C C C C C C C C C C a' C (by rw [vm,qj]) C ?_;refine ae.ot 30 _ C Bq ?_;refine c5 ?_;exact br I
def tZ:ah := .iface 298 (.agg [])
theorem XB (_u:Unit):aV d0 223 [.bool true] (.cr []):=by
 have an:=bE;refine aV.bl al Tryz.func223 C C fun s I=>?_
 refine bK ?_;exact br I
theorem XC (_u:Unit):bI d0 223 [.bool false] ([]) (fun o K=>o = .panic tZ∧K=[]):=by
 have an:=bE;refine bI.bl al Tryz.func223 C C fun s I=>?_
 refine bK ?_;refine ae.panic C C C C ?_;exact Fin.fc I aT .nil ⟨rfl,rfl⟩
theorem Ny (n:Int):aV d0 257 [.int .i64 n] (.bool (j3 n)):=by
 have an:=bE;refine aV.bl al Tryz.func257 C C fun s I=>?_
 repeat' (first|(with_reducible first|apply af.seq|apply b0|apply af.ret)|refine cY C ?_|refine af.cH ?_|refine ae.nil ?_|refine cF C ?_|refine ae.skip C C C ?_|(fail_if_success refine ae.same true C ?_);(fail_if_success refine ae.same false C ?_);refine ae.gY C C (fun h=>?_) (fun h=>?_))
 all_goals (refine Fin.cE I C (aZ.of_eq (ae6 ah.bool ?_));clear I;unfold j3;grind)
theorem XD (c:fL) (aD:c.parents.length<bx):ej d0 (.func 232 [] []) [jg c] (bj c.parents):=by
 have an:=bE;refine ej.fm (first:=[]) (cap:=[]) ?_;refine aV.bl al Tryz.func232 C C fun s I=>?_
 have aa:=AZ c.parents .bd aD;unfold jg nk bj at *;refine cl ?_;exact br I
theorem XE (cs:List fL) (aC:cs.length<bx) (hG:∀ c∈cs,c.parents.length<bx):aV d0 231 [.aG 3 (cs.map jg) .bd,.func 232 [] []] (dd (cs.map fL.parents)):=by
 have an:=bE;refine aV.bl al Tryz.func231 C C fun s I=>?_
 obtain ⟨xs,d'⟩:∃ xs:Nat→List ah,∀ j,xs j=((cs.take j).map fL.parents).map bj:=⟨_,fun _=>rfl⟩;have bo:xs 0=[]:=by rw [d'];rfl
 have hH:∀ j,(xs j).length≤cs.length:=fun j=>by
  rw [d',f8,f8];exact ak' _ _
 unfold dd;refine hp ?_;refine af.jw I 23 1 0 fun I=>?_
 refine af.ck [1,8,9] C I (σ:=Nat×bV) (fun q=>[(10,.int .i64 (q.1:Int)),(5,.aG 1 (xs q.1) q.2)]) (fun q=>[(q.2,.row 23 1 (xs q.1).length)]) (fun q=>q.1≤cs.length) (fun q=>cs.length-q.1) (0,.nil) (g9 _) ⟨⟨_,rfl,aT⟩,⟨_,rfl,by rw [bo];exact aZ.nil h4⟩,trivial⟩ (by rw [bo];exact aJ.eb _) ?_;rintro ⟨j,own⟩ aI I;simp only at aI I ⊢;refine cf ?_;refine af.cond C (fun az=>?_) (fun a7=>?_);rotate_left;have a7:j=cs.length:=by
  have:cs.length≤j:=by simpa using a7
  omega
 ·subst a7
  have he:xs cs.length=(cs.map fL.parents).map bj:=by rw [d',af1]
  rw [he];have Nz:=Vc ((cs.map fL.parents).map bj) own;refine c5 ?_;exact Fin.cE I C aZ.bd
 have az:j<cs.length:=by simpa using az
 obtain ⟨c,ax,dc⟩:=b7 (f:=jg) az;have au:=d' (j+1);rw [jy ax,ae1,ae1,← d'] at au;have au:xs (j+1)=xs j++[.aG 1 (c.parents.map bg) .bd]:=au;have db:(xs (j+1)).length=(xs j).length+1:=by rw [au];simp
 have lV:=hH j;have ns:=XD c (hG c (d6 ax));unfold jg nk bj at *;refine ft ?_;refine ae.ho al I C C C C C C C eH C C C C C C C C a' ir p1 ag (fun bT I=>?_);refine hC ?_;refine bD.mk (j+1,.own bT) I az ow (by show aJ _ [(_,.row _ _ (xs (j+1)).length)] _;rw [db];exact aJ.eb _) (by show cs.length-(j+1)<cs.length-j;omega)
structure gx (p:bN):Prop where
 cls:p.cm.length<bx
 each:∀ c∈p.cm,c.parents.length<bx∧c.bm.length<bx∧c.inits.length<bx
 dt:p.dt.length<bx
 y5:p.methods.length<bx
 facts:∀ m∈p.methods,3*m.fact.size+3<bx
 nodes:p.nodes.length<bx
 kids:∀ x∈p.nodes,x.kids.length<bx
theorem NA (p:bN) (aF:gx p):aV d0 188 [cD p] (dd (hh p)):=by
 have an:=bE;refine aV.bl al Tryz.func188 C C fun s I=>?_
 have aa:=XE p.cm aF.cls (fun c h=>(aF.each c h).1);unfold cD cI;unfold dd hh at *;refine cl ?_;exact br I
theorem NB:∀ (l:List fL) (i:Nat) (c:fL),fG i (l++[c])=fG i l++H1 c.bm.length (((i+l.length:Nat):Int)+3)
  | [],i,c=>by simp [fG]
  | x::r,i,c=>by
    rw [ab',fG,NB r (i+1) c,fG,ag'];congr 3;rw [i5];omega
theorem NC {l:List fL} {j:Nat} {c:fL} (h:l[j]? = some c):fG 0 (l.take (j+1))=fG 0 (l.take j)++H1 c.bm.length ((j:Int)+3):=by
 rw [jy h,NB];have:=se h;rw [ae9,Nat.min_eq_left ag,af6]
theorem ND (l:List fL) (j:Nat):(fG 0 (l.take j)).length≤(fG 0 l).length:=by
 have key:∀ (l:List fL) (i j:Nat),(fG i (l.take j)).length≤(fG i l).length:=by
  intro l
  induction l with
  | nil=>intro i j;simp [fG]
  | cons c r aW=>
   intro i j;cases j with
   | zero=>simp [fG]
   | succ j=>
    rw [List.take_succ_cons,fG,fG,f9,f9];have:=aW (i+1) j;omega
 exact key l 0 j
theorem NF (p:bN) (aF:gx p) (ai:(fG 0 p.cm).length<bx):aV d0 147 [cD p] (eI (bY p)):=by
 have an:=bE;refine aV.bl al Tryz.func147 C C fun s I=>?_
 have aa:=NA p aF;have b9:=aF.cls;unfold eI eX bY;simp only;unfold cD cI at *;unfold dd at *
 repeat (first|(refine Ao ?_)|refine ae.jJ I C C C C C C (fun b I=>?_)|refine ae.dZ al I C C C C C C C (fun cB I=>?_)|(refine TR I ?_;clear I;intro I))
 rename_i Bu _;obtain ⟨xu,rfl⟩:∃ x,x=cB:=⟨_,rfl⟩;refine af.wM I xu [.aG 1 ((hh p).map bj) .bd,.aG 1 [] .nil] .here (.cons aT (.one (aZ.nil h4))) (fun I=>?_);refine af.jw I 3 1 0 fun I=>?_
 refine af.ck [2,3,10,11] C I (σ:=Nat×bV) (fun q=>[(12,.int .i64 (q.1:Int))]) (fun q=>[(.own xu,.box 62 [.aG 1 ((hh p).map bj) .bd,.aG 1 ((fG 0 (p.cm.take q.1)).map bg) q.2]),(q.2,.row 3 1 (fG 0 (p.cm.take q.1)).length),(.own Bu,.box 62 [.aG 0 [] .nil,.aG 0 [] .nil])])
  (fun q=>q.1≤p.cm.length) (fun q=>p.cm.length-q.1) (0,.nil) (g9 _) (cK C) ba ?_
 rintro ⟨j,uE⟩ aI I;simp only at aI I ⊢;refine h3 ?_;refine af.cond C (fun az=>?_) (fun a7=>?_);rotate_left
 ·have a7:j=p.cm.length:=by simp at a7;omega
  subst a7;rw [af1] at I ⊢;refine ct I ?_;intro I;exact Fin.cE I (p3 C C (bp.get a' I) C) (aZ.agg (.cons aT (.one aZ.bd)))
 have az:j<p.cm.length:=by simpa using az
 obtain ⟨c,ax,dc⟩:=b7 (f:=jg) az;have hG:=(aF.each c (d6 ax)).2.1;have aM:=NC ax;have hle:=ND p.cm (j+1);have ic:ac' .i64 ((j:Int)+3)=(j:Int)+3:=ev ag ag;rw [aM,f9,List.length_replicate] at hle;generalize fG 0 (p.cm.take j)=os at I aM hle ⊢;unfold jg nk bj at dc
 repeat (first|(refine An I ?_;clear I;intro I)|refine ae.dZ al I rfl rfl rfl rfl rfl rfl rfl (fun cB I=>?_))
 refine af.ck [2,3,4,10,11,12,18,19] C I (σ:=Nat×bV) (fun q=>[(20,.int .i64 (q.1:Int))]) (fun q=>[(.own xu,.box 62 [.aG 1 ((hh p).map bj) .bd,.aG 1 ((os++H1 q.1 ((j:Int)+3)).map bg) q.2]),(q.2,.row 3 1 (os++H1 q.1 ((j:Int)+3)).length),(.own Bu,.box 62 [.aG 0 [] .nil,.aG 0 [] .nil])])
  (fun q=>q.1≤c.bm.length) (fun q=>c.bm.length-q.1) (0,uE) (g9 _) (cK C) (by simp only [List.replicate_zero,d9];exact ba) ?_
 rintro ⟨k,bT⟩ aA I;simp only at aA I ⊢;refine cf ?_;refine af.cond C (fun cT=>?_) (fun ef=>?_);rotate_left
 ·have ef:k=c.bm.length:=by simp at ef;omega
  subst ef;rw [← aM] at I ⊢;refine bK ?_;exact bD.mk (j+1,bT) I az cA ba yP
 have cT:k<c.bm.length:=by simpa using cT
 have hk:(os++H1 k ((j:Int)+3)).length=os.length+k:=by simp
 have HT:(os++H1 (k+1) ((j:Int)+3)).map bg=(os++H1 k ((j:Int)+3)).map bg++[.int .i64 (ac' .i64 ((j:Int)+3))]:=by rw [ic,List.replicate_succ',← ag',ae1];rfl
 have HU:(os++H1 (k+1) ((j:Int)+3)).length=(os++H1 k ((j:Int)+3)).length+1:=by simp;omega
 refine ct I ?_;intro I;refine ae.ho al I C C C C C C C eH C C C C C C C C a' bc lC ag (fun e5 I=>?_);refine hq I ?_;intro I;exact bD.mk (k+1,.own e5) I cT (by repeat (first|exact trivial|refine ⟨⟨_,rfl,aT⟩,?_⟩|refine ⟨⟨_,rfl,aZ.of_eq (by (first|rw [kF ag]))⟩,?_⟩)) (by simp only [HU,HT];exact ba) DP
theorem XF (_u:Unit):aV d0 304 [.int .u64 0] (.int .i64 0):=by
 have an:=bE;refine aV.bl al Tryz.func304 C C fun s I=>?_
 refine bK ?_;refine ae.z7 al 0 C C C C C C C C dV C ?_;refine bK ?_;exact br I
theorem XG (_u:Unit):aV d0 290 [.int .u64 0] (.int .i64 0):=by
 have an:=bE;refine aV.bl al Tryz.func290 C C fun s I=>?_
 have aa:=XF ();refine cl ?_;exact br I
theorem XH (_u:Unit):aV d0 294 [.aG 0 [] .nil,.int .i64 0,.int .i64 0] (.cr []):=by
 have an:=bE;refine aV.bl al Tryz.func294 C C fun s I=>?_
 refine hp ?_;refine af.ck [1,2] C I (σ:=Unit) (fun _=>[(6,.int .i64 1)]) (fun _=>[]) (fun _=>True) (fun _=>0) () trivial (cK C) ba ?_;rintro _ _ I;refine bK ?_;exact br I
theorem XI (_u:Unit):aV d0 289 [.aG 0 [] .nil,.int .i64 0,.int .i64 0,.int .i64 0] (.cr []):=by
 have an:=bE;refine aV.bl al Tryz.func289 C C fun s I=>?_
 have aa:=XH ();refine hp ?_;refine af.ck [0,1,2,3] C I (σ:=Unit) (fun _=>[]) (fun _=>[]) (fun _=>True) (fun _=>0) () trivial (cK C) ba ?_;rintro _ _ I;refine cl ?_;exact br I
theorem XJ (_u:Unit):aV d0 276 [.aG 0 [] .nil] (.cr []):=by
 have an:=bE;refine aV.bl al Tryz.func276 C C fun s I=>?_
 have aa:=XG ();have ad:=XI ();refine cl ?_;exact br I
def rE (fk:kq) (up:List Int):Prop:=∀ n,oL fk n=if up.contains n then some (.bool true) else none
theorem rE.put {fk:kq} {up:List Int} (h:rE fk up) (x:Int):rE (sP fk x (.bool true)) (up++[x]):=fun n=>by
 rw [HS,h n];by_cases e:n=x
 ·subst e;simp
 ·rw [d7 e]
  have:(up++[x]).contains n=up.contains n:=by
   rw [af0];simp [e]
  rw [this]
theorem rE.look {fk:kq} {up:List Int} (h:rE fk up) (n:Int):i' (qi fk) (.int .i64 n)=some (if up.contains n then some (.bool true) else none):=by rw [vm,h n]
theorem Bv (l:List Int):(l.map bg).all fb=true:=by rw [List.all_map];simp [Function.comp_def,bg,fb]
structure NG (p:bN):Prop where
 ji:p.cm.length≤10
 each:∀ c∈p.cm,c.parents.length≤3∧c.bm.length≤4
theorem XK (p:bN) (aF:NG p) (c:Nat) (aD:c<p.cm.length):aV d0 256 [cD p,.int .i64 ((c:Int)+3)] (bj (pn p c)):=by
 have an:=bE;refine aV.bl al Tryz.func256 C C fun s I=>?_
 have sE:=aF.ji;unfold cD cI
 repeat (first|(refine sa ?_)|refine ae.jJ I C C C C C C (fun b I=>?_)|(refine Ap ?_))
 refine ae.r8 I C C C C (fun mb I=>?_);refine er ?_;refine ae.nd al I C C (.inr C) C C C C C C a' C (vn ((c:Int)+3) (.bool true) []) (fun I=>?_);refine eh ?_;refine af.ck [2] C I (σ:=Nat×List Int×List Int×rp×kq) (fun q=>[(7,.int .i64 ((q.1:Int)+2)),(5,.map mb),(6,la q.2.2.2.1 q.2.2.1)]) (fun q=>[(.own b,.box 27 (cI p)),(.own mb,.map (qi q.2.2.2.2))]++j6 q.2.2.2.1 q.2.2.1)
  (fun q=>q.1≤c+1∧oD p.cm q.1 q.2.1 q.2.2.1=oD p.cm (c+1) [(c:Int)+3] []∧rE q.2.2.2.2 q.2.1∧sB q.2.2.2.1 q.2.2.1∧q.2.2.1.length+4*q.1≤4*(c+1)) (fun q=>q.1) (c+1,[(c:Int)+3],[],none,[((c:Int)+3,.bool true)])
  ⟨g7 _,rfl,fun n=>by unfold oL;by_cases e:n=(c:Int)+3<;>simp [e],rfl,by simp⟩ ⟨⟨_,rfl,aZ.of_eq cL⟩,⟨_,rfl,aT⟩,⟨_,rfl,aT⟩,trivial⟩ (by simp only [j6,d9,cI];exact ba) ?_
 rintro ⟨k,up,out,bt,fk⟩ ⟨aA,aw,p',db,gd⟩ I;simp only at aA aw p' db gd I ⊢;unfold cI at I ⊢;refine h3 ?_;refine af.cond C (fun az=>?_) (fun a7=>?_);rotate_left
 ·have a7:k=0:=by simp at a7;omega
  subst a7;have aw:out=oD p.cm (c+1) [(c:Int)+3] []:=aw;have aE:pn p c=pk out:=by unfold pn;rw [← aw]
  rw [aE];rcases bt with _|⟨g,cap,dT⟩
  ·have:out=[]:=db
   subst this;have aa:=XJ ();have ad:=Hd [] .nil;have ad:=aV.args (show cS [.aG 0 [] .nil] [.aG 1 [] .nil] from .one (aZ.nil h4)) ad;refine c5 ?_;rw [show pk []=[] by unfold pk;simp];exact Fin.cE I C aZ.bd
  ·have kD:out.length+dT.length=cap:=db
   have aa:=Ht g cap out dT ag;have ad:=Hd ((pk out).map bg) .bd;simp only [j6,la,ab',f0] at I ⊢;refine c5 ?_;refine ae.b4 rfl rfl rfl rfl rfl aa I (.cons a' .nil) ?_ (fun _ _ ⟨h,_⟩ _=>by cases h);rintro _ _ ⟨⟨⟩,rfl⟩ I;simp only [ab',f0] at I ⊢;have e:((pk out).map bg++dT).take out.length=(pk out).map bg:=aq4 (by unfold pk;simp);have xw:(pk out).length=out.length:=by unfold pk;simp
   refine ae.run al C (ae.nil ?_);refine b0 ?_;refine af.uX I 6 g (cs:=(pk out).map bg++dT) C .here (by rw [f9,f8];omega) ag ag (by rw [e];exact Bv _) (fun I=>?_);rw [e];refine c5 ?_;exact Fin.cE I C aZ.bd
 have az:1≤k:=by simp at az;omega
 obtain ⟨i,rfl⟩:∃ i,k=i+1:=⟨k-1,by omega⟩;have lL:=p'.look ((i:Int)+3);have aq:oD p.cm (i+1) up out=if up.contains ((i:Int)+3) then oD p.cm i (up++(p.cm.getD i default).parents) (out++(p.cm.getD i default).bm) else oD p.cm i up out:=rfl
 rw [aq] at aw;have NH:(((i+1:Nat):Int)+2)=(i:Int)+3:=by omega
 rw [NH];have me:i<p.cm.length:=by omega
 obtain ⟨dJ,b9,Bw⟩:=b7 (f:=jg) me;have k1:p.cm.getD i default=dJ:=by rw [d5,b9];rfl
 rw [k1] at aw;obtain ⟨Nz,hG⟩:=aF.each dJ (d6 b9);have da:ac' .i64 ((i:Int)+3-3)=(i:Int):=by rw [ev ag ag];omega
 have j1:ac' .i64 ((i:Int)+3-1)=(i:Int)+2:=by rw [ev ag ag];omega
 refine eh ?_;cases xq:up.contains ((i:Int)+3) with
 | false=>
  rw [xq] at aw lL;simp only [af7,ah9] at aw lL;refine ae.jv al I C C C C C C C C C C (.there .here) C lL C ?_;refine c5 ?_;exact bD.mk (i,up,out,bt,fk) I ⟨by omega,aw,p',db,by show out.length+4*i≤4*(c+1);omega⟩ DN (aJ.eb _) (by show i<i+1;omega)
 | true=>
  rw [xq] at aw lL;simp only [ag5] at aw lL;unfold jg nk bj at Bw;refine ae.jv al I C C C C C C C C C C (.there .here) C lL C ?_;refine ct I ?_;intro I;refine ae.idx al i C C C C C C C C C C da Bw C ?_;refine er ?_;rcases bt with _|⟨g,cap,dT⟩
  ·have bo:out=[]:=db
   by_cases Bx:dJ.bm=[]
   ·refine ae.ot 28 (.aG 1 [] .bd) C (aZ.of_eq (by rw [Bx];rfl)) ?_
    refine ae.GZ al C C C C C C C eH C C C ?_;have xe:sB none (out++dJ.bm):=by rw [bo,Bx];rfl
    refine ct I ?_;intro I;refine ae.idx al i C C C C C C C C C C da Bw C ?_;refine eh ?_;refine af.ck [2,5,6,7,36,37] C I (σ:=Nat×kq) (fun q=>[(38,.int .i64 (q.1:Int))]) (fun q=>(.own mb,.map (qi q.2))::(.own b,.box 27 (cI p))::j6 none (out++dJ.bm)) (fun q=>q.1≤dJ.parents.length∧rE q.2 (up++dJ.parents.take q.1)) (fun q=>dJ.parents.length-q.1) (0,fk) ⟨g9 _,by rw [al3,d9];exact p'⟩ (cK C) (.cons (.there .here) (.cons .here .nil)) ?_;rintro ⟨k,By⟩ ⟨hQ,nx⟩ I;simp only [cI] at hQ nx I ⊢;refine h3 ?_;refine af.cond C (fun cT=>?_) (fun ef=>?_)
    ·have cT:k<dJ.parents.length:=by simpa using cT
     obtain ⟨x,ab,ch⟩:=b7 (f:=bg) cT;unfold bg at ch;refine eh ?_;refine ae.nd al I C C (.inl C) C C C C C C .here C (vn _ _ _) (fun I=>?_);refine c5 ?_;exact bD.mk (k+1,_) I ⟨cT,by rw [jy ab,← ag'];exact nx.put x⟩ cA (aJ.eb _) Hs
    ·have ef:k=dJ.parents.length:=by simp at ef;omega
     subst ef;rw [af1] at nx;refine c5 ?_;exact bD.mk (i,up++dJ.parents,out++dJ.bm,none,By) I ⟨by omega,aw,nx,xe,by show (out++dJ.bm).length+4*i≤4*(c+1);rw [f9];omega⟩ DN (.cons (.there .here) (.cons .here (aJ.eb _))) (by show i<i+1;omega)
   ·have ym:1≤dJ.bm.length:=by
     rcases bG:dJ.bm with _|⟨z,a'⟩
     ·exact absurd bG Bx
     ·simp
    refine ae.GX al I C C C C C C C eH C C C C C C (Bv _) (by rw [f8];exact ym) (by show _*8≤_;rw [f8];omega) ve (fun aY cb cs' aa ad aj I=>?_)
    obtain ⟨dT,rfl⟩:∃ dT,cs'=(out++dJ.bm).map bg++dT:=⟨cs'.drop (dJ.bm.map bg).length,by
     have:=ah' (dJ.bm.map bg).length cs'
     rw [aj] at this
     rw [bo];exact this.symm⟩
    have xe:sB (some (aY,cb,dT)) (out++dJ.bm):=by show (out++dJ.bm).length+dT.length=cb;rw [f9,f8] at aa;exact aa
    refine ae.ot 29 (la (some (aY,cb,dT)) (out++dJ.bm)) C (aZ.of_eq (by show ee aY _ cb=ee aY _ cb;rw [bo,f8];rfl)) ?_;refine ct I ?_;intro I;refine ae.idx al i C C C C C C C C C C da Bw C ?_;refine eh ?_;refine af.ck [2,5,6,7,36,37] C I (σ:=Nat×kq) (fun q=>[(38,.int .i64 (q.1:Int))]) (fun q=>(.own mb,.map (qi q.2))::(.own b,.box 27 (cI p))::j6 (some (aY,cb,dT)) (out++dJ.bm)) (fun q=>q.1≤dJ.parents.length∧rE q.2 (up++dJ.parents.take q.1)) (fun q=>dJ.parents.length-q.1) (0,fk) ⟨g9 _,by rw [al3,d9];exact p'⟩ (cK C) (.cons (.there (.there .here)) (.cons (.there .here) (.cons .here .nil))) ?_;rintro ⟨k,By⟩ ⟨hQ,nx⟩ I;simp only [cI] at hQ nx I ⊢;refine h3 ?_;refine af.cond C (fun cT=>?_) (fun ef=>?_)
    ·have cT:k<dJ.parents.length:=by simpa using cT
     obtain ⟨x,ab,ch⟩:=b7 (f:=bg) cT;unfold bg at ch;refine eh ?_;refine ae.nd al I C C (.inl C) C C C C C C .here C (vn _ _ _) (fun I=>?_);refine c5 ?_;exact bD.mk (k+1,_) I ⟨cT,by rw [jy ab,← ag'];exact nx.put x⟩ cA (aJ.eb _) Hs
    ·have ef:k=dJ.parents.length:=by simp at ef;omega
     subst ef;rw [af1] at nx;refine c5 ?_;exact bD.mk (i,up++dJ.parents,out++dJ.bm,(some (aY,cb,dT)),By) I ⟨by omega,aw,nx,xe,by show (out++dJ.bm).length+4*i≤4*(c+1);rw [f9];omega⟩ DN (.cons (.there .here) (.cons .here (aJ.eb _))) (by show i<i+1;omega)
  ·have kD:out.length+dT.length=cap:=db
   refine ae.GY (n:=out.length) (cap:=cap) (cs:=out.map bg++dT) al I C C C C C C C eH C C C C (.there (.there .here)) (by rw [f9,f8];exact kD) ag (by rw [aq4 bc];exact Bv _) C C (Bv _) (by show _*8≤_;rw [f8];omega) ve (fun aY cb cs' aa ad aj I=>?_);rw [aq4 bc] at aj
   obtain ⟨nv,rfl⟩:∃ dT,cs'=(out++dJ.bm).map bg++dT:=⟨cs'.drop (out.length+(dJ.bm.map bg).length),by
    have:=ah' (out.length+(dJ.bm.map bg).length) cs'
    rw [aj] at this
    rw [ae1];exact this.symm⟩
   have xe:sB (some (aY,cb,nv)) (out++dJ.bm):=by show (out++dJ.bm).length+nv.length=cb;rw [f9,f8] at aa;exact aa
   refine ae.ot 29 (la (some (aY,cb,nv)) (out++dJ.bm)) C (aZ.of_eq (by show ee aY _ cb=ee aY _ cb;rw [f8,f9])) ?_;refine ct I ?_;intro I;refine ae.idx al i C C C C C C C C C C da Bw C ?_;refine eh ?_;refine af.ck [2,5,6,7,36,37] C I (σ:=Nat×kq) (fun q=>[(38,.int .i64 (q.1:Int))]) (fun q=>(.own mb,.map (qi q.2))::(.own b,.box 27 (cI p))::j6 (some (aY,cb,nv)) (out++dJ.bm)) (fun q=>q.1≤dJ.parents.length∧rE q.2 (up++dJ.parents.take q.1)) (fun q=>dJ.parents.length-q.1) (0,fk) ⟨g9 _,by rw [al3,d9];exact p'⟩ (cK C) (.cons (.there (.there .here)) (.cons (.there .here) (.cons .here .nil))) ?_;rintro ⟨k,By⟩ ⟨hQ,nx⟩ I;simp only [cI] at hQ nx I ⊢;refine h3 ?_;refine af.cond C (fun cT=>?_) (fun ef=>?_)
   ·have cT:k<dJ.parents.length:=by simpa using cT
    obtain ⟨x,ab,ch⟩:=b7 (f:=bg) cT;unfold bg at ch;refine eh ?_;refine ae.nd al I C C (.inl C) C C C C C C .here C (vn _ _ _) (fun I=>?_);refine c5 ?_;exact bD.mk (k+1,_) I ⟨cT,by rw [jy ab,← ag'];exact nx.put x⟩ cA (aJ.eb _) Hs
   ·have ef:k=dJ.parents.length:=by simp at ef;omega
    subst ef;rw [af1] at nx;refine c5 ?_;exact bD.mk (i,up++dJ.parents,out++dJ.bm,(some (aY,cb,nv)),By) I ⟨by omega,aw,nx,xe,by show (out++dJ.bm).length+4*i≤4*(c+1);rw [f9];omega⟩ DN (.cons (.there .here) (.cons .here (aJ.eb _))) (by show i<i+1;omega)
def D5 (b:Bool):eB:=if b then .ret (.cr []) else .panic tZ
theorem gR {x:ah} {b:Bool} (h:eB.ret x=D5 b):b=true∧x = .cr []:=by
 cases b with
 | true=>cases h;exact ⟨rfl,rfl⟩
 | false=>cases h
theorem gS {x:ah} {b:Bool} (h:eB.panic x=D5 b):b=false∧x=tZ:=by
 cases b with
 | true=>cases h
 | false=>cases h;exact ⟨rfl,rfl⟩
theorem hf (b:Bool):bI d0 223 [.bool b] [] (fun o K=>K=[]∧o=D5 b):=by
 cases b with
 | true=>exact fun s I=>hl.mono (XB () s) (fun o ak ⟨aa,ad⟩=>⟨[],ad,trivial,rfl,aa⟩)
 | false=>exact bI.mono (XC ()) (fun o K ⟨aa,ad⟩=>⟨ad,aa⟩)
theorem HV {cs:List fL} (h:∀ c∈cs,c.bm.length≤4):∀ (k:Nat) (up out:List Int),(oD cs k up out).length≤out.length+4*k
  | 0,_,_=>g7 _
  | k+1,up,out=>by
    rw [oD];split
    · have aa:=HV h k (up++(cs.getD k default).parents) (out++(cs.getD k default).bm)
      have ad:(cs.getD k default).bm.length≤4:=by
        rw [d5];cases aD:cs[k]? with
        | none=>exact g9 _
        | some c=>exact h c (d6 aD)
      rw [f9] at aa;omega
    · have:=HV h k up out
      omega
theorem XL (p:bN) (aF:gx p):bI d0 222 [cD p] [] (fun o K=>K=[]∧o=D5 (po p)):=by
 have an:=bE;have aq:=NA p aF;have j2:(hh p).length=p.cm.length:=by unfold hh;simp
 have D6:=Xz (hh p) (by rw [j2];exact aF.cls);have cM:po p=(decide (p.cm.length≤10)&&((lG 0 p.cm==some p.bm)&&(mI (hh p)&&rb p 0 p.cm))):=rfl;refine bI.bl al Tryz.func222 C C fun s I=>?_
 unfold cD cI at *;unfold dd at *;refine dS ?_;refine ae.b4 C C C C C (hf _) I .nil ?_ ?_;rotate_left
 ·rintro _ _ ⟨rfl,h⟩ I
  obtain ⟨aB,rfl⟩:=gS h;rw [f0] at I ⊢;exact Fin.fc I aT .nil ⟨rfl,(by rw [cM,show decide (p.cm.length≤10)=false by simp at aB ⊢;omega];rfl)⟩
 rintro _ _ ⟨rfl,h⟩ I;obtain ⟨aa,rfl⟩:=gR h;rw [f0] at I ⊢;have aa:p.cm.length≤10:=by simp at aa;omega
 rw [show decide (p.cm.length≤10)=true by simpa using aa,f5] at cM;refine bK ?_;refine af.ck [1,22,23] C I (σ:=Nat×Nat) (fun q=>[(24,.int .i64 (q.1:Int)),(2,.int .i64 (q.2:Int))]) (fun _=>[]) (fun q=>q.1≤p.cm.length∧lG 0 p.cm=lG (q.2:Int) (p.cm.drop q.1)∧q.2≤4*q.1) (fun q=>p.cm.length-q.1) (0,0) ⟨g9 _,rfl,g7 _⟩ (cK C) ba ?_;rintro ⟨j,n⟩ ⟨aI,aw,HW⟩ I;simp only at aI aw HW I ⊢;refine cf ?_;refine af.cond C (fun az=>?_) (fun a7=>?_)
 ·have az:j<p.cm.length:=by simpa using az
  obtain ⟨c,ax,dc⟩:=b7 (f:=jg) az;rw [drop_cons ax,lG] at aw;unfold jg nk bj at dc;refine ft ?_;refine ae.b4 C C C C C (hf _) I .nil ?_ ?_;rotate_left
  ·rintro _ _ ⟨rfl,h⟩ I
   obtain ⟨aB,rfl⟩:=gS h;rw [f0] at I ⊢;exact Fin.fc I aT .nil ⟨rfl,(by rw [d7 (by simp at aB;omega)] at aw;rw [cM,aw];rfl)⟩
  rintro _ _ ⟨rfl,h⟩ I;obtain ⟨ad,rfl⟩:=gR h;rw [f0] at I ⊢;have ad:c.bm.length≤4:=by simp at ad;omega
  rw [f7 ad] at aw;refine bK ?_;refine af.ck [1,22,23,24,34,35] C I (σ:=Nat×Nat) (fun q=>[(36,.int .i64 (q.1:Int)),(2,.int .i64 (q.2:Int))]) (fun _=>[]) (fun q=>q.1≤c.bm.length∧nX (n:Int) c.bm=nX (q.2:Int) (c.bm.drop q.1)∧q.2≤n+q.1) (fun q=>c.bm.length-q.1) (0,n) ⟨g9 _,rfl,g7 _⟩ (cK C) ba ?_;rintro ⟨k,m⟩ ⟨aA,bk,NI⟩ I;simp only at aA bk NI I ⊢;refine cf ?_;refine af.cond C (fun cT=>?_) (fun ef=>?_)
  ·have cT:k<c.bm.length:=by simpa using cT
   obtain ⟨x,ab,ch⟩:=b7 (f:=bg) cT;rw [drop_cons ab,nX] at bk;unfold bg at ch;refine eh ?_;refine ae.b4 C C C C C (hf _) I .nil ?_ ?_;rotate_left
   ·rintro _ _ ⟨rfl,h⟩ I
    obtain ⟨aB,rfl⟩:=gS h;rw [f0] at I ⊢;exact Fin.fc I aT .nil ⟨rfl,(by rw [d7 sy] at bk;rw [bk] at aw;rw [cM,aw];rfl)⟩
   rintro _ _ ⟨rfl,h⟩ I;obtain ⟨aj,rfl⟩:=gR h;rw [f0] at I ⊢;have aj:x=(m:Int):=by simpa using aj
   rw [f7 aj] at bk;refine hC ?_;exact bD.mk (k+1,m+1) I ⟨cT,by rw [bk];push_cast;rfl,by show m+1≤n+(k+1);omega⟩ (by repeat (first|exact trivial|refine ⟨⟨_,rfl,aT⟩,?_⟩|refine ⟨⟨_,rfl,aZ.of_eq (by (first|rw [kF ag]|(rw [ev ag ag];push_cast;rfl)))⟩,?_⟩)) ba DP
  ·have ef:k=c.bm.length:=by simp at ef;omega
   subst ef;rw [eE (g7 _),nX] at bk;rw [bk] at aw;refine bK ?_;exact bD.mk (j+1,m) I ⟨az,aw,by show m≤4*(j+1);omega⟩ cA ba yP
 have a7:j=p.cm.length:=by simp at a7;omega
 subst a7;rw [eE (g7 _),lG] at aw;rw [aw] at cM;refine c5 ?_;cases HX:((n:Int)==p.bm) with
 | false=>
  have HY:(some (n:Int)==some p.bm)=false:=by rw [← HX];rfl
  rw [HY,f6] at cM;refine et ?_;refine ae.b4 C C C C C (hf _) I .nil ?_ ?_;rotate_left
  ·rintro _ _ ⟨rfl,h⟩ I
   obtain ⟨aB,rfl⟩:=gS h;rw [f0] at I ⊢;exact Fin.fc I aT .nil ⟨rfl,(by rw [cM];rfl)⟩
  rintro _ _ ⟨rfl,h⟩ I;obtain ⟨aj,rfl⟩:=gR h;rw [f0] at I ⊢;cases aj
 | true=>
 have HY:(some (n:Int)==some p.bm)=true:=by rw [← HX];rfl
 rw [HY,f5] at cM;have db:=G6 aw;cases y6:mI (hh p) with
 | false=>
  rw [y6,f6] at cM;rw [y6] at D6;simp only [af7,ah9] at D6;refine c5 ?_;refine ae.b4 C C C C C (hf _) I .nil ?_ ?_;rotate_left
  ·rintro _ _ ⟨rfl,h⟩ I
   obtain ⟨aB,rfl⟩:=gS h;rw [f0] at I ⊢;exact Fin.fc I aT .nil ⟨rfl,(by rw [cM];rfl)⟩
  rintro _ _ ⟨rfl,h⟩ I;obtain ⟨aj,rfl⟩:=gR h;rw [f0] at I ⊢;exact absurd aj dV
 | true=>
 rw [y6,f5] at cM;rw [y6] at D6;simp only [ag5] at D6;have mA:=AF y6
 have va:NG p:=⟨aa,fun c aD=>⟨by
  obtain ⟨i,aS⟩:=af' aD
  exact (mA.par i c.parents (by unfold hh;rw [ae7,aS];rfl)).1,db c aD⟩⟩
 have y7:=fun c aD=>XA (hh p) y6 c aD
 unfold dd at y7;refine c5 ?_;refine ae.b4 C C C C C (hf _) I .nil ?_ ?_;rotate_left
 ·rintro _ _ ⟨rfl,h⟩ I
  obtain ⟨aB,rfl⟩:=gS h;rw [f0] at I ⊢;exact Fin.fc I aT .nil ⟨rfl,(by exact absurd aB dV)⟩
 rintro _ _ ⟨rfl,h⟩ I;obtain ⟨aj,rfl⟩:=gR h;rw [f0] at I ⊢;clear aj;refine bK ?_;refine af.ck [1,7,61,62] C I (σ:=Nat) (fun j=>[(63,.int .i64 (j:Int))]) (fun _=>[]) (fun j=>j≤p.cm.length∧po p=rb p j (p.cm.drop j)) (fun j=>p.cm.length-j) 0 ⟨g9 _,cM⟩ (cK C) ba ?_;rintro j ⟨aI,aw⟩ I;refine cf ?_;refine af.cond C (fun az=>?_) (fun a7=>?_);rotate_left
 ·have a7:j=p.cm.length:=by simp at a7;omega
  subst a7;rw [eE (g7 _),rb] at aw;refine ew ?_;exact Fin.bC I C aT .nil ⟨rfl,by rw [aw];rfl⟩
 have az:j<p.cm.length:=by simpa using az
 obtain ⟨c,ax,dc⟩:=b7 (f:=jg) az;rw [drop_cons ax,rb] at aw;unfold G5 at aw;have y8:=y7 (j+3) ag;have q3:(fE (hh p) (2+(hh p).length)).getD (j+3) []=yI p (j+3):=rfl;rw [q3] at y8;have ic:ac' .i64 ((j:Int)+3)=((j+3:Nat):Int):=by rw [ev ag ag];omega
 rw [← ic] at y8;have lI:=XK p va j az;have lI:aV d0 256 [cD p,.int .i64 (ac' .i64 ((j:Int)+3))] (bj (pn p j)):=by rw [ic];exact lI
 unfold cD cI bj at lI;unfold jg nk bj at dc;unfold Nx at y8;cases D7:(yI p (j+3)).isEmpty with
 | true=>
  rw [D7,f7 C] at y8;rw [D7] at aw
  repeat (first|(refine wO I ?_;clear I;intro I)|refine ae.dZ al I rfl rfl rfl rfl rfl rfl rfl (fun cB I=>?_)|(refine p0 ?_))
  refine ae.b4 C C C C C (hf _) I .nil ?_ ?_;rotate_left
  ·rintro _ _ ⟨rfl,h⟩ I
   obtain ⟨aB,rfl⟩:=gS h;rw [f0] at I ⊢;exact Fin.fc I aT .nil ⟨rfl,(by rw [aw];rfl)⟩
  rintro _ _ ⟨rfl,h⟩ I;obtain ⟨aj,rfl⟩:=gR h;rw [f0] at I ⊢;exact absurd aj dV
 | false=>
 rw [D7,d7 bc] at y8;rw [D7,aj6,f5] at aw;unfold bj at y8
 repeat (first|(refine wO I ?_;clear I;intro I)|refine ae.dZ al I rfl rfl rfl rfl rfl rfl rfl (fun cB I=>?_)|(refine p0 ?_))
 refine ae.b4 C C C C C (hf _) I .nil ?_ ?_;rotate_left
 ·rintro _ _ ⟨rfl,h⟩ I
  obtain ⟨aB,rfl⟩:=gS h;rw [f0] at I ⊢;exact Fin.fc I aT .nil ⟨rfl,(by exact absurd aB dV)⟩
 rintro _ _ ⟨rfl,h⟩ I;obtain ⟨aj,rfl⟩:=gR h;rw [f0] at I ⊢;clear aj;refine c5 ?_;refine ae.r8 I C C C C (fun mb I=>?_);refine ct I ?_;intro I;have hV:(pn p j).length≤40:=by
  have:=HV db (j+1) [(j:Int)+3] [];unfold pn pk;rw [as5];simp only [ag0] at this;omega
 have ie:=fun n=>yw (pn p j) n ag
 unfold bj at ie;generalize pn p j=w1 at lI aw hV ie I ⊢;have NH:=(aF.each c (d6 ax)).2.2;refine af.ck [1,7,12,13,61,62,63,84,85] C I (σ:=Nat×kq) (fun q=>[(86,.int .i64 (q.1:Int))]) (fun q=>[(.own mb,.map (qi q.2))]) (fun q=>q.1≤c.inits.length∧rE q.2 ((c.inits.take q.1).map iT.slot)∧ra w1 [] c.inits=ra w1 ((c.inits.take q.1).map iT.slot) (c.inits.drop q.1)) (fun q=>c.inits.length-q.1) (0,[]) ⟨g9 _,fun n=>rfl,rfl⟩ (cK C) ba ?_;rintro ⟨k,fk⟩ ⟨aA,p',bk⟩ I;simp only at aA p' bk I ⊢;refine cf ?_;refine af.cond C (fun cT=>?_) (fun ef=>?_);rotate_left
 ·have ef:k=c.inits.length:=by simp at ef;omega
  subst ef;rw [eE (g7 _),ra] at bk;rw [bk,f5] at aw;refine bK ?_;exact bD.mk (j+1) I ⟨az,aw⟩ cA ba yP
 have cT:k<c.inits.length:=by simpa using cT
 obtain ⟨x,ab,ch⟩:=b7 (f:=wX) cT;rw [drop_cons ab,ra] at bk;unfold wX at ch;have NJ:=ie x.slot;have lL:=p'.look x.slot;have qb:=Ny x.n;cases sD:w1.contains x.slot with
 | false=>
  rw [sD] at NJ;rw [sD,f6] at bk;rw [bk,f6] at aw;refine ft ?_;refine ae.b4 C C C C C (hf _) I .nil ?_ ?_;rotate_left
  ·rintro _ _ ⟨rfl,h⟩ I
   obtain ⟨aB,rfl⟩:=gS h;rw [f0] at I ⊢;exact Fin.fc I aT .nil ⟨rfl,(by rw [aw];rfl)⟩
  rintro _ _ ⟨rfl,h⟩ I;obtain ⟨aj,rfl⟩:=gR h;rw [f0] at I ⊢;exact absurd aj dV
 | true=>
 rw [sD] at NJ;rw [sD,f5] at bk;cases sR:((c.inits.take k).map iT.slot).contains x.slot with
 | true=>
  rw [sR] at lL;rw [sR,aj',f6] at bk;rw [bk,f6] at aw;refine ft ?_;refine ae.jv al I C C C C C C C C C C a' C lL C ?_;refine et ?_;refine ae.b4 C C C C C (hf _) I .nil ?_ ?_;rotate_left
  ·rintro _ _ ⟨rfl,h⟩ I
   obtain ⟨aB,rfl⟩:=gS h;rw [f0] at I ⊢;exact Fin.fc I aT .nil ⟨rfl,(by rw [aw];rfl)⟩
  rintro _ _ ⟨rfl,h⟩ I;obtain ⟨aj,rfl⟩:=gR h;rw [f0] at I ⊢;exact absurd aj dV
 | false=>
 rw [sR] at lL;rw [sR,aj6,f5] at bk;simp only [af7,ah9] at lL;refine ft ?_;refine ae.jv al I C C C C C C C C C C a' C lL C ?_;refine c5 ?_;refine ae.b4 C C C C C (hf _) I .nil ?_ ?_;rotate_left
 ·rintro _ _ ⟨rfl,h⟩ I
  obtain ⟨aB,rfl⟩:=gS h;rw [f0] at I ⊢;exact Fin.fc I aT .nil ⟨rfl,(by rw [aB,f6] at bk;rw [bk,f6] at aw;rw [aw];rfl)⟩
 rintro _ _ ⟨rfl,h⟩ I;obtain ⟨aj,rfl⟩:=gR h;rw [f0] at I ⊢;rw [aj,f5] at bk;refine h3 ?_;refine ae.nd al I C C (.inl C) C C C C C C a' C (vn _ _ _) (fun I=>?_);refine hC ?_;have hL:(c.inits.take (k+1)).map iT.slot=(c.inits.take k).map iT.slot++[x.slot]:=by rw [jy ab,ae1];rfl
 exact bD.mk (k+1,_) I ⟨cT,by show rE _ ((c.inits.take (k+1)).map iT.slot);rw [hL];exact p'.put x.slot,by show _=ra w1 ((c.inits.take (k+1)).map iT.slot) _;rw [hL];exact bk⟩ cA ba (by show c.inits.length-(k+1)<c.inits.length-k;omega)
def xx (n:Int):ah := .iface 277 (.int .i64 n)
def xy (op:Int):ah:=
 if op=5 then .iface 279 (.agg [])
 else if op=1∨op=2∨op=3∨op=6∨op=18 then xx 0
 else if op=4∨op=8∨op=17 then xx 1
 else if op=7∨op=9∨op=11∨op=12∨op=13∨op=14∨op=15∨op=16 then xx 2
 else if op=10 then xx 3
 else .ob
theorem XM (op:Int):aV d0 228 [.int .i64 op] (xy op):=by
 have an:=bE;refine aV.bl al Tryz.func228 C C fun s I=>?_
 by_cases aE:1≤op∧op≤18
 ·have h:op=1∨op=2∨op=3∨op=4∨op=5∨op=6∨op=7∨op=8∨op=9∨op=10∨op=11∨op=12∨op=13∨op=14∨op=15∨op=16∨op=17∨op=18:=by omega
  clear aE;rcases h with rfl|rfl|rfl|rfl|rfl|rfl|rfl|rfl|rfl|rfl|rfl|rfl|rfl|rfl|rfl|rfl|rfl|rfl
  all_goals
   refine bK ?_;exact br I
 ·have aA:xy op = .ob:=by
   unfold xy;rw [d7 ag,d7 ag,d7 ag,d7 ag,d7 ag]
  rw [aA]
  repeat (first|(refine Gj ?_)|refine af.cond C (fun h=>absurd h cL) (fun _=>?_))
  exact br I
theorem NK (n:Int) (p:bN) (x:iU):aV d0 335 [.int .i64 n,cD p,jh x] (.int .i64 n):=by
 have an:=bE;refine aV.bl al Tryz.func335 C C fun s I=>?_
 unfold cD cI jh k7;refine gE ?_;exact br I
theorem NL (p:bN) (x:iU) (k:Nat) (g:Int) (ab:x.n=(k:Int)) (aA:p.dt[k]? = some g):aV d0 336 [.agg [],cD p,jh x] (.int .i64 g):=by
 have an:=bE;refine aV.bl al Tryz.func336 C C fun s I=>?_
 have eF:(p.dt.map bg)[k]? = some (.int .i64 g):=by rw [ae7,aA];rfl
 unfold cD cI jh k7 bj;rw [ab];refine bK ?_;exact br I
theorem XN (p:bN) (aF:gx p) (x:iU) (size:Int):aV d0 227 [cD p,jh x,.int .i64 size] (.bool (nm p x size)):=by
 have an:=bE;refine aV.bl al Tryz.func227 C C fun s I=>?_
 have b9:=aF.cls;have j2:=aF.dt;have aa:=Ny x.n;have da:ac' .i64 (3+((p.cm.map jg).length:Int))=3+(p.cm.length:Int):=by rw [f8,ev ag ag]
 unfold cD cI jh k7 bj;by_cases aE:x.op=1∨x.op=3∨x.op=4∨x.op=7∨x.op=6∨x.op=8∨x.op=5
 ·rcases aE with h|h|h|h|h|h|h
  all_goals
   have hm:nm p x size=nm p x size:=rfl
   conv at hm=>rhs;unfold nm
   rw [h] at hm ⊢;simp only [Int.reduceEq,ag5,ah9,true_or,or_true,or_self,reduceIte] at hm;rw [hm]
   repeat' (first|(with_reducible first|apply af.seq|apply b0|apply fU|apply fp|apply gZ|apply af.ret|apply af.skip|apply af.block)|refine cY C ?_|refine af.cH ?_|refine ae.nil ?_|refine af.fx C ?_|refine af.gI C ?_|refine cF C ?_|refine ae.skip C C C ?_|refine ae.dL C C C C C cp ?_|(fail_if_success refine ae.same true C ?_);(fail_if_success refine ae.same false C ?_);refine ae.gY C C (fun h=>?_) (fun h=>?_))
  all_goals (refine Fin.cE I C (aZ.of_eq (ae6 ah.bool ?_));clear I aa;(try simp only [f8] at *)<;>grind)
 ·have hm:nm p x size=(decide (x.n≥0)&&decide (x.n<1)):=by
   unfold nm;rw [d7 ag,d7 ag,d7 ag,d7 ag,d7 ag]
  rw [hm]
  repeat (first|(refine Gj ?_)|refine af.cond C (fun h=>absurd h (by first|(simp;done)|(simp;omega))) (fun _=>?_))
  repeat' (first|(with_reducible first|apply b0|apply af.ret)|refine ae.nil ?_|refine cF C ?_|refine ae.skip C C C ?_|(fail_if_success refine ae.same true C ?_);(fail_if_success refine ae.same false C ?_);refine ae.gY C C (fun h=>?_) (fun h=>?_))
  all_goals (refine Fin.cE I C (aZ.of_eq (ae6 ah.bool ?_));clear I aa;grind)
theorem XO (w:bz):∀ (n:Nat) (f:av),f.size≤n→n<bx→gy w f=true→aV d0 230 [f.cj] (.int .i64 (iV f)):=by
 have an:=bE;intro n
 induction n with
 | zero=>intro x h;have:=x.size_eq;omega
 | succ n aW=>
  intro f aB jc aq;refine aV.bl al Tryz.func230 C C fun s I=>?_
  have iu:=f.size_eq;have hlen:=av.q5 f.kids;rw [oC,f4] at aq;rw [av.cG];rw [yH];have aO:f.cU=true→ac' .i64 (f.arg+1)=f.arg+1:=fun aC=>by
   have aB:=aq.1;simp only [hM,aC,ag5,f4,g6] at aB;exact ev ag ag
  unfold av.cells;cases aC:f.cU with
  | true=>
   have XP:f.op=2∨f.op=3∨f.op=4:=by unfold av.cU at aC;simp at aC;omega
   rcases XP with h|h|h
   ·rw [h]
    refine bK ?_;refine af.ck [24,23] C I (σ:=Nat) (fun j=>[(25,.int .i64 (j:Int)),(3,.int .i64 (hb (if f.cU then f.arg+1 else 0) (f.kids.take j)))]) (fun _=>[]) (fun j=>j≤f.kids.length) (fun j=>f.kids.length-j) 0 (g9 _) yO ba ?_;rintro j aI I;refine cf ?_;refine af.cond C (fun az=>?_) (fun a7=>?_);rotate_left
    ·have a7:j=f.kids.length:=by simp at a7;omega
     subst a7;rw [af1];refine ew ?_;exact Fin.cE I C (aZ.of_eq (by rw [aC]))
    have az:j<f.kids.length:=by simpa using az
    obtain ⟨k,aA,eF⟩:=b7 (f:=av.cj) az;have hm:=av.h5 (d6 aA);have aD:=aW k ag ag (kl aq.2 (d6 aA));rw [av.cG] at eF aD;refine ft ?_;refine bD.mk (j+1) I az yN ba pr
   ·rw [h]
    refine bK ?_;refine af.ck [24,23] C I (σ:=Nat) (fun j=>[(25,.int .i64 (j:Int)),(3,.int .i64 (hb (if f.cU then f.arg+1 else 0) (f.kids.take j)))]) (fun _=>[]) (fun j=>j≤f.kids.length) (fun j=>f.kids.length-j) 0 (g9 _) yO ba ?_;rintro j aI I;refine cf ?_;refine af.cond C (fun az=>?_) (fun a7=>?_);rotate_left
    ·have a7:j=f.kids.length:=by simp at a7;omega
     subst a7;rw [af1];refine ew ?_;exact Fin.cE I C (aZ.of_eq (by rw [aC]))
    have az:j<f.kids.length:=by simpa using az
    obtain ⟨k,aA,eF⟩:=b7 (f:=av.cj) az;have hm:=av.h5 (d6 aA);have aD:=aW k ag ag (kl aq.2 (d6 aA));rw [av.cG] at eF aD;refine ft ?_;refine bD.mk (j+1) I az yN ba pr
   ·rw [h]
    refine bK ?_;refine af.ck [24,23] C I (σ:=Nat) (fun j=>[(25,.int .i64 (j:Int)),(3,.int .i64 (hb (if f.cU then f.arg+1 else 0) (f.kids.take j)))]) (fun _=>[]) (fun j=>j≤f.kids.length) (fun j=>f.kids.length-j) 0 (g9 _) yO ba ?_;rintro j aI I;refine cf ?_;refine af.cond C (fun az=>?_) (fun a7=>?_);rotate_left
    ·have a7:j=f.kids.length:=by simp at a7;omega
     subst a7;rw [af1];refine ew ?_;exact Fin.cE I C (aZ.of_eq (by rw [aC]))
    have az:j<f.kids.length:=by simpa using az
    obtain ⟨k,aA,eF⟩:=b7 (f:=av.cj) az;have hm:=av.h5 (d6 aA);have aD:=aW k ag ag (kl aq.2 (d6 aA));rw [av.cG] at eF aD;refine ft ?_;refine bD.mk (j+1) I az yN ba pr
  | false=>
   have ad:(f.op==2)=false:=by unfold av.cU at aC;simp at aC ⊢;omega
   have aj:(f.op==3)=false:=by unfold av.cU at aC;simp at aC ⊢;omega
   have a8:(f.op==4)=false:=by unfold av.cU at aC;simp at aC ⊢;omega
   refine dS ?_;refine ae.dh 9 C ad ?_;refine er ?_;refine ae.dh 14 C aj ?_;refine gj ?_;refine af.cond C (fun h=>by rw [a8] at h;cases h) (fun _=>?_);refine jL ?_;refine af.ck [24,23] C I (σ:=Nat) (fun j=>[(25,.int .i64 (j:Int)),(3,.int .i64 (hb (if f.cU then f.arg+1 else 0) (f.kids.take j)))]) (fun _=>[]) (fun j=>j≤f.kids.length) (fun j=>f.kids.length-j) 0 (g9 _) yO ba ?_;rintro j aI I;refine cf ?_;refine af.cond C (fun az=>?_) (fun a7=>?_);rotate_left
   ·have a7:j=f.kids.length:=by simp at a7;omega
    subst a7;rw [af1];refine ew ?_;exact Fin.cE I C (aZ.of_eq (by rw [aC]))
   have az:j<f.kids.length:=by simpa using az
   obtain ⟨k,aA,eF⟩:=b7 (f:=av.cj) az;have hm:=av.h5 (d6 aA);have aD:=aW k ag ag (kl aq.2 (d6 aA));rw [av.cG] at eF aD;refine ft ?_;refine bD.mk (j+1) I az yN ba pr
theorem XQ (w:World):(Instr.typeAssert .nilIface 20 291 true).run d0 w = .ok (.tuple #[.agg #[],.bool false]) w:=by kernel_rfl
theorem XR (w:World):(Instr.typeAssert (.iface 291 (.agg #[])) 20 291 true).run d0 w = .ok (.tuple #[.agg #[],.bool true]) w:=by kernel_rfl
theorem XS (b:Nat) (w:World) :
  CallsD d0 247 #[.pointer (some ⟨b,0,none⟩)] .returning w fun e jY w'=>e = .returned (.tuple #[])∧jY = .returning∧w'=w.alloc (.cells #[] 291):=by
 refine callsD_of_wpS Tryz.func247 C fun xz cs hu=>?_
 apply wpS_seq;apply wpS_region;simp [wpOpsS,go_sem,recoverD,hu,Tryz.ntmps247, Exit.thenS,XQ];refine wpS_of_wp ?_;go_wp2;cases xz;simp_all [bodyPostS,results,Tryz.results247, Exit.thenS]
theorem XT (b:Nat) (w:World) (rest:List PanicEntry) (x:Value) (an:w.heap[b]? = some (.cells #[x] 4 (0,0))) :
  CallsD d0 247 #[.pointer (some ⟨b,0,none⟩)] (.panicking ({ v := .iface 291 (.agg #[]),recovered:=false }::rest)) w
   fun o jY w'=>o = .returned (.tuple #[])∧jY = .panicking ({ v := .iface 291 (.agg #[]),recovered:=true }::rest)∧w'=(w.alloc (.cells #[] 291)).setRow b #[.bool false]:=by
 refine callsD_of_wpS Tryz.func247 C fun xz cs hu=>?_
 apply wpS_seq;apply wpS_region;simp [wpOpsS,go_sem,recoverD,hu,Tryz.ntmps247, Exit.thenS,XR];have dU:=(mv w (.cells #[] 291) b (t8.1 an).1).trans an;have c6:(w.alloc (.cells #[] 291)).cell? ⟨b,0,none⟩=some x:=by rw [jH dU];rfl
 have o4:(w.alloc (.cells #[] 291)).frozen? ⟨b,0,none⟩=false:=by simp [World.frozen?,dU]
 have sv:=LK (x := .bool false) dU;generalize w.alloc (.cells #[] 291)=da at c6 o4 sv ⊢;refine wpS_of_wp ?_;go_wp2;cases xz;simp_all [bodyPostS,results,Tryz.results247, Exit.thenS]
theorem D8 {w:World} {p:bU} {v:Value} {b o:Nat} (h:Rel w p v (.ptr b o)):v = .pointer (some ⟨b,o,none⟩):=by cases h;rfl
theorem XU {w:World} {p:bU} {x:Value} (h:Rel w p x HG):x = .iface 291 (.agg #[]):=by
 cases h with
 | iface _ y _ h=>
 cases h with
 | agg cs xs h=>
 generalize hG:cs.toList=l at h;cases h;have:cs = #[]:=by rw [← ao1 (xs:=cs),hG]
 rw [this]
def XV (p2:ao) (n:Nat) (r:Bool):b3→Env→ao→Prop
 | .ret,env,ak=>env.get? 4=some (.ptr n 0)∧r=true∧∃ M,ak=aU p2 M∧Ok p2 M∧∃ R,bp M (.own n) (.box 4 [.bool true]) R
 | .panic x,env,ak=>env.get? 4=some (.ptr n 0)∧r=false∧x=HG∧∃ M,ak=aU p2 M∧Ok p2 M∧∃ y R,bp M (.own n) (.box 4 [y]) R
 | _,_,_=>False
theorem XW (l6:bz) (hw:fw l6) (l:List cv) (aC:3*l.length+3<bx) (ab:∀ x∈l,tT l6 x):aV d0 211 [gl l6,qc l] (.bool (oJ l6 (ek l))):=by
 intro s;refine ⟨call211, fun w p vs ca eS=>?_⟩;cases eS with
 | cons v0 _ vs _ bo aM=>
 cases aM with
 | cons v1 _ vs _ aa aM=>
 cases aM;unfold s';refine Lf (T:=[{ target := .fn (.func 247) #[.pointer (some ⟨w.heap.size,0,none⟩)],args := #[] }]) Tryz.func211 C ?_;go_wp2;intro b uQ eZ;obtain ⟨aB,hle,aA,D9⟩:=rY ca (.cells #[Value.bool false] 4) (.box 4 [.bool false]) (fun w' aa ad aj=>⟨#[.bool false],aa,aj _ _ (.cons _ _ _ _ (.bool _) .nil),fun o aF=>absurd (ca.lt _ _ aF) ag⟩);refine mq (af.use (N:=10) (env:=[(0,gl l6),(1,qc l),(4,.ptr w.heap.size 0)]) (s:=aU s [(.own w.heap.size,.box 4 [.bool false])]) (Q:=XV s w.heap.size (oJ l6 (ek l))) (B:=(w.heap.size+1,[{ target := .fn (.func 247) #[.pointer (some ⟨w.heap.size,0,none⟩)],args := #[] }])) (p:=p) ?_ (by rw [eZ];rfl) ⟨by simp,fun t v ar=>?_,D9,⟨[],by simp [marksOf],by simp,by simp⟩,fun l aC=>(by rw [uQ] at aC;cases aC),by simp⟩) ?_
 ·have I:Ok s [(.own w.heap.size,.box 4 [.bool false])]:=⟨aB,trivial⟩
  generalize w.heap.size=n at I ⊢;have aK:=Wu l6 hw.ji l aC ab;have NM:=U6 (w:=l6) (l:=l) (fun x h=>⟨(ab x h).node,(ab x h).leaf⟩);refine kG ?_;refine ae.b4 rfl rfl rfl rfl rfl aK I .nil ?_ (fun _ _ ⟨_,h,_⟩ _=>by cases h);rintro _ _ ⟨mb,⟨⟩,es,rfl,cM⟩ I;have b8:vi (3*l.length) (ek l):=⟨fun arg path h=>(NM (bu arg path)).1 (by show 2≤(path.length:Int);omega),cM.mS⟩;have gQ:DT l6 (ek l):=⟨fun q=>(NM q).2⟩;have yT:=WU l6 hw mb (3*l.length) ag (ek l) b8 gQ (E:=[]) (mT (ek l) mb es) ⟨es,rfl,cM⟩;skip;refine ae.b4 C C C C C yT I (aJ.jx (aJ.all _)) ?_ ?_
  ·rintro _ aQ ⟨ai,dv,rfl,jj⟩ I
   cases hm:oJ l6 (ek l) with
   | false=>rw [hm] at ai;cases ai
   | true=>
    have au:=bp.app (mT (ek l) mb dv) (bp.here (L:=[]) (k := .own n) (o := .box 4 [.bool false]));rw [f0] at I;refine ae.mF I [(.own n,.box 4 [.bool false])] (.cons au .nil) (fun I=>?_);refine ct I ?_;intro I;exact ⟨rfl,rfl,_,rfl,I,_,.here⟩
  ·rintro x aQ ⟨ai,dv,rfl,jj⟩ I
   cases hm:oJ l6 (ek l) with
   | true=>rw [hm] at ai;cases ai
   | false=>
    rw [hm] at ai;cases ai;exact ⟨rfl,rfl,rfl,_,rfl,I,_,_,bp.app _ .here⟩
 ·simp only [Env.get?] at ar
  split at ar
  ·rename_i e;cases ar;obtain rfl:=ad' e
   exact bo.mono hle
  split at ar
  ·rename_i e;cases ar;obtain rfl:=ad' e
   exact aa.mono hle
  split at ar
  ·rename_i e;cases ar;obtain rfl:=ad' e
   simp [ag1];exact .ptr _ 0
  ·cases ar
 ·rintro e c1 w' ⟨x,eU,ak,bh,ch,bn,hR,z',eF⟩
  obtain ⟨b',tv,ez,dk⟩:=hR.defs;obtain ⟨b6,bW,eN,m2⟩:=FU b' w' hR.wf (fun d ay=>⟨_,(dk d ay).2.1⟩);have bM:de w p (hy w' b') bh:=(hle.trans z').trans b6;have uR:=aA.trans hle.size eF;have bk:Kept s s w p (hy w' b') bh:=⟨fun aY dU gL=>(eN aY (fun hm=>by have:=(dk aY hm).1;simp only at this;omega)).trans (uR.heap aY dU gL),fun _ _ h=>h,uR.lo⟩;have df:=uB bW.lt (.cells #[] 291) True;have a2:=Ct (s:=s) (w:=hy w' b') (p:=bh) (.cells #[] 291) True;cases ch with
  | exit id=>exact bn.elim
  | normal=>exact bn.elim
  | ret=>
   obtain ⟨a8,aE,M,rfl,iQ,R,oN⟩:=bn;have xA:=bW.sub iQ.sub;obtain ⟨cq,mP,kd,Bz⟩:=bW.obj _ _ (oN.get iQ);have HZ:cq = #[.bool true]:=by
    generalize aC:cq.toList=CR at kd;cases kd with
    | cons v _ vs _ ar aM=>
    cases aM;cases ar;rw [← ao1 (xs:=cq),aC]
   subst HZ;have az:w.heap.size<(hy w' b').heap.size:=(t8.1 mP).1;have BA:=(mv (hy w' b') (.cells #[] 291) w.heap.size az).trans mP;have jF:((hy w' b').alloc (.cells #[] 291)).cell? ⟨w.heap.size,0,none⟩=some (.bool true):=by rw [jH BA];rfl
   refine ⟨b',tv,ez,fun d ay=>(dk d ay).2.1,?_⟩;refine leaves_cons (f := 247) (args := #[.pointer (some ⟨w.heap.size,0,none⟩)]) bc (by simp [go_sem]) ?_;refine (XS w.heap.size _).mono ?_;rintro e jY mr ⟨rfl,rfl,rfl⟩;have xB:c1.tmps[4]?.getD undef = .pointer (some ⟨w.heap.size,0,none⟩):=by
    have:=hR.env 4 _ a8;rw [ag1] at this;exact D8 this
   refine ⟨.bool true,by simp [results,Tryz.results211, go_sem,jF,xB],by simp,.ret (.bool true),s,_,.bool _,⟨by rw [aE],rfl⟩,bM.trans df,bk.trans bM.size a2,zG xA _ True⟩
  | panic v x dx kW ar=>
   obtain ⟨a8,aE,rfl,M,rfl,iQ,y,R,oN⟩:=bn;obtain ⟨rest,rfl,H0⟩:=kW;obtain rfl:=XU ar;have xA:=bW.sub iQ.sub;obtain ⟨cq,mP,kd,Bz⟩:=bW.obj _ _ (oN.get iQ);obtain ⟨bv,rfl⟩:∃ bv,cq = #[bv]:=by
    generalize aC:cq.toList=CR at kd;cases kd with
    | cons v _ vs _ ar aM=>
    cases aM;exact ⟨v,by rw [← ao1 (xs:=cq),aC]⟩
   have az:w.heap.size<(hy w' b').heap.size:=(t8.1 mP).1;have BA:=(mv (hy w' b') (.cells #[] 291) w.heap.size az).trans mP;have xB:c1.tmps[4]?.getD undef = .pointer (some ⟨w.heap.size,0,none⟩):=by
    have:=hR.env 4 _ a8;rw [ag1] at this;exact D8 this
   obtain ⟨ea,dr,dG,m4,tt⟩:=LJ (bM.trans df) (bk.trans bM.size a2) (zG xA _ True) BA (g7 _) (fun o aF=>by
    rcases aF with aF|⟨e,-⟩
    ·exact Bz o aF
    ·omega) aB (.bool false)
   have jF:(((hy w' b').alloc (.cells #[] 291)).setRow w.heap.size #[.bool false]).cell? ⟨w.heap.size,0,none⟩=some (.bool false):=by rw [jH tt];rfl
   refine ⟨b',tv,ez,fun d ay=>(dk d ay).2.1,?_⟩;refine leaves_cons (f := 247) (args := #[.pointer (some ⟨w.heap.size,0,none⟩)]) bc (by simp [go_sem]) ?_;refine (XT w.heap.size _ rest bv mP).mono ?_;rintro e jY mr ⟨rfl,rfl,rfl⟩;have H2:=GO H0;simp only [settle,H2];refine ⟨.bool false,by simp [results,Tryz.results211, go_sem,jF,xB],by simp,.ret (.bool false),s,_,.bool _,⟨by rw [aE],rfl⟩,ea,dr,dG⟩
theorem XX {w:World} {p:bU} {x:Value} (h:Rel w p x tZ):x = .iface 298 (.agg #[]):=by
 cases h with
 | iface _ y _ h=>
 cases h with
 | agg cs xs h=>
 generalize hG:cs.toList=l at h;cases h;have:cs = #[]:=by rw [← ao1 (xs:=cs),hG]
 rw [this]
theorem XY (w:World):(Instr.typeAssert (.iface 298 (.agg #[])) 20 298 true).run d0 w = .ok (.tuple #[.agg #[],.bool true]) w:=by kernel_rfl
theorem XZ (w:World):(binOp BinOp.neq 20 (.iface 298 (.agg #[])) .nilIface).run d0 w = .ok (.bool true) w:=by kernel_rfl
theorem X0 (x y:Operand) (w:World):(eqGuard BinOp.neq 20 x y (.iface 298 (.agg #[])) .nilIface).run d0 w = .ok () w:=by
 unfold eqGuard;simp
theorem X1 (b:Nat) (w:World) :
  CallsD d0 253 #[.pointer (some ⟨b,0,none⟩)] .returning w fun e jY w'=>e = .returned (.tuple #[])∧jY = .returning∧w'=w:=by
 refine callsD_of_wpS Tryz.func253 C fun xz cs hu=>?_
 apply wpS_seq;apply wpS_region;simp [wpOpsS,go_sem,recoverD,hu,Tryz.ntmps253, Exit.thenS];refine wpS_of_wp ?_;go_wp2;cases xz;simp_all [bodyPostS,results,Tryz.results253, Exit.thenS]
theorem X2 (b:Nat) (w:World) (rest:List PanicEntry) (x:Value) (an:w.heap[b]? = some (.cells #[x] 4 (0,0))) :
  CallsD d0 253 #[.pointer (some ⟨b,0,none⟩)] (.panicking ({ v := .iface 298 (.agg #[]),recovered:=false }::rest)) w
   fun o jY w'=>o = .returned (.tuple #[])∧jY = .panicking ({ v := .iface 298 (.agg #[]),recovered:=true }::rest)∧w'=(w.alloc (.cells #[] 298)).setRow b #[.bool false]:=by
 refine callsD_of_wpS Tryz.func253 C fun xz cs hu=>?_
 apply wpS_seq;apply wpS_region;simp [wpOpsS,go_sem,recoverD,hu,Tryz.ntmps253, Exit.thenS];apply wpS_seq;apply wpS_region;simp [wpOpsS,go_sem,Exit.thenS,X0,XZ];refine wpS_cond (t:=true) (by simp [Act.eval,Act.put]) ?_;simp only [ag5]
 repeat apply wpS_seq
 apply wpS_region;simp [wpOpsS,go_sem,Exit.thenS,XY];have dU:=(mv w (.cells #[] 298) b (t8.1 an).1).trans an;have c6:(w.alloc (.cells #[] 298)).cell? ⟨b,0,none⟩=some x:=by rw [jH dU];rfl
 have o4:(w.alloc (.cells #[] 298)).frozen? ⟨b,0,none⟩=false:=by simp [World.frozen?,dU]
 have sv:=LK (x := .bool false) dU;generalize w.alloc (.cells #[] 298)=da at c6 o4 sv ⊢
 repeat apply wpS_seq
 apply wpS_region;simp [wpOpsS,go_sem,Exit.thenS];refine wpS_of_wp ?_;go_wp2;cases xz;simp_all [bodyPostS,results,Tryz.results253, Exit.thenS];refine wpS_of_wp ?_;go_wp2;simp_all [bodyPostS,results,Tryz.results253, Exit.thenS]
def X3 (p2:ao) (n:Nat) (G B:bb→Prop):b3→Env→ao→Prop
 | .ret,env,ak=>env.get? 2=some (.ptr n 0)∧∃ M,ak=aU p2 M∧Ok p2 M∧∃ K,G K∧bp M (.own n) (.box 4 [.bool true]) K
 | .panic x,env,ak=>env.get? 2=some (.ptr n 0)∧x=tZ∧∃ M,ak=aU p2 M∧Ok p2 M∧∃ y K,B K∧bp M (.own n) (.box 4 [y]) K
 | _,_,_=>False
theorem X4 (f:FuncId) (first cap:List ah) (nh:bb) (G B:bb→Prop) (h:ds d0 (.func f first cap) [] nh (fun o K=>(o = .ret (.cr [])∧G K)∨(o = .panic tZ∧B K))) :
  bI d0 220 [.func f first cap] nh (fun o K=>(o = .ret (.bool true)∧G K)∨(o = .ret (.bool false)∧B K)):=by
 intro s X5;refine ⟨call220, fun w p vs ca eS=>?_⟩;cases eS with
 | cons v0 _ vs _ bo aM=>
 cases aM;unfold s';refine Lf (T:=[{ target := .fn (.func 253) #[.pointer (some ⟨w.heap.size,0,none⟩)],args := #[] }]) Tryz.func220 C ?_;go_wp2;intro b uQ eZ;obtain ⟨aB,hle,aA,D9⟩:=rY ca (.cells #[Value.bool false] 4) (.box 4 [.bool false]) (fun w' aa ad aj=>⟨#[.bool false],aa,aj _ _ (.cons _ _ _ _ (.bool _) .nil),fun o aF=>absurd (ca.lt _ _ aF) ag⟩);have I:Ok s ((.own w.heap.size,.box 4 [.bool false])::nh):=⟨aB,X5⟩;refine mq (af.use (N:=6) (env:=[(0,.func f first cap),(2,.ptr w.heap.size 0)]) (s:=aU s ((.own w.heap.size,.box 4 [.bool false])::nh)) (Q:=X3 s w.heap.size G B) (B:=(w.heap.size+1,[{ target := .fn (.func 253) #[.pointer (some ⟨w.heap.size,0,none⟩)],args := #[] }])) (p:=p) ?_ (by rw [eZ];rfl) ⟨by simp,fun t v ar=>?_,D9,⟨[],by simp [marksOf],by simp,by simp⟩,fun l aC=>(by rw [uQ] at aC;cases aC),by simp⟩) ?_
 ·clear aA D9 aB
  generalize w.heap.size=n at I ⊢;refine kG ?_;refine ae.gM C C C C C C h I (aJ.there (e:=(.own n,.box 4 [.bool false])) (aJ.all nh)) ?_ ?_
  ·rintro _ aQ (⟨⟨⟩,dj⟩|⟨h,_⟩) I
   ·have au:=bp.app aQ (bp.here (L:=[]) (k := .own n) (o := .box 4 [.bool false]))
    rw [d9] at au;refine ct I ?_;intro I;exact ⟨rfl,_,rfl,I,aQ,dj,.here⟩
   ·cases h
  ·rintro x aQ (⟨h,_⟩|⟨⟨⟩,cM⟩) I
   ·cases h
   exact ⟨rfl,rfl,_,rfl,I,_,aQ,cM,by have:=bp.app aQ (bp.here (L:=[]) (k := .own n) (o := .box 4 [.bool false]));rw [d9] at this;exact this⟩
 ·simp only [Env.get?] at ar
  split at ar
  ·rename_i e;cases ar;obtain rfl:=ad' e
   exact bo.mono hle
  split at ar
  ·rename_i e;cases ar;obtain rfl:=ad' e
   simp [ag1];exact .ptr _ 0
  ·cases ar
 ·rintro e c1 w' ⟨x,eU,ak,bh,ch,bn,hR,z',eF⟩
  obtain ⟨b',tv,ez,dk⟩:=hR.defs;obtain ⟨b6,bW,eN,m2⟩:=FU b' w' hR.wf (fun d ay=>⟨_,(dk d ay).2.1⟩);have bM:de w p (hy w' b') bh:=(hle.trans z').trans b6;have uR:=aA.trans hle.size eF;have bk:∀ aQ,ao.Sub (aU s aQ) ak→Kept (aU s nh) (aU s aQ) w p (hy w' b') bh:=fun aQ fR=>⟨fun aY dU gL=>(eN aY (fun hm=>by have:=(dk aY hm).1;simp only at this;omega)).trans (uR.heap aY dU gL),fun b an h=>fR.none (uR.kV b an h),uR.lo⟩
  cases ch with
  | exit id=>exact bn.elim
  | normal=>exact bn.elim
  | ret=>
   obtain ⟨a8,M,rfl,iQ,aQ,dj,oN⟩:=bn;obtain ⟨k9,gP⟩:=oN.perm iQ;have fR:ao.Sub (aU s aQ) (aU s M):=by rw [k9];exact yo (k := .own w.heap.size) K3 gP.1
   have xA:=bW.sub fR;obtain ⟨cq,mP,kd,Bz⟩:=bW.obj _ _ (oN.get iQ);have HZ:cq = #[.bool true]:=by
    generalize aC:cq.toList=CR at kd;cases kd with
    | cons v _ vs _ ar aM=>
    cases aM;cases ar;rw [← ao1 (xs:=cq),aC]
   subst HZ;have jF:(hy w' b').cell? ⟨w.heap.size,0,none⟩=some (.bool true):=by rw [jH mP];rfl
   refine ⟨b',tv,ez,fun d ay=>(dk d ay).2.1,?_⟩;refine leaves_cons (f := 253) (args := #[.pointer (some ⟨w.heap.size,0,none⟩)]) bc (by simp [go_sem]) ?_;refine (X1 w.heap.size _).mono ?_;rintro e jY mr ⟨rfl,rfl,rfl⟩;have xB:c1.tmps[2]?.getD undef = .pointer (some ⟨w.heap.size,0,none⟩):=by
    have:=hR.env 2 _ a8;rw [ag1] at this;exact D8 this
   exact ⟨.bool true,by simp [results,Tryz.results220, go_sem,jF,xB],by simp,.ret (.bool true),aU s aQ,_,.bool _,⟨aQ,rfl,gP.2,.inl ⟨rfl,dj⟩⟩,bM,bk aQ fR,xA⟩
  | panic v x dx kW ar=>
   obtain ⟨a8,rfl,M,rfl,iQ,y,aQ,cM,oN⟩:=bn;obtain ⟨rest,rfl,H0⟩:=kW;obtain rfl:=XX ar;obtain ⟨k9,gP⟩:=oN.perm iQ;have fR:ao.Sub (aU s aQ) (aU s M):=by rw [k9];exact yo (k := .own w.heap.size) K3 gP.1
   have xA:=bW.sub fR;have df:=uB bW.lt (.cells #[] 298) True;have a2:=Ct (s:=aU s aQ) (w:=hy w' b') (p:=bh) (.cells #[] 298) True;obtain ⟨cq,mP,kd,Bz⟩:=bW.obj _ _ (oN.get iQ);obtain ⟨bv,rfl⟩:∃ bv,cq = #[bv]:=by
    generalize aC:cq.toList=CR at kd;cases kd with
    | cons v _ vs _ ar aM=>
    cases aM;exact ⟨v,by rw [← ao1 (xs:=cq),aC]⟩
   have az:w.heap.size<(hy w' b').heap.size:=(t8.1 mP).1;have BA:=(mv (hy w' b') (.cells #[] 298) w.heap.size az).trans mP;have xB:c1.tmps[2]?.getD undef = .pointer (some ⟨w.heap.size,0,none⟩):=by
    have:=hR.env 2 _ a8;rw [ag1] at this;exact D8 this
   obtain ⟨ea,dr,dG,m4,tt⟩:=LJ (bM.trans df) ((bk aQ fR).trans bM.size a2) (zG xA _ True) BA (g7 _) (fun o aF=>by
    rcases aF with aF|⟨e,-⟩
    ·exact Bz o aF
    ·omega) gP.1 (.bool false)
   have jF:(((hy w' b').alloc (.cells #[] 298)).setRow w.heap.size #[.bool false]).cell? ⟨w.heap.size,0,none⟩=some (.bool false):=by rw [jH tt];rfl
   refine ⟨b',tv,ez,fun d ay=>(dk d ay).2.1,?_⟩;refine leaves_cons (f := 253) (args := #[.pointer (some ⟨w.heap.size,0,none⟩)]) bc (by simp [go_sem]) ?_;refine (X2 w.heap.size _ rest bv mP).mono ?_;rintro e jY mr ⟨rfl,rfl,rfl⟩;have H2:=GO H0;simp only [settle,H2];exact ⟨.bool false,by simp [results,Tryz.results220, go_sem,jF,xB],by simp,.ret (.bool false),aU s aQ,_,.bool _,⟨aQ,rfl,gP.2,.inr ⟨rfl,cM⟩⟩,ea,dr,dG⟩
end Go.Proofs.YtnafpeohfbglmaaGreat
