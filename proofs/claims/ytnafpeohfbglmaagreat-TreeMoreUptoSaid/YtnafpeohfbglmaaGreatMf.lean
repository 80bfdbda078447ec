import Derived.Test.YtnafpeohfbglmaaGreatMe
import Derived.Shelf.Sort.Plain
import Derived.KernelRfl
set_option linter.unusedVariables false
set_option linter.unusedSimpArgs false
set_option maxRecDepth 100000
set_option maxHeartbeats 4000000
open Array renaming getElem?_eq_some_iff→i8,length_toList→ac6
open Bool renaming and_eq_true→f6,and_false→ai5,eq_false_iff→ae9,eq_iff_iff→ad1,false_and→f7,false_eq_true→ad5,false_or→af1,not_false→ah3,not_true→ah7,or_eq_false_iff→ai2,or_true→ao9,true_and→f4,true_or→al7
open Int renaming le_refl→aj4,toNat_natCast→ac3
open Go.IntKind renaming wrap→aa'
open List renaming Perm→aj5,all_eq_false→au2,all_eq_true→ae',any_eq_false→ah',any_eq_true→ae4,append_assoc→ae6,append_nil→d8,append_of_mem→ar5,cons_append→t8,contains_append→al2,contains_cons→ap7,contains_iff_mem→af8,drop_eq_getElem_cons→ao3,drop_zero→aj',ext_getElem?→ao0,filter_cons→ai8,find?_eq_none→at9,find?_some→av1,findIdx?_append→aw1,findIdx?_eq_none_iff→ag8,findIdx?_eq_some_iff_getElem→af2,flatMap_append→at2,flatMap_cons→ah4,flatten_cons→aq0,foldl_append→an',foldl_cons→af0,getD_eq_getElem?_getD→d5,getElem?_append_left→ad3,getElem?_append_right→ad6,getElem?_eq_getElem→f8,getElem?_eq_none→aj9,getElem?_eq_some_iff→ac1,getElem?_map→ad7,getElem?_of_mem→ag7,getElem?_set_self→al6,getElem?_set→ar',getElem?_take→af',getElem_mem→ak3,isEmpty_iff_length_eq_zero→as3,length_append→d9,length_cons→i7,length_drop→ag1,length_eq_zero_iff→av0,length_map→f5,length_mergeSort→aq4,length_nil→ae1,length_replicate→ad',length_set→ae0,length_singleton→ac8,length_take→ac9,map_append→ac2,map_cons→ac0,map_set→an1,mem_append_left→ai0,mem_append_right→an6,mem_append→ac7,mem_cons_of_mem→g7,mem_cons_self→i5,mem_cons→ad4,mem_filter→af4,mem_map→ad2,mem_of_find?_eq_some→ar0,mem_of_getElem?→d6,mem_or_eq_of_mem_set→am1,mem_range→ah6,mem_singleton→t7,nil_append→d7,nodup_append→am7,perm_append_comm_assoc→at7,perm_append_comm→aq2,perm_cons→az0,perm_middle→al0,range_succ→an5,range→af7,replicate_succ'→am6,replicate→t6,set_append_left→av',set_append_right→ai',set_set→au7,take_append_drop→ag4,take_append_of_le_length→ag2,take_left'→an7,take_length→ac',take_of_length_le→ae8,take_zero→aj8
open Nat renaming add_comm→ao7,add_sub_cancel_left→ao',beq→ad0,blt→i9,eq_of_beq_eq_true→ab',le_refl→i0,le_succ→ax7,lt_of_lt_of_le→ai3,lt_or_ge→ao6,lt_succ_iff_lt_or_eq→af3,min_eq_left→ak1,mul_le_mul_right→ak2,mul_one→ah2,not_lt_zero→an4,or_lt_two_pow→ag',pow_le_pow_right→af6,pow_lt_pow_right→ag6,sub_self→ao5,succ_mul→au4,testBit_lt_two_pow→ak6,zero_add→ad8,zero_le→g9
open Option renaming bind_none→ag0,bind_some→ah0,getD_some→ae7,some→am2
open Go.Result renaming andThen_ok→g6
open Go.Sem renaming run_bind→z2,run_pure→ac4
open Go.Proofs.Tryz renaming prog→d0
namespace Go.Proofs.YtnafpeohfbglmaaGreat
theorem L8 {p:Prop} (h:p:=by repeat (first|exact trivial|refine ⟨⟨_,rfl,aM⟩,?_⟩|refine ⟨⟨_,rfl,aR.of_eq (by (rw [kV (by omega)];rfl))⟩,?_⟩)):p:=h
theorem CQ {p:Prop} (h:p:=by repeat (first|exact trivial|refine ⟨⟨_,rfl,aM⟩,?_⟩|refine ⟨⟨_,rfl,aR.of_eq (by (rw [ky]))⟩,?_⟩)):p:=h
theorem CR {p:Prop} (h:p:=by repeat (first|exact aH.all _|(apply aH.cons;· repeat (first|exact bl.here|apply bl.there)))):p:=h
theorem Gu {p:Prop} (h:p:=by show (σ (bq arg path)).bj.length-(j+1)<(σ (bq arg path)).bj.length-j;omega):p:=h
theorem Gv {p:Prop} (h:p:=by rw [List.take_left' (by simp),List.all_map];simp [Function.comp_def,bb,e4]):p:=h
theorem Gw {p:Prop} (h:p:=by show eb.parents.length-(k+1)<eb.parents.length-k;omega):p:=h
theorem px {p:Prop} (h:p:=by show x.kids.length-(j+1)<x.kids.length-j;omega):p:=h
theorem m9 {p:Prop} (h:p:=by rw [List.length_map];omega):p:=h
theorem ry {p:Prop} (h:p:=by simpa using aA):p:=h
theorem uc {p:Prop} (h:p:=by simpa using c9):p:=h
open Go.Shelf Go.Sort Go.Proofs
def Vi:Go.Shelf.Ren:=⟨fun|189=>276|125=>290|257=>289|128=>303|129=>304|294=>294|295=>295|296=>296|297=>297|298=>298|299=>299|216=>300|300=>301|301=>302|328=>309|329=>310|330=>311|331=>312|332=>313|215=>314|343=>317|n=>n,fun|28=>23|3=>3|46=>303|0=>0|51=>329|53=>104|4=>4|183=>356|182=>355|131=>164|5=>5|9=>9|218=>363|222=>251|228=>368|229=>126|n=>n,fun n=>n⟩
theorem Vj:Lays.n189 d0 Vi where
 mixed:=by kernel_rfl
 f125 := Tryz.func290.trans (ac5 some fA)
 f128 := Tryz.func303.trans (ac5 some fA)
 f129 := Tryz.func304.trans (ac5 some fA)
 f189 := Tryz.func276.trans (ac5 some fA)
 f215 := Tryz.func314.trans (ac5 some fA)
 f216 := Tryz.func300.trans (ac5 some fA)
 f257 := Tryz.func289.trans (ac5 some fA)
 f294 := Tryz.func294.trans (ac5 some fA)
 f295 := Tryz.func295.trans (ac5 some fA)
 f296 := Tryz.func296.trans (ac5 some fA)
 f297 := Tryz.func297.trans (ac5 some fA)
 f298 := Tryz.func298.trans (ac5 some fA)
 f299 := Tryz.func299.trans (ac5 some fA)
 f300 := Tryz.func301.trans (ac5 some fA)
 f301 := Tryz.func302.trans (ac5 some fA)
 f328 := Tryz.func309.trans (ac5 some fA)
 f329 := Tryz.func310.trans (ac5 some fA)
 f330 := Tryz.func311.trans (ac5 some fA)
 f331 := Tryz.func312.trans (ac5 some fA)
 f332 := Tryz.func313.trans (ac5 some fA)
 f343 := Tryz.func317.trans (ac5 some fA)
 t0 := Tryz.underlying0
 a0 := Tryz.isAgg0
 z0 := Tryz.sizeOf0
 v0 := Tryz.zeroValue0
 t3 := Tryz.underlying3
 a3 := Tryz.isAgg3
 z3 := Tryz.sizeOf3
 v3 := Tryz.zeroValue3
 t4 := Tryz.underlying4
 a4 := Tryz.isAgg4
 z4 := Tryz.sizeOf4
 v4 := Tryz.zeroValue4
 t5 := Tryz.underlying5
 a5 := Tryz.isAgg5
 z5 := Tryz.sizeOf5
 v5 := Tryz.zeroValue5
 t9 := Tryz.underlying9
 a9 := Tryz.isAgg9
 z9 := Tryz.sizeOf9
 v9 := Tryz.zeroValue9
 t28 := Tryz.underlying23
 a28 := Tryz.isAgg23
 z28 := Tryz.sizeOf23
 v28 := Tryz.zeroValue23
 t46 := Tryz.underlying303
 a46 := Tryz.isAgg303
 z46 := Tryz.sizeOf303
 v46 := Tryz.zeroValue303
 t51 := Tryz.underlying329
 a51 := Tryz.isAgg329
 z51 := Tryz.sizeOf329
 v51 := Tryz.zeroValue329
 t53 := Tryz.underlying104
 a53 := Tryz.isAgg104
 z53 := Tryz.sizeOf104
 v53 := Tryz.zeroValue104
 t131 := Tryz.underlying164
 a131 := Tryz.isAgg164
 z131 := Tryz.sizeOf164
 v131 := Tryz.zeroValue164
 t182 := Tryz.underlying355
 a182 := Tryz.isAgg355
 z182 := Tryz.sizeOf355
 v182 := Tryz.zeroValue355
 t183 := Tryz.underlying356
 a183 := Tryz.isAgg356
 z183 := Tryz.sizeOf356
 v183 := Tryz.zeroValue356
 t218 := Tryz.underlying363
 a218 := Tryz.isAgg363
 z218 := Tryz.sizeOf363
 v218 := Tryz.zeroValue363
 t222 := Tryz.underlying251
 a222 := Tryz.isAgg251
 z222 := Tryz.sizeOf251
 v222 := Tryz.zeroValue251
 t228 := Tryz.underlying368
 a228 := Tryz.isAgg368
 z228 := Tryz.sizeOf368
 v228 := Tryz.zeroValue368
 t229 := Tryz.underlying126
 a229 := Tryz.isAgg126
 z229 := Tryz.sizeOf126
 v229 := Tryz.zeroValue126
theorem Vk (q6 off cap:Nat) (aV:List Int) (w:World) (Fi:Holds (Value.int .i64) w q6 off aV.toArray) (Vl:q6<w.heap.size) (b':aV.length<4611686018427387904) :
  Calls d0 276 #[.slice (some ⟨q6,off,none⟩) aV.length cap] w fun e w'=>
   e = .returned (.tuple #[])∧∃ n os,w'=grow (putRow (Value.int .i64) (Sort.ahead w n) q6 off (aV.mergeSort fun x y=>decide (x≤y)).toArray) os:=
 Any.slices_Sort_int Vj q6 off cap aV w Fi Vl b'
theorem Vm (w:World) (p:bO) (v:Value) (a:Int) (h:Rel w p v (.int .i64 a)):v = .int .i64 a:=by cases h;rfl
theorem Gx (b cap:Nat) (l:List Int) (rest:List af) (aB:l.length<4611686018427387904) :
  bz d0 276 [ea b l.length cap] [(.own b,.box 3 (l.map bb++rest))] (fun o K=>o = .ret (.cg [])∧K=[(.own b,.box 3 ((l.mergeSort fun x y=>decide (x≤y)).map bb++rest))]):=
 bz.sort (α:=Int) (enc:=Value.int .i64) (encA:=bb) (le:=fun x y=>decide (x≤y)) call276 Vm (fun w p a => .int _ _) Vk b cap l rest aB
theorem bl.L9 {L:a6} {k:bN} {o:ds} {a b:a6} (h:L=a++(k,o)::b):bl L k o (a++b):=by
 subst h;exact bl.app a .here
theorem aH.h9:∀ {K L:a6},L.Perm K→aH L K []
  | [],L,h=>by
    have:L=[]:=h.eq_nil;subst this;exact .nil
  | (k,o)::K,L,h=>by
    obtain ⟨a,b,ir⟩:=ar5 (h.symm.subset i5);refine .cons (bl.L9 ir) (aH.h9 ?_);rw [ir] at h;exact (az0 _).1 (al0.symm.trans h)
theorem L' (s:ak) (L:a6):∀ (rz:a6),(∀ x∈rz,x.1 = .nil)→aQ s (rz++L)=aQ s L∧(Ok s L→Ok s (rz++L))
  | [],_=>⟨rfl,id⟩
  | (k,o)::rz,h=>by
    have aD:k = .nil:=h (k,o) i5;subst aD;obtain ⟨U,ad⟩:=L' s L rz fun x ab=>h x (g7 _ ab)
    exact ⟨U,fun I=>⟨trivial,ad I⟩⟩
theorem bz.frame {P:Program} {f:FuncId} {args:List af} {K L R:a6} {ace D:eo→a6→Prop} (h:bz P f args K ace) (ao:aH L K R) (fO:∀ o aN,ace o aN→∃ rz M,(∀ x∈rz,x.1 = .nil)∧(rz++(aN++R)).Perm M∧D o M):bz P f args L D:=
 fun s I=>(h.at I ao).mono fun o ai ⟨Tc,e,xz,aN,FU,FV⟩=>by
  subst FU;obtain ⟨rz,M,Vn,aE,e5⟩:=fO o aN FV;obtain ⟨kB,CO⟩:=L' s (aN++R) rz Vn;obtain ⟨U,ad⟩:=(aH.h9 aE).perm (CO xz);rw [d8] at U ad;exact ⟨M,e.trans (kB.symm.trans U),ad,e5⟩
abbrev qt:=Option (Nat×Nat×List af)
def kF:qt→List Int→af
 | none,_ => .ay 0 [] .nil
 | some (g,cap,_),l=>ea g l.length cap
def ju:qt→List Int→a6
 | none,_=>[]
 | some (g,_,dN),l=>[(.own g,.box 3 (l.map bb++dN))]
def rA:qt→List Int→Prop
 | none,l=>l=[]
 | some (_,cap,dN),l=>l.length+dN.length=cap
structure fF where
 sp:List Int
 b:Nat
 on:bN
 bx:qt
def iv (σ:dJ) (e:fF):a6:=oG e.b (σ e.sp) e.on (kF e.bx (σ e.sp).bj)++ju e.bx (σ e.sp).bj
def mD (es:List fF):SMap:=es.map fun e=>(e.sp,.ptr e.b 0)
def lz (σ:dJ) (mb:Nat) (es:List fF):a6:=qs mb (mD es)::es.flatMap (iv σ)
structure l2 (n:Nat) (k:de):Prop where
 fE:k.fE<2^64
 no:k.no<2^64
 eY:k.eY.length≤n
 bj:k.bj.length≤n
 num : -1000000000≤k.low∧k.low≤1000000000 ∧ -1000000001≤k.high∧k.high≤1000000000
structure oH (n:Nat) (σ:dJ) (es:List fF):Prop where
 four:∀ e∈es,e.sp.length=4
 nodup:(es.map fF.sp).Nodup
 rest:∀ q,q∉es.map fF.sp→σ q=iH
 bx:∀ e∈es,rA e.bx (σ e.sp).bj
 l3:∀ q,l2 n (σ q)
theorem Vo {es:List fF} {sp:List Int}:(mD es).find? (fun e=>e.1==sp)=none↔sp∉es.map fF.sp:=by
 unfold mD;rw [at9];constructor
 ·intro h hm
  obtain ⟨e,he,rfl⟩:=ad2.1 hm;have:=h _ (ad2.2 ⟨e,he,rfl⟩);simp at this
 ·intro h x ab
  obtain ⟨e,he,rfl⟩:=ad2.1 ab;simp only [aj1];intro bR;exact h (ad2.2 ⟨e,he,bR⟩)
theorem Vp {es:List fF} {sp:List Int} {x:List Int×af} (h:(mD es).find? (fun e=>e.1==sp)=some x):∃ e∈es,e.sp=sp∧x=(e.sp,.ptr e.b 0):=by
 unfold mD at h;have U:=ar0 h;have ad:=av1 h;obtain ⟨e,he,rfl⟩:=ad2.1 U;exact ⟨e,he,by simpa using ad,rfl⟩
theorem Vq (n:Nat):l2 n iH:=⟨by decide,by decide,by simp [iH],by simp [iH],by simp [iH]⟩
theorem Ma (w:bw) (mb n:Nat) (σ:dJ) (es:List fF) (cB:oH n σ es) (hz dV dg dB:Int) :
    bz d0 280 [hT w mb,iu [hz,dV,dg,dB]] (lz σ mb es) (fun o K=>∃ pre e post,e.sp=[hz,dV,dg,dB]∧o = .ret (.ptr e.b 0)∧K=lz σ mb (pre++e::post)∧oH n σ (pre++e::post)):=by
  have h:=L4 (.ay 1 [] .nil) (.ay 0 [] .nil) (aR.nil hh) aM w mb (mD es) (fun e he=>by
    unfold mD at he
    obtain ⟨x,ab,rfl⟩:=ad2.1 he
    exact cB.four x ab) hz dV dg dB
  refine bz.frame h (R:=es.flatMap (iv σ)) (.cons .here .nil) ?_;rintro o aN (⟨x,ab,rfl,rfl⟩|⟨a1,b,rfl,rfl⟩)
  · obtain ⟨e,he,U,rfl⟩:=Vp ab
    obtain ⟨pre,post,rfl⟩:=ar5 he;exact ⟨[],_,by simp,aj5.refl _,pre,e,post,U,rfl,rfl,cB⟩
  · have mK:=Vo.1 a1
    have z1:=cB.rest _ mK;refine ⟨[(.nil,.row 3 1 0)],lz σ mb (es++[⟨[hz,dV,dg,dB],b,.nil,none⟩]),by simp,?_,es,⟨[hz,dV,dg,dB],b,.nil,none⟩,[],rfl,rfl,rfl,?_⟩
    · have b7:iv σ ⟨[hz,dV,dg,dB],b,.nil,none⟩=[(.own b,.box 340 L3),(.nil,.row 3 1 0)]:=by
        unfold iv;rw [z1];rfl
      unfold lz;rw [at2,List.flatMap_singleton,b7];have bR:mD (es++[⟨[hz,dV,dg,dB],b,.nil,none⟩])=mD es++[([hz,dV,dg,dB],.ptr b 0)]:=by unfold mD;rw [ac2];rfl
      rw [bR];refine (aj5.swap _ _ _).trans (aj5.cons _ ((aj5.swap _ _ _).trans ?_));exact aq2 (l₁:=[(.own b,.box 340 L3),(.nil,.row 3 1 0)]) (l₂:=es.flatMap (iv σ))
    · refine ⟨fun e he=>?_,?_,fun q bp=>cB.rest q (fun hm=>bp (by rw [ac2];exact ai0 _ hm)),fun e he=>?_,cB.l3⟩
      · rcases ac7.1 he with he|he
        · exact cB.four e he
        · rw [t7] at he;subst he;rfl
      · rw [ac2,am7]
        refine ⟨cB.nodup,by simp,fun a a8 b an=>?_⟩;rw [List.map_singleton,t7] at an;subst an;intro e;subst e;exact mK a8
      · rcases ac7.1 he with he|he
        · exact cB.bx e he
        · rw [t7] at he;subst he
          show (σ _).bj=[];rw [z1];rfl
theorem Vr (_u:Unit):aU d0 304 [.int .u64 0] (.int .i64 0):=by
 have an:=bC;refine aU.bn aj Tryz.func304 C C fun s I=>?_
 refine bG ?_;refine aa.y3 aj 0 C C C C C C C C dE C ?_;refine bG ?_;exact bA I
theorem Vs (_u:Unit):aU d0 290 [.int .u64 0] (.int .i64 0):=by
 have an:=bC;refine aU.bn aj Tryz.func290 C C fun s I=>?_
 have U:=Vr ();refine cD ?_;exact bA I
theorem Vt (_u:Unit):aU d0 294 [.ay 0 [] .nil,.int .i64 0,.int .i64 0] (.cg []):=by
 have an:=bC;refine aU.bn aj Tryz.func294 C C fun s I=>?_
 refine hs ?_;refine ae.cl [1,2] C I (σ:=Unit) (fun _=>[(6,.int .i64 1)]) (fun _=>[]) (fun _=>True) (fun _=>0) () trivial (cI C) a7 ?_;rintro _ _ I;refine bG ?_;exact bA I
theorem Vu (_u:Unit):aU d0 289 [.ay 0 [] .nil,.int .i64 0,.int .i64 0,.int .i64 0] (.cg []):=by
 have an:=bC;refine aU.bn aj Tryz.func289 C C fun s I=>?_
 have U:=Vt ();refine hs ?_;refine ae.cl [0,1,2,3] C I (σ:=Unit) (fun _=>[]) (fun _=>[]) (fun _=>True) (fun _=>0) () trivial (cI C) a7 ?_;rintro _ _ I;refine cD ?_;exact bA I
theorem Vv (_u:Unit):aU d0 276 [.ay 0 [] .nil] (.cg []):=by
 have an:=bC;refine aU.bn aj Tryz.func276 C C fun s I=>?_
 have U:=Vs ();have ad:=Vu ();refine cD ?_;exact bA I
def qu (fb:jS) (up:List Int):Prop:=∀ n,nJ fb n=if up.contains n then some (.bool true) else none
theorem qu.put {fb:jS} {up:List Int} (h:qu fb up) (x:Int):qu (rn fb x (.bool true)) (up++[x]):=fun n=>by
 rw [F8,h n];by_cases e:n=x
 ·subst e;simp
 ·rw [f0 e]
  have:(up++[x]).contains n=up.contains n:=by
   rw [ad1];simp [e]
  rw [this]
theorem qu.look {fb:jS} {up:List Int} (h:qu fb up) (n:Int):iJ (ph fb) (.int .i64 n)=some (if up.contains n then some (.bool true) else none):=by rw [tU,h n]
theorem Ak (l:List Int):(l.map bb).all e4=true:=by rw [List.all_map];simp [Function.comp_def,bb,e4]
structure Mb (p:bK):Prop where
 j9:p.bT.length≤10
 each:∀ c∈p.bT,c.parents.length≤3∧c.bj.length≤4
theorem Vw (p:bK) (aE:Mb p) (c:Nat) (aF:c<p.bT.length):aU d0 256 [cW p,.int .i64 ((c:Int)+3)] (bk (ou p c)):=by
 have an:=bC;refine aU.bn aj Tryz.func256 C C fun s I=>?_
 have tZ:=aE.j9;unfold cW cV
 repeat (first|(refine q4 ?_)|refine aa.jE I C C C C C C (fun b I=>?_)|(refine Ca ?_))
 refine aa.q1 I C C C C (fun mb I=>?_);refine dD ?_;refine aa.mm aj I C C (.inr C) C C C C C C aV C (tV ((c:Int)+3) (.bool true) []) (fun I=>?_);refine ej ?_;refine ae.cl [2] C I (σ:=Nat×List Int×List Int×qt×jS) (fun q=>[(7,.int .i64 ((q.1:Int)+2)),(5,.map mb),(6,kF q.2.2.2.1 q.2.2.1)]) (fun q=>[(.own b,.box 27 (cV p)),(.own mb,.map (ph q.2.2.2.2))]++ju q.2.2.2.1 q.2.2.1)
  (fun q=>q.1≤c+1∧nF p.bT q.1 q.2.1 q.2.2.1=nF p.bT (c+1) [(c:Int)+3] []∧qu q.2.2.2.2 q.2.1∧rA q.2.2.2.1 q.2.2.1∧q.2.2.1.length+4*q.1≤4*(c+1)) (fun q=>q.1) (c+1,[(c:Int)+3],[],none,[((c:Int)+3,.bool true)])
  ⟨i0 _,rfl,fun n=>by unfold nJ;by_cases e:n=(c:Int)+3<;>simp [e],rfl,by simp⟩ ⟨⟨_,rfl,aR.of_eq cO⟩,⟨_,rfl,aM⟩,⟨_,rfl,aM⟩,trivial⟩ (by simp only [ju,d8,cV];exact a7) ?_
 rintro ⟨k,up,out,bx,fb⟩ ⟨aD,aw,pr,dj,gh⟩ I;simp only at aD aw pr dj gh I ⊢;unfold cV at I ⊢;refine hQ ?_;refine ae.cond C (fun az=>?_) (fun a'=>?_);rotate_left
 ·have a':k=0:=by simp at a';omega
  subst a';have aw:out=nF p.bT (c+1) [(c:Int)+3] []:=aw;have aC:ou p c=ot out:=by unfold ou;rw [← aw]
  rw [aC];rcases bx with _|⟨g,cap,dN⟩
  ·have:out=[]:=dj
   subst this;have U:=Vv ();have ad:=Gb [] .nil;have ad:=aU.args (show cM [.ay 0 [] .nil] [.ay 1 [] .nil] from .one (aR.nil hh)) ad;refine di ?_;rw [show ot []=[] by unfold ot;simp];exact Fin.cL I C aR.aZ
  ·have j1:out.length+dN.length=cap:=dj
   have U:=Gx g cap out dN ag;have ad:=Gb ((ot out).map bb) .aZ;simp only [ju,kF,t8,d7] at I ⊢;refine di ?_;refine aa.bZ rfl rfl rfl rfl rfl U I (.cons aV .nil) ?_ (fun _ _ ⟨h,_⟩ _=>by cases h);rintro _ _ ⟨⟨⟩,rfl⟩ I;simp only [t8,d7] at I ⊢;have e:((ot out).map bb++dN).take out.length=(ot out).map bb:=an7 (by unfold ot;simp);have v8:(ot out).length=out.length:=by unfold ot;simp
   refine aa.run aj C (aa.nil ?_);refine b0 ?_;refine ae.tF I 6 g (cs:=(ot out).map bb++dN) C .here (by rw [d9,f5];omega) ag ag (by rw [e];exact Ak _) (fun I=>?_);rw [e];refine di ?_;exact Fin.cL I C aR.aZ
 have az:1≤k:=by simp at az;omega
 obtain ⟨i,rfl⟩:∃ i,k=i+1:=⟨k-1,by omega⟩;have k4:=pr.look ((i:Int)+3);have au:nF p.bT (i+1) up out=if up.contains ((i:Int)+3) then nF p.bT i (up++(p.bT.getD i default).parents) (out++(p.bT.getD i default).bj) else nF p.bT i up out:=rfl
 rw [au] at aw;have Mc:(((i+1:Nat):Int)+2)=(i:Int)+3:=by omega
 rw [Mc];have rB:i<p.bT.length:=by omega
 obtain ⟨eb,cu,Al⟩:=cf (f:=gI) rB;have kr:p.bT.getD i default=eb:=by rw [d5,cu];rfl
 rw [kr] at aw;obtain ⟨Lt,hp⟩:=aE.each eb (d6 cu);have eg:aa' .i64 ((i:Int)+3-3)=(i:Int):=by rw [er ag ag];omega
 have ky:aa' .i64 ((i:Int)+3-1)=(i:Int)+2:=by rw [er ag ag];omega
 refine ej ?_;cases sV:up.contains ((i:Int)+3) with
 | false=>
  rw [sV] at aw k4;simp only [ad5,af5] at aw k4;refine aa.jc aj I C C C C C C C C C C (.there .here) C k4 C ?_;refine di ?_;exact bF.mk (i,up,out,bx,fb) I ⟨by omega,aw,pr,dj,by show out.length+4*i≤4*(c+1);omega⟩ CQ (aH.ez _) (by show i<i+1;omega)
 | true=>
  rw [sV] at aw k4;simp only [ae2] at aw k4;unfold gI lv bk at Al;refine aa.jc aj I C C C C C C C C C C (.there .here) C k4 C ?_;refine cm I ?_;intro I;refine aa.idx aj i C C C C C C C C C C eg Al C ?_;refine dD ?_;rcases bx with _|⟨g,cap,dN⟩
  ·have bo:out=[]:=dj
   by_cases Gy:eb.bj=[]
   ·refine aa.mZ 28 (.ay 1 [] .aZ) C (aR.of_eq (by rw [Gy];rfl)) ?_
    refine aa.F3 aj C C C C C C C ef C C C ?_;have v':rA none (out++eb.bj):=by rw [bo,Gy];rfl
    refine cm I ?_;intro I;refine aa.idx aj i C C C C C C C C C C eg Al C ?_;refine ej ?_;refine ae.cl [2,5,6,7,36,37] C I (σ:=Nat×jS) (fun q=>[(38,.int .i64 (q.1:Int))]) (fun q=>(.own mb,.map (ph q.2))::(.own b,.box 27 (cV p))::ju none (out++eb.bj)) (fun q=>q.1≤eb.parents.length∧qu q.2 (up++eb.parents.take q.1)) (fun q=>eb.parents.length-q.1) (0,fb) ⟨g9 _,by rw [aj8,d8];exact pr⟩ (cI C) (.cons (.there .here) (.cons .here .nil)) ?_;rintro ⟨k,Am⟩ ⟨ie,nO⟩ I;simp only [cV] at ie nO I ⊢;refine hQ ?_;refine ae.cond C (fun cU=>?_) (fun et=>?_)
    ·have cU:k<eb.parents.length:=by simpa using cU
     obtain ⟨x,ab,ct⟩:=cf (f:=bb) cU;unfold bb at ct;refine ej ?_;refine aa.mm aj I C C (.inl C) C C C C C C .here C (tV _ _ _) (fun I=>?_);refine di ?_;exact bF.mk (k+1,_) I ⟨cU,by rw [js ab,← ae6];exact nO.put x⟩ cC (aH.ez _) Gw
    ·have et:k=eb.parents.length:=by simp at et;omega
     subst et;rw [ac'] at nO;refine di ?_;exact bF.mk (i,up++eb.parents,out++eb.bj,none,Am) I ⟨by omega,aw,nO,v',by show (out++eb.bj).length+4*i≤4*(c+1);rw [d9];omega⟩ CQ (.cons (.there .here) (.cons .here (aH.ez _))) (by show i<i+1;omega)
   ·have xf:1≤eb.bj.length:=by
     rcases bP:eb.bj with _|⟨z,aV⟩
     ·exact absurd bP Gy
     ·simp
    refine aa.F1 aj I C C C C C C C ef C C C C C C (Ak _) (by rw [f5];exact xf) (by show _*8≤_;rw [f5];omega) m9 (fun aT b8 cs' U ad al I=>?_)
    obtain ⟨dN,rfl⟩:∃ dN,cs'=(out++eb.bj).map bb++dN:=⟨cs'.drop (eb.bj.map bb).length,by
     have:=ag4 (eb.bj.map bb).length cs'
     rw [al] at this
     rw [bo];exact this.symm⟩
    have v':rA (some (aT,b8,dN)) (out++eb.bj):=by show (out++eb.bj).length+dN.length=b8;rw [d9,f5] at U;exact U
    refine aa.mZ 29 (kF (some (aT,b8,dN)) (out++eb.bj)) C (aR.of_eq (by show ea aT _ b8=ea aT _ b8;rw [bo,f5];rfl)) ?_;refine cm I ?_;intro I;refine aa.idx aj i C C C C C C C C C C eg Al C ?_;refine ej ?_;refine ae.cl [2,5,6,7,36,37] C I (σ:=Nat×jS) (fun q=>[(38,.int .i64 (q.1:Int))]) (fun q=>(.own mb,.map (ph q.2))::(.own b,.box 27 (cV p))::ju (some (aT,b8,dN)) (out++eb.bj)) (fun q=>q.1≤eb.parents.length∧qu q.2 (up++eb.parents.take q.1)) (fun q=>eb.parents.length-q.1) (0,fb) ⟨g9 _,by rw [aj8,d8];exact pr⟩ (cI C) (.cons (.there (.there .here)) (.cons (.there .here) (.cons .here .nil))) ?_;rintro ⟨k,Am⟩ ⟨ie,nO⟩ I;simp only [cV] at ie nO I ⊢;refine hQ ?_;refine ae.cond C (fun cU=>?_) (fun et=>?_)
    ·have cU:k<eb.parents.length:=by simpa using cU
     obtain ⟨x,ab,ct⟩:=cf (f:=bb) cU;unfold bb at ct;refine ej ?_;refine aa.mm aj I C C (.inl C) C C C C C C .here C (tV _ _ _) (fun I=>?_);refine di ?_;exact bF.mk (k+1,_) I ⟨cU,by rw [js ab,← ae6];exact nO.put x⟩ cC (aH.ez _) Gw
    ·have et:k=eb.parents.length:=by simp at et;omega
     subst et;rw [ac'] at nO;refine di ?_;exact bF.mk (i,up++eb.parents,out++eb.bj,(some (aT,b8,dN)),Am) I ⟨by omega,aw,nO,v',by show (out++eb.bj).length+4*i≤4*(c+1);rw [d9];omega⟩ CQ (.cons (.there .here) (.cons .here (aH.ez _))) (by show i<i+1;omega)
  ·have j1:out.length+dN.length=cap:=dj
   refine aa.F2 (n:=out.length) (cap:=cap) (cs:=out.map bb++dN) aj I C C C C C C C ef C C C C (.there (.there .here)) (by rw [d9,f5];exact j1) ag (by rw [an7 bc];exact Ak _) C C (Ak _) (by show _*8≤_;rw [f5];omega) m9 (fun aT b8 cs' U ad al I=>?_);rw [an7 bc] at al
   obtain ⟨mE,rfl⟩:∃ dN,cs'=(out++eb.bj).map bb++dN:=⟨cs'.drop (out.length+(eb.bj.map bb).length),by
    have:=ag4 (out.length+(eb.bj.map bb).length) cs'
    rw [al] at this
    rw [ac2];exact this.symm⟩
   have v':rA (some (aT,b8,mE)) (out++eb.bj):=by show (out++eb.bj).length+mE.length=b8;rw [d9,f5] at U;exact U
   refine aa.mZ 29 (kF (some (aT,b8,mE)) (out++eb.bj)) C (aR.of_eq (by show ea aT _ b8=ea aT _ b8;rw [f5,d9])) ?_;refine cm I ?_;intro I;refine aa.idx aj i C C C C C C C C C C eg Al C ?_;refine ej ?_;refine ae.cl [2,5,6,7,36,37] C I (σ:=Nat×jS) (fun q=>[(38,.int .i64 (q.1:Int))]) (fun q=>(.own mb,.map (ph q.2))::(.own b,.box 27 (cV p))::ju (some (aT,b8,mE)) (out++eb.bj)) (fun q=>q.1≤eb.parents.length∧qu q.2 (up++eb.parents.take q.1)) (fun q=>eb.parents.length-q.1) (0,fb) ⟨g9 _,by rw [aj8,d8];exact pr⟩ (cI C) (.cons (.there (.there .here)) (.cons (.there .here) (.cons .here .nil))) ?_;rintro ⟨k,Am⟩ ⟨ie,nO⟩ I;simp only [cV] at ie nO I ⊢;refine hQ ?_;refine ae.cond C (fun cU=>?_) (fun et=>?_)
   ·have cU:k<eb.parents.length:=by simpa using cU
    obtain ⟨x,ab,ct⟩:=cf (f:=bb) cU;unfold bb at ct;refine ej ?_;refine aa.mm aj I C C (.inl C) C C C C C C .here C (tV _ _ _) (fun I=>?_);refine di ?_;exact bF.mk (k+1,_) I ⟨cU,by rw [js ab,← ae6];exact nO.put x⟩ cC (aH.ez _) Gw
   ·have et:k=eb.parents.length:=by simp at et;omega
    subst et;rw [ac'] at nO;refine di ?_;exact bF.mk (i,up++eb.parents,out++eb.bj,(some (aT,b8,mE)),Am) I ⟨by omega,aw,nO,v',by show (out++eb.bj).length+4*i≤4*(c+1);rw [d9];omega⟩ CQ (.cons (.there .here) (.cons .here (aH.ez _))) (by show i<i+1;omega)
def CS (b:Bool):eo:=if b then .ret (.cg []) else .panic sO
theorem gv {x:af} {b:Bool} (h:eo.ret x=CS b):b=true∧x = .cg []:=by
 cases b with
 | true=>cases h;exact ⟨rfl,rfl⟩
 | false=>cases h
theorem gw {x:af} {b:Bool} (h:eo.panic x=CS b):b=false∧x=sO:=by
 cases b with
 | true=>cases h
 | false=>cases h;exact ⟨rfl,rfl⟩
theorem gK (b:Bool):bz d0 223 [.bool b] [] (fun o K=>K=[]∧o=CS b):=by
 cases b with
 | true=>exact fun s I=>gX.mono (Uo () s) (fun o ai ⟨U,ad⟩=>⟨[],ad,trivial,rfl,U⟩)
 | false=>exact bz.mono (Up ()) (fun o K ⟨U,ad⟩=>⟨ad,U⟩)
theorem Gz {cs:List e3} (h:∀ c∈cs,c.bj.length≤4):∀ (k:Nat) (up out:List Int),(nF cs k up out).length≤out.length+4*k
  | 0,_,_=>i0 _
  | k+1,up,out=>by
    rw [nF];split
    · have U:=Gz h k (up++(cs.getD k default).parents) (out++(cs.getD k default).bj)
      have ad:(cs.getD k default).bj.length≤4:=by
        rw [d5];cases aF:cs[k]? with
        | none=>exact g9 _
        | some c=>exact h c (d6 aF)
      rw [d9] at U;omega
    · have:=Gz h k up out
      omega
theorem Vx (p:bK) (aE:fD p):bz d0 222 [cW p] [] (fun o K=>K=[]∧o=CS (nG p)):=by
 have an:=bC;have au:=Lu p aE;have jI:(gH p).length=p.bT.length:=by unfold gH;simp
 have CT:=T4 (gH p) (by rw [jI];exact aE.cls);have cB:nG p=(decide (p.bT.length≤10)&&((kZ 0 p.bT==some p.bj)&&(lU (gH p)&&qb p 0 p.bT))):=rfl;refine bz.bn aj Tryz.func222 C C fun s I=>?_
 unfold cW cV at *;unfold dv at *;refine dz ?_;refine aa.bZ C C C C C (gK _) I .nil ?_ ?_;rotate_left
 ·rintro _ _ ⟨rfl,h⟩ I
  obtain ⟨aA,rfl⟩:=gw h;rw [d7] at I ⊢;exact Fin.e6 I aM .nil ⟨rfl,(by rw [cB,show decide (p.bT.length≤10)=false by simp at aA ⊢;omega];rfl)⟩
 rintro _ _ ⟨rfl,h⟩ I;obtain ⟨U,rfl⟩:=gv h;rw [d7] at I ⊢;have U:p.bT.length≤10:=by simp at U;omega
 rw [show decide (p.bT.length≤10)=true by simpa using U,f4] at cB;refine bG ?_;refine ae.cl [1,22,23] C I (σ:=Nat×Nat) (fun q=>[(24,.int .i64 (q.1:Int)),(2,.int .i64 (q.2:Int))]) (fun _=>[]) (fun q=>q.1≤p.bT.length∧kZ 0 p.bT=kZ (q.2:Int) (p.bT.drop q.1)∧q.2≤4*q.1) (fun q=>p.bT.length-q.1) (0,0) ⟨g9 _,rfl,i0 _⟩ (cI C) a7 ?_;rintro ⟨j,n⟩ ⟨aO,aw,GA⟩ I;simp only at aO aw GA I ⊢;refine ck ?_;refine ae.cond C (fun az=>?_) (fun a'=>?_)
 ·have az:j<p.bT.length:=by simpa using az
  obtain ⟨c,ax,da⟩:=cf (f:=gI) az;rw [drop_cons ax,kZ] at aw;unfold gI lv bk at da;refine fP ?_;refine aa.bZ C C C C C (gK _) I .nil ?_ ?_;rotate_left
  ·rintro _ _ ⟨rfl,h⟩ I
   obtain ⟨aA,rfl⟩:=gw h;rw [d7] at I ⊢;exact Fin.e6 I aM .nil ⟨rfl,(by rw [f0 (by simp at aA;omega)] at aw;rw [cB,aw];rfl)⟩
  rintro _ _ ⟨rfl,h⟩ I;obtain ⟨ad,rfl⟩:=gv h;rw [d7] at I ⊢;have ad:c.bj.length≤4:=by simp at ad;omega
  rw [f9 ad] at aw;refine bG ?_;refine ae.cl [1,22,23,24,34,35] C I (σ:=Nat×Nat) (fun q=>[(36,.int .i64 (q.1:Int)),(2,.int .i64 (q.2:Int))]) (fun _=>[]) (fun q=>q.1≤c.bj.length∧m2 (n:Int) c.bj=m2 (q.2:Int) (c.bj.drop q.1)∧q.2≤n+q.1) (fun q=>c.bj.length-q.1) (0,n) ⟨g9 _,rfl,i0 _⟩ (cI C) a7 ?_;rintro ⟨k,m⟩ ⟨aD,bm,Md⟩ I;simp only at aD bm Md I ⊢;refine ck ?_;refine ae.cond C (fun cU=>?_) (fun et=>?_)
  ·have cU:k<c.bj.length:=by simpa using cU
   obtain ⟨x,ab,ct⟩:=cf (f:=bb) cU;rw [drop_cons ab,m2] at bm;unfold bb at ct;refine ej ?_;refine aa.bZ C C C C C (gK _) I .nil ?_ ?_;rotate_left
   ·rintro _ _ ⟨rfl,h⟩ I
    obtain ⟨aA,rfl⟩:=gw h;rw [d7] at I ⊢;exact Fin.e6 I aM .nil ⟨rfl,(by rw [f0 ry] at bm;rw [bm] at aw;rw [cB,aw];rfl)⟩
   rintro _ _ ⟨rfl,h⟩ I;obtain ⟨al,rfl⟩:=gv h;rw [d7] at I ⊢;have al:x=(m:Int):=by simpa using al
   rw [f9 al] at bm;refine hI ?_;exact bF.mk (k+1,m+1) I ⟨cU,by rw [bm];push_cast;rfl,by show m+1≤n+(k+1);omega⟩ (by repeat (first|exact trivial|refine ⟨⟨_,rfl,aM⟩,?_⟩|refine ⟨⟨_,rfl,aR.of_eq (by (first|rw [kV ag]|(rw [er ag ag];push_cast;rfl)))⟩,?_⟩)) a7 CD
  ·have et:k=c.bj.length:=by simp at et;omega
   subst et;rw [eR (i0 _),m2] at bm;rw [bm] at aw;refine bG ?_;exact bF.mk (j+1,m) I ⟨az,aw,by show m≤4*(j+1);omega⟩ cC a7 xE
 have a':j=p.bT.length:=by simp at a';omega
 subst a';rw [eR (i0 _),kZ] at aw;rw [aw] at cB;refine di ?_;cases GB:((n:Int)==p.bj) with
 | false=>
  have GC:(some (n:Int)==some p.bj)=false:=by rw [← GB];rfl
  rw [GC,f7] at cB;refine dT ?_;refine aa.bZ C C C C C (gK _) I .nil ?_ ?_;rotate_left
  ·rintro _ _ ⟨rfl,h⟩ I
   obtain ⟨aA,rfl⟩:=gw h;rw [d7] at I ⊢;exact Fin.e6 I aM .nil ⟨rfl,(by rw [cB];rfl)⟩
  rintro _ _ ⟨rfl,h⟩ I;obtain ⟨al,rfl⟩:=gv h;rw [d7] at I ⊢;cases al
 | true=>
 have GC:(some (n:Int)==some p.bj)=true:=by rw [← GB];rfl
 rw [GC,f4] at cB;have dj:=Fy aw;cases xN:lU (gH p) with
 | false=>
  rw [xN,f7] at cB;rw [xN] at CT;simp only [ad5,af5] at CT;refine di ?_;refine aa.bZ C C C C C (gK _) I .nil ?_ ?_;rotate_left
  ·rintro _ _ ⟨rfl,h⟩ I
   obtain ⟨aA,rfl⟩:=gw h;rw [d7] at I ⊢;exact Fin.e6 I aM .nil ⟨rfl,(by rw [cB];rfl)⟩
  rintro _ _ ⟨rfl,h⟩ I;obtain ⟨al,rfl⟩:=gv h;rw [d7] at I ⊢;exact absurd al dE
 | true=>
 rw [xN,f4] at cB;rw [xN] at CT;simp only [ae2] at CT;have lO:=zD xN
 have tX:Mb p:=⟨U,fun c aF=>⟨by
  obtain ⟨i,aS⟩:=ag7 aF
  exact (lO.par i c.parents (by unfold gH;rw [ad7,aS];rfl)).1,dj c aF⟩⟩
 have xO:=fun c aF=>T5 (gH p) xN c aF
 unfold dv at xO;refine di ?_;refine aa.bZ C C C C C (gK _) I .nil ?_ ?_;rotate_left
 ·rintro _ _ ⟨rfl,h⟩ I
  obtain ⟨aA,rfl⟩:=gw h;rw [d7] at I ⊢;exact Fin.e6 I aM .nil ⟨rfl,(by exact absurd aA dE)⟩
 rintro _ _ ⟨rfl,h⟩ I;obtain ⟨al,rfl⟩:=gv h;rw [d7] at I ⊢;clear al;refine bG ?_;refine ae.cl [1,7,61,62] C I (σ:=Nat) (fun j=>[(63,.int .i64 (j:Int))]) (fun _=>[]) (fun j=>j≤p.bT.length∧nG p=qb p j (p.bT.drop j)) (fun j=>p.bT.length-j) 0 ⟨g9 _,cB⟩ (cI C) a7 ?_;rintro j ⟨aO,aw⟩ I;refine ck ?_;refine ae.cond C (fun az=>?_) (fun a'=>?_);rotate_left
 ·have a':j=p.bT.length:=by simp at a';omega
  subst a';rw [eR (i0 _),qb] at aw;refine eH ?_;exact Fin.bu I C aM .nil ⟨rfl,by rw [aw];rfl⟩
 have az:j<p.bT.length:=by simpa using az
 obtain ⟨c,ax,da⟩:=cf (f:=gI) az;rw [drop_cons ax,qb] at aw;unfold Fx at aw;have xP:=xO (j+3) ag;have qd:(fo (gH p) (2+(gH p).length)).getD (j+3) []=xt p (j+3):=rfl;rw [qd] at xP;have iP:aa' .i64 ((j:Int)+3)=((j+3:Nat):Int):=by rw [er ag ag];omega
 rw [← iP] at xP;have m7:=Vw p tX j az;have m7:aU d0 256 [cW p,.int .i64 (aa' .i64 ((j:Int)+3))] (bk (ou p j)):=by rw [iP];exact m7
 unfold cW cV bk at m7;unfold gI lv bk at da;unfold Lh at xP;cases CU:(xt p (j+3)).isEmpty with
 | true=>
  rw [CU,f9 C] at xP;rw [CU] at aw
  repeat (first|(refine vx I ?_;clear I;intro I)|refine aa.dO aj I rfl rfl rfl rfl rfl rfl rfl (fun cy I=>?_)|(refine oi ?_))
  refine aa.bZ C C C C C (gK _) I .nil ?_ ?_;rotate_left
  ·rintro _ _ ⟨rfl,h⟩ I
   obtain ⟨aA,rfl⟩:=gw h;rw [d7] at I ⊢;exact Fin.e6 I aM .nil ⟨rfl,(by rw [aw];rfl)⟩
  rintro _ _ ⟨rfl,h⟩ I;obtain ⟨al,rfl⟩:=gv h;rw [d7] at I ⊢;exact absurd al dE
 | false=>
 rw [CU,f0 bc] at xP;rw [CU,ah3,f4] at aw;unfold bk at xP
 repeat (first|(refine vx I ?_;clear I;intro I)|refine aa.dO aj I rfl rfl rfl rfl rfl rfl rfl (fun cy I=>?_)|(refine oi ?_))
 refine aa.bZ C C C C C (gK _) I .nil ?_ ?_;rotate_left
 ·rintro _ _ ⟨rfl,h⟩ I
  obtain ⟨aA,rfl⟩:=gw h;rw [d7] at I ⊢;exact Fin.e6 I aM .nil ⟨rfl,(by exact absurd aA dE)⟩
 rintro _ _ ⟨rfl,h⟩ I;obtain ⟨al,rfl⟩:=gv h;rw [d7] at I ⊢;clear al;refine di ?_;refine aa.q1 I C C C C (fun mb I=>?_);refine cm I ?_;intro I;have hx:(ou p j).length≤40:=by
  have:=Gz dj (j+1) [(j:Int)+3] [];unfold ou ot;rw [aq4];simp only [ae1] at this;omega
 have hY:=fun n=>vH (ou p j) n ag
 unfold bk at hY;generalize ou p j=vG at m7 aw hx hY I ⊢;have Mc:=(aE.each c (d6 ax)).2.2;refine ae.cl [1,7,12,13,61,62,63,84,85] C I (σ:=Nat×jS) (fun q=>[(86,.int .i64 (q.1:Int))]) (fun q=>[(.own mb,.map (ph q.2))]) (fun q=>q.1≤c.inits.length∧qu q.2 ((c.inits.take q.1).map iE.slot)∧qa vG [] c.inits=qa vG ((c.inits.take q.1).map iE.slot) (c.inits.drop q.1)) (fun q=>c.inits.length-q.1) (0,[]) ⟨g9 _,fun n=>rfl,rfl⟩ (cI C) a7 ?_;rintro ⟨k,fb⟩ ⟨aD,pr,bm⟩ I;simp only at aD pr bm I ⊢;refine ck ?_;refine ae.cond C (fun cU=>?_) (fun et=>?_);rotate_left
 ·have et:k=c.inits.length:=by simp at et;omega
  subst et;rw [eR (i0 _),qa] at bm;rw [bm,f4] at aw;refine bG ?_;exact bF.mk (j+1) I ⟨az,aw⟩ cC a7 xE
 have cU:k<c.inits.length:=by simpa using cU
 obtain ⟨x,ab,ct⟩:=cf (f:=vK) cU;rw [drop_cons ab,qa] at bm;unfold vK at ct;have Me:=hY x.slot;have k4:=pr.look x.slot;have qm:=Ls x.n;cases rC:vG.contains x.slot with
 | false=>
  rw [rC] at Me;rw [rC,f7] at bm;rw [bm,f7] at aw;refine fP ?_;refine aa.bZ C C C C C (gK _) I .nil ?_ ?_;rotate_left
  ·rintro _ _ ⟨rfl,h⟩ I
   obtain ⟨aA,rfl⟩:=gw h;rw [d7] at I ⊢;exact Fin.e6 I aM .nil ⟨rfl,(by rw [aw];rfl)⟩
  rintro _ _ ⟨rfl,h⟩ I;obtain ⟨al,rfl⟩:=gv h;rw [d7] at I ⊢;exact absurd al dE
 | true=>
 rw [rC] at Me;rw [rC,f4] at bm;cases ud:((c.inits.take k).map iE.slot).contains x.slot with
 | true=>
  rw [ud] at k4;rw [ud,ah7,f7] at bm;rw [bm,f7] at aw;refine fP ?_;refine aa.jc aj I C C C C C C C C C C aV C k4 C ?_;refine dT ?_;refine aa.bZ C C C C C (gK _) I .nil ?_ ?_;rotate_left
  ·rintro _ _ ⟨rfl,h⟩ I
   obtain ⟨aA,rfl⟩:=gw h;rw [d7] at I ⊢;exact Fin.e6 I aM .nil ⟨rfl,(by rw [aw];rfl)⟩
  rintro _ _ ⟨rfl,h⟩ I;obtain ⟨al,rfl⟩:=gv h;rw [d7] at I ⊢;exact absurd al dE
 | false=>
 rw [ud] at k4;rw [ud,ah3,f4] at bm;simp only [ad5,af5] at k4;refine fP ?_;refine aa.jc aj I C C C C C C C C C C aV C k4 C ?_;refine di ?_;refine aa.bZ C C C C C (gK _) I .nil ?_ ?_;rotate_left
 ·rintro _ _ ⟨rfl,h⟩ I
  obtain ⟨aA,rfl⟩:=gw h;rw [d7] at I ⊢;exact Fin.e6 I aM .nil ⟨rfl,(by rw [aA,f7] at bm;rw [bm,f7] at aw;rw [aw];rfl)⟩
 rintro _ _ ⟨rfl,h⟩ I;obtain ⟨al,rfl⟩:=gv h;rw [d7] at I ⊢;rw [al,f4] at bm;refine hQ ?_;refine aa.mm aj I C C (.inl C) C C C C C C aV C (tV _ _ _) (fun I=>?_);refine hI ?_;have hv:(c.inits.take (k+1)).map iE.slot=(c.inits.take k).map iE.slot++[x.slot]:=by rw [js ab,ac2];rfl
 exact bF.mk (k+1,_) I ⟨cU,by show qu _ ((c.inits.take (k+1)).map iE.slot);rw [hv];exact pr.put x.slot,by show _=qa vG ((c.inits.take (k+1)).map iE.slot) _;rw [hv];exact bm⟩ cC a7 (by show c.inits.length-(k+1)<c.inits.length-k;omega)
def wa (n:Int):af := .iface 277 (.int .i64 n)
def wb (op:Int):af:=
 if op=5 then .iface 279 (.agg [])
 else if op=1∨op=2∨op=3∨op=6∨op=18 then wa 0
 else if op=4∨op=8∨op=17 then wa 1
 else if op=7∨op=9∨op=11∨op=12∨op=13∨op=14∨op=15∨op=16 then wa 2
 else if op=10 then wa 3
 else .nh
theorem Vy (op:Int):aU d0 228 [.int .i64 op] (wb op):=by
 have an:=bC;refine aU.bn aj Tryz.func228 C C fun s I=>?_
 by_cases aC:1≤op∧op≤18
 ·have h:op=1∨op=2∨op=3∨op=4∨op=5∨op=6∨op=7∨op=8∨op=9∨op=10∨op=11∨op=12∨op=13∨op=14∨op=15∨op=16∨op=17∨op=18:=by omega
  clear aC;rcases h with rfl|rfl|rfl|rfl|rfl|rfl|rfl|rfl|rfl|rfl|rfl|rfl|rfl|rfl|rfl|rfl|rfl|rfl
  all_goals
   refine bG ?_;exact bA I
 ·have aD:wb op = .nh:=by
   unfold wb;rw [f0 ag,f0 ag,f0 ag,f0 ag,f0 ag]
  rw [aD]
  repeat (first|(refine E8 ?_)|refine ae.cond C (fun h=>absurd h cO) (fun _=>?_))
  exact bA I
theorem Mf (n:Int) (p:bK) (x:hX):aU d0 335 [.int .i64 n,cW p,gj x] (.int .i64 n):=by
 have an:=bC;refine aU.bn aj Tryz.func335 C C fun s I=>?_
 unfold cW cV gj kA;refine gO ?_;exact bA I
theorem Mg (p:bK) (x:hX) (k:Nat) (g:Int) (ab:x.n=(k:Int)) (aD:p.cR[k]? = some g):aU d0 336 [.agg [],cW p,gj x] (.int .i64 g):=by
 have an:=bC;refine aU.bn aj Tryz.func336 C C fun s I=>?_
 have eu:(p.cR.map bb)[k]? = some (.int .i64 g):=by rw [ad7,aD];rfl
 unfold cW cV gj kA bk;rw [ab];refine bG ?_;exact bA I
def cH (b:Nat) (cs:List af):a6:=[(.own b,.box 3 cs)]
def Vz (b:Nat) (dN:List af) (r:Option (List Int)) (o:eo) (K:a6):Prop:=
 match r with
 | some out=>o = .ret (.bool true)∧K=cH b (out.map bb++dN)
 | none=>o = .ret (.bool false)∧∃ cs,K=cH b cs
theorem VA {out:List Int} {dN:List af} {n:Nat} (h:n<out.length) (v:Int):eO (n*1) [.int .i64 v] (out.map bb++dN)=(out.set n v).map bb++dN:=by
 rw [ah2,rj,av' _ _ (by rw [f5];exact h),an1];rfl
theorem GD {out:List Int} {dN:List af} {n:Nat} (h:n<out.length):(out.map bb++dN)[n*1]? = some (.int .i64 (out.getD n 0)):=by
 rw [ah2,ad3 (by rw [f5];exact h),ad7,d5,f8 h];rfl
theorem GF {p:bK} {n:Int} {out:List Int} (h:ov p n out=true):0≤n∧n<(p.nodes.length:Int)∧out.getD n.toNat 0<0:=by
 unfold ov at h;simp only [f6,g8] at h;omega
theorem GG {p:bK} {next:Bool} {n size:Int} {out:List Int} (h:ov p n out=false):∀ f,visitM p next f n size out=none
 | 0=>rfl
 | f+1=>by rw [visitM,h];rfl
theorem Mh (p:bK) (aE:fD p) (oV:p.nodes.length≤120) (next:Bool) (b:Nat) (dN:List af) (cap:Nat):∀ (f:Nat),f≤12→∀ (n size:Int),0≤size→size+f≤15→∀ (out:List Int),out.length=p.nodes.length →
  bz d0 138 [cW p,.int .i64 n,.int .i64 size,.int .i64 ((13-f:Nat):Int),.bool next,ea b p.nodes.length cap] (cH b (out.map bb++dN)) (Vz b dN (visitM p next f n size out)):=by
 have an:=bC;intro f
 induction f with
 | zero=>
  intro _ n size kv kp out gh;refine bz.bn aj Tryz.func138 C C fun s I=>?_
  rw [visitM];unfold cW cV cH;unfold cH at I;refine dz ?_;by_cases bo:n<0
  ·refine aa.dW 18 C (by simpa using bo) ?_
   refine dT ?_;exact Fin.bu (K:=cH b _) I C aM (by simp only [cH];exact a7) ⟨rfl,_,rfl⟩
  refine aa.dc 18 C (by simpa using bo) ?_;refine dD ?_;by_cases U:n<(p.nodes.length:Int);rotate_left
  ·refine aa.dW 25 C cO ?_
   refine dT ?_;exact Fin.bu (K:=cH b _) I C aM (by simp only [cH];exact a7) ⟨rfl,_,rfl⟩
  refine aa.dc 25 C cO ?_;refine dD ?_;refine aa.gi aj n.toNat C C C C C C C C C ag ag ?_;refine aa.k2 aj I C C C C C C aV C (GD ag) ?_;refine dD ?_;by_cases ad:out.getD n.toNat 0≥0
  ·refine aa.dW 32 C rX ?_
   refine dT ?_;exact Fin.bu (K:=cH b _) I C aM (by simp only [cH];exact a7) ⟨rfl,_,rfl⟩
  refine aa.dc 32 C rX ?_;refine dT ?_;exact Fin.bu (K:=cH b _) I C aM (by simp only [cH];exact a7) ⟨rfl,_,rfl⟩
 | succ f aX=>
 intro a1 n size kv kp out gh;refine bz.bn aj Tryz.func138 C C fun s I=>?_
 unfold cW cV cH;unfold cH at I;refine dz ?_;by_cases bo:n<0
 ·refine aa.dW 18 C (by simpa using bo) ?_
  rw [GG (by rw [ae9];intro h;have:=GF h;omega)];refine dT ?_;exact Fin.bu (K:=cH b _) I C aM (by simp only [cH];exact a7) ⟨rfl,_,rfl⟩
 refine aa.dc 18 C (by simpa using bo) ?_;refine dD ?_;by_cases U:n<(p.nodes.length:Int);rotate_left
 ·refine aa.dW 25 C cO ?_
  rw [GG (by rw [ae9];intro h;have:=GF h;omega)];refine dT ?_;exact Fin.bu (K:=cH b _) I C aM (by simp only [cH];exact a7) ⟨rfl,_,rfl⟩
 refine aa.dc 25 C cO ?_;refine dD ?_;refine aa.gi aj n.toNat C C C C C C C C C ag ag ?_;refine aa.k2 aj I C C C C C C aV C (GD ag) ?_;refine dD ?_;by_cases ad:out.getD n.toNat 0≥0
 ·refine aa.dW 32 C rX ?_
  rw [GG (by rw [ae9];intro h;have:=GF h;omega)];refine dT ?_;exact Fin.bu (K:=cH b _) I C aM (by simp only [cH];exact a7) ⟨rfl,_,rfl⟩
 refine aa.dc 32 C rX ?_;have gS:ov p n out=true:=by
  unfold ov;simp only [f6,g8];omega
 rw [visitM,f9 gS];obtain ⟨q,rfl⟩:∃ q:Nat,n=q:=⟨n.toNat,by omega⟩;rw [ac3];obtain ⟨x,ab,ct⟩:=cf (f:=gj) (l:=p.nodes) (j:=q) ag;have GH:p.nodes.getD q default=x:=by rw [d5,ab];rfl
 rw [GH,UK];have ue:=aE.kids x (d6 ab);refine ga ?_;refine ae.cond C (fun h=>by simp at h;omega) (fun _=>?_);refine ej ?_;refine aa.gi aj q C C C C C C C C C C ag ?_;refine aa.lY aj I ((out.set q size).map bb++dN) C C C C C C C C C aV (by rw [d9,f5];show q*1+1≤_;omega) (VA ag size) (fun I=>?_);have lW:(out.set q size).length=p.nodes.length:=by rw [ae0];exact gh
 generalize out.set q size=xQ at I lW ⊢;have al:=UO p x;have bd:=UM p aE x size;unfold cW cV gj kA bk at al bd;unfold gj kA bk at ct;refine fP ?_;by_cases g1:(x.kids.length:Int)=sQ p x;rotate_left
 ·refine aL.split 52 C (fun _=>?_) (fun h=>absurd h (by simpa using g1))
  rw [H1 g1,f7,f0 bc];refine ht ?_;exact Fin.bu (K:=cH b _) I C aM (by simp only [cH];exact a7) ⟨rfl,_,rfl⟩
 refine aL.split 52 C (fun h=>absurd g1 gT) (fun _=>?_);rw [i6 g1,f4];cases g2:mv p x size with
 | false=>
  rw [g2] at bd;rw [f7,f0 bc];refine cD ?_;exact Fin.bu (K:=cH b _) I C aM (by simp only [cH];exact a7) ⟨rfl,_,rfl⟩
 | true=>
 rw [g2] at bd;rw [f4];refine di ?_;cases next with
 | true=>
  rw [ao9];by_cases wc:x.op=18
  ·refine aL.split 63 C (fun _=>?_) (fun h=>absurd wc gT)
   rw [f9 C];refine cD ?_;refine ae.cl [1,2,3,4,5,6,13] C I (σ:=Nat×List Int) (fun q=>[(14,.int .i64 (q.1:Int))]) (fun q=>cH b (q.2.map bb++dN)) (fun q=>q.1≤x.kids.length∧q.2.length=p.nodes.length∧k0 (visitM p true f) (decide (x.op=9)) size 0 x.kids xQ=k0 (visitM p true f) (decide (x.op=9)) size q.1 (x.kids.drop q.1) q.2) (fun q=>x.kids.length-q.1) (0,xQ) ⟨g9 _,lW,rfl⟩ (cI C) (by simp only [cH];exact a7) ?_;rintro ⟨j,b2⟩ ⟨aO,q0,aw⟩ I
   try simp only at aO q0 aw I ⊢
   unfold cH at I ⊢;refine ck ?_;refine ae.cond C (fun az=>?_) (fun a'=>?_);rotate_left
   ·have a':j=x.kids.length:=by simp at a';omega
    rw [eR ag,k0] at aw;rw [aw];refine eH ?_;exact Fin.bu (K:=cH b _) I C aM (by simp only [cH];exact a7) ⟨rfl,rfl⟩
   have az:j<x.kids.length:=by simpa using az
   obtain ⟨k,aD,eu⟩:=cf (f:=bb) az;rw [drop_cons aD,k0] at aw;unfold bb at eu;have cS:=fun s U ad=>aX ag k s U ad b2 q0
   have av:((13-f:Nat):Int)=aa' .i64 (((13-(f+1):Nat):Int)+1):=by rw [er ag ag];omega
   rw [av] at cS;unfold cW cV cH at cS;refine bG ?_;by_cases jT:x.op=9
   ·refine aa.dW 79 C (by simpa using jT) ?_
    refine ga ?_;refine ae.cond C (fun U=>?_) (fun U=>?_)
    ·have U:j=1:=by simp at U;omega
     rw [show (decide (x.op=9)&&j==1)=true by simp [jT,U],f9 C] at aw;have cS:=cS (size+1) ag ag;have An:size+1=aa' .i64 (size+1):=by rw [er ag ag]
     rw [An] at cS aw;refine oj ?_;cases ar:visitM p true f k (aa' .i64 (size+1)) b2 with
     | none=>
      rw [ar] at cS;rw [ar,ag0] at aw;rw [aw];skip;refine aL.ka rfl rfl rfl rfl rfl rfl cS I (aH.all _) ?_ (fun _ _ ⟨h,_⟩ _=>by cases h);rintro _ _ ⟨⟨⟩,cs,rfl⟩ I;rw [d8] at I ⊢;unfold cH at I ⊢;refine ht ?_;exact Fin.bu (K:=cH b _) I C aM (by simp only [cH];exact a7) ⟨rfl,_,rfl⟩
     | some eJ=>
      have o7:=ql ag ar;rw [ar] at cS;rw [ar,ah0] at aw;skip;refine aL.ka rfl rfl rfl rfl rfl rfl cS I (aH.all _) ?_ (fun _ _ ⟨h,_⟩ _=>by cases h);rintro _ _ ⟨⟨⟩,rfl⟩ I;rw [d8] at I ⊢;unfold cH at I ⊢;refine jF ?_;exact bF.mk (j+1,eJ) I ⟨az,by show eJ.length=_;omega,aw⟩ cC (by simp only [cH];exact a7) px
    ·have U:j≠1:=by simp at U;omega
     rw [show (decide (x.op=9)&&j==1)=false by simp [U],f0 bc] at aw;have cS:=cS size ag ag;refine oj ?_;cases ar:visitM p true f k size b2 with
     | none=>
      rw [ar] at cS;rw [ar,ag0] at aw;rw [aw];skip;refine aL.ka rfl rfl rfl rfl rfl rfl cS I (aH.all _) ?_ (fun _ _ ⟨h,_⟩ _=>by cases h);rintro _ _ ⟨⟨⟩,cs,rfl⟩ I;rw [d8] at I ⊢;unfold cH at I ⊢;refine ht ?_;exact Fin.bu (K:=cH b _) I C aM (by simp only [cH];exact a7) ⟨rfl,_,rfl⟩
     | some eJ=>
      have o7:=ql ag ar;rw [ar] at cS;rw [ar,ah0] at aw;skip;refine aL.ka rfl rfl rfl rfl rfl rfl cS I (aH.all _) ?_ (fun _ _ ⟨h,_⟩ _=>by cases h);rintro _ _ ⟨⟨⟩,rfl⟩ I;rw [d8] at I ⊢;unfold cH at I ⊢;refine jF ?_;exact bF.mk (j+1,eJ) I ⟨az,by show eJ.length=_;omega,aw⟩ cC (by simp only [cH];exact a7) px
   ·refine aa.dc 79 C (by simpa using jT) ?_
    rw [show (decide (x.op=9)&&j==1)=false by simp [jT],f0 bc] at aw;have cS:=cS size ag ag;refine oj ?_;cases ar:visitM p true f k size b2 with
    | none=>
     rw [ar] at cS;rw [ar,ag0] at aw;rw [aw];skip;refine aL.ka rfl rfl rfl rfl rfl rfl cS I (aH.all _) ?_ (fun _ _ ⟨h,_⟩ _=>by cases h);rintro _ _ ⟨⟨⟩,cs,rfl⟩ I;rw [d8] at I ⊢;unfold cH at I ⊢;refine ht ?_;exact Fin.bu (K:=cH b _) I C aM (by simp only [cH];exact a7) ⟨rfl,_,rfl⟩
    | some eJ=>
     have o7:=ql ag ar;rw [ar] at cS;rw [ar,ah0] at aw;skip;refine aL.ka rfl rfl rfl rfl rfl rfl cS I (aH.all _) ?_ (fun _ _ ⟨h,_⟩ _=>by cases h);rintro _ _ ⟨⟨⟩,rfl⟩ I;rw [d8] at I ⊢;unfold cH at I ⊢;refine jF ?_;exact bF.mk (j+1,eJ) I ⟨az,by show eJ.length=_;omega,aw⟩ cC (by simp only [cH];exact a7) px
  ·refine aL.split 63 C (fun h=>absurd gT wc) (fun _=>?_)
   rw [f9 C];refine cD ?_;refine ae.cl [1,2,3,4,5,6,13] C I (σ:=Nat×List Int) (fun q=>[(14,.int .i64 (q.1:Int))]) (fun q=>cH b (q.2.map bb++dN)) (fun q=>q.1≤x.kids.length∧q.2.length=p.nodes.length∧k0 (visitM p true f) (decide (x.op=9)) size 0 x.kids xQ=k0 (visitM p true f) (decide (x.op=9)) size q.1 (x.kids.drop q.1) q.2) (fun q=>x.kids.length-q.1) (0,xQ) ⟨g9 _,lW,rfl⟩ (cI C) (by simp only [cH];exact a7) ?_;rintro ⟨j,b2⟩ ⟨aO,q0,aw⟩ I
   try simp only at aO q0 aw I ⊢
   unfold cH at I ⊢;refine ck ?_;refine ae.cond C (fun az=>?_) (fun a'=>?_);rotate_left
   ·have a':j=x.kids.length:=by simp at a';omega
    rw [eR ag,k0] at aw;rw [aw];refine eH ?_;exact Fin.bu (K:=cH b _) I C aM (by simp only [cH];exact a7) ⟨rfl,rfl⟩
   have az:j<x.kids.length:=by simpa using az
   obtain ⟨k,aD,eu⟩:=cf (f:=bb) az;rw [drop_cons aD,k0] at aw;unfold bb at eu;have cS:=fun s U ad=>aX ag k s U ad b2 q0
   have av:((13-f:Nat):Int)=aa' .i64 (((13-(f+1):Nat):Int)+1):=by rw [er ag ag];omega
   rw [av] at cS;unfold cW cV cH at cS;refine bG ?_;by_cases jT:x.op=9
   ·refine aa.dW 79 C (by simpa using jT) ?_
    refine ga ?_;refine ae.cond C (fun U=>?_) (fun U=>?_)
    ·have U:j=1:=by simp at U;omega
     rw [show (decide (x.op=9)&&j==1)=true by simp [jT,U],f9 C] at aw;have cS:=cS (size+1) ag ag;have An:size+1=aa' .i64 (size+1):=by rw [er ag ag]
     rw [An] at cS aw;refine oj ?_;cases ar:visitM p true f k (aa' .i64 (size+1)) b2 with
     | none=>
      rw [ar] at cS;rw [ar,ag0] at aw;rw [aw];skip;refine aL.ka rfl rfl rfl rfl rfl rfl cS I (aH.all _) ?_ (fun _ _ ⟨h,_⟩ _=>by cases h);rintro _ _ ⟨⟨⟩,cs,rfl⟩ I;rw [d8] at I ⊢;unfold cH at I ⊢;refine ht ?_;exact Fin.bu (K:=cH b _) I C aM (by simp only [cH];exact a7) ⟨rfl,_,rfl⟩
     | some eJ=>
      have o7:=ql ag ar;rw [ar] at cS;rw [ar,ah0] at aw;skip;refine aL.ka rfl rfl rfl rfl rfl rfl cS I (aH.all _) ?_ (fun _ _ ⟨h,_⟩ _=>by cases h);rintro _ _ ⟨⟨⟩,rfl⟩ I;rw [d8] at I ⊢;unfold cH at I ⊢;refine jF ?_;exact bF.mk (j+1,eJ) I ⟨az,by show eJ.length=_;omega,aw⟩ cC (by simp only [cH];exact a7) px
    ·have U:j≠1:=by simp at U;omega
     rw [show (decide (x.op=9)&&j==1)=false by simp [U],f0 bc] at aw;have cS:=cS size ag ag;refine oj ?_;cases ar:visitM p true f k size b2 with
     | none=>
      rw [ar] at cS;rw [ar,ag0] at aw;rw [aw];skip;refine aL.ka rfl rfl rfl rfl rfl rfl cS I (aH.all _) ?_ (fun _ _ ⟨h,_⟩ _=>by cases h);rintro _ _ ⟨⟨⟩,cs,rfl⟩ I;rw [d8] at I ⊢;unfold cH at I ⊢;refine ht ?_;exact Fin.bu (K:=cH b _) I C aM (by simp only [cH];exact a7) ⟨rfl,_,rfl⟩
     | some eJ=>
      have o7:=ql ag ar;rw [ar] at cS;rw [ar,ah0] at aw;skip;refine aL.ka rfl rfl rfl rfl rfl rfl cS I (aH.all _) ?_ (fun _ _ ⟨h,_⟩ _=>by cases h);rintro _ _ ⟨⟨⟩,rfl⟩ I;rw [d8] at I ⊢;unfold cH at I ⊢;refine jF ?_;exact bF.mk (j+1,eJ) I ⟨az,by show eJ.length=_;omega,aw⟩ cC (by simp only [cH];exact a7) px
   ·refine aa.dc 79 C (by simpa using jT) ?_
    rw [show (decide (x.op=9)&&j==1)=false by simp [jT],f0 bc] at aw;have cS:=cS size ag ag;refine oj ?_;cases ar:visitM p true f k size b2 with
    | none=>
     rw [ar] at cS;rw [ar,ag0] at aw;rw [aw];skip;refine aL.ka rfl rfl rfl rfl rfl rfl cS I (aH.all _) ?_ (fun _ _ ⟨h,_⟩ _=>by cases h);rintro _ _ ⟨⟨⟩,cs,rfl⟩ I;rw [d8] at I ⊢;unfold cH at I ⊢;refine ht ?_;exact Fin.bu (K:=cH b _) I C aM (by simp only [cH];exact a7) ⟨rfl,_,rfl⟩
    | some eJ=>
     have o7:=ql ag ar;rw [ar] at cS;rw [ar,ah0] at aw;skip;refine aL.ka rfl rfl rfl rfl rfl rfl cS I (aH.all _) ?_ (fun _ _ ⟨h,_⟩ _=>by cases h);rintro _ _ ⟨⟨⟩,rfl⟩ I;rw [d8] at I ⊢;unfold cH at I ⊢;refine jF ?_;exact bF.mk (j+1,eJ) I ⟨az,by show eJ.length=_;omega,aw⟩ cC (by simp only [cH];exact a7) px
 | false=>
  by_cases wc:x.op=18
  ·rw [show (decide (x.op≠18)||false)=false by simp [wc],f0 bc]
   refine aL.split 63 C (fun _=>?_) (fun h=>absurd wc gT);refine ht ?_;exact Fin.bu (K:=cH b _) I C aM (by simp only [cH];exact a7) ⟨rfl,_,rfl⟩
  ·rw [show (decide (x.op≠18)||false)=true by simp [wc]]
   refine aL.split 63 C (fun h=>absurd gT wc) (fun _=>?_);rw [f9 C];refine cD ?_;refine ae.cl [1,2,3,4,5,6,13] C I (σ:=Nat×List Int) (fun q=>[(14,.int .i64 (q.1:Int))]) (fun q=>cH b (q.2.map bb++dN)) (fun q=>q.1≤x.kids.length∧q.2.length=p.nodes.length∧k0 (visitM p false f) (decide (x.op=9)) size 0 x.kids xQ=k0 (visitM p false f) (decide (x.op=9)) size q.1 (x.kids.drop q.1) q.2) (fun q=>x.kids.length-q.1) (0,xQ) ⟨g9 _,lW,rfl⟩ (cI C) (by simp only [cH];exact a7) ?_;rintro ⟨j,b2⟩ ⟨aO,q0,aw⟩ I
   try simp only at aO q0 aw I ⊢
   unfold cH at I ⊢;refine ck ?_;refine ae.cond C (fun az=>?_) (fun a'=>?_);rotate_left
   ·have a':j=x.kids.length:=by simp at a';omega
    rw [eR ag,k0] at aw;rw [aw];refine eH ?_;exact Fin.bu (K:=cH b _) I C aM (by simp only [cH];exact a7) ⟨rfl,rfl⟩
   have az:j<x.kids.length:=by simpa using az
   obtain ⟨k,aD,eu⟩:=cf (f:=bb) az;rw [drop_cons aD,k0] at aw;unfold bb at eu;have cS:=fun s U ad=>aX ag k s U ad b2 q0
   have av:((13-f:Nat):Int)=aa' .i64 (((13-(f+1):Nat):Int)+1):=by rw [er ag ag];omega
   rw [av] at cS;unfold cW cV cH at cS;refine bG ?_;by_cases jT:x.op=9
   ·refine aa.dW 79 C (by simpa using jT) ?_
    refine ga ?_;refine ae.cond C (fun U=>?_) (fun U=>?_)
    ·have U:j=1:=by simp at U;omega
     rw [show (decide (x.op=9)&&j==1)=true by simp [jT,U],f9 C] at aw;have cS:=cS (size+1) ag ag;have An:size+1=aa' .i64 (size+1):=by rw [er ag ag]
     rw [An] at cS aw;refine oj ?_;cases ar:visitM p false f k (aa' .i64 (size+1)) b2 with
     | none=>
      rw [ar] at cS;rw [ar,ag0] at aw;rw [aw];skip;refine aL.ka rfl rfl rfl rfl rfl rfl cS I (aH.all _) ?_ (fun _ _ ⟨h,_⟩ _=>by cases h);rintro _ _ ⟨⟨⟩,cs,rfl⟩ I;rw [d8] at I ⊢;unfold cH at I ⊢;refine ht ?_;exact Fin.bu (K:=cH b _) I C aM (by simp only [cH];exact a7) ⟨rfl,_,rfl⟩
     | some eJ=>
      have o7:=ql ag ar;rw [ar] at cS;rw [ar,ah0] at aw;skip;refine aL.ka rfl rfl rfl rfl rfl rfl cS I (aH.all _) ?_ (fun _ _ ⟨h,_⟩ _=>by cases h);rintro _ _ ⟨⟨⟩,rfl⟩ I;rw [d8] at I ⊢;unfold cH at I ⊢;refine jF ?_;exact bF.mk (j+1,eJ) I ⟨az,by show eJ.length=_;omega,aw⟩ cC (by simp only [cH];exact a7) px
    ·have U:j≠1:=by simp at U;omega
     rw [show (decide (x.op=9)&&j==1)=false by simp [U],f0 bc] at aw;have cS:=cS size ag ag;refine oj ?_;cases ar:visitM p false f k size b2 with
     | none=>
      rw [ar] at cS;rw [ar,ag0] at aw;rw [aw];skip;refine aL.ka rfl rfl rfl rfl rfl rfl cS I (aH.all _) ?_ (fun _ _ ⟨h,_⟩ _=>by cases h);rintro _ _ ⟨⟨⟩,cs,rfl⟩ I;rw [d8] at I ⊢;unfold cH at I ⊢;refine ht ?_;exact Fin.bu (K:=cH b _) I C aM (by simp only [cH];exact a7) ⟨rfl,_,rfl⟩
     | some eJ=>
      have o7:=ql ag ar;rw [ar] at cS;rw [ar,ah0] at aw;skip;refine aL.ka rfl rfl rfl rfl rfl rfl cS I (aH.all _) ?_ (fun _ _ ⟨h,_⟩ _=>by cases h);rintro _ _ ⟨⟨⟩,rfl⟩ I;rw [d8] at I ⊢;unfold cH at I ⊢;refine jF ?_;exact bF.mk (j+1,eJ) I ⟨az,by show eJ.length=_;omega,aw⟩ cC (by simp only [cH];exact a7) px
   ·refine aa.dc 79 C (by simpa using jT) ?_
    rw [show (decide (x.op=9)&&j==1)=false by simp [jT],f0 bc] at aw;have cS:=cS size ag ag;refine oj ?_;cases ar:visitM p false f k size b2 with
    | none=>
     rw [ar] at cS;rw [ar,ag0] at aw;rw [aw];skip;refine aL.ka rfl rfl rfl rfl rfl rfl cS I (aH.all _) ?_ (fun _ _ ⟨h,_⟩ _=>by cases h);rintro _ _ ⟨⟨⟩,cs,rfl⟩ I;rw [d8] at I ⊢;unfold cH at I ⊢;refine ht ?_;exact Fin.bu (K:=cH b _) I C aM (by simp only [cH];exact a7) ⟨rfl,_,rfl⟩
    | some eJ=>
     have o7:=ql ag ar;rw [ar] at cS;rw [ar,ah0] at aw;skip;refine aL.ka rfl rfl rfl rfl rfl rfl cS I (aH.all _) ?_ (fun _ _ ⟨h,_⟩ _=>by cases h);rintro _ _ ⟨⟨⟩,rfl⟩ I;rw [d8] at I ⊢;unfold cH at I ⊢;refine jF ?_;exact bF.mk (j+1,eJ) I ⟨az,by show eJ.length=_;omega,aw⟩ cC (by simp only [cH];exact a7) px
theorem VB {g:List (List Int)} {i:Nat} {l:List Int} (aB:g[i]? = some l) (h:3<l.length):lU g=false:=by
 rw [ae9];intro au;have:=(zD au).par i l aB;omega
theorem VC (p:bK) (aE:fD p):aU d0 136 [cW p] (.bool (nG p)):=by
 have an:=bC;have fO:nG p=(decide (p.bT.length≤10)&&((kZ 0 p.bT==some p.bj)&&(lU (gH p)&&qb p 0 p.bT))):=rfl;have cu:=aE.cls;have jI:(gH p).length=p.bT.length:=f5 _;have dZ:=LF p aE;have Mi:=SQ (gH p) ag;have gu:=fun h=>LG p aE h
 refine aU.bn aj Tryz.func136 C C fun s I=>?_
 unfold cW cV fw fu dv bk at *;refine ck ?_;refine ae.cond C (fun h=>?_) (fun h=>?_)
 ·rw [show decide (p.bT.length≤10)=false by simp at h ⊢;omega,f7] at fO
  refine gO ?_;exact Fin.cL I C (aR.of_eq (ac5 af.bool fO.symm))
 have Mj:p.bT.length≤10:=by simp at h;omega
 rw [i6 Mj,f4] at fO;refine j5 ?_;refine ae.cl [1] C I (σ:=Nat×Int) (fun q=>[(4,.int .i64 (q.1:Int)),(3,.int .i64 q.2)]) (fun _=>[]) (fun q=>q.1≤p.bT.length∧kZ 0 p.bT=kZ q.2 (p.bT.drop q.1)∧0≤q.2∧q.2≤4*q.1) (fun q=>p.bT.length-q.1) (0,0) ⟨g9 _,rfl,aj4 _,by omega⟩ (cI C) a7 ?_;rintro ⟨j,n⟩ ⟨aO,aw,xy,GA⟩ I
 try simp only at aO aw xy GA I ⊢
 refine ck ?_;refine ae.cond C (fun az=>?_) (fun a'=>?_)
 ·have az:j<p.bT.length:=by simpa using az
  obtain ⟨c,aF,my⟩:=cf (f:=gI) az;obtain ⟨b7,bR,eE⟩:=aE.each c (d6 aF);rw [drop_cons aF,kZ] at aw;unfold gI lv bk at my;refine ej ?_;by_cases bd:c.bj.length≤4;rotate_left
  ·rw [f0 bd] at aw
   rw [aw,show (none==some p.bj)=false from rfl,f7] at fO;refine aa.dW 36 C cO ?_;refine fB ?_;exact Fin.cL I C (aR.of_eq (ac5 af.bool fO.symm))
  rw [f9 bd] at aw;refine aa.dc 36 C cO ?_;refine ej ?_;refine ae.cond C (fun al=>?_) (fun al=>?_)
  ·have al:3<c.parents.length:=by simp at al;omega
   rw [VB (g:=gH p) (i:=j) (l:=c.parents) (by unfold gH;rw [ad7,aF];rfl) al,f7,ai5] at fO;refine kx ?_;exact Fin.cL I C (aR.of_eq (ac5 af.bool fO.symm))
  refine j5 ?_;refine ae.cl [1,4,5] C I (σ:=Nat) (fun k=>[(6,.int .i64 (k:Int)),(3,.int .i64 (n+k))]) (fun _=>[]) (fun k=>k≤c.bj.length∧m2 n c.bj=m2 (n+k) (c.bj.drop k)) (fun k=>c.bj.length-k) 0 ⟨g9 _,by rw [aj'];congr 1;omega⟩ (by repeat (first|exact trivial|refine ⟨⟨_,rfl,aM⟩,?_⟩|refine ⟨⟨_,rfl,aR.of_eq (by (congr 1;omega))⟩,?_⟩)) a7 ?_;rintro k ⟨aD,bm⟩ I
  try simp only at aD bm I ⊢
  refine ck ?_;refine ae.cond C (fun cU=>?_) (fun et=>?_)
  ·have cU:k<c.bj.length:=by simpa using cU
   obtain ⟨y,ax,da⟩:=cf (f:=bb) cU;rw [drop_cons ax,m2] at bm;unfold bb at da;refine ej ?_;refine ae.cond C (fun cp=>?_) (fun he=>?_)
   ·have cp:y≠n+k:=by simpa using cp
    rw [f0 cp] at bm;rw [aw,bm,ag0,show (none==some p.bj)=false from rfl,f7] at fO;refine kx ?_;exact Fin.cL I C (aR.of_eq (ac5 af.bool fO.symm))
   have he:y=n+k:=by simpa using he
   rw [f9 he] at bm;refine gg ?_;exact bF.mk (k+1) I ⟨cU,by rw [bm];congr 1;push_cast;omega⟩ (by repeat (first|exact trivial|refine ⟨⟨_,rfl,aM⟩,?_⟩|refine ⟨⟨_,rfl,aR.of_eq (by (first|rw [kV ag]|(rw [er ag ag];congr 1;push_cast;omega)))⟩,?_⟩)) a7 CD
  ·have et:k=c.bj.length:=by simp at et;omega
   rw [eR ag,m2] at bm;rw [bm,ah0] at aw;refine bG ?_;exact bF.mk (j+1,n+k) I ⟨az,aw,by show 0≤n+(k:Int);omega,by show n+(k:Int)≤4*((j+1:Nat):Int);omega⟩ cC a7 xE
 have a':j=p.bT.length:=by simp at a';omega
 rw [eR ag,kZ] at aw;rw [aw] at fO;have gh:=(Cw (i:=0) aw).1;have gu:=gu ag;refine di ?_;by_cases ao:n=p.bj;rotate_left
 ·rw [show (some n==some p.bj)=false by simpa using ao,f7] at fO
  refine aa.dW 66 C (by simpa using ao) ?_;refine dT ?_;exact Fin.cL I C (aR.of_eq (ac5 af.bool fO.symm))
 refine aa.dc 66 C (by simpa using ao) ?_;rw [show (some n==some p.bj)=true by simpa using ao,f4] at fO;cases kr:lU (gH p) with
 | false=>
  rw [kr,f7] at fO;rw [kr] at Mi;refine cD ?_;exact Fin.cL I C (aR.of_eq (ac5 af.bool fO.symm))
 | true=>
 rw [kr,f4] at fO;rw [kr] at Mi;have lO:=zD kr;have qv:=Ki Mj aw kr;subst ao;have Mk:=fun c aF=>S0 (gH p) lO c aF
 have Ml:=fun c bx o U ad=>UJ (b3 p) qv c bx o U ad
 have VD:=fun i h s=>SK aw qv (i:=i) h s
 have hIn:=fun n=>LD n
 have qk:(b3 p).ps.length=p.bT.length:=jI;have pZ:((b3 p).owner.length:Int)=p.bj:=by
  have:(b3 p).owner=eQ 0 p.bT:=rfl;rw [this];omega
 unfold fw fu dv bk at Ml;unfold dv bk at Mk;refine fP ?_;refine ae.cl [1,3,7,8] C I (σ:=Nat) (fun j=>[(9,.int .i64 (j:Int))]) (fun _=>[]) (fun j=>j≤p.bT.length∧qb p 0 p.bT=qb p j (p.bT.drop j)) (fun j=>p.bT.length-j) 0 ⟨g9 _,rfl⟩ (cI C) a7 ?_;rintro i ⟨aS,cZ⟩ I
 try simp only at aS cZ I ⊢
 refine ck ?_;refine ae.cond C (fun az=>?_) (fun a'=>?_);rotate_left
 ·have a':i=p.bT.length:=by simp at a';omega
  rw [eR ag,qb] at cZ;rw [cZ] at fO;refine eH ?_;exact Fin.cL I C (aR.of_eq (ac5 af.bool fO.symm))
 have az:i<p.bT.length:=by simpa using az
 obtain ⟨c,aF,my⟩:=cf (f:=gI) az;obtain ⟨b7,bR,eE⟩:=aE.each c (d6 aF);rw [drop_cons aF,qb,Fx] at cZ;have xO:=Mk (3+i) ag;have iP:(((3+i:Nat):Int))=aa' .i64 ((i:Int)+3):=by rw [er ag ag];omega
 have hle:xt p (i+3)=(fo (gH p) (2+(gH p).length)).getD (3+i) []:=by unfold xt;rw [ao7 3 i]
 rw [← hle,iP] at xO;unfold gI lv bk at my;cases he:(xt p (i+3)).isEmpty with
 | true=>
  rw [he] at xO;rw [he,ah7,f7,f7] at cZ;rw [cZ] at fO;refine cD ?_;exact Fin.cL I C (aR.of_eq (ac5 af.bool fO.symm))
 | false=>
 rw [he] at xO;rw [he,ah3,f4] at cZ;refine cD ?_;refine ae.cl [1,3,7,8,9,10,13] C I (σ:=Nat) (fun k=>[(14,.int .i64 (k:Int))]) (fun _=>[]) (fun k=>k≤c.inits.length∧qa (ou p i) [] c.inits=qa (ou p i) ((c.inits.take k).map iE.slot) (c.inits.drop k)) (fun k=>c.inits.length-k) 0 ⟨g9 _,rfl⟩ (cI C) a7 ?_;rintro k ⟨aD,bm⟩ I
 try simp only at aD bm I ⊢
 refine ck ?_;refine ae.cond C (fun cU=>?_) (fun et=>?_);rotate_left
 ·have et:k=c.inits.length:=by simp at et;omega
  rw [eR ag,qa] at bm;rw [bm,f4] at cZ;refine bG ?_;exact bF.mk (i+1) I ⟨az,cZ⟩ cC a7 (by show p.bT.length-(i+1)<p.bT.length-i;omega)
 have cU:k<c.inits.length:=by simpa using cU
 obtain ⟨x,ab,ct⟩:=cf (f:=vK) cU;rw [drop_cons ab,qa,VD i az] at bm;unfold vK at ct;refine p6 ?_;by_cases g1:x.slot<0
 ·refine aL.split 108 C (fun _=>?_) (fun h=>absurd h (by simpa using g1))
  rw [show decide (x.slot≥0)=false by simp;omega,f7,f7] at bm;rw [bm] at cZ;rw [f7] at cZ;rw [cZ] at fO;refine ht ?_;exact Fin.cL I C (aR.of_eq (ac5 af.bool fO.symm))
 refine aL.split 108 C (fun h=>absurd gT g1) (fun _=>?_);rw [show decide (x.slot≥0)=true by simp;omega,f4] at bm;refine di ?_;by_cases g2:x.slot<p.bj;rotate_left
 ·refine aL.split 117 C (fun _=>?_) (fun h=>absurd h cO)
  rw [show decide (x.slot<p.bj)=false by simp;omega,f7,f7] at bm;rw [bm] at cZ;rw [f7] at cZ;rw [cZ] at fO;refine ht ?_;exact Fin.cL I C (aR.of_eq (ac5 af.bool fO.symm))
 refine aL.split 117 C (fun h=>absurd h cO) (fun _=>?_);rw [i6 g2,f4] at bm;obtain ⟨bx,dj⟩:∃ bx:Nat,x.slot=bx:=⟨x.slot.toNat,by omega⟩;obtain ⟨o,ah⟩:∃ o,(b3 p).owner[bx]? = some o:=⟨_,f8 ag⟩;have lL:=qv.own o (d6 ah);obtain ⟨GI,rfl⟩:∃ q:Nat,o=q:=⟨o.toNat,by omega⟩;have sW:=Ml (3+i) bx GI ag ah;rw [show (b3 p).owner.getD x.slot.toNat 0=(GI:Int) by rw [dj,ac3,d5,ah];rfl,ac3] at bm;rw [iP,← dj] at sW;cases g3:((eI (b3 p).ps).getD (3+i) 0).testBit GI with
 | false=>
  rw [g3,f7] at bm;rw [g3] at sW;refine cD ?_;rw [bm] at cZ;rw [f7] at cZ;rw [cZ] at fO;skip;exact Fin.cL I C (aR.of_eq (ac5 af.bool fO.symm))
 | true=>
 rw [g3,f4] at bm;rw [g3] at sW;have ff:=hIn x.n;cases g4:j8 x.n with
 | false=>
  rw [g4,f7,ai5] at bm;rw [g4] at ff;refine cD ?_;rw [bm] at cZ;rw [f7] at cZ;rw [cZ] at fO;skip;exact Fin.cL I C (aR.of_eq (ac5 af.bool fO.symm))
 | true=>
 rw [g4,f4] at bm;rw [g4] at ff;refine cD ?_;refine ae.cl [1,3,7,8,9,10,13,14] C I (σ:=Nat) (fun j=>[(15,.int .i64 (j:Int))]) (fun _=>[]) (fun j=>j≤k∧((c.inits.take j).map iE.slot).contains x.slot=false) (fun j=>k-j) 0 ⟨g9 _,by simp⟩ (cI C) a7 ?_;rintro j ⟨aO,b6⟩ I
 try simp only at aO b6 I ⊢
 refine ck ?_;refine ae.cond C (fun k1=>?_) (fun lu=>?_);rotate_left
 ·have lu:j=k:=by simp at lu;omega
  subst lu;rw [b6,ah3,f4] at bm;have hv:(c.inits.take (j+1)).map iE.slot=(c.inits.take j).map iE.slot++[x.slot]:=by rw [js ab,ac2];rfl
  rw [← hv] at bm;refine bG ?_;exact bF.mk (j+1) I ⟨cU,bm⟩ cC a7 (by show c.inits.length-(j+1)<c.inits.length-j;omega)
 have k1:j<k:=by simpa using k1
 obtain ⟨y,ax,da⟩:=cf (f:=vK) (l:=c.inits) (j:=j) ag;unfold vK at da;refine p6 ?_;refine ae.cond C (fun yU=>?_) (fun GJ=>?_)
 ·have yU:y.slot=x.slot:=by simpa using yU
  have:((c.inits.take k).map iE.slot).contains x.slot=true:=by
   rw [af8];refine ad2.2 ⟨y,?_,yU⟩;exact d6 (show (c.inits.take k)[j]? = some y by rw [af',f9 k1,ax])
  rw [this,ah7,f7] at bm;rw [bm] at cZ;rw [f7] at cZ;rw [cZ] at fO;refine kx ?_;exact Fin.cL I C (aR.of_eq (ac5 af.bool fO.symm))
 have GJ:y.slot≠x.slot:=by simpa using GJ
 refine gg ?_;exact bF.mk (j+1) I ⟨k1,by rw [js ax,ac2,al2,b6,af1];simpa using GJ.symm⟩ cC a7 (by show k-(j+1)<k-j;omega)
def Mm (p:bK) (o:eo) (_K:a6):Prop:=∃ v,o = .ret (.cg [v,.bool (fs p)])
theorem VE (p:bK) (aE:fD p):bz d0 93 [cW p] [] (Mm p):=by
 have an:=bC;have gx:fs p=(m4 p).isSome:=rfl;have b6:m4 p=if nG p&&qc p then (m3 p p.methods (t6 p.nodes.length (-1))).bind fun out=>(visitM p false 12 p.main 0 out).bind fun out=>if out.contains (-1) then none else some out else none:=rfl
 have bY:qc p=(decide (p.cR.length≤8)&&(decide (p.methods.length≤16)&&(decide (p.nodes.length≥1)&&(decide (p.nodes.length≤120)&&p.cR.all fun n=>decide (n≥1)&&decide (n≤3))))):=rfl;have fO:=VC p aE;have gu:=fun h=>LG p aE h
 refine bz.bn aj Tryz.func93 C C fun s I=>?_
 unfold Mm;unfold cW cV fw fu dv bk at *;cases Ao:nG p with
 | false=>
  rw [Ao] at fO;rw [Ao,f7,f0 bc] at b6;rw [b6] at gx;refine cD ?_;exact Fin.bu (K:=[]) I C aM .nil ⟨_,by rw [gx];rfl⟩
 | true=>
 rw [Ao] at fO;rw [Ao,f4] at b6;refine cD ?_;by_cases g1:p.cR.length≤8;rotate_left
 ·rw [H1 g1,f7] at bY
  rw [bY,f0 bc] at b6;rw [b6] at gx;refine aa.dW 20 C cO ?_;refine dT ?_;exact Fin.bu (K:=[]) I C aM .nil ⟨_,by rw [gx];rfl⟩
 refine aa.dc 20 C cO ?_;rw [i6 g1,f4] at bY;refine dD ?_;by_cases g2:p.methods.length≤16;rotate_left
 ·rw [H1 g2,f7] at bY
  rw [bY,f0 bc] at b6;rw [b6] at gx;refine aa.dW 26 C cO ?_;refine dT ?_;exact Fin.bu (K:=[]) I C aM .nil ⟨_,by rw [gx];rfl⟩
 refine aa.dc 26 C cO ?_;rw [i6 g2,f4] at bY;refine dD ?_;by_cases g3:p.nodes.length≥1;rotate_left
 ·rw [H1 g3,f7] at bY
  rw [bY,f0 bc] at b6;rw [b6] at gx;refine aa.dW 32 C cO ?_;refine dT ?_;exact Fin.bu (K:=[]) I C aM .nil ⟨_,by rw [gx];rfl⟩
 refine aa.dc 32 C cO ?_;rw [i6 g3,f4] at bY;refine ga ?_;refine ae.cond C (fun h=>?_) (fun h=>?_)
 ·rw [show decide (p.nodes.length≤120)=false by simp at h ⊢;omega,f7] at bY
  rw [bY,f0 bc] at b6;rw [b6] at gx;refine gO ?_;exact Fin.bu (K:=[]) I C aM .nil ⟨_,by rw [gx];rfl⟩
 have g4:p.nodes.length≤120:=by simp at h;omega
 rw [i6 g4,f4] at bY;refine j5 ?_;refine ae.cl [1] C I (σ:=Nat) (fun j=>[(4,.int .i64 (j:Int))]) (fun _=>[]) (fun j=>j≤p.cR.length∧(p.cR.all fun n=>decide (n≥1)&&decide (n≤3))=(p.cR.drop j).all fun n=>decide (n≥1)&&decide (n≤3)) (fun j=>p.cR.length-j) 0 ⟨g9 _,rfl⟩ (cI C) a7 ?_;rintro j ⟨aO,aw⟩ I
 try simp only at aO aw I ⊢
 refine ck ?_;refine ae.cond C (fun az=>?_) (fun a'=>?_)
 ·have az:j<p.cR.length:=by simpa using az
  obtain ⟨x,ab,ct⟩:=cf (f:=bb) az;rw [drop_cons ab,List.all_cons] at aw;unfold bb at ct;refine ej ?_;by_cases U:x≥1;rotate_left
  ·rw [H1 U,f7,f7] at aw
   rw [bY,aw,f0 bc] at b6;rw [b6] at gx;refine aa.dW 51 C cO ?_;refine fB ?_;exact Fin.bu (K:=[]) I C aM .nil ⟨_,by rw [gx];rfl⟩
  refine aa.dc 51 C cO ?_;rw [i6 U,f4] at aw;refine ej ?_;refine ae.cond C (fun al=>?_) (fun al=>?_)
  ·rw [show decide (x≤3)=false by simp at al ⊢;omega,f7] at aw
   rw [bY,aw,f0 bc] at b6;rw [b6] at gx;refine kx ?_;exact Fin.bu (K:=[]) I C aM .nil ⟨_,by rw [gx];rfl⟩
  rw [show decide (x≤3)=true by simp at al ⊢;omega,f4] at aw;refine gg ?_;exact bF.mk (j+1) I ⟨az,aw⟩ cC a7 (by show p.cR.length-(j+1)<p.cR.length-j;omega)
 have a':j=p.cR.length:=by simp at a';omega
 rw [eR ag,List.all_nil] at aw;rw [aw] at bY;rw [bY,f9 C] at b6;have VF:∀ n∈p.cR,1≤n∧n≤3:=fun n aA=>by
  have:=ae'.1 aw n aA;simpa using this
 clear bY fO;refine bG ?_;refine ae.cl [1] C I (σ:=Nat×qt) (fun q=>[(6,.int .i64 (q.1:Int)),(5,kF q.2 (t6 q.1 (-1)))]) (fun q=>ju q.2 (t6 q.1 (-1))) (fun q=>q.1≤p.nodes.length∧rA q.2 (t6 q.1 (-1))) (fun q=>p.nodes.length-q.1) (0,none) ⟨g9 _,rfl⟩ (cI C) .nil ?_;rintro ⟨k3,bx⟩ ⟨xR,dj⟩ I
 try simp only at xR dj I ⊢
 refine ck ?_;refine ae.cond C (fun az=>?_) (fun et=>?_)
 ·have az:k3<p.nodes.length:=by simpa using az
  cases bx with
  | none=>
   have VG:k3=0:=by
    have:t6 k3 (-1:Int)=[]:=dj;simpa using this
   subst VG;dsimp only [kF,ju] at I ⊢;refine ej ?_;refine aa.Cc aj I C C C C C C C ef C C C C C C C (by show 1*8≤_;omega) (fun aT b8 cs' cv db e8 I=>?_);refine hI ?_
   obtain ⟨dN,rfl⟩:∃ dN,cs'=(t6 1 (-1)).map bb++dN:=⟨cs'.drop 1,by
    conv=>lhs;rw [← ag4 1 cs',e8]
    rfl⟩
   exact bF.mk (1,some (aT,b8,dN)) I ⟨by show 1≤p.nodes.length;omega,by show (t6 1 (-1)).length+dN.length=b8;rw [← cv];simp;omega⟩ (by repeat (first|exact trivial|refine ⟨⟨_,rfl,aM⟩,?_⟩|refine ⟨⟨_,rfl,aR.of_eq (by (first|rfl|rw [er ag ag];rfl))⟩,?_⟩)) (by simp only [ju];exact a7) (by show p.nodes.length-1<p.nodes.length-0;omega)
  | some t=>
   obtain ⟨b,cap,dN⟩:=t;have dj:(t6 k3 (-1:Int)).length+dN.length=cap:=dj;rw [ad'] at dj;dsimp only [kF,ju] at I ⊢;rw [ad'];refine ej ?_;refine aa.Cd aj I C C C C C C C ef C C C C aV cO ag Gv C C C (by show _*8≤_;omega) ag (fun aT b8 cs' cv db e8 I=>?_);refine hI ?_;rw [an7 bc] at e8
   obtain ⟨mE,rfl⟩:∃ mE,cs'=(t6 (k3+1) (-1)).map bb++mE:=⟨cs'.drop (k3+1),by
    conv=>lhs;rw [← ag4 (k3+1) cs',e8]
    rw [am6,ac2];rfl⟩
   exact bF.mk (k3+1,some (aT,b8,mE)) I ⟨az,by show (t6 (k3+1) (-1)).length+mE.length=b8;rw [← cv];simp⟩ (by repeat (first|exact trivial|refine ⟨⟨_,rfl,aM⟩,?_⟩|refine ⟨⟨_,rfl,aR.of_eq (by (first|rw [kV ag]|(simp only [kF,ad'])))⟩,?_⟩)) (by simp only [ju];exact a7) (by show p.nodes.length-(k3+1)<p.nodes.length-k3;omega)
 have et:k3=p.nodes.length:=by simp at et;omega
 subst et;cases bx with
 | none=>
  have:t6 p.nodes.length (-1:Int)=[]:=dj;have:=ac5 List.length this;simp at this;rw [this] at g3;simp at g3
 | some t=>
 obtain ⟨b,cap,dN⟩:=t;have qv:=Fz Ao;have gh:(eQ 0 p.bT).length<bt:=by
  have:=qv.bj;have e:(b3 p).owner=eQ 0 p.bT:=rfl;rw [e] at this;omega
 have gu:=gu gh;have oh:=fun f h=>UB (b3 p) qv.j9 f h
 have xS:=fun f h=>Uy (b3 p) f.size f (i0 _) h
 have aY:=fun k=>UL k
 unfold fw fu dv bk at oh;dsimp only [kF,ju] at I ⊢;rw [ad'];refine fP ?_;refine ae.cl [1,5,7] C I (σ:=Nat×List Int) (fun q=>[(8,.int .i64 (q.1:Int))]) (fun q=>cH b (q.2.map bb++dN)) (fun q=>q.1≤p.methods.length∧m3 p p.methods (t6 p.nodes.length (-1))=m3 p (p.methods.drop q.1) q.2∧q.2.length=p.nodes.length∧∀ x∈q.2,(-1:Int)≤x) (fun q=>p.methods.length-q.1) (0,t6 p.nodes.length (-1)) ⟨g9 _,rfl,ad',fun x ab=>by rw [(List.mem_replicate.1 ab).2];exact aj4 _⟩ (cI C) (by simp only [cH];exact a7) ?_;rintro ⟨i,out⟩ ⟨aS,e7,lW,GK⟩ I
 try simp only at aS e7 lW GK I ⊢
 unfold cH at I ⊢;refine ck ?_;refine ae.cond C (fun az=>?_) (fun lu=>?_)
 ·have az:i<p.methods.length:=by simpa using az
  obtain ⟨m,hm,BM⟩:=cf (f:=jf) az;have GL:=aE.facts m (d6 hm);rw [drop_cons hm,m3] at e7;have cB:sI p m=(decide (m.kind≥1)&&(decide (m.kind≤4)&&(decide (m.gen≥0)&&(decide (m.gen<(p.cR.length:Int))&&(il (b3 p) m.fact&&decide (kY m.fact≤p.cR.getD m.gen.toNat 0)))))):=rfl;have oh:=oh m.fact ag;have xS:=xS m.fact ag;have aY:=aY m.kind;rw [aq.cE] at oh xS;unfold aq.cells at oh xS;unfold jf oz at BM;refine fP ?_;by_cases cv:m.kind≥1;rotate_left
  ·refine aL.split 86 C (fun _=>?_) (fun h=>absurd h cO)
   rw [H1 cv,f7] at cB;rw [cB,f0 bc] at e7;rw [e7,ag0] at b6;rw [b6] at gx;refine ht ?_;exact Fin.bu (K:=[]) I C aM .nil ⟨_,by rw [gx];rfl⟩
  refine aL.split 86 C (fun h=>absurd h cO) (fun _=>?_);rw [i6 cv,f4] at cB;refine kW ?_;by_cases db:m.kind≤4;rotate_left
  ·refine aL.split 91 C (fun _=>?_) (fun h=>absurd h cO)
   rw [H1 db,f7] at cB;rw [cB,f0 bc] at e7;rw [e7,ag0] at b6;rw [b6] at gx;refine ht ?_;exact Fin.bu (K:=[]) I C aM .nil ⟨_,by rw [gx];rfl⟩
  refine aL.split 91 C (fun h=>absurd h cO) (fun _=>?_);rw [i6 db,f4] at cB;refine kW ?_;by_cases e8:m.gen≥0;rotate_left
  ·refine aL.split 96 C (fun _=>?_) (fun h=>absurd h cO)
   rw [H1 e8,f7] at cB;rw [cB,f0 bc] at e7;rw [e7,ag0] at b6;rw [b6] at gx;refine ht ?_;exact Fin.bu (K:=[]) I C aM .nil ⟨_,by rw [gx];rfl⟩
  refine aL.split 96 C (fun h=>absurd h cO) (fun _=>?_);rw [i6 e8,f4] at cB;refine kW ?_;by_cases ew:m.gen<(p.cR.length:Int);rotate_left
  ·refine aL.split 104 C (fun _=>?_) (fun h=>absurd h cO)
   rw [H1 ew,f7] at cB;rw [cB,f0 bc] at e7;rw [e7,ag0] at b6;rw [b6] at gx;refine ht ?_;exact Fin.bu (K:=[]) I C aM .nil ⟨_,by rw [gx];rfl⟩
  refine aL.split 104 C (fun h=>absurd h cO) (fun _=>?_);rw [i6 ew,f4] at cB;cases jy:il (b3 p) m.fact with
  | false=>
   rw [jy] at oh;rw [jy,f7] at cB;refine cD ?_;rw [cB,f0 bc] at e7;rw [e7,ag0] at b6;rw [b6] at gx;skip;exact Fin.bu (K:=[]) I C aM .nil ⟨_,by rw [gx];rfl⟩
  | true=>
  rw [jy] at oh;rw [jy,f4] at cB;have xS:=xS (tJ _ _ _ _ jy);obtain ⟨q,bp⟩:∃ q:Nat,m.gen=q:=⟨m.gen.toNat,by omega⟩;obtain ⟨y,ax,da⟩:=cf (f:=bb) (l:=p.cR) (j:=q) ag;have z':p.cR.getD m.gen.toNat 0=y:=by rw [bp,ac3,d5,ax];rfl
  have abe:=VF y (d6 ax);rw [z'] at cB e7;unfold bb at da;rw [bp] at BM ⊢;refine di ?_;refine ae.cond C (fun iY=>?_) (fun iY=>?_)
  ·have iY:¬ kY m.fact≤y:=by simp at iY;omega
   rw [H1 iY] at cB;rw [cB,f0 bc] at e7;rw [e7,ag0] at b6;rw [b6] at gx;refine kx ?_;exact Fin.bu (K:=[]) I C aM .nil ⟨_,by rw [gx];rfl⟩
  have iY:kY m.fact≤y:=by simp at iY;omega
  rw [i6 iY] at cB;rw [cB,f9 C] at e7;have qw:=Mh p aE g4 (sJ m.kind) b dN cap 12 (i0 _) m.node y ag ag out lW;unfold cW cV bk cH at qw;cases ar:visitM p (sJ m.kind) 12 m.node y out with
  | none=>
   rw [ar] at qw;rw [ar,ag0] at e7;rw [e7,ag0] at b6;rw [b6] at gx;refine oj ?_;refine aL.ka rfl rfl rfl rfl rfl rfl qw I (aH.all _) ?_ (fun _ _ ⟨h,_⟩ _=>by cases h);rintro _ _ ⟨⟨⟩,cs,rfl⟩ I;rw [d8] at I ⊢;unfold cH at I ⊢;refine ht ?_;skip;exact Fin.bu (K:=[]) I C aM .nil ⟨_,by rw [gx];rfl⟩
  | some eJ=>
   have o7:=ql ag ar;have GM:=LJ ag GK ar;rw [ar] at qw;rw [ar,ah0] at e7;refine oj ?_;refine aL.ka rfl rfl rfl rfl rfl rfl qw I (aH.all _) ?_ (fun _ _ ⟨h,_⟩ _=>by cases h);rintro _ _ ⟨⟨⟩,rfl⟩ I;rw [d8] at I ⊢;unfold cH at I ⊢;refine jF ?_;exact bF.mk (i+1,eJ) I ⟨az,e7,by show eJ.length=_;omega,GM⟩ cC (by simp only [cH];exact a7) (by show p.methods.length-(i+1)<p.methods.length-i;omega)
 have lu:i=p.methods.length:=by simp at lu;omega
 rw [eR ag,m3] at e7;rw [e7,ah0] at b6;have qw:=Mh p aE g4 false b dN cap 12 (i0 _) p.main 0 (aj4 _) ag out lW;unfold cW cV bk cH at qw;refine bG ?_;cases ar:visitM p false 12 p.main 0 out with
 | none=>
  rw [ar] at qw;rw [ar,ag0] at b6;rw [b6] at gx;refine aa.bZ rfl rfl rfl rfl rfl qw I (aH.all _) ?_ (fun _ _ ⟨h,_⟩ _=>by cases h);rintro _ _ ⟨⟨⟩,cs,rfl⟩ I;rw [d8] at I ⊢;unfold cH at I ⊢;refine dT ?_;exact Fin.bu (K:=[]) I C aM .nil ⟨_,by rw [gx];rfl⟩
 | some eJ=>
 have o7:=ql (aj4 _) ar;have GM:=LJ (aj4 _) GK ar;rw [ar] at qw;rw [ar,ah0] at b6;refine aa.bZ rfl rfl rfl rfl rfl qw I (aH.all _) ?_ (fun _ _ ⟨h,_⟩ _=>by cases h);rintro _ _ ⟨⟨⟩,rfl⟩ I;rw [d8] at I ⊢;unfold cH at I ⊢;refine bG ?_;refine ae.cl [1,5] C I (σ:=Nat) (fun j=>[(10,.int .i64 (j:Int))]) (fun _=>cH b (eJ.map bb++dN)) (fun j=>j≤p.nodes.length∧(eJ.take j).contains (-1)=false) (fun j=>p.nodes.length-j) 0 ⟨g9 _,rfl⟩ (cI C) (by simp only [cH];exact a7) ?_;rintro uf ⟨GN,hY⟩ I
 try simp only at GN hY I ⊢
 unfold cH at I ⊢;refine j6 ?_;refine aa.sD aj C C C C C C C ?_;refine ga ?_;refine ae.cond C (fun GO=>?_) (fun Mn=>?_)
 ·have GO:uf<p.nodes.length:=by simpa using GO
  obtain ⟨z,bP⟩:∃ z,eJ[uf]? = some z:=⟨_,f8 ag⟩;have Gr:=GM z (d6 bP);have GP:eJ.getD uf 0=z:=by rw [d5,bP];rfl
  refine ej ?_;refine aa.gi aj uf C C C C C C C C C C ag ?_;refine aa.k2 aj I C C C C C C aV C (GD ag) ?_;rw [GP];refine ga ?_;refine ae.cond C (fun aA=>?_) (fun aA=>?_)
  ·have aA:z = -1:=by simp at aA;omega
   subst aA;rw [show eJ.contains (-1)=true from af8.2 (d6 bP),f9 C] at b6;rw [b6] at gx;refine kx ?_;exact Fin.bu (K:=[]) I C aM .nil ⟨_,by rw [gx];rfl⟩
  have aA:z ≠ -1:=by simp at aA;omega
  refine gg ?_;exact bF.mk (uf+1) I ⟨GO,by rw [js bP,al2,hY,af1];simpa using fun e=>aA e.symm⟩ cC (aH.all _) (by show p.nodes.length-(uf+1)<p.nodes.length-uf;omega)
 have Mn:uf=p.nodes.length:=by simp at Mn;omega
 rw [ae8 ag] at hY;rw [hY,f0 bc] at b6;rw [b6] at gx;refine eH ?_;exact Fin.bu (K:=[]) I C aM .nil ⟨_,by rw [gx];rfl⟩
theorem GQ (p:bK) (aE:fD p):aU d0 45 [cW p] (.bool (fs p)):=by
 have U:=VE p aE;refine aU.bn aj Tryz.func45 C C fun s I=>?_
 unfold cW cV at *;refine dz ?_;refine aa.bZ rfl rfl rfl rfl rfl U I .nil ?_ (fun _ _ ⟨_,h⟩ _=>by cases h);rintro _ aN ⟨v,⟨⟩⟩ I;refine dT ?_;exact bA I
theorem Mo {s x:Int} {l:List Int}:x∈mC s l↔x=s∨x∈l:=by
 unfold mC;split
 ·rename_i h
  constructor
  ·exact .inr
  ·rintro (rfl|ad)
   ·simpa using h
   ·exact ad
 ·rw [List.mem_mergeSort,ac7,t7]
  exact Or.comm
theorem Mp (k:de) (x:ch):(k.ask x).bj=k.bj:=by
 unfold de.ask
 repeat' split
 all_goals rfl
def qx (w:bw) (σ:dJ):Prop:=∀ q,(2≤q.getD 1 0→(σ q).bj=[])∧∀ x∈(σ q).bj,0≤x∧x<(w.owner.length:Int)
theorem qx.hJ {w:bw} {σ:dJ} (h:qx w σ) {sp:List Int} {k:de} (aD:(2≤sp.getD 1 0→k.bj=[])∧∀ x∈k.bj,0≤x∧x<(w.owner.length:Int)):qx w (σ.hJ sp k):=by
 intro q;unfold dJ.hJ;by_cases e:q=sp
 ·rw [f9 e,e];exact aD
 ·rw [f0 e];exact h q
theorem Mq {w:bw} {neg:Bool} {arg:Int} {path:List Int} (aE:path.length≤2) (ao:∀ s∈path,0≤s∧s<(w.owner.length:Int)):∀ (j:Nat),j≤path.length→∀ σ,qx w σ→qx w (gJ neg arg path j σ)
  | 0,_,σ,h=>by
    rw [gJ];exact h.hJ (h _)
  | j+1,aO,σ,h=>by
    have U:=Mq (neg:=neg) (arg:=arg) aE ao j ag σ h;rw [gJ];generalize gJ neg arg path j σ=GR at U;have az:j<path.length:=by omega
    have ad:qx w (GR.hJ (bq arg (path.take j)) ((GR (bq arg (path.take j))).slot (path.getD j 0))):=by
      refine U.hJ ⟨fun ad=>?_,fun x ab=>?_⟩
      · exfalso
        have:(bq arg (path.take j)).getD 1 0=((path.take j).length:Int):=rfl;rw [this,ac9] at ad;omega
      · have ab:x∈mC (path.getD j 0) (GR (bq arg (path.take j))).bj:=ab
        rcases Mo.1 ab with rfl|ab
        · rw [d5,f8 az]
          exact ao _ (ak3 az)
        · exact (U _).2 x ab
    exact ad.hJ (ad _)
theorem CV {w:bw} {f:aq} (h:hi w f=true) (aB:f.c7=true):f.path.length≤2∧∀ s∈f.path,0≤s∧s<(w.owner.length:Int):=by
 simp only [hi,aB,ae2,f6,g8,ae'] at h;exact ⟨h.2.2.2.2.2.1,fun s ao=>by have:=h.2.2.2.2.2.2.1 s ao;omega⟩
theorem VH {w:bw} {x:ch} (aA:hi w x.1=true) (aB:x.1.c7=true) {σ:dJ} (h:qx w σ):qx w (addLit σ x):=by
 obtain ⟨U,ad⟩:=CV aA aB;have al:=Mq (neg:=x.2) (arg:=x.1.arg) U ad x.1.path.length (i0 _) σ h;unfold addLit;simp only;refine al.hJ ?_;rw [Mp];exact al _
theorem VI {w:bw} {l:List ch} (h:∀ x∈l,hi w x.1=true∧x.1.c7=true):qx w (ec l):=by
 unfold ec;have key:∀ (l:List ch) (σ:dJ),(∀ x∈l,hi w x.1=true∧x.1.c7=true)→qx w σ→qx w (l.foldl addLit σ):=by
  intro l
  induction l with
  | nil=>exact fun σ _ h=>h
  | cons x r aX=>
   intro σ ab VJ;exact aX _ (fun y ax=>ab y (g7 _ ax)) (VH (ab x i5).1 (ab x i5).2 VJ)
 exact key l vZ h (fun q=>⟨fun _=>rfl,fun x ab=>by cases ab⟩)
def nP (w:bw) (L:List ch):Prop:=∀ x∈L,hi w x.1=true∧x.1.c7=true
def CW (arg:Int) (path:List Int) (x:ch):Bool:=decide (x.1.arg=arg)&&x.1.path==path
def gy (L:List ch) (arg:Int) (path:List Int):List ch:=L.filter (CW arg path)
def GS (path GU:List Int):Bool:=decide (path.length≥GU.length)&&path.take GU.length==GU
def sX (arg:Int) (path:List Int) (x:ch):Bool:=decide (x.1.arg=arg)&&GS x.1.path path
def qy (L:List ch) (arg:Int) (path:List Int) (s:Int):Bool:=L.any (sX arg (path++[s]))
def kG (n:Nat) (L:List ch) (arg:Int) (path:List Int):List Int:=((af7 n).filter fun s=>qy L arg path (s:Nat)).map fun s:Nat=>(s:Int)
def py (L:List ch) (arg:Int) (path:List Int):Bool := !L.any fun x => !x.2&&sX arg path x
def ug (n:Nat) (L:List ch) (arg:Int) (path:List Int):Bool:=(kG n L arg path).all fun s=>py L arg (path++[s])
def uh:List ch→Int×Int×List Int→Option (Int×Int×List Int)
 | [],a=>some a
 | x::r,a=>
  if x.1.op=2 then (if decide (x.1.cls>1) != x.2 then none else uh r a)
  else if x.1.op=3 then (if x.2 then uh r (max a.1 x.1.n,a.2.1,a.2.2) else uh r (a.1,min a.2.1 (x.1.n-1),a.2.2))
  else if x.2 then uh r (a.1,a.2.1,a.2.2++[x.1.n])
  else uh r (max a.1 x.1.n,min a.2.1 x.1.n,a.2.2)
def CX:Nat→Int→List Int→Int
 | 0,n,_=>n
 | k+1,n,l=>if l.contains n then CX k (n+1) l else n
def xT (n:Nat) (L:List ch) (arg:Int) (path:List Int):Bool:=
 match uh (gy L arg path) (-1000000000,1000000000,[]) with
 | none=>false
 | some a=>decide (CX (a.2.2.length+1) a.1 a.2.2≤a.2.1)&&ug n L arg path
def GV (x:ch):Bool:=(decide (x.1.op=2)&&(decide (x.1.cls=0)||decide (x.1.cls=2)))==x.2
def xU (n:Nat) (L:List ch) (arg:Int) (path:List Int):Bool:=((gy L arg path).all fun x => !GV x)&&ug n L arg path
def qz:List ch→(Nat→Bool)×(Nat→Bool)→Option ((Nat→Bool)×(Nat→Bool))
 | [],a=>some a
 | x::r,a=>
  if x.1.op≠2∨x.1.cls=1∨x.1.cls=2 then (if x.2 then qz r a else none)
  else if x.2 then qz r (a.1,fun k=>if k=x.1.cls.toNat then true else a.2 k)
  else qz r (fun k=>if k=x.1.cls.toNat then true else a.1 k,a.2)
def oI (w:bw) (L:List ch) (cn:List Int→Bool) (arg:Int) (path:List Int):List Int→(Nat→Bool)×(Nat→Bool)→Option ((Nat→Bool)×(Nat→Bool))
 | [],a=>some a
 | s::r,a=>
  if !py L arg (path++[s]) && !cn (path++[s]) then none
  else oI w L cn arg path r (if py L arg (path++[s]) then a.1 else fun k=>if k=(w.owner.getD s.toNat 0).toNat then true else a.1 k,
   if cn (path++[s]) then a.2 else fun k=>if k=(w.owner.getD s.toNat 0).toNat then true else a.2 k)
def xV (w:bw) (L:List ch) (cn:List Int→Bool) (arg:Int) (path:List Int):Bool:=
  match qz (gy L arg path) (fun _=>false,fun _=>false) with
  | none=>false
  | some a=>match oI w L cn arg path (kG w.owner.length L arg path) a with
    | none=>false
    | some a => !a.2 0&&(af7 (3+w.ps.length)).all fun k => !(gG w.ps w.ps.length (fun k=>if k=0 then false else a.1 k) k&&a.2 k)
def rD (w:bw) (L:List ch) (arg:Int):Nat→List Int→Bool
 | 0,_=>false
 | k+1,path=>xT w.owner.length L arg path||(xU w.owner.length L arg path||xV w L (rD w L arg k) arg path)
def Ap (w:bw) (L:List ch):Bool:=(af7 3).all fun a=>rD w L ((a:Nat):Int) 3 []
def ui (g:Nat) (l:List Int) (dN:List af):a6:=[(.own g,.box 3 (l.map bb++dN))]
theorem VK (g cap:Nat) (l:List Int) (dN:List af) (n:Int) (aB:l.length<bt):bz d0 92 [ea g l.length cap,.int .i64 n] (ui g l dN) (fun o K=>o = .ret (.int .i64 (match l.findIdx? (· == n) with
  | some i=>(i:Int)
  | none => -1))∧K=ui g l dN):=by
 have an:=bC;refine bz.bn aj Tryz.func92 C C fun s I=>?_
 unfold ui at I ⊢;refine dz ?_;refine aa.sD aj C C C C C C C ?_;refine ej ?_;refine ae.cl [0,1,7] C I (σ:=Nat) (fun j=>[(8,.int .i64 (j:Int))]) (fun _=>ui g l dN) (fun j=>j≤l.length∧∀ i,i<j→l[i]? ≠ some n) (fun j=>l.length-j) 0 ⟨g9 _,fun i aS=>absurd aS (an4 _)⟩ (cI C) (aH.all _) ?_;rintro j ⟨aO,aw⟩ I;unfold ui at I ⊢;refine ck ?_;refine ae.cond C (fun az=>?_) (fun a'=>?_);rotate_left
 ·have a':j=l.length:=by simp at a';omega
  have ab:l.findIdx? (· == n)=none:=by
   rw [ag8];intro z bP;obtain ⟨i,aS⟩:=ag7 bP;have U:=re aS;have ad:=aw i ag;simp only [beq_eq_false_iff_ne];intro e;subst e;exact ad aS
  rw [ab];refine eH ?_;exact Fin.bu I C aM (aH.all _) ⟨rfl,rfl⟩
 have az:j<l.length:=by simpa using az
 obtain ⟨y,ax⟩:∃ y,l[j]? = some y:=⟨_,f8 az⟩;have da:(l.map bb++dN)[j]? = some (.int .i64 y):=by
  rw [ad3 (by simpa using az)];simp [ax,bb]
 refine bG ?_;refine aa.gi aj j C C C C C C C C C C az ?_;refine aa.k2 aj I C C C C C C aV C (by show (l.map bb++dN)[j*1]? = _;rw [ah2];exact da) ?_;refine ga ?_;refine ae.cond C (fun aA=>?_) (fun aA=>?_)
 ·have aA:n=y:=by simpa using aA
  subst aA;have ab:l.findIdx? (· == n)=some j:=by
   rw [af2];refine ⟨az,by simpa using (ac1.1 ax).2,fun i aS=>?_⟩;have:=aw i aS;rw [f8 ag] at this;simpa using this
  rw [ab];refine kx ?_;exact Fin.bu I C aM (aH.all _) ⟨rfl,rfl⟩
 ·have aA:n≠y:=by simpa using aA
  refine gg ?_;refine bF.mk (j+1) I ⟨az,fun i aS=>?_⟩ cC (aH.all _) rk;rcases af3.1 aS with aS|rfl
  ·exact aw i aS
  ·rw [ax];intro e;cases e;exact aA C
theorem Mr (g cap:Nat) (l:List Int) (dN:List af) (n:Int) (aB:l.length<bt):bz d0 43 [ea g l.length cap,.int .i64 n] (ui g l dN) (fun o K=>o = .ret (.bool (l.contains n))∧K=ui g l dN):=by
 rw [← Kr];have h:=VK g cap l dN n aB;refine bz.bn aj Tryz.func43 C C fun s I=>?_
 refine dz ?_;refine aa.bZ rfl rfl rfl rfl rfl h I (aH.all _) ?_ (fun _ _ ⟨h,_⟩ _=>by cases h);rintro _ _ ⟨⟨⟩,rfl⟩ I;rw [d8] at I ⊢;refine dY ?_;exact Fin.bu I C aM (aH.all _) ⟨rfl,rfl⟩
theorem VL (bx:qt) (l:List Int) (n:Int) (ao:rA bx l) (aB:l.length<bt):bz d0 43 [kF bx l,.int .i64 n] (ju bx l) (fun o K=>o = .ret (.bool (l.contains n))∧K=ju bx l):=by
 cases bx with
 | none=>
  have:l=[]:=ao;subst this;have h:=vH [] n dE;unfold bk at h;have h:=aU.args (show cM [.ay 0 [] .nil,.int .i64 n] [.ay 1 ([].map bb) .aZ,.int .i64 n] from .cons aR.empty (.one aM)) h;exact fun s _=>gX.mono (h s) (fun o ai ⟨U,ad⟩=>⟨[],ad,trivial,U,rfl⟩)
 | some x=>
  obtain ⟨g,cap,dN⟩:=x;exact Mr g cap l dN n aB
def xW (σ:dJ) (mb:Nat) (pre:List fF) (e:fF) (post:List fF):a6:=qs mb (mD (pre++e::post))::(pre.flatMap (iv σ)++post.flatMap (iv σ))
theorem CY (σ:dJ) (mb:Nat) (pre:List fF) (e:fF) (post:List fF):(lz σ mb (pre++e::post)).Perm (iv σ e++xW σ mb pre e post):=by
 unfold lz xW;rw [at2,ah4];refine (aj5.cons _ ?_).trans al0.symm;exact at7 _ _ _
theorem VM {σ σ':dJ} {mb:Nat} {pre:List fF} {e e':fF} {post:List fF} (gS:e'.sp=e.sp) (an:e'.b=e.b) (ao:∀ x∈pre++post,σ' x.sp=σ x.sp):(iv σ' e'++xW σ mb pre e post).Perm (lz σ' mb (pre++e'::post)):=by
 have U:mD (pre++e'::post)=mD (pre++e::post):=by unfold mD;simp [gS,an]
 have ad:∀ l:List fF,(∀ x∈l,σ' x.sp=σ x.sp)→l.flatMap (iv σ')=l.flatMap (iv σ):=fun l aB=>by
  induction l with
  | nil=>rfl
  | cons x r aX=>
   rw [ah4,ah4,aX (fun y ax=>aB y (g7 _ ax))];unfold iv;rw [aB x i5]
 refine aj5.trans ?_ (CY σ' mb pre e' post).symm;unfold xW;rw [U,ad pre (fun x ab=>ao x (ai0 _ ab)),ad post (fun x ab=>ao x (an6 _ ab))]
theorem oH.apart {n:Nat} {σ:dJ} {pre:List fF} {e:fF} {post:List fF} (h:oH n σ (pre++e::post)):∀ x∈pre++post,x.sp≠e.sp:=by
 have aA:=h.nodup;rw [ac2,ac0,am7] at aA;obtain ⟨U,ad,al⟩:=aA;intro x ab bR;rcases ac7.1 ab with ab|ab
 ·exact al x.sp (ad2.2 ⟨x,ab,rfl⟩) e.sp i5 bR
 ·rw [List.nodup_cons] at ad
  exact ad.1 (ad2.2 ⟨x,ab,bR⟩)
theorem oH.hJ {n m:Nat} {σ:dJ} {pre:List fF} {e e':fF} {post:List fF} (h:oH n σ (pre++e::post)) (gS:e'.sp=e.sp) (abf:n≤m) {k:de} (aD:l2 m k) (dj:rA e'.bx k.bj):oH m (σ.hJ e.sp k) (pre++e'::post):=by
 have a8:=h.apart;have hm:(pre++e'::post).map fF.sp=(pre++e::post).map fF.sp:=by simp [gS]
 refine ⟨fun x ab=>?_,by rw [hm];exact h.nodup,fun q bp=>?_,fun x ab=>?_,fun q=>?_⟩
 ·rcases ac7.1 ab with ab|ab
  ·exact h.four x (ai0 _ ab)
  ·rcases ad4.1 ab with rfl|ab
   ·rw [gS];exact h.four e bc
   ·exact h.four x (by simp [ab])
 ·rw [hm] at bp
  unfold dJ.hJ;rw [f0 (fun bR=>bp (by rw [bR];simp))];exact h.rest q bp
 ·by_cases Ms:x=e'
  ·subst Ms
   unfold dJ.hJ;rw [f9 gS];exact dj
  ·have ab:x∈pre++post:=by
    rcases ac7.1 ab with ab|ab
    ·exact ai0 _ ab
    ·rcases ad4.1 ab with rfl|ab
     ·exact absurd C Ms
     ·exact an6 _ ab
   unfold dJ.hJ;rw [f0 (a8 x ab)];exact h.bx x (by rcases ac7.1 ab with ab|ab<;>simp [ab])
 ·unfold dJ.hJ
  split
  ·exact aD
  ·obtain ⟨dm,a2,a3,a4,a5⟩:=h.l3 q
   exact ⟨dm,a2,by omega,by omega,a5⟩
theorem bl.GW {L R:a6} {k:bN} {o:ds} (h:bl L k o R):L.Perm ((k,o)::R):=by
 induction h with
 | here=>exact .refl _
 | there _ aX=>exact (aj5.cons _ aX).trans (aj5.swap _ _ _)
theorem aH.GW {L K R:a6} (h:aH L K R):L.Perm (K++R):=by
 induction h with
 | nil=>exact .refl _
 | cons h t aX=>exact h.GW.trans (aj5.cons _ aX)
theorem aH.VN {L A B:a6} (h:aH L A []) (p:A.Perm B):aH L B []:=aH.h9 ((by have:=h.GW;rw [d8] at this;exact this:L.Perm A).trans p)
theorem VO (arg:Int) (path:List Int) (j:Nat) (bx:Int) (aO:path[j]? = some bx) (ad:j<2) :
  aU d0 281 [iu (bq arg (path.take j)),.int .i64 bx] (iu (bq arg (path.take (j+1)))):=by
 match path,j,aO,ad with
 | a::r,0,aO,_=>
  have:a=bx:=by simpa using aO
  subst this;exact L5 arg 0 0 a
 | a::b::r,1,aO,_=>
  have:b=bx:=by simpa using aO
  subst this;exact L6 arg a 0 b
theorem VP {σ:dJ} {e e':fF} {k:de} (h:e'.sp=e.sp):iv (σ.hJ e.sp k) e'=oG e'.b k e'.on (kF e'.bx k.bj)++ju e'.bx k.bj:=by
 unfold iv dJ.hJ;rw [f9 h]
theorem VQ (bx:qt) (l:List Int):e4 (kF bx l)=true:=by
 cases bx with
 | none=>rfl
 | some x=>rfl
theorem VR (arg:Int):bq arg []=[arg,0,0,0]:=rfl
def kf (bS:Nat) (sp:List Int) (σ:dJ) (mb:Nat) (pre:List fF) (e:fF) (post:List fF) (kb:Nat) (k:de) (on:bN) (bx:qt):a6:=
 (.own bS,.box 319 (sp.map (af.int .i64)))::(.own kb,.box 340 (ke k (.ay 1 (k.eY.map bb) on) (kF bx k.bj)))::(on,.row 3 1 k.eY.length)::(ju bx k.bj++xW σ mb pre e post)
theorem Mt (bS:Nat) (sp:List Int) (σ:dJ) (mb:Nat) (pre:List fF) (e:fF) (post:List fF):(lz σ mb (pre++e::post)++[((bN.own bS,ds.box 319 (sp.map (af.int .i64))):bN×ds)]).Perm (kf bS sp σ mb pre e post e.b (σ e.sp) e.on e.bx):=
 (aq2.trans (aj5.cons _ (CY σ mb pre e post)))
theorem CZ {bS:Nat} {sp:List Int} {σ:dJ} {mb n:Nat} {pre:List fF} {e:fF} {post:List fF} (cB:oH n σ (pre++e::post)) (k:de) (on:bN) (bx:qt):(kf bS sp σ mb pre e post e.b k on bx).Perm ((.own bS,.box 319 (sp.map (af.int .i64)))::lz (σ.hJ e.sp k) mb (pre++⟨e.sp,e.b,on,bx⟩::post)):=by
 refine aj5.cons _ ?_;have h:=VM (σ:=σ) (σ':=σ.hJ e.sp k) (mb:=mb) (pre:=pre) (e:=e) (e':=⟨e.sp,e.b,on,bx⟩) (post:=post) C C (fun x ab=>by unfold dJ.hJ;rw [f0 (cB.apart x ab)]);rw [VP (e:=e) (e':=⟨e.sp,e.b,on,bx⟩) C] at h;exact h
theorem l2.mono {n m:Nat} (h:n≤m) {k:de} (aD:l2 n k):l2 m k:=⟨aD.fE,aD.no,by have:=aD.eY;omega,by have:=aD.bj;omega,aD.num⟩
theorem VS (s:Int) (l:List Int):(mC s l).length≤l.length+1:=by
 unfold mC;split
 ·omega
 ·rw [aq4];simp
theorem aH.VT {L A B:a6} (h:L.Perm (A++B)):∃ R,aH L A R:=by
 induction A generalizing L with
 | nil=>exact ⟨L,.nil⟩
 | cons x A aX=>
  obtain ⟨k,o⟩:=x;obtain ⟨a,b,ir⟩:=ar5 (h.symm.subset (ai0 _ i5));rw [ir] at h;have ad:(a++b).Perm (A++B):=(az0 _).1 (al0.symm.trans h);obtain ⟨R,dQ⟩:=aX ad;exact ⟨R,.cons (bl.L9 ir) dQ⟩
theorem l2.need {n:Nat} {k:de} (h:l2 n k) (neg:Bool):l2 n (k.need neg):=⟨h.fE,h.no,h.eY,h.bj,h.num⟩
theorem l2.slot {n:Nat} {k:de} (h:l2 n k) (s:Int):l2 (n+1) (k.slot s):=⟨h.fE,h.no,by have:=h.eY;show k.eY.length≤_;omega,by have:=h.bj;have:=VS s k.bj;show (mC s k.bj).length≤_;omega,h.num⟩
theorem l2.ask {n:Nat} {k:de} (h:l2 n k) {w:bw} (hw:w.ps.length≤60) {x:ch} (ab:sU w x):l2 (n+1) (k.ask x):=by
 have iz:=xL.of ab.node ab.leaf;have nN:=ab.num;obtain ⟨U,ad,al,bd,bB⟩:=h;unfold de.ask;split
 ·rename_i bV
  have aF:=iz.cls bV;have aE:2^x.1.cls.toNat<2^64:=ag6 ag ag;split
  ·exact ⟨U,ag' ad aE,by simp only;omega,by simp only;omega,bB⟩
  ·exact ⟨ag' U aE,ad,by simp only;omega,by simp only;omega,bB⟩
 ·split
  ·split
   ·exact ⟨U,ad,by simp only;omega,by simp only;omega,by simp only;omega⟩
   ·exact ⟨U,ad,by simp only;omega,by simp only;omega,by simp only;omega⟩
  ·split
   ·exact ⟨U,ad,by simp only [d9,ac8];omega,by simp only;omega,bB⟩
   ·exact ⟨U,ad,by simp only;omega,by simp only;omega,by simp only;omega⟩
theorem Mu (k:de) (x:ch):(k.ask x).bj=k.bj:=by
 unfold de.ask;split
 ·split<;>rfl
 ·split
  ·split<;>rfl
  ·split<;>rfl
theorem VU (w:bw) (hw:w.ps.length≤60) (mb n:Nat) (σ:dJ) (es:List fF) (cB:oH n σ es) (aA:n+3<bt) (x:ch) (ab:sU w x) :
  bz d0 269 [hT w mb,hR x] (lz σ mb es) (fun o K=>o = .ret (.cg [])∧∃ dn,K=lz (addLit σ x) mb dn∧oH (n+3) (addLit σ x) dn):=by
 have an:=bC;have iz:=xL.of ab.node ab.leaf;have GX:=Ma w mb n σ es cB x.1.arg 0 0 0;obtain ⟨f,neg⟩:=x;simp only at iz GX;have ig:=iz.path;refine bz.bn aj Tryz.func269 C C fun s I=>?_
 unfold hT at GX;unfold hR pj aq.cells;unfold hT
 repeat (first|(refine JS I ?_;clear I;intro I)|refine aa.dO aj I rfl rfl rfl rfl rfl rfl rfl (fun cy I=>?_))
 refine aa.bZ rfl rfl rfl rfl rfl GX I (aH.all _).there ?_ (fun _ _ ⟨_,_,_,_,h,_⟩ _=>by cases h);rintro _ _ ⟨pre,e,post,gS,⟨⟩,rfl,cB⟩ I;refine aa.run aj C (aa.nil ?_);refine b0 ?_;refine ae.lQ I (kf cy (bq f.arg []) σ mb pre e post e.b (σ e.sp) e.on e.bx) (aH.h9 (Mt cy (bq f.arg []) σ mb pre e post)) (fun aD=>?_);revert aD
 repeat clear I
 intro I;refine ae.RT (σ:=Unit) (fun _=>[(0,hT w mb),(3,.bs (pj (f,neg)) 0),(4,.ptr cy 0),(5,.ptr e.b 0) ]) (fun _=>kf cy (bq f.arg []) σ mb pre e post e.b ((σ e.sp).need neg) e.on e.bx) (fun _=>True) ?_ ?_
 ·unfold kf ke de.need
  unfold kf ke at I;cases e2:(σ e.sp).gb<;>rw [e2] at I<;>cases neg
  all_goals
   refine cm I ?_;intro I;exact j4.mk () I trivial (cI C) CR
 rintro _-I;refine hs ?_;refine ae.cl [0,3,4,29,30] C I (σ:=Nat×List fF×fF×List fF) (fun q=>[(31,.int .i64 (q.1:Int)),(5,.ptr q.2.2.1.b 0)]) (fun q=>(.own cy,.box 319 ((bq f.arg (f.path.take q.1)).map (af.int .i64)))::lz (gJ neg f.arg f.path q.1 σ) mb (q.2.1++q.2.2.1::q.2.2.2))
  (fun q=>q.1≤f.path.length∧q.2.2.1.sp=bq f.arg (f.path.take q.1)∧oH (n+q.1) (gJ neg f.arg f.path q.1 σ) (q.2.1++q.2.2.1::q.2.2.2)) (fun q=>f.path.length-q.1) (0,pre,e,post) ⟨g9 _,gS,?_⟩ (cI C) (aH.h9 ?_) ?_
 ·have:=cB.hJ (e':=e) C (i0 _) ((cB.l3 e.sp).need neg) (cB.bx e bc)
  rw [gS] at this;exact this
 ·have bo:gJ neg f.arg f.path 0 σ=σ.hJ e.sp ((σ e.sp).need neg):=by rw [gJ,VR,gS]
  show aj5 _ (((bN.own cy,ds.box 319 ((bq f.arg []).map (af.int .i64))):bN×ds)::lz (gJ neg f.arg f.path 0 σ) mb (pre++e::post));rw [bo];exact CZ (mb:=mb) (bS:=cy) (sp:=bq f.arg []) cB ((σ e.sp).need neg) e.on e.bx
 rintro ⟨j,pre,e,post⟩ ⟨aO,gS,cB⟩ I;simp only at aO gS cB I ⊢;generalize b6:gJ neg f.arg f.path j σ=S at cB I ⊢;have aD:=cB.l3 e.sp;refine ck ?_;refine ae.cond C (fun az=>?_) (fun a'=>?_);rotate_left
 ·have a':j=f.path.length:=by simp at a';omega
  subst a';rw [ac'] at gS I ⊢;have aC:addLit σ (f,neg)=S.hJ e.sp ((S e.sp).ask (f,neg)):=by
   unfold addLit;simp only;rw [b6,gS]
  have Mv:=Vh w hw e.b (S e.sp) ⟨aD.fE,aD.no,by have:=aD.eY;omega⟩ aD.num e.on (kF e.bx (S e.sp).bj) (VQ _ _) (f,neg) ab;refine ae.lQ I (kf cy (bq f.arg f.path) S mb pre e post e.b (S e.sp) e.on e.bx) (aH.h9 (aj5.cons _ (CY S mb pre e post))) (fun aD=>?_);revert aD
  repeat clear I
  intro I;unfold hR pj aq.cells at Mv;unfold kf at I ⊢;refine bG ?_;refine aa.bZ rfl rfl rfl rfl rfl Mv I (.cons (.there .here) (.cons (.there .here) .nil)) ?_ (fun _ _ ⟨h,_⟩ _=>by cases h);rintro _ _ ⟨⟨⟩,v7,rfl⟩ I;refine ga ?_;have pI:=CZ (mb:=mb) (bS:=cy) (sp:=bq f.arg f.path) cB ((S e.sp).ask (f,neg)) v7 e.bx;rw [← aC] at pI;unfold kf at pI;rw [Mu] at pI;have Aq:(oG e.b ((S e.sp).ask (f,neg)) v7 (kF e.bx (S e.sp).bj)++((.own cy,.box 319 ((bq f.arg f.path).map (af.int .i64)))::(ju e.bx (S e.sp).bj++xW S mb pre e post))).Perm (lz (addLit σ (f,neg)) mb (pre++⟨e.sp,e.b,v7,e.bx⟩::post)++[(.own cy,.box 319 ((bq f.arg f.path).map (af.int .i64)))]):=by
   refine aj5.trans ?_ ((pI.trans ?_))
   ·exact al0 (l₁:=oG e.b ((S e.sp).ask (f,neg)) v7 (kF e.bx (S e.sp).bj))
   ·exact aq2 (l₁:=[((bN.own cy,ds.box 319 ((bq f.arg f.path).map (af.int .i64))):bN×ds)])
  obtain ⟨dk,VV⟩:=aH.VT Aq;refine Fin.bu I C aM VV ⟨rfl,_,rfl,?_⟩;rw [aC];refine cB.hJ (e':=⟨e.sp,e.b,v7,e.bx⟩) C ag ((aD.ask hw ab).mono ag) ?_;rw [Mu];exact cB.bx e bc
 have az:j<f.path.length:=by simpa using az
 obtain ⟨bx,ax,da⟩:=cf (f:=fun i=>af.int .i64 i) az;have kr:f.path.getD j 0=bx:=by rw [d5,ax];rfl
 have we:=cB.bx e bc;have rf:=VO f.arg f.path j bx ax ag;have oV:=aD.bj;refine ae.lQ I (kf cy (bq f.arg (f.path.take j)) S mb pre e post e.b (S e.sp) e.on e.bx) (aH.h9 (aj5.cons _ (CY S mb pre e post))) (fun aD=>?_);revert aD
 repeat clear I
 intro I;unfold kf ke at I ⊢;refine cm I ?_;intro I;refine aa.bZ rfl rfl rfl rfl rfl (VL e.bx (S e.sp).bj bx we ag) I (aH.jd (aH.all _)).there.there.there ?_ (fun _ _ ⟨h,_⟩ _=>by cases h);rintro _ _ ⟨⟨⟩,rfl⟩ I;refine aa.lQ I (kf cy (bq f.arg (f.path.take j)) S mb pre e post e.b (S e.sp) e.on e.bx) (aH.h9 ((al0 (l₁:=ju e.bx (S e.sp).bj)).trans (.cons _ ((al0 (l₁:=ju e.bx (S e.sp).bj)).trans (.cons _ ((al0 (l₁:=ju e.bx (S e.sp).bj)).trans (.refl _))))))) (fun aD=>?_);revert aD
 repeat clear I
 intro I;refine aa.run aj C (aa.nil ?_);refine b0 ?_;refine ae.vw (σ:=qt) (fun _=>[(0,hT w mb),(3,.bs (pj (f,neg)) 0),(4,.ptr cy 0),(5,.ptr e.b 0),(7,.int .i64 bx),(29,.ay 1 (f.path.map fun i => .int .i64 i) .aZ),(30,.int .i64 ((f.path.map fun i=>af.int .i64 i).length:Int)),(31,.int .i64 (j:Int))]) (fun qA=>kf cy (bq f.arg (f.path.take j)) S mb pre e post e.b ((S e.sp).slot bx) e.on qA) (fun qA=>rA qA (mC bx (S e.sp).bj)) ?_ ?_
 ·cases aF:(S e.sp).bj.contains bx with
  | true=>
   have aS:mC bx (S e.sp).bj=(S e.sp).bj:=by unfold mC;rw [f9 aF]
   unfold kf de.slot at *;rw [aS];refine jF ?_;exact j4.mk e.bx I we (cI C) (by simp only [aS];exact aH.all _)
  | false=>
   have aS:mC bx (S e.sp).bj=((S e.sp).bj++[bx]).mergeSort (fun a b=>decide (a≤b)):=by unfold mC;rw [f0 (by rw [aF];simp)]
   have rB:(mC bx (S e.sp).bj).length=(S e.sp).bj.length+1:=by rw [aS,aq4];simp
   rcases dj:e.bx with _|⟨g,cap,dN⟩
   ·have bo:(S e.sp).bj=[]:=by rw [dj] at we;exact we
    rw [bo] at aS rB;unfold kf ke de.slot at *;rw [dj] at I;rw [bo] at I ⊢;refine cm I ?_;intro I;refine aa.Cc aj I C C C C C C C ef C C C C C C C (by show 1*8≤_;omega) (fun aT b8 cs' U ad al I=>?_)
    obtain ⟨dN,rfl⟩:∃ dN,cs'=[bx].map bb++dN:=⟨cs'.drop 1,by
     have:=ag4 1 cs'
     rw [al] at this
     exact this.symm⟩
    refine cm I ?_;intro I;refine aa.bZ rfl rfl rfl rfl rfl (Gx aT b8 [bx] dN bc) I (.cons aV .nil) ?_ (fun _ _ ⟨h,_⟩ _=>by cases h);rintro _ _ ⟨⟨⟩,rfl⟩ I;refine ga ?_;exact j4.mk (some (aT,b8,dN)) I (by show (mC bx []).length+dN.length=b8;rw [rB];simp at U ⊢;omega) (cI C) (by simp only [kF,ju,rB];rw [aS];exact CR)
   ·rw [dj] at we
    have we:(S e.sp).bj.length+dN.length=cap:=we;unfold kf ke de.slot at *;rw [dj] at I;simp only [ju,t8,d7] at I ⊢;refine cm I ?_;intro I;refine aa.Cd aj I C C C C C C C ef C C C C aV cO ag Gv C C C (by show _*8≤_;omega) ag (fun aT b8 cs' U ad al I=>?_)
    obtain ⟨mE,rfl⟩:∃ mE,cs'=((S e.sp).bj++[bx]).map bb++mE:=⟨cs'.drop ((S e.sp).bj.length+1),by
     have:=ag4 ((S e.sp).bj.length+1) cs'
     rw [an7 bc] at al
     rw [al] at this
     rw [ac2]
     exact this.symm⟩
    refine cm I ?_;intro I;have Mw:=Gx aT b8 ((S e.sp).bj++[bx]) mE cO;rw [d9,ac8] at Mw;refine aa.bZ rfl rfl rfl rfl rfl Mw I (.cons aV .nil) ?_ (fun _ _ ⟨h,_⟩ _=>by cases h);rintro _ _ ⟨⟨⟩,rfl⟩ I;refine ga ?_;exact j4.mk (some (aT,b8,mE)) I (by show (mC bx _).length+mE.length=b8;rw [rB];simp at U ⊢;omega) (cI C) (by simp only [kF,ju,rB];rw [aS];exact CR)
 rintro qA v' I;have iR:=cB.hJ (e':=⟨e.sp,e.b,e.on,qA⟩) C (ax7 (n+j)) (aD.slot bx) v';have GY:=Ma w mb _ _ _ iR f.arg ((f.path.take (j+1)).length:Int) ((f.path.take (j+1)).getD 0 0) ((f.path.take (j+1)).getD 1 0);generalize Mx:S.hJ e.sp ((S e.sp).slot bx)=rE at GY iR;unfold hT at GY;unfold kf ke at I ⊢;unfold hT;unfold iu at rf;refine cm I ?_;intro I;refine aa.lQ I (((bN.own cy,ds.box 319 ((bq f.arg (f.path.take (j+1))).map (af.int .i64))):bN×ds)::lz rE mb (pre++⟨e.sp,e.b,e.on,qA⟩::post)) (aH.h9 (by rw [← Mx];exact CZ (mb:=mb) (bS:=cy) (sp:=bq f.arg (f.path.take (j+1))) cB ((S e.sp).slot bx) e.on qA)) (fun aD=>?_);revert aD
 repeat clear I
 intro I;refine aa.bZ rfl rfl rfl rfl rfl GY I (aH.all _).there ?_ (fun _ _ ⟨_,_,_,_,h,_⟩ _=>by cases h);rintro _ _ ⟨xX,bR,xY,My,⟨⟩,rfl,uj⟩ I;refine aa.run aj C (aa.nil ?_);refine b0 ?_;refine ae.lQ I (kf cy (bq f.arg (f.path.take (j+1))) rE mb xX bR xY bR.b (rE bR.sp) bR.on bR.bx) (aH.h9 (Mt cy (bq f.arg (f.path.take (j+1))) rE mb xX bR xY)) (fun aD=>?_);revert aD
 repeat clear I
 intro I;have vp:gJ neg f.arg f.path (j+1) σ=rE.hJ bR.sp ((rE bR.sp).need neg):=by
  rw [gJ]
  try simp only
  rw [b6,kr,← gS,Mx];have:bq f.arg (f.path.take (j+1))=bR.sp:=My.symm;rw [this]
 have Aq:(kf cy (bq f.arg (f.path.take (j+1))) rE mb xX bR xY bR.b ((rE bR.sp).need neg) bR.on bR.bx).Perm (((bN.own cy,ds.box 319 ((bq f.arg (f.path.take (j+1))).map (af.int .i64))):bN×ds)::lz (gJ neg f.arg f.path (j+1) σ) mb (xX++bR::xY)):=by
  rw [vp];exact CZ (mb:=mb) (bS:=cy) (sp:=bq f.arg (f.path.take (j+1))) uj ((rE bR.sp).need neg) bR.on bR.bx
 have VW:oH (n+(j+1)) (gJ neg f.arg f.path (j+1) σ) (xX++bR::xY):=by
  have:=uj.hJ (e':=bR) C (i0 _) ((uj.l3 bR.sp).need neg) (uj.bx bR bc);rw [← vp] at this;exact this
 unfold kf ke de.need at Aq;unfold kf ke at I ⊢;cases e2:(rE bR.sp).gb<;>rw [e2] at I Aq<;>cases neg
 all_goals
  refine ha I ?_;intro I;exact bF.mk (j+1,xX,bR,xY) I ⟨az,My,VW⟩ cC (aH.VN CR Aq) (by show f.path.length-(j+1)<f.path.length-j;omega)
section
variable {P:Program} {Γ:cj} {N:Nat} {env:Env} {s:ak} {ops:Array Oper} {rest:List Oper} {Q:bX→Env→ak→Prop} {L R:a6}
theorem dq.GZ {B:fx} {ro:Option Nat} {a:Act} {w:World} {p:bO} (h:dq N B ro env s a w p) {kb b n cap i:Nat} {T wg:TypeId} {cells cs:List af} (cp:kb≠b) (jJ:s kb=some (.box T cells)) (aF:cells[i]? = some (ea b n cap)) (ao:s b=some (.box wg cs)) (cu:cs.length=cap) (aA:n≤cap) (hm:n≤9223372036854775807)
  (ih:(cs.take n).all e4=true):∃ bg,dq N B ro env ((s.del b).set kb (.box T (cells.set i (.ay 1 (cs.take n) .aZ)))) a w bg∧c8 w p w bg∧Kept s ((s.del b).set kb (.box T (cells.set i (.ay 1 (cs.take n) .aZ)))) w p w bg:=by
 obtain ⟨vs,U,ad,al⟩:=h.wf.obj _ _ ao;have az:b<w.heap.size:=(i8.1 U).1;have hle:c8 w p w (p.dR b True):=⟨rfl,rfl,rfl,i0 _,fun _ _ h => .inl h,fun _ _ _=>rfl,fun _ _ h=>h⟩;have dj:∀ v,Rel w p v (ea b n cap)→Rel w (p.dR b True) v (.ay 1 (cs.take n) .aZ):=by
  intro v aC;cases aC;have hv:=ad.take n;have vB:=pQ hv ih;have jX:=sx vB;refine .ay b 0 n cap 1 (vs.toList.take n) (cs.take n) .aZ bc wU ?_ (hv.mono hle) (fun v ar=>by rw [zo (vB v ar)];rfl) hm aA (fun h=>by cases h) (fun b h=>by cases h);rw [jX];intro i v aS;refine ⟨.inr ⟨rfl,trivial⟩,?_⟩;rw [ad8,jq U];rw [af'] at aS;split at aS
  ·simpa using aS
  ·cases aS
 have aD:Kept s ((s.del b).set kb (.box T (cells.set i (.ay 1 (cs.take n) .aZ)))) w p w (p.dR b True):=⟨fun _ _ _=>rfl,fun aT an gF=>by
  have bd:aT≠kb:=fun e=>by subst e;rw [jJ] at gF;cases gF
  rw [ak.fk _ _ bd]
  by_cases e:aT=b
  ·subst e;exact ak.mR _ _
  ·rw [ak.l' _ e];exact gF,fun aT o an gF aE=>by
   rcases aE with aE|⟨rfl,_⟩
   ·exact aE
   ·rw [ao] at gF;cases gF⟩
 have b5:df w (p.dR b True) ((s.del b).set kb (.box T (cells.set i (.ay 1 (cs.take n) .aZ)))):=by
  refine ⟨fun aT o an=>?_,fun aT o aE=>by rcases aE with aE|⟨rfl,_⟩;exact h.wf.lt _ _ aE;exact az⟩;have fc:aT≠b→∀ o,p.dR b True aT o↔p aT o:=fun e o=>⟨fun aE=>by rcases aE with aE|⟨e',_⟩;exact aE;exact absurd e' e,.inl⟩
  by_cases jo:aT=kb
  ·subst jo
   rw [ak.fT] at an;cases an;obtain ⟨us,g1,g2,g3⟩:=h.wf.obj _ _ jJ;obtain ⟨v,sj,oY⟩:=g2.get aF;have bB:=(g2.mono hle).set i (dj v oY);have gN:us.toList.set i v=us.toList:=by
    apply ao0;intro k;rw [ar'];split
    ·rename_i e;subst e
     split
     ·rw [sj]
     ·rename_i az;rw [aj9 ag]
    ·rfl
   rw [gN] at bB;exact ⟨us,g1,bB,fun o aE=>g3 o ((fc cp o).1 aE)⟩
  rw [ak.fk _ _ jo] at an;by_cases e:aT=b
  ·subst e;rw [ak.mR] at an;cases an
  ·rw [ak.l' _ e] at an
   have ah:=h.wf.obj aT o an;have fc:=fc e;cases o with
   | box t c=>obtain ⟨us,g1,g2,g3⟩:=ah;exact ⟨us,g1,g2.mono hle,fun o aE=>g3 o ((fc o).1 aE)⟩
   | row t sz n=>obtain ⟨cur,g1,g2,g3,g4⟩:=ah;exact ⟨cur,g1,g2,g3,fun o=>(fc o).trans (g4 o)⟩
   | map es=>obtain ⟨cJ,c,g1,g2,g3⟩:=ah;exact ⟨cJ,c,g1,⟨g2.1.mono hle,g2.2.mono hle⟩,g3⟩
   | kN es it l c=>exact ah.pL hle C C
   | tick m=>exact ah
   | loop r env=>exact ⟨ah.1,fun t v h=>(ah.2 t v h).mono hle⟩
 exact ⟨_,h.step hle aD b5,hle,aD⟩
theorem Mz {kb b:Nat} {o o' o'':ds} {dk:a6} (I:Ok s L) (U:bl L (.own kb) o R) (ad:bl R (.own b) o' dk):kb≠b∧aQ s L kb=some o∧aQ s L b=some o'∧((aQ s L).del b).set kb o''=aQ s ((.own kb,o'')::dk)∧Ok s ((.own kb,o'')::dk):=by
 obtain ⟨b7,cv⟩:=U.perm I;have MA:gone (aQ s R) (.own kb)∧Ok s R:=cv;obtain ⟨bR,db⟩:=ad.perm MA.2;have MB:gone (aQ s dk) (.own b)∧Ok s dk:=db;have eE:aQ s L=((aQ s dk).set b o').set kb o:=by rw [b7];show lk (aQ s R) (.own kb) o=_;rw [bR];rfl
 have jJ:aQ s R kb=none:=MA.1;rw [bR] at jJ;have C0:((aQ s dk).set b o') kb=none:=jJ;have cp:kb≠b:=fun e=>by subst e;rw [ak.fT] at C0;cases C0
 rw [ak.fk _ _ cp] at C0;have an:aQ s dk b=none:=MB.1;refine ⟨cp,U.get I,?_,?_,C0,MB.2⟩
 ·rw [eE,ak.fk _ _ (fun e=>cp e.symm),ak.fT]
 ·funext x
  show ((aQ s L).del b).set kb o'' x=((aQ s dk).set kb o'') x;by_cases ab:x=kb
  ·subst ab;rw [ak.fT,ak.fT]
  ·rw [ak.fk _ _ ab,ak.fk _ _ ab]
   by_cases G0:x=b
   ·subst G0;rw [ak.mR,an]
   ·rw [ak.l' _ G0,eE,ak.fk _ _ ab,ak.fk _ _ G0]
theorem ae.GZ {c:Code} (I:Ok s L) {kb b n cap:Nat} (i:Nat) {T wg:TypeId} {cells cs:List af} {dk:a6} (U:bl L (.own kb) (.box T cells) R) (ad:bl R (.own b) (.box wg cs) dk) (aF:cells[i]? = some (ea b n cap)) (cu:cs.length=cap) (aA:n≤cap) (hm:n≤9223372036854775807) (ih:(cs.take n).all e4=true)
  (h:Ok s ((.own kb,.box T (cells.set i (.ay 1 (cs.take n) .aZ)))::dk)→ae P N c Q env (aQ s ((.own kb,.box T (cells.set i (.ay 1 (cs.take n) .aZ)))::dk))):ae P N c Q env (aQ s L):=by
 obtain ⟨g1,g2,g3,g4,g5⟩:=Mz (o'' := .box T (cells.set i (.ay 1 (cs.take n) .aZ))) I U ad;intro sB B a w p eU aI;obtain ⟨bg,al,bd,bB⟩:=aI.GZ g1 g2 aF g3 cu aA hm ih;rw [g4] at al bB;exact lG (h g5 sB B a w bg eU al) fun _ _ _ q=>q.after bd bB
end
abbrev kH:=List Int×Nat
def h1 (σ:dJ) (e:kH):bN×ds:=(.own e.2,.box 340 (ke (σ e.1) (.ay 1 ((σ e.1).eY.map bb) .aZ) (.ay 1 ((σ e.1).bj.map bb) .aZ)))
def nQ (es:List kH):SMap:=es.map fun e=>(e.1,.ptr e.2 0)
def l4 (σ:dJ) (mb:Nat) (es:List kH):a6:=qs mb (nQ es)::es.map (h1 σ)
theorem ae.MC {P:Program} {N:Nat} {Q:bX→Env→ak→Prop} {env:Env} {s:ak} {c:Code} (σ:dJ):∀ (es:List fF) (A:a6),(∀ e∈es,rA e.bx (σ e.sp).bj∧(σ e.sp).bj.length<bt)→Ok s (A++es.flatMap (iv σ)) →
    (Ok s (A++es.map fun e=>h1 σ (e.sp,e.b))→ae P N c Q env (aQ s (A++es.map fun e=>h1 σ (e.sp,e.b))))→ae P N c Q env (aQ s (A++es.flatMap (iv σ)))
  | [],A,_,I,h=>h I
  | e::es,A,ao,I,h=>by
    have an:=bC;obtain ⟨kv,kp⟩:=ao e i5;have VX:Ok s ((A++[h1 σ (e.sp,e.b)])++es.flatMap (iv σ))→ae P N c Q env (aQ s ((A++[h1 σ (e.sp,e.b)])++es.flatMap (iv σ))):=fun I=>by
      refine ae.MC σ es (A++[h1 σ (e.sp,e.b)]) (fun x ab=>ao x (g7 _ ab)) I ?_;intro I;rw [ae6] at I ⊢;exact h I
    have lx:Ok s (h1 σ (e.sp,e.b)::(A++es.flatMap (iv σ)))→ae P N c Q env (aQ s (h1 σ (e.sp,e.b)::(A++es.flatMap (iv σ)))):=fun I=>by
      refine ae.lQ I ((A++[h1 σ (e.sp,e.b)])++es.flatMap (iv σ)) (aH.h9 ?_) VX;rw [ae6];exact (al0 (l₁:=A)).symm
    rw [ah4] at I ⊢;refine ae.lQ I (iv σ e++(A++es.flatMap (iv σ))) (aH.h9 (at7 _ _ _)) (fun aD=>?_);clear I;have m6:cM (ke (σ e.sp) (.ay 1 ((σ e.sp).eY.map bb) e.on) (.ay 1 ((σ e.sp).bj.map bb) .aZ)) (ke (σ e.sp) (.ay 1 ((σ e.sp).eY.map bb) .aZ) (.ay 1 ((σ e.sp).bj.map bb) .aZ)) := .cons aM (.cons aM (.cons aR.aZ (cM.refl _)));unfold iv oG at aD ⊢;rcases dj:e.bx with _|⟨g,cap,dN⟩
    · rw [dj] at aD kv
      have bo:(σ e.sp).bj=[]:=kv;have VY:cM (ke (σ e.sp) (.ay 1 ((σ e.sp).eY.map bb) e.on) (kF none (σ e.sp).bj)) (ke (σ e.sp) (.ay 1 ((σ e.sp).eY.map bb) .aZ) (.ay 1 ((σ e.sp).bj.map bb) .aZ)):=by
        rw [bo];exact .cons aM (.cons aM (.cons aR.aZ (.cons aM (.cons aM (.cons aM (.cons aM (.one aR.empty)))))))
      refine ae.vt aD e.b _ .here VY (fun aD=>?_);refine ae.lQ aD (h1 σ (e.sp,e.b)::(A++es.flatMap (iv σ))) (.cons .here (aH.there (e:=(e.on,.row 3 1 (σ e.sp).eY.length)) (aH.all (A++es.flatMap (iv σ))))) lx
    · rw [dj] at aD kv
      have j1:(σ e.sp).bj.length+dN.length=cap:=kv;refine ae.GZ aD 7 .here (.there .here) C cO ag ag Gv (fun aD=>?_);rw [an7 bc] at aD ⊢;refine ae.vt aD e.b _ .here m6 (fun aD=>?_);refine ae.lQ aD (h1 σ (e.sp,e.b)::(A++es.flatMap (iv σ))) (.cons .here (aH.there (e:=(e.on,.row 3 1 (σ e.sp).eY.length)) (aH.all (A++es.flatMap (iv σ))))) lx
structure wh (n:Nat) (E:List kH) (σ:dJ) (es:List kH):Prop where
 four:∀ e∈es,e.1.length=4
 rest:∀ q,q∉es.map Prod.fst→σ q=iH
 l3:∀ q,l2 n (σ q)
 su:∀ x∈E,x∈es
def VZ (n:Nat) (σ:dJ) (mb:Nat) (v:af) (o:eo) (K:a6):Prop:=o = .ret v∧∃ es,K=l4 σ mb es∧wh n [] σ es
theorem V0 (w:bw) (hw:w.ps.length≤60) (l:List ch) (aB:3*l.length+3<bt) (ab:∀ x∈l,sU w x) :
  bz d0 248 [fR w,pv l] [] (fun o K=>∃ mb,VZ (3*l.length) (ec l) mb (hT w mb) o K):=by
 have an:=bC;refine bz.bn aj Tryz.func248 C C fun s I=>?_
 unfold fR e1;refine dz ?_;refine aa.q1 I C C C C (fun mb I=>?_);refine bG ?_;refine ae.cl [5,12,13] C I (σ:=Nat×List fF) (fun q=>[(14,.int .i64 (q.1:Int))]) (fun q=>lz (ec (l.take q.1)) mb q.2) (fun q=>q.1≤l.length∧oH (3*q.1) (ec (l.take q.1)) q.2) (fun q=>l.length-q.1) (0,[]) ⟨g9 _,⟨by simp,by simp,fun q _=>rfl,by simp,fun q=>Vq _⟩⟩ (cI C) (aH.all _) ?_;rintro ⟨j,es⟩ ⟨aO,cB⟩ I;simp only at aO cB I ⊢;refine ck ?_;refine ae.cond C (fun az=>?_) (fun a'=>?_);rotate_left
 ·have a':j=l.length:=by simp at a';omega
  subst a';rw [ac'] at cB I ⊢;refine ae.MC (ec l) es [qs mb (mD es)] (fun e he=>⟨cB.bx e he,by have:=(cB.l3 e.sp).bj;omega⟩) I (fun I=>?_);refine eH ?_;refine Fin.bu I C aM (aH.all _) ⟨mb,rfl,es.map (fun e=>(e.sp,e.b)),?_,?_,?_,cB.l3,by simp⟩
  ·unfold l4 nQ mD
   simp [List.map_map,Function.comp_def]
  ·intro e he
   obtain ⟨x,ab,rfl⟩:=ad2.1 he;exact cB.four x ab
  ·intro q bp
   refine cB.rest q (fun hm=>bp ?_);obtain ⟨x,ab,rfl⟩:=ad2.1 hm;exact ad2.2 ⟨(x.sp,x.b),ad2.2 ⟨x,ab,rfl⟩,rfl⟩
 have az:j<l.length:=by simpa using az
 obtain ⟨x,ax,da⟩:=cf (f:=hR) az;have ao:ec (l.take (j+1))=addLit (ec (l.take j)) x:=by
  unfold ec;rw [js ax,an'];rfl
 have a8:=VU w hw mb _ _ es cB ag x (ab x (d6 ax));unfold hT fR e1 at a8;unfold hR pj aq.cells at da a8
 repeat (first|(refine B8 I ?_;clear I;intro I)|refine aa.dO aj I rfl rfl rfl rfl rfl rfl rfl (fun cy I=>?_))
 refine aa.bZ rfl rfl rfl rfl rfl a8 I (aH.all _).there ?_ (fun _ _ ⟨h,_⟩ _=>by cases h);rintro _ _ ⟨⟨⟩,dn,rfl,iR⟩ I;refine hI ?_;refine bF.mk (j+1,dn) I ⟨az,?_⟩ cC (by show aH _ (lz (ec (l.take (j+1))) mb dn) _;rw [ao];exact aH.jd (aH.all _)) rk;rw [ao];exact iR
theorem V1 {es:List kH} {sp:List Int}:(nQ es).find? (fun e=>e.1==sp)=none↔sp∉es.map Prod.fst:=by
 unfold nQ;rw [at9];constructor
 ·intro h hm
  obtain ⟨e,he,rfl⟩:=ad2.1 hm;have:=h _ (ad2.2 ⟨e,he,rfl⟩);simp at this
 ·intro h x ab
  obtain ⟨e,he,rfl⟩:=ad2.1 ab;simp only [aj1];intro bR;exact h (ad2.2 ⟨e,he,bR⟩)
theorem V2 {es:List kH} {sp:List Int} {x:List Int×af} (h:(nQ es).find? (fun e=>e.1==sp)=some x):∃ e∈es,e.1=sp∧x=(e.1,.ptr e.2 0):=by
 unfold nQ at h;have U:=ar0 h;have ad:=av1 h;obtain ⟨e,he,rfl⟩:=ad2.1 U;exact ⟨e,he,by simpa using ad,rfl⟩
theorem wi (w:bw) (mb n:Nat) (σ:dJ) (es:List kH) {E:List kH} (cB:wh n E σ es) (hz dV dg dB:Int) :
  bz d0 280 [hT w mb,iu [hz,dV,dg,dB]] (l4 σ mb es) (fun o K=>∃ b R,o = .ret (.ptr b 0)∧(∃ dn,(h1 σ ([hz,dV,dg,dB],b)::R).Perm (l4 σ mb dn)∧wh n E σ dn∧([hz,dV,dg,dB],b)∈dn)∧K=h1 σ ([hz,dV,dg,dB],b)::R):=by
 have h:=L4 (.ay 1 [] .aZ) (.ay 1 [] .aZ) aR.empty aR.empty w mb (nQ es) (fun e he=>by
  unfold nQ at he
  obtain ⟨x,ab,rfl⟩:=ad2.1 he
  exact cB.four x ab) hz dV dg dB
 refine bz.frame h (R:=es.map (h1 σ)) (.cons .here .nil) ?_;rintro o aN (⟨x,ab,rfl,rfl⟩|⟨a1,b,rfl,rfl⟩)
 ·obtain ⟨⟨sp,b⟩,he,U,rfl⟩:=V2 ab
  simp only at U;subst U;obtain ⟨pre,post,rfl⟩:=ar5 he;have aE:((qs mb (nQ (pre++([hz,dV,dg,dB],b)::post)))::(pre++([hz,dV,dg,dB],b)::post).map (h1 σ)).Perm (h1 σ ([hz,dV,dg,dB],b)::(qs mb (nQ (pre++([hz,dV,dg,dB],b)::post))::(pre.map (h1 σ)++post.map (h1 σ)))):=by
   rw [ac2,ac0];exact ((al0).cons _).trans (aj5.swap _ _ _)
  exact ⟨[],_,by simp,aE,b,_,rfl,⟨_,aE.symm,cB,by simp⟩,rfl⟩
 ·have mK:=V1.1 a1
  have z1:=cB.rest _ mK;have b7:h1 σ ([hz,dV,dg,dB],b)=(.own b,.box 340 (ke iH (.ay 1 [] .aZ) (.ay 1 [] .aZ))):=by
   unfold h1;simp only [z1];rfl
  refine ⟨[],h1 σ ([hz,dV,dg,dB],b)::(qs mb (nQ (es++[([hz,dV,dg,dB],b)]))::es.map (h1 σ)),by simp,?_,b,_,rfl,⟨es++[([hz,dV,dg,dB],b)],?_,?_,by simp⟩,rfl⟩
  ·rw [b7]
   have bR:nQ (es++[([hz,dV,dg,dB],b)])=nQ es++[([hz,dV,dg,dB],.ptr b 0)]:=by unfold nQ;rw [ac2];rfl
   rw [bR];exact aj5.swap _ _ _
  ·unfold l4
   rw [ac2];refine (aj5.swap _ _ _).trans (aj5.cons _ ?_);exact aq2 (l₁:=[h1 σ ([hz,dV,dg,dB],b)])
  ·refine ⟨fun e he=>?_,fun q bp=>cB.rest q (fun hm=>bp (by rw [ac2];exact ai0 _ hm)),cB.l3,fun x ab=>ai0 _ (cB.su x ab)⟩
   rcases ac7.1 he with he|he
   ·exact cB.four e he
   ·rw [t7] at he;subst he;rfl
theorem V3 (fv:af) (q:Int→Bool) (acv:a6→Prop) (xs:List Int) (aB:xs.length<bt) (h:∀ x∈xs,∀ K,acv K→dh d0 fv [bb x] K (fun o aN=>o = .ret (.bool (q x))∧acv aN)) (K:a6) (aw:acv K) :
  bz d0 90 [.ay 1 (xs.map bb) .aZ,fv] K (fun o aN=>o = .ret (.int .i64 (match xs.findIdx? q with|some i=>(i:Int)|none => -1))∧acv aN):=by
 have an:=bC;refine bz.bn aj Tryz.func90 C C fun s I=>?_
 refine hs ?_;refine ae.cl [0,1,7] C I (σ:=Nat×a6) (fun j=>[(8,.int .i64 (j.1:Int))]) (fun j=>j.2) (fun j=>j.1≤xs.length∧acv j.2∧∀ i y,i<j.1→xs[i]? = some y→q y=false) (fun j=>xs.length-j.1) (0,K) ⟨g9 _,aw,fun i y aS=>absurd aS (an4 _)⟩ (cI C) (aH.all _) ?_;rintro ⟨j,Ar⟩ ⟨aO,G1,cZ⟩ I;simp only at aO G1 cZ I ⊢;refine ck ?_;refine ae.cond C (fun az=>?_) (fun a'=>?_)
 ·have az:j<xs.length:=by simpa using az
  obtain ⟨x,ab,ct⟩:=cf (f:=bb) az;have ar:=h x (d6 ab) Ar G1;unfold bb at ct ar;refine bG ?_;refine aa.gr rfl rfl rfl rfl rfl rfl ar I (aH.all _) ?_ (fun _ _ ⟨h,_⟩ _=>by cases h);rintro _ iw ⟨⟨⟩,kd⟩ I;rw [d8] at I ⊢;cases bp:q x with
  | true=>
   rw [KL q xs j x ab bp cZ];refine fB ?_;exact Fin.bu I C aM (aH.all _) ⟨rfl,kd⟩
  | false=>
   refine bG ?_
   exact bF.mk (j+1,iw) I ⟨az,kd,fun i y aS ax=>by
    rcases af3.1 aS with aS|rfl
    ·exact cZ i y aS ax
    ·rw [ab] at ax;cases ax;exact bp⟩ cC (aH.all _) q5
 ·have a':j=xs.length:=by simp at a';omega
  subst a';rw [KM q xs (fun i y ax=>cZ i y (re ax) ax)];refine eH ?_;exact Fin.bu I C aM (aH.all _) ⟨rfl,G1⟩
theorem V4 {α:Type} (q:α→Bool) (l:List α):decide ((match l.findIdx? q with|some i=>(i:Int)|none => -1)≥0)=l.any q:=by
 cases h:l.findIdx? q with
 | none=>
  rw [ag8] at h;have:l.any q=false:=by rw [ah'];intro x ab;rw [h x ab];simp
  rw [this];rfl
 | some i=>
  rw [af2] at h;obtain ⟨aS,U,_⟩:=h;have:l.any q=true:=ae4.2 ⟨_,ak3 aS,U⟩;rw [this];simp
theorem V5 (fv:af) (q:Int→Bool) (acv:a6→Prop) (xs:List Int) (aB:xs.length<bt) (h:∀ x∈xs,∀ K,acv K→dh d0 fv [bb x] K (fun o aN=>o = .ret (.bool (q x))∧acv aN)) (K:a6) (aw:acv K) :
  bz d0 40 [.ay 1 (xs.map bb) .aZ,fv] K (fun o aN=>o = .ret (.bool (xs.any q))∧acv aN):=by
 rw [← V4];have aF:=V3 fv q acv xs aB h K aw;refine bz.bn aj Tryz.func40 C C fun s I=>?_
 refine dz ?_;refine aa.bZ rfl rfl rfl rfl rfl aF I (aH.all _) ?_ (fun _ _ ⟨h,_⟩ _=>by cases h);rintro _ iw ⟨⟨⟩,kd⟩ I;rw [d8] at I ⊢;refine dY ?_;exact Fin.bu I C aM (aH.all _) ⟨rfl,kd⟩
theorem V6 (f:FuncId) (h8 hf:List af) (q:Int→Bool) (acv:a6→Prop) (xs:List Int) (aB:xs.length<bt) (h:∀ x∈xs,∀ K,acv K→dh d0 (.func f h8 hf) [bb x] K (fun o aN=>o = .ret (.bool (q x))∧acv aN)) (K:a6) (aw:acv K) :
  bz d0 198 [.ay 1 (xs.map bb) .aZ,.func f h8 hf] K (fun o aN=>o = .ret (.bool (xs.all q))∧acv aN):=by
 have U:∀ x∈xs,∀ K,acv K→dh d0 (.func 233 [] [.bs [.func f h8 hf] 0]) [bb x] K (fun o aN=>o = .ret (.bool (!q x))∧acv aN):=fun x ab K bm=>by
  refine dh.fa (first:=[]) (cap:=[.bs [.func f h8 hf] 0]) ?_;refine bz.bn aj Tryz.func233 C C fun s I=>?_
  have ar:=h x ab K bm;unfold bb at ar ⊢;refine dz ?_;refine aa.gr rfl rfl rfl rfl rfl rfl ar I (aH.all _) ?_ (fun _ _ ⟨h,_⟩ _=>by cases h);rintro _ iw ⟨⟨⟩,kd⟩ I;rw [d8] at I ⊢;refine dY ?_;exact Fin.bu I C aM (aH.all _) ⟨rfl,kd⟩
 rw [← zS];have aF:=V5 _ (fun x => !q x) acv xs aB U K aw;refine bz.bn aj Tryz.func198 C C fun s I=>?_
 refine dz ?_;refine aa.bZ rfl rfl rfl rfl rfl aF I (aH.all _) ?_ (fun _ _ ⟨h,_⟩ _=>by cases h);rintro _ iw ⟨⟨⟩,kd⟩ I;rw [d8] at I ⊢;refine dY ?_;exact Fin.bu I C aM (aH.all _) ⟨rfl,kd⟩
theorem MD (arg:Int) (path:List Int) (bx:Int) (h:path.length<2):aU d0 281 [iu (bq arg path),.int .i64 bx] (iu (bq arg (path++[bx]))):=by
 match path,h with
 | [],_=>exact L5 arg 0 0 bx
 | [a],_=>exact L6 arg a 0 bx
structure uk (n:Nat) (σ:dJ):Prop where
 deep:∀ arg path,2≤path.length→(σ (bq arg path)).bj=[]
 l3:∀ q,l2 n (σ q)
def lA (n:Nat) (E:List kH) (σ:dJ) (mb:Nat) (K:a6):Prop:=∃ es,K=l4 σ mb es∧wh n E σ es
def As (σ:dJ) (arg:Int) (path:List Int):Bool:=(σ (bq arg path)).bj.all fun s => !(σ (bq arg (path++[s]))).gb
theorem V7 (w:bw) (mb n:Nat) (σ:dJ) (arg:Int) (path:List Int) (aE:path.length<2) (bx:Int) {E:List kH} (K:a6) (bm:lA n E σ mb K) :
  dh d0 (.func 315 [] [.bs [hT w mb] 0,.bs ((bq arg path).map (af.int .i64)) 0]) [bb bx] K (fun o aN=>o = .ret (.bool (!(σ (bq arg (path++[bx]))).gb))∧lA n E σ mb aN):=by
 obtain ⟨es,rfl,cB⟩:=bm;have U:=MD arg path bx aE;have ad:=wi w mb n σ es cB arg ((path++[bx]).length:Int) ((path++[bx]).getD 0 0) ((path++[bx]).getD 1 0);refine dh.fa (first:=[]) (cap:=[.bs [hT w mb] 0,.bs ((bq arg path).map (af.int .i64)) 0]) ?_;refine bz.bn aj Tryz.func315 C C fun s I=>?_
 unfold hT at *;unfold iu jU at U;refine oj ?_;refine aL.ka rfl rfl rfl rfl rfl rfl ad I (aH.all _) ?_ (fun _ _ ⟨_,_,h,_⟩ _=>by cases h);rintro _ _ ⟨b,R,⟨⟩,⟨dn,fc,iR,fV⟩,rfl⟩ I;rw [d8] at I ⊢;refine cm I ?_;intro I;exact Fin.bu I C aM (aH.h9 fc) ⟨rfl,dn,rfl,iR⟩
theorem V8 (w:bw) (mb n:Nat) (aA:n<bt) (σ:dJ) (b6:uk n σ) (arg:Int) (path:List Int) (aE:path.length≤2) {E:List kH} (K:a6) (bm:lA n E σ mb K) :
    bz d0 305 [hT w mb,iu (bq arg path)] K (fun o aN=>o = .ret (.bool (As σ arg path))∧lA n E σ mb aN):=by
  obtain ⟨es,rfl,cB⟩:=bm;have ad:=wi w mb n σ es cB arg (path.length:Int) (path.getD 0 0) (path.getD 1 0);have kR:=(b6.l3 (bq arg path)).bj
  have al:=V6 315 [] [.bs [hT w mb] 0,.bs ((bq arg path).map (af.int .i64)) 0] (fun s => !(σ (bq arg (path++[s]))).gb) (lA n E σ mb) (σ (bq arg path)).bj ag (fun x ab K bm=>by
    have ig:path.length<2:=by
      rcases ao6 path.length 2 with h|h
      · exact h
      · rw [b6.deep arg path h] at ab;cases ab
    exact V7 w mb n σ arg path ig x K bm)
  refine bz.bn aj Tryz.func305 C C fun s I=>?_
  unfold hT at *;unfold iu jU at *;refine dz ?_;refine aa.bZ rfl rfl rfl rfl rfl ad I (aH.all _) ?_ (fun _ _ ⟨_,_,h,_⟩ _=>by cases h);rintro _ _ ⟨b,R,⟨⟩,⟨dn,fc,iR,fV⟩,rfl⟩ I;rw [d8] at I ⊢;unfold h1 at I ⊢;refine cm I ?_;intro I;refine aa.lQ I (l4 σ mb dn) (aH.h9 fc) (fun I=>?_);refine aa.bZ rfl rfl rfl rfl rfl (al _ ⟨dn,rfl,iR⟩) I (aH.all _) ?_ (fun _ _ ⟨h,_⟩ _=>by cases h);rintro _ iw ⟨⟨⟩,nR⟩ I;rw [d8] at I ⊢;refine dY ?_;exact Fin.bu I C aM (aH.all _) ⟨rfl,nR⟩
def um (σ:dJ) (arg:Int) (path:List Int) (c:Nat):Bool:=
 decide (kz (σ (bq arg path)).fE (1|||2^c)=0)&&(decide ((σ (bq arg path)).no &&& (1|||2^c)=0)&&As σ arg path)
theorem Au (m:Nat):(((m:Nat):Int)==0)=decide (m=0):=by
 rw [ad1,aj1,g8];omega
theorem ME (w:bw) (mb n:Nat) (aA:n<bt) (σ:dJ) (b6:uk n σ) (arg:Int) (path:List Int) (aE:path.length≤2) (c:Nat) (aF:c<3) {E:List kH} (K:a6) (bm:lA n E σ mb K) :
  bz d0 291 [hT w mb,iu (bq arg path),.int .i64 (c:Int)] K (fun o aN=>o = .ret (.bool (um σ arg path c))∧lA n E σ mb aN):=by
 obtain ⟨es,rfl,cB⟩:=bm;have ad:=wi w mb n σ es cB arg (path.length:Int) (path.getD 0 0) (path.getD 1 0);have kR:=b6.l3 (bq arg path);have U:=Gd c ag;have j2:1|||2^c<2^64:=ag' dE (ag6 ag ag)
 have al:=fun K bm=>V8 (E:=E) w mb n aA σ b6 arg path aE K bm
 have hm:um σ arg path c=(decide (kz (σ (bq arg path)).fE (1|||2^c)=0)&&(decide ((σ (bq arg path)).no &&& (1|||2^c)=0)&&As σ arg path)):=rfl;refine bz.bn aj Tryz.func291 C C fun s I=>?_
 unfold hT at *;unfold iu jU at *;refine dz ?_;refine aa.bZ rfl rfl rfl rfl rfl ad I (aH.all _) ?_ (fun _ _ ⟨_,_,h,_⟩ _=>by cases h);rintro _ _ ⟨b,R,⟨⟩,⟨dn,fc,iR,fV⟩,rfl⟩ I;rw [d8] at I ⊢;unfold h1 at I ⊢;refine cm I ?_;intro I;refine aa.bits ((kz (σ (bq arg path)).fE (1|||2^c):Nat):Int) C C C C C C (Ci kR.fE j2) ?_;refine dD ?_;cases pt:decide (kz (σ (bq arg path)).fE (1|||2^c)=0) with
 | false=>
  refine aa.dc 21 C (by rw [Au];exact pt) ?_;refine dT ?_;rw [pt,f7] at hm;exact Fin.bu I C aM (aH.h9 fc) ⟨by rw [hm],dn,rfl,iR⟩
 | true=>
  refine aa.dW 21 C (by rw [Au];exact pt) ?_;refine cm I ?_;intro I;refine aa.bits (((σ (bq arg path)).no &&& (1|||2^c):Nat):Int) C C C C C C (tG kR.no j2) ?_;refine dD ?_;cases lf:decide ((σ (bq arg path)).no &&& (1|||2^c)=0) with
  | false=>
   refine aa.dc 30 C (by rw [Au];exact lf) ?_;refine dT ?_;rw [pt,lf,f4,f7] at hm;exact Fin.bu I C aM (aH.h9 fc) ⟨by rw [hm],dn,rfl,iR⟩
  | true=>
   refine aa.dW 30 C (by rw [Au];exact lf) ?_;refine dD ?_;refine aa.lQ I (l4 σ mb dn) (aH.h9 fc) (fun I=>?_);refine aa.bZ rfl rfl rfl rfl rfl (al _ ⟨dn,rfl,iR⟩) I (aH.all _) ?_ (fun _ _ ⟨h,_⟩ _=>by cases h);rintro _ iw ⟨⟨⟩,nR⟩ I;rw [d8] at I ⊢;refine dY ?_;rw [pt,lf,f4,f4] at hm;exact Fin.bu I C aM (aH.all _) ⟨by rw [hm],nR⟩
def wj (σ:dJ) (arg:Int) (path:List Int):Bool := !(σ (bq arg path)).whole&&um σ arg path 2
theorem V9 (w:bw) (mb n:Nat) (aA:n<bt) (σ:dJ) (b6:uk n σ) (arg:Int) (path:List Int) (aE:path.length≤2) {E:List kH} (K:a6) (bm:lA n E σ mb K) :
  bz d0 284 [hT w mb,iu (bq arg path)] K (fun o aN=>o = .ret (.bool (wj σ arg path))∧lA n E σ mb aN):=by
 obtain ⟨es,rfl,cB⟩:=bm;have ad:=wi w mb n σ es cB arg (path.length:Int) (path.getD 0 0) (path.getD 1 0);have al:=fun K bm=>ME (E:=E) w mb n aA σ b6 arg path aE 2 ag K bm
 have hm:wj σ arg path=(!(σ (bq arg path)).whole&&um σ arg path 2):=rfl;refine bz.bn aj Tryz.func284 C C fun s I=>?_
 unfold hT at *;unfold iu jU at *;refine dz ?_;refine aa.bZ rfl rfl rfl rfl rfl ad I (aH.all _) ?_ (fun _ _ ⟨_,_,h,_⟩ _=>by cases h);rintro _ _ ⟨b,R,⟨⟩,⟨dn,fc,iR,fV⟩,rfl⟩ I;rw [d8] at I ⊢;unfold h1 at I ⊢;refine cm I ?_;intro I;cases hw:(σ (bq arg path)).whole with
 | true=>
  refine aa.dc 12 C (by show (!(σ (bq arg path)).whole)=false;rw [hw];rfl) ?_;refine dT ?_;rw [hw] at hm;exact Fin.bu I C aM (aH.h9 fc) ⟨by rw [hm];rfl,dn,rfl,iR⟩
 | false=>
  refine aa.dW 12 C (by show (!(σ (bq arg path)).whole)=true;rw [hw];rfl) ?_;refine dD ?_;refine aa.lQ I (l4 σ mb dn) (aH.h9 fc) (fun I=>?_);refine aa.bZ rfl rfl rfl rfl rfl (al _ ⟨dn,rfl,iR⟩) I (aH.all _) ?_ (fun _ _ ⟨h,_⟩ _=>by cases h);rintro _ iw ⟨⟨⟩,nR⟩ I;rw [d8] at I ⊢;refine dY ?_;rw [hw] at hm;exact Fin.bu I C aM (aH.all _) ⟨by rw [hm];rfl,nR⟩
def pz:Nat→Int→List Int→Int
 | 0,n,_=>n
 | k+1,n,l=>if l.contains n then pz k (n+1) l else n
def wk (k:de):Int:=pz (k.eY.length+1) k.low k.eY
def wm (σ:dJ) (arg:Int) (path:List Int):Bool:=decide (wk (σ (bq arg path))≤(σ (bq arg path)).high)&&um σ arg path 1
def nS (n:Int) (l:List Int):Nat:=(l.filter fun x=>decide (x≥n)).length
theorem MF (n:Int) (l:List Int):nS n l≤l.length:=List.length_filter_le _ _
theorem MG (n:Int):∀ l:List Int,nS (n+1) l≤nS n l
  | []=>i0 _
  | x::r=>by
    have aX:=MG n r;unfold nS at *;rw [ai8,ai8];by_cases U:x≥n+1
    · rw [f9 vy,f9 cO,i7,i7];omega
    · rw [f0 vy]
      split
      · rw [i7];omega
      · exact aX
theorem G2 {n:Int}:∀ {l:List Int},n∈l→nS (n+1) l<nS n l
  | x::r,h=>by
    have bo:=MG n r;unfold nS at *;rw [ai8,ai8];rcases ad4.1 h with rfl|h
    · rw [f0 cO,f9 bc,i7];omega
    · have aX:=G2 h
      unfold nS at aX;by_cases U:x≥n+1
      · rw [f9 vy,f9 cO,i7,i7];omega
      · rw [f0 vy]
        split
        · rw [i7];omega
        · exact aX
theorem G3:∀ (f ml:Nat) (n:Int) (l:List Int),nS n l<f→nS n l<ml→pz f n l=pz ml n l
  | f+1,ml+1,n,l,h,eT=>by
    rw [pz,pz];cases aF:l.contains n with
    | false=>rfl
    | true=>
      have:=G2 (n:=n) (l:=l) (by simpa using aF);simp only [ae2];exact G3 f ml (n+1) l ag ag
theorem V' (w:bw) (mb n:Nat) (aA:n<bt) (σ:dJ) (b6:uk n σ) (arg:Int) (path:List Int) (aE:path.length≤2) {E:List kH} (K:a6) (bm:lA n E σ mb K) :
  bz d0 283 [hT w mb,iu (bq arg path)] K (fun o aN=>o = .ret (.cg [.int .i64 (wk (σ (bq arg path))),.bool (wm σ arg path)])∧lA n E σ mb aN):=by
 have an:=bC;obtain ⟨es,rfl,cB⟩:=bm;have ad:=wi w mb n σ es cB arg (path.length:Int) (path.getD 0 0) (path.getD 1 0);have al:=fun K bm=>ME (E:=E) w mb n aA σ b6 arg path aE 1 ag K bm
 have hm:wm σ arg path=(decide (wk (σ (bq arg path))≤(σ (bq arg path)).high)&&um σ arg path 1):=rfl;have kR:=b6.l3 (bq arg path);have EE:=kR.eY;have nN:=kR.num;have Wa:wk (σ (bq arg path))=pz (nS (σ (bq arg path)).low (σ (bq arg path)).eY+1) (σ (bq arg path)).low (σ (bq arg path)).eY:=G3 _ _ _ _ (by have:=MF (σ (bq arg path)).low (σ (bq arg path)).eY;omega) ag;have hY:=fun v=>vH (σ (bq arg path)).eY v ag
 refine bz.bn aj Tryz.func283 C C fun s I=>?_
 unfold hT at *;unfold iu jU at *;refine dz ?_;refine aa.bZ rfl rfl rfl rfl rfl ad I (aH.all _) ?_ (fun _ _ ⟨_,_,h,_⟩ _=>by cases h);rintro _ _ ⟨b,R,⟨⟩,⟨dn,fc,iR,fV⟩,rfl⟩ I;rw [d8] at I ⊢;unfold h1 at I ⊢;refine cm I ?_;intro I;refine ae.cl [0,3,6] C I (σ:=Int) (fun v=>[(7,.int .i64 v)]) (fun _=>h1 σ ([arg,(path.length:Int),path.getD 0 0,path.getD 1 0],b)::R) (fun v=>wk (σ (bq arg path))=pz (nS v (σ (bq arg path)).eY+1) v (σ (bq arg path)).eY∧(σ (bq arg path)).low≤v∧v≤(σ (bq arg path)).low+((σ (bq arg path)).eY.length-nS v (σ (bq arg path)).eY:Nat)) (fun v=>nS v (σ (bq arg path)).eY) (σ (bq arg path)).low ⟨Wa,aj4 _,by omega⟩ (cI C) (aH.all _) ?_;rintro v ⟨ar,sj,oY⟩ I;unfold h1 at I ⊢;have rC:=hY v;unfold bk at rC;cases aF:(σ (bq arg path)).eY.contains v with
 | true=>
  rw [aF] at rC;have az:=G2 (n:=v) (l:=(σ (bq arg path)).eY) (by simpa using aF);have hle:=MF v (σ (bq arg path)).eY;rw [pz,aF] at ar;simp only [ae2] at ar;have eg:aa' .i64 (v+1)=v+1:=er ag ag;refine ha I ?_;intro I;refine bF.mk (v+1) I ⟨?_,by omega,by omega⟩ (by repeat (first|exact trivial|refine ⟨⟨_,rfl,aM⟩,?_⟩|refine ⟨⟨_,rfl,aR.of_eq (by (rw [eg]))⟩,?_⟩)) (aH.all _) az;rw [ar];exact G3 _ _ _ _ ag ag
 | false=>
  rw [aF] at rC;rw [pz,aF] at ar;simp only [ad5,af5] at ar;subst ar;refine cm I ?_;intro I;cases av:decide (wk (σ (bq arg path))≤(σ (bq arg path)).high) with
  | false=>
   refine aa.dc 33 C av ?_;refine dT ?_;rw [av] at hm;exact Fin.bu I C aM (aH.h9 fc) ⟨by rw [hm];rfl,dn,rfl,iR⟩
  | true=>
   refine aa.dW 33 C av ?_;refine dD ?_;refine aa.lQ I (l4 σ mb dn) (aH.h9 fc) (fun I=>?_);refine aa.bZ rfl rfl rfl rfl rfl (al _ ⟨dn,rfl,iR⟩) I (aH.all _) ?_ (fun _ _ ⟨h,_⟩ _=>by cases h);rintro _ iw ⟨⟨⟩,nR⟩ I;rw [d8] at I ⊢;refine dY ?_;rw [av] at hm;exact Fin.bu I C aM (aH.all _) ⟨by rw [hm];rfl,nR⟩
def jv (w:bw) (s:Int):Nat:=(w.owner.getD s.toNat 0).toNat
def oJ (w:bw) (σ:dJ) (cn:List Int→Bool) (arg:Int) (path:List Int):List Int→Nat→Nat→Option (Nat×Nat)
 | [],m,n=>some (m,n)
 | s::r,m,n=>
  if (σ (bq arg (path++[s]))).gb && !cn (path++[s]) then none
  else if (σ (bq arg (path++[s]))).gb then oJ w σ cn arg path r (m|||2^jv w s) n
  else if cn (path++[s]) then oJ w σ cn arg path r m n
  else oJ w σ cn arg path r m (n|||2^jv w s)
def sY (w:bw) (m:Nat) (i:Nat):Nat:=if m.testBit (3+i) then m|||(eI w.ps).getD (3+i) 0 else m
def qB (w:bw) (m:Nat):Nat:=(af7 w.ps.length).foldl (sY w) m
def wo (w:bw) (σ:dJ) (cn:List Int→Bool) (arg:Int) (path:List Int):Nat×Bool:=
 if (σ (bq arg path)).whole||((σ (bq arg path)).fE.testBit 1||((σ (bq arg path)).fE.testBit 2||(σ (bq arg path)).no.testBit 0)) then (0,false)
 else match oJ w σ cn arg path (σ (bq arg path)).bj (σ (bq arg path)).fE (σ (bq arg path)).no with
  | none=>(0,false)
  | some (m,n)=>(kz (qB w m) 1,decide (kz (qB w m) 1 &&& n=0))
theorem bl.MH {o:bN} {dt:ds}:∀ {L:a6},(o,dt)∈L→∃ R,bl L o dt R
  | e::L,h=>by
    rcases ad4.1 h with rfl|h
    · exact ⟨_,bl.here⟩
    · obtain ⟨R,h⟩:=bl.MH h
      exact ⟨_,bl.there h⟩
structure C1 (w:bw) (σ:dJ):Prop where
 slot:∀ q,∀ x∈(σ q).bj,0≤x∧x<(w.owner.length:Int)
def MI (w:bw) (mb n:Nat) (σ:dJ) (arg:Int) (cn:List Int→Bool) (path:List Int):Prop:=
 ∀ (E:List kH) (K:a6),lA n E σ mb K→bz d0 270 [hT w mb,iu (bq arg path)] K (fun o aN=>o = .ret (.bool (cn path))∧lA n E σ mb aN)
theorem Wb (w:bw) (hw:fQ w) (mb n:Nat) (aA:n<bt) (σ:dJ) (b6:uk n σ) (gu:C1 w σ) (arg:Int) (path:List Int) (aE:path.length≤2) (cn:List Int→Bool) (wq:path.length<2→∀ s,MI w mb n σ arg cn (path++[s])) {E:List kH} (K:a6) (bm:lA n E σ mb K) :
  bz d0 285 [hT w mb,iu (bq arg path)] K (fun o aN=>o = .ret (.cg [.int .u64 ((wo w σ cn arg path).1:Int),.bool (wo w σ cn arg path).2])∧lA n E σ mb aN):=by
 have an:=bC;obtain ⟨es,rfl,cB⟩:=bm;have ad:=wi w mb n σ es cB arg (path.length:Int) (path.getD 0 0) (path.getD 1 0);have kR:=b6.l3 (bq arg path);have hm:wo w σ cn arg path=if (σ (bq arg path)).whole||((σ (bq arg path)).fE.testBit 1||((σ (bq arg path)).fE.testBit 2||(σ (bq arg path)).no.testBit 0)) then (0,false)
  else match oJ w σ cn arg path (σ (bq arg path)).bj (σ (bq arg path)).fE (σ (bq arg path)).no with
   | none=>(0,false)
   | some (m,n)=>(kz (qB w m) 1,decide (kz (qB w m) 1 &&& n=0)):=rfl
 have g1:=xG (σ (bq arg path)).fE 1 kR.fE ag;have g2:=xG (σ (bq arg path)).fE 2 kR.fE ag;have g0:=xG (σ (bq arg path)).no 0 kR.no ag;have rf:=fun bx h=>MD arg path bx h
 refine bz.bn aj Tryz.func285 C C fun s I=>?_
 unfold hT at *;unfold iu jU at *;refine dz ?_;refine aa.bZ rfl rfl rfl rfl rfl ad I (aH.all _) ?_ (fun _ _ ⟨_,_,h,_⟩ _=>by cases h);rintro _ _ ⟨b,R,⟨⟩,⟨dn,fc,iR,fV⟩,rfl⟩ I;rw [d8] at I ⊢;unfold h1 at I ⊢;refine sv I ?_;intro I;cases xZ:(σ (bq arg path)).whole with
 | true=>
  refine aa.dW 30 C xZ ?_;refine dT ?_;rw [xZ,al7,f9 C] at hm;exact Fin.bu I C aM (aH.h9 fc) ⟨by rw [hm];rfl,dn,rfl,iR⟩
 | false=>
 refine aa.dc 30 C xZ ?_;refine di ?_;cases pU:(σ (bq arg path)).fE.testBit 1 with
 | true=>
  refine dT ?_;rw [pU,al7,ao9,f9 C] at hm;exact Fin.bu I C aM (aH.h9 fc) ⟨by rw [hm];rfl,dn,rfl,iR⟩
 | false=>
 refine di ?_;cases lP:(σ (bq arg path)).fE.testBit 2 with
 | true=>
  refine dT ?_;rw [lP,al7,ao9,ao9,f9 C] at hm;exact Fin.bu I C aM (aH.h9 fc) ⟨by rw [hm];rfl,dn,rfl,iR⟩
 | false=>
 refine di ?_;cases xy:(σ (bq arg path)).no.testBit 0 with
 | true=>
  refine dT ?_;rw [xy,ao9,ao9,ao9,f9 C] at hm;exact Fin.bu I C aM (aH.h9 fc) ⟨by rw [hm];rfl,dn,rfl,iR⟩
 | false=>
 rw [xZ,pU,lP,xy] at hm;simp only [Bool.or_self,ad5,af5] at hm;refine cm I ?_;intro I;have abg:=kR.bj;refine ae.cl [0,3,45,46] C I (σ:=Nat×Nat×Nat×List kH) (fun q=>[(47,.int .i64 (q.1:Int)),(7,.int .u64 (q.2.1:Int)),(8,.int .u64 (q.2.2.1:Int))]) (fun q=>l4 σ mb q.2.2.2)
  (fun q=>q.1≤(σ (bq arg path)).bj.length∧oJ w σ cn arg path (σ (bq arg path)).bj (σ (bq arg path)).fE (σ (bq arg path)).no=oJ w σ cn arg path ((σ (bq arg path)).bj.drop q.1) q.2.1 q.2.2.1∧q.2.1<2^64∧q.2.2.1<2^64∧wh n E σ q.2.2.2)
  (fun q=>(σ (bq arg path)).bj.length-q.1) (0,(σ (bq arg path)).fE,(σ (bq arg path)).no,dn) ⟨g9 _,by rw [aj'],kR.fE,kR.no,iR⟩ (cI C) (aH.h9 fc) ?_
 rintro ⟨j,m,wu,G4⟩ ⟨aO,a1,x0,x1,uj⟩ I;simp only at aO a1 x0 x1 uj I ⊢;refine ck ?_;refine ae.cond C (fun az=>?_) (fun a'=>?_);rotate_left
 ·have a':j=(σ (bq arg path)).bj.length:=by
   have:¬ (j<(σ (bq arg path)).bj.length):=by simpa [bq] using a'
   omega
  subst a';rw [List.drop_length,oJ] at a1;rw [a1] at hm;simp only at hm;refine bG ?_;refine ae.cl [0,3] C I (σ:=Nat×Nat) (fun q=>[(14,.int .i64 ((3+q.1:Nat):Int)),(7,.int .u64 (q.2:Int)),(8,.int .u64 (wu:Int))]) (fun q=>l4 σ mb G4)
   (fun q=>q.1≤w.ps.length∧q.2=(af7 q.1).foldl (sY w) m∧q.2<2^64) (fun q=>w.ps.length-q.1) (0,m) ⟨g9 _,rfl,x0⟩ (cI C) (aH.all _) ?_
  rintro ⟨c,hk⟩ ⟨aF,G5,eZ⟩ I;simp only at aF G5 eZ I ⊢;have tZ:=hw.j9;have eg:aa' .i64 (3+((w.ps.map bk).length:Int))=3+(w.ps.length:Int):=by rw [f5,er ag ag]
  refine ck ?_;refine ae.cond C (fun cU=>?_) (fun et=>?_);rotate_left
  ·have et:c=w.ps.length:=by rw [eg] at et;simp at et;omega
   subst et;have ra:qB w m=hk:=G5.symm;rw [ra] at hm;refine bG ?_;refine aa.bits ((kz hk 1:Nat):Int) C C C C C C (Ci eZ dE) ?_;refine hQ ?_;refine aa.bits ((kz hk 1 &&& wu:Nat):Int) C C C C C C (tG (Nat.and_lt_two_pow _ (Nat.xor_lt_two_pow dE dE)) x1) ?_;refine dY ?_;exact Fin.bu I C aM (aH.all _) ⟨by rw [hm];simp only [Au],G4,rfl,uj⟩
  have cU:c<w.ps.length:=by rw [eg] at cU;simp at cU;omega
  have j2:=sG w.ps;obtain ⟨u,hu⟩:∃ u,(eI w.ps)[3+c]? = some u:=⟨_,f8 ag⟩;have Wc:(eI w.ps).getD (3+c) 0=u:=by rw [d5,hu];rfl
  have vQ:=xn tZ u (d6 hu);have c6:=xG hk (3+c) eZ ag;have aI:(af7 (c+1)).foldl (sY w) m=sY w hk c:=by rw [an5,an',← G5];rfl
  have iQ:sY w hk c=if hk.testBit (3+c) then hk|||u else hk:=by unfold sY;rw [Wc]
  rw [iQ] at aI;have au:=zZ (w:=w) (xo hu);have yO:hk|||u<2^64:=ag' eZ vQ
  cases MJ:hk.testBit (3+c) with
  | false=>
   rw [MJ] at c6 aI;simp only [ad5,af5] at aI;refine cD ?_;exact bF.mk (c+1,hk) I ⟨cU,aI.symm,eZ⟩ L8 (aH.all _) (by show w.ps.length-(c+1)<w.ps.length-c;omega)
  | true=>
   rw [MJ] at c6 aI;simp only [ae2] at aI;refine di ?_;refine aa.lp aj (3+c) C C C C C C C C C C ag ?_;refine aa.zK aj C C C C C C C (by simpa using au) ?_;skip;refine aa.bits ((hk|||u:Nat):Int) C C C C C C (vC eZ vQ) ?_;refine hI ?_;exact bF.mk (c+1,hk|||u) I ⟨cU,aI.symm,yO⟩ L8 (aH.all _) (by show w.ps.length-(c+1)<w.ps.length-c;omega)
 have az:j<(σ (bq arg path)).bj.length:=by simpa [bq] using az
 obtain ⟨bx,ax,da⟩:=cf (f:=bb) az;have ig:path.length<2:=by
  rcases ao6 path.length 2 with h|h
  ·exact h
  ·rw [b6.deep arg path h] at az;cases az
 have abh:=gu.slot _ bx (d6 ax);obtain ⟨k,rfl⟩:∃ k:Nat,bx=(k:Int):=⟨bx.toNat,by omega⟩;have ue:k<w.owner.length:=by omega
 have abi:=hw.own _ (ak3 ue);have tZ:=hw.j9;have MK:w.owner[k]? = some ((jv w (k:Int):Nat):Int):=by
  unfold jv;rw [f8 ue,ac3,d5,f8 ue];simp only [ae7];congr 1;omega
 have Av:jv w (k:Int)<64:=by
  unfold jv;rw [ac3,d5,f8 ue];simp only [ae7];omega
 have Wd:(w.owner.map bb)[k]? = some (.int .i64 ((jv w (k:Int):Nat):Int)):=by simp [MK,bb]
 have We:=zU m _ x0 Av;have Wf:=zU wu _ x1 Av;have abj:=rf (k:Int) ig;have Wg:=wq ig (k:Int);have al:=wi w mb n σ G4 uj arg ((path++[(k:Int)]).length:Int) ((path++[(k:Int)]).getD 0 0) ((path++[(k:Int)]).getD 1 0);have jg:(σ (bq arg path)).bj.drop j=(k:Int)::(σ (bq arg path)).bj.drop (j+1):=by
  rw [ao3 az];rw [f8 az] at ax;simp only [am2.injEq] at ax;rw [ax]
 rw [jg,oJ] at a1;clear rf wq;generalize jv w (k:Int)=oE at MK Av Wd We Wf a1;refine R4 ?_;intro du jg cZ;refine ba.runs (is:=[0,1,6,7]) C ?_;refine ba.bZ 2 rfl rfl rfl rfl rfl rfl rfl al I (aH.all _) ?_ (fun _ _ ⟨_,_,h,_⟩ _=>by cases h);rintro _ _ ⟨dL,acj,⟨⟩,⟨G6,KG,C2,Wh⟩,rfl⟩ I;rw [d8] at I ⊢;refine ba.runs (is:=[3,4]) C ?_;have Wi:=Wg G6 _ ⟨G6,rfl,C2.four,C2.rest,C2.l3,fun x ab=>ab⟩;refine ba.RN (σ:=List kH) (fun _ => .bool (cn (path++[(k:Int)]))) (fun z=>aQ s (l4 σ mb z)) (fun z=>Ok s (l4 σ mb z)∧wh n G6 σ z) (i:=5) (j:=8) aj C C C C C C C C C C C C (bl.get bl.here I) C C C C
  (aW.bZ rfl rfl Wi I (aH.h9 KG)) ?_ (fun z _ h=>h) ?_ ?_ (fun _ _ ⟨_,_,_,h,_⟩=>by cases h)
 ·rintro y ai ⟨aN,rfl,xz,⟨⟩,wv,rfl,uo⟩
  rw [d8] at xz ⊢;exact ⟨wv,⟨xz,uo⟩,rfl,rfl⟩
 ·rintro z ⟨x2,uo⟩ h
  have Wj:=uo.su _ Wh;obtain ⟨acx,Wk⟩:=bl.MH (o := .own dL) (L:=l4 σ mb z) (g7 _ (ad2.2 ⟨_,Wj,rfl⟩));refine ba.ey 5 aj x2 C C C C C C C C Wk C ?_;exact ba.congr _ (fun t=>RL _ _ _ C t) h
 rintro wv ⟨x2,uo⟩;refine ba.run C (ba.done C ?_);have C3:wh n E σ wv:=⟨uo.four,uo.rest,uo.l3,fun x ab=>uo.su x (C2.su x ab)⟩;have Kk:m|||2^oE<2^64:=ag' x0 (ag6 ag Av)
 have Wl:wu|||2^oE<2^64:=ag' x1 (ag6 ag Av)
 unfold fR e1 pk fu bk at *;cases sV:cn (path++[(k:Int)]) with
 | false=>
  refine ej ?_;cases e2:(σ (bq arg (path++[(k:Int)]))).gb with
  | true=>
   refine aa.dW 65 C e2 ?_;refine fB ?_;rw [sV,e2] at a1;simp only [ah3,Bool.and_self,ae2] at a1;rw [a1] at hm;exact Fin.bu x2 C aM (aH.all _) ⟨by rw [hm];rfl,wv,rfl,C3⟩
  | false=>
   refine aa.dc 65 C e2 ?_;refine aa.dc 12 C e2 ?_;refine cD ?_;rw [sV,e2] at a1;simp only [f7,ad5,af5] at a1;exact bF.mk (j+1,m,wu|||2^oE,wv) x2 ⟨az,a1,x0,Wl,C3⟩ cC (aH.all _) Gu
 | true=>
  refine ej ?_;cases e2:(σ (bq arg (path++[(k:Int)]))).gb with
  | true=>
   refine aa.dW 65 C e2 ?_;refine aa.dW 12 C e2 ?_;refine cD ?_;rw [sV,e2] at a1;simp only [ah7,ai5,ad5,af5,ae2] at a1;exact bF.mk (j+1,m|||2^oE,wu,wv) x2 ⟨az,a1,Kk,x1,C3⟩ cC (aH.all _) Gu
  | false=>
   refine aa.dc 65 C e2 ?_;refine aa.dc 12 C e2 ?_;refine bG ?_;rw [sV,e2] at a1;simp only [f7,ad5,af5,ae2] at a1;exact bF.mk (j+1,m,wu,wv) x2 ⟨az,a1,x0,x1,C3⟩ cC (aH.all _) Gu
def rF (w:bw) (σ:dJ) (arg:Int):Nat→List Int→Bool
 | 0,_=>false
 | k+1,p=>wm σ arg p||(wj σ arg p||(wo w σ (rF w σ arg k) arg p).2)
theorem ML (w:bw) (hw:fQ w) (mb n:Nat) (aA:n<bt) (σ:dJ) (b6:uk n σ) (gu:C1 w σ) (arg:Int):∀ (k:Nat) (path:List Int),path.length≤2→3≤k+path.length→MI w mb n σ arg (rF w σ arg k) path
  | 0,path,aE,al=>by omega
  | k+1,path,aE,al=>by
    intro E K bm;have U:=fun K bm=>V' (E:=E) w mb n aA σ b6 arg path aE K bm
    have ad:=fun K bm=>V9 (E:=E) w mb n aA σ b6 arg path aE K bm
    have bd:=fun K bm=>Wb (E:=E) w hw mb n aA σ b6 gu arg path aE (rF w σ arg k) (fun aB bx=>ML w hw mb n aA σ b6 gu arg k (path++[bx]) (by rw [d9];simp;omega) (by rw [d9];simp;omega)) K bm
    have hm:rF w σ arg (k+1) path=(wm σ arg path||(wj σ arg path||(wo w σ (rF w σ arg k) arg path).2)):=rfl;refine bz.bn aj Tryz.func270 C C fun s I=>?_
    unfold hT at *;unfold iu jU at *;refine dz ?_;refine aa.bZ rfl rfl rfl rfl rfl (U K bm) I (aH.all _) ?_ (fun _ _ ⟨h,_⟩ _=>by cases h);rintro _ iw ⟨⟨⟩,nR⟩ I;rw [d8] at I ⊢;refine hQ ?_;cases aS:wm σ arg path with
    | true=>
      refine dT ?_;rw [aS] at hm;exact Fin.bu I C aM (aH.all _) ⟨by rw [hm];rfl,nR⟩
    | false=>
      refine dD ?_;refine aa.bZ rfl rfl rfl rfl rfl (ad iw nR) I (aH.all _) ?_ (fun _ _ ⟨h,_⟩ _=>by cases h);rintro _ G7 ⟨⟨⟩,Aw⟩ I;rw [d8] at I ⊢;refine ga ?_;cases mK:wj σ arg path with
      | true=>
        refine dT ?_;rw [aS,mK] at hm;exact Fin.bu I C aM (aH.all _) ⟨by rw [hm];rfl,Aw⟩
      | false=>
        refine bG ?_;refine aa.bZ rfl rfl rfl rfl rfl (bd G7 Aw) I (aH.all _) ?_ (fun _ _ ⟨h,_⟩ _=>by cases h);rintro _ acm ⟨⟨⟩,Wm⟩ I;rw [d8] at I ⊢;refine dT ?_;rw [aS,mK] at hm;exact Fin.bu I C aM (aH.all _) ⟨by rw [hm];rfl,Wm⟩
def mF (w:bw) (σ:dJ):Bool:=(af7 3).all fun a=>rF w σ ((a:Nat):Int) 3 []
def G8:af := .iface 291 (.agg [])
theorem Wn (w:bw) (hw:fQ w) (mb n:Nat) (aA:n<bt) (σ:dJ) (b6:uk n σ) (gu:C1 w σ) {E:List kH} (K:a6) (bm:lA n E σ mb K) :
  bz d0 249 [hT w mb] K (fun o aN=>(o=if mF w σ then .ret (.cg []) else .panic G8)∧lA n E σ mb aN):=by
 have U:=fun (a:Nat) K bm=>ML w hw mb n aA σ b6 gu ((a:Nat):Int) 3 [] bc bc E K bm
 refine bz.bn aj Tryz.func249 C C fun s I=>?_
 unfold hT at *;unfold iu jU at *;refine hs ?_;refine ae.cl [0] C I (σ:=Nat×a6) (fun q=>[(3,.int .i64 (q.1:Int))]) (fun q=>q.2) (fun q=>q.1≤3∧((af7 q.1).all fun a=>rF w σ ((a:Nat):Int) 3 [])=true∧lA n E σ mb q.2) (fun q=>3-q.1) (0,K) ⟨by omega,rfl,bm⟩ (cI C) (aH.all _) ?_;rintro ⟨j,iw⟩ ⟨aO,a8,nR⟩ I;simp only at aO a8 nR I ⊢;refine ck ?_;refine ae.cond C (fun az=>?_) (fun a'=>?_);rotate_left
 ·have a':j=3:=by simp at a';omega
  subst a';have hm:mF w σ=true:=a8;refine eH ?_;exact Fin.bu I C aM (aH.all _) ⟨by rw [hm];rfl,nR⟩
 have az:j<3:=by simp at az;omega
 refine bG ?_;refine aa.bZ rfl rfl rfl rfl rfl (U j iw nR) I (aH.all _) ?_ (fun _ _ ⟨h,_⟩ _=>by cases h);rintro _ G7 ⟨⟨⟩,Aw⟩ I;rw [d8] at I ⊢;refine ga ?_;cases aF:rF w σ ((j:Nat):Int) 3 [] with
 | false=>
  refine bG ?_;refine aa.panic C C C C ?_;have hm:mF w σ=false:=by
   unfold mF;rw [au2];exact ⟨j,by simpa using az,by rw [aF];simp⟩
  exact Fin.e6 I aM (aH.all _) ⟨by rw [hm];rfl,Aw⟩
 | true=>
  refine jF ?_;exact bF.mk (j+1,G7) I ⟨az,by rw [an5,List.all_append,a8];simp [aF],Aw⟩ cC (aH.all _) (by show 3-(j+1)<3-j;omega)
mutual
def l5:aq→List aq
 | .mk o a p c n ks=>if (aq.mk o a p c n ks).c7 then [.mk o a p c n ks] else oK ks
def oK:List aq→List aq
 | []=>[]
 | x::r=>l5 x++oK r
end
theorem G9 (f:aq):l5 f=if f.c7 then [f] else oK f.kids:=by cases f;rw [l5];rfl
def gL (f g:aq):Bool:=decide (f.op=g.op)&&(decide (f.arg=g.arg)&&(decide (f.cls=g.cls)&&(decide (f.n=g.n)&&f.path==g.path)))
def jV (l:List aq) (f:aq):List aq:=if l.any (fun x=>gL x f) then l else l++[f]
def lB (gen:Int) (l:List aq) (m:gP):List aq:=if m.gen=gen then (l5 m.fact).foldl jV l else l
def cF (p:bK) (gen:Int):List aq:=p.methods.foldl (lB gen) []
def l6 (p:bK) (gen:Int):Bool:=decide (gen≥0)&&decide (gen<(p.cR.length:Int))
def eK (p:bK) (gen:Int):Int:=if fs p&&l6 p gen then (if (cF p gen).length≤7 then 0 else 3) else 2
def rG:Nat→List aq→Nat→List ch
 | _,[],_=>[]
 | i,f::r,v=>(f,!v.testBit i)::rG (i+1) r v
def wx (l:List aq) (v:Nat):List ch:=rG 0 l v
def pA (w:bw) (l:List aq) (v:Nat):Bool:=mF w (ec (wx l v))
def hA (w:bw) (l:List aq):List Nat:=(af7 (2^l.length)).filter (pA w l)
mutual
def sZ (l:List aq) (v:Nat):aq→Bool
 | .mk o a p c n ks=>
  if o=1 then true
  else if o=5 then !(nT l v 0 ks)
  else if o=6 then nT l v 0 ks&&nT l v 1 ks
  else if o=7 then nT l v 0 ks||nT l v 1 ks
  else match l.findIdx? (fun x=>gL x (.mk o a p c n ks)) with
   | some i=>v.testBit i
   | none=>false
def nT (l:List aq) (v:Nat):Nat→List aq→Bool
 | _,[]=>false
 | 0,x::_=>sZ l v x
 | n+1,_::r=>nT l v n r
end
theorem C4 (l:List aq) (v:Nat):∀ (n:Nat) (ks:List aq) (x:aq),ks[n]? = some x→nT l v n ks=sZ l v x
 | 0,y::r,x,h=>by rw [nT];simp at h;rw [h]
 | n+1,y::r,x,h=>by rw [nT];exact C4 l v n r x gT
theorem Wo (l:List aq) (v:Nat) (f:aq):sZ l v f =
  if f.op=1 then true
  else if f.op=5 then !(nT l v 0 f.kids)
  else if f.op=6 then nT l v 0 f.kids&&nT l v 1 f.kids
  else if f.op=7 then nT l v 0 f.kids||nT l v 1 f.kids
  else match l.findIdx? (fun x=>gL x f) with
   | some i=>v.testBit i
   | none=>false:=by cases f;rw [sZ];rfl
def m' (gen:Int) (l:List aq) (v:Nat):Nat→List gP→List Int
 | _,[]=>[]
 | i,m::r=>if m.gen=gen&&sZ l v m.fact then (i:Int)::m' gen l v (i+1) r else m' gen l v (i+1) r
def dA (p:bK) (gen:Int) (l:List aq) (v:Nat):List Int:=m' gen l v 0 p.methods
inductive ca where
 | leaf (ms:List Int)
 | test (atom:Nat) (no yes:ca)
 deriving Inhabited
namespace ca
def j7:ca→Nat
 | .leaf _=>0
 | .test _ a b=>1+max a.j7 b.j7
def leaves:ca→Nat
 | .leaf _=>1
 | .test _ a b=>a.leaves+b.leaves
def before (a b:ca):Bool:=decide (a.j7<b.j7)||(decide (a.j7=b.j7)&&decide (a.leaves<b.leaves))
def laid:List bJ→ca→List bJ
 | l,.leaf ms=>l++[⟨-1,0,0,ms⟩]
 | l,.test i a b=>
  let x3:=laid (l++[⟨i,0,0,[]⟩]) a
  let fG:=laid x3 b
  fG.set l.length ⟨i,(l.length:Int)+1,(x3.length:Int),[]⟩
end ca
def qC (have':Nat→List Int):List Nat→Bool
 | []=>true
 | v::r=>r.all fun u=>have' u==have' v
def firstM (have':Nat→List Int):List Nat→List Int
 | []=>[]
 | v::_=>have' v
def wy (out:Option ca) (t:ca):Option ca:=match out with
 | none=>some t
 | some o=>if t.before o then some t else some o
def fY (i:Nat) (vs:List Nat):List Nat:=vs.filter fun v=>v.testBit i
def fZ (i:Nat) (vs:List Nat):List Nat:=vs.filter fun v => !v.testBit i
def lC (g:List Nat→ca) (vs:List Nat) (out:Option ca) (i:Nat):Option ca:=
 if (fY i vs).isEmpty||(fZ i vs).isEmpty then out else wy out (.test i (g (fZ i vs)) (g (fY i vs)))
def mG (A:Nat) (have':Nat→List Int):Nat→List Nat→ca
 | 0,vs => .leaf (firstM have' vs)
 | f+1,vs=>if qC have' vs then .leaf (firstM have' vs) else ((af7 A).foldl (lC (mG A have' f) vs) none).getD (.leaf [])
def wz (p:bK) (gen:Int):ca:=
 let l:=cF p gen
 let vs:=hA (b3 p) l
 mG l.length (dA p gen l) vs.length vs
def qD (g:List bJ) (v:Nat):Nat→Int→Nat→Int×Nat
 | 0,eX,n=>(eX,n)
 | f+1,eX,n=>
  if (g.getD eX.toNat default).atom≥0 then qD g v f (if v.testBit (g.getD eX.toNat default).atom.toNat then (g.getD eX.toNat default).yes else (g.getD eX.toNat default).no) (n+1)
  else (eX,n)
def leads (g:List bJ) (v:Nat):Int×Nat:=qD g v g.length 0 0
def Ax (p:bK) (gen:Int) (g:List bJ):Bool:=
 let l:=cF p gen
 g.all (fun x=>decide (x.atom<(l.length:Int)))&&(hA (b3 p) l).all fun v=>(g.getD (leads g v).1.toNat default).ms==dA p gen l v
theorem C5 (v c:Nat):(((v >>> c &&& 1:Nat):Int)==1)=v.testBit c:=by
 rw [show (((v >>> c &&& 1:Nat):Int)==1)=decide (((v >>> c &&& 1:Nat):Int)=1) from rfl,Nat.and_one_is_mod,Nat.testBit_eq_decide_div_mod_eq,Nat.shiftRight_eq_div_pow];apply decide_eq_decide.2;omega
theorem MM (g:List bJ) (au:je g=true) (v:Nat) (ar:v<2^63):aU d0 75 [iq g,.int .i64 (v:Int)] (.cg [.int .i64 (leads g v).1,.int .i64 ((leads g v).2:Int)]):=by
 have an:=bC;refine aU.bn aj Tryz.func75 C C fun s I=>?_
 obtain ⟨np,eZ⟩:=zQ au;unfold iq;refine hs ?_;refine ae.cl [0,1] C I (σ:=Nat×Nat×Nat) (fun q=>[(4,.int .i64 (q.1:Int)),(5,.int .i64 (q.2.1:Int))]) (fun _=>[]) (fun q=>q.1<g.length∧leads g v=qD g v q.2.2 (q.1:Int) q.2.1∧g.length≤q.1+q.2.2∧q.2.1≤q.1) (fun q=>g.length-q.1) (0,0,g.length) ⟨np,rfl,by simp,i0 _⟩ (cI C) a7 ?_;rintro ⟨j,n,f⟩ ⟨aO,aw,a1,aA⟩ I
 try simp only at aO aw a1 aA I ⊢
 obtain ⟨x,ab,ct⟩:=cf (f:=eS) aO;have aY:=vP au ab;obtain ⟨f,rfl⟩:∃ k,f=k+1:=⟨f-1,by omega⟩;rw [qD,ac3,show g.getD j default=x by rw [d5,ab];rfl] at aw;unfold eS hy bk at ct;refine ej ?_;refine ae.cond C (fun a8=>?_) (fun a8=>?_);rotate_left
 ·rw [f0 (by simpa using a8)] at aw
  rw [aw];refine eH ?_;exact bA I
 have a8:x.atom≥0:=by simpa using a8
 rw [f9 a8] at aw;have ep:=(oA ag).1 aY;obtain ⟨a,MN⟩:∃ a:Nat,x.atom=a:=⟨x.atom.toNat,by omega⟩;rw [MN,ac3] at aw;rw [MN] at ct;refine bG ?_;refine aa.shr _ C C C C C C ag (tH ag) ?_;refine aa.bits _ C C C C C C (Ch (n:=1) (Nat.lt_of_le_of_lt (Nat.shiftRight_le v a) ar) ag) ?_;refine ga ?_;have an:=C5 v a;refine ae.cond C (fun aF=>?_) (fun aF=>?_)
 ·rw [aF] at an
  rw [← an,f9 C] at aw;obtain ⟨y,ax⟩:∃ y:Nat,x.yes=y:=⟨x.yes.toNat,by omega⟩;rw [ax] at aw ct;refine bG ?_;exact bF.mk (y,n+1,f) I ⟨by show y<g.length;omega,by rw [aw],by show g.length≤y+f;omega,by show n+1≤y;omega⟩ cC a7 (by show g.length-y<g.length-j;omega)
 ·rw [aF] at an
  rw [← an,f0 bc] at aw;obtain ⟨y,ax⟩:∃ y:Nat,x.no=y:=⟨x.no.toNat,by omega⟩;rw [ax] at aw ct;refine bG ?_;exact bF.mk (y,n+1,f) I ⟨by show y<g.length;omega,by rw [aw],by show g.length≤y+f;omega,by show n+1≤y;omega⟩ cC a7 (by show g.length-y<g.length-j;omega)
theorem MO {g:List bJ} (au:je g=true) (v:Nat):∃ j x,(leads g v).1=(j:Nat)∧g[j]? = some x∧¬ x.atom≥0:=by
 obtain ⟨np,eZ⟩:=zQ au;suffices h:∀ (f j n:Nat),j<g.length→g.length≤j+f→∃ k x,(qD g v f (j:Int) n).1=(k:Nat)∧g[k]? = some x∧¬ x.atom≥0 from h g.length 0 0 np bc
 intro f
 induction f with
 | zero=>intro j n U ad;omega
 | succ f aX=>
  intro j n U ad;obtain ⟨x,ab,-⟩:=cf (f:=eS) U;have aY:=vP au ab;rw [qD,ac3,show g.getD j default=x by rw [d5,ab];rfl];by_cases a8:x.atom≥0
  ·rw [f9 a8]
   have ep:=(oA ag).1 aY;split
   ·obtain ⟨y,ax⟩:∃ y:Nat,x.yes=y:=⟨x.yes.toNat,by omega⟩
    rw [ax];exact aX y (n+1) ag ag
   ·obtain ⟨y,ax⟩:∃ y:Nat,x.no=y:=⟨x.no.toNat,by omega⟩
    rw [ax];exact aX y (n+1) ag ag
  ·rw [f0 a8];exact ⟨j,x,rfl,ab,a8⟩
theorem Wp (fv:af) (Go:List aq→a6→Prop) (fm:a6→Prop) (fr:af→a6→Prop) (ep:∀ x rem K,Go (x::rem) K→dh d0 fv [x.cb] K (Ac Go fm fr rem)) :
  ∀ (n:Nat) (f:aq),f.size≤n→n<bt→∀ (rest:List aq) (K:a6),Go (l5 f++rest) K→bz d0 149 [f.cb,fv] K (Ac Go fm fr rest):=by
 have an:=bC;intro n
 induction n with
 | zero=>intro x h;have:=x.size_eq;omega
 | succ n aX=>
  intro f aA jB rest K dZ;have iQ:=f.size_eq;have k4:=aq.p9 f.kids;rw [G9] at dZ;refine bz.bn aj Tryz.func149 C C fun s I=>?_
  cases aB:f.c7 with
  | true=>
   rw [aB,f9 C] at dZ;have al:=ep f rest K dZ;rw [aq.cE] at al ⊢;unfold aq.cells at al ⊢;have bV:f.op=2∨f.op=3∨f.op=4:=by unfold aq.c7 at aB;simp at aB;omega
   rcases bV with h|h|h
   all_goals
    rw [h] at al ⊢;refine bG ?_;refine aa.gr C C C C C C al I (aH.all _) ?_ ?_
    ·rintro x aN (⟨⟨⟩,au⟩|⟨⟨⟩,av⟩|⟨_,⟨⟩,_⟩) I
     all_goals rw [d8] at I ⊢
     ·refine dT ?_
      exact Fin.bu I C aM (aH.all _) (.inl ⟨rfl,au⟩)
     ·refine dT ?_
      exact Fin.bu I C aM (aH.all _) (.inr (.inl ⟨rfl,av⟩))
    ·rintro x aN (⟨h,_⟩|⟨h,_⟩|⟨v,⟨⟩,aE⟩) I
     ·cases h
     ·cases h
     rw [d8] at I ⊢;exact Fin.e6 I aM (aH.all _) (.inr (.inr ⟨_,rfl,aE⟩))
  | false=>
   rw [aB,f0 bc] at dZ;have bV:f.op≠2∧f.op≠3∧f.op≠4:=by unfold aq.c7 at aB;simp at aB;omega
   rw [aq.cE];unfold aq.cells;refine dz ?_;refine aa.dc 10 C cO ?_;refine dD ?_;refine aa.dc 15 C cO ?_;refine ga ?_;refine ae.cond C (fun h=>by simp at h;omega) (fun _=>?_);refine j5 ?_;refine ae.cl [1,24,25] C I (σ:=Nat×a6) (fun q=>[(26,.int .i64 (q.1:Int))]) (fun q=>q.2) (fun q=>q.1≤f.kids.length∧Go (oK (f.kids.drop q.1)++rest) q.2) (fun q=>f.kids.length-q.1) (0,K) ⟨g9 _,dZ⟩ (cI C) (aH.all _) ?_;rintro ⟨j,iw⟩ ⟨aO,dZ⟩ I
   try simp only at aO dZ I ⊢
   refine ck ?_;refine ae.cond C (fun az=>?_) (fun a'=>?_);rotate_left
   ·have a':j=f.kids.length:=by simp at a';omega
    rw [eR ag,oK,d7] at dZ;refine eH ?_;exact Fin.bu I C aM (aH.all _) (.inl ⟨rfl,dZ⟩)
   have az:j<f.kids.length:=by simpa using az
   obtain ⟨x,ab,ct⟩:=cf (f:=aq.cb) az;have ek:=aq.iD (d6 ab);rw [drop_cons ab,oK,ae6] at dZ;have i1:=aX x ag ag _ iw dZ;rw [aq.cE] at i1 ct;unfold aq.cells at i1 ct;refine fP ?_;refine aa.bZ C C C C C i1 I (aH.all _) ?_ ?_
   ·rintro y aN (⟨⟨⟩,au⟩|⟨⟨⟩,av⟩|⟨_,⟨⟩,_⟩) I
    all_goals rw [d8] at I ⊢
    ·refine bG ?_
     exact bF.mk (j+1,aN) I ⟨az,au⟩ cC (aH.all _) oB
    ·refine fB ?_
     exact Fin.bu I C aM (aH.all _) (.inr (.inl ⟨rfl,av⟩))
   ·rintro y aN (⟨h,_⟩|⟨h,_⟩|⟨v,⟨⟩,aE⟩) I
    ·cases h
    ·cases h
    rw [d8] at I ⊢;exact Fin.e6 I aM (aH.all _) (.inr (.inr ⟨_,rfl,aE⟩))
theorem Wq (f:aq) (a1:f.size<bt):xl d0 148 [] [.bs f.cells 0] [] aq.cb (l5 f):=by
 intro l Go fm fr om K bm;have hw:=Wp (ld l) Go fm fr (fun x rem K au=>om x rem K au) f.size f (i0 _) a1 [] K (by rw [d8];exact bm);rw [aq.cE] at hw;refine bz.bn aj Tryz.func148 C C fun s I=>?_
 rw [d7] at I ⊢;unfold aq.cells at *;refine j6 ?_;refine aa.bZ C C C C C hw I (aH.all _) ?_ ?_
 ·rintro x aN (⟨⟨⟩,h⟩|⟨⟨⟩,h⟩|⟨_,⟨⟩,_⟩) I
  all_goals rw [d8] at I ⊢
  ·refine ga ?_
   exact Fin.bu I C aM (aH.all _) (.inl ⟨rfl,.inl h⟩)
  ·refine ga ?_
   exact Fin.bu I C aM (aH.all _) (.inl ⟨rfl,.inr h⟩)
 ·rintro x aN (⟨h,_⟩|⟨h,_⟩|⟨v,⟨⟩,h⟩) I
  ·cases h
  ·cases h
  rw [d8] at I ⊢;exact Fin.e6 I aM (aH.all _) (.inr ⟨_,rfl,h⟩)
theorem Wr (f:aq):aU d0 101 [f.cb] (.func 148 [] [.bs f.cells 0]):=by
 have an:=bC;refine aU.bn aj Tryz.func101 C C fun s I=>?_
 rw [aq.cE];unfold aq.cells;refine gO ?_;exact bA I
section
variable {P:Program} {Γ:cj} {N:Nat} {ops:Array Oper} {Q:bX→Env→ak→Prop} {env:Env} {s:ak} {l:List Oper} {o:Oper} {d:Nat} {L R:a6}
def G' (s:ak) (R:a6) (e:TypeId) (sz n:Nat) (xs:List af) (r:af) (ai:ak):Prop:=
 ∃ aT b8 cs',r=ea aT n b8∧ai=aQ s ((.own aT,.box e cs')::R)∧Ok s ((.own aT,.box e cs')::R)∧cs'.length=b8*sz∧n≤b8∧cs'.take (n*sz)=xs
theorem MP (z:Array Value) (k:Nat):(Builtin.zeroCells z k).toList.length=k*z.size:=by
 rw [ac6];simp [Builtin.zeroCells]
theorem MQ (aP:bM P Γ) {w:World} {p:bO} {S:ak} (b5:df w p S) {t bI e ty:TypeId} {it cz aG:bL} {bW sz:Nat} {olds:List Value} {xs ys:List af} {dx:bN} {base:Option Addr} {n cap:Nat} {p7:Value}
  (aK:Γ.get? t=some it) (br:it.bE = .ay e) (c4:Γ.get? bI=some cz) (dC:∀ k,cz.bE ≠ .int k) (bH:Γ.get? e=some aG) (U:aG.size=sz) (d':ad0 aG.zero.cells.size aG.size=true)
  (aC:bD w p olds xs) (aA:n*sz=xs.length) (se:(Builtin.firstCells sz n (.slice base n cap)).run P w.drew = .ok olds.toArray w.drew) (ax:Rel w p p7 (.ay bW [.agg ys] dx)) (c':bW=sz) (h4:ys.length=sz)
  (az:cap<n+1) (an:(n+1)*aG.bytes≤140737488355328) (en:n+1≤9223372036854775807) :
  ∃ aT b8 cs' w',(Builtin.append_ #[t,bI] ty #[.slice base n cap,p7]).run P w = .ok (.slice (some ⟨aT,0,none⟩) (n+1) b8) w'∧S aT=none∧c8 w p w' p∧Kept S (S.set aT (.box e cs')) w p w' p∧df w' p (S.set aT (.box e cs')) ∧
   cs'.length=b8*sz∧n+1≤b8∧cs'.take ((n+1)*sz)=xs++ys:=by
 obtain ⟨info,d,g1,g2,g3,-⟩:=aP.parts aK;obtain ⟨l8,cX,dV,dg,dB,-⟩:=aP.parts c4;obtain ⟨jx,jZ,cv,db,e8,ew,jy,iY⟩:=aP.parts bH;have av:d = .slice e:=by rw [br] at g3;cases d<;>simp [eh] at g3;rw [g3]
 subst av;have cc:∀ k,cX ≠ .int k:=fun k e'=>by subst e';exact dC k dB.symm
 obtain ⟨us,h3,oX,jz,jQ,sg,sh,si⟩:=pS ax (.inr c');subst c';have s0:bD w p (flat us) ys:=by
  cases h3 with
  | cons u _ u1 _ hu vz=>
  cases vz;cases hu with
  | agg c _ aF=>simpa [flat,Value.cells] using aF
 have mc:=s0.length;have fl:=growslice_fits (need:=n+1) (old:=cap) (bytes:=aG.bytes) az an;have cK:=yW (ty:=ty) w g2 dg cc cv iY (base:=base) (sLen:=n) (sCap:=cap) (m:=1) (olds:=olds) (news:=flat us) (jz P)
  (by rw [ew,U];exact se) (by rw [ew,U];exact jQ P w.drew (fun _ _ _=>rfl)) az ag (by rw [jy];exact fl)
 have mS:n+1≤grownCap w (n+1) cap e:=by simp [grownCap,Question.cut]
 have gh:olds.length=n*bW:=by rw [aC.length,aA]
 have n6:=ab' d';generalize sf:(Builtin.zeroCells aG.zero.cells (grownCap w (n+1) cap e-(n+1))).toList=aV at cK;have mT:aV.length=(grownCap w (n+1) cap e-(n+1))*bW:=by
  rw [← sf,MP,n6,U]
 generalize grownCap w (n+1) cap e=G at cK mS mT;have vA:=w1 b5
 obtain ⟨ao,hle,aD,ku⟩:=qR vA (.cells (olds++flat us++aV).toArray e (0,0)) (.box e (xs++ys++aV.map fun _ => .any)) (fun w' h2 ar fq=>⟨_,h2,by
  refine bD.append (bD.append (fq _ _ (show bD w.drew p olds xs from aC.mono kn)) (fq _ _ (s0.mono kn))) (bD.zn aV),fun o aE=>absurd (b5.lt _ _ aE) (by show ¬ w.heap.size<w.heap.size;omega)⟩)
 rw [show w.drew.heap.size=w.heap.size from rfl] at ao aD ku;have hm:(n+1)*bW=n*bW+bW:=au4 n bW;refine ⟨w.heap.size,G,xs++ys++aV.map (fun _=>af.any),_,cK,ao,kn.trans hle,(uR (w:=w) (p:=p)).trans (kn (w:=w) (p:=p)).size aD,ku,?_,mS,?_⟩
 ·simp only [d9,f5,mT]
  rw [← aA,h4,← hm,← Nat.add_mul];congr 1;omega
 ·rw [ag2 cO,ae8 cO]
theorem aW.rH (aP:bM P Γ) (I:Ok s L) {t bI e:TypeId} {x y:Operand} {it cz aG:bL} {ed bW sz:Nat} {ys:List af} {dx:bN}
    (ah:o.op = .call { callee := .builtin .append,args := #[x,y],argTypes := #[t,bI] }) (aK:Γ.get? t=some it) (br:it.bE = .ay e) (c4:Γ.get? bI=some cz) (dC:∀ k,cz.bE ≠ .int k)
    (bH:Γ.get? e=some aG) (U:aG.size=sz) (d':ad0 aG.zero.cells.size aG.size=true) (ab:aJ env x=some (.ay ed [] .nil)) (ax:aJ env y=some (.ay bW [.agg ys] dx)) (c':bW=sz) (h4:ys.length=sz) (an:1*aG.bytes≤140737488355328)
    {X:af→ak→Prop}:aW P N o env (aQ s L) (fun r ai=>G' s L e sz 1 ys r ai) X:=by
  refine aW.jY iN fun ro B a w p aI=>?_
  have fN:=aI.aJ ab;have fe:=aI.aJ ax;have eC:=fun val w'=>tE (P:=P) (a:=a) (val:=val) (w:=w) (w':=w') ah
  generalize ei:a.eval x=dG at fN eC;generalize e9:a.eval y=fJ at fe eC;have sA:dG = .slice none 0 0:=by
    cases fN with
    | hL=>rfl
    | ib a _ _ h=>rcases h with h|h<;>cases h
    | ay g off n cap _ vs _ _ aA=>exact absurd C aA
  subst sA
  obtain ⟨aT,b8,cs',w',fg,gf,hg,iL,lM,lN,mq,mr⟩:=MQ (ty:=o.type) aP aI.wf (base:=none) (n:=0) (cap:=0) (olds:=[]) (xs:=[]) aK br c4 dC bH U d' .nil bc (by
    have:=run_firstCells_none (P:=P) w.drew sz 0 0 0
    simpa using this) fe c' h4 ag (by simpa using an) ag
  rw [ad8] at fg mq mr;exact ⟨_,w',_,p,_,eC _ _ fg,hg,iL,lM,⟨aT,b8,cs',rfl,rfl,⟨gf,I⟩,lN,mq,by simpa using mr⟩,.hl _⟩
theorem aW.rI (aP:bM P Γ) (I:Ok s L) {t bI e:TypeId} {x y:Operand} {it cz aG:bL} {b n cap bW sz:Nat} {cs ys:List af} {dx:bN}
    (ah:o.op = .call { callee := .builtin .append,args := #[x,y],argTypes := #[t,bI] }) (aK:Γ.get? t=some it) (br:it.bE = .ay e) (c4:Γ.get? bI=some cz) (dC:∀ k,cz.bE ≠ .int k)
    (bH:Γ.get? e=some aG) (U:aG.size=sz) (d':ad0 aG.zero.cells.size aG.size=true) (ab:aJ env x=some (ea b n cap)) (ao:bl L (.own b) (.box e cs) R) (cu:cs.length=cap*sz) (aA:n≤cap)
    (ax:aJ env y=some (.ay bW [.agg ys] dx)) (c':bW=sz) (h4:ys.length=sz) (dS:ys.all e4=true) (an:(n+1)*aG.bytes≤140737488355328) (en:n+1≤9223372036854775807)
    {X:af→ak→Prop}:aW P N o env (aQ s L) (fun r ai=>G' s R e sz (n+1) (cs.take (n*sz)++ys) r ai) X:=by
  obtain ⟨b7,bR,eE⟩:=ao.perm I;refine aW.jY iN fun ro B a w p aI=>?_
  have fN:=aI.aJ ab;have fe:=aI.aJ ax;have eC:=fun val w'=>tE (P:=P) (a:=a) (val:=val) (w:=w) (w':=w') ah
  generalize ei:a.eval x=dG at fN eC;generalize e9:a.eval y=fJ at fe eC;cases fN;obtain ⟨vs,cP,c9,eP⟩:=aI.wf.obj _ _ (ao.get I);have fq:vs.toList.length=cap*sz:=by rw [c9.length,cu]
  have sL:n*sz≤cap*sz:=ak2 _ aA;have hv:=c9.take (n*sz);have o0:∀ w':World,(∀ j,w'.cell? ⟨b,j,none⟩=w.cell? ⟨b,j,none⟩)→(Builtin.firstCells sz n (.slice (some ⟨b,0,none⟩) n cap)).run P w' = .ok (vs.toList.take (n*sz)).toArray w':=by
    intro w' h2;refine run_firstCells_some (P:=P) w' sz n ⟨b,0,none⟩ n cap (vs.toList.take (n*sz)) (by rw [ac9,fq];omega) (fun j u hu=>?_);rw [kP,ad8,h2,jq cP];rw [af'] at hu;split at hu
    · simpa using hu
    · cases hu
  by_cases az:cap<n+1
  · obtain ⟨aT,b8,cs',w',fg,gf,hg,iL,lM,lN,mq,mr⟩:=MQ (ty:=o.type) aP aI.wf (base:=some ⟨b,0,none⟩) (n:=n) (cap:=cap) (olds:=vs.toList.take (n*sz)) (xs:=cs.take (n*sz)) aK br c4 dC bH U d' hv wU
      (o0 w.drew fun _=>rfl) fe c' h4 az an en
    have hC:ak.Sub ((aQ s R).set aT (.box e cs')) ((aQ s L).set aT (.box e cs')):=by
      refine B7 (k := .own aT) ?_;rw [b7];exact xh (k := .own b) (ak.n7 _) bR
    have au:aQ s R aT=none:=by
      have h:=gf;rw [b7] at h;exact (ak.tq h).2
    exact ⟨_,w',_,p,_,eC _ _ fg,hg,iL.sub hC,lM.sub hC,⟨aT,b8,cs',rfl,rfl,⟨au,eE⟩,lN,mq,mr⟩,.hl _⟩
  · obtain ⟨info,d,g1,g2,g3,-⟩:=aP.parts aK
    obtain ⟨l8,cX,dV,dg,dB,-⟩:=aP.parts c4;obtain ⟨jx,jZ,cv,db,e8,ew,jy,iY⟩:=aP.parts bH;have av:d = .slice e:=by rw [br] at g3;cases d<;>simp [eh] at g3;rw [g3]
    subst av;have cc:∀ k,cX ≠ .int k:=fun k e'=>by subst e';exact dC k dB.symm
    subst c';obtain ⟨us,h3,oX,jz,jQ,sg,sh,si⟩:=pS (sz':=bW) fe (.inr rfl);have s0:bD w p (flat us) ys:=by
      cases h3 with
      | cons u _ u1 _ hu vz=>
      cases vz;cases hu with
      | agg c _ aF=>simpa [flat,Value.cells] using aF
    have mc:=s0.length;have lR:∀ x∈flat us,x.oneCell'=true:=pQ s0 dS;have eB:vs.size=cap*bW:=by rw [← ac6];exact fq
    have hm:(n+1)*bW=n*bW+bW:=au4 n bW;have abk:(n+1)*bW≤cap*bW:=ak2 _ ag;have cK:=BE (ty:=o.type) (P:=P) w g2 dg cc cv b n cap vs cP (xv:=fJ) (m:=1) (news:=flat us) (jz P) (by rw [ew,U];exact jQ P w (fun _ _ _=>rfl)) lR ag (by rw [ew,U,eB];omega);rw [ew,U] at cK;have gW:bD w p (vs.toList.take (n*bW)++flat us++vs.toList.drop (n*bW+(flat us).length)) (cs.take (n*bW)++ys++cs.drop (n*bW+(flat us).length)):=bD.append (bD.append hv s0) (c9.drop _);have b6:(aQ s L) b=some (.box e cs):=ao.get I
    obtain ⟨eg,ky,iP⟩:=u0 aI.wf b6 (vs':=(vs.toList.take (n*bW)++flat us++vs.toList.drop (n*bW+(flat us).length)).toArray) (cs':=cs.take (n*bW)++ys++cs.drop (n*bW+(flat us).length)) (fun zp bo=>by
      rw [cP] at bo;cases bo
      simp only [List.size_toArray,d9,ac9,ag1,fq]
      rw [eB];omega) (by simpa using gW) _ C
    obtain ⟨f1,f2⟩:=ao.put (.box e (cs.take (n*bW)++ys++cs.drop (n*bW+(flat us).length))) I;refine ⟨_,_,_,p,_,eC _ _ cK,eg,ky,iP,⟨b,cap,cs.take (n*bW)++ys++cs.drop (n*bW+(flat us).length),rfl,f1,f2,?_,by omega,?_⟩,.hl _⟩
    · simp only [d9,ac9,ag1,cu];omega
    · have:(cs.take (n*bW)++ys).length=(n+1)*bW:=by rw [d9,ac9,cu];omega
      rw [ag2 ag,ae8 ag]
theorem aa.rH (aP:bM P Γ) (I:Ok s L) {t bI e:TypeId} {x y:Operand} {it cz aG:bL} {ed bW sz:Nat} {ys:List af} {dx:bN} (au:guardOf ops env o=some true) (av:o.dst=some d) (aY:i9 d N=true)
  (ah:o.op = .call { callee := .builtin .append,args := #[x,y],argTypes := #[t,bI] }) (aK:Γ.get? t=some it) (br:it.bE = .ay e) (c4:Γ.get? bI=some cz) (dC:∀ k,cz.bE ≠ .int k)
  (bH:Γ.get? e=some aG) (U:aG.size=sz) (d':ad0 aG.zero.cells.size aG.size=true) (ab:aJ env x=some (.ay ed [] .nil)) (ax:aJ env y=some (.ay bW [.agg ys] dx)) (c':bW=sz) (h4:ys.length=sz) (an:1*aG.bytes≤140737488355328)
  (h:∀ aT b8 cs',cs'.length=b8*sz→1≤b8→cs'.take (1*sz)=ys→Ok s ((.own aT,.box e cs')::L)→aa P N ops l Q ((d,ea aT 1 b8)::env) (aQ s ((.own aT,.box e cs')::L))):aa P N ops (o::l) Q env (aQ s L):=by
 refine aa.op au av aY (aW.rH aP I ah aK br c4 dC bH U d' ab ax c' h4 an (X:=fun _ _=>False)) ?_ (fun _ _ h=>h.elim);rintro r ai ⟨aT,b8,cs',rfl,rfl,ad,al,bd,bB⟩;exact h aT b8 cs' al bd bB ad
theorem aa.rI (aP:bM P Γ) (I:Ok s L) {t bI e:TypeId} {x y:Operand} {it cz aG:bL} {b n cap bW sz:Nat} {cs ys:List af} {dx:bN} (au:guardOf ops env o=some true) (av:o.dst=some d) (aY:i9 d N=true)
  (ah:o.op = .call { callee := .builtin .append,args := #[x,y],argTypes := #[t,bI] }) (aK:Γ.get? t=some it) (br:it.bE = .ay e) (c4:Γ.get? bI=some cz) (dC:∀ k,cz.bE ≠ .int k)
  (bH:Γ.get? e=some aG) (U:aG.size=sz) (d':ad0 aG.zero.cells.size aG.size=true) (ab:aJ env x=some (ea b n cap)) (ao:bl L (.own b) (.box e cs) R) (cu:cs.length=cap*sz) (aA:n≤cap)
  (ax:aJ env y=some (.ay bW [.agg ys] dx)) (c':bW=sz) (h4:ys.length=sz) (dS:ys.all e4=true) (an:(n+1)*aG.bytes≤140737488355328) (en:n+1≤9223372036854775807)
  (h:∀ aT b8 cs',cs'.length=b8*sz→n+1≤b8→cs'.take ((n+1)*sz)=cs.take (n*sz)++ys→Ok s ((.own aT,.box e cs')::R)→aa P N ops l Q ((d,ea aT (n+1) b8)::env) (aQ s ((.own aT,.box e cs')::R))):aa P N ops (o::l) Q env (aQ s L):=by
 refine aa.op au av aY (aW.rI aP I ah aK br c4 dC bH U d' ab ao cu aA ax c' h4 dS an en (X:=fun _ _=>False)) ?_ (fun _ _ h=>h.elim);rintro r ai ⟨aT,b8,cs',rfl,rfl,ad,al,bd,bB⟩;exact h aT b8 cs' al bd bB ad
end
section
variable {J:ak→Prop} {P:Program} {Γ:cj} {N:Nat} {Q:bX→Env→ak→Prop} {env:Env} {s:ak} {l:List Oper} {o:Oper} {d m:Nat} {L R:a6}
theorem bh.rH (i:Nat) (aP:bM P Γ) (I:Ok s L) {t bI e:TypeId} {x y:Operand} {it cz aG:bL} {ed bW sz:Nat} {ys:List af} {dx:bN} (aC:eD l.toArray m (idxs 0 l)=[i]) (aS:l.toArray[i]? = some o) (av:o.dst=some d) (aY:i9 d N=true)
  (au:cY l env o)
  (ah:o.op = .call { callee := .builtin .append,args := #[x,y],argTypes := #[t,bI] }) (aK:Γ.get? t=some it) (br:it.bE = .ay e) (c4:Γ.get? bI=some cz) (dC:∀ k,cz.bE ≠ .int k)
  (bH:Γ.get? e=some aG) (U:aG.size=sz) (d':ad0 aG.zero.cells.size aG.size=true) (ab:aJ (bU l env o) x=some (.ay ed [] .nil)) (ax:aJ (bU l env o) y=some (.ay bW [.agg ys] dx)) (c':bW=sz) (h4:ys.length=sz) (an:1*aG.bytes≤140737488355328)
  (aO:∀ aT b8 cs',Ok s ((.own aT,.box e cs')::L)→cs'.length=b8*sz→J (aQ s ((.own aT,.box e cs')::L)))
  (h:∀ aT b8 cs',cs'.length=b8*sz→1≤b8→cs'.take (1*sz)=ys→Ok s ((.own aT,.box e cs')::L)→bh J P Γ N l.toArray Q (bQ (m|||2^i)) ((d,ea aT 1 b8)::env) (aQ s ((.own aT,.box e cs')::L))):bh J P Γ N l.toArray Q (bQ m) env (aQ s L):=by
 refine bh.one aC aS av aY au (aW.rH aP I ah aK br c4 dC bH U d' ab ax c' h4 an (X:=fun _ _=>False)) ?_ ?_ (fun _ _ h=>h.elim)
 ·rintro r ai ⟨aT,b8,cs',rfl,rfl,ad,al,bd,bB⟩
  exact .inl (aO aT b8 cs' ad al)
 ·rintro r ai ⟨aT,b8,cs',rfl,rfl,ad,al,bd,bB⟩
  exact h aT b8 cs' al bd bB ad
theorem bh.rI (i:Nat) (aP:bM P Γ) (I:Ok s L) {t bI e:TypeId} {x y:Operand} {it cz aG:bL} {b n cap bW sz:Nat} {cs ys:List af} {dx:bN} (aC:eD l.toArray m (idxs 0 l)=[i]) (aS:l.toArray[i]? = some o) (av:o.dst=some d) (aY:i9 d N=true)
  (au:cY l env o)
  (ah:o.op = .call { callee := .builtin .append,args := #[x,y],argTypes := #[t,bI] }) (aK:Γ.get? t=some it) (br:it.bE = .ay e) (c4:Γ.get? bI=some cz) (dC:∀ k,cz.bE ≠ .int k)
  (bH:Γ.get? e=some aG) (U:aG.size=sz) (d':ad0 aG.zero.cells.size aG.size=true) (ab:aJ (bU l env o) x=some (ea b n cap)) (ao:bl L (.own b) (.box e cs) R) (cu:cs.length=cap*sz) (aA:n≤cap)
  (ax:aJ (bU l env o) y=some (.ay bW [.agg ys] dx)) (c':bW=sz) (h4:ys.length=sz) (dS:ys.all e4=true) (an:(n+1)*aG.bytes≤140737488355328) (en:n+1≤9223372036854775807)
  (aO:∀ aT b8 cs',Ok s ((.own aT,.box e cs')::R)→cs'.length=b8*sz→J (aQ s ((.own aT,.box e cs')::R)))
  (h:∀ aT b8 cs',cs'.length=b8*sz→n+1≤b8→cs'.take ((n+1)*sz)=cs.take (n*sz)++ys→Ok s ((.own aT,.box e cs')::R)→bh J P Γ N l.toArray Q (bQ (m|||2^i)) ((d,ea aT (n+1) b8)::env) (aQ s ((.own aT,.box e cs')::R))):bh J P Γ N l.toArray Q (bQ m) env (aQ s L):=by
 refine bh.one aC aS av aY au (aW.rI aP I ah aK br c4 dC bH U d' ab ao cu aA ax c' h4 dS an en (X:=fun _ _=>False)) ?_ ?_ (fun _ _ h=>h.elim)
 ·rintro r ai ⟨aT,b8,cs',rfl,rfl,ad,al,bd,bB⟩
  exact .inl (aO aT b8 cs' ad al)
 ·rintro r ai ⟨aT,b8,cs',rfl,rfl,ad,al,bd,bB⟩
  exact h aT b8 cs' al bd bB ad
end
section
variable {P:Program} {Γ:cj} {N:Nat} {env:Env} {s:ak} {ops:Array Oper} {rest:List Oper} {Q:bX→Env→ak→Prop} {L R:a6}
theorem MR:∀ (ys r:List af),tl ys.length (ys++r)=some ys
 | [],r=>by cases r<;>rfl
 | y::ys,r=>by rw [i7,t8,tl,MR ys r]
theorem MS:∀ (a r:List af),pN a.length (a++r)=some r
 | [],r=>rfl
 | y::ys,r=>by rw [i7,t8,pN];exact MS ys r
def Ha (i:bL):Bool:=match i.bE with
 | .struct _=>true
 | _=>false
theorem Ws {i:bL} {a ys z:List af} (U:Ha i=true) (aB:ys.length=i.size) {off:Nat} (a8:a.length=off):hD i (a++(ys++z)) off=some (.agg ys):=by
 unfold hD Ha at *;subst a8;rw [MS];simp only;split at U
 ·rename_i h;rw [h];simp only;rw [← aB,MR]
 ·cases U
theorem C6 {xss:List (List af)} {sz:Nat} (b':∀ c∈xss,c.length=sz):∀ {j:Nat} {ys:List af},xss[j]? = some ys→∃ a z,xss.flatten=a++(ys++z)∧a.length=j*sz∧∀ ys',(xss.set j ys').flatten=a++(ys'++z):=by
 induction xss with
 | nil=>intro j ys h;cases h
 | cons x r aX=>
  intro j ys h;cases j with
  | zero=>
   simp at h;subst h;exact ⟨[],r.flatten,by simp,by simp,fun ys'=>by simp⟩
  | succ j=>
   obtain ⟨a,z,U,ad,al⟩:=aX (fun c aF=>b' c (g7 _ aF)) gT;refine ⟨x++a,z,by rw [aq0,U,ae6],by rw [d9,b' x i5,ad,au4,ao7],fun ys'=>?_⟩;rw [List.set_cons_succ,aq0,al,ae6]
theorem Wt {xss:List (List af)} {sz:Nat} (b':∀ c∈xss,c.length=sz):xss.flatten.length=xss.length*sz:=by
 induction xss with
 | nil=>simp
 | cons x r aX=>rw [aq0,d9,b' x i5,aX (fun c aF=>b' c (g7 _ aF)),i7,au4,ao7]
theorem MT {i:bL} {cs:List af} {xss:List (List af)} {n j:Nat} {ys:List af} (U:Ha i=true) (b':∀ c∈xss,c.length=i.size) (ab:cs.take (n*i.size)=xss.flatten) (aO:xss[j]? = some ys):hD i cs (j*i.size)=some (.agg ys):=by
 obtain ⟨a,z,ad,al,-⟩:=C6 b' aO;have:cs=a++(ys++(z++cs.drop (n*i.size))):=by
  conv=>lhs;rw [← ag4 (n*i.size) cs,ab,ad]
  simp
 rw [this];exact Ws U (b' ys (d6 aO)) al
theorem Hb:∀ (ys ys' a z:List af),ys'.length=ys.length→eO a.length ys' (a++(ys++z))=a++(ys'++z)
  | [],[],a,z,_=>by simp [eO]
  | y::ys,MU::ys',a,z,h=>by
    have:=Hb ys ys' (a++[MU]) z gT;rw [d9,ae6,ae6] at this;rw [eO,ai' _ _ (i0 _),ao5];exact this
theorem MV {sz:Nat} {cs:List af} {xss:List (List af)} {n j:Nat} {ys ys':List af} (b':∀ c∈xss,c.length=sz) (ab:cs.take (n*sz)=xss.flatten) (aO:xss[j]? = some ys) (aB:ys'.length=sz) :
  (eO (j*sz) ys' cs).length=cs.length∧(eO (j*sz) ys' cs).take (n*sz)=(xss.set j ys').flatten:=by
 obtain ⟨a,z,ad,al,bd⟩:=C6 b' aO;have h4:=b' ys (d6 aO);have aF:cs=a++(ys++(z++cs.drop (n*sz))):=by
  conv=>lhs;rw [← ag4 (n*sz) cs,ab,ad]
  simp
 have hlen:(xss.flatten).length≤n*sz:=by rw [← ab,ac9];omega
 have bB:eO (j*sz) ys' cs=a++(ys'++(z++cs.drop (n*sz))):=by
  conv=>lhs;rw [aF,← al]
  exact Hb ys ys' a _ ag
 refine ⟨by rw [bB];(conv=>rhs;rw [aF]);simp;omega,?_⟩;rw [bB,bd];by_cases av:cs.length≤n*sz
 ·rw [List.drop_eq_nil_of_le av,d8,ae8]
  have:(a++(ys'++z)).length=(a++(ys++z)).length:=by simp;omega
  rw [this,← ad];exact hlen
 ·have gN:(xss.flatten).length=n*sz:=by rw [← ab,ac9];omega
  have hn:(a++(ys'++z)).length=n*sz:=by rw [← gN,ad];simp;omega
  rw [show a++(ys'++(z++cs.drop (n*sz)))=(a++(ys'++z))++cs.drop (n*sz) by simp,ag2 ag,ae8 ag]
theorem dq.Ay {B:fx} {ro:Option Nat} {a:Act} {w:World} {p:bO} (h:dq N B ro env s a w p) {kb b n cap sz i:Nat} {T wg:TypeId} {cells cs:List af} {xss:List (List af)} (cp:kb≠b) (jJ:s kb=some (.box T cells)) (aF:cells[i]? = some (ea b n cap)) (ao:s b=some (.box wg cs)) (ab:cs.take (n*sz)=xss.flatten) (hN:xss.length=n)
  (b':∀ c∈xss,c.length=sz) (aA:n≤cap) (hm:n≤9223372036854775807):∃ bg,dq N B ro env ((s.del b).set kb (.box T (cells.set i (.ay sz (xss.map af.agg) .aZ)))) a w bg∧c8 w p w bg∧Kept s ((s.del b).set kb (.box T (cells.set i (.ay sz (xss.map af.agg) .aZ)))) w p w bg:=by
 obtain ⟨vs,U,ad,al⟩:=h.wf.obj _ _ ao;have az:b<w.heap.size:=(i8.1 U).1;have hle:c8 w p w (p.dR b True):=⟨rfl,rfl,rfl,i0 _,fun _ _ h => .inl h,fun _ _ _=>rfl,fun _ _ h=>h⟩;have dj:∀ v,Rel w p v (ea b n cap)→Rel w (p.dR b True) v (.ay sz (xss.map af.agg) .aZ):=by
  intro v aC;cases aC;have hv:=ad.take (n*sz);rw [ab] at hv;obtain ⟨us,b7,bR,eE⟩:=Fp hv b';refine .ay b 0 n cap sz us (xss.map af.agg) .aZ bc (by rw [f5,hN]) ?_ (b7.mono hle) eE hm aA (fun h=>by cases h) (fun b h=>by cases h);rw [bR];intro i v aS;refine ⟨.inr ⟨rfl,trivial⟩,?_⟩;rw [ad8,jq U];rw [af'] at aS;split at aS
  ·simpa using aS
  ·cases aS
 have aD:Kept s ((s.del b).set kb (.box T (cells.set i (.ay sz (xss.map af.agg) .aZ)))) w p w (p.dR b True):=⟨fun _ _ _=>rfl,fun aT an gF=>by
  have bd:aT≠kb:=fun e=>by subst e;rw [jJ] at gF;cases gF
  rw [ak.fk _ _ bd]
  by_cases e:aT=b
  ·subst e;exact ak.mR _ _
  ·rw [ak.l' _ e];exact gF,fun aT o an gF aE=>by
   rcases aE with aE|⟨rfl,_⟩
   ·exact aE
   ·rw [ao] at gF;cases gF⟩
 have b5:df w (p.dR b True) ((s.del b).set kb (.box T (cells.set i (.ay sz (xss.map af.agg) .aZ)))):=by
  refine ⟨fun aT o an=>?_,fun aT o aE=>by rcases aE with aE|⟨rfl,_⟩;exact h.wf.lt _ _ aE;exact az⟩;have fc:aT≠b→∀ o,p.dR b True aT o↔p aT o:=fun e o=>⟨fun aE=>by rcases aE with aE|⟨e',_⟩;exact aE;exact absurd e' e,.inl⟩
  by_cases jo:aT=kb
  ·subst jo
   rw [ak.fT] at an;cases an;obtain ⟨us,g1,g2,g3⟩:=h.wf.obj _ _ jJ;obtain ⟨v,sj,oY⟩:=g2.get aF;have bB:=(g2.mono hle).set i (dj v oY);have gN:us.toList.set i v=us.toList:=by
    apply ao0;intro k;rw [ar'];split
    ·rename_i e;subst e
     split
     ·rw [sj]
     ·rename_i az;rw [aj9 ag]
    ·rfl
   rw [gN] at bB;exact ⟨us,g1,bB,fun o aE=>g3 o ((fc cp o).1 aE)⟩
  rw [ak.fk _ _ jo] at an;by_cases e:aT=b
  ·subst e;rw [ak.mR] at an;cases an
  ·rw [ak.l' _ e] at an
   have ah:=h.wf.obj aT o an;have fc:=fc e;cases o with
   | box t c=>obtain ⟨us,g1,g2,g3⟩:=ah;exact ⟨us,g1,g2.mono hle,fun o aE=>g3 o ((fc o).1 aE)⟩
   | row t sz n=>obtain ⟨cur,g1,g2,g3,g4⟩:=ah;exact ⟨cur,g1,g2,g3,fun o=>(fc o).trans (g4 o)⟩
   | map es=>obtain ⟨cJ,c,g1,g2,g3⟩:=ah;exact ⟨cJ,c,g1,⟨g2.1.mono hle,g2.2.mono hle⟩,g3⟩
   | kN es it l c=>exact ah.pL hle C C
   | tick m=>exact ah
   | loop r env=>exact ⟨ah.1,fun t v h=>(ah.2 t v h).mono hle⟩
 exact ⟨_,h.step hle aD b5,hle,aD⟩
theorem ae.Ay {c:Code} (I:Ok s L) {kb b n cap sz:Nat} (i:Nat) {T wg:TypeId} {cells cs:List af} {xss:List (List af)} {dk:a6} (U:bl L (.own kb) (.box T cells) R) (ad:bl R (.own b) (.box wg cs) dk) (aF:cells[i]? = some (ea b n cap)) (ab:cs.take (n*sz)=xss.flatten) (hN:xss.length=n) (b':∀ c∈xss,c.length=sz) (aA:n≤cap) (hm:n≤9223372036854775807)
  (h:Ok s ((.own kb,.box T (cells.set i (.ay sz (xss.map af.agg) .aZ)))::dk)→ae P N c Q env (aQ s ((.own kb,.box T (cells.set i (.ay sz (xss.map af.agg) .aZ)))::dk))):ae P N c Q env (aQ s L):=by
 obtain ⟨g1,g2,g3,g4,g5⟩:=Mz (o'' := .box T (cells.set i (.ay sz (xss.map af.agg) .aZ))) I U ad;intro sB B a w p eU aI;obtain ⟨bg,al,bd,bB⟩:=aI.Ay g1 g2 aF g3 ab hN b' aA hm;rw [g4] at al bB;exact lG (h g5 sB B a w bg eU al) fun _ _ _ q=>q.after bd bB
end
abbrev x4:=Option (Nat×Nat×List af)
def qE:x4→List aq→af
 | none,_ => .ay 0 [] .nil
 | some (g,cap,_),l=>ea g l.length cap
def pB:x4→a6
 | none=>[]
 | some (g,_,cs)=>[(.own g,.box 58 cs)]
def Hc:x4→List aq→Prop
 | none,l=>l=[]
 | some (_,cap,cs),l=>cs.length=cap*6∧l.length≤cap∧cs.take (l.length*6)=(l.map aq.cells).flatten
theorem Hd (l:List aq):∀ c∈l.map aq.cells,c.length=6:=fun c aF=>by obtain ⟨x,-,rfl⟩:=ad2.1 aF;rfl
def nU (cw:Nat) (f:aq):bN×ds:=(.own cw,.box 58 f.cells)
theorem Wu (cw:Nat) (x f:aq) (ab:x.path.length<bt) (a1:f.path.length<bt):dh d0 (.func 103 [] [.ptr cw 0]) [x.cb] [nU cw f] (fun o K=>o = .ret (.bool (gL x f))∧K=[nU cw f]):=by
 have U:=La x f ab a1;have U:aU d0 104 [x.cb,f.cb] (.bool (gL x f)):=U;refine dh.fa (first:=[]) (cap:=[.ptr cw 0]) ?_;refine bz.bn aj Tryz.func103 C C fun s I=>?_
 unfold nU at I ⊢;rw [aq.cE,aq.cE] at U;rw [aq.cE];unfold aq.cells at *;refine ha I ?_;intro I;exact Fin.bu I C aM (aH.all _) ⟨rfl,rfl⟩
theorem Wv (g cap:Nat) (cs:List af) (l:List aq) (aB:l.length<bt) (U:cs.length=cap*6) (ad:l.length≤cap) (al:cs.take (l.length*6)=(l.map aq.cells).flatten) (cw:Nat) (f:aq) (a1:f.path.length<bt) (aE:∀ x∈l,x.path.length<bt) :
  bz d0 150 [ea g l.length cap,.func 103 [] [.ptr cw 0]] [(.own g,.box 58 cs),nU cw f]
   (fun o K=>o = .ret (.int .i64 (match l.findIdx? (fun x=>gL x f) with
    | some i=>(i:Int)
    | none => -1))∧K=[(.own g,.box 58 cs),nU cw f]):=by
 have an:=bC;refine bz.bn aj Tryz.func150 C C fun s I=>?_
 unfold nU at I ⊢;refine dz ?_;refine aa.sD aj C C C C C C C ?_;refine ej ?_;refine ae.cl [0,1,7] C I (σ:=Nat) (fun j=>[(8,.int .i64 (j:Int))]) (fun _=>[(.own g,.box 58 cs),nU cw f]) (fun j=>j≤l.length∧∀ i x,i<j→l[i]? = some x→gL x f=false) (fun j=>l.length-j) 0 ⟨g9 _,fun i x aS=>absurd aS (an4 _)⟩ (cI C) (aH.all _) ?_;rintro j ⟨aO,aw⟩ I;unfold nU at I ⊢;refine ck ?_;refine ae.cond C (fun az=>?_) (fun a'=>?_);rotate_left
 ·have a':j=l.length:=by simp at a';omega
  have ab:l.findIdx? (fun x=>gL x f)=none:=by
   rw [ag8];intro z bP;obtain ⟨i,aS⟩:=ag7 bP;have U:=re aS;exact aw i z ag aS
  rw [ab];refine eH ?_;exact Fin.bu I C aM (aH.all _) ⟨rfl,rfl⟩
 have az:j<l.length:=by simpa using az
 obtain ⟨y,ax⟩:∃ y,l[j]? = some y:=⟨_,f8 az⟩;have cS:=Wu cw y f (aE y (d6 ax)) a1;rw [aq.cE] at cS;unfold nU at cS;refine bG ?_;refine aa.gi aj j C C C C C C C C C C az ?_;refine aa.ey aj I C C C C C C .here (MT C (Hd l) al (by rw [ad7,ax];rfl)) ?_;skip;refine aa.gr rfl rfl rfl rfl rfl rfl cS I a7 ?_ (fun _ _ ⟨h,_⟩ _=>by cases h);rintro _ _ ⟨⟨⟩,rfl⟩ I;rw [t8,d7] at I ⊢;cases aA:gL y f with
 | true=>
  have ab:l.findIdx? (fun x=>gL x f)=some j:=by
   rw [af2];refine ⟨az,by rw [(ac1.1 ax).2];exact aA,fun i aS=>?_⟩;have:=aw i l[i] aS (f8 ag);simpa using this
  rw [ab];refine fB ?_;exact Fin.bu I C aM (.cons (.there .here) (.cons .here .nil)) ⟨rfl,rfl⟩
 | false=>
  refine bG ?_;refine bF.mk (j+1) I ⟨az,fun i x aS ab=>?_⟩ cC (.cons (.there .here) (.cons .here .nil)) rk;rcases af3.1 aS with aS|rfl
  ·exact aw i x aS ab
  ·rw [ax] at ab;cases ab;exact aA
theorem Ww {α:Type} (q:α→Bool) (l:List α):(decide ((match l.findIdx? q with
  | some i=>(i:Int)
  | none => -1)≥0))=l.any q:=by
 cases h:l.findIdx? q with
 | none=>
  rw [ag8] at h;have:l.any q=false:=by rw [ah'];intro x ab;rw [h x ab];simp
  rw [this];rfl
 | some i=>
  rw [af2] at h;obtain ⟨U,ad,-⟩:=h;have:l.any q=true:=ae4.2 ⟨_,ak3 U,ad⟩;rw [this];simp
theorem Wx (bx:x4) (l:List aq) (aB:l.length<bt) (ao:Hc bx l) (cw:Nat) (f:aq) (a1:f.path.length<bt) (aE:∀ x∈l,x.path.length<bt) :
  bz d0 102 [qE bx l,.func 103 [] [.ptr cw 0]] (pB bx++[nU cw f]) (fun o K=>o = .ret (.bool (l.any fun x=>gL x f))∧K=pB bx++[nU cw f]):=by
 cases bx with
 | none=>
  have:l=[]:=ao;subst this;have h:=FR (.func 103 [] [.ptr cw 0]) [] (fun _=>[nU cw f]) (fun _=>false) dE (fun j x h=>by cases h);refine bz.mono (bz.args (show cM [.ay 0 [] .nil,.func 103 [] [.ptr cw 0]] [.ay 6 ([].map aq.cb) .aZ,.func 103 [] [.ptr cw 0]] from .cons aR.empty (.one aM)) h) ?_;rintro o K (⟨rfl,rfl,-⟩|⟨j,h,-⟩)
  ·exact ⟨rfl,rfl⟩
  ·exact absurd h (an4 _)
 | some q=>
  obtain ⟨g,cap,cs⟩:=q;obtain ⟨U,ad,al⟩:=ao;rw [← Ww];have h:=Wv g cap cs l aB U ad al cw f a1 aE;show bz d0 102 [ea g l.length cap,.func 103 [] [.ptr cw 0]] [(.own g,.box 58 cs),nU cw f] _;refine bz.bn aj Tryz.func102 C C fun s I=>?_
  refine dz ?_;refine aa.bZ rfl rfl rfl rfl rfl h I (aH.all _) ?_ (fun _ _ ⟨h,_⟩ _=>by cases h);rintro _ _ ⟨⟨⟩,rfl⟩ I;rw [d8] at I ⊢;refine dY ?_;exact Fin.bu I C aM (aH.all _) ⟨rfl,rfl⟩
theorem C7 (i:Nat):∀ vs:List Nat,(fY i vs).length+(fZ i vs).length=vs.length
  | []=>rfl
  | v::r=>by
    have:=C7 i r;unfold fY fZ at *;cases h:v.testBit i<;>simp [ai8,h]<;>omega
theorem C8 {i:Nat} {vs:List Nat} (h:((fY i vs).isEmpty||(fZ i vs).isEmpty)=false):(fY i vs).length<vs.length∧(fZ i vs).length<vs.length:=by
 have:=C7 i vs;rw [ai2] at h;have U:(fY i vs).length≠0:=by intro aA;rw [as3.2 aA] at h;simp at h
 have ad:(fZ i vs).length≠0:=by intro aA;rw [as3.2 aA] at h;simp at h
 omega
theorem Wy {g g':List Nat→ca} {vs:List Nat} (h:∀ l:List Nat,l.length<vs.length→g l=g' l) (out:Option ca) (i:Nat):lC g vs out i=lC g' vs out i:=by
 unfold lC;cases he:(fY i vs).isEmpty||(fZ i vs).isEmpty with
 | true=>rfl
 | false=>
  have:=C8 he;rw [f0 bc,f0 bc,h _ this.1,h _ this.2]
theorem He {g g':List Nat→ca} {vs:List Nat} (h:∀ l:List Nat,l.length<vs.length→g l=g' l):∀ (is:List Nat) (out:Option ca),is.foldl (lC g vs) out=is.foldl (lC g' vs) out
 | [],_=>rfl
 | i::r,out=>by rw [af0,af0,Wy h,He h r]
theorem Hf (A:Nat) (h:Nat→List Int):∀ (f ml:Nat) (vs:List Nat),vs.length≤f→vs.length≤ml→mG A h f vs=mG A h ml vs
  | 0,ml,vs,U,_=>by
    have:vs=[]:=av0.1 ag;subst this;cases ml with
    | zero=>rfl
    | succ ml=>rw [mG,mG,qC,f9 C]
  | f+1,0,vs,_,ad=>by
    have:vs=[]:=av0.1 ag;subst this;rw [mG,mG,qC,f9 C]
  | f+1,ml+1,vs,U,ad=>by
    rw [mG,mG,He (g:=mG A h f) (g':=mG A h ml) (fun l aB=>Hf A h f ml l ag ag)]
def gz (A:Nat) (h:Nat→List Int) (vs:List Nat):ca:=mG A h vs.length vs
theorem Hg (A:Nat) (h:Nat→List Int) (vs:List Nat):gz A h vs=if qC h vs then .leaf (firstM h vs) else ((af7 A).foldl (lC (gz A h) vs) none).getD (.leaf []):=by
 have e:gz A h vs=mG A h (vs.length+1) vs:=Hf A h _ _ vs (i0 _) (ax7 _);rw [e,mG,He (g:=mG A h vs.length) (g':=gz A h) (fun l aB=>Hf A h _ _ l ag (i0 _))]
theorem C9 (p:bK) (gen:Int):wz p gen=gz (cF p gen).length (dA p gen (cF p gen)) (hA (b3 p) (cF p gen)):=rfl
theorem ca.qF:∀ t:ca,1≤t.leaves
 | .leaf _=>i0 1
 | .test _ a b=>by have:=a.qF;have:=b.qF;rw [ca.leaves];omega
theorem ca.C':∀ t:ca,t.j7<t.leaves
  | .leaf _=>Nat.one_pos
  | .test _ a b=>by
    have:=a.C';have:=b.C';have:=a.qF;have:=b.qF;rw [ca.j7,ca.leaves];omega
theorem Wz {Pr:ca→Prop} {out:Option ca} {t:ca} (U:∀ o,out=some o→Pr o) (ad:Pr t):∀ o,wy out t=some o→Pr o:=by
 intro o h;unfold wy at h;cases out with
 | none=>cases h;exact ad
 | some x=>
  simp only at h;split at h
  ·cases h;exact ad
  ·cases h;exact U _ C
theorem WA {Pr:ca→Prop} {g:List Nat→ca} {vs:List Nat} {out:Option ca} {i:Nat} (U:∀ o,out=some o→Pr o) (ad:((fY i vs).isEmpty||(fZ i vs).isEmpty)=false→Pr (.test i (g (fZ i vs)) (g (fY i vs)))):∀ o,lC g vs out i=some o→Pr o:=by
 unfold lC;cases he:(fY i vs).isEmpty||(fZ i vs).isEmpty with
 | true=>rw [f9 C];exact U
 | false=>rw [f0 bc];exact Wz U (ad he)
theorem MW {Pr:ca→Prop} {g:List Nat→ca} {vs:List Nat}:∀ (is:List Nat) (out:Option ca),(∀ o,out=some o→Pr o)→(∀ i∈is,((fY i vs).isEmpty||(fZ i vs).isEmpty)=false→Pr (.test i (g (fZ i vs)) (g (fY i vs))))→∀ o,is.foldl (lC g vs) out=some o→Pr o
  | [],_,U,_=>U
  | i::r,out,U,ad=>by
    rw [af0];exact MW r _ (WA U (ad i i5)) (fun j aO=>ad j (g7 _ aO))
theorem MX {Pr:ca→Prop} {g:List Nat→ca} {vs:List Nat} {is:List Nat} {out:Option ca} {d:ca} (av:Pr d) (U:∀ o,out=some o→Pr o) (ad:∀ i∈is,((fY i vs).isEmpty||(fZ i vs).isEmpty)=false→Pr (.test i (g (fZ i vs)) (g (fY i vs)))):Pr ((is.foldl (lC g vs) out).getD d):=by
 cases h:is.foldl (lC g vs) out with
 | none=>exact av
 | some o=>exact MW is out U ad o h
theorem x5 (A:Nat) (h:Nat→List Int):∀ (n:Nat) (vs:List Nat),vs.length≤n→(gz A h vs).leaves≤max 1 vs.length
  | n,vs,aA=>by
    rw [Hg];split
    · rw [ca.leaves];omega
    · refine MX (Pr:=fun t=>t.leaves≤max 1 vs.length) (by rw [ca.leaves];omega) (fun _ h=>by cases h) (fun i _ he=>?_)
      have aB:=C8 he;have ax:=C7 i vs;cases n with
      | zero=>omega
      | succ n=>
        have U:=x5 A h n (fZ i vs) ag;have ad:=x5 A h n (fY i vs) ag;rw [ca.leaves];omega
theorem WB (out:Option ca) (t:ca):∃ o,wy out t=some o:=by
 unfold wy;cases out with
 | none=>exact ⟨_,rfl⟩
 | some o=>simp only;split<;>exact ⟨_,rfl⟩
theorem MY {g:List Nat→ca} {vs:List Nat}:∀ (is:List Nat) (out:Option ca),(out≠none∨∃ i∈is,((fY i vs).isEmpty||(fZ i vs).isEmpty)=false)→∃ o,is.foldl (lC g vs) out=some o
  | [],out,h=>by
    rcases h with h|⟨i,aS,_⟩
    · cases out with
      | none=>exact absurd C h
      | some o=>exact ⟨o,rfl⟩
    · cases aS
  | i::r,out,h=>by
    rw [af0];refine MY r _ ?_;unfold lC;cases he:(fY i vs).isEmpty||(fZ i vs).isEmpty with
    | true=>
      rw [f9 C];rcases h with h|⟨j,aO,h⟩
      · exact .inl h
      · rcases ad4.1 aO with rfl|aO
        · rw [he] at h;cases h
        · exact .inr ⟨j,aO,h⟩
    | false=>
      rw [f0 bc];obtain ⟨o,ah⟩:=WB out (.test i (g (fZ i vs)) (g (fY i vs)));exact .inl (by rw [ah];simp)
theorem Da {α:Type} {l:List α} {x:α} (h:x∈l):l.isEmpty=false:=by cases l with|nil=>cases h|cons=>rfl
theorem WC {A u v:Nat} {vs:List Nat} (hu:u∈vs) (ar:v∈vs) (U:u<2^A) (ad:v<2^A) (cp:u≠v):∃ i∈af7 A,((fY i vs).isEmpty||(fZ i vs).isEmpty)=false:=by
 have hex:∃ i,u.testBit i≠v.testBit i:=Classical.byContradiction fun aA=>cp (Nat.eq_of_testBit_eq fun i=>Classical.byContradiction fun h=>aA ⟨i,h⟩)
 obtain ⟨i,aS⟩:=hex
 have WD:i<A:=Nat.lt_of_not_le fun a'=>aS (by
  rw [ak6 (ai3 U (af6 ag a')),ak6 (ai3 ad (af6 ag a'))])
 refine ⟨i,ah6.2 WD,?_⟩;rw [ai2];cases an:u.testBit i with
 | true=>
  have lf:v.testBit i=false:=by cases h:v.testBit i with|false=>rfl|true=>exact absurd (an.trans h.symm) aS
  exact ⟨Da (af4.2 ⟨hu,an⟩),Da (af4.2 ⟨ar,by rw [lf];rfl⟩)⟩
 | false=>
  have lf:v.testBit i=true:=by cases h:v.testBit i with|true=>rfl|false=>exact absurd (an.trans h.symm) aS
  exact ⟨Da (af4.2 ⟨ar,lf⟩),Da (af4.2 ⟨hu,by rw [an];rfl⟩)⟩
theorem WE {h:Nat→List Int}:∀ {vs:List Nat},qC h vs=false→∃ u∈vs,∃ v∈vs,u≠v
  | v::r,a1=>by
    rw [qC] at a1;have:=au2.1 a1;obtain ⟨u,hu,cp⟩:=this;exact ⟨u,g7 _ hu,v,i5,by rintro rfl;simp at cp⟩
theorem WG {A:Nat} {h:Nat→List Int} {vs:List Nat} (lj:∀ v∈vs,v<2^A) (a1:qC h vs=false) (g:List Nat→ca):∃ o,(af7 A).foldl (lC g vs) none=some o:=by
 obtain ⟨u,hu,v,ar,cp⟩:=WE a1;exact MY _ _ (.inr (WC hu ar (lj u hu) (lj v ar) cp))
section
variable {P:Program} {Γ:cj} {N:Nat} {env:Env} {s:ak} {ops:Array Oper} {rest:List Oper} {Q:bX→Env→ak→Prop} {L R:a6}
theorem dq.oL {B:fx} {ro:Option Nat} {a:Act} {w:World} {p:bO} (h:dq N B ro env s a w p) {kb:Nat} {T:TypeId} {cells rJ:List af} (jJ:s kb=some (.box T cells)) (hle:cM cells rJ) :
  dq N B ro env (s.set kb (.box T rJ)) a w p∧Kept s (s.set kb (.box T rJ)) w p w p:=by
 have aD:Kept s (s.set kb (.box T rJ)) w p w p:=⟨fun _ _ _=>rfl,fun aT an gF=>by
  have bd:aT≠kb:=fun e=>by subst e;rw [jJ] at gF;cases gF
  rw [ak.fk _ _ bd];exact gF,fun aT o an gF aE=>aE⟩
 have b5:df w p (s.set kb (.box T rJ)):=by
  refine ⟨fun aT o an=>?_,h.wf.lt⟩;by_cases jo:aT=kb
  ·subst jo
   rw [ak.fT] at an;cases an;obtain ⟨us,g1,g2,g3⟩:=h.wf.obj _ _ jJ;exact ⟨us,g1,hle.rel g2,g3⟩
  ·rw [ak.fk _ _ jo] at an
   exact h.wf.obj aT o an
 exact ⟨h.step (.refl w p) aD b5,aD⟩
theorem ae.oL {c:Code} (I:Ok s L) {kb:Nat} {T:TypeId} {cells:List af} (rJ:List af) (U:bl L (.own kb) (.box T cells) R) (hle:cM cells rJ)
  (h:Ok s ((.own kb,.box T rJ)::R)→ae P N c Q env (aQ s ((.own kb,.box T rJ)::R))):ae P N c Q env (aQ s L):=by
 obtain ⟨g1,g2⟩:=U.put (.box T rJ) I;intro sB B a w p eU aI;obtain ⟨al,bB⟩:=aI.oL (U.get I) hle;rw [g1] at al bB;exact lG (h g2 sB B a w p eU al) fun _ _ _ q=>q.after (.refl w p) bB
end
section
variable {P:Program} {Γ:cj} {N:Nat} {ops:Array Oper} {Q:bX→Env→ak→Prop} {env:Env} {s:ak} {l:List Oper} {o:Oper} {d:Nat}
theorem aW.Db (aP:bM P Γ) {t e:TypeId} {v:Value} {it aG:bL} {x:af} (ah:o.op = .buildSlice t 1 #[(0,.const v)]) (aK:Γ.get? t=some it) (br:it.bE = .ay e) (he:Γ.get? e=some aG) (Bx:Nat.ble (1*aG.size) 16777216=true) (aF:ho v=some x) (b':ad0 v.cells.size aG.size=true) :
  aW P N o env s (fun r ai=>r = .ay aG.size [x] .clip∧ai=s) (fun _ _=>False):=by
 refine aW.mO iN fun ro B a w p aI=>?_
 obtain ⟨info,d,U,ad,al,-⟩:=aP.parts aK;obtain ⟨l8,cX,nj,nk,uV,oR,I2,Bw⟩:=aP.parts he;have av:d = .slice e:=by rw [br] at al;cases d<;>simp [eh] at al;rw [al]
 subst av;have ao:=ab' b';have hm:=Nat.le_of_ble_eq_true Bx;have bR:bD w p [v] [x] := .cons _ _ _ _ (pO aF) .nil;have eE:∀ u∈[v],u.cells.size=aG.size:=fun u hu=>by rw [t7.1 hu];exact ao
 have jX:(flat [v]).length=1*aG.size:=by simp [flat,ao]
 have r9:∀ sa:Array Value,sa.size=1*aG.size→Instr.fill (fun i=>some (i*aG.size,aG.size)) sa ((#[(0,Operand.const v)]:Array (Nat×Operand)).map fun x=>(x.1,a.eval x.2)).toList=some (flat [v]).toArray:=by
  intro sa n6;have:=IX aG.size [v] 0 [] sa.toList bc (by rw [ac6,n6];rfl) eE;simp only [d7] at this;simpa [Act.eval] using this
 refine gB.alloc (flat [v]).toArray e aI.wf.lt (val := .slice (some ⟨w.heap.size,0,none⟩) 1 1) ?_ ?_
 ·unfold execOp
  rw [ah];refine gC ?_;have oT:¬ (1*aG.size>2^24):=by omega
  unfold Instr.buildSlice;simp only [z2,run_underlying ad,g6,sizeOf,typeInfo,run_program,nj,ac4,oR,f0 oT];by_cases bo:1*aG.size=0
  ·rw [f9 bo,z2,ac4,g6,r9 _ bc]
   rfl
  ·rw [f0 bo]
   simp only [zeroValue,typeInfo,z2,run_program,nj,Bw,ac4,g6];rw [r9 _ bc];rfl
 ·refine .ay _ 0 _ _ _ [v] _ _ bc rfl ?_ (bR.mono (tk aI.wf.lt _ _)) eE ?_ (i0 _) (fun _=>rfl) (fun b an=>by cases an)
  ·exact Ec (w:=w) (p:=p) (flat [v]) e
  ·omega
theorem aa.Db (aP:bM P Γ) {t e:TypeId} {v:Value} {it aG:bL} {x:af} (au:guardOf ops env o=some true) (av:o.dst=some d) (aY:i9 d N=true) (ah:o.op = .buildSlice t 1 #[(0,.const v)]) (aK:Γ.get? t=some it) (br:it.bE = .ay e) (he:Γ.get? e=some aG) (Bx:Nat.ble (1*aG.size) 16777216=true) (aF:ho v=some x) (b':ad0 v.cells.size aG.size=true)
  (h:aa P N ops l Q ((d,.ay aG.size [x] .clip)::env) s):aa P N ops (o::l) Q env s:=
 aa.op au av aY (aW.Db aP ah aK br he Bx aF b') (fun x ai ⟨U,ad⟩=>by subst U;subst ad;exact h) (fun _ _ h=>h.elim)
end
section
variable {P:Program} {Γ:cj} {N:Nat} {l:List Oper} {i:Nat} {rest:List Oper} {Q:bX→Env→ak→Prop} {env:Env} {s:ak} {o:Oper} {d:Nat}
theorem aL.uq {L R K:a6} {ace:eo→a6→Prop} {b:Nat} {dt:ds} {f:FuncId} {fC:Array Operand} {c0:Array TypeId} {xs:List af} (au:cY l env o) (av:o.dst=some d) (aY:i9 d N=true) (aC:eD l.toArray (2^i-1) (idxs 0 l)=[i])
  (bV:o.op = .call { callee := .value (.func f),args:=fC,argTypes:=c0 }) (a8:fy (bU l env o) fC.toList=some xs) (h:bz P f xs K ace) (I:Ok s L) (ao:aH L K R)
  (aO:∀ x aN,ace (.ret x) aN→∃ dk,bl (aN++R) (.own b) dt dk)
  (aD:∀ x aN,ace (.ret x) aN→Ok s (aN++R)→aL (fun ai=>ai b=some dt) P Γ N l (i+1) rest Q ((d,x)::env) (aQ s (aN++R))) (ab:∀ x aN,ace (.panic x) aN→Ok s (aN++R)→Q (.panic x) [] (aQ s (aN++R))):aL (fun ai=>ai b=some dt) P Γ N l i (o::rest) Q env (aQ s L):=
 aL.xA au av aY aC (aW.bZ bV a8 h I ao) (fun x ai ⟨aN,U,ad,al⟩=>by subst U;obtain ⟨dk,gY⟩:=aO x aN al;exact gY.get ad) (fun x ai ⟨aN,U,ad,al⟩=>by subst U;exact aD x aN al ad) (fun x ai ⟨aN,U,ad,al⟩=>by subst U;exact ab x aN al ad)
end
section
variable {P:Program} {N:Nat} {ops:Array Oper} {Q:bX→Env→ak→Prop} {env:Env} {s:ak} {l:List Oper} {o:Oper} {d:Nat}
theorem aa.rm {g:Operand} {name:String} {fC:Array Operand} {c0:Array TypeId} {t:TypeId} {v:af} {f:FuncId} {xs:List af} {r:af} (au:guardOf ops env o=some true) (av:o.dst=some d) (aY:i9 d N=true)
  (ah:o.op = .call { callee := .invoke g name,args:=fC,argTypes:=c0 }) (ar:aJ env g=some (.iface t v)) (a8:fy env fC.toList=some xs) (hm:o2 P t name f) (h:aU P f (v::xs) r)
  (aD:aa P N ops l Q ((d,r)::env) s):aa P N ops (o::l) Q env s:=
 aa.invoke au av aY ah ar a8 hm (h s) (fun x ai ⟨U,ad⟩=>by cases U;subst ad;exact aD) (fun x ai ⟨U,_⟩=>by cases U)
end
section
variable {P:Program} {Γ:cj} {N:Nat} {l:List Oper} {i:Nat} {rest:List Oper} {Q:bX→Env→ak→Prop} {env:Env} {s:ak} {o:Oper} {d:Nat} {L R:a6}
theorem aL.jc (aP:bM P Γ) (I:Ok s L) {t dH eW:TypeId} {x y:Operand} {ok:Bool} {it gp aG:bL} {m:Nat} {es:List (af×af)} {k z:af} {r:Option af} (au:cY l env o) (av:o.dst=some d) (aY:i9 d N=true)
  (ah:o.op = .lookup t x y ok) (aK:Γ.get? t=some it) (br:it.bE = .map dH eW) (iX:Γ.get? dH=some gp) (bH:Γ.get? eW=some aG) (ab:aJ (bU l env o) x=some (.map m)) (ax:aJ (bU l env o) y=some k) (ao:bl L (.own m) (.map es) R)
  (a1:jO gp.bE k=true) (aC:iJ es k=some r) (bP:ho aG.zero=some z) (h:aL (fun ai=>ai=aQ s L) P Γ N l (i+1) rest Q ((d,la ok z r)::env) (aQ s L)):aL (fun ai=>ai=aQ s L) P Γ N l i (o::rest) Q env (aQ s L):=
 aL.calm au av aY (fun _ e=>by subst e;exact aW.jc aP I ah aK br iX bH ab ax ao a1 aC bP) h
end
section
variable {J:ak→Prop} {P:Program} {Γ:cj} {N:Nat} {l:List Oper} {i:Nat} {Q:bX→Env→ak→Prop} {env:Env} {s:ak} {o:Oper} {L R:a6}
theorem aL.mm (aP:bM P Γ) (I:Ok s L) {t dH eW:TypeId} {x y z:Operand} {it gp:bL} {b:Nat} {es:List (af×af)} (dn:List (af×af)) {k v:af} (au:cY l env o) (av:o.dst=none) (lx:kt l.toArray i=true)
  (bV:o.op = .mapUpdate t x y z∨o.op = .insert t x y z) (aK:Γ.get? t=some it) (br:it.bE = .map dH eW) (iX:Γ.get? dH=some gp) (ab:aJ (bU l env o) x=some (.map b)) (ax:aJ (bU l env o) y=some k) (bP:aJ (bU l env o) z=some v)
  (ao:bl L (.own b) (.map es) R) (a1:jO gp.bE k=true) (aE:k9 es k v=some dn)
  (h:Ok s ((.own b,.map dn)::R)→Q .normal env (aQ s ((.own b,.map dn)::R))):aL J P Γ N l i [o] Q env (aQ s L):=
 aL.FX au av lx (aW.mm aP I bV aK br iX ab ax bP ao a1 aE (X:=fun _ _=>False)) (fun x ai ⟨U,ad⟩=>by subst U;exact h ad) (fun _ _ h=>h.elim)
end
def kI:ca→af
 | .leaf ms => .iface 154 (.agg [bk ms])
 | .test i a b => .iface 156 (.agg [.int .i64 (i:Int),kI a,kI b])
theorem WH:o2 d0 154 "consort/tree.size" 333 := B3 fA
theorem WI:o2 d0 156 "consort/tree.size" 334 := B3 fA
theorem WJ (ms:List Int):aU d0 333 [.agg [bk ms]] (.cg [.int .i64 0,.int .i64 1]):=by
 have an:=bC;refine aU.bn aj Tryz.func333 C C fun s I=>?_
 unfold bk;refine gO ?_;exact bA I
theorem s3:∀ t:ca,∃ ty v f,kI t = .iface ty v∧o2 d0 ty "consort/tree.size" f∧(t.leaves<2^40→aU d0 f [v] (.cg [.int .i64 (t.j7:Int),.int .i64 (t.leaves:Int)]))
  | .leaf ms=>⟨_,_,_,rfl,WH,fun _=>WJ ms⟩
  | .test i a b=>by
    obtain ⟨t1,v1,f1,b7,mB,cP⟩:=s3 a;obtain ⟨t2,v2,f2,bR,hk,c9⟩:=s3 b;refine ⟨_,_,_,rfl,WI,fun aB=>?_⟩;rw [ca.leaves] at aB;have cP:=cP ag;have c9:=c9 ag;have U:=a.C';have ad:=b.C';rw [b7,bR,ca.j7,ca.leaves];refine aU.bn aj Tryz.func334 C C fun s I=>?_
    refine dz ?_;refine aa.rm C C C C C C mB cP ?_;refine hQ ?_;refine aa.rm C C C C C C hk c9 ?_;refine bG ?_;refine Fin.cL I C (aR.of_eq ?_);rw [er (by split<;>omega) (by split<;>omega),er ag ag];congr 3
    · congr 1
      split<;>omega
theorem WK (a b:ca) (a8:a.leaves<2^40) (dF:b.leaves<2^40):aU d0 108 [kI a,kI b] (.bool (a.before b)):=by
 have an:=bC;refine aU.bn aj Tryz.func108 C C fun s I=>?_
 obtain ⟨t1,v1,f1,b7,mB,cP⟩:=s3 a;obtain ⟨t2,v2,f2,bR,hk,c9⟩:=s3 b;have cP:=cP a8;have c9:=c9 dF;rw [b7,bR];unfold ca.before;refine dz ?_;refine aa.rm C C C C C C mB cP ?_;refine hQ ?_;refine aa.rm C C C C C C hk c9 ?_;by_cases U:a.j7<b.j7
 ·rw [i6 U,al7]
  refine hQ ?_;refine aa.dW 22 C (i6 ag) ?_;refine dT ?_;exact bA I
 ·rw [H1 U,af1]
  refine hQ ?_;refine aa.dc 22 C (H1 ag) ?_;by_cases ad:a.j7=b.j7
  ·rw [i6 ad,f4]
   refine dD ?_;refine aa.dW 26 C cO ?_;refine dY ?_;refine Fin.cL I C (aR.of_eq (ac5 af.bool ?_));rw [ad1];simp
  ·rw [H1 ad,f7]
   refine dD ?_;refine aa.dc 26 C cO ?_;refine dT ?_;exact bA I
theorem x6 {sz:Nat} {cs:List af} {xss:List (List af)} {n j k:Nat} {ys:List af} {v:af} (b':∀ c∈xss,c.length=sz) (ab:cs.take (n*sz)=xss.flatten) (aO:xss[j]? = some ys) (aD:k<sz) :
  (eO (j*sz+k) [v] cs).length=cs.length∧(eO (j*sz+k) [v] cs).take (n*sz)=(xss.set j (ys.set k v)).flatten:=by
 have h4:=b' ys (d6 aO);have h:=MV (ys':=ys.set k v) b' ab aO (by rw [ae0];exact h4);obtain ⟨a,z,ad,al,-⟩:=C6 b' aO;have aF:cs=a++(ys++(z++cs.drop (n*sz))):=by
  conv=>lhs;rw [← ag4 (n*sz) cs,ab,ad]
  simp
 have e:eO (j*sz) (ys.set k v) cs=eO (j*sz+k) [v] cs:=by
  rw [rj]
  conv=>lhs;rw [aF,← al]
  conv=>rhs;rw [aF,← al]
  rw [Hb ys _ a _ (ae0 ..),ai' _ _ ag,ao',av' _ _ ag]
 rw [e] at h;exact h
theorem MZ {sz:Nat} {cs:List af} {xss:List (List af)} {n j k:Nat} {ys:List af} {v:af} (b':∀ c∈xss,c.length=sz) (ab:cs.take (n*sz)=xss.flatten) (aO:xss[j]? = some ys) (aD:ys[k]? = some v):cs[j*sz+k]? = some v:=by
 obtain ⟨a,z,ad,al,-⟩:=C6 b' aO;have aF:cs=a++(ys++(z++cs.drop (n*sz))):=by
  conv=>lhs;rw [← ag4 (n*sz) cs,ab,ad]
  simp
 have ue:=(ac1.1 aD).1;rw [aF,← al,ad6 ag,ao',ad3 ue];exact aD
abbrev Az:=Option (Nat×Nat×List af)
def jK:Az→List bJ→af
 | none,_ => .ay 0 [] .nil
 | some (g,cap,_),l=>ea g l.length cap
def jk:Az→a6
 | none=>[]
 | some (g,_,cs)=>[(.own g,.box 69 cs)]
def x7:Az→List bJ→Prop
 | none,l=>l=[]
 | some (_,cap,cs),l=>cs.length=cap*4∧l.length≤cap∧cs.take (l.length*4)=(l.map hy).flatten
theorem oM (l:List bJ):∀ c∈l.map hy,c.length=4:=fun c aF=>by obtain ⟨x,-,rfl⟩:=ad2.1 aF;rfl
theorem x8 (l:List bJ) (x:bJ):((l++[x]).map hy).flatten=(l.map hy).flatten++hy x:=by simp
theorem s4:∀ (t:ca) (L:List bJ),(ca.laid L t).length+1=L.length+2*t.leaves
  | .leaf ms,L=>by rw [ca.laid,ca.leaves,d9];rfl
  | .test i a b,L=>by
    have U:=s4 a (L++[⟨i,0,0,[]⟩]);have ad:=s4 b (ca.laid (L++[⟨i,0,0,[]⟩]) a);rw [ca.laid,ca.leaves,ae0];rw [d9,i7,ae1] at U;omega
theorem AA:∀ (t:ca) (L:List bJ) (j:Nat),j<L.length→(ca.laid L t)[j]? = L[j]?
  | .leaf ms,L,j,h=>by rw [ca.laid,ad3 h]
  | .test i a b,L,j,h=>by
    rw [ca.laid];rw [List.getElem?_set_ne ag,AA b _ j (by have U:=s4 a (L++[⟨i,0,0,[]⟩]);have ad:=a.qF;rw [d9,i7,ae1] at U;omega),AA a _ j (by rw [d9];omega),ad3 h]
theorem WL:∀ (t:ca) (L:List bJ) (bx:Az),x7 bx L→L.length+2*t.leaves<2^31 →
  bz d0 61 [jK bx L,kI t] (jk bx) (fun o K=>∃ qA,x7 qA (ca.laid L t)∧o = .ret (.cg [jK qA (ca.laid L t),.int .i64 (L.length:Int)])∧K=jk qA):=by
 have ns:bt=1099511627776:=rfl;intro t
 induction t with
 | leaf ms=>
  intro L bx dj bY;rw [ca.leaves] at bY;refine bz.bn aj Tryz.func61 C C fun s I=>?_
  rw [ca.laid];rcases bx with _|⟨g,cap,cs⟩
  ·have bo:L=[]:=dj
   subst bo;unfold jK jk kI at *;refine fP ?_;refine aa.rH aj I C C C C C C C ef C C C C C C C dE (fun dL f' fM cP c9 eP I=>?_);refine bG ?_;exact Fin.bu I C aM (by simp only [jk];exact a7) ⟨some (dL,f',fM),⟨cP,c9,eP.trans (by simp;rfl)⟩,rfl,rfl⟩
  ·obtain ⟨U,ad,al⟩:=dj
   unfold jK jk kI at *;refine dz ?_;refine aa.sD aj C C C C C C C ?_;refine fP ?_;refine aa.rI aj I C C C C C C C ef C C C C aV U ad C C C C (by show (L.length+1)*48≤_;omega) ag (fun dL f' fM cP c9 eP I=>?_);refine bG ?_;exact Fin.bu I C (aR.of_eq (by simp [ea,jK])) (by simp only [jk];exact a7) ⟨some (dL,f',fM),⟨cP,uc,by rw [x8,d9,i7,ae1,← al];exact eP⟩,rfl,rfl⟩
 | test i a b qG AB=>
  intro L bx dj bY;rw [ca.leaves] at bY;have M0:=a.qF;have eL:=b.qF;have WM:=s4 a (L++[⟨i,0,0,[]⟩]);have xw:=s4 b (ca.laid (L++[⟨i,0,0,[]⟩]) a);have Dc:(L++[(⟨i,0,0,[]⟩:bJ)]).length=L.length+1:=by simp
  rw [Dc] at WM;have oW:(ca.laid (ca.laid (L++[⟨i,0,0,[]⟩]) a) b)[L.length]? = some ⟨i,0,0,[]⟩:=by
   rw [AA b _ _ ag,AA a _ _ ag,ad6 (i0 _),ao5];rfl
  have qG:=fun bx h=>qG (L++[⟨i,0,0,[]⟩]) bx h ag
  have AB:=fun bx h=>AB (ca.laid (L++[⟨i,0,0,[]⟩]) a) bx h ag
  have rK:ca.laid L (.test i a b)=(ca.laid (ca.laid (L++[⟨i,0,0,[]⟩]) a) b).set L.length ⟨i,(L.length:Int)+1,((ca.laid (L++[⟨i,0,0,[]⟩]) a).length:Int),[]⟩:=rfl;rw [rK];obtain ⟨ab6,Dd,yR,va,-,-⟩:=s3 a;obtain ⟨Qg,yY,cw,Hh,-,-⟩:=s3 b;simp only [va] at qG;simp only [Hh] at AB;generalize e7:ca.laid (L++[⟨i,0,0,[]⟩]) a=x3 at *;generalize rL:ca.laid x3 b=fG at *;refine bz.bn aj Tryz.func61 C C fun s I=>?_
  rcases bx with _|⟨g,cap,cs⟩
  ·have bo:L=[]:=dj
   subst bo;unfold jK kI;rw [va,Hh];unfold jk at I ⊢;refine fP ?_;refine aa.mZ 30 (.ay 4 [.agg (hy ⟨i,0,0,[]⟩)] .aZ) C (aR.ay (.one (aR.agg (.cons aM (.cons aM (.cons aM (.one aR.empty))))))) ?_;refine aa.rH aj I C C C C C C C ef C C C C C C C dE (fun dL f' fM cP c9 eP I=>?_);have qG:=qG (some (dL,f',fM)) ⟨cP,c9,eP.trans bc⟩;simp only [jK,Dc] at qG;refine bG ?_;refine aa.bZ C C C C C qG I (by simp only [jk];exact a7) ?_ (fun _ _ ⟨_,_,h,_⟩ _=>by cases h);rintro _ _ ⟨Hi,kv,⟨⟩,rfl⟩ I;rw [d8] at I ⊢;refine hQ ?_;refine aa.bZ rfl rfl rfl rfl rfl (AB Hi kv) I (aH.all _) ?_ (fun _ _ ⟨_,_,h,_⟩ _=>by cases h);rintro _ _ ⟨qH,kp,⟨⟩,rfl⟩ I;rw [d8] at I ⊢;rcases qH with _|⟨g2,wA,WN⟩
   ·have bo:fG=[]:=kp
    rw [bo] at oW;cases oW
   obtain ⟨g1,g3,g4⟩:=kp;have ja:=x6 (k:=1) (v := .int .i64 (((([]:List bJ)).length+1:Nat):Int)) (oM fG) g4 (by rw [ad7,oW];rfl) ag
   have pY:=x6 (k:=2) (v := .int .i64 ((x3.length:Nat):Int)) (fun c aF=>by
    rcases am1 aF with aF|rfl
    ·exact oM fG c aF
    ·rfl) ja.2 (al6 m9) ag
   unfold jk at I ⊢;unfold jK;refine hQ ?_;refine aa.gi aj (([]:List bJ)).length C C C C C C C C C C ag ?_;refine dD ?_;refine aa.lY aj I _ C C C C C C C C C aV (by rw [g1];show (([]:List bJ)).length*4+1+1≤wA*4;omega) C (fun I=>?_);refine aa.gi aj (([]:List bJ)).length C C C C C C C C C C ag ?_;refine dD ?_;refine aa.lY aj I _ C C C C C C C C C aV (by rw [ja.1,g1];show (([]:List bJ)).length*4+2+1≤wA*4;omega) C (fun I=>?_);refine bG ?_;refine Fin.bu I C aM (by simp only [jk];exact a7) ⟨some (g2,wA,_),⟨pY.1.trans (ja.1.trans g1),(by rw [ae0];exact g3),?_⟩,?_,rfl⟩
   ·rw [ae0]
    refine pY.2.trans ?_;rw [au7,an1];rfl
   ·simp only [ae0]
    try rfl
  ·obtain ⟨U,ad,al⟩:=dj
   unfold jK kI;rw [va,Hh];unfold jk at I ⊢;refine dz ?_;refine aa.sD aj C C C C C C C ?_;refine fP ?_;refine aa.mZ 30 (.ay 4 [.agg (hy ⟨i,0,0,[]⟩)] .aZ) C (aR.ay (.one (aR.agg (.cons aM (.cons aM (.cons aM (.one aR.empty))))))) ?_;refine aa.rI aj I C C C C C C C ef C C C C aV U ad C C C C (by show (L.length+1)*48≤_;omega) ag (fun dL f' fM cP c9 eP I=>?_);have qG:=qG (some (dL,f',fM)) ⟨cP,uc,by rw [x8,Dc,← al];exact eP⟩;simp only [jK,Dc] at qG;refine bG ?_;refine aa.bZ C C C C C qG I (by simp only [jk];exact a7) ?_ (fun _ _ ⟨_,_,h,_⟩ _=>by cases h);rintro _ _ ⟨Hi,kv,⟨⟩,rfl⟩ I;rw [d8] at I ⊢;refine hQ ?_;refine aa.bZ rfl rfl rfl rfl rfl (AB Hi kv) I (aH.all _) ?_ (fun _ _ ⟨_,_,h,_⟩ _=>by cases h);rintro _ _ ⟨qH,kp,⟨⟩,rfl⟩ I;rw [d8] at I ⊢;rcases qH with _|⟨g2,wA,WN⟩
   ·have bo:fG=[]:=kp
    rw [bo] at oW;cases oW
   obtain ⟨g1,g3,g4⟩:=kp;have ja:=x6 (k:=1) (v := .int .i64 (((L).length+1:Nat):Int)) (oM fG) g4 (by rw [ad7,oW];rfl) ag
   have pY:=x6 (k:=2) (v := .int .i64 ((x3.length:Nat):Int)) (fun c aF=>by
    rcases am1 aF with aF|rfl
    ·exact oM fG c aF
    ·rfl) ja.2 (al6 m9) ag
   unfold jk at I ⊢;unfold jK;refine hQ ?_;refine aa.gi aj (L).length C C C C C C C C C C ag ?_;refine dD ?_;refine aa.lY aj I _ C C C C C C C C C aV (by rw [g1];show (L).length*4+1+1≤wA*4;omega) C (fun I=>?_);refine aa.gi aj (L).length C C C C C C C C C C ag ?_;refine dD ?_;refine aa.lY aj I _ C C C C C C C C C aV (by rw [ja.1,g1];show (L).length*4+2+1≤wA*4;omega) C (fun I=>?_);refine bG ?_;refine Fin.bu I C aM (by simp only [jk];exact a7) ⟨some (g2,wA,_),⟨pY.1.trans (ja.1.trans g1),(by rw [ae0];exact g3),?_⟩,?_,rfl⟩
   ·rw [ae0]
    refine pY.2.trans ?_;rw [au7,an1];rfl
   ·simp only [ae0]
    try rfl
theorem M1 {α:Type} {f:Nat→α→Bool}:∀ {l:List α} {k j:Nat},nz f k l=some j→k≤j∧j<k+l.length∧∃ x,l[j-k]? = some x∧f j x=true
  | x::r,k,j,h=>by
    rw [nz] at h;split at h
    · rename_i acb aO
      cases h;obtain ⟨U,ad,y,al,bd⟩:=M1 aO;refine ⟨by omega,by rw [i7];omega,y,?_,bd⟩;rw [show j-k=(j-(k+1))+1 by omega];exact al
    · split at h
      · cases h
        rename_i a1;exact ⟨i0 _,by rw [i7];omega,x,by rw [ao5];rfl,a1⟩
      · cases h
theorem s5:∀ (l:List bJ) (i:Nat),(c2 i l).1.length=l.length∧(c2 i l).2.length=l.length
  | [],i=>⟨rfl,rfl⟩
  | x::r,i=>by
    have:=s5 r (i+1);rw [c2];simp only [i7];omega
def WO (n i:Nat) (l:List bJ):Prop:=∀ k,k<l.length →
 ((i:Int)+k≤(c2 i l).1.getD k 0∧(c2 i l).1.getD k 0<n)∧((c2 i l).2.getD k default).atom=(l.getD k default).atom∧((c2 i l).2.getD k default).ms=(l.getD k default).ms ∧
 (((c2 i l).2.getD k default).atom≥0→(i:Int)+k<((c2 i l).2.getD k default).no∧((c2 i l).2.getD k default).no<n∧(i:Int)+k<((c2 i l).2.getD k default).yes∧((c2 i l).2.getD k default).yes<n)
theorem Hj {n:Nat}:∀ (l:List bJ) (i:Nat),i+l.length=n→(∀ (k:Nat) (x:bJ),l[k]? = some x→x.atom≥0→((i+k:Nat):Int)<x.no∧x.no<n∧((i+k:Nat):Int)<x.yes∧x.yes<n)→WO n i l
  | [],_,_,_=>fun k aD=>absurd aD (an4 _)
  | x::r,i,aA,a1=>by
    have aX:=Hj (n:=n) r (i+1) (by rw [i7] at aA;omega) (fun k y ax=>by
      have:=a1 (k+1) y (by simpa using ax)
      rwa [show i+(k+1)=i+1+k by omega] at this)
    have aB:=s5 r (i+1);rw [i7] at aA;have bo:=a1 0 x C;intro k aD;cases k with
    | succ k=>
      have:=aX k (by rw [i7] at aD;omega);rw [c2];simp only [List.getD_cons_succ];obtain ⟨⟨dm,a2⟩,a3,a4,a5⟩:=this;refine ⟨⟨by push_cast at dm ⊢;omega,a2⟩,a3,a4,fun h=>?_⟩;obtain ⟨hU,dL,mU,oN⟩:=a5 h;exact ⟨by push_cast at hU ⊢;omega,dL,by push_cast at mU ⊢;omega,oN⟩
    | zero=>
      have a8:x.atom≥0→(i:Int)<x.no∧x.no<n∧(i:Int)<x.yes∧x.yes<n:=fun h=>bo h
      have jP:∀ m:Int,(i:Int)<m→m<n→(i:Int)<(c2 (i+1) r).1.getD (m.toNat-(i+1)) 0∧(c2 (i+1) r).1.getD (m.toNat-(i+1)) 0<n:=fun m U ad=>by
        have:=(aX (m.toNat-(i+1)) ag).1;omega
      rw [c2];simp only [List.getD_cons_zero];refine ⟨?_,by split<;>rfl,by split<;>rfl,?_⟩
      · split
        · rename_i j aO
          obtain ⟨U,ad,-⟩:=M1 aO;omega
        · omega
      · split
        · rename_i h
          intro _;obtain ⟨hU,dL,mU,oN⟩:=a8 h;have cP:=jP x.no hU dL;have c9:=jP x.yes mU oN;simp only;omega
        · rename_i h
          intro ad;exact absurd ad h
theorem M3 {α:Type} (f:Nat→α→Bool) (x:α):∀ (l:List α) (k:Nat),nz f k (l++[x])=if f (k+l.length) x then some (k+l.length) else nz f k l
  | [],k=>by rw [d7,nz,nz];rfl
  | y::r,k=>by
    have e:k+1+r.length=k+(y::r).length:=by rw [i7];omega
    rw [t8,nz,M3 f x r (k+1),e,nz];by_cases h:f (k+(y::r).length) x=true
    · rw [f9 h,f9 h]
    · rw [f0 h,f0 h]
structure rM (g:List bJ):Prop where
 pos:1≤g.length
 len:g.length≤1000
 ms:∀ x∈g,x.ms.length≤16
 eX:∀ (i:Nat) (x:bJ),g[i]? = some x→x.atom≥0→(i:Int)<x.no∧x.no<g.length∧(i:Int)<x.yes∧x.yes<g.length
def h' (g:List bJ) (m:Nat):List Int:=t6 m 0++(c2 m (g.drop m)).1
def kJ (g:List bJ) (m:Nat):List bJ:=g.take m++(c2 m (g.drop m)).2
theorem De (g:List bJ) {m:Nat} (h:m≤g.length):(h' g m).length=g.length:=by
 unfold h';rw [d9,ad',(s5 _ _).1,ag1];omega
theorem Hk (g:List bJ) {m:Nat} (h:m≤g.length):(kJ g m).length=g.length:=by
 unfold kJ;rw [d9,ac9,(s5 _ _).2,ag1];omega
theorem Df (g:List bJ) (m:Nat) (j:Nat):(h' g m).getD (m+j) 0=(c2 m (g.drop m)).1.getD j 0:=by
 unfold h';rw [d5,d5,ad6 tD,ad',ao']
theorem WQ (g:List bJ) {m:Nat} (h:m≤g.length) (j:Nat):(kJ g m)[m+j]? = (c2 m (g.drop m)).2[j]?:=by
 unfold kJ;rw [ad6 uJ,ac9,ak1 h,ao']
theorem WR (g:List bJ) {m i:Nat} (h:i<m) (hm:m≤g.length):(kJ g m)[i]? = g[i]?:=by
 unfold kJ;rw [ad3 uJ,af',f9 h]
def nV (g:List bJ) (m:Nat) (x:bJ):bJ:=if x.atom≥0 then { x with no:=(h' g (m+1)).getD x.no.toNat 0,yes:=(h' g (m+1)).getD x.yes.toNat 0 } else x
def rN (g:List bJ) (m:Nat) (y:bJ) (j:Nat) (z:bJ):Bool:=(c2 (m+1) (g.drop (m+1))).1.getD j 0==((m+1+j:Nat):Int)&&z==y
theorem M4 {g:List bJ} (au:rM g) {m:Nat} {x:bJ} (ab:g[m]? = some x) :
  c2 m (g.drop m)=((match nz (rN g m (nV g m x)) 0 (c2 (m+1) (g.drop (m+1))).2 with
   | some j=>((m+1+j:Nat):Int)
   | none=>(m:Int))::(c2 (m+1) (g.drop (m+1))).1,nV g m x::(c2 (m+1) (g.drop (m+1))).2):=by
 have az:m<g.length:=(ac1.1 ab).1;have av:g.drop m=x::g.drop (m+1):=by
  rw [ao3 az,(ac1.1 ab).2]
 rw [av,c2];have ax:(if x.atom≥0 then { x with no:=(c2 (m+1) (g.drop (m+1))).1.getD (x.no.toNat-(m+1)) 0,yes:=(c2 (m+1) (g.drop (m+1))).1.getD (x.yes.toNat-(m+1)) 0 } else x)=nV g m x:=by
  unfold nV;split
  ·rename_i h
   have:=au.eX m x ab h;rw [← Df,← Df,show m+1+(x.no.toNat-(m+1))=x.no.toNat by omega,show m+1+(x.yes.toNat-(m+1))=x.yes.toNat by omega]
  ·rfl
 simp only [ax];rfl
theorem WS (x y:bJ):(x==y)=(decide (x.atom=y.atom)&&(decide (x.no=y.no)&&(decide (x.yes=y.yes)&&x.ms==y.ms))):=by
 obtain ⟨a,b,c,d⟩:=x;obtain ⟨c3,aT,nA,cX⟩:=y;rw [ad1];simp
theorem fT {α:Type} {l:List α} {m:Nat} {x:α} (h:l[m]? = some x):l.set m x=l:=by
 apply ao0;intro j;rw [ar'];split
 ·rename_i e
  subst e;have:=(ac1.1 h).1;rw [f9 this,h]
 ·rfl
theorem M5 {g:List bJ} {m:Nat} {k:Int} {r:List Int} {ys:List bJ} (h:c2 m (g.drop m)=(k::r,ys)) (ad:(c2 (m+1) (g.drop (m+1))).1=r):(h' g (m+1)).set m k=h' g m:=by
 unfold h';rw [h,ad,am6,ae6,ai' _ _ tD,ad',ao5];rfl
theorem WT {g:List bJ} {m:Nat} {y:bJ} {r:List bJ} {ks:List Int} (az:m<g.length) (h:c2 m (g.drop m)=(ks,y::r)) (ad:(c2 (m+1) (g.drop (m+1))).2=r):(kJ g (m+1)).set m y=kJ g m:=by
 unfold kJ;rw [h,ad,List.take_add_one,f8 az,ae6,ai' _ _ uJ,ac9,ak1 ag,ao5];rfl
theorem Dg:∀ (l:List bJ) (i k:Nat) (z:bJ),(c2 i l).2[k]? = some z→∃ x∈l,z.ms=x.ms
  | [],i,k,z,h=>by rw [c2] at h;cases h
  | x::r,i,0,z,h=>by
    rw [c2] at h;simp only [List.getElem?_cons_zero,am2.injEq] at h;refine ⟨x,i5,?_⟩;rw [← h];split<;>rfl
  | x::r,i,k+1,z,h=>by
    rw [c2] at h;simp only [List.getElem?_cons_succ] at h;obtain ⟨y,U,ad⟩:=Dg r (i+1) k z h;exact ⟨y,g7 _ U,ad⟩
theorem WU (g:List bJ) (m:Nat) (x:bJ):(nV g m x).ms=x.ms:=by unfold nV;split<;>rfl
def Hl (es:List (af×af)):Prop:=∀ e∈es,∃ n:Int,e.1 = .int .i64 n
theorem Hm {x:Int} {v:af}:∀ {es:List (af×af)},Hl es→∃ dn,k9 es (.int .i64 x) v=some dn∧Hl dn∧∀ y:Int,iJ dn (.int .i64 y)=if y=x then some (some v) else iJ es (.int .i64 y)
  | [],_=>⟨[(.int .i64 x,v)],rfl,fun e he=>by rw [t7.1 he];exact ⟨x,rfl⟩,fun y=>by
    rw [iJ,iJ]
    by_cases h:y=x
    · subst h;simp [jN]
    · have:(y==x)=false:=by rw [beq_eq_false_iff_ne];exact h
      simp only [jN,ae2,this,f0 h];rfl⟩
  | e::r,h=>by
    obtain ⟨n,aA⟩:=h e i5;obtain ⟨k,u⟩:=e;have aA:k = .int .i64 n:=aA;subst aA;by_cases ab:n=x
    · subst ab
      refine ⟨(.int .i64 n,v)::r,by rw [k9];simp [jN],fun e he=>?_,fun y=>?_⟩
      · rcases ad4.1 he with rfl|he
        · exact ⟨n,rfl⟩
        · exact h e (g7 _ he)
      · rw [iJ,iJ]
        by_cases ax:y=n
        · subst ax;simp [jN]
        · have:(y==n)=false:=by rw [beq_eq_false_iff_ne];exact ax
          simp only [jN,ae2,this,f0 ax]
    · obtain ⟨dn,U,ad,al⟩:=Hm (x:=x) (v:=v) (es:=r) fun e he=>h e (g7 _ he)
      have an:(x==n)=false:=by rw [beq_eq_false_iff_ne];exact fun e=>ab e.symm
      refine ⟨(.int .i64 n,u)::dn,by rw [k9];simp only [jN,ae2,an,U],fun e he=>?_,fun y=>?_⟩
      · rcases ad4.1 he with rfl|he
        · exact ⟨n,rfl⟩
        · exact ad e he
      · rw [iJ,iJ,al]
        by_cases ax:y=n
        · subst ax
          simp [jN,ab]
        · have:(y==n)=false:=by rw [beq_eq_false_iff_ne];exact ax
          simp only [jN,ae2,this]
structure pC (num:List (af×af)) (order path:List Int):Prop where
 int:Hl num
 get:∀ x:Int,iJ num (.int .i64 x)=some (if order.contains x then some (.int .i64 (placeOf order x)) else if path.contains x then some (.int .i64 (-1)) else none)
theorem pC.empty:pC [] [] []:=⟨fun _ h=>ng,fun _=>rfl⟩
theorem pC.enter {num:List (af×af)} {order path:List Int} (h:pC num order path) {eX:Int} (U:order.contains eX=false) :
  ∃ ur,k9 num (.int .i64 eX) (.int .i64 (-1))=some ur∧pC ur order (eX::path):=by
 obtain ⟨es,ad,al,bd⟩:=Hm (x:=eX) (v := .int .i64 (-1)) h.int;refine ⟨es,ad,al,fun x=>?_⟩;rw [bd,h.get,ap7];by_cases ab:x=eX
 ·subst ab
  rw [f9 C,U];simp
 ·rw [f0 ab,show (x==eX)=false by rw [beq_eq_false_iff_ne];exact ab,af1]
theorem WV {order:List Int} {eX:Int} (h:order.contains eX=false):placeOf (order++[eX]) eX=(order.length:Int):=by
 unfold placeOf;have:(order++[eX]).findIdx? (· == eX)=some order.length:=by
  rw [aw1];have aA:order.findIdx? (· == eX)=none:=by
   rw [ag8];intro x ab;rw [beq_eq_false_iff_ne];rintro rfl;rw [af8.2 ab] at h;cases h
  rw [aA];simp [List.findIdx?_cons]
 rw [this];rfl
theorem WW {order:List Int} {eX x:Int} (h:order.contains x=true):placeOf (order++[eX]) x=placeOf order x:=by
 unfold placeOf;rw [aw1];cases a1:order.findIdx? (· == x) with
 | some i=>rfl
 | none=>
  rw [ag8] at a1;have:=a1 x (af8.1 h);simp at this
theorem pC.leave {num:List (af×af)} {order path:List Int} {eX:Int} (h:pC num order (eX::path)) (U:order.contains eX=false) :
  ∃ ur,k9 num (.int .i64 eX) (.int .i64 (order.length:Int))=some ur∧pC ur (order++[eX]) path:=by
 obtain ⟨es,ad,al,bd⟩:=Hm (x:=eX) (v := .int .i64 (order.length:Int)) h.int;refine ⟨es,ad,al,fun x=>?_⟩;rw [bd,h.get,al2,ap7,ap7];by_cases ab:x=eX
 ·subst ab
  rw [f9 C,U,WV U];simp
 ·rw [f0 ab,show (x==eX)=false by rw [beq_eq_false_iff_ne];exact ab,af1,af1]
  cases aF:order.contains x with
  | true=>rw [WW aF];simp
  | false=>simp
theorem WX {order:List Int} {x:Int} (h:order.contains x=false):placeOf order x=0:=by
 unfold placeOf;have aA:order.findIdx? (· == x)=none:=by
  rw [ag8];intro y ax;rw [beq_eq_false_iff_ne];rintro rfl;rw [af8.2 ax] at h;cases h
 rw [aA];rfl
theorem M6 (order:List Int) (x:Int):0≤placeOf order x∧placeOf order x≤order.length:=by
 unfold placeOf;cases a1:order.findIdx? (· == x) with
 | none=>exact ⟨by simp,by simp⟩
 | some i=>
  have:=(af2.1 a1).1;simp;omega
structure nW (n:Nat) (order:List Int):Prop where
 nodup:order.Nodup
 lt:∀ x∈order,0≤x∧x<n
theorem nW.len {n:Nat} {order:List Int} (h:nW n order):order.length≤n:=by
 have ad:order ⊆ (af7 n).map (fun i:Nat=>(i:Int)):=fun x ab=>by
  have:=h.lt x ab;exact ad2.2 ⟨x.toNat,ah6.2 ag,by omega⟩
 have:=List.Nodup.length_le_of_subset h.nodup ad;simpa using this
def Down (N:List bJ):Prop:=∀ (i:Nat) (x:bJ),N[i]? = some x→x.atom≥0→(i:Int)<x.no∧x.no<N.length∧(i:Int)<x.yes∧x.yes<N.length
theorem M7 {N:List bJ} {k a:Nat} {order:List Int} {x:bJ} (ab:N[a]? = some x):meet N (k+1) order a=if order.contains (a:Int) then order else (if x.atom≥0 then meet N k (meet N k order x.yes) x.no else order)++[(a:Int)]:=by
 rw [meet];simp only [ac3,d5,ab,ae7]
theorem nW.snoc {n:Nat} {order:List Int} (h:nW n order) {a:Nat} (a8:a<n) (aA:(a:Int)∉order):nW n (order++[(a:Int)]):=⟨by
 rw [am7]
 refine ⟨h.nodup,by simp,fun x ab y ax=>?_⟩
 rw [t7.1 ax]
 rintro rfl
 exact aA ab,fun x ab=>by
 rcases ac7.1 ab with ab|ab
 ·exact h.lt x ab
 ·rw [t7.1 ab];omega⟩
theorem wB {N:List bJ} (e5:Down N):∀ (k a:Nat),a<N.length→N.length-a≤k→∀ order:List Int,nW N.length order→nW N.length (meet N k order a)∧∀ y∈meet N k order a,y∈order∨(a:Int)≤y
  | 0,a,U,ad,_,_=>by omega
  | k+1,a,U,ad,order,ah=>by
    obtain ⟨x,ab⟩:∃ x,N[a]? = some x:=⟨_,f8 U⟩;rw [M7 ab];cases aF:order.contains (a:Int) with
    | true=>rw [f9 C];exact ⟨ah,fun y h => .inl h⟩
    | false=>
      rw [f0 bc];have key:nW N.length (if x.atom≥0 then meet N k (meet N k order x.yes) x.no else order)∧∀ y∈(if x.atom≥0 then meet N k (meet N k order x.yes) x.no else order),y∈order∨(a:Int)<y:=by
        split
        · rename_i a8
          obtain ⟨d1,d2,d3,d4⟩:=e5 a x ab a8;obtain ⟨y,ax⟩:∃ y:Nat,x.yes=y:=⟨x.yes.toNat,by omega⟩;obtain ⟨z,bP⟩:∃ z:Nat,x.no=z:=⟨x.no.toNat,by omega⟩;rw [ax,bP];obtain ⟨rq,b2⟩:=wB e5 k y ag ag order ah;obtain ⟨eJ,x9⟩:=wB e5 k z ag ag _ rq;refine ⟨eJ,fun u hu=>?_⟩;rcases x9 u hu with h|h
          · rcases b2 u h with h|h
            · exact .inl h
            · exact .inr ag
          · exact .inr ag
        · exact ⟨ah,fun y h => .inl h⟩
      obtain ⟨cv,db⟩:=key;refine ⟨cv.snoc U (fun hm=>?_),fun y ax=>?_⟩
      · rcases db _ hm with h|h
        · rw [af8.2 h] at aF;cases aF
        · omega
      · rcases ac7.1 ax with ax|ax
        · exact (db y ax).imp id (fun h=>by omega)
        · rw [t7.1 ax];exact .inr (aj4 _)
end Go.Proofs.YtnafpeohfbglmaaGreat
